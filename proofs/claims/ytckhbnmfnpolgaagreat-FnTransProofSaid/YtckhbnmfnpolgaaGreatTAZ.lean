/- Lemmas towards the law. -/
import Derived.Test.YtckhbnmfnpolgaaGreatTAY
open Go renaming World->aN,Calls->aY,Value->aU,maxLen->aW,bodyPost_ret->aQ,results->aS,heap_alloc_new->aT
open Nat renaming le_succ->aR
open Go.World renaming alloc->aO
open Go.Proofs.Tryz
set_option linter.all false
set_option maxHeartbeats 4000000
set_option maxRecDepth 100000
namespace Go.Proofs.YtckhbnmfnpolgaaGreat
open Go.RowKit
attribute [local go_sem ↓] Go.wp_at_zero Go.wp_at_succ
def j113(k:Int):Int:=if k=5\/k=15\/k=16 then 0 else if k=12 then 1 else if k=9 then 3 else -1
def Bd(t:Tr):Tr×Bool:=match hdQ t with
 |none=>(t,false)
 |some p=>(conA t p,true)
theorem fI{k n:Int}{a:List Tr}(h:rdx k a≠0):Bd (.mk k n a)=(ctrT (.mk k n a),true):=by
 have:hdQ (.mk k n a)=some []:=by unfold hdQ;rw[U4,if_pos h];rfl
 unfold Bd;rw[this];simp only[Wv]
theorem Xp{k n:Int}{a:List Tr}(h:rdx k a=0)(hm:j113 k < 0):Bd (.mk k n a)=(.mk k n a,false):=by
 have hk: ¬(k=5\/k=15\/k=16)/\k≠12/\k≠9:=by
  unfold j113 at hm
  split at hm
  · omega
  · split at hm
    · omega
    · split at hm <;> omega
 have e:U4 (.mk k n a)=([],false):=by rw[U4,if_neg (by simp[h]),if_neg hk.1,if_neg hk.2.2,if_neg hk.2.1]
 have:hdQ (.mk k n a)=none:=by unfold hdQ;rw[e];rfl
 unfold Bd;rw[this]
theorem mG{k n:Int}{a:List Tr}{m:Nat}(h:rdx k a=0)(hm:j113 k=(m:Int))(hl:m < a.length):Bd (.mk k n a)=if(Bd (kd a m)).2=true then(.mk k n (a.set m (Bd (kd a m)).1),true) else(.mk k n a,false):=by
 have e:U4 (.mk k n a)=((m:Int)::(U4 (kd a m)).1,(U4 (kd a m)).2):=by
  rw[U4,if_neg (by simp[h])];unfold j113 at hm;by_cases d:k=5\/k=15\/k=16
  · rw[if_pos d] at hm⊢
    obtain rfl:m=0:=by omega
    rw[Pl hl]
    rfl
  · rw[if_neg d] at hm⊢
    by_cases b:k=9
    · subst b
      obtain rfl:m=3:=by simp at hm;omega
      rw[if_pos rfl,Pl hl]
      rfl
    · rw[if_neg b] at hm⊢
      by_cases c:k=12
      · rw[if_pos c] at hm⊢
        obtain rfl:m=1:=by omega
        rw[Pl hl]
        rfl
      · rw[if_neg c] at hm
        omega
 unfold Bd hdQ;rw[e];simp only;cases f:(U4 (kd a m)).2 with
 |false=> simp
 |true=>
  have:=Xg (kd a m) _ (show U4 (kd a m)=((U4 (kd a m)).1,true) by rw[<-f]);simp only[if_true];rw[cy hl this]
theorem Fq{k n:Int}{a:List Tr}(hv:valid sigT (.mk k n a)=true){m:Nat}(hm:j113 k=(m:Int)):m < a.length:=by
 have b:=(m6 (N4 hv).1).1;have i:S0 5=2:=rfl;have e:S0 15=1:=rfl;have c:S0 16=1:=rfl;have f:S0 12=3:=rfl;have g:S0 9=4:=rfl;have d:S0 k=(a.length:Int):=b;unfold j113 at hm
 split at hm
 · rename_i h
   rcases h with rfl|rfl|rfl <;> omega
 · split at hm
   · rename_i h;subst h;omega
   · split at hm
     · rename_i h;subst h;omega
     · omega
theorem lJ(k:Int)(w:aN):aY prog 172 #[j0 k] w fun e a=> e= .returned (j0 (j113 k))/\Ext w a:=by
 by_cases h:k=5\/k=15\/k=16\/k=12\/k=9
 · rcases h with rfl|rfl|rfl|rfl|rfl
   all_goals
    go_enter func172,ntmps172;go_wp2_with fail;go_ret;exact⟨rfl,xr _⟩
 · simp only[not_or] at h
   have e:j113 k= -1:=by unfold j113;rw[if_neg (by simp[h.1,h.2.1,h.2.2.1]),if_neg h.2.2.2.1,if_neg h.2.2.2.2]
   have t1:(k==5)=false:=beq_eq_false_iff_ne.2 h.1;have t2:(k==15)=false:=beq_eq_false_iff_ne.2 h.2.1;have b:(k==16)=false:=beq_eq_false_iff_ne.2 h.2.2.1;have d:(k==12)=false:=beq_eq_false_iff_ne.2 h.2.2.2.1;have c:(k==9)=false:=beq_eq_false_iff_ne.2 h.2.2.2.2;rw[e];clear e h;go_enter func172,ntmps172;go_wp2_with fail;go_ret;exact⟨rfl,xr _⟩
def WI(t:Tr):Prop:=valid sigT t=true-> ∀(w:aN) (N:Nat->Prop) (v:aU),(∀b,w.heap.size<=b->N b)->InT w N t v->aY prog 130 #[v] w (WE N w (Bd t))
theorem DH: ∀t:Tr,WI t:=Tr.ind fun k n a ih=> by
 intro hv D N v hN Y;obtain⟨R,K⟩: ∃R,Bd (.mk k n a)=R:=⟨_,rfl⟩;rw[K];obtain⟨hsh,D4⟩:=N4 hv;have L:=Y.lies';have O7:=hdq Y;have Gy:=hdq L;have P:=hdq (fun W (hx:Ext D W)=> Ft (.mk k n a) 30 hsh W v (L.ext hx));have mi:J4 (.mk k n a)=rdx k a:=rfl;rw[mi] at P;obtain⟨A,cap,rfl,hl,hc,hK⟩:=InT.mk_iff.1 Y;have hcc:=hc;unfold aW at hcc;have hlc:=Tg a;simp only[cnt] at D4;obtain⟨w1,J⟩: ∃x,x=((D.alloc (D0 k n A a.length cap)).alloc M0):=⟨_,rfl⟩;obtain⟨E,s,s1,B⟩:=box2 J;obtain⟨M,U⟩: ∃M,M=(fun b=> N b/\b≠D.heap.size+1):=⟨_,rfl⟩;have Dd: ∀b,w1.heap.size<=b->M b:=by rw[U];exact Va hN B.size (by omega)
 have Cm:InK w1 M A a:=by rw[U];exact hK.keep B (aR _)
 have O6:=hdq Dd;have xh:=hdq Cm;have HM:=hdq U;clear U Dd Cm hK Y mi;by_cases hr:rdx k a=0
 case neg=>
  have hz:(rdx k a !=0)=true:=by simp[hr]
  have HC:=hdq (fun W (hx:Ext D W)=> rL (.mk k n a) hv (Bx.2 hr) W _ (L.ext hx));rw[<-K,fI hr];generalize rdx k a=q at P hz;generalize ctrT (.mk k n a)=T at HC⊢;clear ih K hv hr L hsh;go_enter func130,ntmps130;go_wp2_with fail;rw[<-J];clear J;refine(P.out _ B).mono ?_;rintro e w2 ⟨rfl,y⟩;have s2:=y.size;have u:=y;have i:=cb3 (u.blk E);have d:=Ca (u.blk s);go_wp2_with fail;clear i d;have H:=B;have C:=H.trans y;refine(HC.out _ C).mono ?_;rintro e w3 ⟨r,rfl,hT,l⟩;have s3:=l.size;have nt:InT w3 M T r:=InT.mono (fun b z=> O6.out b (by have:=u.size;omega)) (fun _ _=> rfl) hT;obtain⟨u1,u2,u3,u4,u5,rfl⟩:=nt.three;have Ib:=hdq nt;clear hT nt;have g:=u.trans l;have i:=cb3 (g.blk E);have d:=Ca (g.blk s);have F:=C.trans l;go_wp2_with fail;refine aQ (v:= .tuple #[m0 u1 u2 u3 u4 u5,.bool true]) (by simp[aS,results130,go_sem,d]) rfl ⟨_,rfl,InT.ret (HM.out▸Ib.out) _ _ _,(F.set3 (by omega) _ _ _)⟩
 have yb:=hdq hr;have Y6:=hdq K;have Jp:=hdq (fun t (ht:t∈a)=> ih t ht (IB hv ht));have ei:=hdq (fun(m:Nat) (h:j113 k=(m:Int))=> Fq hv h);rw[hr] at P;clear ih K hv hr L hsh;go_enter func130,ntmps130;go_wp2_with fail;rw[<-J];clear J;refine(P.out _ B).mono ?_;rintro e w2 ⟨rfl,y⟩;have s2:=y.size;have u:=y;have i:=cb3 (u.blk E);have d:=Ca (u.blk s);go_wp2_with fail;clear i d;refine(lJ k w2).mono ?_;rintro e w3 ⟨rfl,l⟩;have s3:=l.size;obtain⟨m,hm⟩: ∃m,j113 k=m:=⟨_,rfl⟩;rw[hm];by_cases f:m < 0
 case pos=>
  have hd:decide (m < 0)=true:=decide_eq_true f;have Q:=hdq (show R=(.mk k n a,false) from by rw[<-Y6.out];exact Xp yb.out (by rw[hm];exact f));clear hm;have H:=B;have C:=H.trans y;have F:=C.trans l;have g:=u.trans l;have i:=cb3 (g.blk E);have d:=Ca (g.blk s);go_wp2_with fail;rw[Q.out];refine aQ (v:= .tuple #[m0 k n A a.length cap,.bool false]) (by simp[aS,results130,go_sem,d]) rfl ⟨_,rfl,InT.ret (InT.keep O7.out F (show D.heap.size<=D.heap.size+1 from aR _)) _ _ _,(F.set3 (by omega) _ _ _)⟩
 obtain⟨j,rfl⟩:=Int.eq_ofNat_of_zero_le (show 0<=m by omega);have w:=ei.out j hm;have vx:(j:Int) <(a.length:Int):=by omega
 have km:(0:Int)<=(j:Int):=by omega
 have hd:decide ((j:Int) < 0)=false:=decide_eq_false f;have c:=Y6.out.symm.trans (mG (n:=n) yb.out hm w);clear hm f;have g:=u.trans l;obtain⟨b,o,k1,n1,A1,p1,q16,rfl,E7,c0,c1,c2,l1,m1,M6,p6,l8,sr⟩:=(xh.out.later g).get (fun _ _=> rfl) w;have HI:=hdq (Jp.out _ l8 w3 M _ (fun b z=> O6.out b (Nat.le_trans g.size z)) p6);rw[Sr w,E7.out] at c;obtain⟨⟨t',ok⟩,hT⟩: ∃x,Bd (.mk k1 n1 q16)=x:=⟨_,rfl⟩;rw[hT] at HI c;have p:=hdq c;clear hT M6 p6 c;have i:=cb3 (g.blk E);have d:=Ca (g.blk s);go_wp2_with fail;clear i d;refine(HI.out).mono ?_;rintro e G ⟨r,rfl,xz,O⟩;have s4:=O.size;obtain⟨a1,a2,a3,a4,a5,rfl⟩:=xz.three;have xk:=hdq xz;clear xz;cases ok with
 |false=>
  have Q:=hdq (show R=(.mk k n a,false) from p.out.trans (if_neg (by simp)));clear p;have H:=B;have C:=H.trans y;have F:=C.trans l;have V:=F.trans O;have I:=g.trans O;have i:=cb3 (I.blk E);have d:=cbn (I.blk s);have Md:Ext G (G.alloc (D0 a1 a2 a3 a4 a5)):=(xr G).alloc _;have Pr:=cbn (Md.blk (I.blk s));go_wp2_with fail;rw[Q.out];refine aQ (v:= .tuple #[m0 k n (some ⟨b,o,none⟩) a.length cap,.bool false]) (by simp[aS,results130,go_sem,d,Pr]) rfl ⟨_,rfl,InT.ret (InT.keep O7.out (V.trans Md) (show D.heap.size<=D.heap.size+1 from aR _)) _ _ _,((V.trans Md).set3 (by omega) _ _ _)⟩
 |true=>
  have Q:=hdq (show R=(.mk k n (a.set j t'),true) from p.out.trans (if_pos rfl));clear p;have I:=g.trans O;have i:=cb3 (I.blk E);have d:=Ca (I.blk s);obtain⟨S,Z⟩: ∃x,x=G.alloc (D0 a1 a2 a3 a4 a5):=⟨_,rfl⟩;have e5:Ext G S:=Z▸(xr G).alloc _;have gl:=aT G (D0 a1 a2 a3 a4 a5);rw[<-Z] at gl;have s5:G.heap.size < S.heap.size:=D1 gl;go_wp2_with fail;rw[<-Z];clear Z;clear i d;have H:=B;have C:=H.trans y;have F:=C.trans l;have V:=F.trans O;have M4:=V.trans e5;have U3:=e5;refine(qH k n a t' j (fun b=> M b/\b < S.heap.size) S _ _ (Gy.out.ext M4) (fun b z=> z.2) ((xk.out.later U3).bound) w (by simp only[cnt];omega)).mono ?_;rintro e w6 ⟨r,rfl,Ai,X⟩;have s6:=X.size;have F3:=I.trans e5;have uv:InT w6 M (.mk k n (a.set j t')) r:=InT.mono (fun b z=> by
   rcases z with z|z
   · exact z.1
   · exact O6.out b (by have:=F3.size;omega)) (fun _ _=> rfl) Ai
  obtain⟨u1,u2,u3,u4,u5,rfl⟩:=uv.three;have Ih:=hdq uv;clear Ai uv;have cr:=F3.trans X;have i:=cb3 (cr.blk E);have d:=Ca (cr.blk s);have fz:=X;have Zx:=cb3 (fz.blk gl);have fu:=M4.trans X;go_wp2_with fail;rw[Q.out];refine aQ (v:= .tuple #[m0 u1 u2 u3 u4 u5,.bool true]) (by simp[aS,results130,go_sem,d]) rfl ⟨_,rfl,InT.ret (HM.out▸Ih.out) _ _ _,(fu.set3 (by omega) _ _ _)⟩
theorem jG(t:Tr)(F:Nat)(hF:F<=200)(hv:valid sigT t=true)(a:aN)(v:aU)(d6:Lies a t v):
 aY prog 91 #[v,j0 F] a fun e w'=> ∃r,e= .returned (.tuple #[r,j0 (pa F t).2])/\InT w' (fun b=> a.heap.size<=b) (pa F t).1 r/\Ext a w':=by
 obtain⟨R,hR⟩: ∃R,pa F t=R:=⟨_,rfl⟩;rw[hR];obtain⟨k,n,Y⟩:=t;obtain⟨A,cap,rfl,hl,hc,hK⟩:=Lies.mk_iff.1 d6;obtain⟨w1,e9⟩: ∃x,x=((a.alloc (D0 k n A Y.length cap)).alloc M0):=⟨_,rfl⟩;obtain⟨j6,j4,s1,e1⟩:=box2 e9;have Dc:InT w1 (nf a) (.mk k n Y) (m0 k n A Y.length cap):=InT.mono (fun b u=>⟨by have:b < a.heap.size:=u;omega,by have:b < a.heap.size:=u;omega⟩) (fun b u=> e1.heap b u) d6;have HR:=hdq hR;have jk:=hdq hv;clear hR hv d6 hK;go_enter func91,ntmps91;go_wp2_with fail;rw[<-e9];clear e9
 go_loopw [1] (fun i wr=> ∃(j:Nat) (d f:Int) (kids:List Tr) (A':Option Addr) (O:Nat),j<=F/\i= j0 j/\Hid (pa j (.mk d f kids)=R)/\Hid (valid sigT (.mk d f kids)=true)/\kids.length<=O/\O<=aW/\InT wr (nf a) (.mk d f kids) (m0 d f A' kids.length O)/\
  wr.heap[a.heap.size]? =some (D0 d f A' kids.length O)/\wr.heap[a.heap.size+1]? =some M0/\Ext a wr) (fun i _=>(intOf i).toNat)
 case atStart=> exact⟨F,k,n,Y,A,cap,Nat.le_refl _,rfl,HR,jk,hl,hc,Dc,j6,j4,e1⟩
 case round=>
  obtain⟨j,d,f,kids,A',O,hj,rfl,w,HV,I7,I6,hT,D,g,hx⟩:=hrel;have zq:=hdq (show a.heap.size+1 < wr.heap.size from D1 g);have G:=hdq (DH (.mk d f kids) HV.out wr (nf a) _ (fun b u=>⟨by have:=zq.out;omega,by have:=zq.out;omega⟩) hT);have ei:=hdq hT.lies';have D4:=(N4 HV.out).2;have c:Bd (.mk d f kids)=match hdQ (.mk d f kids) with|none=>(.mk d f kids,false) |some p=>(conA (.mk d f kids) p,true):=rfl
  have Z:=cb3 D;clear hT Dc j6 j4 e1 s1;go_wp2_with fail;refine G.out.mono ?_;rintro e E ⟨r,rfl,J8,Q⟩;obtain⟨I,H,J,a4,L,rfl⟩:=J8.three;have K:=hdq J8;obtain⟨w3,l⟩: ∃x,x=E.alloc (D0 I H J a4 L):=⟨_,rfl⟩;have e3:Ext E w3:=l▸(xr E).alloc _;have bx:=aT E (D0 I H J a4 L);rw[<-l] at bx;have E3:=Q.trans e3;obtain⟨q,s⟩: ∃q,hdQ (.mk d f kids)=q:=⟨_,rfl⟩;rw[s] at c;clear J8 Z;cases q with
  |none=>
   simp only at c;rw[c];have T:=hdq ((uA s j).symm.trans w.out);have HC:=hdq (fun W (hW:Ext w3 W)=> Ou (.mk d f kids) W _ (ei.out.ext (E3.trans hW)) (by omega));have Z:=cb3 (Q.blk D);clear c s G w D;go_wp2_with fail;rw[<-l];clear l;refine(HC.out w3 (xr _)).mono ?_;rintro e w4 ⟨u1,u2,u3,u4,u5,z,y,rfl,hT,C,B,hy⟩;have o:=E3.trans C;have xk:=hdq (show InT w4 (fun b=> a.heap.size<=b/\b≠a.heap.size+1) _ _ from InT.mono (fun b u=>⟨by have:=zq.out;have:=E3.size;omega,by have:=zq.out;have:=E3.size;omega⟩) (fun _ _=> rfl) hT);have N:=cbn (o.blk g);clear hT B hy Z HC;go_wp2_with fail;rw[<-T.out];refine aQ (v:= .tuple #[m0 u1 u2 u3 u4 u5,j0 0]) (by simp[aS,results91,go_sem,N]) rfl ⟨_,rfl,InT.ret xk.out _ _ _,(hx.trans o).set3 (by omega) _ _ _⟩
  |some p=>
   simp only at c;rw[c] at G K⊢;by_cases km:j=0
   · subst km
     have T:=hdq ((DF s).symm.trans w.out);have G7:Ext E (E.alloc (D0 I H J a4 L)):=(xr E).alloc _;have N:=cbn (Q.blk g);have Pr:=cbn (G7.blk (Q.blk g));clear c s G w D;go_wp2_with fail;rw[<-T.out];refine aQ (v:= .tuple #[m0 0 0 none 0 0,j0 1]) (by simp[aS,results91,go_sem,N,Pr]) rfl ⟨_,rfl,Z5 _ _ 0 0,(hx.trans (Q.trans G7)).set3 (by omega) _ _ _⟩
   · obtain⟨m,rfl⟩: ∃m,j=m+1:=⟨j - 1,by omega⟩
     have pz:(1:Int)<=((m+1:Nat):Int):=by omega
     have qu:decide (((m+1:Nat):Int) < 1)=false:=decide_eq_false (by omega);have Ak:((m+1:Nat):Int)<=1000:=by omega
     obtain⟨z,B⟩: ∃z,valid sigT (conA (.mk d f kids) p)=z:=⟨_,rfl⟩;have V:=hdq (B▸rj (conA (.mk d f kids) p) w3 _ (K.out.later e3).lies');cases z with
     |false=>
      have T:=hdq ((Tn s B m).symm.trans w.out);clear c s G w D B;go_wp2_with fail;rw[<-l];refine V.out.mono ?_;rintro e w4 ⟨rfl,C⟩;have o:=E3.trans C;have N:=cbn (o.blk g);go_wp2_with fail;rw[<-T.out];refine aQ (v:= .tuple #[m0 0 0 none 0 0,j0 2]) (by simp[aS,results91,go_sem,N]) rfl ⟨_,rfl,Z5 _ _ 0 0,(hx.trans o).set3 (by omega) _ _ _⟩
     |true=>
      have mj:=hdq ((pr s B m).symm.trans w.out);have S:=hdq B;have Cz:((m+1:Nat):Int) - 1=(m:Int):=by omega
      clear c s G w B;generalize conA (.mk d f kids) p=X at mj S V K;obtain⟨k2,n2,y17⟩:=X;obtain⟨A2,c2,P,hl2,hc2,-⟩:=InT.mk_iff.1 K.out;simp only[Value.agg.injEq,Array.mk.injEq,List.cons.injEq,Value.int.injEq,Value.slice.injEq,true_and,and_true] at P;obtain⟨rfl,rfl,rfl,rfl,rfl⟩:=P;go_wp2_with fail;rw[<-l];clear l;refine V.out.mono ?_;rintro e w4 ⟨rfl,C⟩;have o:=E3.trans C;have fl:=o.blk D;have HB:=hdq fl;have Jy:=hdq (o.blk g);have Z:=Ca fl;have U:=e3.trans C;have M:=hdq (fun(x0 x1 x2:aU)=>(show InT (((w4.setCell ⟨a.heap.size,0,none⟩ x0).setCell ⟨a.heap.size,1,none⟩ x1).setCell ⟨a.heap.size,2,none⟩ x2) (nf a) (.mk I H y17) (m0 I H J y17.length L) from InT.ret (InT.mono (fun b u=>⟨u,u.1⟩) (fun _ _=> rfl) (K.out.later U)) x0 x1 x2));have Zx2:=cb3 (C.blk bx);have X4:=hx.trans o;clear D g fl V E3 o U;go_wp2_with fail
      go_roundw
      case rel=> exact⟨m,I,H,y17,J,L,by omega,by(try rw[Cz]);(try go_num),mj,S,hl2,hc2,M.out _ _ _,b6 (b6 (b6 HB.out 0 _) 1 _) 2 _,fe (fe (fe Jy.out (by simp) _) (by simp) _) (by simp) _,X4.set3 (by omega) _ _ _⟩
      case measure=>(simp[intOf];try omega)
theorem fK(a b:Tr)(Hw:valid sigT a=true)(R:valid sigT b=true)(i:aN)(J D:aU)(F:Lies i a J)(K:Lies i b D):
 aY prog 124 #[J,D,j0 200] i fun e w'=> e= .returned (j0 (ge a b 200))/\Ext i w':=by
 have E:ge a b 200=if a=b then 1 else if(P5 200 a).2=0/\(P5 200 b).2=0 then(if(P5 200 a).1=(P5 200 b).1 then 1 else 2) else 3:=by
  unfold ge;rw[Hw,R,if_pos (by decide)]
  rfl
 have zf:=hdq (fun W (n:Ext i W)=> EB a 200 (by omega) Hw W J (F.ext n));have yx:=hdq (fun W (n:Ext i W)=> EB b 200 (by omega) R W D (K.ext n));have Ce:=hdq (fun W (n:Ext i W)=> aL a W b J D (F.ext n) (K.ext n));obtain⟨C,hC⟩: ∃C,ge a b 200=C:=⟨_,rfl⟩;rw[hC] at E⊢;obtain⟨q,k⟩: ∃q,n8 a b=q:=⟨_,rfl⟩;rw[k] at Ce;have Ba:(a=b)↔q=true:=by rw[<-k];exact Sz.symm
 rw[ite_cond_congr (propext Ba)] at E;generalize P5 200 a=X at zf E;generalize P5 200 b=Y at yx E;obtain⟨X,cx⟩:=X;obtain⟨Y,U⟩:=Y;simp only at E;have V:=hdq E;clear hC k Ba E Hw R;obtain⟨k1,n1,tx⟩:=a;obtain⟨k2,n2,R8⟩:=b;obtain⟨A1,c1,rfl,-⟩:=Lies.mk_iff.1 F;obtain⟨A2,c2,rfl,-⟩:=Lies.mk_iff.1 K;clear F K;obtain⟨w1,N⟩: ∃x,x=((i.alloc (D0 k1 n1 A1 tx.length c1)).alloc (D0 k2 n2 A2 R8.length c2)):=⟨_,rfl⟩;obtain⟨w,v,s1,P⟩:=box2 N;go_enter func124,ntmps124;go_wp2_with fail;rw[<-N];clear N;refine(Ce.out w1 P).mono ?_;rintro e w2 ⟨rfl,I⟩;have s2:=I.size;cases q with
 |true=>
  have HR:=hdq (show C=1 from V.out);have j8:=P;have G:=j8.trans I;go_wp2_with fail;go_ret;exact⟨by rw[HR.out];rfl,G⟩
 |false=>
  have T:=hdq (show C=if cx=0/\U=0 then(if X=Y then 1 else 2) else 3 from V.out);clear V;have S:=I;have l:=cb3 (S.blk w);have j:=cb3 (S.blk v);go_wp2_with fail;clear l j;have j8:=P;have G:=j8.trans I;refine(zf.out w2 G).mono ?_;rintro e y ⟨r,rfl,m,O⟩;have s3:=O.size;obtain⟨x1,x2,x3,x4,x5,rfl⟩:=m.three;have HX:=hdq m;clear m;have p:=S.trans O;have l:=cb3 (p.blk w);have j:=cb3 (p.blk v);obtain⟨w4,f⟩: ∃x,x=y.alloc (D0 x1 x2 x3 x4 x5):=⟨_,rfl⟩;have t:Ext y w4:=f▸(xr y).alloc _;have A:=aT y (D0 x1 x2 x3 x4 x5);rw[<-f] at A;have s4:y.heap.size < w4.heap.size:=D1 A;go_wp2_with fail;rw[<-f];clear f;clear l j;have o6:=G.trans O;have H:=o6.trans t;refine(yx.out w4 H).mono ?_;rintro e s ⟨r,rfl,m,c⟩;have s5:=c.size;obtain⟨y1,y2,y3,y4,y5,rfl⟩:=m.three;have HY:=hdq m;clear m;simp only at HX HY⊢;by_cases d:cx=0
  case neg=>
   have t1:(cx !=0)=true:=by simp[d]
   have HR:=hdq (show C=3 from T.out.trans (if_neg (fun h=> d h.1)));clear d;have z:=H.trans c;have B:=p.trans t;have g:=B.trans c;have l:=cb3 (g.blk w);have j:=cb3 (g.blk v);have u:=c;have Q:=cb3 (u.blk A);go_wp2_with fail;go_ret;exact⟨by rw[HR.out];rfl,z.alloc _⟩
  subst d;by_cases hy0:U=0
  case neg=>
   have t1:(U !=0)=true:=by simp[hy0]
   have HR:=hdq (show C=3 from T.out.trans (if_neg (fun h=> hy0 h.2)));clear hy0;have z:=H.trans c;have B:=p.trans t;have g:=B.trans c;have l:=cb3 (g.blk w);have j:=cb3 (g.blk v);have u:=c;have Q:=cb3 (u.blk A);go_wp2_with fail;go_ret;exact⟨by rw[HR.out];rfl,z.alloc _⟩
  subst hy0;obtain⟨q,k⟩: ∃q,n8 X Y=q:=⟨_,rfl⟩;have o:=hdq (show C=if q=true then 1 else 2 from by
   have h:(X=Y)↔q=true:=by rw[<-k];exact Sz.symm
   rw[T.out,if_pos ⟨rfl,rfl⟩,ite_cond_congr (propext h)])
  have B:=p.trans t;have g:=B.trans c;have l:=cb3 (g.blk w);have j:=cb3 (g.blk v);have u:=c;have Q:=cb3 (u.blk A);obtain⟨M,L⟩: ∃x,x=s.alloc (D0 y1 y2 y3 y4 y5):=⟨_,rfl⟩;have Z:Ext s M:=L▸(xr s).alloc _;have Eh:=aT s (D0 y1 y2 y3 y4 y5);rw[<-L] at Eh;have s6:s.heap.size < M.heap.size:=D1 Eh;go_wp2_with fail;rw[<-L];clear L;clear l j Q;have U6:=t;have Hp:=U6.trans c;have Mo:=Hp.trans Z;have fz:=Z;refine(aL X M Y _ _ (HX.out.ext Mo) (HY.out.ext fz)).mono ?_;rintro e w7 ⟨rfl,e7⟩;have s7:=e7.size;rw[k];clear k;have z:=H.trans c;have fu:=z.trans Z;have qa:=fu.trans e7;cases q with
  |true=>
   have HR:=hdq (show C=1 from o.out);go_wp2_with fail;go_ret;exact⟨by rw[HR.out];rfl,qa⟩
  |false=>
   have HR:=hdq (show C=2 from o.out);go_wp2_with fail;go_ret;exact⟨by rw[HR.out];rfl,qa⟩
def Rb(t:Tr):Tr×Int:=if(b8 t 200).2≠0 then(D2,2) else((b8 t 200).1,0)
theorem GH(t:Tr)(a:aN)(v:aU)(F:Lies a t v):
 aY prog 45 #[v] a fun e Q=> ∃r,e= .returned (.tuple #[r,j0 (Rb t).2])/\InT Q (fun b=> a.heap.size<=b) (Rb t).1 r/\Ext a Q:=by
 obtain⟨z,q⟩: ∃z,valid sigT t=z:=⟨_,rfl⟩;have HV:=hdq (fun W (K:Ext a W)=> q▸rj t W v (F.ext K));have E:b8 t 200=if z=true then pa 200 t else(D2,3):=by unfold b8;rw[q];cases z <;> rfl
 have J:=hdq (fun(h:z=true) W (K:Ext a W)=> jG t 200 (by omega) (q.trans h) W v (F.ext K));have d:=hdq (show Rb t=if(b8 t 200).2≠0 then(D2,2) else((b8 t 200).1,0) from rfl);rw[E] at d;obtain⟨R,S⟩: ∃R,Rb t=R:=⟨_,rfl⟩;rw[S] at d⊢;clear S q E;obtain⟨X,U⟩: ∃X,pa 200 t=X:=⟨_,rfl⟩;rw[U] at d J;clear U;obtain⟨X,M⟩:=X;obtain⟨k,n,Z⟩:=t;obtain⟨A,cap,rfl,-⟩:=Lies.mk_iff.1 F;clear F;obtain⟨Y,G⟩: ∃x,x=((a.alloc (D0 k n A Z.length cap)).alloc M0):=⟨_,rfl⟩;obtain⟨u,j,s1,L⟩:=box2 G;go_enter func45,ntmps45;go_wp2_with fail;rw[<-G];clear G;refine(HV.out Y L).mono ?_;rintro e V ⟨rfl,o⟩;have s2:=o.size;cases z with
 |false=>
  have HR:=hdq (show R=(D2,2) from d.out);clear d J;have c:=o;have s:=cb3 (c.blk u);have f:=Ca (c.blk j);have I:=L;have p:=I.trans o;go_wp2_with fail;rw[HR.out];refine aQ (v:= .tuple #[m0 0 0 none 0 0,j0 2]) (by simp[aS,results45,go_sem,f]) rfl ⟨_,rfl,Z5 _ _ 0 0,(p.set3 (by omega) _ _ _)⟩
 |true=>
  have P:=hdq (show R=if M≠0 then(D2,2) else(X,0) from d.out);clear d;have c:=o;have s:=cb3 (c.blk u);have f:=Ca (c.blk j);go_wp2_with fail;clear s f;have I:=L;have p:=I.trans o;refine(J.out (by simp) V p).mono ?_;rintro e i ⟨r,rfl,hT,m⟩;have s3:=m.size;simp only at hT⊢;by_cases hc:M=0
  case neg=>
   have t1:(M !=0)=true:=by simp[hc]
   have HR:=hdq (show R=(D2,2) from P.out.trans (if_pos hc));clear hc;obtain⟨D,C,y,B,w,rfl⟩:=hT.three;have T:=hdq hT;clear hT;have g:=c.trans m;have s:=cb3 (g.blk u);have f:=cbn (g.blk j);have l:Ext i (i.alloc (D0 D C y B w)):=(xr i).alloc _;have N:=p.trans m;have H:=cbn (l.blk (g.blk j));go_wp2_with fail;rw[HR.out];refine aQ (v:= .tuple #[m0 0 0 none 0 0,j0 2]) (by simp[aS,results45,go_sem,f,H]) rfl ⟨_,rfl,Z5 _ _ 0 0,((N.trans l).set3 (by omega) _ _ _)⟩
  subst hc;have HR:=hdq (show R=(X,0) from P.out.trans (if_neg (by simp)));have O:InT i (fun b=> a.heap.size<=b/\b≠a.heap.size+1) X r:=InT.mono (fun b (hb:V.heap.size<=b)=>⟨by omega,by omega⟩) (fun _ _=> rfl) hT;clear hT;obtain⟨D,C,y,B,w,rfl⟩:=O.three;have T:=hdq O;clear O;have g:=c.trans m;have s:=cb3 (g.blk u);have f:=cbn (g.blk j);have l:Ext i (i.alloc (D0 D C y B w)):=(xr i).alloc _;have N:=p.trans m;have H:=cbn (l.blk (g.blk j));go_wp2_with fail;rw[HR.out];refine aQ (v:= .tuple #[m0 D C y B w,j0 0]) (by simp[aS,results45,go_sem,f,H]) rfl ⟨_,rfl,InT.ret (T.out.later l) _ _ _,((N.trans l).set3 (by omega) _ _ _)⟩
theorem IF(a b:Tr)(f:aN)(v y:aU)(w:Lies f a v)(A:Lies f b y):
 aY prog 81 #[v,y] f fun e X=> e= .returned (j0 (W3 a b))/\Ext f X:=by
 obtain⟨F,B⟩: ∃z,valid sigT a=z:=⟨_,rfl⟩;obtain⟨G,c⟩: ∃z,valid sigT b=z:=⟨_,rfl⟩;have il:=hdq (fun W (p:Ext f W)=> B▸rj a W v (w.ext p));have P:=hdq (fun W (p:Ext f W)=> c▸rj b W y (A.ext p));have O:=hdq (fun(h:F=true) (h':G=true) W (p:Ext f W)=> fK a b (B.trans h) (c.trans h') W v y (w.ext p) (A.ext p));have n:=hdq (show W3 a b=if ge a b 200=1 then 0 else if ge a b 200=2 then 1 else 2 from rfl);have H:=hdq (show F=false\/G=false->ge a b 200=0 from by
  intro h;unfold ge;rw[B,c,if_neg];rcases h with rfl|rfl <;> simp)
 obtain⟨C,M⟩: ∃C,W3 a b=C:=⟨_,rfl⟩;obtain⟨D,N⟩: ∃D,ge a b 200=D:=⟨_,rfl⟩;rw[M] at n⊢;rw[N] at n O H;clear M N B c;obtain⟨k1,S,U⟩:=a;obtain⟨Y,T,R8⟩:=b;obtain⟨Z,Q,rfl,-⟩:=Lies.mk_iff.1 w;obtain⟨R,c2,rfl,-⟩:=Lies.mk_iff.1 A;clear w A;obtain⟨V,E⟩: ∃x,x=((f.alloc (D0 k1 S Z U.length Q)).alloc (D0 Y T R R8.length c2)):=⟨_,rfl⟩;obtain⟨o,l,s1,K⟩:=box2 E;go_enter func81,ntmps81;go_wp2_with fail;rw[<-E];clear E;refine(il.out V K).mono ?_;rintro e w2 ⟨rfl,t⟩;have s2:=t.size;cases F with
 |false=>
  have I:=K;have u:=I.trans t;have HR:=hdq (show C=2 from by rw[n.out,H.out (.inl rfl)];rfl);have k:=t;have g:=cb3 (k.blk o);have d:=cb3 (k.blk l);go_wp2_with fail;go_ret;exact⟨by rw[HR.out];rfl,u⟩
 |true=>
  have k:=t;have g:=cb3 (k.blk o);have d:=cb3 (k.blk l);go_wp2_with fail;clear g d;have I:=K;have u:=I.trans t;refine(P.out w2 u).mono ?_;rintro e w3 ⟨rfl,r⟩;have s3:=r.size;cases G with
  |false=>
   have q:=u.trans r;have HR:=hdq (show C=2 from by rw[n.out,H.out (.inr rfl)];rfl);have j:=k.trans r;have g:=cb3 (j.blk o);have d:=cb3 (j.blk l);go_wp2_with fail;go_ret;exact⟨by rw[HR.out];rfl,q⟩
  |true=>
   have j:=k.trans r;have g:=cb3 (j.blk o);have d:=cb3 (j.blk l);go_wp2_with fail;clear g d;have q:=u.trans r;refine(O.out (by simp) (by simp) w3 q).mono ?_;rintro e w4 ⟨rfl,m⟩;have s4:=m.size;by_cases L:D=1
   case pos=>
    subst L;have s:=q.trans m;have HR:=hdq (show C=0 from by rw[n.out];rfl);have i:=j.trans m;have g:=cb3 (i.blk o);have d:=cb3 (i.blk l);go_wp2_with fail;go_ret;exact⟨by rw[HR.out];rfl,s⟩
   have t1:(D==1)=false:=beq_eq_false_iff_ne.2 L;by_cases J:D=2
   case pos=>
    subst J;have s:=q.trans m;have HR:=hdq (show C=1 from by rw[n.out];rfl);have i:=j.trans m;have g:=cb3 (i.blk o);have d:=cb3 (i.blk l);go_wp2_with fail;go_ret;exact⟨by rw[HR.out];rfl,s⟩
   have t2:(D==2)=false:=beq_eq_false_iff_ne.2 J;have s:=q.trans m;have HR:=hdq (show C=2 from by rw[n.out,if_neg L,if_neg J]);have i:=j.trans m;have g:=cb3 (i.blk o);have d:=cb3 (i.blk l);go_wp2_with fail;go_ret;exact⟨by rw[HR.out];rfl,s⟩
def UK(c:aN)(d e:Nat)(A:Option Addr)(G:List Tr)(At:Option Addr)(a:List Tr)(ty:Nat->An):Prop:=
 ∀(W:aN) (N:Nat->Prop),Ext c W->(∀b,W.heap.size<=b->N b)->InK W N A G->InK W N At a-> ∀i:Nat,i < a.length-> ∀r,ty i=some r->
  aY prog 105 #[.int .i64 i,.pointer (some ⟨d,0,none⟩),.pointer (some ⟨e,0,none⟩)] W (n9 N W r)
structure zc (wC w:aN) (N:Nat->Prop) (p1 p2:Nat) (A:Option Addr) (G:List Tr) (At:Option Addr) (ks:List Tr) (ty:Nat->An):Prop where
 hT:UK wC p1 p2 A G At ks ty
 hx:Ext wC w
 hN: ∀b,w.heap.size<=b->N b
 hG:InK w N A G
 hK:InK w N At ks
theorem zc.ext{c w d:aN}{N:Nat->Prop}{a f:Nat}{A:Option Addr}{G:List Tr}{At:Option Addr}{ks:List Tr}{ty:Nat->An}(h:zc c w N a f A G At ks ty)(e:Ext w d):zc c d N a f A G At ks ty:=
 ⟨h.hT,h.hx.trans e,fun b g=> h.hN b (Nat.le_trans e.size g),h.hG.later e,h.hK.later e⟩
theorem zc.keep{i w c:aN}{N:Nat->Prop}{f j:Nat}{A:Option Addr}{G:List Tr}{At:Option Addr}{k:List Tr}{ty:Nat->An}(h:zc i w N f j A G At k ty)(e:Ext w c){g:Nat}(d:w.heap.size<=g)(a:g < c.heap.size):zc i c (fun b=> N b/\b≠g) f j A G At k ty:=
 ⟨h.hT,h.hx.trans e,Va h.hN e.size a,h.hG.keep e d,h.hK.keep e d⟩
def Wa(x:An)(a:Tr):Option Int:=match x with
 |none=> none
 |some (s,c)=> if c=0 then some (W3 s a) else some c
theorem Pv{x y:An}{a:Tr}{r:Tr×Int}(h:E4 x a y=some r): ∃c,Wa x a=some c/\(c=0->y=some r)/\(c≠0->r=(D2,c)):=by
 rcases Yr h with⟨s,rfl,b⟩ |⟨s,c,rfl,b,d⟩
 · refine⟨W3 s a,(show(if(0:Int)=0 then some (W3 s a) else some 0)=_ from if_pos rfl),fun h=> ?_,fun h=> ?_⟩
   · rw[if_pos h] at b;exact b
   · rw[if_neg h] at b;simpa using b.symm
 · exact⟨c,(show(if c=0 then some (W3 s a) else some c)=_ from if_neg b),fun h=> absurd h b,fun _=> d⟩
theorem rv{x:An}{a:Tr}{c:Int}(h:Wa x a=some c):(∃s,x=some (s,0)/\c=W3 s a)\/ ∃s,x=some (s,c)/\c≠0:=by
 unfold Wa at h;cases x with
 |none=> cases h
 |some p=>
  obtain⟨s,d⟩:=p;simp only at h
  split at h
  · rename_i b
    subst b;exact .inl ⟨s,rfl,by simpa using h.symm⟩
  · rename_i b
    simp only[Option.some.injEq] at h;subst h;exact .inr ⟨s,rfl,b⟩
def Og(x:An)(T:Tr):Option Int:=match Q0 x 3 with
 |none=> none
 |some (s,c)=> if c=0 then(if W3 (kd s.kids 0) T=0 then some (S4 (kd s.kids 1) 2).2 else some (W3 (kd s.kids 0) T)) else some c
theorem nI{x y:An}{T:Tr}{r:Tr×Int}(h:Ea x T y=some r): ∃c,Og x T=some c/\(c=0->y=some r)/\(c≠0->r=(D2,c)):=by
 unfold Og;rcases Yr h with⟨s,i,a⟩ |⟨s,c,i,a,b⟩
 · rw[i]
   simp only[if_true]
   split at a
   · rename_i d
     rw[if_pos d];rcases Yr a with⟨f,b,g⟩ |⟨f,j,b,g,k⟩
     · have e:S4 (kd s.kids 1) 2=(f,0):=by simpa using b
       exact⟨0,by rw[e],fun _=> g,fun h=> absurd rfl h⟩
     · have e:S4 (kd s.kids 1) 2=(f,j):=by simpa using b
       exact⟨j,by rw[e],fun h=> absurd h g,fun _=> k⟩
   · rename_i d
     rw[if_neg d];exact⟨_,rfl,fun h=> absurd h d,fun _=> by simpa using a.symm⟩
 · rw[i]
   simp only;rw[if_neg a];exact⟨c,rfl,fun h=> absurd h a,fun _=> b⟩
theorem yd{x y:An}{a:Tr}{r:Tr×Int}(h:E4 x a y=some r): ∃c,Hid (Wa x a=some c)/\Hid (c=0->y=some r)/\Hid (c≠0->r=(D2,c)):=by
 obtain⟨c,e,b,d⟩:=Pv h;exact⟨c,hdq e,hdq b,hdq d⟩
theorem Bs{x y:An}{T:Tr}{r:Tr×Int}(h:Ea x T y=some r): ∃c,Hid (Og x T=some c)/\Hid (c=0->y=some r)/\Hid (c≠0->r=(D2,c)):=by
 obtain⟨c,d,a,b⟩:=nI h;exact⟨c,hdq d,hdq a,hdq b⟩
theorem bF{B:aN}{q x:Nat}{A:Option Addr}{G:List Tr}{At:Option Addr}{j:List Tr}{ty:Nat->An}(k n:Int)(ca ct:Nat)(y:j.length<=ct)(K:ct<=aW)(d:aN)(N:Nat->Prop)(l:zc B d N q x A G At j ty)(i:Nat)(hi:i < j.length)(kind:Int)(r:Tr×Int)(h:Q0 (ty i) kind=some r):aY prog 144 #[.agg #[.slice A G.length ca,j0 k,j0 n,.slice At j.length ct,.func (.func 105) #[] #[O2 q,O2 x]],j0 i,j0 kind] d (n9 N d r):=by
 have D:=hdq hi;clear hi;obtain⟨s,c,v,p,m⟩:=g8 h;clear h;go_enter func144,ntmps144;go_wp2_with fail;generalize b:aO (aO d _) _=z;obtain⟨f,br,S⟩:=Nf b.symm l.hN;have a:=hdq (l.keep f (g:=d.heap.size+1) (aR _) (D1 br));clear l;have F:=hdq (S);have X:=xr z;have Q:=F.out _ X.off;clear S b;refine((a.out.ext X).hT _ _ (a.out.ext X).hx (a.out.ext X).hN (a.out.ext X).hG (a.out.ext X).hK i D.out _ v.out).mono ?_;rintro e E ⟨u,rfl,hT,e⟩;replace X:=X.trans e;replace Q:=F.out _ X.off;obtain⟨_,_,_,_,_,rfl⟩:=hT.three;simp only;obtain⟨H,t⟩ |rfl:=cz c
 · have R:=cbn (X.blk br)
   have C:=fun o=> cbn ((X.alloc o).blk br)
   go_wp2_with fail;exact v9 (by simp[aS,results144,go_sem,R,C]) (m.out H.out) (((f.trans X).alloc _).set3 (aR _) _ _ _) rfl
 have hr:=hdq (Option.some.inj (p.out rfl)).symm;clear v p m;go_wp2_with fail;generalize b:aO E _=I;obtain⟨w,e⟩:=nb b;replace F:=hdq (both (rb F.out (X.trans e)) (both (k8 w (X.ne br)) (hT.up e)));replace X:=X.trans e;replace a:=hdq (a.out.ext X);replace br:=X.blk br;replace f:=f.trans X;replace X:=xr I;replace Q:=F.out _ X.off;clear b w e;clear hT;refine(NE s kind _ _ Q.1.1 _ Q.2.2.lies').mono ?_;rintro e J ⟨u,rfl,hT,e⟩;replace X:=X.trans e;replace Q:=F.out _ X.off;obtain⟨_,_,_,_,_,rfl⟩:=hT.three;have R:=cbn (X.blk br);go_wp2_with fail;exact L7 (by simp[aS,results144,go_sem,R]) (hT) (show r=((S4 s kind).1,(S4 s kind).2) from hr.out) (f.trans X) (aR _) rfl
theorem lD{q:aN}{j m:Nat}{A:Option Addr}{G:List Tr}{At:Option Addr}{b:List Tr}{ty:Nat->An}(k n:Int)(ca ct:Nat)(d:b.length<=ct)(s:ct<=aW)(a:aN)(N:Nat->Prop)(o:zc q a N j m A G At b ty)(i:Nat)(hi:i < b.length)(r:Tr×Int)(h:Q0 (ty i) 2=some r):aY prog 180 #[.agg #[.slice A G.length ca,j0 k,j0 n,.slice At b.length ct,.func (.func 105) #[] #[O2 j,O2 m]],j0 i] a fun e p=> e= .returned (.tuple #[j0 r.1.num,j0 r.2])/\Ext a p:=by
 have H:=hdq h;clear h;have v:=hdq hi;clear hi;obtain⟨⟨C,B,t⟩,c⟩:=r;go_enter func180,ntmps180;go_wp2_with fail;generalize f:aO a _=x;obtain⟨g,l⟩:=nb f;have Q:=Ky g;clear f;refine(bF k n ca ct d s _ _ (o.ext l) i v.out 2 _ H.out).mono ?_;rintro e y ⟨u,rfl,hT,e⟩;obtain⟨z,w,rfl,-⟩:=InT.mk_iff.1 hT;replace Q:=Ky (e.blk g);go_wp2_with fail;go_ret2;exact⟨rfl,(l.trans e).alloc _⟩
theorem GF{I:aN}{x B:Nat}{A:Option Addr}{G:List Tr}{At:Option Addr}{l:List Tr}{ty:Nat->An}(k n:Int)(ca ct:Nat)(C:l.length<=ct)(V:ct<=aW)(f:aN)(N:Nat->Prop)(D:zc I f N x B A G At l ty)(i:Nat)(hi:i < l.length)(a:Tr)(w:aU)(b:InT f N a w)(c:Int)(h:Wa (ty i) a=some c):aY prog 141 #[.agg #[.slice A G.length ca,j0 k,j0 n,.slice At l.length ct,.func (.func 105) #[] #[O2 x,O2 B]],j0 i,w] f fun e E=> e= .returned (j0 c)/\Ext f E:=by
 have H:=hdq h;clear h;have M:=hdq hi;clear hi;have J:=hdq b;obtain⟨z,y,r⟩:=a;obtain⟨U,W,rfl,-⟩:=InT.mk_iff.1 b;clear b;obtain⟨s,d,hs,hd⟩: ∃s d,ty i=some (s,d)/\((d=0/\c=W3 s (.mk z y r))\/(d≠0/\c=d)):=by
  rcases rv H.out with⟨s,q,o⟩ |⟨s,q,o⟩
  · exact⟨s,0,q,.inl ⟨rfl,o⟩⟩
  · exact⟨s,c,q,.inr ⟨o,rfl⟩⟩
 have K:=hdq hs;have m:=hdq hd;clear hs hd H;go_enter func141,ntmps141;go_wp2_with fail;generalize b:aO (aO f _) _=R;obtain⟨v,t,-,g⟩:=box2 b.symm;have Q:=Ky v;have O:=cb3 t;clear b;have j:=D.ext g;refine(j.hT _ _ j.hx j.hN j.hG j.hK i M.out _ K.out).mono ?_;rintro e P ⟨u,rfl,hT,e⟩;obtain⟨_,_,_,_,_,rfl⟩:=hT.three;replace Q:=Ky (e.blk v);replace O:=cb3 (e.blk t);simp only;rcases m.out with⟨rfl,rfl⟩ |⟨L,rfl⟩
 · clear m j
   go_wp2_with fail;generalize b:aO P _=Y;obtain⟨X,p⟩:=nb b;refine(RE s (.mk z y r) _ _ _ (hT.later p).lies' (J.out.lies'.ext ((g.trans e).trans p))).mono ?_;rintro S T ⟨rfl,F⟩;go_wp2_with fail;go_ret;exact⟨rfl,((g.trans e).trans p).trans F⟩
 · have t1:(c !=0)=true:=by simp[L]
   clear m j;go_wp2_with fail;go_ret;exact⟨rfl,(g.trans e).alloc _⟩
theorem tA{v:aN}{r s:Nat}{A:Option Addr}{G:List Tr}{At:Option Addr}{g:List Tr}{ty:Nat->An}(k n:Int)(ca ct:Nat)(j:g.length<=ct)(y:ct<=aW)(f:aN)(N:Nat->Prop)(t:zc v f N r s A G At g ty)(i:Nat)(hi:i < g.length)(a:Tr)(q:aU)(b:InT f N a q)(c d:Int)(h:c=0->Wa (ty i) a=some d)(l:c≠0->d=c):aY prog 145 #[.agg #[.slice A G.length ca,j0 k,j0 n,.slice At g.length ct,.func (.func 105) #[] #[O2 r,O2 s]],j0 i,q,j0 c] f fun e u=> e= .returned (j0 d)/\Ext f u:=by
 have B:=hdq hi;clear hi;have w:=hdq b;obtain⟨I,F,C⟩:=a;obtain⟨E,H,rfl,-⟩:=InT.mk_iff.1 b;clear b;by_cases hc:c=0
 · have x:=hdq (h hc)
   clear h l;subst hc;go_enter func145,ntmps145;go_wp2_with fail;generalize b:aO (aO f _) _=D;obtain⟨p,o,-,m⟩:=box2 b.symm;have Q:=Ky p;have z:=cb3 o;clear b;refine(GF k n ca ct j y _ _ (t.ext m) i B.out _ _ (w.out.later m) d x.out).mono ?_;rintro e J ⟨rfl,e⟩;replace Q:=Ky (e.blk p);replace z:=cb3 (e.blk o);go_wp2_with fail;go_ret;exact⟨rfl,m.trans e⟩
 · obtain rfl:=l hc
   have t1:(d !=0)=true:=by simp[hc]
   clear h l hc;go_enter func145,ntmps145;go_wp2_with fail;go_ret;exact⟨rfl,((xr _).alloc _).alloc _⟩
end Go.Proofs.YtckhbnmfnpolgaaGreat
namespace Go.Proofs.YtckhbnmfnpolgaaGreat
open Go.RowKit
set_option maxHeartbeats 1000000
theorem Zp{k n:Int}{a:List Tr}(h:valid sigT (.mk k n a)=true):S0 k=(a.length:Int):=(m6 (N4 h).1).1
theorem aK{n:Int}{b:List Tr}(h:valid sigT (.mk 9 n b)=true):valid sigT (.mk 5 0 [kd b 0,.mk 7 0 []])=true:=by
 have c:=Zp h;have d:S0 9=4:=rfl;rw[d] at c;obtain⟨e,g⟩:=N4 h;obtain⟨p,z,s,a,rfl⟩: ∃p z s a,b= [p,z,s,a]:=by
  match b,c with
  | [p,z,s,a],_=> exact⟨p,z,s,a,rfl⟩
  | [],h=> simp at h
  | [_],h=> simp at h
  | [_,_],h=> simp at h
  | [_,_,_],h=> simp at h
  |_::_::_::_::_::_,h=> simp at h;omega
 have i:=(m6 e).2.2.2 p (by simp);have j:=nu z;have k:=nu s;have h8:=nu a;simp only[cnt,O1] at g;have f:I0 sigT (.mk 5 0 [p,.mk 7 0 []]) 30=true:=by
  show(true &&(true &&(I0 sigT p (30 - 1)&&(true && true))))=true
  rw[i]
  rfl
 show(I0 sigT (.mk 5 0 [p,.mk 7 0 []]) 30 && decide (cnt (.mk 5 0 [p,.mk 7 0 []])<=400))=true
 rw[f,Bool.true_and,decide_eq_true_eq];simp only[cnt,O1];omega
theorem We(b:Prop){f c:Nat}{G:List Tr}{k n:Int}{ks:List Tr}(hv:valid sigT (.mk k n ks)=true)(hG:G.length<=20)
 (hk: ∀i,i < ks.length->T4 k i=0->Rl b (Sa (O0 f) G k ks i) (Ma (P0 c) G k ks i))
 (J:T4 k 1=1->(∃s,Q0 (Ma (P0 c) G k ks 0) 2=some (s,0))->Rl b (Sa (O0 f) G k ks 1) (Ma (P0 c) G k ks 1))
 (w:k=4->(∃s,Q0 (Ma (P0 c) G k ks 0) 2=some (s,0))-> ∀B,Sa (O0 f) G k ks 1=some (B,0)->Ma (P0 c) G k ks 1=some (B,0)->Rl b (thn (Q0 (O0 f G (kd ks 0)) 2) fun _=> thn (Q0 (O0 f (G++ [kd ks 0]) B) 2) fun _=> some (mkV (.mk 3 0 [kd ks 0,B]))) (thn (some (mkV (.mk 3 0 [kd ks 0,B]))) fun out=> thn (P0 c G out) fun _=> some (out,0)))
 (Q:k=9->(∃s,Q0 (Ma (P0 c) G k ks 0) 3=some (s,0))->b\/valid sigT (Oc (kd ks 0))=true\/rg (Sa (O0 f) G k ks 2))
 (E:k=11-> ∀s,Sa (O0 f) G k ks 0=some (s,0)->Ma (P0 c) G k ks 0=some (s,0)->Rl b (O0 f G s) (P0 c G s))
 (W:k=12-> ∀e,Q0 (Ma (P0 c) G k ks 1) 10=some (e,0)->(∃s,Q0 (Ma (P0 c) G k ks 0) 3=some (s,0))->b\/valid sigT (.mk 5 0 [kd ks 0,kd e.kids 1])=true\/rg (Sa (O0 f) G k ks 2))
 (R:k=14->(∃s,Q0 (Ma (P0 c) G k ks 0) 2=some (s,0))-> ∀s,S4 (kd ks 0) 13=(s,0)->(∃A,Ma (P0 c) G k ks 1=some (A,0)/\W3 A (kd s.kids 0)=0)->b\/valid sigT (X0 (kd ks 1) (kd s.kids 1) 0 0)=true\/rg (Sa (O0 f) G k ks 2)):
 Rl b (O0 (f+1) G (.mk k n ks)) (P0 (c+1) G (.mk k n ks)):=by
 have e:O0 (f+1) G (.mk k n ks)=thn (qf G (O0 f) (Sa (O0 f) G k ks) k n ks) fun s=> some (mkV s):=by
  show(if _ then _ else _)=_
  rw[if_neg];rintro(h|h)
  · rw[hv] at h;cases h
  · omega
 have l:=Zp hv;have j: ∀i,d7 (Sa (O0 f) G k ks i):=fun i=>(Vn f _ _).ite (Vn f _ _)
 rw[e]
 show Rl b _ (Sc G (P0 c G) (Ma (P0 c) G k ks) k n ks)
 unfold qf Sc;simp only[Oq];refine Rl.ite (fun h=> ?_) fun N=> Rl.ite (fun h=> ?_) fun O=> Rl.ite (fun h=> ?_) fun V=> Rl.ite (fun h=> ?_) fun U=> Rl.ite (fun h=> ?_) fun M=> Rl.ite (fun h=> ?_) fun o=> Rl.ite (fun h=> ?_) fun K=> Rl.ite (fun h=> ?_) fun X=> Rl.ite (fun h=> ?_) fun P=> Rl.ite (fun h=> ?_) fun H=> Rl.ite (fun h=> ?_) fun y=> Rl.ite (fun h=> ?_) fun x=> Rl.ite (fun h=> ?_) fun D=> ?_
 · unfold ju Oj
   by_cases g:(G.length:Int)<=n
   · rw[if_pos g,if_pos g,ro (by decide)]
     exact Rl.rfl' _
   · rw[if_neg g,if_neg g]
     exact Rl.rfl' _
 · have L:=(m6 (N4 hv).1).2
   have d:n<=Za k:=L.2.1;subst h;have r:Za 2=3:=rfl;rw[r] at d;by_cases g:n=3
   · rw[if_pos g,if_pos (by omega),ro (by decide)]
     exact Rl.rfl' _
   · rw[if_neg g,if_neg (by omega)]
     exact Rl.ok _ (lw (by have:=L.1;omega) (by omega))
 · exact Rl.ok _ (by decide)
 · exact Rl.ok _ (by decide)
 · subst h
   have d:S0 8=1:=rfl;rw[rm];exact(hk 0 (by omega) rfl).chk _ fun _=> Rl.ok _ (by decide)
 · have d:S0 k=2:=by rcases h with rfl|rfl <;> rfl
   have Y:T4 k 0=0:=by rcases h with rfl|rfl <;> rfl
   have T:T4 k 1=1:=by rcases h with rfl|rfl <;> rfl
   unfold tf;rw[Ee];refine((hk 0 (by omega) Y).frm 2).seq fun s m a=> ?_
   rw[Ee];refine((J T ⟨s,a⟩).frm 2).seq fun q z p=> ?_
   have r:=Sx a;have w:=Sx p;exact Rl.ok _ (lw (by omega) (by omega))
 · subst h
   have d:S0 4=2:=rfl;unfold Wo gr;rw[Ee];refine((hk 0 (by omega) rfl).frm 2).seq fun s m a=> ?_
   rw[Ee];refine(J rfl ⟨s,a⟩).seq fun q z p=> ?_
   rw[Ee];simp only[Ee];exact w rfl ⟨s,a⟩ q z p
 · subst h
   have d:S0 5=2:=rfl;unfold Vm Zl;rw[Ee];refine((hk 0 (by omega) rfl).frm 3).seq fun s m a=> ?_
   rw[rm];exact(hk 1 (by omega) rfl).chk _ fun _=> Rl.rfl' _
 · subst h
   have d:S0 9=4:=rfl;unfold Xn Wm;rw[UE];refine(hk 0 (by omega) rfl).fam _ fun C=> ?_
   rw[rm];refine Rl.has _ (hk 1 (by omega) rfl) (j 1) (.inr (.inl (aK hv))) fun _ _=> ?_
   rw[rm];refine Rl.has _ (hk 2 (by omega) rfl) (j 2) (Q rfl C) fun _ _=> ?_
   rw[rm];exact(hk 3 (by omega) rfl).chk _ fun _=> Rl.rfl' _
 · subst h
   have d:S0 10=3:=rfl;unfold Ve;rw[Ee];refine((hk 0 (by omega) rfl).frm 2).seq fun s m a=> ?_
   rw[rm];refine(hk 1 (by omega) rfl).chk _ fun _=> ?_
   rw[rm];refine(hk 2 (by omega) rfl).chk _ fun _=> ?_
   have r:=Sx a;exact Rl.ok _ (lw (by omega) (by omega))
 · subst h
   have d:S0 11=1:=rfl;unfold ur qn;rw[Ee];refine(hk 0 (by omega) rfl).seq fun s m a=> ?_
   rw[Ee];exact((E rfl s m a).frm 2).seq fun _ _ _=> Rl.rfl' _
 · subst h
   have d:S0 12=3:=rfl;unfold Nq kr;rw[Ee];refine((hk 1 (by omega) rfl).frm 10).seq fun s m a=> ?_
   rw[UE];refine(hk 0 (by omega) rfl).fam _ fun C=> ?_
   rw[rm];exact Rl.has _ (hk 2 (by omega) rfl) (j 2) (W rfl s a C) fun _ _=> Rl.rfl' _
 · subst h
   have d:S0 14=3:=rfl;unfold lo No;rw[Ee];refine((hk 0 (by omega) rfl).frm 2).seq fun s m a=> ?_
   rw[Ee];refine(Rl.rfl' _).seq fun q z p=> ?_
   rw[rm];refine(hk 1 (by omega) rfl).chk _ fun S=> ?_
   rw[rm];refine Rl.has _ (hk 2 (by omega) rfl) (j 2) (R rfl ⟨s,a⟩ q (Option.some.inj p) S) fun _ _=> Rl.ok _ ?_
   exact qd (t:= .mk 14 n ks) hv (by show 0 < ks.length;omega)
 · have d:0 < ks.length:=by
    rcases Nat.eq_zero_or_pos ks.length with g|g
    · exfalso
      rw[g] at l;unfold S0 at l;simp only[N,O,V,U,M,K,X,P,H,y,x,D,if_false] at l;simp only[not_or] at o;simp only[o.1,o.2,if_false] at l
      split at l
      · cases l
      · split at l
        · cases l
        · cases l
    · exact g
   unfold Zk uk;rw[Ee];refine((hk 0 d (by unfold T4;simp only[not_or] at o;simp[o.1,o.2,K])).frm 13).seq fun s m a=> ?_
   by_cases v:k=15
   · rw[if_pos v,if_pos v]
     obtain⟨u,r,w,I⟩:=vf a;obtain⟨-,-,-,hs⟩:=BA w;obtain⟨k',n',F⟩:=s;simp only[Tr.kind] at I;subst I;have h6:=Zp hs;have Z:S0 13=2:=rfl;exact Rl.ok _ (qd hs (by show 0 < F.length;omega))
   · rw[if_neg v,if_neg v]
     exact Rl.rfl' _
end Go.Proofs.YtckhbnmfnpolgaaGreat
namespace Go.Proofs.YtckhbnmfnpolgaaGreat
open Go.RowKit
open M (Hd HR Cv Ty j2 rc a7 O5)
theorem Sj{f:Nat}{G:List M.Tm}{t T B:M.Tm}(hG:y6 G)(h8:G.length<=8)(a:valid sigT (enc t)=true)(b:valid sigT (enc T)=true)(ht:Ty G t B)(lt:j2 G t)(c:Cv B T)(hT:a7 G T):Nb (Ys f (ctxE G) (enc t) (enc T)):=by
 refine(dE hG h8 (by simp[a,b])).thn fun _ _=>(Sk hG hT b).thn fun _ _=> ?_
 refine(Nk f G t B hG a ht lt).chk (fun s e=> ?_) (Nb.ok _);obtain⟨rfl,-⟩:=Wi hG a ht e;exact⟨B,rfl,c⟩

/-
  Lemmas towards the law, 27: SHead, InfB, InfR, MSides.
-/
import Derived.Test.YtckhbnmfnpolgaaGreatBAZ
open Go renaming World->aK,Calls->aV,Value->aS,maxLen->aU,bodyPost_ret->aO,results->aQ,heap_alloc_new->aR
open Nat renaming le_succ->aP
open Go.World renaming alloc->aN
open Go.Proofs.Tryz
set_option linter.unusedVariables false
set_option maxHeartbeats 4000000
set_option maxRecDepth 100000
namespace Go.Proofs.YtckhbnmfnpolgaaGreat
open Go.RowKit
attribute [local go_sem ↓] Go.wp_at_zero Go.wp_at_succ
def q110(k:Int):Int:=if k=5\/k=15\/k=16 then 0 else if k=12 then 1 else if k=9 then 3 else -1
def Ic(t:Tr):Tr×Bool:=match hdQ t with
 |none=>(t,false)
 |some p=>(conA t p,true)
theorem EI{k n:Int}{a:List Tr}(h:rdx k a≠0):Ic (.mk k n a)=(ctrT (.mk k n a),true):=by
 have:hdQ (.mk k n a)=some []:=by unfold hdQ;rw[p4,if_pos h];rfl
 unfold Ic;rw[this];simp only[jt]
theorem Pp{k n:Int}{a:List Tr}(h:rdx k a=0)(hm:q110 k < 0):Ic (.mk k n a)=(.mk k n a,false):=by
 have hk: ¬(k=5\/k=15\/k=16)/\k≠12/\k≠9:=by
  unfold q110 at hm
  split at hm
  · omega
  · split at hm
    · omega
    · split at hm <;> omega
 have e:p4 (.mk k n a)=([],false):=by rw[p4,if_neg (by simp[h]),if_neg hk.1,if_neg hk.2.2,if_neg hk.2.1]
 have:hdQ (.mk k n a)=none:=by unfold hdQ;rw[e];rfl
 unfold Ic;rw[this]
theorem pF{k n:Int}{a:List Tr}{m:Nat}(h:rdx k a=0)(hm:q110 k=(m:Int))(hl:m < a.length):Ic (.mk k n a)=if(Ic (kd a m)).2=true then(.mk k n (a.set m (Ic (kd a m)).1),true) else(.mk k n a,false):=by
 have e:p4 (.mk k n a)=((m:Int)::(p4 (kd a m)).1,(p4 (kd a m)).2):=by
  rw[p4,if_neg (by simp[h])];unfold q110 at hm;by_cases b:k=5\/k=15\/k=16
  · rw[if_pos b] at hm⊢
    obtain rfl:m=0:=by omega
    rw[Fk hl]
    rfl
  · rw[if_neg b] at hm⊢
    by_cases c:k=9
    · subst c
      obtain rfl:m=3:=by simp at hm;omega
      rw[if_pos rfl,Fk hl]
      rfl
    · rw[if_neg c] at hm⊢
      by_cases d:k=12
      · rw[if_pos d] at hm⊢
        obtain rfl:m=1:=by omega
        rw[Fk hl]
        rfl
      · rw[if_neg d] at hm
        omega
 unfold Ic hdQ;rw[e];simp only;cases f:(p4 (kd a m)).2 with
 |false=> simp
 |true=>
  have:=Bf (kd a m) _ (show p4 (kd a m)=((p4 (kd a m)).1,true) by rw[<-f]);simp only[if_true];rw[pu hl this]
theorem Om{k n:Int}{a:List Tr}(hv:j0 m0 (.mk k n a)=true){m:Nat}(hm:q110 k=(m:Int)):m < a.length:=by
 have b:=(Z4 (Z3 hv).1).1;have e:O0 5=2:=rfl;have g:O0 15=1:=rfl;have d:O0 16=1:=rfl;have i:O0 12=3:=rfl;have f:O0 9=4:=rfl;have c:O0 k=(a.length:Int):=b;unfold q110 at hm
 split at hm
 · rename_i h
   rcases h with rfl|rfl|rfl <;> omega
 · split at hm
   · rename_i h;subst h;omega
   · split at hm
     · rename_i h;subst h;omega
     · omega
theorem ZG(k:Int)(w:aK):aV prog 172 #[.int .i64 k] w fun e a=> e= .returned (.int .i64 (q110 k))/\Ext w a:=by
 by_cases h:k=5\/k=15\/k=16\/k=12\/k=9
 · rcases h with rfl|rfl|rfl|rfl|rfl
   all_goals
    go_enter func172,ntmps172;go_wp2_with fail;go_ret;exact⟨rfl,xr _⟩
 · simp only[not_or] at h
   have e:q110 k= -1:=by unfold q110;rw[if_neg (by simp[h.1,h.2.1,h.2.2.1]),if_neg h.2.2.2.1,if_neg h.2.2.2.2]
   have t1:(k==5)=false:=beq_eq_false_iff_ne.2 h.1;have t2:(k==15)=false:=beq_eq_false_iff_ne.2 h.2.1;have c:(k==16)=false:=beq_eq_false_iff_ne.2 h.2.2.1;have b:(k==12)=false:=beq_eq_false_iff_ne.2 h.2.2.2.1;have d:(k==9)=false:=beq_eq_false_iff_ne.2 h.2.2.2.2;rw[e];clear e h;go_enter func172,ntmps172;go_wp2_with fail;go_ret;exact⟨rfl,xr _⟩
def bG(t:Tr):Prop:=j0 m0 t=true-> ∀(w:aK) (N:Nat->Prop) (v:aS),(∀b,w.heap.size<=b->N b)->InT w N t v->aV prog 130 #[v] w (fA N w (Ic t))
theorem WD: ∀t:Tr,bG t:=Tr.ind fun k n a ih=> by
 intro hv D N v hN X;obtain⟨R,J⟩: ∃R,Ic (.mk k n a)=R:=⟨_,rfl⟩;rw[J];obtain⟨hsh,C7⟩:=Z3 hv;have K:=X.lies';have N5:=hdq X;have Iu:=hdq K;have L:=hdq (fun W (hx:Ext D W)=> mq (.mk k n a) 30 hsh W v (K.ext hx));have lx:U3 (.mk k n a)=rdx k a:=rfl;rw[lx] at L;obtain⟨A,cap,rfl,hl,hc,hK⟩:=InT.mk_iff.1 X;have hcc:=hc;unfold aU at hcc;have hlc:=kf a;simp only[cnt] at C7;obtain⟨w1,P⟩: ∃x,x=((D.alloc (.cells #[.int .i64 k,.int .i64 n,.slice A a.length cap] 25)).alloc (.cells #[.int .i64 0,.int .i64 0,.slice none 0 0] 25)):=⟨_,rfl⟩;obtain⟨C,s,s1,E⟩:=box2 P;obtain⟨M,V⟩: ∃M,M=(fun b=> N b/\b≠D.heap.size+1):=⟨_,rfl⟩;have yt: ∀b,w1.heap.size<=b->M b:=by rw[V];exact Oa hN E.size (by omega)
 have Bd:InK w1 M A a:=by rw[V];exact hK.keep E (aP _)
 have P5:=hdq yt;have vh:=hdq Bd;have HM:=hdq V;clear V yt Bd hK X lx;by_cases hr:rdx k a=0
 case neg=>
  have hz:(rdx k a !=0)=true:=by simp[hr]
  have HC:=hdq (fun W (hx:Ext D W)=> YI (.mk k n a) hv (zv.2 hr) W _ (K.ext hx));rw[<-J,EI hr];generalize rdx k a=q at L hz;generalize ctrT (.mk k n a)=T at HC⊢;clear ih J hv hr K hsh;go_enter func130,ntmps130;go_wp2_with fail;rw[<-P];clear P;refine(L.out _ E).mono ?_;rintro e w2 ⟨rfl,z⟩;have s2:=z.size;have p:=z;have i:=cb3 (p.blk C);have d:=Z9 (p.blk s);go_wp2_with fail;clear i d;have I:=E;have G:=I.trans z;refine(HC.out _ G).mono ?_;rintro e w3 ⟨r,rfl,hT,l⟩;have s3:=l.size;have ko:InT w3 M T r:=InT.mono (fun b y=> P5.out b (by have:=p.size;omega)) (fun _ _=> rfl) hT;obtain⟨u1,u2,u3,u4,u5,rfl⟩:=ko.three;have Kb:=hdq ko;clear hT ko;have g:=p.trans l;have i:=cb3 (g.blk C);have d:=Z9 (g.blk s);have F:=G.trans l;go_wp2_with fail;refine aO (v:= .tuple #[.agg #[.int .i64 u1,.int .i64 u2,.slice u3 u4 u5],.bool true]) (by simp[aQ,results130,go_sem,d]) rfl ⟨_,rfl,InT.ret (HM.out▸Kb.out) _ _ _,(F.set3 (by omega) _ _ _)⟩
 have ve:=hdq hr;have U8:=hdq J;have Kf:=hdq (fun t (ht:t∈a)=> ih t ht (iy hv ht));have Y5:=hdq (fun(m:Nat) (h:q110 k=(m:Int))=> Om hv h);rw[hr] at L;clear ih J hv hr K hsh;go_enter func130,ntmps130;go_wp2_with fail;rw[<-P];clear P;refine(L.out _ E).mono ?_;rintro e w2 ⟨rfl,z⟩;have s2:=z.size;have p:=z;have i:=cb3 (p.blk C);have d:=Z9 (p.blk s);go_wp2_with fail;clear i d;refine(ZG k w2).mono ?_;rintro e w3 ⟨rfl,l⟩;have s3:=l.size;obtain⟨m,hm⟩: ∃m,q110 k=m:=⟨_,rfl⟩;rw[hm];by_cases f:m < 0
 case pos=>
  have hd:decide (m < 0)=true:=decide_eq_true f;have Q:=hdq (show R=(.mk k n a,false) from by rw[<-U8.out];exact Pp ve.out (by rw[hm];exact f));clear hm;have I:=E;have G:=I.trans z;have F:=G.trans l;have g:=p.trans l;have i:=cb3 (g.blk C);have d:=Z9 (g.blk s);go_wp2_with fail;rw[Q.out];refine aO (v:= .tuple #[.agg #[.int .i64 k,.int .i64 n,.slice A a.length cap],.bool false]) (by simp[aQ,results130,go_sem,d]) rfl ⟨_,rfl,InT.ret (InT.keep N5.out F (show D.heap.size<=D.heap.size+1 from aP _)) _ _ _,(F.set3 (by omega) _ _ _)⟩
 obtain⟨j,rfl⟩:=Int.eq_ofNat_of_zero_le (show 0<=m by omega);have w:=Y5.out j hm;have uv:(j:Int) <(a.length:Int):=by omega
 have jc:(0:Int)<=(j:Int):=by omega
 have hd:decide ((j:Int) < 0)=false:=decide_eq_false f;have c:=U8.out.symm.trans (pF (n:=n) ve.out hm w);clear hm f;have g:=p.trans l;obtain⟨b,o,k1,n1,A1,p1,j15,rfl,D6,c0,c1,c2,l1,m1,K9,p5,j9,qm⟩:=(vh.out.later g).get (fun _ _=> rfl) w;have HI:=hdq (Kf.out _ j9 w3 M _ (fun b y=> P5.out b (Nat.le_trans g.size y)) p5);rw[Jn w,D6.out] at c;obtain⟨⟨t',ok⟩,hT⟩: ∃x,Ic (.mk k1 n1 j15)=x:=⟨_,rfl⟩;rw[hT] at HI c;have u:=hdq c;clear hT K9 p5 c;have i:=cb3 (g.blk C);have d:=Z9 (g.blk s);go_wp2_with fail;clear i d;refine(HI.out).mono ?_;rintro e B ⟨r,rfl,tq,O⟩;have s4:=O.size;obtain⟨a1,a2,a3,a4,a5,rfl⟩:=tq.three;have rh:=hdq tq;clear tq;cases ok with
 |false=>
  have Q:=hdq (show R=(.mk k n a,false) from u.out.trans (if_neg (by simp)));clear u;have I:=E;have G:=I.trans z;have F:=G.trans l;have S:=F.trans O;have H:=g.trans O;have i:=cb3 (H.blk C);have d:=cbn (H.blk s);have Jw:Ext B (B.alloc (.cells #[.int .i64 a1,.int .i64 a2,.slice a3 a4 a5] 25)):=(xr B).alloc _;have Pr:=cbn (Jw.blk (H.blk s));go_wp2_with fail;rw[Q.out];refine aO (v:= .tuple #[.agg #[.int .i64 k,.int .i64 n,.slice (some ⟨b,o,none⟩) a.length cap],.bool false]) (by simp[aQ,results130,go_sem,d,Pr]) rfl ⟨_,rfl,InT.ret (InT.keep N5.out (S.trans Jw) (show D.heap.size<=D.heap.size+1 from aP _)) _ _ _,((S.trans Jw).set3 (by omega) _ _ _)⟩
 |true=>
  have Q:=hdq (show R=(.mk k n (a.set j t'),true) from u.out.trans (if_pos rfl));clear u;have H:=g.trans O;have i:=cb3 (H.blk C);have d:=Z9 (H.blk s);obtain⟨Y,Z⟩: ∃x,x=B.alloc (.cells #[.int .i64 a1,.int .i64 a2,.slice a3 a4 a5] 25):=⟨_,rfl⟩;have e5:Ext B Y:=Z▸(xr B).alloc _;have dh:=aR B (.cells #[.int .i64 a1,.int .i64 a2,.slice a3 a4 a5] 25);rw[<-Z] at dh;have s5:B.heap.size < Y.heap.size:=O1 dh;go_wp2_with fail;rw[<-Z];clear Z;clear i d;have I:=E;have G:=I.trans z;have F:=G.trans l;have S:=F.trans O;have J7:=S.trans e5;have S8:=e5;refine(zG k n a t' j (fun b=> M b/\b < Y.heap.size) Y _ _ (Iu.out.ext J7) (fun b y=> y.2) ((rh.out.later S8).bound) w (by simp only[cnt];omega)).mono ?_;rintro e w6 ⟨r,rfl,Bu,U⟩;have s6:=U.size;have E0:=H.trans e5;have qx:InT w6 M (.mk k n (a.set j t')) r:=InT.mono (fun b y=> by
   rcases y with y|y
   · exact y.1
   · exact P5.out b (by have:=E0.size;omega)) (fun _ _=> rfl) Bu
  obtain⟨u1,u2,u3,u4,u5,rfl⟩:=qx.three;have Jx:=hdq qx;clear Bu qx;have ar:=E0.trans U;have i:=cb3 (ar.blk C);have d:=Z9 (ar.blk s);have cr:=U;have Zx:=cb3 (cr.blk dh);have eh:=J7.trans U;go_wp2_with fail;rw[Q.out];refine aO (v:= .tuple #[.agg #[.int .i64 u1,.int .i64 u2,.slice u3 u4 u5],.bool true]) (by simp[aQ,results130,go_sem,d]) rfl ⟨_,rfl,InT.ret (HM.out▸Jx.out) _ _ _,(eh.set3 (by omega) _ _ _)⟩
theorem PH(t:Tr)(F:Nat)(hF:F<=200)(hv:j0 m0 t=true)(a:aK)(v:aS)(b8:Lies a t v):
 aV prog 91 #[v,.int .i64 F] a fun e w'=> ∃r,e= .returned (.tuple #[r,.int .i64 (p9 F t).2])/\InT w' (fun b=> a.heap.size<=b) (p9 F t).1 r/\Ext a w':=by
 obtain⟨R,hR⟩: ∃R,p9 F t=R:=⟨_,rfl⟩;rw[hR];obtain⟨k,n,V⟩:=t;obtain⟨A,cap,rfl,hl,hc,hK⟩:=Lies.mk_iff.1 b8;obtain⟨w1,d9⟩: ∃x,x=((a.alloc (.cells #[.int .i64 k,.int .i64 n,.slice A V.length cap] 25)).alloc (.cells #[.int .i64 0,.int .i64 0,.slice none 0 0] 25)):=⟨_,rfl⟩;obtain⟨j6,i7,s1,e1⟩:=box2 d9;have Bw:InT w1 (pe a) (.mk k n V) (.agg #[.int .i64 k,.int .i64 n,.slice A V.length cap]):=InT.mono (fun b u=>⟨by have:b < a.heap.size:=u;omega,by have:b < a.heap.size:=u;omega⟩) (fun b u=> e1.heap b u) b8;have HR:=hdq hR;have gf:=hdq hv;clear hR hv b8 hK;go_enter func91,ntmps91;go_wp2_with fail;rw[<-d9];clear d9
 go_loopw [1] (fun i wr=> ∃(j:Nat) (f d:Int) (kids:List Tr) (A':Option Addr) (P:Nat),j<=F/\i= .int .i64 j/\Hid (p9 j (.mk f d kids)=R)/\Hid (j0 m0 (.mk f d kids)=true)/\kids.length<=P/\P<=aU/\InT wr (pe a) (.mk f d kids) (.agg #[.int .i64 f,.int .i64 d,.slice A' kids.length P])/\
  wr.heap[a.heap.size]? =some (.cells #[.int .i64 f,.int .i64 d,.slice A' kids.length P] 25 (0,0))/\wr.heap[a.heap.size+1]? =some (.cells #[.int .i64 0,.int .i64 0,.slice none 0 0] 25 (0,0))/\Ext a wr) (fun i _=>(intOf i).toNat)
 case atStart=> exact⟨F,k,n,V,A,cap,Nat.le_refl _,rfl,HR,gf,hl,hc,Bw,j6,i7,e1⟩
 case round=>
  obtain⟨j,f,d,kids,A',P,hj,rfl,B,HV,G7,G0,hT,D,l,hx⟩:=hrel;have wz:=hdq (show a.heap.size+1 < wr.heap.size from O1 l);have H:=hdq (WD (.mk f d kids) HV.out wr (pe a) _ (fun b u=>⟨by have:=wz.out;omega,by have:=wz.out;omega⟩) hT);have Y5:=hdq hT.lies';have C7:=(Z3 HV.out).2;have c:Ic (.mk f d kids)=match hdQ (.mk f d kids) with|none=>(.mk f d kids,false) |some p=>(conA (.mk f d kids) p,true):=rfl
  have Zt:=cb3 D;clear hT Bw j6 i7 e1 s1;go_wp2_with fail;refine H.out.mono ?_;rintro e C ⟨r,rfl,J0,T⟩;obtain⟨I,G,M,a4,L,rfl⟩:=J0.three;have J:=hdq J0;obtain⟨w3,g⟩: ∃x,x=C.alloc (.cells #[.int .i64 I,.int .i64 G,.slice M a4 L] 25):=⟨_,rfl⟩;have e3:Ext C w3:=g▸(xr C).alloc _;have bx:=aR C (.cells #[.int .i64 I,.int .i64 G,.slice M a4 L] 25);rw[<-g] at bx;have E3:=T.trans e3;obtain⟨q,s⟩: ∃q,hdQ (.mk f d kids)=q:=⟨_,rfl⟩;rw[s] at c;clear J0 Zt;cases q with
  |none=>
   simp only at c;rw[c];have U:=hdq ((ew s j).symm.trans B.out);have HC:=hdq (fun W (hW:Ext w3 W)=> pq (.mk f d kids) W _ (Y5.out.ext (E3.trans hW)) (by omega));have Zt:=cb3 (T.blk D);clear c s H B D;go_wp2_with fail;rw[<-g];clear g;refine(HC.out w3 (xr _)).mono ?_;rintro e Y ⟨u1,u2,u3,u4,u5,z,y,rfl,hT,E,w,hy⟩;have o:=E3.trans E;have rh:=hdq (show InT Y (fun b=> a.heap.size<=b/\b≠a.heap.size+1) _ _ from InT.mono (fun b u=>⟨by have:=wz.out;have:=E3.size;omega,by have:=wz.out;have:=E3.size;omega⟩) (fun _ _=> rfl) hT);have S:=cbn (o.blk l);clear hT w hy Zt HC;go_wp2_with fail;rw[<-U.out];refine aO (v:= .tuple #[.agg #[.int .i64 u1,.int .i64 u2,.slice u3 u4 u5],.int .i64 0]) (by simp[aQ,results91,go_sem,S]) rfl ⟨_,rfl,InT.ret rh.out _ _ _,(hx.trans o).set3 (by omega) _ _ _⟩
  |some p=>
   simp only at c;rw[c] at H J⊢;by_cases jc:j=0
   · subst jc
     have U:=hdq ((pD s).symm.trans B.out);have I7:Ext C (C.alloc (.cells #[.int .i64 I,.int .i64 G,.slice M a4 L] 25)):=(xr C).alloc _;have S:=cbn (T.blk l);have Pr:=cbn (I7.blk (T.blk l));clear c s H B D;go_wp2_with fail;rw[<-U.out];refine aO (v:= .tuple #[.agg #[.int .i64 0,.int .i64 0,.slice none 0 0],.int .i64 1]) (by simp[aQ,results91,go_sem,S,Pr]) rfl ⟨_,rfl,F5 _ _ 0 0,(hx.trans (T.trans I7)).set3 (by omega) _ _ _⟩
   · obtain⟨m,rfl⟩: ∃m,j=m+1:=⟨j - 1,by omega⟩
     have od:(1:Int)<=((m+1:Nat):Int):=by omega
     have oy:decide (((m+1:Nat):Int) < 1)=false:=decide_eq_false (by omega);have zu:((m+1:Nat):Int)<=1000:=by omega
     obtain⟨z,w⟩: ∃z,j0 m0 (conA (.mk f d kids) p)=z:=⟨_,rfl⟩;have Z:=hdq (w▸oi (conA (.mk f d kids) p) w3 _ (J.out.later e3).lies');cases z with
     |false=>
      have U:=hdq ((Vo s w m).symm.trans B.out);clear c s H B D w;go_wp2_with fail;rw[<-g];refine Z.out.mono ?_;rintro e Y ⟨rfl,E⟩;have o:=E3.trans E;have S:=cbn (o.blk l);go_wp2_with fail;rw[<-U.out];refine aO (v:= .tuple #[.agg #[.int .i64 0,.int .i64 0,.slice none 0 0],.int .i64 2]) (by simp[aQ,results91,go_sem,S]) rfl ⟨_,rfl,F5 _ _ 0 0,(hx.trans o).set3 (by omega) _ _ _⟩
     |true=>
      have kz:=hdq ((Yp s w m).symm.trans B.out);have O:=hdq w;have yi:((m+1:Nat):Int) - 1=(m:Int):=by omega
      clear c s H B w;generalize conA (.mk f d kids) p=X at kz O Z J;obtain⟨k2,n2,q17⟩:=X;obtain⟨A2,c2,Q,hl2,hc2,-⟩:=InT.mk_iff.1 J.out;simp only[Value.agg.injEq,Array.mk.injEq,List.cons.injEq,Value.int.injEq,Value.slice.injEq,true_and,and_true] at Q;obtain⟨rfl,rfl,rfl,rfl,rfl⟩:=Q;go_wp2_with fail;rw[<-g];clear g;refine Z.out.mono ?_;rintro e Y ⟨rfl,E⟩;have o:=E3.trans E;have bv:=o.blk D;have HB:=hdq bv;have Ie:=hdq (o.blk l);have Zt:=Z9 bv;have K:=e3.trans E;have N:=hdq (fun(x0 x1 x2:aS)=>(show InT (((Y.setCell ⟨a.heap.size,0,none⟩ x0).setCell ⟨a.heap.size,1,none⟩ x1).setCell ⟨a.heap.size,2,none⟩ x2) (pe a) (.mk I G q17) (.agg #[.int .i64 I,.int .i64 G,.slice M q17.length L]) from InT.ret (InT.mono (fun b u=>⟨u,u.1⟩) (fun _ _=> rfl) (J.out.later K)) x0 x1 x2));have Zx2:=cb3 (E.blk bx);have X4:=hx.trans o;clear D l bv Z E3 o K;go_wp2_with fail
      go_roundw
      case rel=> exact⟨m,I,G,q17,M,L,by omega,by(try rw[yi]);(try go_num),kz,O,hl2,hc2,N.out _ _ _,M6 (M6 (M6 HB.out 0 _) 1 _) 2 _,bd (bd (bd Ie.out (by simp) _) (by simp) _) (by simp) _,X4.set3 (by omega) _ _ _⟩
      case measure=>(simp[intOf];try omega)
theorem tG(a b:Tr)(Ix:j0 m0 a=true)(O:j0 m0 b=true)(i:aK)(D H:aS)(G:Lies i a D)(I:Lies i b H):
 aV prog 124 #[D,H,.int .i64 200] i fun e w'=> e= .returned (.int .i64 (Sc a b 200))/\Ext i w':=by
 have E:Sc a b 200=if a=b then 1 else if(T4 200 a).2=0/\(T4 200 b).2=0 then(if(T4 200 a).1=(T4 200 b).1 then 1 else 2) else 3:=by
  unfold Sc;rw[Ix,O,if_pos (by decide)]
  rfl
 have xd:=hdq (fun W (n:Ext i W)=> Nz a 200 (by omega) Ix W D (G.ext n));have xe:=hdq (fun W (n:Ext i W)=> Nz b 200 (by omega) O W H (I.ext n));have Ah:=hdq (fun W (n:Ext i W)=> dJ a W b D H (G.ext n) (I.ext n));obtain⟨C,hC⟩: ∃C,Sc a b 200=C:=⟨_,rfl⟩;rw[hC] at E⊢;obtain⟨q,m⟩: ∃q,L7 a b=q:=⟨_,rfl⟩;rw[m] at Ah;have zt:(a=b)↔q=true:=by rw[<-m];exact Xv.symm
 rw[ite_cond_congr (propext zt)] at E;generalize T4 200 a=X at xd E;generalize T4 200 b=Y at xe E;obtain⟨X,cx⟩:=X;obtain⟨Y,Q⟩:=Y;simp only at E;have Z:=hdq E;clear hC m zt E Ix O;obtain⟨k1,n1,qd⟩:=a;obtain⟨k2,n2,Q6⟩:=b;obtain⟨A1,c1,rfl,-⟩:=Lies.mk_iff.1 G;obtain⟨A2,c2,rfl,-⟩:=Lies.mk_iff.1 I;clear G I;obtain⟨w1,d9⟩: ∃x,x=((i.alloc (.cells #[.int .i64 k1,.int .i64 n1,.slice A1 qd.length c1] 25)).alloc (.cells #[.int .i64 k2,.int .i64 n2,.slice A2 Q6.length c2] 25)):=⟨_,rfl⟩;obtain⟨t,u,s1,U⟩:=box2 d9;go_enter func124,ntmps124;go_wp2_with fail;rw[<-d9];clear d9;refine(Ah.out w1 U).mono ?_;rintro e w2 ⟨rfl,J⟩;have s2:=J.size;cases q with
 |true=>
  have HR:=hdq (show C=1 from Z.out);have S:=U;have L:=S.trans J;go_wp2_with fail;go_ret;exact⟨by rw[HR.out];rfl,L⟩
 |false=>
  have ix:=hdq (show C=if cx=0/\Q=0 then(if X=Y then 1 else 2) else 3 from Z.out);clear Z;have M:=J;have j:=cb3 (M.blk t);have l:=cb3 (M.blk u);go_wp2_with fail;clear j l;have S:=U;have L:=S.trans J;refine(xd.out w2 L).mono ?_;rintro e y ⟨r,rfl,k,V⟩;have s3:=V.size;obtain⟨x1,x2,x3,x4,x5,rfl⟩:=k.three;have HX:=hdq k;clear k;have o:=M.trans V;have j:=cb3 (o.blk t);have l:=cb3 (o.blk u);obtain⟨P,f⟩: ∃x,x=y.alloc (.cells #[.int .i64 x1,.int .i64 x2,.slice x3 x4 x5] 25):=⟨_,rfl⟩;have v:Ext y P:=f▸(xr y).alloc _;have w:=aR y (.cells #[.int .i64 x1,.int .i64 x2,.slice x3 x4 x5] 25);rw[<-f] at w;have s4:y.heap.size < P.heap.size:=O1 w;go_wp2_with fail;rw[<-f];clear f;clear j l;have l9:=L.trans V;have F:=l9.trans v;refine(xe.out P F).mono ?_;rintro e z ⟨r,rfl,k,c⟩;have s5:=c.size;obtain⟨y1,y2,y3,y4,y5,rfl⟩:=k.three;have HY:=hdq k;clear k;simp only at HX HY⊢;by_cases d:cx=0
  case neg=>
   have t1:(cx !=0)=true:=by simp[d]
   have HR:=hdq (show C=3 from ix.out.trans (if_neg (fun h=> d h.1)));clear d;have B:=F.trans c;have p:=o.trans v;have g:=p.trans c;have j:=cb3 (g.blk t);have l:=cb3 (g.blk u);have A:=c;have T:=cb3 (A.blk w);go_wp2_with fail;go_ret;exact⟨by rw[HR.out];rfl,B.alloc _⟩
  subst d;by_cases hy0:Q=0
  case neg=>
   have t1:(Q !=0)=true:=by simp[hy0]
   have HR:=hdq (show C=3 from ix.out.trans (if_neg (fun h=> hy0 h.2)));clear hy0;have B:=F.trans c;have p:=o.trans v;have g:=p.trans c;have j:=cb3 (g.blk t);have l:=cb3 (g.blk u);have A:=c;have T:=cb3 (A.blk w);go_wp2_with fail;go_ret;exact⟨by rw[HR.out];rfl,B.alloc _⟩
  subst hy0;obtain⟨q,m⟩: ∃q,L7 X Y=q:=⟨_,rfl⟩;have s:=hdq (show C=if q=true then 1 else 2 from by
   have h:(X=Y)↔q=true:=by rw[<-m];exact Xv.symm
   rw[ix.out,if_pos ⟨rfl,rfl⟩,ite_cond_congr (propext h)])
  have p:=o.trans v;have g:=p.trans c;have j:=cb3 (g.blk t);have l:=cb3 (g.blk u);have A:=c;have T:=cb3 (A.blk w);obtain⟨R,K⟩: ∃x,x=z.alloc (.cells #[.int .i64 y1,.int .i64 y2,.slice y3 y4 y5] 25):=⟨_,rfl⟩;have N:Ext z R:=K▸(xr z).alloc _;have Av:=aR z (.cells #[.int .i64 y1,.int .i64 y2,.slice y3 y4 y5] 25);rw[<-K] at Av;have s6:z.heap.size < R.heap.size:=O1 Av;go_wp2_with fail;rw[<-K];clear K;clear j l T;have S7:=v;have Gi:=S7.trans c;have Kc:=Gi.trans N;have cr:=N;refine(dJ X R Y _ _ (HX.out.ext Kc) (HY.out.ext cr)).mono ?_;rintro e w7 ⟨rfl,e7⟩;have s7:=e7.size;rw[m];clear m;have B:=F.trans c;have eh:=B.trans N;have ou:=eh.trans e7;cases q with
  |true=>
   have HR:=hdq (show C=1 from s.out);go_wp2_with fail;go_ret;exact⟨by rw[HR.out];rfl,ou⟩
  |false=>
   have HR:=hdq (show C=2 from s.out);go_wp2_with fail;go_ret;exact⟨by rw[HR.out];rfl,ou⟩
def Sa(t:Tr):Tr×Int:=if(d7 t 200).2≠0 then(E2,2) else((d7 t 200).1,0)
theorem uF(t:Tr)(a:aK)(v:aS)(C:Lies a t v):
 aV prog 45 #[v] a fun e V=> ∃r,e= .returned (.tuple #[r,.int .i64 (Sa t).2])/\InT V (fun b=> a.heap.size<=b) (Sa t).1 r/\Ext a V:=by
 obtain⟨z,q⟩: ∃z,j0 m0 t=z:=⟨_,rfl⟩;have Z:=hdq (fun W (K:Ext a W)=> q▸oi t W v (C.ext K));have E:d7 t 200=if z=true then p9 200 t else(E2,3):=by unfold d7;rw[q];cases z <;> rfl
 have L:=hdq (fun(h:z=true) W (K:Ext a W)=> PH t 200 (by omega) (q.trans h) W v (C.ext K));have d:=hdq (show Sa t=if(d7 t 200).2≠0 then(E2,2) else((d7 t 200).1,0) from rfl);rw[E] at d;obtain⟨R,P⟩: ∃R,Sa t=R:=⟨_,rfl⟩;rw[P] at d⊢;clear P q E;obtain⟨X,U⟩: ∃X,p9 200 t=X:=⟨_,rfl⟩;rw[U] at d L;clear U;obtain⟨X,J⟩:=X;obtain⟨k,n,ks⟩:=t;obtain⟨A,cap,rfl,-⟩:=Lies.mk_iff.1 C;clear C;obtain⟨Y,M⟩: ∃x,x=((a.alloc (.cells #[.int .i64 k,.int .i64 n,.slice A ks.length cap] 25)).alloc (.cells #[.int .i64 0,.int .i64 0,.slice none 0 0] 25)):=⟨_,rfl⟩;obtain⟨F,l,s1,N⟩:=box2 M;go_enter func45,ntmps45;go_wp2_with fail;rw[<-M];clear M;refine(Z.out Y N).mono ?_;rintro e T ⟨rfl,o⟩;have s2:=o.size;cases z with
 |false=>
  have HR:=hdq (show R=(E2,2) from d.out);clear d L;have g:=o;have u:=cb3 (g.blk F);have f:=Z9 (g.blk l);have I:=N;have m:=I.trans o;go_wp2_with fail;rw[HR.out];refine aO (v:= .tuple #[.agg #[.int .i64 0,.int .i64 0,.slice none 0 0],.int .i64 2]) (by simp[aQ,results45,go_sem,f]) rfl ⟨_,rfl,F5 _ _ 0 0,(m.set3 (by omega) _ _ _)⟩
 |true=>
  have S:=hdq (show R=if J≠0 then(E2,2) else(X,0) from d.out);clear d;have g:=o;have u:=cb3 (g.blk F);have f:=Z9 (g.blk l);go_wp2_with fail;clear u f;have I:=N;have m:=I.trans o;refine(L.out (by simp) T m).mono ?_;rintro e i ⟨r,rfl,hT,p⟩;have s3:=p.size;simp only at hT⊢;by_cases hc:J=0
  case neg=>
   have t1:(J !=0)=true:=by simp[hc]
   have HR:=hdq (show R=(E2,2) from S.out.trans (if_pos hc));clear hc;obtain⟨s,y,w,B,D,rfl⟩:=hT.three;have Q:=hdq hT;clear hT;have c:=g.trans p;have u:=cb3 (c.blk F);have f:=cbn (c.blk l);have j:Ext i (i.alloc (.cells #[.int .i64 s,.int .i64 y,.slice w B D] 25)):=(xr i).alloc _;have H:=m.trans p;have O:=cbn (j.blk (c.blk l));go_wp2_with fail;rw[HR.out];refine aO (v:= .tuple #[.agg #[.int .i64 0,.int .i64 0,.slice none 0 0],.int .i64 2]) (by simp[aQ,results45,go_sem,f,O]) rfl ⟨_,rfl,F5 _ _ 0 0,((H.trans j).set3 (by omega) _ _ _)⟩
  subst hc;have HR:=hdq (show R=(X,0) from S.out.trans (if_neg (by simp)));have G:InT i (fun b=> a.heap.size<=b/\b≠a.heap.size+1) X r:=InT.mono (fun b (hb:T.heap.size<=b)=>⟨by omega,by omega⟩) (fun _ _=> rfl) hT;clear hT;obtain⟨s,y,w,B,D,rfl⟩:=G.three;have Q:=hdq G;clear G;have c:=g.trans p;have u:=cb3 (c.blk F);have f:=cbn (c.blk l);have j:Ext i (i.alloc (.cells #[.int .i64 s,.int .i64 y,.slice w B D] 25)):=(xr i).alloc _;have H:=m.trans p;have O:=cbn (j.blk (c.blk l));go_wp2_with fail;rw[HR.out];refine aO (v:= .tuple #[.agg #[.int .i64 s,.int .i64 y,.slice w B D],.int .i64 0]) (by simp[aQ,results45,go_sem,f,O]) rfl ⟨_,rfl,InT.ret (Q.out.later j) _ _ _,((H.trans j).set3 (by omega) _ _ _)⟩
theorem Oy(a b:Tr)(i:aK)(v B:aS)(y:Lies i a v)(A:Lies i b B):
 aV prog 81 #[v,B] i fun e w'=> e= .returned (.int .i64 (V3 a b))/\Ext i w':=by
 obtain⟨K,w⟩: ∃z,j0 m0 a=z:=⟨_,rfl⟩;obtain⟨G,c⟩: ∃z,j0 m0 b=z:=⟨_,rfl⟩;have fj:=hdq (fun W (q:Ext i W)=> w▸oi a W v (y.ext q));have P:=hdq (fun W (q:Ext i W)=> c▸oi b W B (A.ext q));have N:=hdq (fun(h:K=true) (h':G=true) W (q:Ext i W)=> tG a b (w.trans h) (c.trans h') W v B (y.ext q) (A.ext q));have l:=hdq (show V3 a b=if Sc a b 200=1 then 0 else if Sc a b 200=2 then 1 else 2 from rfl);have H:=hdq (show K=false\/G=false->Sc a b 200=0 from by
  intro h;unfold Sc;rw[w,c,if_neg];rcases h with rfl|rfl <;> simp)
 obtain⟨C,O⟩: ∃C,V3 a b=C:=⟨_,rfl⟩;obtain⟨D,M⟩: ∃D,Sc a b 200=D:=⟨_,rfl⟩;rw[O] at l⊢;rw[M] at l N H;clear O M w c;obtain⟨V,S,Y⟩:=a;obtain⟨T,U,Q6⟩:=b;obtain⟨A1,R,rfl,-⟩:=Lies.mk_iff.1 y;obtain⟨Q,c2,rfl,-⟩:=Lies.mk_iff.1 A;clear y A;obtain⟨w1,I⟩: ∃x,x=((i.alloc (.cells #[.int .i64 V,.int .i64 S,.slice A1 Y.length R] 25)).alloc (.cells #[.int .i64 T,.int .i64 U,.slice Q Q6.length c2] 25)):=⟨_,rfl⟩;obtain⟨k,o,s1,L⟩:=box2 I;go_enter func81,ntmps81;go_wp2_with fail;rw[<-I];clear I;refine(fj.out w1 L).mono ?_;rintro e X ⟨rfl,t⟩;have s2:=t.size;cases K with
 |false=>
  have F:=L;have r:=F.trans t;have HR:=hdq (show C=2 from by rw[l.out,H.out (.inl rfl)];rfl);have m:=t;have d:=cb3 (m.blk k);have j:=cb3 (m.blk o);go_wp2_with fail;go_ret;exact⟨by rw[HR.out];rfl,r⟩
 |true=>
  have m:=t;have d:=cb3 (m.blk k);have j:=cb3 (m.blk o);go_wp2_with fail;clear d j;have F:=L;have r:=F.trans t;refine(P.out X r).mono ?_;rintro e Z ⟨rfl,u⟩;have s3:=u.size;cases G with
  |false=>
   have p:=r.trans u;have HR:=hdq (show C=2 from by rw[l.out,H.out (.inr rfl)];rfl);have f:=m.trans u;have d:=cb3 (f.blk k);have j:=cb3 (f.blk o);go_wp2_with fail;go_ret;exact⟨by rw[HR.out];rfl,p⟩
  |true=>
   have f:=m.trans u;have d:=cb3 (f.blk k);have j:=cb3 (f.blk o);go_wp2_with fail;clear d j;have p:=r.trans u;refine(N.out (by simp) (by simp) Z p).mono ?_;rintro e w4 ⟨rfl,n⟩;have s4:=n.size;by_cases E:D=1
   case pos=>
    subst E;have s:=p.trans n;have HR:=hdq (show C=0 from by rw[l.out];rfl);have g:=f.trans n;have d:=cb3 (g.blk k);have j:=cb3 (g.blk o);go_wp2_with fail;go_ret;exact⟨by rw[HR.out];rfl,s⟩
   have t1:(D==1)=false:=beq_eq_false_iff_ne.2 E;by_cases J:D=2
   case pos=>
    subst J;have s:=p.trans n;have HR:=hdq (show C=1 from by rw[l.out];rfl);have g:=f.trans n;have d:=cb3 (g.blk k);have j:=cb3 (g.blk o);go_wp2_with fail;go_ret;exact⟨by rw[HR.out];rfl,s⟩
   have t2:(D==2)=false:=beq_eq_false_iff_ne.2 J;have s:=p.trans n;have HR:=hdq (show C=2 from by rw[l.out,if_neg E,if_neg J]);have g:=f.trans n;have d:=cb3 (g.blk k);have j:=cb3 (g.blk o);go_wp2_with fail;go_ret;exact⟨by rw[HR.out];rfl,s⟩
def VI(c:aK)(d e:Nat)(A:Option Addr)(G:List Tr)(At:Option Addr)(a:List Tr)(ty:Nat->An):Prop:=
 ∀(W:aK) (N:Nat->Prop),Ext c W->(∀b,W.heap.size<=b->N b)->InK W N A G->InK W N At a-> ∀i:Nat,i < a.length-> ∀r,ty i=some r->
  aV prog 105 #[.int .i64 i,.pointer (some ⟨d,0,none⟩),.pointer (some ⟨e,0,none⟩)] W (N9 N W r)
structure Rb (wC w:aK) (N:Nat->Prop) (p1 p2:Nat) (A:Option Addr) (G:List Tr) (At:Option Addr) (ks:List Tr) (ty:Nat->An):Prop where
 hT:VI wC p1 p2 A G At ks ty
 hx:Ext wC w
 hN: ∀b,w.heap.size<=b->N b
 hG:InK w N A G
 hK:InK w N At ks
theorem Rb.ext{a w c:aK}{N:Nat->Prop}{d f:Nat}{A:Option Addr}{G:List Tr}{At:Option Addr}{ks:List Tr}{ty:Nat->An}(h:Rb a w N d f A G At ks ty)(e:Ext w c):Rb a c N d f A G At ks ty:=
 ⟨h.hT,h.hx.trans e,fun b g=> h.hN b (Nat.le_trans e.size g),h.hG.later e,h.hK.later e⟩
theorem Rb.keep{f w a:aK}{N:Nat->Prop}{i k:Nat}{A:Option Addr}{G:List Tr}{At:Option Addr}{j:List Tr}{ty:Nat->An}(h:Rb f w N i k A G At j ty)(e:Ext w a){g:Nat}(d:w.heap.size<=g)(c:g < a.heap.size):Rb f a (fun b=> N b/\b≠g) i k A G At j ty:=
 ⟨h.hT,h.hx.trans e,Oa h.hN e.size c,h.hG.keep e d,h.hK.keep e d⟩
def Ba(x:An)(a:Tr):Option Int:=match x with
 |none=> none
 |some (s,c)=> if c=0 then some (V3 s a) else some c
theorem ku{x y:An}{a:Tr}{r:Tr×Int}(h:P3 x a y=some r): ∃c,Ba x a=some c/\(c=0->y=some r)/\(c≠0->r=(E2,c)):=by
 rcases Vp h with⟨s,rfl,b⟩ |⟨s,c,rfl,b,d⟩
 · refine⟨V3 s a,(show(if(0:Int)=0 then some (V3 s a) else some 0)=_ from if_pos rfl),fun h=> ?_,fun h=> ?_⟩
   · rw[if_pos h] at b;exact b
   · rw[if_neg h] at b;simpa using b.symm
 · exact⟨c,(show(if c=0 then some (V3 s a) else some c)=_ from if_neg b),fun h=> absurd h b,fun _=> d⟩
theorem Ys{x:An}{a:Tr}{c:Int}(h:Ba x a=some c):(∃s,x=some (s,0)/\c=V3 s a)\/ ∃s,x=some (s,c)/\c≠0:=by
 unfold Ba at h;cases x with
 |none=> cases h
 |some p=>
  obtain⟨s,d⟩:=p;simp only at h
  split at h
  · rename_i b
    subst b;exact .inl ⟨s,rfl,by simpa using h.symm⟩
  · rename_i b
    simp only[Option.some.injEq] at h;subst h;exact .inr ⟨s,rfl,b⟩
def af(x:An)(T:Tr):Option Int:=match V0 x 3 with
 |none=> none
 |some (s,c)=> if c=0 then(if V3 (kd s.kids 0) T=0 then some (d4 (kd s.kids 1) 2).2 else some (V3 (kd s.kids 0) T)) else some c
theorem XF{x y:An}{T:Tr}{r:Tr×Int}(h:da x T y=some r): ∃c,af x T=some c/\(c=0->y=some r)/\(c≠0->r=(E2,c)):=by
 unfold af;rcases Vp h with⟨s,g,a⟩ |⟨s,c,g,a,b⟩
 · rw[g]
   simp only[if_true]
   split at a
   · rename_i d
     rw[if_pos d];rcases Vp a with⟨i,b,f⟩ |⟨i,j,b,f,k⟩
     · have e:d4 (kd s.kids 1) 2=(i,0):=by simpa using b
       exact⟨0,by rw[e],fun _=> f,fun h=> absurd rfl h⟩
     · have e:d4 (kd s.kids 1) 2=(i,j):=by simpa using b
       exact⟨j,by rw[e],fun h=> absurd h f,fun _=> k⟩
   · rename_i d
     rw[if_neg d];exact⟨_,rfl,fun h=> absurd h d,fun _=> by simpa using a.symm⟩
 · rw[g]
   simp only;rw[if_neg a];exact⟨c,rfl,fun h=> absurd h a,fun _=> b⟩
theorem Mc{x y:An}{a:Tr}{r:Tr×Int}(h:P3 x a y=some r): ∃c,Hid (Ba x a=some c)/\Hid (c=0->y=some r)/\Hid (c≠0->r=(E2,c)):=by
 obtain⟨c,b,d,e⟩:=ku h;exact⟨c,hdq b,hdq d,hdq e⟩
theorem Ll{x y:An}{T:Tr}{r:Tr×Int}(h:da x T y=some r): ∃c,Hid (af x T=some c)/\Hid (c=0->y=some r)/\Hid (c≠0->r=(E2,c)):=by
 obtain⟨c,a,b,d⟩:=XF h;exact⟨c,hdq a,hdq b,hdq d⟩
theorem Bx{z:aK}{v m:Nat}{A:Option Addr}{G:List Tr}{At:Option Addr}{j:List Tr}{ty:Nat->An}(k n:Int)(ca ct:Nat)(B:j.length<=ct)(J:ct<=aU)(b:aK)(N:Nat->Prop)(l:Rb z b N v m A G At j ty)(i:Nat)(hi:i < j.length)(kind:Int)(r:Tr×Int)(h:V0 (ty i) kind=some r):aV prog 144 #[.agg #[.slice A G.length ca,.int .i64 k,.int .i64 n,.slice At j.length ct,.func (.func 105) #[] #[.pointer (some ⟨v,0,none⟩),.pointer (some ⟨m,0,none⟩)]],.int .i64 i,.int .i64 kind] b (N9 N b r):=by
 have y:=hdq hi;clear hi;obtain⟨s,c,p,q,w⟩:=k8 h;clear h;go_enter func144,ntmps144;go_wp2_with fail;generalize f:aN (aN b _) _=I;obtain⟨d,br,S⟩:=Ue f.symm l.hN;have a:=hdq (l.keep d (g:=b.heap.size+1) (aP _) (O1 br));clear l;have F:=hdq (S);have X:=xr I;have Q:=F.out _ X.off;clear S f;refine((a.out.ext X).hT _ _ (a.out.ext X).hx (a.out.ext X).hN (a.out.ext X).hG (a.out.ext X).hK i y.out _ p.out).mono ?_;rintro e E ⟨u,rfl,hT,e⟩;replace X:=X.trans e;replace Q:=F.out _ X.off;obtain⟨_,_,_,_,_,rfl⟩:=hT.three;simp only;obtain⟨D,t⟩ |rfl:=cz c
 · have R:=cbn (X.blk br)
   have C:=fun o=> cbn ((X.alloc o).blk br)
   go_wp2_with fail;exact ya (by simp[aQ,results144,go_sem,R,C]) (w.out D.out) (((d.trans X).alloc _).set3 (aP _) _ _ _) rfl
 have hr:=hdq (Option.some.inj (q.out rfl)).symm;clear p q w;go_wp2_with fail;generalize f:aN E _=H;obtain⟨x,e⟩:=nb f;replace F:=hdq (both (rb F.out (X.trans e)) (both (U9 x (X.ne br)) (hT.up e)));replace X:=X.trans e;replace a:=hdq (a.out.ext X);replace br:=X.blk br;replace d:=d.trans X;replace X:=xr H;replace Q:=F.out _ X.off;clear f x e;clear hT;refine(qB s kind _ _ Q.1.1 _ Q.2.2.lies').mono ?_;rintro e K ⟨u,rfl,hT,e⟩;replace X:=X.trans e;replace Q:=F.out _ X.off;obtain⟨_,_,_,_,_,rfl⟩:=hT.three;have R:=cbn (X.blk br);go_wp2_with fail;exact n7 (by simp[aQ,results144,go_sem,R]) (hT) (show r=((d4 s kind).1,(d4 s kind).2) from hr.out) (d.trans X) (aP _) rfl
theorem DA{s:aK}{j g:Nat}{A:Option Addr}{G:List Tr}{At:Option Addr}{b:List Tr}{ty:Nat->An}(k n:Int)(ca ct:Nat)(d:b.length<=ct)(o:ct<=aU)(a:aK)(N:Nat->Prop)(p:Rb s a N j g A G At b ty)(i:Nat)(hi:i < b.length)(r:Tr×Int)(h:V0 (ty i) 2=some r):aV prog 180 #[.agg #[.slice A G.length ca,.int .i64 k,.int .i64 n,.slice At b.length ct,.func (.func 105) #[] #[.pointer (some ⟨j,0,none⟩),.pointer (some ⟨g,0,none⟩)]],.int .i64 i] a fun e v=> e= .returned (.tuple #[.int .i64 r.1.num,.int .i64 r.2])/\Ext a v:=by
 have H:=hdq h;clear h;have q:=hdq hi;clear hi;obtain⟨⟨x,z,t⟩,c⟩:=r;go_enter func180,ntmps180;go_wp2_with fail;generalize m:aN a _=C;obtain⟨f,l⟩:=nb m;have Q:=Kt f;clear m;refine(Bx k n ca ct d o _ _ (p.ext l) i q.out 2 _ H.out).mono ?_;rintro e y ⟨u,rfl,hT,e⟩;obtain⟨B,w,rfl,-⟩:=InT.mk_iff.1 hT;replace Q:=Kt (e.blk f);go_wp2_with fail;go_ret2;exact⟨rfl,(l.trans e).alloc _⟩
theorem qD{F:aK}{w t:Nat}{A:Option Addr}{G:List Tr}{At:Option Addr}{g:List Tr}{ty:Nat->An}(k n:Int)(ca ct:Nat)(I:g.length<=ct)(R:ct<=aU)(f:aK)(N:Nat->Prop)(D:Rb F f N w t A G At g ty)(i:Nat)(hi:i < g.length)(a:Tr)(y:aS)(b:InT f N a y)(c:Int)(h:Ba (ty i) a=some c):aV prog 141 #[.agg #[.slice A G.length ca,.int .i64 k,.int .i64 n,.slice At g.length ct,.func (.func 105) #[] #[.pointer (some ⟨w,0,none⟩),.pointer (some ⟨t,0,none⟩)]],.int .i64 i,y] f fun e O=> e= .returned (.int .i64 c)/\Ext f O:=by
 have H:=hdq h;clear h;have E:=hdq hi;clear hi;have P:=hdq b;obtain⟨B,x,z⟩:=a;obtain⟨T,S,rfl,-⟩:=InT.mk_iff.1 b;clear b;obtain⟨s,d,hs,hd⟩: ∃s d,ty i=some (s,d)/\((d=0/\c=V3 s (.mk B x z))\/(d≠0/\c=d)):=by
  rcases Ys H.out with⟨s,m,q⟩ |⟨s,m,q⟩
  · exact⟨s,0,m,.inl ⟨rfl,q⟩⟩
  · exact⟨s,c,m,.inr ⟨q,rfl⟩⟩
 have J:=hdq hs;have o:=hdq hd;clear hs hd H;go_enter func141,ntmps141;go_wp2_with fail;generalize b:aN (aN f _) _=W;obtain⟨r,v,-,l⟩:=box2 b.symm;have Q:=Kt r;have K:=cb3 v;clear b;have j:=D.ext l;refine(j.hT _ _ j.hx j.hN j.hG j.hK i E.out _ J.out).mono ?_;rintro e L ⟨u,rfl,hT,e⟩;obtain⟨_,_,_,_,_,rfl⟩:=hT.three;replace Q:=Kt (e.blk r);replace K:=cb3 (e.blk v);simp only;rcases o.out with⟨rfl,rfl⟩ |⟨C,rfl⟩
 · clear o j
   go_wp2_with fail;generalize b:aN L _=V;obtain⟨X,p⟩:=nb b;refine(aE s (.mk B x z) _ _ _ (hT.later p).lies' (P.out.lies'.ext ((l.trans e).trans p))).mono ?_;rintro Y U ⟨rfl,M⟩;go_wp2_with fail;go_ret;exact⟨rfl,((l.trans e).trans p).trans M⟩
 · have t1:(c !=0)=true:=by simp[C]
   clear o j;go_wp2_with fail;go_ret;exact⟨rfl,(l.trans e).alloc _⟩
theorem kw{w:aK}{r p:Nat}{A:Option Addr}{G:List Tr}{At:Option Addr}{g:List Tr}{ty:Nat->An}(k n:Int)(ca ct:Nat)(j:g.length<=ct)(t:ct<=aU)(f:aK)(N:Nat->Prop)(u:Rb w f N r p A G At g ty)(i:Nat)(hi:i < g.length)(a:Tr)(s:aS)(b:InT f N a s)(c d:Int)(h:c=0->Ba (ty i) a=some d)(l:c≠0->d=c):aV prog 145 #[.agg #[.slice A G.length ca,.int .i64 k,.int .i64 n,.slice At g.length ct,.func (.func 105) #[] #[.pointer (some ⟨r,0,none⟩),.pointer (some ⟨p,0,none⟩)]],.int .i64 i,s,.int .i64 c] f fun e z=> e= .returned (.int .i64 d)/\Ext f z:=by
 have v:=hdq hi;clear hi;have B:=hdq b;obtain⟨J,F,I⟩:=a;obtain⟨D,C,rfl,-⟩:=InT.mk_iff.1 b;clear b;by_cases hc:c=0
 · have x:=hdq (h hc)
   clear h l;subst hc;go_enter func145,ntmps145;go_wp2_with fail;generalize b:aN (aN f _) _=H;obtain⟨o,q,-,m⟩:=box2 b.symm;have Q:=Kt o;have y:=cb3 q;clear b;refine(qD k n ca ct j t _ _ (u.ext m) i v.out _ _ (B.out.later m) d x.out).mono ?_;rintro e E ⟨rfl,e⟩;replace Q:=Kt (e.blk o);replace y:=cb3 (e.blk q);go_wp2_with fail;go_ret;exact⟨rfl,m.trans e⟩
 · obtain rfl:=l hc
   have t1:(d !=0)=true:=by simp[hc]
   clear h l hc;go_enter func145,ntmps145;go_wp2_with fail;go_ret;exact⟨rfl,((xr _).alloc _).alloc _⟩
end Go.Proofs.YtckhbnmfnpolgaaGreat
namespace Go.Proofs.YtckhbnmfnpolgaaGreat
open Go.RowKit
set_option maxHeartbeats 1000000
theorem Xo{k n:Int}{a:List Tr}(h:j0 m0 (.mk k n a)=true):O0 k=(a.length:Int):=(Z4 (Z3 h).1).1
theorem CF{n:Int}{b:List Tr}(h:j0 m0 (.mk 9 n b)=true):j0 m0 (.mk 5 0 [kd b 0,.mk 7 0 []])=true:=by
 have c:=Xo h;have g:O0 9=4:=rfl;rw[g] at c;obtain⟨i,d⟩:=Z3 h;obtain⟨p,z,s,a,rfl⟩: ∃p z s a,b= [p,z,s,a]:=by
  match b,c with
  | [p,z,s,a],_=> exact⟨p,z,s,a,rfl⟩
  | [],h=> simp at h
  | [_],h=> simp at h
  | [_,_],h=> simp at h
  | [_,_,_],h=> simp at h
  |_::_::_::_::_::_,h=> simp at h;omega
 have e:=(Z4 i).2.2.2 p (by simp);have j:=Tq z;have k:=Tq s;have l:=Tq a;simp only[cnt,W1] at d;have f:D0 m0 (.mk 5 0 [p,.mk 7 0 []]) 30=true:=by
  show(true &&(true &&(D0 m0 p (30 - 1)&&(true && true))))=true
  rw[e]
  rfl
 show(D0 m0 (.mk 5 0 [p,.mk 7 0 []]) 30 && decide (cnt (.mk 5 0 [p,.mk 7 0 []])<=400))=true
 rw[f,Bool.true_and,decide_eq_true_eq];simp only[cnt,W1];omega
theorem oe(b:Prop){f a:Nat}{G:List Tr}{k n:Int}{ks:List Tr}(hv:j0 m0 (.mk k n ks)=true)(hG:G.length<=20)
 (hk: ∀i,i < ks.length->E4 k i=0->Rl b (ja (M0 f) G k ks i) (ga (N0 a) G k ks i))
 (K:E4 k 1=1->(∃s,V0 (ga (N0 a) G k ks 0) 2=some (s,0))->Rl b (ja (M0 f) G k ks 1) (ga (N0 a) G k ks 1))
 (v:k=4->(∃s,V0 (ga (N0 a) G k ks 0) 2=some (s,0))-> ∀B,ja (M0 f) G k ks 1=some (B,0)->ga (N0 a) G k ks 1=some (B,0)->Rl b (thn (V0 (M0 f G (kd ks 0)) 2) fun _=> thn (V0 (M0 f (G++ [kd ks 0]) B) 2) fun _=> some (mkV (.mk 3 0 [kd ks 0,B]))) (thn (some (mkV (.mk 3 0 [kd ks 0,B]))) fun out=> thn (N0 a G out) fun _=> some (out,0)))
 (S:k=9->(∃s,V0 (ga (N0 a) G k ks 0) 3=some (s,0))->b\/j0 m0 (Wb (kd ks 0))=true\/Ze (ja (M0 f) G k ks 2))
 (y:k=11-> ∀s,ja (M0 f) G k ks 0=some (s,0)->ga (N0 a) G k ks 0=some (s,0)->Rl b (M0 f G s) (N0 a G s))
 (T:k=12-> ∀e,V0 (ga (N0 a) G k ks 1) 10=some (e,0)->(∃s,V0 (ga (N0 a) G k ks 0) 3=some (s,0))->b\/j0 m0 (.mk 5 0 [kd ks 0,kd e.kids 1])=true\/Ze (ja (M0 f) G k ks 2))
 (P:k=14->(∃s,V0 (ga (N0 a) G k ks 0) 2=some (s,0))-> ∀s,d4 (kd ks 0) 13=(s,0)->(∃A,ga (N0 a) G k ks 1=some (A,0)/\V3 A (kd s.kids 0)=0)->b\/j0 m0 (Q0 (kd ks 1) (kd s.kids 1) 0 0)=true\/Ze (ja (M0 f) G k ks 2)):
 Rl b (M0 (f+1) G (.mk k n ks)) (N0 (a+1) G (.mk k n ks)):=by
 have e:M0 (f+1) G (.mk k n ks)=thn (de G (M0 f) (ja (M0 f) G k ks) k n ks) fun s=> some (mkV s):=by
  show(if _ then _ else _)=_
  rw[if_neg];rintro(h|h)
  · rw[hv] at h;cases h
  · omega
 have l:=Xo hv;have j: ∀i,V5 (ja (M0 f) G k ks i):=fun i=>(Nl f _ _).ite (Nl f _ _)
 rw[e]
 show Rl b _ (Vb G (N0 a G) (ga (N0 a) G k ks) k n ks)
 unfold de Vb;simp only[Um];refine Rl.ite (fun h=> ?_) fun O=> Rl.ite (fun h=> ?_) fun R=> Rl.ite (fun h=> ?_) fun X=> Rl.ite (fun h=> ?_) fun V=> Rl.ite (fun h=> ?_) fun N=> Rl.ite (fun h=> ?_) fun o=> Rl.ite (fun h=> ?_) fun L=> Rl.ite (fun h=> ?_) fun U=> Rl.ite (fun h=> ?_) fun W=> Rl.ite (fun h=> ?_) fun D=> Rl.ite (fun h=> ?_) fun F=> Rl.ite (fun h=> ?_) fun E=> Rl.ite (fun h=> ?_) fun C=> ?_
 · unfold Wq Xg
   by_cases g:(G.length:Int)<=n
   · rw[if_pos g,if_pos g,nm (by decide)]
     exact Rl.rfl' _
   · rw[if_neg g,if_neg g]
     exact Rl.rfl' _
 · have I:=(Z4 (Z3 hv).1).2
   have d:n<=Ja k:=I.2.1;subst h;have w:Ja 2=3:=rfl;rw[w] at d;by_cases g:n=3
   · rw[if_pos g,if_pos (by omega),nm (by decide)]
     exact Rl.rfl' _
   · rw[if_neg g,if_neg (by omega)]
     exact Rl.ok _ (dt (by have:=I.1;omega) (by omega))
 · exact Rl.ok _ (by decide)
 · exact Rl.ok _ (by decide)
 · subst h
   have d:O0 8=1:=rfl;rw[gl];exact(hk 0 (by omega) rfl).chk _ fun _=> Rl.ok _ (by decide)
 · have d:O0 k=2:=by rcases h with rfl|rfl <;> rfl
   have Y:E4 k 0=0:=by rcases h with rfl|rfl <;> rfl
   have M:E4 k 1=1:=by rcases h with rfl|rfl <;> rfl
   unfold ue;rw[Sd];refine((hk 0 (by omega) Y).frm 2).seq fun s m c=> ?_
   rw[Sd];refine((K M ⟨s,c⟩).frm 2).seq fun q H p=> ?_
   have w:=jv c;have v:=jv p;exact Rl.ok _ (dt (by omega) (by omega))
 · subst h
   have d:O0 4=2:=rfl;unfold zp qn;rw[Sd];refine((hk 0 (by omega) rfl).frm 2).seq fun s m c=> ?_
   rw[Sd];refine(K rfl ⟨s,c⟩).seq fun q H p=> ?_
   rw[Sd];simp only[Sd];exact v rfl ⟨s,c⟩ q H p
 · subst h
   have d:O0 5=2:=rfl;unfold Bm dk;rw[Sd];refine((hk 0 (by omega) rfl).frm 3).seq fun s m c=> ?_
   rw[gl];exact(hk 1 (by omega) rfl).chk _ fun _=> Rl.rfl' _
 · subst h
   have d:O0 9=4:=rfl;unfold Qn em;rw[sC];refine(hk 0 (by omega) rfl).fam _ fun x=> ?_
   rw[gl];refine Rl.has _ (hk 1 (by omega) rfl) (j 1) (.inr (.inl (CF hv))) fun _ _=> ?_
   rw[gl];refine Rl.has _ (hk 2 (by omega) rfl) (j 2) (S rfl x) fun _ _=> ?_
   rw[gl];exact(hk 3 (by omega) rfl).chk _ fun _=> Rl.rfl' _
 · subst h
   have d:O0 10=3:=rfl;unfold Le;rw[Sd];refine((hk 0 (by omega) rfl).frm 2).seq fun s m c=> ?_
   rw[gl];refine(hk 1 (by omega) rfl).chk _ fun _=> ?_
   rw[gl];refine(hk 2 (by omega) rfl).chk _ fun _=> ?_
   have w:=jv c;exact Rl.ok _ (dt (by omega) (by omega))
 · subst h
   have d:O0 11=1:=rfl;unfold am Ho;rw[Sd];refine(hk 0 (by omega) rfl).seq fun s m c=> ?_
   rw[Sd];exact((y rfl s m c).frm 2).seq fun _ _ _=> Rl.rfl' _
 · subst h
   have d:O0 12=3:=rfl;unfold Lo bn;rw[Sd];refine((hk 1 (by omega) rfl).frm 10).seq fun s m c=> ?_
   rw[sC];refine(hk 0 (by omega) rfl).fam _ fun x=> ?_
   rw[gl];exact Rl.has _ (hk 2 (by omega) rfl) (j 2) (T rfl s c x) fun _ _=> Rl.rfl' _
 · subst h
   have d:O0 14=3:=rfl;unfold Ro lo;rw[Sd];refine((hk 0 (by omega) rfl).frm 2).seq fun s m c=> ?_
   rw[Sd];refine(Rl.rfl' _).seq fun q H p=> ?_
   rw[gl];refine(hk 1 (by omega) rfl).chk _ fun Q=> ?_
   rw[gl];refine Rl.has _ (hk 2 (by omega) rfl) (j 2) (P rfl ⟨s,c⟩ q (Option.some.inj p) Q) fun _ _=> Rl.ok _ ?_
   exact Cd (t:= .mk 14 n ks) hv (by show 0 < ks.length;omega)
 · have d:0 < ks.length:=by
    rcases Nat.eq_zero_or_pos ks.length with g|g
    · exfalso
      rw[g] at l;unfold O0 at l;simp only[O,R,X,V,N,L,U,W,D,F,E,C,if_false] at l;simp only[not_or] at o;simp only[o.1,o.2,if_false] at l
      split at l
      · cases l
      · split at l
        · cases l
        · cases l
    · exact g
   unfold bj jj;rw[Sd];refine((hk 0 d (by unfold E4;simp only[not_or] at o;simp[o.1,o.2,L])).frm 13).seq fun s m c=> ?_
   by_cases r:k=15
   · rw[if_pos r,if_pos r]
     obtain⟨u,w,v,J⟩:=Ng c;obtain⟨-,-,-,hs⟩:=Qw v;obtain⟨k',Z,z⟩:=s;simp only[Tr.kind] at J;subst J;have h6:=Xo hs;have h7:O0 13=2:=rfl;exact Rl.ok _ (Cd hs (by show 0 < z.length;omega))
   · rw[if_neg r,if_neg r]
     exact Rl.rfl' _
end Go.Proofs.YtckhbnmfnpolgaaGreat
namespace Go.Proofs.YtckhbnmfnpolgaaGreat
open Go.RowKit
open M (Hd HR Cv Ty M2 zc y6 W4)
theorem ur{f:Nat}{G:List M.Tm}{t T B:M.Tm}(hG:X6 G)(d:G.length<=8)(a:j0 m0 (enc t)=true)(b:j0 m0 (enc T)=true)(ht:Ty G t B)(lt:M2 G t)(c:Cv B T)(hT:y6 G T):Nb (fq f (ctxE G) (enc t) (enc T)):=by
 refine(Lp hG d (by simp[a,b])).thn fun _ _=>(qk hG hT b).thn fun _ _=> ?_
 refine(Ml f G t B hG a ht lt).chk (fun s e=> ?_) (Nb.ok _);obtain⟨rfl,-⟩:=Ig hG a ht e;exact⟨B,rfl,c⟩
theorem MH{f:Nat}{ctx:List Tr}{t s:Tr}(h:V0 (Uf f ctx t) 10=some (s,0)): ∃G T l r,ctx=ctxE G/\s=enc (.id T l r)/\j0 m0 s=true/\(∀b,Nb (fq b ctx (enc l) (enc T)))/\(∀b,Nb (fq b ctx (enc r) (enc T)))/\(ctx= []->Cv l r):=by
 obtain⟨u,g,F,H⟩:=Ng h;obtain⟨G,a,A,rfl,hG,i,rfl,hv,rfl,n,q,O,-⟩:=pz g;obtain⟨C,rfl,d,-,c⟩:=Vg F;obtain⟨T,l,r,rfl⟩:=Oj H;have J:=hG.wf.wf;have hs: ∃S j,j<=3/\Ty G A S/\HR S (.sort j)/\M2 G A:=by
  rcases M2.type n hG.wf q with rfl|⟨E,k,hk,S,y,x⟩
  · cases d with
    |step g _=> cases g
  · exact⟨S,k,hk,y,x,E⟩
 obtain⟨S,j,N,m,w,v⟩:=hs;obtain⟨P,K,p⟩:=Ty.red d.red m;have e:=M2.red d.red J m v;cases K with
 |id t1 t2 z B D L=>
  have hi:=(p.trans w.cv).sort_inj;have o:y6 G T:=⟨e.1,_,by omega,_,t1,t2⟩;refine⟨G,T,l,r,rfl,rfl,c,fun b=> ur hG i (Z0 c (by simp)) (Z0 c (by simp)) z e.2.1 B o,fun b=> ur hG i (Z0 c (by simp)) (Z0 c (by simp)) D e.2.2 L o,fun hc=> ?_⟩;have I:G= []:=by
   have:=y26 G;rw[hc] at this
   simpa using this.symm
  subst I;exact M.closed_sides n d

/-
  Lemmas towards the law, 27: SHead, InfB, InfR, MSides.
-/
import Derived.Test.YtckhbnmfnpolgaaGreatC00
import Derived.Test.YtckhbnmfnpolgaaGreatCAZ
open Go renaming World->aL,Calls->aX,Value->aT,maxLen->aV,bodyPost_ret->aP,results->aR,heap_alloc_new->aS
open Nat renaming le_succ->aQ
open Go.World renaming alloc->aO
open Go.Proofs.Tryz
set_option linter.all false
set_option maxHeartbeats 4000000
set_option maxRecDepth 100000
namespace Go.Proofs.YtckhbnmfnpolgaaGreat
open Go.RowKit
attribute [local go_sem ↓] Go.wp_at_zero Go.wp_at_succ
def y111(k:Int):Int:=if k=5\/k=15\/k=16 then 0 else if k=12 then 1 else if k=9 then 3 else -1
def Rc(t:Tr):Tr×Bool:=match hdQ t with
 |none=>(t,false)
 |some p=>(conA t p,true)
theorem lJ{k n:Int}{a:List Tr}(h:rdx k a≠0):Rc (.mk k n a)=(ctrT (.mk k n a),true):=by
 have:hdQ (.mk k n a)=some []:=by unfold hdQ;rw[p4,if_pos h];rfl
 unfold Rc;rw[this];simp only[Xs]
theorem Mo{k n:Int}{a:List Tr}(h:rdx k a=0)(hm:y111 k < 0):Rc (.mk k n a)=(.mk k n a,false):=by
 have hk: ¬(k=5\/k=15\/k=16)/\k≠12/\k≠9:=by
  unfold y111 at hm
  split at hm
  · omega
  · split at hm
    · omega
    · split at hm <;> omega
 have e:p4 (.mk k n a)=([],false):=by rw[p4,if_neg (by simp[h]),if_neg hk.1,if_neg hk.2.2,if_neg hk.2.1]
 have:hdQ (.mk k n a)=none:=by unfold hdQ;rw[e];rfl
 unfold Rc;rw[this]
theorem gJ{k n:Int}{a:List Tr}{m:Nat}(h:rdx k a=0)(hm:y111 k=(m:Int))(hl:m < a.length):Rc (.mk k n a)=if(Rc (kd a m)).2=true then(.mk k n (a.set m (Rc (kd a m)).1),true) else(.mk k n a,false):=by
 have e:p4 (.mk k n a)=((m:Int)::(p4 (kd a m)).1,(p4 (kd a m)).2):=by
  rw[p4,if_neg (by simp[h])];unfold y111 at hm;by_cases d:k=5\/k=15\/k=16
  · rw[if_pos d] at hm⊢
    obtain rfl:m=0:=by omega
    rw[ak hl]
    rfl
  · rw[if_neg d] at hm⊢
    by_cases b:k=9
    · subst b
      obtain rfl:m=3:=by simp at hm;omega
      rw[if_pos rfl,ak hl]
      rfl
    · rw[if_neg b] at hm⊢
      by_cases c:k=12
      · rw[if_pos c] at hm⊢
        obtain rfl:m=1:=by omega
        rw[ak hl]
        rfl
      · rw[if_neg c] at hm
        omega
 unfold Rc hdQ;rw[e];simp only;cases f:(p4 (kd a m)).2 with
 |false=> simp
 |true=>
  have:=Mf (kd a m) _ (show p4 (kd a m)=((p4 (kd a m)).1,true) by rw[<-f]);simp only[if_true];rw[Yv hl this]
theorem pp{k n:Int}{a:List Tr}(hv:j0 D0 (.mk k n a)=true){m:Nat}(hm:y111 k=(m:Int)):m < a.length:=by
 have b:=(Z4 (Z3 hv).1).1;have g:U0 5=2:=rfl;have c:U0 15=1:=rfl;have i:U0 16=1:=rfl;have f:U0 12=3:=rfl;have e:U0 9=4:=rfl;have d:U0 k=(a.length:Int):=b;unfold y111 at hm
 split at hm
 · rename_i h
   rcases h with rfl|rfl|rfl <;> omega
 · split at hm
   · rename_i h;subst h;omega
   · split at hm
     · rename_i h;subst h;omega
     · omega
theorem jF(k:Int)(w:aL):aX prog 172 #[m0 k] w fun e a=> e= .returned (m0 (y111 k))/\Ext w a:=by
 by_cases h:k=5\/k=15\/k=16\/k=12\/k=9
 · rcases h with rfl|rfl|rfl|rfl|rfl
   all_goals
    go_enter func172,ntmps172;go_wp2_with fail;go_ret;exact⟨rfl,xr _⟩
 · simp only[not_or] at h
   have e:y111 k= -1:=by unfold y111;rw[if_neg (by simp[h.1,h.2.1,h.2.2.1]),if_neg h.2.2.2.1,if_neg h.2.2.2.2]
   have t1:(k==5)=false:=beq_eq_false_iff_ne.2 h.1;have t2:(k==15)=false:=beq_eq_false_iff_ne.2 h.2.1;have c:(k==16)=false:=beq_eq_false_iff_ne.2 h.2.2.1;have b:(k==12)=false:=beq_eq_false_iff_ne.2 h.2.2.2.1;have d:(k==9)=false:=beq_eq_false_iff_ne.2 h.2.2.2.2;rw[e];clear e h;go_enter func172,ntmps172;go_wp2_with fail;go_ret;exact⟨rfl,xr _⟩
def JI(t:Tr):Prop:=j0 D0 t=true-> ∀(w:aL) (N:Nat->Prop) (v:aT),(∀b,w.heap.size<=b->N b)->InT w N t v->aX prog 130 #[v] w (pB N w (Rc t))
theorem II: ∀t:Tr,JI t:=Tr.ind fun k n a ih=> by
 intro hv B N v hN V;obtain⟨R,L⟩: ∃R,Rc (.mk k n a)=R:=⟨_,rfl⟩;rw[L];obtain⟨hsh,C0⟩:=Z3 hv;have O:=V.lies';have N8:=hdq V;have Hv:=hdq O;have Q:=hdq (fun W (hx:Ext B W)=> Cr (.mk k n a) 30 hsh W v (O.ext hx));have lp:Y3 (.mk k n a)=rdx k a:=rfl;rw[lp] at Q;obtain⟨A,cap,rfl,hl,hc,hK⟩:=InT.mk_iff.1 V;have hcc:=hc;unfold aV at hcc;have hlc:=Lf a;simp only[cnt] at C0;obtain⟨w1,J⟩: ∃x,x=((B.alloc (H0 k n A a.length cap)).alloc (H0 0 0 none 0 0)):=⟨_,rfl⟩;obtain⟨F,p,s1,G⟩:=box2 J;obtain⟨M,Y⟩: ∃M,M=(fun b=> N b/\b≠B.heap.size+1):=⟨_,rfl⟩;have zm: ∀b,w1.heap.size<=b->M b:=by rw[Y];exact Ia hN G.size (by omega)
 have Bz:InK w1 M A a:=by rw[Y];exact hK.keep G (aQ _)
 have O3:=hdq zm;have wo:=hdq Bz;have HM:=hdq Y;clear Y zm Bz hK V lp;by_cases hr:rdx k a=0
 case neg=>
  have hz:(rdx k a !=0)=true:=by simp[hr]
  have HC:=hdq (fun W (hx:Ext B W)=> QJ (.mk k n a) hv (Xv.2 hr) W _ (O.ext hx));rw[<-L,lJ hr];generalize rdx k a=q at Q hz;generalize ctrT (.mk k n a)=T at HC⊢;clear ih L hv hr O hsh;go_enter func130,ntmps130;go_wp2_with fail;rw[<-J];clear J;refine(Q.out _ G).mono ?_;rintro e w2 ⟨rfl,z⟩;have s2:=z.size;have u:=z;have i:=cb3 (u.blk F);have d:=m9 (u.blk p);go_wp2_with fail;clear i d;have H:=G;have E:=H.trans z;refine(HC.out _ E).mono ?_;rintro e w3 ⟨r,rfl,hT,l⟩;have s3:=l.size;have lg:InT w3 M T r:=InT.mono (fun b y=> O3.out b (by have:=u.size;omega)) (fun _ _=> rfl) hT;obtain⟨u1,u2,u3,u4,u5,rfl⟩:=lg.three;have Lt:=hdq lg;clear hT lg;have g:=u.trans l;have i:=cb3 (g.blk F);have d:=m9 (g.blk p);have C:=E.trans l;go_wp2_with fail;refine aP (v:= .tuple #[M0 u1 u2 u3 u4 u5,.bool true]) (by simp[aR,results130,go_sem,d]) rfl ⟨_,rfl,InT.ret (HM.out▸Lt.out) _ _ _,(C.set3 (by omega) _ _ _)⟩
 have uw:=hdq hr;have W9:=hdq L;have Gz:=hdq (fun t (ht:t∈a)=> ih t ht (nz hv ht));have ax:=hdq (fun(m:Nat) (h:y111 k=(m:Int))=> pp hv h);rw[hr] at Q;clear ih L hv hr O hsh;go_enter func130,ntmps130;go_wp2_with fail;rw[<-J];clear J;refine(Q.out _ G).mono ?_;rintro e w2 ⟨rfl,z⟩;have s2:=z.size;have u:=z;have i:=cb3 (u.blk F);have d:=m9 (u.blk p);go_wp2_with fail;clear i d;refine(jF k w2).mono ?_;rintro e w3 ⟨rfl,l⟩;have s3:=l.size;obtain⟨m,hm⟩: ∃m,y111 k=m:=⟨_,rfl⟩;rw[hm];by_cases f:m < 0
 case pos=>
  have hd:decide (m < 0)=true:=decide_eq_true f;have K:=hdq (show R=(.mk k n a,false) from by rw[<-W9.out];exact Mo uw.out (by rw[hm];exact f));clear hm;have H:=G;have E:=H.trans z;have C:=E.trans l;have g:=u.trans l;have i:=cb3 (g.blk F);have d:=m9 (g.blk p);go_wp2_with fail;rw[K.out];refine aP (v:= .tuple #[M0 k n A a.length cap,.bool false]) (by simp[aR,results130,go_sem,d]) rfl ⟨_,rfl,InT.ret (InT.keep N8.out C (show B.heap.size<=B.heap.size+1 from aQ _)) _ _ _,(C.set3 (by omega) _ _ _)⟩
 obtain⟨j,rfl⟩:=Int.eq_ofNat_of_zero_le (show 0<=m by omega);have w:=ax.out j hm;have uk:(j:Int) <(a.length:Int):=by omega
 have kq:(0:Int)<=(j:Int):=by omega
 have hd:decide ((j:Int) < 0)=false:=decide_eq_false f;have c:=W9.out.symm.trans (gJ (n:=n) uw.out hm w);clear hm f;have g:=u.trans l;obtain⟨b,o,k1,n1,A1,p1,q16,rfl,E6,c0,c1,c2,l1,m1,M6,p5,j9,ug⟩:=(wo.out.later g).get (fun _ _=> rfl) w;have HI:=hdq (Gz.out _ j9 w3 M _ (fun b y=> O3.out b (Nat.le_trans g.size y)) p5);rw[jn w,E6.out] at c;obtain⟨⟨t',ok⟩,hT⟩: ∃x,Rc (.mk k1 n1 q16)=x:=⟨_,rfl⟩;rw[hT] at HI c;have s:=hdq c;clear hT M6 p5 c;have i:=cb3 (g.blk F);have d:=m9 (g.blk p);go_wp2_with fail;clear i d;refine(HI.out).mono ?_;rintro e D ⟨r,rfl,vx,P⟩;have s4:=P.size;obtain⟨a1,a2,a3,a4,a5,rfl⟩:=vx.three;have ye:=hdq vx;clear vx;cases ok with
 |false=>
  have K:=hdq (show R=(.mk k n a,false) from s.out.trans (if_neg (by simp)));clear s;have H:=G;have E:=H.trans z;have C:=E.trans l;have Z:=C.trans P;have I:=g.trans P;have i:=cb3 (I.blk F);have d:=cbn (I.blk p);have Jm:Ext D (D.alloc (H0 a1 a2 a3 a4 a5)):=(xr D).alloc _;have Pr:=cbn (Jm.blk (I.blk p));go_wp2_with fail;rw[K.out];refine aP (v:= .tuple #[M0 k n (some ⟨b,o,none⟩) a.length cap,.bool false]) (by simp[aR,results130,go_sem,d,Pr]) rfl ⟨_,rfl,InT.ret (InT.keep N8.out (Z.trans Jm) (show B.heap.size<=B.heap.size+1 from aQ _)) _ _ _,((Z.trans Jm).set3 (by omega) _ _ _)⟩
 |true=>
  have K:=hdq (show R=(.mk k n (a.set j t'),true) from s.out.trans (if_pos rfl));clear s;have I:=g.trans P;have i:=cb3 (I.blk F);have d:=m9 (I.blk p);obtain⟨S,X⟩: ∃x,x=D.alloc (H0 a1 a2 a3 a4 a5):=⟨_,rfl⟩;have e5:Ext D S:=X▸(xr D).alloc _;have eu:=aS D (H0 a1 a2 a3 a4 a5);rw[<-X] at eu;have s5:D.heap.size < S.heap.size:=O1 eu;go_wp2_with fail;rw[<-X];clear X;clear i d;have H:=G;have E:=H.trans z;have C:=E.trans l;have Z:=C.trans P;have K9:=Z.trans e5;have V3:=e5;refine(SH k n a t' j (fun b=> M b/\b < S.heap.size) S _ _ (Hv.out.ext K9) (fun b y=> y.2) ((ye.out.later V3).bound) w (by simp only[cnt];omega)).mono ?_;rintro e w6 ⟨r,rfl,zo,U⟩;have s6:=U.size;have E7:=I.trans e5;have yf:InT w6 M (.mk k n (a.set j t')) r:=InT.mono (fun b y=> by
   rcases y with y|y
   · exact y.1
   · exact O3.out b (by have:=E7.size;omega)) (fun _ _=> rfl) zo
  obtain⟨u1,u2,u3,u4,u5,rfl⟩:=yf.three;have Iy:=hdq yf;clear zo yf;have bv:=E7.trans U;have i:=cb3 (bv.blk F);have d:=m9 (bv.blk p);have et:=U;have Zx:=cb3 (et.blk eu);have gf:=K9.trans U;go_wp2_with fail;rw[K.out];refine aP (v:= .tuple #[M0 u1 u2 u3 u4 u5,.bool true]) (by simp[aR,results130,go_sem,d]) rfl ⟨_,rfl,InT.ret (HM.out▸Iy.out) _ _ _,(gf.set3 (by omega) _ _ _)⟩
theorem WG(t:Tr)(F:Nat)(hF:F<=200)(hv:j0 D0 t=true)(a:aL)(v:aT)(b8:Lies a t v):
 aX prog 91 #[v,.int .i64 F] a fun e w'=> ∃r,e= .returned (.tuple #[r,.int .i64 (b9 F t).2])/\InT w' (fun b=> a.heap.size<=b) (b9 F t).1 r/\Ext a w':=by
 obtain⟨R,hR⟩: ∃R,b9 F t=R:=⟨_,rfl⟩;rw[hR];obtain⟨k,n,Z⟩:=t;obtain⟨A,cap,rfl,hl,hc,hK⟩:=Lies.mk_iff.1 b8;obtain⟨w1,d9⟩: ∃x,x=((a.alloc (.cells #[.int .i64 k,.int .i64 n,.slice A Z.length cap] 25)).alloc (.cells #[.int .i64 0,.int .i64 0,.slice none 0 0] 25)):=⟨_,rfl⟩;obtain⟨j5,i7,s1,e1⟩:=box2 d9;have Bc:InT w1 (pe a) (.mk k n Z) (.agg #[.int .i64 k,.int .i64 n,.slice A Z.length cap]):=InT.mono (fun b s=>⟨by have:b < a.heap.size:=s;omega,by have:b < a.heap.size:=s;omega⟩) (fun b s=> e1.heap b s) b8;have HR:=hdq hR;have il:=hdq hv;clear hR hv b8 hK;go_enter func91,ntmps91;go_wp2_with fail;rw[<-d9];clear d9
 go_loopw [1] (fun i wr=> ∃(j:Nat) (f d:Int) (kids:List Tr) (A':Option Addr) (L:Nat),j<=F/\i= .int .i64 j/\Hid (b9 j (.mk f d kids)=R)/\Hid (j0 D0 (.mk f d kids)=true)/\kids.length<=L/\L<=aV/\InT wr (pe a) (.mk f d kids) (.agg #[.int .i64 f,.int .i64 d,.slice A' kids.length L])/\
  wr.heap[a.heap.size]? =some (.cells #[.int .i64 f,.int .i64 d,.slice A' kids.length L] 25 (0,0))/\wr.heap[a.heap.size+1]? =some (.cells #[.int .i64 0,.int .i64 0,.slice none 0 0] 25 (0,0))/\Ext a wr) (fun i _=>(intOf i).toNat)
 case atStart=> exact⟨F,k,n,Z,A,cap,Nat.le_refl _,rfl,HR,il,hl,hc,Bc,j5,i7,e1⟩
 case round=>
  obtain⟨j,f,d,kids,A',L,hj,rfl,B,HV,I5,I3,hT,D,l,hx⟩:=hrel;have yw:=hdq (show a.heap.size+1 < wr.heap.size from O1 l);have H:=hdq (II (.mk f d kids) HV.out wr (pe a) _ (fun b s=>⟨by have:=yw.out;omega,by have:=yw.out;omega⟩) hT);have ax:=hdq hT.lies';have C0:=(Z3 HV.out).2;have c:Rc (.mk f d kids)=match hdQ (.mk f d kids) with|none=>(.mk f d kids,false) |some p=>(conA (.mk f d kids) p,true):=rfl
  have Y:=cb3 D;clear hT Bc j5 i7 e1 s1;go_wp2_with fail;refine H.out.mono ?_;rintro e C ⟨r,rfl,K5,T⟩;obtain⟨I,G,N,a4,P,rfl⟩:=K5.three;have Q:=hdq K5;obtain⟨V,g⟩: ∃x,x=C.alloc (.cells #[.int .i64 I,.int .i64 G,.slice N a4 P] 25):=⟨_,rfl⟩;have e3:Ext C V:=g▸(xr C).alloc _;have bx:=aS C (.cells #[.int .i64 I,.int .i64 G,.slice N a4 P] 25);rw[<-g] at bx;have E3:=T.trans e3;obtain⟨q,u⟩: ∃q,hdQ (.mk f d kids)=q:=⟨_,rfl⟩;rw[u] at c;clear K5 Y;cases q with
  |none=>
   simp only at c;rw[c];have S:=hdq ((zy u j).symm.trans B.out);have HC:=hdq (fun W (hW:Ext V W)=> Ur (.mk f d kids) W _ (ax.out.ext (E3.trans hW)) (by omega));have Y:=cb3 (T.blk D);clear c u H B D;go_wp2_with fail;rw[<-g];clear g;refine(HC.out V (xr _)).mono ?_;rintro e w4 ⟨u1,u2,u3,u4,u5,z,y,rfl,hT,E,w,hy⟩;have o:=E3.trans E;have ye:=hdq (show InT w4 (fun b=> a.heap.size<=b/\b≠a.heap.size+1) _ _ from InT.mono (fun b s=>⟨by have:=yw.out;have:=E3.size;omega,by have:=yw.out;have:=E3.size;omega⟩) (fun _ _=> rfl) hT);have M:=cbn (o.blk l);clear hT w hy Y HC;go_wp2_with fail;rw[<-S.out];refine aP (v:= .tuple #[.agg #[.int .i64 u1,.int .i64 u2,.slice u3 u4 u5],.int .i64 0]) (by simp[aR,results91,go_sem,M]) rfl ⟨_,rfl,InT.ret ye.out _ _ _,(hx.trans o).set3 (by omega) _ _ _⟩
  |some p=>
   simp only at c;rw[c] at H Q⊢;by_cases kq:j=0
   · subst kq
     have S:=hdq ((xE u).symm.trans B.out);have F9:Ext C (C.alloc (.cells #[.int .i64 I,.int .i64 G,.slice N a4 P] 25)):=(xr C).alloc _;have M:=cbn (T.blk l);have Pr:=cbn (F9.blk (T.blk l));clear c u H B D;go_wp2_with fail;rw[<-S.out];refine aP (v:= .tuple #[.agg #[.int .i64 0,.int .i64 0,.slice none 0 0],.int .i64 1]) (by simp[aR,results91,go_sem,M,Pr]) rfl ⟨_,rfl,d5 _ _ 0 0,(hx.trans (T.trans F9)).set3 (by omega) _ _ _⟩
   · obtain⟨m,rfl⟩: ∃m,j=m+1:=⟨j - 1,by omega⟩
     have qi:(1:Int)<=((m+1:Nat):Int):=by omega
     have qd:decide (((m+1:Nat):Int) < 1)=false:=decide_eq_false (by omega);have Co:((m+1:Nat):Int)<=1000:=by omega
     obtain⟨z,w⟩: ∃z,j0 D0 (conA (.mk f d kids) p)=z:=⟨_,rfl⟩;have Et:=hdq (w▸li (conA (.mk f d kids) p) V _ (Q.out.later e3).lies');cases z with
     |false=>
      have S:=hdq ((mp u w m).symm.trans B.out);clear c u H B D w;go_wp2_with fail;rw[<-g];refine Et.out.mono ?_;rintro e w4 ⟨rfl,E⟩;have o:=E3.trans E;have M:=cbn (o.blk l);go_wp2_with fail;rw[<-S.out];refine aP (v:= .tuple #[.agg #[.int .i64 0,.int .i64 0,.slice none 0 0],.int .i64 2]) (by simp[aR,results91,go_sem,M]) rfl ⟨_,rfl,d5 _ _ 0 0,(hx.trans o).set3 (by omega) _ _ _⟩
     |true=>
      have nk:=hdq ((Ym u w m).symm.trans B.out);have J:=hdq w;have Dw:((m+1:Nat):Int) - 1=(m:Int):=by omega
      clear c u H B w;generalize conA (.mk f d kids) p=X at nk J Et Q;obtain⟨k2,n2,q17⟩:=X;obtain⟨A2,c2,U,hl2,hc2,-⟩:=InT.mk_iff.1 Q.out;simp only[Value.agg.injEq,Array.mk.injEq,List.cons.injEq,Value.int.injEq,Value.slice.injEq,true_and,and_true] at U;obtain⟨rfl,rfl,rfl,rfl,rfl⟩:=U;go_wp2_with fail;rw[<-g];clear g;refine Et.out.mono ?_;rintro e w4 ⟨rfl,E⟩;have o:=E3.trans E;have ep:=o.blk D;have HB:=hdq ep;have Kg:=hdq (o.blk l);have Y:=m9 ep;have K:=e3.trans E;have O:=hdq (fun(x0 x1 x2:aT)=>(show InT (((w4.setCell ⟨a.heap.size,0,none⟩ x0).setCell ⟨a.heap.size,1,none⟩ x1).setCell ⟨a.heap.size,2,none⟩ x2) (pe a) (.mk I G q17) (.agg #[.int .i64 I,.int .i64 G,.slice N q17.length P]) from InT.ret (InT.mono (fun b s=>⟨s,s.1⟩) (fun _ _=> rfl) (Q.out.later K)) x0 x1 x2));have Zx2:=cb3 (E.blk bx);have X4:=hx.trans o;clear D l ep Et E3 o K;go_wp2_with fail
      go_roundw
      case rel=> exact⟨m,I,G,q17,N,P,by omega,by(try rw[Dw]);(try go_num),nk,J,hl2,hc2,O.out _ _ _,N5 (N5 (N5 HB.out 0 _) 1 _) 2 _,Bd (Bd (Bd Kg.out (by simp) _) (by simp) _) (by simp) _,X4.set3 (by omega) _ _ _⟩
      case measure=>(simp[intOf];try omega)
theorem mF(a b:Tr)(S:j0 D0 a=true)(U:j0 D0 b=true)(g:aL)(L D:aT)(F:Lies g a L)(I:Lies g b D):
 aX prog 124 #[L,D,m0 200] g fun e w'=> e= .returned (m0 (Yc a b 200))/\Ext g w':=by
 have E:Yc a b 200=if a=b then 1 else if(V4 200 a).2=0/\(V4 200 b).2=0 then(if(V4 200 a).1=(V4 200 b).1 then 1 else 2) else 3:=by
  unfold Yc;rw[S,U,if_pos (by decide)]
  rfl
 have yj:=hdq (fun W (n:Ext g W)=> Uy a 200 (by omega) S W L (F.ext n));have ym:=hdq (fun W (n:Ext g W)=> Uy b 200 (by omega) U W D (I.ext n));have Ca:=hdq (fun W (n:Ext g W)=> kK a W b L D (F.ext n) (I.ext n));obtain⟨C,hC⟩: ∃C,Yc a b 200=C:=⟨_,rfl⟩;rw[hC] at E⊢;obtain⟨q,l⟩: ∃q,Z6 a b=q:=⟨_,rfl⟩;rw[l] at Ca;have zx:(a=b)↔q=true:=by rw[<-l];exact cy.symm
 rw[ite_cond_congr (propext zx)] at E;generalize V4 200 a=X at yj E;generalize V4 200 b=Y at ym E;obtain⟨X,M⟩:=X;obtain⟨Y,T⟩:=Y;simp only at E;have HE:=hdq E;clear hC l zx E S U;obtain⟨k1,n1,uf⟩:=a;obtain⟨k2,n2,R8⟩:=b;obtain⟨A1,c1,rfl,-⟩:=Lies.mk_iff.1 F;obtain⟨A2,c2,rfl,-⟩:=Lies.mk_iff.1 I;clear F I;obtain⟨w1,P⟩: ∃x,x=((g.alloc (H0 k1 n1 A1 uf.length c1)).alloc (H0 k2 n2 A2 R8.length c2)):=⟨_,rfl⟩;obtain⟨y,p,s1,e1⟩:=box2 P;go_enter func124,ntmps124;go_wp2_with fail;rw[<-P];clear P;refine(Ca.out w1 e1).mono ?_;rintro e w2 ⟨rfl,K⟩;have s2:=K.size;cases q with
 |true=>
  have HR:=hdq (show C=1 from HE.out);have Q:=e1;have J:=Q.trans K;go_wp2_with fail;go_ret;exact⟨by rw[HR.out];rfl,J⟩
 |false=>
  have O:=hdq (show C=if M=0/\T=0 then(if X=Y then 1 else 2) else 3 from HE.out);clear HE;have R:=K;have k:=cb3 (R.blk y);have m:=cb3 (R.blk p);go_wp2_with fail;clear k m;have Q:=e1;have J:=Q.trans K;refine(yj.out w2 J).mono ?_;rintro e o ⟨r,rfl,j,e3⟩;have s3:=e3.size;obtain⟨x1,x2,x3,x4,x5,rfl⟩:=j.three;have HX:=hdq j;clear j;have v:=R.trans e3;have k:=cb3 (v.blk y);have m:=cb3 (v.blk p);obtain⟨V,f⟩: ∃x,x=o.alloc (H0 x1 x2 x3 x4 x5):=⟨_,rfl⟩;have w:Ext o V:=f▸(xr o).alloc _;have t:=aS o (H0 x1 x2 x3 x4 x5);rw[<-f] at t;have s4:o.heap.size < V.heap.size:=O1 t;go_wp2_with fail;rw[<-f];clear f;clear k m;have l9:=J.trans e3;have H:=l9.trans w;refine(ym.out V H).mono ?_;rintro e u ⟨r,rfl,j,c⟩;have s5:=c.size;obtain⟨y1,y2,y3,y4,y5,rfl⟩:=j.three;have HY:=hdq j;clear j;simp only at HX HY⊢;by_cases d:M=0
  case neg=>
   have t1:(M !=0)=true:=by simp[d]
   have HR:=hdq (show C=3 from O.out.trans (if_neg (fun h=> d h.1)));clear d;have z:=H.trans c;have B:=v.trans w;have i:=B.trans c;have k:=cb3 (i.blk y);have m:=cb3 (i.blk p);have A:=c;have Z:=cb3 (A.blk t);go_wp2_with fail;go_ret;exact⟨by rw[HR.out];rfl,z.alloc _⟩
  subst d;by_cases hy0:T=0
  case neg=>
   have t1:(T !=0)=true:=by simp[hy0]
   have HR:=hdq (show C=3 from O.out.trans (if_neg (fun h=> hy0 h.2)));clear hy0;have z:=H.trans c;have B:=v.trans w;have i:=B.trans c;have k:=cb3 (i.blk y);have m:=cb3 (i.blk p);have A:=c;have Z:=cb3 (A.blk t);go_wp2_with fail;go_ret;exact⟨by rw[HR.out];rfl,z.alloc _⟩
  subst hy0;obtain⟨q,l⟩: ∃q,Z6 X Y=q:=⟨_,rfl⟩;have s:=hdq (show C=if q=true then 1 else 2 from by
   have h:(X=Y)↔q=true:=by rw[<-l];exact cy.symm
   rw[O.out,if_pos ⟨rfl,rfl⟩,ite_cond_congr (propext h)])
  have B:=v.trans w;have i:=B.trans c;have k:=cb3 (i.blk y);have m:=cb3 (i.blk p);have A:=c;have Z:=cb3 (A.blk t);obtain⟨w6,G⟩: ∃x,x=u.alloc (H0 y1 y2 y3 y4 y5):=⟨_,rfl⟩;have N:Ext u w6:=G▸(xr u).alloc _;have Bf:=aS u (H0 y1 y2 y3 y4 y5);rw[<-G] at Bf;have s6:u.heap.size < w6.heap.size:=O1 Bf;go_wp2_with fail;rw[<-G];clear G;clear k m Z;have U7:=w;have Jq:=U7.trans c;have Hc:=Jq.trans N;have et:=N;refine(kK X w6 Y _ _ (HX.out.ext Hc) (HY.out.ext et)).mono ?_;rintro e w7 ⟨rfl,e7⟩;have s7:=e7.size;rw[l];clear l;have z:=H.trans c;have gf:=z.trans N;have pq:=gf.trans e7;cases q with
  |true=>
   have HR:=hdq (show C=1 from s.out);go_wp2_with fail;go_ret;exact⟨by rw[HR.out];rfl,pq⟩
  |false=>
   have HR:=hdq (show C=2 from s.out);go_wp2_with fail;go_ret;exact⟨by rw[HR.out];rfl,pq⟩
def Ua(t:Tr):Tr×Int:=if(W6 t 200).2≠0 then(j2,2) else((W6 t 200).1,0)
theorem DH(t:Tr)(a:aL)(v:aT)(y:Lies a t v):
 aX prog 45 #[v] a fun e T=> ∃r,e= .returned (.tuple #[r,m0 (Ua t).2])/\InT T (fun b=> a.heap.size<=b) (Ua t).1 r/\Ext a T:=by
 obtain⟨z,u⟩: ∃z,j0 D0 t=z:=⟨_,rfl⟩;have HV:=hdq (fun W (K:Ext a W)=> u▸li t W v (y.ext K));have E:W6 t 200=if z=true then b9 200 t else(j2,3):=by unfold W6;rw[u];cases z <;> rfl
 have J:=hdq (fun(h:z=true) W (K:Ext a W)=> WG t 200 (by omega) (u.trans h) W v (y.ext K));have i:=hdq (show Ua t=if(W6 t 200).2≠0 then(j2,2) else((W6 t 200).1,0) from rfl);rw[E] at i;obtain⟨R,U⟩: ∃R,Ua t=R:=⟨_,rfl⟩;rw[U] at i⊢;clear U u E;obtain⟨X,V⟩: ∃X,b9 200 t=X:=⟨_,rfl⟩;rw[V] at i J;clear V;obtain⟨X,I⟩:=X;obtain⟨k,n,Y⟩:=t;obtain⟨A,cap,rfl,-⟩:=Lies.mk_iff.1 y;clear y;obtain⟨Z,M⟩: ∃x,x=((a.alloc (H0 k n A Y.length cap)).alloc (H0 0 0 none 0 0)):=⟨_,rfl⟩;obtain⟨C,l,s1,O⟩:=box2 M;go_enter func45,ntmps45;go_wp2_with fail;rw[<-M];clear M;refine(HV.out Z O).mono ?_;rintro e S ⟨rfl,p⟩;have s2:=p.size;cases z with
 |false=>
  have HR:=hdq (show R=(j2,2) from i.out);clear i J;have f:=p;have B:=cb3 (f.blk C);have g:=m9 (f.blk l);have N:=O;have m:=N.trans p;go_wp2_with fail;rw[HR.out];refine aP (v:= .tuple #[M0 0 0 none 0 0,m0 2]) (by simp[aR,results45,go_sem,g]) rfl ⟨_,rfl,d5 _ _ 0 0,(m.set3 (by omega) _ _ _)⟩
 |true=>
  have P:=hdq (show R=if I≠0 then(j2,2) else(X,0) from i.out);clear i;have f:=p;have B:=cb3 (f.blk C);have g:=m9 (f.blk l);go_wp2_with fail;clear B g;have N:=O;have m:=N.trans p;refine(J.out (by simp) S m).mono ?_;rintro e c ⟨r,rfl,hT,o⟩;have s3:=o.size;simp only at hT⊢;by_cases hc:I=0
  case neg=>
   have t1:(I !=0)=true:=by simp[hc]
   have HR:=hdq (show R=(j2,2) from P.out.trans (if_pos hc));clear hc;obtain⟨F,w,D,s,q,rfl⟩:=hT.three;have Q:=hdq hT;clear hT;have d:=f.trans o;have B:=cb3 (d.blk C);have g:=cbn (d.blk l);have j:Ext c (c.alloc (H0 F w D s q)):=(xr c).alloc _;have L:=m.trans o;have H:=cbn (j.blk (d.blk l));go_wp2_with fail;rw[HR.out];refine aP (v:= .tuple #[M0 0 0 none 0 0,m0 2]) (by simp[aR,results45,go_sem,g,H]) rfl ⟨_,rfl,d5 _ _ 0 0,((L.trans j).set3 (by omega) _ _ _)⟩
  subst hc;have HR:=hdq (show R=(X,0) from P.out.trans (if_neg (by simp)));have G:InT c (fun b=> a.heap.size<=b/\b≠a.heap.size+1) X r:=InT.mono (fun b (hb:S.heap.size<=b)=>⟨by omega,by omega⟩) (fun _ _=> rfl) hT;clear hT;obtain⟨F,w,D,s,q,rfl⟩:=G.three;have Q:=hdq G;clear G;have d:=f.trans o;have B:=cb3 (d.blk C);have g:=cbn (d.blk l);have j:Ext c (c.alloc (H0 F w D s q)):=(xr c).alloc _;have L:=m.trans o;have H:=cbn (j.blk (d.blk l));go_wp2_with fail;rw[HR.out];refine aP (v:= .tuple #[M0 F w D s q,m0 0]) (by simp[aR,results45,go_sem,g,H]) rfl ⟨_,rfl,InT.ret (Q.out.later j) _ _ _,((L.trans j).set3 (by omega) _ _ _)⟩
theorem BB(a b:Tr)(f:aL)(B A:aT)(y:Lies f a B)(v:Lies f b A):
 aX prog 81 #[B,A] f fun e U=> e= .returned (m0 (d4 a b))/\Ext f U:=by
 obtain⟨F,w⟩: ∃z,j0 D0 a=z:=⟨_,rfl⟩;obtain⟨E,c⟩: ∃z,j0 D0 b=z:=⟨_,rfl⟩;have gp:=hdq (fun W (p:Ext f W)=> w▸li a W B (y.ext p));have O:=hdq (fun W (p:Ext f W)=> c▸li b W A (v.ext p));have M:=hdq (fun(h:F=true) (Q:E=true) W (p:Ext f W)=> mF a b (w.trans h) (c.trans Q) W B A (y.ext p) (v.ext p));have n:=hdq (show d4 a b=if Yc a b 200=1 then 0 else if Yc a b 200=2 then 1 else 2 from rfl);have J:=hdq (show F=false\/E=false->Yc a b 200=0 from by
  intro h;unfold Yc;rw[w,c,if_neg];rcases h with rfl|rfl <;> simp)
 obtain⟨C,hC⟩: ∃C,d4 a b=C:=⟨_,rfl⟩;obtain⟨D,hD⟩: ∃D,Yc a b 200=D:=⟨_,rfl⟩;rw[hC] at n⊢;rw[hD] at n M J;clear hC hD w c;obtain⟨X,S,Z⟩:=a;obtain⟨k2,R,R8⟩:=b;obtain⟨A1,c1,rfl,-⟩:=Lies.mk_iff.1 y;obtain⟨V,P,rfl,-⟩:=Lies.mk_iff.1 v;clear y v;obtain⟨Y,H⟩: ∃x,x=((f.alloc (H0 X S A1 Z.length c1)).alloc (H0 k2 R V R8.length P)):=⟨_,rfl⟩;obtain⟨l,k,s1,L⟩:=box2 H;go_enter func81,ntmps81;go_wp2_with fail;rw[<-H];clear H;refine(gp.out Y L).mono ?_;rintro e T ⟨rfl,u⟩;have s2:=u.size;cases F with
 |false=>
  have I:=L;have r:=I.trans u;have HR:=hdq (show C=2 from by rw[n.out,J.out (.inl rfl)];rfl);have m:=u;have g:=cb3 (m.blk l);have i:=cb3 (m.blk k);go_wp2_with fail;go_ret;exact⟨by rw[HR.out];rfl,r⟩
 |true=>
  have m:=u;have g:=cb3 (m.blk l);have i:=cb3 (m.blk k);go_wp2_with fail;clear g i;have I:=L;have r:=I.trans u;refine(O.out T r).mono ?_;rintro e N ⟨rfl,t⟩;have s3:=t.size;cases E with
  |false=>
   have q:=r.trans t;have HR:=hdq (show C=2 from by rw[n.out,J.out (.inr rfl)];rfl);have d:=m.trans t;have g:=cb3 (d.blk l);have i:=cb3 (d.blk k);go_wp2_with fail;go_ret;exact⟨by rw[HR.out];rfl,q⟩
  |true=>
   have d:=m.trans t;have g:=cb3 (d.blk l);have i:=cb3 (d.blk k);go_wp2_with fail;clear g i;have q:=r.trans t;refine(M.out (by simp) (by simp) N q).mono ?_;rintro e w4 ⟨rfl,o⟩;have s4:=o.size;by_cases K:D=1
   case pos=>
    subst K;have s:=q.trans o;have HR:=hdq (show C=0 from by rw[n.out];rfl);have j:=d.trans o;have g:=cb3 (j.blk l);have i:=cb3 (j.blk k);go_wp2_with fail;go_ret;exact⟨by rw[HR.out];rfl,s⟩
   have t1:(D==1)=false:=beq_eq_false_iff_ne.2 K;by_cases G:D=2
   case pos=>
    subst G;have s:=q.trans o;have HR:=hdq (show C=1 from by rw[n.out];rfl);have j:=d.trans o;have g:=cb3 (j.blk l);have i:=cb3 (j.blk k);go_wp2_with fail;go_ret;exact⟨by rw[HR.out];rfl,s⟩
   have t2:(D==2)=false:=beq_eq_false_iff_ne.2 G;have s:=q.trans o;have HR:=hdq (show C=2 from by rw[n.out,if_neg K,if_neg G]);have j:=d.trans o;have g:=cb3 (j.blk l);have i:=cb3 (j.blk k);go_wp2_with fail;go_ret;exact⟨by rw[HR.out];rfl,s⟩
def UJ(d:aL)(c e:Nat)(A:Option Addr)(G:List Tr)(At:Option Addr)(a:List Tr)(ty:Nat->An):Prop:=
 ∀(W:aL) (N:Nat->Prop),Ext d W->(∀b,W.heap.size<=b->N b)->InK W N A G->InK W N At a-> ∀i:Nat,i < a.length-> ∀r,ty i=some r->
  aX prog 105 #[.int .i64 i,.pointer (some ⟨c,0,none⟩),.pointer (some ⟨e,0,none⟩)] W (q8 N W r)
structure Mb (wC w:aL) (N:Nat->Prop) (p1 p2:Nat) (A:Option Addr) (G:List Tr) (At:Option Addr) (ks:List Tr) (ty:Nat->An):Prop where
 hT:UJ wC p1 p2 A G At ks ty
 hx:Ext wC w
 hN: ∀b,w.heap.size<=b->N b
 hG:InK w N A G
 hK:InK w N At ks
theorem Mb.ext{c w d:aL}{N:Nat->Prop}{a f:Nat}{A:Option Addr}{G:List Tr}{At:Option Addr}{ks:List Tr}{ty:Nat->An}(h:Mb c w N a f A G At ks ty)(e:Ext w d):Mb c d N a f A G At ks ty:=
 ⟨h.hT,h.hx.trans e,fun b g=> h.hN b (Nat.le_trans e.size g),h.hG.later e,h.hK.later e⟩
theorem Mb.keep{f w c:aL}{N:Nat->Prop}{d j:Nat}{A:Option Addr}{G:List Tr}{At:Option Addr}{k:List Tr}{ty:Nat->An}(h:Mb f w N d j A G At k ty)(e:Ext w c){g:Nat}(i:w.heap.size<=g)(a:g < c.heap.size):Mb f c (fun b=> N b/\b≠g) d j A G At k ty:=
 ⟨h.hT,h.hx.trans e,Ia h.hN e.size a,h.hG.keep e i,h.hK.keep e i⟩
def pa(x:An)(a:Tr):Option Int:=match x with
 |none=> none
 |some (s,c)=> if c=0 then some (d4 s a) else some c
theorem Vv{x y:An}{a:Tr}{r:Tr×Int}(h:W3 x a y=some r): ∃c,pa x a=some c/\(c=0->y=some r)/\(c≠0->r=(j2,c)):=by
 rcases Ao h with⟨s,rfl,b⟩ |⟨s,c,rfl,b,d⟩
 · refine⟨d4 s a,(show(if(0:Int)=0 then some (d4 s a) else some 0)=_ from if_pos rfl),fun h=> ?_,fun h=> ?_⟩
   · rw[if_pos h] at b;exact b
   · rw[if_neg h] at b;simpa using b.symm
 · exact⟨c,(show(if c=0 then some (d4 s a) else some c)=_ from if_neg b),fun h=> absurd h b,fun _=> d⟩
theorem Vt{x:An}{a:Tr}{c:Int}(h:pa x a=some c):(∃s,x=some (s,0)/\c=d4 s a)\/ ∃s,x=some (s,c)/\c≠0:=by
 unfold pa at h;cases x with
 |none=> cases h
 |some p=>
  obtain⟨s,d⟩:=p;simp only at h
  split at h
  · rename_i b
    subst b;exact .inl ⟨s,rfl,by simpa using h.symm⟩
  · rename_i b
    simp only[Option.some.injEq] at h;subst h;exact .inr ⟨s,rfl,b⟩
def lf(x:An)(T:Tr):Option Int:=match X0 x 3 with
 |none=> none
 |some (s,c)=> if c=0 then(if d4 (kd s.kids 0) T=0 then some (i4 (kd s.kids 1) 2).2 else some (d4 (kd s.kids 0) T)) else some c
theorem AI{x y:An}{T:Tr}{r:Tr×Int}(h:v9 x T y=some r): ∃c,lf x T=some c/\(c=0->y=some r)/\(c≠0->r=(j2,c)):=by
 unfold lf;rcases Ao h with⟨s,i,a⟩ |⟨s,c,i,a,b⟩
 · rw[i]
   simp only[if_true]
   split at a
   · rename_i d
     rw[if_pos d];rcases Ao a with⟨f,b,g⟩ |⟨f,j,b,g,k⟩
     · have e:i4 (kd s.kids 1) 2=(f,0):=by simpa using b
       exact⟨0,by rw[e],fun _=> g,fun h=> absurd rfl h⟩
     · have e:i4 (kd s.kids 1) 2=(f,j):=by simpa using b
       exact⟨j,by rw[e],fun h=> absurd h g,fun _=> k⟩
   · rename_i d
     rw[if_neg d];exact⟨_,rfl,fun h=> absurd h d,fun _=> by simpa using a.symm⟩
 · rw[i]
   simp only;rw[if_neg a];exact⟨c,rfl,fun h=> absurd h a,fun _=> b⟩
theorem Sc{x y:An}{a:Tr}{r:Tr×Int}(h:W3 x a y=some r): ∃c,Hid (pa x a=some c)/\Hid (c=0->y=some r)/\Hid (c≠0->r=(j2,c)):=by
 obtain⟨c,e,b,d⟩:=Vv h;exact⟨c,hdq e,hdq b,hdq d⟩
theorem Jn{x y:An}{T:Tr}{r:Tr×Int}(h:v9 x T y=some r): ∃c,Hid (lf x T=some c)/\Hid (c=0->y=some r)/\Hid (c≠0->r=(j2,c)):=by
 obtain⟨c,d,a,b⟩:=AI h;exact⟨c,hdq d,hdq a,hdq b⟩
theorem WB{I:aL}{v x:Nat}{A:Option Addr}{G:List Tr}{At:Option Addr}{j:List Tr}{ty:Nat->An}(k n:Int)(ca ct:Nat)(D:j.length<=ct)(J:ct<=aV)(d:aL)(N:Nat->Prop)(l:Mb I d N v x A G At j ty)(i:Nat)(hi:i < j.length)(kind:Int)(r:Tr×Int)(h:X0 (ty i) kind=some r):aX prog 144 #[.agg #[.slice A G.length ca,m0 k,m0 n,.slice At j.length ct,.func (.func 105) #[] #[.pointer (some ⟨v,0,none⟩),.pointer (some ⟨x,0,none⟩)]],m0 i,m0 kind] d (q8 N d r):=by
 have C:=hdq hi;clear hi;obtain⟨s,c,m,w,q⟩:=a7 h;clear h;go_enter func144,ntmps144;go_wp2_with fail;generalize b:aO (aO d _) _=B;obtain⟨f,br,S⟩:=Ze b.symm l.hN;have a:=hdq (l.keep f (g:=d.heap.size+1) (aQ _) (O1 br));clear l;have F:=hdq (S);have X:=xr B;have Q:=F.out _ X.off;clear S b;refine((a.out.ext X).hT _ _ (a.out.ext X).hx (a.out.ext X).hN (a.out.ext X).hG (a.out.ext X).hK i C.out _ m.out).mono ?_;rintro e z ⟨u,rfl,hT,e⟩;replace X:=X.trans e;replace Q:=F.out _ X.off;obtain⟨_,_,_,_,_,rfl⟩:=hT.three;simp only;obtain⟨E,t⟩ |rfl:=cz c
 · have R:=cbn (X.blk br)
   have H:=fun o=> cbn ((X.alloc o).blk br)
   go_wp2_with fail;exact D9 (by simp[aR,results144,go_sem,R,H]) (q.out E.out) (((f.trans X).alloc _).set3 (aQ _) _ _ _) rfl
 have hr:=hdq (Option.some.inj (w.out rfl)).symm;clear m w q;go_wp2_with fail;generalize b:aO z _=y;obtain⟨p,e⟩:=nb b;replace F:=hdq (both (rb F.out (X.trans e)) (both (m7 p (X.ne br)) (hT.up e)));replace X:=X.trans e;replace a:=hdq (a.out.ext X);replace br:=X.blk br;replace f:=f.trans X;replace X:=xr y;replace Q:=F.out _ X.off;clear b p e;clear hT;refine(Qz s kind _ _ Q.1.1 _ Q.2.2.lies').mono ?_;rintro e K ⟨u,rfl,hT,e⟩;replace X:=X.trans e;replace Q:=F.out _ X.off;obtain⟨_,_,_,_,_,rfl⟩:=hT.three;have R:=cbn (X.blk br);go_wp2_with fail;exact R6 (by simp[aR,results144,go_sem,R]) (hT) (show r=((i4 s kind).1,(i4 s kind).2) from hr.out) (f.trans X) (aQ _) rfl
theorem rC{v:aL}{j g:Nat}{A:Option Addr}{G:List Tr}{At:Option Addr}{a:List Tr}{ty:Nat->An}(k n:Int)(ca ct:Nat)(d:a.length<=ct)(s:ct<=aV)(b:aL)(N:Nat->Prop)(p:Mb v b N j g A G At a ty)(i:Nat)(hi:i < a.length)(r:Tr×Int)(h:X0 (ty i) 2=some r):aX prog 180 #[.agg #[.slice A G.length ca,m0 k,m0 n,.slice At a.length ct,.func (.func 105) #[] #[.pointer (some ⟨j,0,none⟩),.pointer (some ⟨g,0,none⟩)]],m0 i] b fun e o=> e= .returned (.tuple #[m0 r.1.num,m0 r.2])/\Ext b o:=by
 have H:=hdq h;clear h;have q:=hdq hi;clear hi;obtain⟨⟨x,z,t⟩,c⟩:=r;go_enter func180,ntmps180;go_wp2_with fail;generalize f:aO b _=y;obtain⟨l,m⟩:=nb f;have Q:=xt l;clear f;refine(WB k n ca ct d s _ _ (p.ext m) i q.out 2 _ H.out).mono ?_;rintro e w ⟨u,rfl,hT,e⟩;obtain⟨B,C,rfl,-⟩:=InT.mk_iff.1 hT;replace Q:=xt (e.blk l);go_wp2_with fail;go_ret2;exact⟨rfl,(m.trans e).alloc _⟩
theorem JE{P:aL}{v r:Nat}{A:Option Addr}{G:List Tr}{At:Option Addr}{g:List Tr}{ty:Nat->An}(k n:Int)(ca ct:Nat)(L:g.length<=ct)(V:ct<=aV)(f:aL)(N:Nat->Prop)(F:Mb P f N v r A G At g ty)(i:Nat)(hi:i < g.length)(a:Tr)(B:aT)(b:InT f N a B)(c:Int)(h:pa (ty i) a=some c):aX prog 141 #[.agg #[.slice A G.length ca,m0 k,m0 n,.slice At g.length ct,.func (.func 105) #[] #[.pointer (some ⟨v,0,none⟩),.pointer (some ⟨r,0,none⟩)]],m0 i,B] f fun e E=> e= .returned (m0 c)/\Ext f E:=by
 have H:=hdq h;clear h;have K:=hdq hi;clear hi;have I:=hdq b;obtain⟨t,x,y⟩:=a;obtain⟨X,S,rfl,-⟩:=InT.mk_iff.1 b;clear b;obtain⟨s,d,hs,hd⟩: ∃s d,ty i=some (s,d)/\((d=0/\c=d4 s (.mk t x y))\/(d≠0/\c=d)):=by
  rcases Vt H.out with⟨s,q,o⟩ |⟨s,q,o⟩
  · exact⟨s,0,q,.inl ⟨rfl,o⟩⟩
  · exact⟨s,c,q,.inr ⟨o,rfl⟩⟩
 have C:=hdq hs;have p:=hdq hd;clear hs hd H;go_enter func141,ntmps141;go_wp2_with fail;generalize b:aO (aO f _) _=U;obtain⟨w,z,-,l⟩:=box2 b.symm;have Q:=xt w;have J:=cb3 z;clear b;have j:=F.ext l;refine(j.hT _ _ j.hx j.hN j.hG j.hK i K.out _ C.out).mono ?_;rintro e D ⟨u,rfl,hT,e⟩;obtain⟨_,_,_,_,_,rfl⟩:=hT.three;replace Q:=xt (e.blk w);replace J:=cb3 (e.blk z);simp only;rcases p.out with⟨rfl,rfl⟩ |⟨O,rfl⟩
 · clear p j
   go_wp2_with fail;generalize b:aO D _=R;obtain⟨T,m⟩:=nb b;refine(cF s (.mk t x y) _ _ _ (hT.later m).lies' (I.out.lies'.ext ((l.trans e).trans m))).mono ?_;rintro W Y ⟨rfl,M⟩;go_wp2_with fail;go_ret;exact⟨rfl,((l.trans e).trans m).trans M⟩
 · have t1:(c !=0)=true:=by simp[O]
   clear p j;go_wp2_with fail;go_ret;exact⟨rfl,(l.trans e).alloc _⟩
theorem gy{B:aL}{p o:Nat}{A:Option Addr}{G:List Tr}{At:Option Addr}{g:List Tr}{ty:Nat->An}(k n:Int)(ca ct:Nat)(l:g.length<=ct)(y:ct<=aV)(f:aL)(N:Nat->Prop)(v:Mb B f N p o A G At g ty)(i:Nat)(hi:i < g.length)(a:Tr)(s:aT)(b:InT f N a s)(c d:Int)(h:c=0->pa (ty i) a=some d)(j:c≠0->d=c):aX prog 145 #[.agg #[.slice A G.length ca,m0 k,m0 n,.slice At g.length ct,.func (.func 105) #[] #[.pointer (some ⟨p,0,none⟩),.pointer (some ⟨o,0,none⟩)]],m0 i,s,m0 c] f fun e u=> e= .returned (m0 d)/\Ext f u:=by
 have x:=hdq hi;clear hi;have z:=hdq b;obtain⟨E,I,J⟩:=a;obtain⟨H,C,rfl,-⟩:=InT.mk_iff.1 b;clear b;by_cases hc:c=0
 · have t:=hdq (h hc)
   clear h j;subst hc;go_enter func145,ntmps145;go_wp2_with fail;generalize b:aO (aO f _) _=F;obtain⟨q,r,-,m⟩:=box2 b.symm;have Q:=xt q;have w:=cb3 r;clear b;refine(JE k n ca ct l y _ _ (v.ext m) i x.out _ _ (z.out.later m) d t.out).mono ?_;rintro e D ⟨rfl,e⟩;replace Q:=xt (e.blk q);replace w:=cb3 (e.blk r);go_wp2_with fail;go_ret;exact⟨rfl,m.trans e⟩
 · obtain rfl:=j hc
   have t1:(d !=0)=true:=by simp[hc]
   clear h j hc;go_enter func145,ntmps145;go_wp2_with fail;go_ret;exact⟨rfl,((xr _).alloc _).alloc _⟩
end Go.Proofs.YtckhbnmfnpolgaaGreat
namespace Go.Proofs.YtckhbnmfnpolgaaGreat
open Go.RowKit
set_option maxHeartbeats 1000000
theorem Zp{k n:Int}{a:List Tr}(h:j0 D0 (.mk k n a)=true):U0 k=(a.length:Int):=(Z4 (Z3 h).1).1
theorem tH{n:Int}{b:List Tr}(h:j0 D0 (.mk 9 n b)=true):j0 D0 (.mk 5 0 [kd b 0,.mk 7 0 []])=true:=by
 have c:=Zp h;have f:U0 9=4:=rfl;rw[f] at c;obtain⟨i,e⟩:=Z3 h;obtain⟨p,z,s,a,rfl⟩: ∃p z s a,b= [p,z,s,a]:=by
  match b,c with
  | [p,z,s,a],_=> exact⟨p,z,s,a,rfl⟩
  | [],h=> simp at h
  | [_],h=> simp at h
  | [_,_],h=> simp at h
  | [_,_,_],h=> simp at h
  |_::_::_::_::_::_,h=> simp at h;omega
 have d:=(Z4 i).2.2.2 p (by simp);have k:=Br z;have j:=Br s;have h8:=Br a;simp only[cnt,W1] at e;have g:P0 D0 (.mk 5 0 [p,.mk 7 0 []]) 30=true:=by
  show(true &&(true &&(P0 D0 p (30 - 1)&&(true && true))))=true
  rw[d]
  rfl
 show(P0 D0 (.mk 5 0 [p,.mk 7 0 []]) 30 && decide (cnt (.mk 5 0 [p,.mk 7 0 []])<=400))=true
 rw[g,Bool.true_and,decide_eq_true_eq];simp only[cnt,W1];omega
theorem qe(b:Prop){f a:Nat}{G:List Tr}{k n:Int}{ks:List Tr}(hv:j0 D0 (.mk k n ks)=true)(hG:G.length<=20)
 (hk: ∀i,i < ks.length->E4 k i=0->Rl b (ia (Q0 f) G k ks i) (da (S0 a) G k ks i))
 (J:E4 k 1=1->(∃s,X0 (da (S0 a) G k ks 0) 2=some (s,0))->Rl b (ia (Q0 f) G k ks 1) (da (S0 a) G k ks 1))
 (v:k=4->(∃s,X0 (da (S0 a) G k ks 0) 2=some (s,0))-> ∀B,ia (Q0 f) G k ks 1=some (B,0)->da (S0 a) G k ks 1=some (B,0)->Rl b (thn (X0 (Q0 f G (kd ks 0)) 2) fun _=> thn (X0 (Q0 f (G++ [kd ks 0]) B) 2) fun _=> some (mkV (.mk 3 0 [kd ks 0,B]))) (thn (some (mkV (.mk 3 0 [kd ks 0,B]))) fun out=> thn (S0 a G out) fun _=> some (out,0)))
 (N:k=9->(∃s,X0 (da (S0 a) G k ks 0) 3=some (s,0))->b\/j0 D0 (Sb (kd ks 0))=true\/vf (ia (Q0 f) G k ks 2))
 (H:k=11-> ∀s,ia (Q0 f) G k ks 0=some (s,0)->da (S0 a) G k ks 0=some (s,0)->Rl b (Q0 f G s) (S0 a G s))
 (W:k=12-> ∀e,X0 (da (S0 a) G k ks 1) 10=some (e,0)->(∃s,X0 (da (S0 a) G k ks 0) 3=some (s,0))->b\/j0 D0 (.mk 5 0 [kd ks 0,kd e.kids 1])=true\/vf (ia (Q0 f) G k ks 2))
 (O:k=14->(∃s,X0 (da (S0 a) G k ks 0) 2=some (s,0))-> ∀s,i4 (kd ks 0) 13=(s,0)->(∃A,da (S0 a) G k ks 1=some (A,0)/\d4 A (kd s.kids 0)=0)->b\/j0 D0 (Z0 (kd ks 1) (kd s.kids 1) 0 0)=true\/vf (ia (Q0 f) G k ks 2)):
 Rl b (Q0 (f+1) G (.mk k n ks)) (S0 (a+1) G (.mk k n ks)):=by
 have e:Q0 (f+1) G (.mk k n ks)=thn (ke G (Q0 f) (ia (Q0 f) G k ks) k n ks) fun s=> some (mkV s):=by
  show(if _ then _ else _)=_
  rw[if_neg];rintro(h|h)
  · rw[hv] at h;cases h
  · omega
 have j:=Zp hv;have l: ∀i,b6 (ia (Q0 f) G k ks i):=fun i=>(Tn f _ _).ite (Tn f _ _)
 rw[e]
 show Rl b _ (Ub G (S0 a G) (da (S0 a) G k ks) k n ks)
 unfold ke Ub;simp only[Um];refine Rl.ite (fun h=> ?_) fun Q=> Rl.ite (fun h=> ?_) fun P=> Rl.ite (fun h=> ?_) fun U=> Rl.ite (fun h=> ?_) fun R=> Rl.ite (fun h=> ?_) fun S=> Rl.ite (fun h=> ?_) fun o=> Rl.ite (fun h=> ?_) fun I=> Rl.ite (fun h=> ?_) fun Y=> Rl.ite (fun h=> ?_) fun M=> Rl.ite (fun h=> ?_) fun F=> Rl.ite (fun h=> ?_) fun E=> Rl.ite (fun h=> ?_) fun z=> Rl.ite (fun h=> ?_) fun x=> ?_
 · unfold Mr ji
   by_cases g:(G.length:Int)<=n
   · rw[if_pos g,if_pos g,Wm (by decide)]
     exact Rl.rfl' _
   · rw[if_neg g,if_neg g]
     exact Rl.rfl' _
 · have L:=(Z4 (Z3 hv).1).2
   have d:n<=Ma k:=L.2.1;subst h;have r:Ma 2=3:=rfl;rw[r] at d;by_cases g:n=3
   · rw[if_pos g,if_pos (by omega),Wm (by decide)]
     exact Rl.rfl' _
   · rw[if_neg g,if_neg (by omega)]
     exact Rl.ok _ (Vu (by have:=L.1;omega) (by omega))
 · exact Rl.ok _ (by decide)
 · exact Rl.ok _ (by decide)
 · subst h
   have d:U0 8=1:=rfl;rw[Sl];exact(hk 0 (by omega) rfl).chk _ fun _=> Rl.ok _ (by decide)
 · have d:U0 k=2:=by rcases h with rfl|rfl <;> rfl
   have V:E4 k 0=0:=by rcases h with rfl|rfl <;> rfl
   have X:E4 k 1=1:=by rcases h with rfl|rfl <;> rfl
   unfold te;rw[Yd];refine((hk 0 (by omega) V).frm 2).seq fun s m c=> ?_
   rw[Yd];refine((J X ⟨s,c⟩).frm 2).seq fun w D p=> ?_
   have r:=ru c;have v:=ru p;exact Rl.ok _ (Vu (by omega) (by omega))
 · subst h
   have d:U0 4=2:=rfl;unfold Wo Oo;rw[Yd];refine((hk 0 (by omega) rfl).frm 2).seq fun s m c=> ?_
   rw[Yd];refine(J rfl ⟨s,c⟩).seq fun w D p=> ?_
   rw[Yd];simp only[Yd];exact v rfl ⟨s,c⟩ w D p
 · subst h
   have d:U0 5=2:=rfl;unfold On bj;rw[Yd];refine((hk 0 (by omega) rfl).frm 3).seq fun s m c=> ?_
   rw[Sl];exact(hk 1 (by omega) rfl).chk _ fun _=> Rl.rfl' _
 · subst h
   have d:U0 9=4:=rfl;unfold Vo km;rw[GB];refine(hk 0 (by omega) rfl).fam _ fun C=> ?_
   rw[Sl];refine Rl.has _ (hk 1 (by omega) rfl) (l 1) (.inr (.inl (tH hv))) fun _ _=> ?_
   rw[Sl];refine Rl.has _ (hk 2 (by omega) rfl) (l 2) (N rfl C) fun _ _=> ?_
   rw[Sl];exact(hk 3 (by omega) rfl).chk _ fun _=> Rl.rfl' _
 · subst h
   have d:U0 10=3:=rfl;unfold Oe;rw[Yd];refine((hk 0 (by omega) rfl).frm 2).seq fun s m c=> ?_
   rw[Sl];refine(hk 1 (by omega) rfl).chk _ fun _=> ?_
   rw[Sl];refine(hk 2 (by omega) rfl).chk _ fun _=> ?_
   have r:=ru c;exact Rl.ok _ (Vu (by omega) (by omega))
 · subst h
   have d:U0 11=1:=rfl;unfold Dq sq;rw[Yd];refine(hk 0 (by omega) rfl).seq fun s m c=> ?_
   rw[Yd];exact((H rfl s m c).frm 2).seq fun _ _ _=> Rl.rfl' _
 · subst h
   have d:U0 12=3:=rfl;unfold zp Pn;rw[Yd];refine((hk 1 (by omega) rfl).frm 10).seq fun s m c=> ?_
   rw[GB];refine(hk 0 (by omega) rfl).fam _ fun C=> ?_
   rw[Sl];exact Rl.has _ (hk 2 (by omega) rfl) (l 2) (W rfl s c C) fun _ _=> Rl.rfl' _
 · subst h
   have d:U0 14=3:=rfl;unfold Xp Tq;rw[Yd];refine((hk 0 (by omega) rfl).frm 2).seq fun s m c=> ?_
   rw[Yd];refine(Rl.rfl' _).seq fun w D p=> ?_
   rw[Sl];refine(hk 1 (by omega) rfl).chk _ fun T=> ?_
   rw[Sl];refine Rl.has _ (hk 2 (by omega) rfl) (l 2) (O rfl ⟨s,c⟩ w (Option.some.inj p) T) fun _ _=> Rl.ok _ ?_
   exact Vc (t:= .mk 14 n ks) hv (by show 0 < ks.length;omega)
 · have d:0 < ks.length:=by
    rcases Nat.eq_zero_or_pos ks.length with g|g
    · exfalso
      rw[g] at j;unfold U0 at j;simp only[Q,P,U,R,S,I,Y,M,F,E,z,x,if_false] at j;simp only[not_or] at o;simp only[o.1,o.2,if_false] at j
      split at j
      · cases j
      · split at j
        · cases j
        · cases j
    · exact g
   unfold jj Mk;rw[Yd];refine((hk 0 d (by unfold E4;simp only[not_or] at o;simp[o.1,o.2,I])).frm 13).seq fun s m c=> ?_
   by_cases q:k=15
   · rw[if_pos q,if_pos q]
     obtain⟨u,r,v,K⟩:=We c;obtain⟨-,-,-,hs⟩:=Hx v;obtain⟨Z,n',y⟩:=s;simp only[Tr.kind] at K;subst K;have h6:=Zp hs;have h7:U0 13=2:=rfl;exact Rl.ok _ (Vc hs (by show 0 < y.length;omega))
   · rw[if_neg q,if_neg q]
     exact Rl.rfl' _
end Go.Proofs.YtckhbnmfnpolgaaGreat
namespace Go.Proofs.YtckhbnmfnpolgaaGreat
open Go.RowKit
open M (Hd HR Cv Ty Lim Wb y6 U4)
theorem Sr{f:Nat}{G:List M.Tm}{t T B:M.Tm}(hG:O6 G)(h8:G.length<=8)(a:j0 D0 (enc t)=true)(b:j0 D0 (enc T)=true)(ht:Ty G t B)(lt:Lim G t)(c:Cv B T)(hT:y6 G T):Nb (Nq f (ctxE G) (enc t) (enc T)):=by
 refine(RA hG h8 (by simp[a,b])).thn fun _ _=>(Zj hG hT b).thn fun _ _=> ?_
 refine(Fk f G t B hG a ht lt).chk (fun s e=> ?_) (Nb.ok _);obtain⟨rfl,-⟩:=Mg hG a ht e;exact⟨B,rfl,c⟩

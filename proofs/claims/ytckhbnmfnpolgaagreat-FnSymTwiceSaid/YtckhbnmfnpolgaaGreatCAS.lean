/-
  Lemmas towards the law, 19: Contract, Extd, InfP.
-/
import Derived.Test.YtckhbnmfnpolgaaGreatC00
import Derived.Test.YtckhbnmfnpolgaaGreatCAR
open Go renaming World->aL,Calls->aX,maxLen->aV,bodyPost_ret->aP,results->aR,heap_alloc_new->aS,wpAnyH_take->iN,wpAnyH_ready->fQ
open Bool renaming true_and->bT
open Nat renaming one_mul->fP,add_assoc->dV,reduceAdd->dW,zero_mul->cW,add_zero->cU,le_trans->bL,lt_of_lt_of_le->aY
open Go.Act renaming put->eT
open List renaming getElem_toArray->bW,getElem_cons_succ->bR,getElem_cons_zero->bQ,setIfInBounds_toArray->aU,set_cons_zero->bN,set_cons_succ->bM,length_append->cR,length_singleton->cT
open Go.AllReadyH renaming cons->dS,nil->fM
open Option.some renaming injEq->bX
open Go.Proofs.Tryz
set_option linter.all false
set_option maxHeartbeats 4000000
set_option maxRecDepth 100000
namespace Go.Proofs.YtckhbnmfnpolgaaGreat
open Go.RowKit
theorem Zb{a:List Tr}{j:Nat}{t:Tr}(h:j < a.length)(e:a[j]=t):kd a j=t:=by
 unfold kd;rw[List.getD_eq_getElem?_getD,List.getElem?_eq_getElem h,e]
 rfl
def Pf(w:aL)(t:Tr)(e:Ending)(a:aL):Prop:= ∃r,e= .returned (.tuple #[r,.bool (j0 D0 t)])/\W0 w a 25 (okT t) r/\Ext w a
theorem Tx{W w:aL}{t:Tr}{u:Value}(h:W0 W w 25 t u):aX prog 137 #[u] w fun e b=> ∃i d g j l,e= .returned (.tuple #[M0 i d g j l,.bool (j0 D0 t)])/\W0 W b 25 (okT t) (M0 i d g j l)/\Ext w b:=by
 obtain⟨k,n,f⟩:=t;obtain⟨A,cap,rfl,hl,hc,hK⟩:=W0.mk_iff.1 h;refine(Lw k n f A cap w h.lies).mono ?_;rintro e b ⟨a,c⟩;by_cases hv:j0 D0 (.mk k n f)=true
 · rw[if_pos hv] at a
   refine⟨_,_,_,_,_,by rw[a,hv], ?_,c⟩;unfold okT;rw[if_pos hv];exact h.ext c
 · rw[if_neg hv] at a
   refine⟨0,0,none,0,0,by rw[a,Bool.eq_false_iff.2 hv], ?_,c⟩;unfold okT;rw[if_neg hv];exact W0.leaf _ _ _ 0 0
theorem pJ{t u g:Tr}(hT:g=Z0 u t 0 0)(w:aL)(v c:Value)(l:Lies w t v)(hv:j0 D0 t=true)(n:Lies w u c)(m:j0 D0 u=true):
 aX prog 119 #[v,m0 0,c] w fun e b=> ∃f a d i j,e= .returned (.tuple #[M0 f a d i j,.bool (j0 D0 g)])/\W0 w b 25 (okT g) (M0 f a d i j)/\Ext w b:=by
 subst hT;refine(IC t 0 u w v c l hv n m (by omega) (by omega)).mono ?_;rintro e b ⟨r,rfl,k,h⟩;obtain⟨f,a,d,i,j,rfl⟩:=k.three';exact⟨_,_,_,_,_,rfl,k,h⟩
theorem jJ(n:Int)(a:List Tr)(hv:j0 D0 (.mk 9 n a)=true)(w:aL)(A:Option Addr)(cap:Nat)(J:Lies w (.mk 9 n a) (M0 9 n A a.length cap))(hK:y22 w A a)(hl:a.length<=cap)(hc:cap<=aV)(k:(kd a 3).kind=7):
 aX prog 173 #[M0 9 n A a.length cap] w (Pf w (ctr 9 a)):=by
 obtain⟨hsh,C0⟩:=Z3 hv;have H:U0 9=(a.length:Int):=(Z4 hsh).1;have j6:a.length=4:=by have h9:(4:Int)=(a.length:Int):=H;omega
 have E:=(Z4 hsh).2.2.2;have K7: ∀t∈a,j0 D0 t=true:=fun t ht=> by
  have g:=E t ht;have z:=k9 ht;simp only[cnt] at C0;unfold j0;rw[sf g (by decide),bT,decide_eq_true_eq];omega
 have B:=hc;unfold aV at B;have D:=hdq (fun W (hW:Ext w W)=> Lr (.mk 9 n a) 30 hsh W _ (J.ext hW));obtain⟨j,m⟩: ∃j,j=(w.alloc (H0 9 n A a.length cap)).alloc (H0 0 0 none 0 0):=⟨_,rfl⟩;have I:Ext w j:=m▸((xr w).alloc _).alloc _;have l:j.heap[w.heap.size]? =some (H0 9 n A a.length cap):=by rw[m];exact(blk2 (xr _)).1
 have c:j.heap[w.heap.size+1]? =some (H0 0 0 none 0 0):=by rw[m];exact(blk2 (xr _)).2.1
 have Z:w.heap.size+1 < j.heap.size:=O1 c;have R:1 < a.length:=by omega
 have fw:(1:Int) <(a.length:Int):=by omega
 obtain⟨b1,o1,r,q,A1,C9,q16,O5,K,b,f,d,Z7,Y4,M6,P,Q⟩:=hK.get (xr w) R;simp only[fP,dV,dW] at b f d;have N:kd a 1= .mk r q q16:=Zb R K.out;subst O5;have S:ctr 9 a= .mk r q q16:=(ms k).trans N;rw[S];have G:rdx 9 a=2:=by unfold rdx;simp[k]
 obtain⟨TT,y⟩: ∃x,x=Tr.mk r q q16:=⟨_,rfl⟩;rw[<-y];have Y:=hdq y;clear y;have tx:cnt (.mk r q q16)<=400:=(Z3 (K7 _ Q)).2;clear S;have o:Y3 (.mk 9 n a)=2:=G;rw[o] at D;clear o G j6 H
 skip
 go_enter func173,ntmps173;go_wp2_with fail;rw[<-m];clear m;refine(D.out _ I).mono ?_;rintro e w1 ⟨rfl,g⟩;have i:=I.trans g;have L:=g.blk l;have C:=g.blk c;have hs1:w.heap.size+1 < w1.heap.size:=O1 C;obtain⟨X,z1,z2,-,-,-⟩:=own3 L;clear l c D g;have Ix:=i.cell b;have Di:=i.cell f;have Iw:=i.cell d;have N8:=hdq (P.ext i);clear K N M6 P Q b f d hK J;go_wp2_with fail;refine(Qg _ _ _ N8.out (by omega)).mono ?_;rintro e w2 ⟨u,rfl,s,z⟩;obtain⟨u1,u2,u3,u4,u5,rfl⟩:=s.three';go_wp2_with fail;rw[<-Y.out] at s;refine(Tx s).mono ?_;rintro e w3 ⟨V,F,M,O,T,rfl,hM,U⟩;have hE:=i.trans (z.trans U);obtain⟨s0,s1,s2,f0,f1,f2⟩:=own3 ((z.trans U).blk C);clear s L C Ix Di Iw X z1 z2;go_wp2_with fail;have hsz:=i.size;refine aP (v:= .tuple #[M0 V F M O T,.bool (j0 D0 TT)]) (by simp[aR,results173,go_sem,s0,s1,s2]) rfl ⟨_,rfl,W0.since (hM.after ((((ja.refl _ _).setCell (p:=⟨w.heap.size+1,0,none⟩) (by show w.heap.size+1 < _;omega) (m0 V)).setCell (p:=⟨w.heap.size+1,1,none⟩) (by show w.heap.size+1 < _;omega) (m0 F)).setCell (p:=⟨w.heap.size+1,2,none⟩) (by show w.heap.size+1 < _;omega) (.slice M O T))) (by omega),(((hE.setCell (p:=⟨w.heap.size+1,0,none⟩) (by show w.heap.size<=w.heap.size+1;omega) _).setCell (p:=⟨w.heap.size+1,1,none⟩) (by show w.heap.size<=w.heap.size+1;omega) _).setCell (p:=⟨w.heap.size+1,2,none⟩) (by show w.heap.size<=w.heap.size+1;omega) _)⟩
theorem KH(n:Int)(a:List Tr)(hv:j0 D0 (.mk 12 n a)=true)(w:aL)(A:Option Addr)(cap:Nat)(M:Lies w (.mk 12 n a) (M0 12 n A a.length cap))(hK:y22 w A a)(hl:a.length<=cap)(hc:cap<=aV)(z:(kd a 1).kind=11):
 aX prog 173 #[M0 12 n A a.length cap] w (Pf w (ctr 12 a)):=by
 obtain⟨hsh,C0⟩:=Z3 hv;have I:U0 12=(a.length:Int):=(Z4 hsh).1;have j6:a.length=3:=by have h9:(3:Int)=(a.length:Int):=I;omega
 have F:=(Z4 hsh).2.2.2;have K7: ∀t∈a,j0 D0 t=true:=fun t ht=> by
  have f:=F t ht;have s:=k9 ht;simp only[cnt] at C0;unfold j0;rw[sf f (by decide),bT,decide_eq_true_eq];omega
 have C:=hc;unfold aV at C;have E:=hdq (fun W (hW:Ext w W)=> Lr (.mk 12 n a) 30 hsh W _ (M.ext hW));obtain⟨i,k⟩: ∃i,i=(w.alloc (H0 12 n A a.length cap)).alloc (H0 0 0 none 0 0):=⟨_,rfl⟩;have J:Ext w i:=k▸((xr w).alloc _).alloc _;have j:i.heap[w.heap.size]? =some (H0 12 n A a.length cap):=by rw[k];exact(blk2 (xr _)).1
 have b:i.heap[w.heap.size+1]? =some (H0 0 0 none 0 0):=by rw[k];exact(blk2 (xr _)).2.1
 have hs0:w.heap.size+1 < i.heap.size:=O1 b;have V:2 < a.length:=by omega
 have gm:(2:Int) <(a.length:Int):=by omega
 obtain⟨b2,o2,q,m,A2,F7,q17,ic,Q,d,c,B,gj,ej,y,K,R⟩:=hK.get (xr w) V;simp only[Nat.reduceMul,dV,dW] at d c B;have L:kd a 2= .mk q m q17:=Zb V Q.out;subst ic;have S:ctr 12 a= .mk q m q17:=Rx.trans L;rw[S];have H:rdx 12 a=4:=by unfold rdx;simp[z]
 obtain⟨TT,r⟩: ∃x,x=Tr.mk q m q17:=⟨_,rfl⟩;rw[<-r];have M7:=hdq r;clear r;have tx:cnt (.mk q m q17)<=400:=(Z3 (K7 _ R)).2;clear S;have l:Y3 (.mk 12 n a)=4:=H;rw[l] at E;clear l H j6 I
 skip
 go_enter func173,ntmps173;go_wp2_with fail;rw[<-k];clear k;refine(E.out _ J).mono ?_;rintro e w1 ⟨rfl,f⟩;have g:=J.trans f;have N:=f.blk j;have D:=f.blk b;have hs1:w.heap.size+1 < w1.heap.size:=O1 D;obtain⟨Z,z1,z2,-,-,-⟩:=own3 N;clear j b E f;have Y:=g.cell d;have Ho:=g.cell c;have Ib:=g.cell B;have N8:=hdq (K.ext g);clear Q L y K R d c B hK M;go_wp2_with fail;refine(Qg _ _ _ N8.out (by omega)).mono ?_;rintro e w2 ⟨u,rfl,o,s⟩;obtain⟨u1,u2,u3,u4,u5,rfl⟩:=o.three';go_wp2_with fail;rw[<-M7.out] at o;refine(Tx o).mono ?_;rintro e w3 ⟨X,G,O,P,T,rfl,hM,U⟩;have hE:=g.trans (s.trans U);obtain⟨s0,s1,s2,f0,f1,f2⟩:=own3 ((s.trans U).blk D);clear o N D Y Ho Ib Z z1 z2;go_wp2_with fail;have hsz:=g.size;refine aP (v:= .tuple #[M0 X G O P T,.bool (j0 D0 TT)]) (by simp[aR,results173,go_sem,s0,s1,s2]) rfl ⟨_,rfl,W0.since (hM.after ((((ja.refl _ _).setCell (p:=⟨w.heap.size+1,0,none⟩) (by show w.heap.size+1 < _;omega) (m0 X)).setCell (p:=⟨w.heap.size+1,1,none⟩) (by show w.heap.size+1 < _;omega) (m0 G)).setCell (p:=⟨w.heap.size+1,2,none⟩) (by show w.heap.size+1 < _;omega) (.slice O P T))) (by omega),(((hE.setCell (p:=⟨w.heap.size+1,0,none⟩) (by show w.heap.size<=w.heap.size+1;omega) _).setCell (p:=⟨w.heap.size+1,1,none⟩) (by show w.heap.size<=w.heap.size+1;omega) _).setCell (p:=⟨w.heap.size+1,2,none⟩) (by show w.heap.size<=w.heap.size+1;omega) _)⟩
theorem gF(n:Int)(a:List Tr)(hv:j0 D0 (.mk 15 n a)=true)(w:aL)(A:Option Addr)(cap:Nat)(T:Lies w (.mk 15 n a) (M0 15 n A a.length cap))(hK:y22 w A a)(hl:a.length<=cap)(hc:cap<=aV)(k:(kd a 0).kind=14):
 aX prog 173 #[M0 15 n A a.length cap] w (Pf w (ctr 15 a)):=by
 obtain⟨hsh,C0⟩:=Z3 hv;have P:U0 15=(a.length:Int):=(Z4 hsh).1;have j6:a.length=1:=by have h9:(1:Int)=(a.length:Int):=P;omega
 have K:=(Z4 hsh).2.2.2;have K7: ∀t∈a,j0 D0 t=true:=fun t ht=> by
  have f:=K t ht;have j:=k9 ht;simp only[cnt] at C0;unfold j0;rw[sf f (by decide),bT,decide_eq_true_eq];omega
 have H:=hc;unfold aV at H;have J:=hdq (fun W (hW:Ext w W)=> Lr (.mk 15 n a) 30 hsh W _ (T.ext hW));obtain⟨i,o⟩: ∃i,i=(w.alloc (H0 15 n A a.length cap)).alloc (H0 0 0 none 0 0):=⟨_,rfl⟩;have S:Ext w i:=o▸((xr w).alloc _).alloc _;have m:i.heap[w.heap.size]? =some (H0 15 n A a.length cap):=by rw[o];exact(blk2 (xr _)).1
 have c:i.heap[w.heap.size+1]? =some (H0 0 0 none 0 0):=by rw[o];exact(blk2 (xr _)).2.1
 have hs0:w.heap.size+1 < i.heap.size:=O1 c;have E5:0 < a.length:=by omega
 have V8:(0:Int) <(a.length:Int):=by omega
 obtain⟨b0,o0,k0,n0,A0,p9,g,bu,Q,E,G,F,bi,gh,M9,z7,O⟩:=hK.get (xr w) E5;simp only[cW,cU] at E G F;have r:kd a 0= .mk k0 n0 g:=Zb E5 Q.out;subst bu;rw[r] at k;have fl:k0=14:=k;subst fl;have l:=K7 _ O;have X:U0 14=(g.length:Int):=(Z4 (Z3 l).1).1;have T7:g.length=3:=by have h9:(3:Int)=(g.length:Int):=X;omega
 have E0:1 < g.length:=by omega
 have qu:(1:Int) <(g.length:Int):=by omega
 obtain⟨b3,o3,s,z,A3,F8,j19,W5,V7,L,d,D,ft,Y6,B,F6,Y⟩:=M9.get (xr w) E0;simp only[fP,dV,dW] at L d D;have R:kd g 1= .mk s z j19:=Zb E0 V7.out;subst W5;have l8:ctr 15 a= .mk s z j19:=by rw[Nr,r];exact R
 rw[l8];have N:rdx 15 a=5:=by unfold rdx;rw[r];simp[Tr.kind]
 obtain⟨TT,C⟩: ∃x,x=Tr.mk s z j19:=⟨_,rfl⟩;rw[<-C];have M7:=hdq C;clear C;have tx:cnt (.mk s z j19)<=400:=by have f:=k9 Y;have j:=(Z3 l).2;simp only[cnt] at j;omega
 clear l8;have q:Y3 (.mk 15 n a)=5:=N;rw[q] at J;clear q N j6 P;clear T7;go_enter func173,ntmps173;go_wp2_with fail;rw[<-o];clear o;refine(J.out _ S).mono ?_;rintro e w1 ⟨rfl,f⟩;have b:=S.trans f;have U:=f.blk m;have I:=f.blk c;have hs1:w.heap.size+1 < w1.heap.size:=O1 I;obtain⟨z0,z1,z2,-,-,-⟩:=own3 U;clear m c J f;have xy:=b.cell E;have vy:=b.cell G;have xj:=b.cell F;have yg:=b.cell L;have xd:=b.cell d;have qh:=b.cell D;have N8:=hdq (F6.ext b);clear Q r M9 z7 O V7 R B F6 Y E G F L d D hK T X;go_wp2_with fail;refine(Qg _ _ _ N8.out (by omega)).mono ?_;rintro e w2 ⟨u,rfl,y,j⟩;obtain⟨u1,u2,u3,u4,u5,rfl⟩:=y.three';go_wp2_with fail;rw[<-M7.out] at y;refine(Tx y).mono ?_;rintro e w3 ⟨a1,M,V,Z,a5,rfl,hM,h3⟩;have hE:=b.trans (j.trans h3);obtain⟨s0,s1,s2,f0,f1,f2⟩:=own3 ((j.trans h3).blk I);clear y U I xy vy xj yg xd qh z0 z1 z2;go_wp2_with fail;have hsz:=b.size;refine aP (v:= .tuple #[M0 a1 M V Z a5,.bool (j0 D0 TT)]) (by simp[aR,results173,go_sem,s0,s1,s2]) rfl ⟨_,rfl,W0.since (hM.after ((((ja.refl _ _).setCell (p:=⟨w.heap.size+1,0,none⟩) (by show w.heap.size+1 < _;omega) (m0 a1)).setCell (p:=⟨w.heap.size+1,1,none⟩) (by show w.heap.size+1 < _;omega) (m0 M)).setCell (p:=⟨w.heap.size+1,2,none⟩) (by show w.heap.size+1 < _;omega) (.slice V Z a5))) (by omega),(((hE.setCell (p:=⟨w.heap.size+1,0,none⟩) (by show w.heap.size<=w.heap.size+1;omega) _).setCell (p:=⟨w.heap.size+1,1,none⟩) (by show w.heap.size<=w.heap.size+1;omega) _).setCell (p:=⟨w.heap.size+1,2,none⟩) (by show w.heap.size<=w.heap.size+1;omega) _)⟩
theorem MI(n:Int)(a:List Tr)(hv:j0 D0 (.mk 16 n a)=true)(w:aL)(A:Option Addr)(cap:Nat)(T:Lies w (.mk 16 n a) (M0 16 n A a.length cap))(hK:y22 w A a)(hl:a.length<=cap)(hc:cap<=aV)(k:(kd a 0).kind=14):
 aX prog 173 #[M0 16 n A a.length cap] w (Pf w (ctr 16 a)):=by
 obtain⟨hsh,C0⟩:=Z3 hv;have P:U0 16=(a.length:Int):=(Z4 hsh).1;have j6:a.length=1:=by have h9:(1:Int)=(a.length:Int):=P;omega
 have K:=(Z4 hsh).2.2.2;have K7: ∀t∈a,j0 D0 t=true:=fun t ht=> by
  have f:=K t ht;have j:=k9 ht;simp only[cnt] at C0;unfold j0;rw[sf f (by decide),bT,decide_eq_true_eq];omega
 have H:=hc;unfold aV at H;have J:=hdq (fun W (hW:Ext w W)=> Lr (.mk 16 n a) 30 hsh W _ (T.ext hW));obtain⟨i,o⟩: ∃i,i=(w.alloc (H0 16 n A a.length cap)).alloc (H0 0 0 none 0 0):=⟨_,rfl⟩;have S:Ext w i:=o▸((xr w).alloc _).alloc _;have m:i.heap[w.heap.size]? =some (H0 16 n A a.length cap):=by rw[o];exact(blk2 (xr _)).1
 have c:i.heap[w.heap.size+1]? =some (H0 0 0 none 0 0):=by rw[o];exact(blk2 (xr _)).2.1
 have hs0:w.heap.size+1 < i.heap.size:=O1 c;have E5:0 < a.length:=by omega
 have V8:(0:Int) <(a.length:Int):=by omega
 obtain⟨b0,o0,k0,n0,A0,p9,g,bu,Q,E,G,F,bi,gh,M9,z7,O⟩:=hK.get (xr w) E5;simp only[cW,cU] at E G F;have r:kd a 0= .mk k0 n0 g:=Zb E5 Q.out;subst bu;rw[r] at k;have fl:k0=14:=k;subst fl;have l:=K7 _ O;have X:U0 14=(g.length:Int):=(Z4 (Z3 l).1).1;have T7:g.length=3:=by have h9:(3:Int)=(g.length:Int):=X;omega
 have E0:2 < g.length:=by omega
 have qu:(2:Int) <(g.length:Int):=by omega
 obtain⟨b3,o3,s,z,A3,F8,j19,W5,V7,L,d,D,ft,Y6,B,F6,Y⟩:=M9.get (xr w) E0;simp only[Nat.reduceMul,dV,dW] at L d D;have R:kd g 2= .mk s z j19:=Zb E0 V7.out;subst W5;have l8:ctr 16 a= .mk s z j19:=by rw[bs,r];exact R
 rw[l8];have N:rdx 16 a=6:=by unfold rdx;rw[r];simp[Tr.kind]
 obtain⟨TT,C⟩: ∃x,x=Tr.mk s z j19:=⟨_,rfl⟩;rw[<-C];have M7:=hdq C;clear C;have tx:cnt (.mk s z j19)<=400:=by have f:=k9 Y;have j:=(Z3 l).2;simp only[cnt] at j;omega
 clear l8;have q:Y3 (.mk 16 n a)=6:=N;rw[q] at J;clear q N j6 P;clear T7;go_enter func173,ntmps173;go_wp2_with fail;rw[<-o];clear o;refine(J.out _ S).mono ?_;rintro e w1 ⟨rfl,f⟩;have b:=S.trans f;have U:=f.blk m;have I:=f.blk c;have hs1:w.heap.size+1 < w1.heap.size:=O1 I;obtain⟨z0,z1,z2,-,-,-⟩:=own3 U;clear m c J f;have xy:=b.cell E;have vy:=b.cell G;have xj:=b.cell F;have yg:=b.cell L;have xd:=b.cell d;have qh:=b.cell D;have N8:=hdq (F6.ext b);clear Q r M9 z7 O V7 R B F6 Y E G F L d D hK T X;go_wp2_with fail;refine(Qg _ _ _ N8.out (by omega)).mono ?_;rintro e w2 ⟨u,rfl,y,j⟩;obtain⟨u1,u2,u3,u4,u5,rfl⟩:=y.three';go_wp2_with fail;rw[<-M7.out] at y;refine(Tx y).mono ?_;rintro e w3 ⟨a1,M,V,Z,a5,rfl,hM,h3⟩;have hE:=b.trans (j.trans h3);obtain⟨s0,s1,s2,f0,f1,f2⟩:=own3 ((j.trans h3).blk I);clear y U I xy vy xj yg xd qh z0 z1 z2;go_wp2_with fail;have hsz:=b.size;refine aP (v:= .tuple #[M0 a1 M V Z a5,.bool (j0 D0 TT)]) (by simp[aR,results173,go_sem,s0,s1,s2]) rfl ⟨_,rfl,W0.since (hM.after ((((ja.refl _ _).setCell (p:=⟨w.heap.size+1,0,none⟩) (by show w.heap.size+1 < _;omega) (m0 a1)).setCell (p:=⟨w.heap.size+1,1,none⟩) (by show w.heap.size+1 < _;omega) (m0 M)).setCell (p:=⟨w.heap.size+1,2,none⟩) (by show w.heap.size+1 < _;omega) (.slice V Z a5))) (by omega),(((hE.setCell (p:=⟨w.heap.size+1,0,none⟩) (by show w.heap.size<=w.heap.size+1;omega) _).setCell (p:=⟨w.heap.size+1,1,none⟩) (by show w.heap.size<=w.heap.size+1;omega) _).setCell (p:=⟨w.heap.size+1,2,none⟩) (by show w.heap.size<=w.heap.size+1;omega) _)⟩
theorem OH(n:Int)(b:List Tr)(hv:j0 D0 (.mk 5 n b)=true)(w:aL)(A:Option Addr)(cap:Nat)(b8:Lies w (.mk 5 n b) (M0 5 n A b.length cap))(hK:y22 w A b)(hl:b.length<=cap)(hc:cap<=aV)(K:(kd b 0).kind=4):
 aX prog 173 #[M0 5 n A b.length cap] w (Pf w (ctr 5 b)):=by
 obtain⟨hsh,C0⟩:=Z3 hv;have a8:U0 5=(b.length:Int):=(Z4 hsh).1;have j6:b.length=2:=by have h9:(2:Int)=(b.length:Int):=a8;omega
 have hsk:=(Z4 hsh).2.2.2;have K7: ∀t∈b,j0 D0 t=true:=fun t ht=> by
  have d:=hsk t ht;have J:=k9 ht;simp only[cnt] at C0;unfold j0;rw[sf d (by decide),bT,decide_eq_true_eq];omega
 have hcc:=hc;unfold aV at hcc;have C5:=hdq (fun W (hW:Ext w W)=> Lr (.mk 5 n b) 30 hsh W _ (b8.ext hW));obtain⟨H,M⟩: ∃H,H=(w.alloc (H0 5 n A b.length cap)).alloc (H0 0 0 none 0 0):=⟨_,rfl⟩;have hX:Ext w H:=M▸((xr w).alloc _).alloc _;have L:H.heap[w.heap.size]? =some (H0 5 n A b.length cap):=by rw[M];exact(blk2 (xr _)).1
 have u:H.heap[w.heap.size+1]? =some (H0 0 0 none 0 0):=by rw[M];exact(blk2 (xr _)).2.1
 have hs0:w.heap.size+1 < H.heap.size:=O1 u;have E5:0 < b.length:=by omega
 have V8:(0:Int) <(b.length:Int):=by omega
 obtain⟨g,o0,k0,n0,A0,p9,k,bu,T4,V,N6,X,bi,gh,M9,z7,z6⟩:=hK.get (xr w) E5;simp only[cW,cU] at V N6 X;have O:kd b 0= .mk k0 n0 k:=Zb E5 T4.out;have B0:1 < b.length:=by omega
 have fw:(1:Int) <(b.length:Int):=by omega
 obtain⟨b1,o1,F,E,A1,C9,q16,O5,E6,s,D,C,Z7,Y4,M6,p5,j9⟩:=hK.get (xr w) B0;simp only[fP,dV,dW] at s D C;have I8:kd b 1= .mk F E q16:=Zb B0 E6.out;subst bu
 injection O5 with O5
 injection O5 with dh Z hD1
 subst dh Z;rw[O] at K;have Y:k0=4:=K;subst Y;have z:=K7 _ z6;have J0:U0 4=(k.length:Int):=(Z4 (Z3 z).1).1;have T7:k.length=2:=by have h9:(2:Int)=(k.length:Int):=J0;omega
 have E0:1 < k.length:=by omega
 have qu:(1:Int) <(k.length:Int):=by omega
 obtain⟨j,m,G,I,A3,F8,j19,W5,V7,Q,B,U,ft,Y6,S,F6,q9⟩:=M9.get (xr w) E0;simp only[fP,dV,dW] at Q B U;have C6:kd k 1= .mk G I j19:=Zb E0 V7.out;subst W5;have C4:=K7 _ j9;have hv3:j0 D0 (.mk G I j19)=true:=by
  have d:=(Z4 (Z3 z).1).2.2.2 _ q9;have J:=k9 q9;have h3:=(Z3 z).2;simp only[cnt] at h3;unfold j0;rw[sf d (by decide),bT,decide_eq_true_eq];omega
 have l8:ctr 5 b=Z0 (.mk F E q16) (.mk G I j19) 0 0:=by rw[Zr,O,I8];exact congrArg (fun t=> Z0 (.mk F E q16) t 0 0) C6
 rw[l8];have I4:rdx 5 b=1:=by unfold rdx;rw[O];simp[Tr.kind]
 obtain⟨TT,T⟩: ∃x,x=Z0 (.mk F E q16) (.mk G I j19) 0 0:=⟨_,rfl⟩;rw[<-T];have M7:=hdq T;clear T l8;have N:Y3 (.mk 5 n b)=1:=I4;rw[N] at C5;clear N I4 j6 a8;clear T7;go_enter func173,ntmps173;go_wp2_with fail;rw[<-M];clear M;refine(C5.out _ hX).mono ?_;rintro e l ⟨rfl,d⟩;have f:=hX.trans d;have u6:=d.blk L;have o8:=d.blk u;have hs1:w.heap.size+1 < l.heap.size:=O1 o8;obtain⟨z0,z1,z2,-,-,-⟩:=own3 u6;clear L u C5 d;have Cn:g < w.heap.size:=World.block_lt_of_cell? _ _ V;have Jg:j < w.heap.size:=World.block_lt_of_cell? _ _ Q;have P:=hdq (show∀c:aL,(∀y,y < l.heap.size->y≠w.heap.size+1->c.heap[y]? =l.heap[y]?)->c.cell? ⟨w.heap.size,2,none⟩=some (.slice (some ⟨g,o0,none⟩) b.length cap)/\c.cell? ⟨g,o0+2,none⟩=some (.slice (some ⟨j,m,none⟩) k.length p9)/\c.cell? ⟨j,m+3,none⟩=some (m0 G)/\c.cell? ⟨j,m+4,none⟩=some (m0 I)/\c.cell? ⟨j,m+5,none⟩=some (.slice A3 j19.length F8)/\c.cell? ⟨g,o0+3,none⟩=some (m0 F)/\c.cell? ⟨g,o0+4,none⟩=some (m0 E)/\c.cell? ⟨g,o0+5,none⟩=some (.slice A1 q16.length C9) from fun c h=> by
  have r: ∀q i v,q < w.heap.size+1->l.cell? ⟨q,i,none⟩=some v->c.cell? ⟨q,i,none⟩=some v:=fun q i v hq hv=>(World.cell?_of_block (a:=⟨q,i,none⟩) (h q (by omega) (by omega))).trans hv
  exact⟨r _ _ _ (by omega) z2,r _ _ _ (by omega) (f.cell X),r _ _ _ (by omega) (f.cell Q),r _ _ _ (by omega) (f.cell B),r _ _ _ (by omega) (f.cell U),r _ _ _ (by omega) (f.cell s),r _ _ _ (by omega) (f.cell D),r _ _ _ (by omega) (f.cell C)⟩)
 have o:Ext l l.drew:=(xr l).drew;have L3:=F6.ext f;have L1:=p5.ext f;clear T4 E6 V7 O I8 C6 M9 M6 S z7 p5 F6 z6 j9 q9 hK b8 J0 V N6 X s D C Q B U z0 z1 z2 u6;go_wp2_with fail
 go_region_held3 (fun c=> c.cell? ⟨w.heap.size,2,none⟩=some (.slice (some ⟨g,o0,none⟩) b.length cap)/\c.cell? ⟨g,o0+2,none⟩=some (.slice (some ⟨j,m,none⟩) k.length p9)/\c.cell? ⟨j,m+3,none⟩=some (m0 G)/\c.cell? ⟨j,m+4,none⟩=some (m0 I)/\c.cell? ⟨j,m+5,none⟩=some (.slice A3 j19.length F8)/\c.cell? ⟨g,o0+3,none⟩=some (m0 F)/\c.cell? ⟨g,o0+4,none⟩=some (m0 E)/\c.cell? ⟨g,o0+5,none⟩=some (.slice A1 q16.length C9))
  (first|exact P.out _ (fun y d J=> by rw[Below.heap_setCell _ _ _ _ J,Below.heap_setCell _ _ _ _ J,Below.heap_setCell _ _ _ _ J];exact(o.trans R).heap y d) |exact P.out _ (fun y d _=>(o.trans R).heap y d) |exact P.out _ (fun y d _=> o.heap y d))
  (first|(go_at_call 119;refine(pJ M7.out _ _ _ (L3.ext o) hv3 (L1.ext o) C4).mono ?_;rintro e w2 ⟨a1,a2,a3,a4,a5,rfl,hM,R⟩;obtain⟨s0,s1,s2,f0,f1,f2⟩:=own3 ((o.trans R).blk o8)))
 have hE:=f.trans (o.trans R);have yh:l.heap.size<=l.drew.heap.size:=o.size;clear P o8;go_wp2_with fail;have hsz:=f.size;refine aP (v:= .tuple #[M0 a1 a2 a3 a4 a5,.bool (j0 D0 TT)]) (by simp[aR,results173,go_sem,s0,s1,s2]) rfl ⟨_,rfl,W0.since (hM.after ((((ja.refl _ _).setCell (p:=⟨w.heap.size+1,0,none⟩) (by show w.heap.size+1 < _;omega) (m0 a1)).setCell (p:=⟨w.heap.size+1,1,none⟩) (by show w.heap.size+1 < _;omega) (m0 a2)).setCell (p:=⟨w.heap.size+1,2,none⟩) (by show w.heap.size+1 < _;omega) (.slice a3 a4 a5))) (by omega),(((hE.setCell (p:=⟨w.heap.size+1,0,none⟩) (by show w.heap.size<=w.heap.size+1;omega) _).setCell (p:=⟨w.heap.size+1,1,none⟩) (by show w.heap.size<=w.heap.size+1;omega) _).setCell (p:=⟨w.heap.size+1,2,none⟩) (by show w.heap.size<=w.heap.size+1;omega) _)⟩
end Go.Proofs.YtckhbnmfnpolgaaGreat
namespace Go.Proofs.YtckhbnmfnpolgaaGreat
open Go.RowKit
attribute [local go_sem ↓] Go.wp_at_zero Go.wp_at_succ
theorem VH(G:List Tr)(t:Tr)(a:aL)(N:Nat->Prop)(A:Option Addr)(ca:Nat)(v:Value)(ht:InT a N t v)(d:20<=G.length):
 aX prog 139 #[.slice A G.length ca,v] a fun e b=> e= .returned (.tuple #[.slice none 0 0,m0 2])/\Ext a b:=by
 obtain⟨k,n,c⟩:=t;obtain⟨At,ct,rfl,hl,hc,hK⟩:=InT.mk_iff.1 ht;have t1:decide ((20:Int)<=(G.length:Int))=true:=decide_eq_true (by omega);clear ht hK;go_enter func139,ntmps139;go_wp2_with fail;go_ret2;exact⟨rfl,(xr _).alloc _⟩
theorem XF(G:List Tr)(t:Tr)(f:aL)(N:Nat->Prop)(hN: ∀b,f.heap.size<=b->N b)(A:Option Addr)(ca:Nat)(v:Value)(hG:InK f N A G)(ht:InT f N t v)(hL:G.length < 20):
 aX prog 139 #[.slice A G.length ca,v] f fun e q=> ∃A' c',e= .returned (.tuple #[.slice A' (G.length+1) c',.int .i64 0])/\G.length+1<=c'/\c'<=aV/\InK q N A' (G++ [t])/\Ext f q:=by
 obtain⟨k,n,o⟩:=t;obtain⟨At,ct,rfl,hl,hc,hK⟩:=InT.mk_iff.1 ht;have t1:decide ((20:Int)<=(G.length:Int))=false:=decide_eq_false (by omega);obtain⟨i0,hi,P,J,C⟩:=info_parts Sy;have HT:=hdq ht;have HG:=hdq hG;have HN:=hdq hN;have p:=(xr f).alloc (.cells #[.int .i64 k,.int .i64 n,.slice At o.length ct] 25);have B1:=aS f (.cells #[.int .i64 k,.int .i64 n,.slice At o.length ct] 25);obtain⟨r,d9⟩: ∃x,x=f.alloc (.cells #[.int .i64 k,.int .i64 n,.slice At o.length ct] 25):=⟨_,rfl⟩;rw[<-d9] at p B1;clear ht hK hG hN;go_enter func139,ntmps139;go_wp2_with fail;rw[<-d9];clear d9;obtain⟨z0,z1,z2,-,-,-⟩:=own3 B1;have z:=hdq (show∀q,Ext r q->q.cell? ⟨f.heap.size,0,none⟩=some (.int .i64 k)/\q.cell? ⟨f.heap.size,1,none⟩=some (.int .i64 n)/\q.cell? ⟨f.heap.size,2,none⟩=some (.slice At o.length ct) from fun q h=>⟨h.cell z0,h.cell z1,h.cell z2⟩);clear z0 z1 z2 B1;have hsz:=p.size;have j:Ext r r.drew:=(xr r).drew;have M:=hdq (show∀(wc l V:aL) (v2:Value) (s:List Value) (g:Nat),Ext r wc->wc.heap.size<=l.heap.size->Ext l V->l.ownsRow wc.heap.size 25 3 v2 G.length s->I1 l (fun b=> N b/\b < wc.heap.size) s G->T8 (fun b=> b < wc.heap.size/\ ¬N b) wc V 25 v2 G from fun wc l V v2 s g hc h1 h2 h3 h4=> by
  have:=T8.ext (X:=fun b=> b < wc.heap.size/\ ¬N b) (W:=wc) (w:=l) (e:=25) (v:=v2) (ks:=G) ⟨s,h3,h4.mono (fun b d=>⟨by omega,fun e=> by have:=(h3.lt b e).1;omega,fun e=> e.2 d.1⟩) (fun _ _=> rfl)⟩ h2;exact this)
 have L:=hdq HT.out.bound;refine wp_region_held_drew (S:=fun q=> q.cell? ⟨f.heap.size,0,none⟩=some (.int .i64 k)/\q.cell? ⟨f.heap.size,1,none⟩=some (.int .i64 n)/\q.cell? ⟨f.heap.size,2,none⟩=some (.slice At o.length ct)) (by kernel_rfl) (z.out _ j) (fun _=> ?_);refine iN (i:=0) (v:= ?v0) rfl (by kernel_rfl) (by kernel_rfl) (by kernel_rfl) (fun _ _ _ h=> h) (Or.inl ⟨by rfl, ?hy0⟩) (by assumption) ?rest0
 case hy0=>(intro w a;(try dsimp only at a);go_simp;(try with_reducible rfl))
 try simp only[eT,bW,bR,bQ,aU,bN,bM]
 refine iN (i:=2) (v:= ?v2) rfl (by kernel_rfl) (by kernel_rfl) (by kernel_rfl) (fun _ _ _ h=> h) (Or.inl ⟨by rfl, ?hy2⟩) (by assumption) ?rest2
 case hy2=>(intro w a;(try dsimp only at a);go_simp;(try with_reducible rfl))
 try simp only[eT,bW,bR,bQ,aU,bN,bM]
 refine fQ (rs:= [1,3]) (by kernel_rfl) (by simp) ?_;refine dS rfl (fun K hK=> ?_) (dS rfl (fun K hK=> ?_) fM)
 · (go_simp;go_at_call 179;refine(QD G _ N A ca (HG.out.later (p.trans j)) (by omega)).mono ?_;rintro e l ⟨v2,s,rfl,y,O,m⟩;dsimp only)
   refine hK.out _ _ (z.out _ (j.trans m)) (fun c=> ?_);clear hK K
   try simp only[eT,bW,bR,bQ,aU,bN,bM]
   refine fQ (rs:= [3]) (by kernel_rfl) (by simp) ?_;refine dS rfl (fun K hK=> ?_) fM
   go_simp
   refine hK.out _ _ (z.out _ ((j.trans m).alloc _)) (fun c=> ?_);clear hK K
   try simp only[eT,bW,bR,bQ,aU,bN,bM]
   have F:=M.out r.drew l (l.alloc (.cells #[.int .i64 k,.int .i64 n,.slice At o.length ct] 25)) _ s 0 j m.size ((xr l).alloc _) y O;have hs3:f.heap.size<=(l.alloc (.cells #[.int .i64 k,.int .i64 n,.slice At o.length ct] 25)).heap.size:=((p.trans ((j.trans m).alloc _))).size;refine fQ (rs:= [4]) (by kernel_rfl) (by simp) ?_;refine dS rfl (fun K hK=> ?_) fM;have R:Ext f (l.alloc (.cells #[.int .i64 k,.int .i64 n,.slice At o.length ct] 25)):=p.trans ((j.trans m).alloc _);have u:f.heap.size<=(r.drew).heap.size:=(p.trans j).size;refine Hw _ (.tmp 10) (.tmp 12) _ (by rfl) 25 i0 _ underlying23 hi P J C rfl (by rfl) F (bL m.size ((xr l).alloc _).size) (tr:= .mk k n o) (InT.mono (fun b d=>⟨aY d.2 R.size,fun e=> by have:=(y.lt b e).1;omega,fun e=> e.2 d.1⟩) (fun b d=> R.heap b d.2) L.out) (by rfl) (aS _ _) (by omega) ?_ (fun b d=> d.1);intro v5 D T B;have H:Ext r D:=Ext.trans' ((j.trans m).alloc _) B (j).size;refine hK.out _ _ (z.out _ H) (fun c=> ?_);clear hK K;obtain⟨Q,Z,rfl,U,Y,E,-⟩:=T.lies (fun b d=> d.1);have I:InK D N Q (G++ [.mk k n o]):=InK.mono (fun b d=> by
    by_cases e:N b
    · exact e
    · exact HN.out b (bL u (Nat.not_lt.1 fun h=> d.2 ⟨h,e⟩))) (fun _ _=> rfl) E
   rw[cR,cT] at U⊢;have Jz:=hdq I;clear I E T B F O y
   try simp only[eT,bW,bR,bQ,aU,bN,bM]
   refine iN (i:=5) (v:= ?vc5) rfl (by kernel_rfl) (by kernel_rfl) (by kernel_rfl) (fun _ _ _ h=> h) (Or.inl ⟨by rfl, ?hyc5⟩) (by assumption) ?restc5
   case hyc5=>(intro w a;(try dsimp only at a);go_simp;(try with_reducible rfl))
   try simp only[eT,bW,bR,bQ,aU,bN,bM]
   refine iN (i:=6) (v:= ?vc6) rfl (by kernel_rfl) (by kernel_rfl) (by kernel_rfl) (fun _ _ _ h=> h) (Or.inl ⟨by rfl, ?hyc6⟩) (by assumption) ?restc6
   case hyc6=>(intro w a;(try dsimp only at a);go_simp;(try with_reducible rfl))
   try simp only[eT,bW,bR,bQ,aU,bN,bM]
   refine wpAnyH_done (by kernel_rfl) ?_ _;go_wp2_with fail;go_ret2;exact⟨Q,Z,rfl,U,Y,Jz.out,p.trans H⟩
 · go_simp
   refine hK.out _ _ (z.out _ (j.alloc _)) (fun c=> ?_);clear hK K
   try simp only[eT,bW,bR,bQ,aU,bN,bM]
   refine fQ (rs:= [1]) (by kernel_rfl) (by simp) ?_;refine dS rfl (fun K hK=> ?_) fM
   (go_simp;go_at_call 179;refine(QD G _ N A ca (HG.out.later (p.trans (j.alloc _))) (by omega)).mono ?_;rintro e l ⟨v2,s,rfl,y,O,m⟩;dsimp only)
   refine hK.out _ _ (z.out _ ((j.alloc _).trans m)) (fun c=> ?_);clear hK K
   try simp only[eT,bW,bR,bQ,aU,bN,bM]
   have F:=M.out _ l l _ s 0 (j.alloc _) m.size (xr _) y O;have hs3:f.heap.size<=(l).heap.size:=(p.trans ((j.alloc _).trans m)).size;refine fQ (rs:= [4]) (by kernel_rfl) (by simp) ?_;refine dS rfl (fun K hK=> ?_) fM;have R:Ext f (l):=p.trans ((j.alloc _).trans m);have u:f.heap.size<=(r.drew.alloc (.cells #[.int .i64 k,.int .i64 n,.slice At o.length ct] 25)).heap.size:=(p.trans (j.alloc _)).size;refine Hw _ (.tmp 10) (.tmp 12) _ (by rfl) 25 i0 _ underlying23 hi P J C rfl (by rfl) F (m.size) (tr:= .mk k n o) (InT.mono (fun b d=>⟨aY d.2 R.size,fun e=> by have:=(y.lt b e).1;omega,fun e=> e.2 d.1⟩) (fun b d=> R.heap b d.2) L.out) (by rfl) (m.blk (aS _ _)) (by omega) ?_ (fun b d=> d.1);intro v5 D T B;have H:Ext r D:=Ext.trans' ((j.alloc _).trans m) B ((j.alloc _)).size;refine hK.out _ _ (z.out _ H) (fun c=> ?_);clear hK K;obtain⟨Q,Z,rfl,U,Y,E,-⟩:=T.lies (fun b d=> d.1);have I:InK D N Q (G++ [.mk k n o]):=InK.mono (fun b d=> by
    by_cases e:N b
    · exact e
    · exact HN.out b (bL u (Nat.not_lt.1 fun h=> d.2 ⟨h,e⟩))) (fun _ _=> rfl) E
   rw[cR,cT] at U⊢;have Jz:=hdq I;clear I E T B F O y
   try simp only[eT,bW,bR,bQ,aU,bN,bM]
   refine iN (i:=5) (v:= ?vb5) rfl (by kernel_rfl) (by kernel_rfl) (by kernel_rfl) (fun _ _ _ h=> h) (Or.inl ⟨by rfl, ?hyb5⟩) (by assumption) ?restb5
   case hyb5=>(intro w a;(try dsimp only at a);go_simp;(try with_reducible rfl))
   try simp only[eT,bW,bR,bQ,aU,bN,bM]
   refine iN (i:=6) (v:= ?vb6) rfl (by kernel_rfl) (by kernel_rfl) (by kernel_rfl) (fun _ _ _ h=> h) (Or.inl ⟨by rfl, ?hyb6⟩) (by assumption) ?restb6
   case hyb6=>(intro w a;(try dsimp only at a);go_simp;(try with_reducible rfl))
   try simp only[eT,bW,bR,bQ,aU,bN,bM]
   refine wpAnyH_done (by kernel_rfl) ?_ _;go_wp2_with fail;go_ret2;exact⟨Q,Z,rfl,U,Y,Jz.out,p.trans H⟩
end Go.Proofs.YtckhbnmfnpolgaaGreat
namespace Go.Proofs.YtckhbnmfnpolgaaGreat
open Go.RowKit
abbrev An:=Option (Tr×Int)
def thn(x:An)(f:Tr->An):An:=match x with
 |none=> none
 |some (s,c)=> if c=0 then f s else some (j2,c)
def mkV(t:Tr):Tr×Int:=if j0 D0 t=true then(t,0) else(j2,2)
def d4(a b:Tr):Int:=if Yc a b 200=1 then 0 else if Yc a b 200=2 then 1 else 2
def i4(t:Tr)(kind:Int):Tr×Int:=if(W6 t 200).2≠0 then(j2,2) else if(W6 t 200).1.kind≠kind then(j2,1) else((W6 t 200).1,0)
def X0(x:An)(kind:Int):An:=thn x fun s=> some (i4 s kind)
def W3(x:An)(a:Tr)(y:An):An:=thn x fun s=> if d4 s a=0 then y else some (j2,d4 s a)
def n5:Tr:= .mk 6 0 []
def m6(n:Int):Tr:= .mk 2 n []
def nf(n:Int):Tr:= .mk 1 n []
def Sb(p:Tr):Tr:= .mk 3 0 [n5,.mk 3 0 [.mk 5 0 [shfT 1 p 0,nf 0],.mk 5 0 [shfT 2 p 0,.mk 8 0 [nf 1]]]]
def v9(x:An)(T:Tr)(y:An):An:=thn (X0 x 3) fun s=> if d4 (kd s.kids 0) T=0 then thn (some (i4 (kd s.kids 1) 2)) fun _=> y else some (j2,d4 (kd s.kids 0) T)
def te(ty:Nat->An):An:=thn (X0 (ty 0) 2) fun a=> thn (X0 (ty 1) 2) fun b=> some (m6 (max a.num b.num),0)
def Oo(a:Tr->An)(ty:Nat->An)(A:Tr):An:=thn (X0 (ty 0) 2) fun _=> thn (ty 1) fun b=> thn (some (mkV (.mk 3 0 [A,b]))) fun out=> thn (a out) fun _=> some (out,0)
def bj(ty:Nat->An)(a:Tr):An:=thn (X0 (ty 0) 3) fun s=> W3 (ty 1) (kd s.kids 0) (some (mkV (Z0 a (kd s.kids 1) 0 0)))
def km(ty:Nat->An)(p a:Tr):An:=v9 (ty 0) n5 (thn (some (mkV (.mk 5 0 [p,.mk 7 0 []]))) fun w=> W3 (ty 1) w (thn (some (mkV (Sb p))) fun b=> W3 (ty 2) b (W3 (ty 3) n5 (some (mkV (.mk 5 0 [p,a]))))))
def Oe(ty:Nat->An)(T:Tr):An:=thn (X0 (ty 0) 2) fun s=> W3 (ty 1) T (W3 (ty 2) T (some (m6 s.num,0)))
def sq(b:Tr->An)(ty:Nat->An)(a:Tr):An:=thn (ty 0) fun s=> thn (X0 (b s) 2) fun _=> some (mkV (.mk 10 0 [s,a,a]))
def Pn(ty:Nat->An)(p:Tr):An:=thn (X0 (ty 1) 10) fun e=> v9 (ty 0) (kd e.kids 0) (thn (some (mkV (.mk 5 0 [p,kd e.kids 1]))) fun w=> W3 (ty 2) w (some (mkV (.mk 5 0 [p,kd e.kids 2]))))
def Tq(ty:Nat->An)(T a:Tr):An:=thn (X0 (ty 0) 2) fun _=> thn (some (i4 T 13)) fun s=> W3 (ty 1) (kd s.kids 0) (thn (some (mkV (Z0 a (kd s.kids 1) 0 0))) fun w=> W3 (ty 2) w (some (T,0)))
def Mk(ty:Nat->An)(k:Int)(a:Tr):An:=thn (X0 (ty 0) 13) fun s=> if k=15 then some (kd s.kids 0,0) else some (mkV (Z0 (.mk 15 0 [a]) (kd s.kids 1) 0 0))
def ji(G:List Tr)(n:Int):Tr×Int:=if(G.length:Int)<=n then(j2,1) else mkV (shfT (n+1) (kd G (G.length - 1 - n.toNat)) 0)
def Ub(G:List Tr)(b:Tr->An)(ty:Nat->An)(k n:Int)(a:List Tr):An:=
 if k=1 then some (ji G n)
 else if k=2 then some (if n=3 then(j2,1) else(m6 (n+1),0))
 else if k=6 then some (m6 0,0)
 else if k=7 then some (n5,0)
 else if k=8 then W3 (ty 0) n5 (some (n5,0))
 else if k=3\/k=13 then te ty
 else if k=4 then Oo b ty (kd a 0)
 else if k=5 then bj ty (kd a 1)
 else if k=9 then km ty (kd a 0) (kd a 3)
 else if k=10 then Oe ty (kd a 0)
 else if k=11 then sq b ty (kd a 0)
 else if k=12 then Pn ty (kd a 0)
 else if k=14 then Tq ty (kd a 0) (kd a 1)
 else Mk ty k (kd a 0)
def da(a:List Tr->Tr->An)(G:List Tr)(k:Int)(ks:List Tr)(i:Nat):An:=
 if E4 k i=0 then a G (kd ks i) else if 20<=G.length then some (j2,2) else a (G++ [kd ks 0]) (kd ks i)
def S0:Nat->List Tr->Tr->An
 |0,_,_=> none
 |f+1,G,.mk k n ks=> Ub G (S0 f G) (da (S0 f) G k ks) k n ks
theorem Ao{x:An}{f:Tr->An}{r:Tr×Int}(h:thn x f=some r):(∃s,x=some (s,0)/\f s=some r)\/ ∃s c,x=some (s,c)/\c≠0/\r=(j2,c):=by
 unfold thn at h;cases x with
 |none=> cases h
 |some y=>
  obtain⟨s,c⟩:=y;simp only at h
  split at h
  · rename_i hc
    subst hc;exact .inl ⟨s,rfl,h⟩
  · rename_i hc
    exact .inr ⟨s,c,rfl,hc,by simpa using h.symm⟩
theorem M8{x:An}{f:Tr->An}{u:Tr}(h:thn x f=some (u,0)): ∃s,x=some (s,0)/\f s=some (u,0):=by
 rcases Ao h with h|⟨s,c,-,hc,h⟩
 · exact h
 · simp only[Prod.mk.injEq] at h
   exact absurd h.2.symm hc
theorem qv{y:Tr×Int}{f:Tr->An}{u:Tr}(h:thn (some y) f=some (u,0)):y.2=0/\f y.1=some (u,0):=by
 obtain⟨s,a,b⟩:=M8 h;simp only[bX] at a;subst a;exact⟨rfl,b⟩
theorem ds{t:Tr}(h:(mkV t).2=0):j0 D0 t=true/\(mkV t).1=t:=by
 unfold mkV at h⊢
 split at h
 · rename_i hv
   exact⟨hv,by rw[if_pos hv]⟩
 · simp at h
theorem Xf{t u:Tr}(h:some (mkV t)=some (u,(0:Int))):j0 D0 t=true/\u=t:=by
 have b:mkV t=(u,0):=by simpa using h
 obtain⟨c,a⟩:=ds (t:=t) (by rw[b]);rw[b] at a;exact⟨c,a⟩
theorem ry{t:Tr}{kind:Int}(h:(i4 t kind).2=0):W6 t 200=((i4 t kind).1,0)/\(i4 t kind).1.kind=kind:=by
 unfold i4 at h⊢
 split at h
 · simp at h
 · rename_i b
   split at h
   · simp at h
   · rename_i a
     rw[if_neg b,if_neg a];exact⟨by rw[<-show(W6 t 200).2=0 by simpa using b],by simpa using a⟩
theorem We{x:An}{kind:Int}{s:Tr}(h:X0 x kind=some (s,0)): ∃u,x=some (u,0)/\W6 u 200=(s,0)/\s.kind=kind:=by
 obtain⟨u,e,d⟩:=M8 h;have b:i4 u kind=(s,0):=by simpa using d
 obtain⟨a,c⟩:=ry (t:=u) (kind:=kind) (by rw[b]);rw[b] at a c;exact⟨u,e,a,c⟩
theorem ti{x y:An}{a u:Tr}(h:W3 x a y=some (u,0)): ∃s,x=some (s,0)/\d4 s a=0/\y=some (u,0):=by
 obtain⟨s,c,b⟩:=M8 h
 split at b
 · rename_i hc
   exact⟨s,c,hc,b⟩
 · rename_i hc
   simp only[bX,Prod.mk.injEq] at b;exact absurd b.2 hc
theorem Nw{x y:An}{T u:Tr}(h:v9 x T y=some (u,0)): ∃F s c,x=some (F,0)/\W6 F 200=(s,0)/\s.kind=3/\d4 (kd s.kids 0) T=0/\W6 (kd s.kids 1) 200=(c,0)/\c.kind=2/\y=some (u,0):=by
 obtain⟨s,j,a⟩:=M8 h;obtain⟨F,i,b,g⟩:=We j
 split at a
 · rename_i hc
   obtain⟨e,d⟩:=qv a;obtain⟨h8,f⟩:=ry e;exact⟨F,s,_,i,b,g,hc,h8,f,d⟩
 · rename_i hc
   simp only[bX,Prod.mk.injEq] at a;exact absurd a.2 hc
theorem Vn{a b:Tr}(h:d4 a b=0):Yc a b 200=1:=by
 unfold d4 at h
 split at h
 · assumption
 · split at h <;> simp at h
theorem ny{t x:Tr}(h:j0 D0 t=true)(hm:x∈t.kids):j0 D0 x=true:=by
 obtain⟨k,n,d⟩:=t;obtain⟨c,a⟩:=Z3 h;have b:=(Z4 c).2.2.2 x hm;unfold j0;rw[Px b (by omega),bT,decide_eq_true_eq];have:=k9 hm;simp only[cnt] at a;simp only[Tr.kids] at this;omega
theorem Vc{t:Tr}(h:j0 D0 t=true){i:Nat}(hi:i < t.kids.length):j0 D0 (kd t.kids i)=true:=ny h (Xi hi)

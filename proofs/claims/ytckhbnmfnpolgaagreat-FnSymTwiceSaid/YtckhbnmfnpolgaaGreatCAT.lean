/-
  Lemmas towards the law, 20: L3Con.
-/
import Derived.Test.YtckhbnmfnpolgaaGreatC00
import Derived.Test.YtckhbnmfnpolgaaGreatCAS
open Go renaming World->aL,maxLen->aV,bodyPost_ret->aP,results->aR
open Bool renaming true_and->bT
open Nat renaming one_mul->fP,add_assoc->dV,reduceAdd->dW,zero_mul->cW,add_zero->cU
open Go.Proofs.Tryz
set_option linter.all false
set_option maxHeartbeats 4000000
set_option maxRecDepth 100000
namespace Go.Proofs.YtckhbnmfnpolgaaGreat
open Go.RowKit
def Sg(w:aL)(t:Tr)(e:Ending)(a:aL):Prop:= ∃r,e= .returned r/\W0 w a 25 t r/\Ext w a
theorem cH{t u k:Tr}(hT:k=Z0 u t 0 0)(w:aL)(v c:Value)(m:Lies w t v)(hv:j0 D0 t=true)(o:Lies w u c)(n:j0 D0 u=true):
 Calls prog 121 #[v,m0 0,c,m0 0] w fun e b=> ∃f a d g i,e= .returned (M0 f a d g i)/\W0 w b 25 k (M0 f a d g i)/\Ext w b:=by
 subst hT;have p:=Ki hv;have l:=Ki n;refine(Xy t w v 0 u c 0 30 p.2 m (by omega) l.2 (by omega) o (by omega) (by omega) (by omega) (by omega)).mono ?_;rintro e b ⟨r,rfl,j,h⟩;obtain⟨f,a,d,g,i,rfl⟩:=j.three';exact⟨_,_,_,_,_,rfl,j,h⟩
theorem Om(n:Int)(a:List Tr)(hv:j0 D0 (.mk 9 n a)=true)(w:aL)(A:Option Addr)(cap:Nat)(I:Lies w (.mk 9 n a) (M0 9 n A a.length cap))(hK:y22 w A a)(hl:a.length<=cap)(hc:cap<=aV)(k:(kd a 3).kind=7):
 Calls prog 171 #[M0 9 n A a.length cap] w (Sg w (ctr 9 a)):=by
 obtain⟨hsh,Z⟩:=Z3 hv;have G:U0 9=(a.length:Int):=(Z4 hsh).1;have j6:a.length=4:=by have h9:(4:Int)=(a.length:Int):=G;omega
 have D:=(Z4 hsh).2.2.2;have K7: ∀t∈a,j0 D0 t=true:=fun t ht=> by
  have g:=D t ht;have h2:=k9 ht;simp only[cnt] at Z;unfold j0;rw[sf g (by decide),bT,decide_eq_true_eq];omega
 have y:=hc;unfold aV at y;have C:=hdq (fun W (hW:Ext w W)=> Cr (.mk 9 n a) 30 hsh W _ (I.ext hW));obtain⟨j,m⟩: ∃j,j=(w.alloc (H0 9 n A a.length cap)).alloc (H0 0 0 none 0 0):=⟨_,rfl⟩;have H:Ext w j:=m▸((xr w).alloc _).alloc _;have l:j.heap[w.heap.size]? =some (H0 9 n A a.length cap):=by rw[m];exact(blk2 (xr _)).1
 have c:j.heap[w.heap.size+1]? =some (H0 0 0 none 0 0):=by rw[m];exact(blk2 (xr _)).2.1
 have Y:w.heap.size+1 < j.heap.size:=O1 c;have Q:1 < a.length:=by omega
 have fw:(1:Int) <(a.length:Int):=by omega
 obtain⟨b1,o1,r,q,A1,C9,q16,O5,J,b,f,d,Z7,Y4,M6,O,P⟩:=hK.get (xr w) Q;simp only[fP,dV,dW] at b f d;have M:kd a 1= .mk r q q16:=Zb Q J.out;subst O5;have R:ctr 9 a= .mk r q q16:=(ms k).trans M;rw[R];have F:rdx 9 a=2:=by unfold rdx;simp[k]
 obtain⟨TT,s⟩: ∃x,x=Tr.mk r q q16:=⟨_,rfl⟩;rw[<-s];have X:=hdq s;clear s;have tx:cnt (.mk r q q16)<=400:=(Z3 (K7 _ P)).2;clear R;have o:Y3 (.mk 9 n a)=2:=F;rw[o] at C;clear o F j6 G
 skip
 go_enter func171,ntmps171;go_wp2_with fail;rw[<-m];clear m;refine(C.out _ H).mono ?_;rintro e w1 ⟨rfl,g⟩;have i:=H.trans g;have K:=g.blk l;have z:=g.blk c;have hs1:w.heap.size+1 < w1.heap.size:=O1 z;obtain⟨V,z1,z2,-,-,-⟩:=own3 K;clear l c C g;have Ix:=i.cell b;have Di:=i.cell f;have Iw:=i.cell d;have N8:=hdq (O.ext i);clear J M M6 O P b f d hK I;go_wp2_with fail;refine(Vf _ _ _ N8.out (by omega)).mono ?_;rintro e w3 ⟨u,rfl,B,T⟩;obtain⟨U,E,L,N,S,rfl⟩:=B.three';rw[<-X.out] at B;have hE:=i.trans T;obtain⟨s0,s1,s2,f0,f1,f2⟩:=own3 (T.blk z);clear K z Ix Di Iw V z1 z2;go_wp2_with fail;have hsz:=i.size;refine aP (v:= M0 U E L N S) (by simp[aR,results171,go_sem,s0,s1,s2]) rfl ⟨_,rfl,W0.since (B.after ((((ja.refl _ _).setCell (p:=⟨w.heap.size+1,0,none⟩) (by show w.heap.size+1 < _;omega) (m0 U)).setCell (p:=⟨w.heap.size+1,1,none⟩) (by show w.heap.size+1 < _;omega) (m0 E)).setCell (p:=⟨w.heap.size+1,2,none⟩) (by show w.heap.size+1 < _;omega) (.slice L N S))) (by omega),(((hE.setCell (p:=⟨w.heap.size+1,0,none⟩) (by show w.heap.size<=w.heap.size+1;omega) _).setCell (p:=⟨w.heap.size+1,1,none⟩) (by show w.heap.size<=w.heap.size+1;omega) _).setCell (p:=⟨w.heap.size+1,2,none⟩) (by show w.heap.size<=w.heap.size+1;omega) _)⟩
theorem uq(n:Int)(a:List Tr)(hv:j0 D0 (.mk 12 n a)=true)(w:aL)(A:Option Addr)(cap:Nat)(L:Lies w (.mk 12 n a) (M0 12 n A a.length cap))(hK:y22 w A a)(hl:a.length<=cap)(hc:cap<=aV)(s:(kd a 1).kind=11):
 Calls prog 171 #[M0 12 n A a.length cap] w (Sg w (ctr 12 a)):=by
 obtain⟨hsh,C0⟩:=Z3 hv;have H:U0 12=(a.length:Int):=(Z4 hsh).1;have j6:a.length=3:=by have h9:(3:Int)=(a.length:Int):=H;omega
 have E:=(Z4 hsh).2.2.2;have K7: ∀t∈a,j0 D0 t=true:=fun t ht=> by
  have f:=E t ht;have h2:=k9 ht;simp only[cnt] at C0;unfold j0;rw[sf f (by decide),bT,decide_eq_true_eq];omega
 have z:=hc;unfold aV at z;have D:=hdq (fun W (hW:Ext w W)=> Cr (.mk 12 n a) 30 hsh W _ (L.ext hW));obtain⟨i,k⟩: ∃i,i=(w.alloc (H0 12 n A a.length cap)).alloc (H0 0 0 none 0 0):=⟨_,rfl⟩;have I:Ext w i:=k▸((xr w).alloc _).alloc _;have j:i.heap[w.heap.size]? =some (H0 12 n A a.length cap):=by rw[k];exact(blk2 (xr _)).1
 have b:i.heap[w.heap.size+1]? =some (H0 0 0 none 0 0):=by rw[k];exact(blk2 (xr _)).2.1
 have hs0:w.heap.size+1 < i.heap.size:=O1 b;have U:2 < a.length:=by omega
 have gm:(2:Int) <(a.length:Int):=by omega
 obtain⟨b2,o2,o,m,A2,F7,q17,ic,P,d,c,y,gj,ej,r,J,Q⟩:=hK.get (xr w) U;simp only[Nat.reduceMul,dV,dW] at d c y;have K:kd a 2= .mk o m q17:=Zb U P.out;subst ic;have R:ctr 12 a= .mk o m q17:=Rx.trans K;rw[R];have G:rdx 12 a=4:=by unfold rdx;simp[s]
 obtain⟨TT,q⟩: ∃x,x=Tr.mk o m q17:=⟨_,rfl⟩;rw[<-q];have Z:=hdq q;clear q;have tx:cnt (.mk o m q17)<=400:=(Z3 (K7 _ Q)).2;clear R;have l:Y3 (.mk 12 n a)=4:=G;rw[l] at D;clear l G j6 H
 skip
 go_enter func171,ntmps171;go_wp2_with fail;rw[<-k];clear k;refine(D.out _ I).mono ?_;rintro e w1 ⟨rfl,f⟩;have g:=I.trans f;have M:=f.blk j;have B:=f.blk b;have hs1:w.heap.size+1 < w1.heap.size:=O1 B;obtain⟨Y,z1,z2,-,-,-⟩:=own3 M;clear j b D f;have X:=g.cell d;have Ho:=g.cell c;have Ib:=g.cell y;have N8:=hdq (J.ext g);clear P K r J Q d c y hK L;go_wp2_with fail;refine(Vf _ _ _ N8.out (by omega)).mono ?_;rintro e w3 ⟨u,rfl,C,T⟩;obtain⟨V,F,N,O,S,rfl⟩:=C.three';rw[<-Z.out] at C;have hE:=g.trans T;obtain⟨s0,s1,s2,f0,f1,f2⟩:=own3 (T.blk B);clear M B X Ho Ib Y z1 z2;go_wp2_with fail;have hsz:=g.size;refine aP (v:= M0 V F N O S) (by simp[aR,results171,go_sem,s0,s1,s2]) rfl ⟨_,rfl,W0.since (C.after ((((ja.refl _ _).setCell (p:=⟨w.heap.size+1,0,none⟩) (by show w.heap.size+1 < _;omega) (m0 V)).setCell (p:=⟨w.heap.size+1,1,none⟩) (by show w.heap.size+1 < _;omega) (m0 F)).setCell (p:=⟨w.heap.size+1,2,none⟩) (by show w.heap.size+1 < _;omega) (.slice N O S))) (by omega),(((hE.setCell (p:=⟨w.heap.size+1,0,none⟩) (by show w.heap.size<=w.heap.size+1;omega) _).setCell (p:=⟨w.heap.size+1,1,none⟩) (by show w.heap.size<=w.heap.size+1;omega) _).setCell (p:=⟨w.heap.size+1,2,none⟩) (by show w.heap.size<=w.heap.size+1;omega) _)⟩
theorem Zn(n:Int)(a:List Tr)(hv:j0 D0 (.mk 15 n a)=true)(w:aL)(A:Option Addr)(cap:Nat)(T:Lies w (.mk 15 n a) (M0 15 n A a.length cap))(hK:y22 w A a)(hl:a.length<=cap)(hc:cap<=aV)(j:(kd a 0).kind=14):
 Calls prog 171 #[M0 15 n A a.length cap] w (Sg w (ctr 15 a)):=by
 obtain⟨hsh,C0⟩:=Z3 hv;have P:U0 15=(a.length:Int):=(Z4 hsh).1;have j6:a.length=1:=by have h9:(1:Int)=(a.length:Int):=P;omega
 have J:=(Z4 hsh).2.2.2;have K7: ∀t∈a,j0 D0 t=true:=fun t ht=> by
  have f:=J t ht;have N:=k9 ht;simp only[cnt] at C0;unfold j0;rw[sf f (by decide),bT,decide_eq_true_eq];omega
 have F:=hc;unfold aV at F;have I:=hdq (fun W (hW:Ext w W)=> Cr (.mk 15 n a) 30 hsh W _ (T.ext hW));obtain⟨i,m⟩: ∃i,i=(w.alloc (H0 15 n A a.length cap)).alloc (H0 0 0 none 0 0):=⟨_,rfl⟩;have S:Ext w i:=m▸((xr w).alloc _).alloc _;have l:i.heap[w.heap.size]? =some (H0 15 n A a.length cap):=by rw[m];exact(blk2 (xr _)).1
 have c:i.heap[w.heap.size+1]? =some (H0 0 0 none 0 0):=by rw[m];exact(blk2 (xr _)).2.1
 have hs0:w.heap.size+1 < i.heap.size:=O1 c;have E5:0 < a.length:=by omega
 have V8:(0:Int) <(a.length:Int):=by omega
 obtain⟨b0,o0,k0,n0,A0,p9,g,bu,Q,C,E,D,bi,gh,M9,z7,O⟩:=hK.get (xr w) E5;simp only[cW,cU] at C E D;have q:kd a 0= .mk k0 n0 g:=Zb E5 Q.out;subst bu;rw[q] at j;have fl:k0=14:=j;subst fl;have k:=K7 _ O;have X:U0 14=(g.length:Int):=(Z4 (Z3 k).1).1;have T7:g.length=3:=by have h9:(3:Int)=(g.length:Int):=X;omega
 have E0:1 < g.length:=by omega
 have qu:(1:Int) <(g.length:Int):=by omega
 obtain⟨b3,o3,r,s,A3,F8,j19,W5,V7,K,d,B,ft,Y6,y,F6,Y⟩:=M9.get (xr w) E0;simp only[fP,dV,dW] at K d B;have R:kd g 1= .mk r s j19:=Zb E0 V7.out;subst W5;have l8:ctr 15 a= .mk r s j19:=by rw[Nr,q];exact R
 rw[l8];have M:rdx 15 a=5:=by unfold rdx;rw[q];simp[Tr.kind]
 obtain⟨TT,z⟩: ∃x,x=Tr.mk r s j19:=⟨_,rfl⟩;rw[<-z];have M7:=hdq z;clear z;have tx:cnt (.mk r s j19)<=400:=by have f:=k9 Y;have N:=(Z3 k).2;simp only[cnt] at N;omega
 clear l8;have o:Y3 (.mk 15 n a)=5:=M;rw[o] at I;clear o M j6 P;clear T7;go_enter func171,ntmps171;go_wp2_with fail;rw[<-m];clear m;refine(I.out _ S).mono ?_;rintro e w1 ⟨rfl,f⟩;have b:=S.trans f;have U:=f.blk l;have G:=f.blk c;have hs1:w.heap.size+1 < w1.heap.size:=O1 G;obtain⟨z0,z1,z2,-,-,-⟩:=own3 U;clear l c I f;have xy:=b.cell C;have vy:=b.cell E;have xj:=b.cell D;have yg:=b.cell K;have xd:=b.cell d;have qh:=b.cell B;have N8:=hdq (F6.ext b);clear Q q M9 z7 O V7 R y F6 Y C E D K d B hK T X;go_wp2_with fail;refine(Vf _ _ _ N8.out (by omega)).mono ?_;rintro e w3 ⟨u,rfl,H,h3⟩;obtain⟨a1,L,V,Z,a5,rfl⟩:=H.three';rw[<-M7.out] at H;have hE:=b.trans h3;obtain⟨s0,s1,s2,f0,f1,f2⟩:=own3 (h3.blk G);clear U G xy vy xj yg xd qh z0 z1 z2;go_wp2_with fail;have hsz:=b.size;refine aP (v:= M0 a1 L V Z a5) (by simp[aR,results171,go_sem,s0,s1,s2]) rfl ⟨_,rfl,W0.since (H.after ((((ja.refl _ _).setCell (p:=⟨w.heap.size+1,0,none⟩) (by show w.heap.size+1 < _;omega) (m0 a1)).setCell (p:=⟨w.heap.size+1,1,none⟩) (by show w.heap.size+1 < _;omega) (m0 L)).setCell (p:=⟨w.heap.size+1,2,none⟩) (by show w.heap.size+1 < _;omega) (.slice V Z a5))) (by omega),(((hE.setCell (p:=⟨w.heap.size+1,0,none⟩) (by show w.heap.size<=w.heap.size+1;omega) _).setCell (p:=⟨w.heap.size+1,1,none⟩) (by show w.heap.size<=w.heap.size+1;omega) _).setCell (p:=⟨w.heap.size+1,2,none⟩) (by show w.heap.size<=w.heap.size+1;omega) _)⟩
theorem dq(n:Int)(a:List Tr)(hv:j0 D0 (.mk 16 n a)=true)(w:aL)(A:Option Addr)(cap:Nat)(T:Lies w (.mk 16 n a) (M0 16 n A a.length cap))(hK:y22 w A a)(hl:a.length<=cap)(hc:cap<=aV)(j:(kd a 0).kind=14):
 Calls prog 171 #[M0 16 n A a.length cap] w (Sg w (ctr 16 a)):=by
 obtain⟨hsh,C0⟩:=Z3 hv;have P:U0 16=(a.length:Int):=(Z4 hsh).1;have j6:a.length=1:=by have h9:(1:Int)=(a.length:Int):=P;omega
 have J:=(Z4 hsh).2.2.2;have K7: ∀t∈a,j0 D0 t=true:=fun t ht=> by
  have f:=J t ht;have N:=k9 ht;simp only[cnt] at C0;unfold j0;rw[sf f (by decide),bT,decide_eq_true_eq];omega
 have F:=hc;unfold aV at F;have I:=hdq (fun W (hW:Ext w W)=> Cr (.mk 16 n a) 30 hsh W _ (T.ext hW));obtain⟨i,m⟩: ∃i,i=(w.alloc (H0 16 n A a.length cap)).alloc (H0 0 0 none 0 0):=⟨_,rfl⟩;have S:Ext w i:=m▸((xr w).alloc _).alloc _;have l:i.heap[w.heap.size]? =some (H0 16 n A a.length cap):=by rw[m];exact(blk2 (xr _)).1
 have c:i.heap[w.heap.size+1]? =some (H0 0 0 none 0 0):=by rw[m];exact(blk2 (xr _)).2.1
 have hs0:w.heap.size+1 < i.heap.size:=O1 c;have E5:0 < a.length:=by omega
 have V8:(0:Int) <(a.length:Int):=by omega
 obtain⟨b0,o0,k0,n0,A0,p9,g,bu,Q,C,E,D,bi,gh,M9,z7,O⟩:=hK.get (xr w) E5;simp only[cW,cU] at C E D;have q:kd a 0= .mk k0 n0 g:=Zb E5 Q.out;subst bu;rw[q] at j;have fl:k0=14:=j;subst fl;have k:=K7 _ O;have X:U0 14=(g.length:Int):=(Z4 (Z3 k).1).1;have T7:g.length=3:=by have h9:(3:Int)=(g.length:Int):=X;omega
 have E0:2 < g.length:=by omega
 have qu:(2:Int) <(g.length:Int):=by omega
 obtain⟨b3,o3,r,s,A3,F8,j19,W5,V7,K,d,B,ft,Y6,y,F6,Y⟩:=M9.get (xr w) E0;simp only[Nat.reduceMul,dV,dW] at K d B;have R:kd g 2= .mk r s j19:=Zb E0 V7.out;subst W5;have l8:ctr 16 a= .mk r s j19:=by rw[bs,q];exact R
 rw[l8];have M:rdx 16 a=6:=by unfold rdx;rw[q];simp[Tr.kind]
 obtain⟨TT,z⟩: ∃x,x=Tr.mk r s j19:=⟨_,rfl⟩;rw[<-z];have M7:=hdq z;clear z;have tx:cnt (.mk r s j19)<=400:=by have f:=k9 Y;have N:=(Z3 k).2;simp only[cnt] at N;omega
 clear l8;have o:Y3 (.mk 16 n a)=6:=M;rw[o] at I;clear o M j6 P;clear T7;go_enter func171,ntmps171;go_wp2_with fail;rw[<-m];clear m;refine(I.out _ S).mono ?_;rintro e w1 ⟨rfl,f⟩;have b:=S.trans f;have U:=f.blk l;have G:=f.blk c;have hs1:w.heap.size+1 < w1.heap.size:=O1 G;obtain⟨z0,z1,z2,-,-,-⟩:=own3 U;clear l c I f;have xy:=b.cell C;have vy:=b.cell E;have xj:=b.cell D;have yg:=b.cell K;have xd:=b.cell d;have qh:=b.cell B;have N8:=hdq (F6.ext b);clear Q q M9 z7 O V7 R y F6 Y C E D K d B hK T X;go_wp2_with fail;refine(Vf _ _ _ N8.out (by omega)).mono ?_;rintro e w3 ⟨u,rfl,H,h3⟩;obtain⟨a1,L,V,Z,a5,rfl⟩:=H.three';rw[<-M7.out] at H;have hE:=b.trans h3;obtain⟨s0,s1,s2,f0,f1,f2⟩:=own3 (h3.blk G);clear U G xy vy xj yg xd qh z0 z1 z2;go_wp2_with fail;have hsz:=b.size;refine aP (v:= M0 a1 L V Z a5) (by simp[aR,results171,go_sem,s0,s1,s2]) rfl ⟨_,rfl,W0.since (H.after ((((ja.refl _ _).setCell (p:=⟨w.heap.size+1,0,none⟩) (by show w.heap.size+1 < _;omega) (m0 a1)).setCell (p:=⟨w.heap.size+1,1,none⟩) (by show w.heap.size+1 < _;omega) (m0 L)).setCell (p:=⟨w.heap.size+1,2,none⟩) (by show w.heap.size+1 < _;omega) (.slice V Z a5))) (by omega),(((hE.setCell (p:=⟨w.heap.size+1,0,none⟩) (by show w.heap.size<=w.heap.size+1;omega) _).setCell (p:=⟨w.heap.size+1,1,none⟩) (by show w.heap.size<=w.heap.size+1;omega) _).setCell (p:=⟨w.heap.size+1,2,none⟩) (by show w.heap.size<=w.heap.size+1;omega) _)⟩
theorem gq(n:Int)(b:List Tr)(hv:j0 D0 (.mk 5 n b)=true)(w:aL)(A:Option Addr)(cap:Nat)(b8:Lies w (.mk 5 n b) (M0 5 n A b.length cap))(hK:y22 w A b)(hl:b.length<=cap)(hc:cap<=aV)(K:(kd b 0).kind=4):
 Calls prog 171 #[M0 5 n A b.length cap] w (Sg w (ctr 5 b)):=by
 obtain⟨hsh,C0⟩:=Z3 hv;have a8:U0 5=(b.length:Int):=(Z4 hsh).1;have j6:b.length=2:=by have h9:(2:Int)=(b.length:Int):=a8;omega
 have hsk:=(Z4 hsh).2.2.2;have K7: ∀t∈b,j0 D0 t=true:=fun t ht=> by
  have d:=hsk t ht;have J:=k9 ht;simp only[cnt] at C0;unfold j0;rw[sf d (by decide),bT,decide_eq_true_eq];omega
 have hcc:=hc;unfold aV at hcc;have C5:=hdq (fun W (hW:Ext w W)=> Cr (.mk 5 n b) 30 hsh W _ (b8.ext hW));obtain⟨H,M⟩: ∃H,H=(w.alloc (H0 5 n A b.length cap)).alloc (H0 0 0 none 0 0):=⟨_,rfl⟩;have hX:Ext w H:=M▸((xr w).alloc _).alloc _;have L:H.heap[w.heap.size]? =some (H0 5 n A b.length cap):=by rw[M];exact(blk2 (xr _)).1
 have u:H.heap[w.heap.size+1]? =some (H0 0 0 none 0 0):=by rw[M];exact(blk2 (xr _)).2.1
 have hs0:w.heap.size+1 < H.heap.size:=O1 u;have E5:0 < b.length:=by omega
 have V8:(0:Int) <(b.length:Int):=by omega
 obtain⟨g,o0,k0,n0,A0,p9,k,bu,T4,V,N6,X,bi,gh,M9,z7,z6⟩:=hK.get (xr w) E5;simp only[cW,cU] at V N6 X;have O:kd b 0= .mk k0 n0 k:=Zb E5 T4.out;have B0:1 < b.length:=by omega
 have fw:(1:Int) <(b.length:Int):=by omega
 obtain⟨b1,o1,F,E,A1,C9,q16,O5,E6,s,D,C,Z7,Y4,M6,p5,j9⟩:=hK.get (xr w) B0;simp only[fP,dV,dW] at s D C;have I8:kd b 1= .mk F E q16:=Zb B0 E6.out;subst bu
 injection O5 with O5
 injection O5 with dh Z hD1
 subst dh Z;rw[O] at K;have Y:k0=4:=K;subst Y;have z:=K7 _ z6;have J0:U0 4=(k.length:Int):=(Z4 (Z3 z).1).1;have T7:k.length=2:=by have h9:(2:Int)=(k.length:Int):=J0;omega
 have E0:1 < k.length:=by omega
 have qu:(1:Int) <(k.length:Int):=by omega
 obtain⟨j,m,G,I,A3,F8,j19,W5,V7,Q,B,U,ft,Y6,S,F6,q9⟩:=M9.get (xr w) E0;simp only[fP,dV,dW] at Q B U;have C6:kd k 1= .mk G I j19:=Zb E0 V7.out;subst W5;have C4:=K7 _ j9;have hv3:j0 D0 (.mk G I j19)=true:=by
  have d:=(Z4 (Z3 z).1).2.2.2 _ q9;have J:=k9 q9;have h3:=(Z3 z).2;simp only[cnt] at h3;unfold j0;rw[sf d (by decide),bT,decide_eq_true_eq];omega
 have l8:ctr 5 b=Z0 (.mk F E q16) (.mk G I j19) 0 0:=by rw[Zr,O,I8];exact congrArg (fun t=> Z0 (.mk F E q16) t 0 0) C6
 rw[l8];have I4:rdx 5 b=1:=by unfold rdx;rw[O];simp[Tr.kind]
 obtain⟨TT,T⟩: ∃x,x=Z0 (.mk F E q16) (.mk G I j19) 0 0:=⟨_,rfl⟩;rw[<-T];have M7:=hdq T;clear T l8;have N:Y3 (.mk 5 n b)=1:=I4;rw[N] at C5;clear N I4 j6 a8;clear T7;go_enter func171,ntmps171;go_wp2_with fail;rw[<-M];clear M;refine(C5.out _ hX).mono ?_;rintro e l ⟨rfl,d⟩;have f:=hX.trans d;have u6:=d.blk L;have o8:=d.blk u;have hs1:w.heap.size+1 < l.heap.size:=O1 o8;obtain⟨z0,z1,z2,-,-,-⟩:=own3 u6;clear L u C5 d;have Cn:g < w.heap.size:=World.block_lt_of_cell? _ _ V;have Jg:j < w.heap.size:=World.block_lt_of_cell? _ _ Q;have P:=hdq (show∀c:aL,(∀y,y < l.heap.size->y≠w.heap.size+1->c.heap[y]? =l.heap[y]?)->c.cell? ⟨w.heap.size,2,none⟩=some (.slice (some ⟨g,o0,none⟩) b.length cap)/\c.cell? ⟨g,o0+2,none⟩=some (.slice (some ⟨j,m,none⟩) k.length p9)/\c.cell? ⟨j,m+3,none⟩=some (m0 G)/\c.cell? ⟨j,m+4,none⟩=some (m0 I)/\c.cell? ⟨j,m+5,none⟩=some (.slice A3 j19.length F8)/\c.cell? ⟨g,o0+3,none⟩=some (m0 F)/\c.cell? ⟨g,o0+4,none⟩=some (m0 E)/\c.cell? ⟨g,o0+5,none⟩=some (.slice A1 q16.length C9) from fun c h=> by
  have r: ∀q i v,q < w.heap.size+1->l.cell? ⟨q,i,none⟩=some v->c.cell? ⟨q,i,none⟩=some v:=fun q i v hq hv=>(World.cell?_of_block (a:=⟨q,i,none⟩) (h q (by omega) (by omega))).trans hv
  exact⟨r _ _ _ (by omega) z2,r _ _ _ (by omega) (f.cell X),r _ _ _ (by omega) (f.cell Q),r _ _ _ (by omega) (f.cell B),r _ _ _ (by omega) (f.cell U),r _ _ _ (by omega) (f.cell s),r _ _ _ (by omega) (f.cell D),r _ _ _ (by omega) (f.cell C)⟩)
 have o:Ext l l.drew:=(xr l).drew;have L3:=F6.ext f;have L1:=p5.ext f;clear T4 E6 V7 O I8 C6 M9 M6 S z7 p5 F6 z6 j9 q9 hK b8 J0 V N6 X s D C Q B U z0 z1 z2 u6;go_wp2_with fail
 go_region_held3 (fun c=> c.cell? ⟨w.heap.size,2,none⟩=some (.slice (some ⟨g,o0,none⟩) b.length cap)/\c.cell? ⟨g,o0+2,none⟩=some (.slice (some ⟨j,m,none⟩) k.length p9)/\c.cell? ⟨j,m+3,none⟩=some (m0 G)/\c.cell? ⟨j,m+4,none⟩=some (m0 I)/\c.cell? ⟨j,m+5,none⟩=some (.slice A3 j19.length F8)/\c.cell? ⟨g,o0+3,none⟩=some (m0 F)/\c.cell? ⟨g,o0+4,none⟩=some (m0 E)/\c.cell? ⟨g,o0+5,none⟩=some (.slice A1 q16.length C9))
  (first|exact P.out _ (fun y d J=> by rw[Below.heap_setCell _ _ _ _ J,Below.heap_setCell _ _ _ _ J,Below.heap_setCell _ _ _ _ J];exact(o.trans R).heap y d) |exact P.out _ (fun y d _=>(o.trans R).heap y d) |exact P.out _ (fun y d _=> o.heap y d))
  (first|(go_at_call 121;refine(cH M7.out _ _ _ (L3.ext o) hv3 (L1.ext o) C4).mono ?_;rintro e w2 ⟨a1,a2,a3,a4,a5,rfl,hM,R⟩;obtain⟨s0,s1,s2,f0,f1,f2⟩:=own3 ((o.trans R).blk o8)))
 have hE:=f.trans (o.trans R);have yh:l.heap.size<=l.drew.heap.size:=o.size;clear P o8;go_wp2_with fail;have hsz:=f.size;refine aP (v:= M0 a1 a2 a3 a4 a5) (by simp[aR,results171,go_sem,s0,s1,s2]) rfl ⟨_,rfl,W0.since (hM.after ((((ja.refl _ _).setCell (p:=⟨w.heap.size+1,0,none⟩) (by show w.heap.size+1 < _;omega) (m0 a1)).setCell (p:=⟨w.heap.size+1,1,none⟩) (by show w.heap.size+1 < _;omega) (m0 a2)).setCell (p:=⟨w.heap.size+1,2,none⟩) (by show w.heap.size+1 < _;omega) (.slice a3 a4 a5))) (by omega),(((hE.setCell (p:=⟨w.heap.size+1,0,none⟩) (by show w.heap.size<=w.heap.size+1;omega) _).setCell (p:=⟨w.heap.size+1,1,none⟩) (by show w.heap.size<=w.heap.size+1;omega) _).setCell (p:=⟨w.heap.size+1,2,none⟩) (by show w.heap.size<=w.heap.size+1;omega) _)⟩

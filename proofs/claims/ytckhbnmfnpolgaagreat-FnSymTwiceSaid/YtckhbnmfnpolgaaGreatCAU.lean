/-
  Lemmas towards the law, 21: Contract2, V2.
-/
import Derived.Test.YtckhbnmfnpolgaaGreatC00
import Derived.Test.YtckhbnmfnpolgaaGreatCAS
open Go renaming World->aL,Calls->aX,Value->aT,heap_alloc_new->aS,bodyPost_ret->aP,TypeId->aZ
open Go.World renaming drew->eQ,cell?_of_block->dY,block_lt_of_cell?->bU
open Nat renaming add_assoc->dV,reduceAdd->dW,le_refl->aN,le_trans->bL,lt_of_lt_of_le->aY
open Go.RowKit.Below renaming heap_setCell->aM
open Go.Proofs.Tryz
set_option linter.all false
set_option maxHeartbeats 4000000
set_option maxRecDepth 100000
namespace Go.Proofs.YtckhbnmfnpolgaaGreat
open Go.RowKit
structure AB (p:Prop):Prop where
 out:p
theorem SC{T p:Prop}(h:AB T->p)(k:T):p:=h ⟨k⟩
theorem W2{α:Type}(a:α): ∃x,x=a:=⟨a,rfl⟩
theorem L8{w e:aL}{a b c d:Obj}(h:e=eQ ((((w.alloc a).alloc b).alloc c).alloc d)):e.heap[w.heap.size]? =some a/\e.heap[w.heap.size+1]? =some b/\e.heap[w.heap.size+1+1]? =some c/\e.heap[w.heap.size+1+1+1]? =some d/\Ext w e:=by
 subst h;obtain⟨p,q,r,t,-⟩:=bn (xr ((((w.alloc a).alloc b).alloc c).alloc d)).drew;exact⟨p,q,r,t,(((((xr w).alloc a).alloc b).alloc c).alloc d).drew⟩
theorem Hr{w:aL}{k:Int}{A:Option Addr}{cap:Nat}{ks:List Tr}(hK:y22 w A ks)(hl:ks.length<=cap)(hc:cap<=maxLen):aX prog 56 #[m0 k,.slice A ks.length cap] w fun e w'=> ∃l f i d j,e= .returned (M0 l f i d j)/\Lies w' (.mk k 0 ks) (M0 l f i d j)/\Ext w w':=by
 refine(de w k A ks.length cap).mono ?_;rintro e w' ⟨rfl,h⟩;exact⟨_,_,_,_,_,rfl,Lies.mk hl hc (hK.ext h),h⟩
theorem Sj{w:aL}{k:Int}{g:Nat}{t1 t2:Tr}{v0 v1 v2 u0 u1 u2:aT}(p:Lies w t1 (.agg #[v0,v1,v2]))(n:Lies w t2 (.agg #[u0,u1,u2]))(f:w.heap[g]? =some (.cells #[v0,v1,v2,u0,u1,u2] 25 (0,0))):
 aX prog 56 #[m0 k,.slice (some ⟨g,0,none⟩) 2 2] w fun e w'=> ∃j d i l m,e= .returned (M0 j d i l m)/\Lies w' (.mk k 0 [t1,t2]) (M0 j d i l m)/\Ext w w':=
 Hr (ks:= [t1,t2]) (InK.two (e:=25) p n f (O1 f)) (by simp) (by decide)
theorem Yw{w:aL}{k:Int}{g:Nat}{t1 t2 t3 t4:Tr}{v0 v1 v2 u0 u1 u2 x0 x1 x2 i j f:aT}(C:Lies w t1 (.agg #[v0,v1,v2]))(B:Lies w t2 (.agg #[u0,u1,u2]))(s:Lies w t3 (.agg #[x0,x1,x2]))(v:Lies w t4 (.agg #[i,j,f]))(d:w.heap[g]? =some (.cells #[v0,v1,v2,u0,u1,u2,x0,x1,x2,i,j,f] 25 (0,0))):
 aX prog 56 #[m0 k,.slice (some ⟨g,0,none⟩) 4 4] w fun e w'=> ∃n l m p q,e= .returned (M0 n l m p q)/\Lies w' (.mk k 0 [t1,t2,t3,t4]) (M0 n l m p q)/\Ext w w':=by
 refine Hr (ks:= [t1,t2,t3,t4]) (.inr ⟨g,0,rfl,O1 d, ?_⟩) (by simp) (by decide);unfold O4;refine⟨⟨v0,v1,v2,U1 d 0,U1 d 1,U1 d 2,C⟩, ?_⟩;unfold O4;refine⟨⟨u0,u1,u2,U1 d 3,U1 d 4,U1 d 5,B⟩, ?_⟩;unfold O4;refine⟨⟨x0,x1,x2,U1 d 6,U1 d 7,U1 d 8,s⟩, ?_⟩;unfold O4;refine⟨⟨i,j,f,U1 d 9,U1 d 10,U1 d 11,v⟩, ?_⟩;unfold O4
 trivial
theorem oi{w:aL}{o:Obj}{n:Nat}(h:n=w.heap.size):(w.alloc o).heap[n]? =some o:=h▸aS w o
theorem RI(n:Int)(ks:List Tr)(hv:j0 D0 (.mk 9 n ks)=true)(w:aL)(A:Option Addr)(cap:Nat)(b8:Lies w (.mk 9 n ks) (.agg #[.int .i64 9,.int .i64 n,.slice A ks.length cap]))(hK:y22 w A ks)(hl:ks.length<=cap)(hc:cap<=maxLen)(hc3:(kd ks 3).kind=8):
 aX prog 173 #[.agg #[.int .i64 9,.int .i64 n,.slice A ks.length cap]] w (Pf w (ctr 9 ks)):=by
 obtain⟨hsh,C0⟩:=Z3 hv;have a8:U0 9=(ks.length:Int):=(Z4 hsh).1;have j6:ks.length=4:=by have h9:(4:Int)=(ks.length:Int):=a8;omega
 have hsk:=(Z4 hsh).2.2.2;have K7: ∀t∈ks,j0 D0 t=true:=fun t ht=> by
  have G:=hsk t ht;have h2:=k9 ht;simp only[cnt] at C0;unfold j0;rw[sf G (by decide),Bool.true_and,decide_eq_true_eq];omega
 have hcc:=hc;unfold maxLen at hcc;have C5:=hdq (fun W (hW:Ext w W)=> Lr (.mk 9 n ks) 30 hsh W _ (b8.ext hW));obtain⟨wb,x6⟩: ∃wb,wb=(w.alloc (.cells #[.int .i64 9,.int .i64 n,.slice A ks.length cap] 25)).alloc (.cells #[.int .i64 0,.int .i64 0,.slice none 0 0] 25):=⟨_,rfl⟩;have hX:Ext w wb:=x6▸((xr w).alloc _).alloc _;have hb0:wb.heap[w.heap.size]? =some (.cells #[.int .i64 9,.int .i64 n,.slice A ks.length cap] 25):=by rw[x6];exact(blk2 (xr _)).1
 have hb1:wb.heap[w.heap.size+1]? =some (.cells #[.int .i64 0,.int .i64 0,.slice none 0 0] 25):=by rw[x6];exact(blk2 (xr _)).2.1
 have hs0:w.heap.size+1 < wb.heap.size:=O1 hb1;have E5:0 < ks.length:=by omega
 have V8:(0:Int) <(ks.length:Int):=by omega
 obtain⟨U,o0,k0,n0,A0,p9,a6,bu,T4,J7,N6,L9,bi,gh,M9,z7,z6⟩:=hK.get (xr w) E5;simp only[Nat.zero_mul,Nat.add_zero] at J7 N6 L9;have x8:kd ks 0= .mk k0 n0 a6:=Zb E5 T4.out;have B0:1 < ks.length:=by omega
 have fw:(1:Int) <(ks.length:Int):=by omega
 obtain⟨b1,o1,k1,n1,A1,C9,q16,O5,E6,c10,c11,c12,Z7,Y4,M6,p5,j9⟩:=hK.get (xr w) B0;simp only[Nat.one_mul,dV,dW] at c10 c11 c12;have I8:kd ks 1= .mk k1 n1 q16:=Zb B0 E6.out;have F5:2 < ks.length:=by omega
 have gm:(2:Int) <(ks.length:Int):=by omega
 obtain⟨b2,o2,k2,Z,A2,F7,q17,ic,iq,c20,c21,em,gj,ej,hK2,S5,I7⟩:=hK.get (xr w) F5;simp only[Nat.reduceMul,dV,dW] at c20 c21 em;have U8:kd ks 2= .mk k2 Z q17:=Zb F5 iq.out;have E0:3 < ks.length:=by omega
 have qu:(3:Int) <(ks.length:Int):=by omega
 obtain⟨b3,o3,k3,n3,A3,F8,j19,W5,V7,L5,c31,K8,ft,Y6,hK3,F6,q9⟩:=hK.get (xr w) E0;simp only[Nat.reduceMul,dV,dW] at L5 c31 K8;have C6:kd ks 3= .mk k3 n3 j19:=Zb E0 V7.out;subst bu
 injection O5 with O5
 injection O5 with dh hC1 hD1
 subst dh hC1
 injection ic with ic
 injection ic with si hC2 hD2
 subst si hC2
 injection W5 with W5
 injection W5 with Bl hC3 hD3
 subst Bl hC3;rw[C6] at hc3;have Ie:k3=8:=hc3;subst Ie;have hv3:=K7 _ q9;have kz:U0 8=(j19.length:Int):=(Z4 (Z3 hv3).1).1;have xh:j19.length=1:=by have h9:(1:Int)=(j19.length:Int):=kz;omega
 have Z2:0 < j19.length:=by omega
 have hi4:(0:Int) <(j19.length:Int):=by omega
 obtain⟨b4,o4,Y,n4,A4,R7,q38,Dd,Ch,c40,yb,xi,Hp,Ha,hK4,lh,ay⟩:=hK3.get (xr w) Z2;simp only[Nat.zero_mul,Nat.add_zero] at c40 yb xi;have mz:kd j19 0= .mk Y n4 q38:=Zb Z2 Ch.out;subst Dd;have q0:=(Z3 (K7 _ z6)).2;have q1:=(Z3 (K7 _ j9)).2;have q2:=(Z3 (K7 _ I7)).2;have q4:=(Z3 hv3).2;have q5:=k9 ay;have l8:ctr 9 ks= .mk 5 0 [.mk 5 0 [.mk k2 Z q17,.mk Y n4 q38],.mk 9 0 [.mk k0 n0 a6,.mk k1 n1 q16,.mk k2 Z q17,.mk Y n4 q38]]:=by rw[Vr (by rw[C6];rfl),x8,I8,U8,C6,show kd (Tr.kids (.mk 8 n3 j19)) 0=_ from mz]
 rw[l8];have I4:rdx 9 ks=3:=by unfold rdx;rw[C6];simp[Tr.kind]
 obtain⟨TT,F4⟩: ∃x,x=Tr.mk 5 0 [.mk 5 0 [.mk k2 Z q17,.mk Y n4 q38],.mk 9 0 [.mk k0 n0 a6,.mk k1 n1 q16,.mk k2 Z q17,.mk Y n4 q38]]:=⟨_,rfl⟩;rw[<-F4];have tx:cnt TT<=10000:=by rw[F4];simp only[cnt,W1] at*;omega
 have M7:=hdq F4;clear F4 l8;have hrt:Y3 (.mk 9 n ks)=3:=I4;rw[hrt] at C5;clear hrt I4 j6 a8;clear xh;go_enter func173,ntmps173;go_wp2_with fail;rw[<-x6];clear x6;refine(C5.out _ hX).mono ?_;rintro e w1 ⟨rfl,G⟩;have V:=hX.trans G;have u6:=G.blk hb0;have o8:=G.blk hb1;have hs1:w.heap.size+1 < w1.heap.size:=O1 o8;obtain⟨z0,z1,z2,-,-,-⟩:=own3 u6;clear hb0 hb1 C5 G;have M:=hdq (show∀w':aL,Ext w1 w'->w'.cell? ⟨w.heap.size,2,none⟩=some (.slice (some ⟨U,o0,none⟩) ks.length cap)/\w'.cell? ⟨U,o0,none⟩=some (.int .i64 k0)/\w'.cell? ⟨U,o0+1,none⟩=some (.int .i64 n0)/\w'.cell? ⟨U,o0+2,none⟩=some (.slice A0 a6.length p9)/\w'.cell? ⟨U,o0+3,none⟩=some (.int .i64 k1)/\w'.cell? ⟨U,o0+4,none⟩=some (.int .i64 n1)/\w'.cell? ⟨U,o0+5,none⟩=some (.slice A1 q16.length C9)/\w'.cell? ⟨U,o0+6,none⟩=some (.int .i64 k2)/\w'.cell? ⟨U,o0+7,none⟩=some (.int .i64 Z)/\w'.cell? ⟨U,o0+8,none⟩=some (.slice A2 q17.length F7)/\w'.cell? ⟨U,o0+11,none⟩=some (.slice (some ⟨b4,o4,none⟩) j19.length F8)/\w'.cell? ⟨b4,o4,none⟩=some (.int .i64 Y)/\w'.cell? ⟨b4,o4+1,none⟩=some (.int .i64 n4)/\w'.cell? ⟨b4,o4+2,none⟩=some (.slice A4 q38.length R7) from fun w' h=>⟨h.cell z2,(V.trans h).cell J7,(V.trans h).cell N6,(V.trans h).cell L9,(V.trans h).cell c10,(V.trans h).cell c11,(V.trans h).cell c12,(V.trans h).cell c20,(V.trans h).cell c21,(V.trans h).cell em,(V.trans h).cell K8,(V.trans h).cell c40,(V.trans h).cell yb,(V.trans h).cell xi⟩);have x9:Ext w1 w1.drew:=(xr w1).drew;have L0:=z7.ext V;have L1:=p5.ext V;have L2:=S5.ext V;have L4:=lh.ext V;clear T4 E6 iq V7 Ch x8 I8 U8 C6 mz M9 M6 hK2 hK3 hK4 z7 p5 S5 F6 lh z6 j9 I7 q9 ay hK b8 kz J7 N6 L9 c10 c11 c12 c20 c21 em L5 c31 K8 c40 yb xi z0 z1 z2 u6;go_wp2_with fail
 apply SC
 case h=>
  intro REST
  go_region_held3 (fun w'=> w'.cell? ⟨w.heap.size,2,none⟩=some (.slice (some ⟨U,o0,none⟩) ks.length cap)/\w'.cell? ⟨U,o0,none⟩=some (.int .i64 k0)/\w'.cell? ⟨U,o0+1,none⟩=some (.int .i64 n0)/\w'.cell? ⟨U,o0+2,none⟩=some (.slice A0 a6.length p9)/\w'.cell? ⟨U,o0+3,none⟩=some (.int .i64 k1)/\w'.cell? ⟨U,o0+4,none⟩=some (.int .i64 n1)/\w'.cell? ⟨U,o0+5,none⟩=some (.slice A1 q16.length C9)/\w'.cell? ⟨U,o0+6,none⟩=some (.int .i64 k2)/\w'.cell? ⟨U,o0+7,none⟩=some (.int .i64 Z)/\w'.cell? ⟨U,o0+8,none⟩=some (.slice A2 q17.length F7)/\w'.cell? ⟨U,o0+11,none⟩=some (.slice (some ⟨b4,o4,none⟩) j19.length F8)/\w'.cell? ⟨b4,o4,none⟩=some (.int .i64 Y)/\w'.cell? ⟨b4,o4+1,none⟩=some (.int .i64 n4)/\w'.cell? ⟨b4,o4+2,none⟩=some (.slice A4 q38.length R7))
   (first|exact M.out _ (by with_reducible exact((((x9).alloc _).alloc _).alloc _).alloc _) |exact M.out _ (by with_reducible exact(((((xr w1).alloc _).alloc _).alloc _).alloc _).drew) |exact M.out _ (by with_reducible exact(((x9).alloc _).alloc _).alloc _) |exact M.out _ (by with_reducible exact((((xr w1).alloc _).alloc _).alloc _).drew) |exact M.out _ (by with_reducible exact((x9).alloc _).alloc _) |exact M.out _ (by with_reducible exact(((xr w1).alloc _).alloc _).drew) |exact M.out _ (by with_reducible exact(x9).alloc _) |exact M.out _ (by with_reducible exact((xr w1).alloc _).drew) |exact M.out _ (by with_reducible exact x9))
   (fail)
  all_goals(obtain⟨R,hO0⟩: ∃x,x=Obj.cells #[.int .i64 k0,.int .i64 n0,.slice A0 a6.length p9] 25:=⟨_,rfl⟩;rw[<-hO0])
  all_goals(obtain⟨O,hO1⟩: ∃x,x=Obj.cells #[.int .i64 k1,.int .i64 n1,.slice A1 q16.length C9] 25:=⟨_,rfl⟩;rw[<-hO1])
  all_goals(obtain⟨T,hO2⟩: ∃x,x=Obj.cells #[.int .i64 k2,.int .i64 Z,.slice A2 q17.length F7] 25:=⟨_,rfl⟩;rw[<-hO2])
  all_goals(obtain⟨S,ij⟩: ∃x,x=Obj.cells #[.int .i64 Y,.int .i64 n4,.slice A4 q38.length R7] 25:=⟨_,rfl⟩;rw[<-ij])
  all_goals(first
   |(obtain⟨l,i⟩:=W2 (eQ ((((w1.alloc R).alloc O).alloc T).alloc S));rw[<-i];obtain⟨s,m,C,B,K⟩:=L8 i;obtain⟨J,D⟩:=W2 (w1.heap.size+1+1+1);rw[<-D] at B⊢;obtain⟨I,E⟩:=W2 (w1.heap.size+1+1);rw[<-E] at C⊢;obtain⟨H,F⟩:=W2 (w1.heap.size+1);rw[<-F] at m⊢;obtain⟨L,d⟩:=W2 (w1.heap.size);rw[<-d] at s⊢)
   |(obtain⟨l,i⟩:=W2 (eQ ((((w1.alloc R).alloc O).alloc S).alloc T));rw[<-i];obtain⟨s,m,B,C,K⟩:=L8 i;obtain⟨I,E⟩:=W2 (w1.heap.size+1+1+1);rw[<-E] at C⊢;obtain⟨J,D⟩:=W2 (w1.heap.size+1+1);rw[<-D] at B⊢;obtain⟨H,F⟩:=W2 (w1.heap.size+1);rw[<-F] at m⊢;obtain⟨L,d⟩:=W2 (w1.heap.size);rw[<-d] at s⊢)
   |(obtain⟨l,i⟩:=W2 (eQ ((((w1.alloc R).alloc T).alloc O).alloc S));rw[<-i];obtain⟨s,C,m,B,K⟩:=L8 i;obtain⟨J,D⟩:=W2 (w1.heap.size+1+1+1);rw[<-D] at B⊢;obtain⟨H,F⟩:=W2 (w1.heap.size+1+1);rw[<-F] at m⊢;obtain⟨I,E⟩:=W2 (w1.heap.size+1);rw[<-E] at C⊢;obtain⟨L,d⟩:=W2 (w1.heap.size);rw[<-d] at s⊢)
   |(obtain⟨l,i⟩:=W2 (eQ ((((w1.alloc R).alloc T).alloc S).alloc O));rw[<-i];obtain⟨s,C,B,m,K⟩:=L8 i;obtain⟨H,F⟩:=W2 (w1.heap.size+1+1+1);rw[<-F] at m⊢;obtain⟨J,D⟩:=W2 (w1.heap.size+1+1);rw[<-D] at B⊢;obtain⟨I,E⟩:=W2 (w1.heap.size+1);rw[<-E] at C⊢;obtain⟨L,d⟩:=W2 (w1.heap.size);rw[<-d] at s⊢)
   |(obtain⟨l,i⟩:=W2 (eQ ((((w1.alloc R).alloc S).alloc O).alloc T));rw[<-i];obtain⟨s,B,m,C,K⟩:=L8 i;obtain⟨I,E⟩:=W2 (w1.heap.size+1+1+1);rw[<-E] at C⊢;obtain⟨H,F⟩:=W2 (w1.heap.size+1+1);rw[<-F] at m⊢;obtain⟨J,D⟩:=W2 (w1.heap.size+1);rw[<-D] at B⊢;obtain⟨L,d⟩:=W2 (w1.heap.size);rw[<-d] at s⊢)
   |(obtain⟨l,i⟩:=W2 (eQ ((((w1.alloc R).alloc S).alloc T).alloc O));rw[<-i];obtain⟨s,B,C,m,K⟩:=L8 i;obtain⟨H,F⟩:=W2 (w1.heap.size+1+1+1);rw[<-F] at m⊢;obtain⟨I,E⟩:=W2 (w1.heap.size+1+1);rw[<-E] at C⊢;obtain⟨J,D⟩:=W2 (w1.heap.size+1);rw[<-D] at B⊢;obtain⟨L,d⟩:=W2 (w1.heap.size);rw[<-d] at s⊢)
   |(obtain⟨l,i⟩:=W2 (eQ ((((w1.alloc O).alloc R).alloc T).alloc S));rw[<-i];obtain⟨m,s,C,B,K⟩:=L8 i;obtain⟨J,D⟩:=W2 (w1.heap.size+1+1+1);rw[<-D] at B⊢;obtain⟨I,E⟩:=W2 (w1.heap.size+1+1);rw[<-E] at C⊢;obtain⟨L,d⟩:=W2 (w1.heap.size+1);rw[<-d] at s⊢;obtain⟨H,F⟩:=W2 (w1.heap.size);rw[<-F] at m⊢)
   |(obtain⟨l,i⟩:=W2 (eQ ((((w1.alloc O).alloc R).alloc S).alloc T));rw[<-i];obtain⟨m,s,B,C,K⟩:=L8 i;obtain⟨I,E⟩:=W2 (w1.heap.size+1+1+1);rw[<-E] at C⊢;obtain⟨J,D⟩:=W2 (w1.heap.size+1+1);rw[<-D] at B⊢;obtain⟨L,d⟩:=W2 (w1.heap.size+1);rw[<-d] at s⊢;obtain⟨H,F⟩:=W2 (w1.heap.size);rw[<-F] at m⊢)
   |(obtain⟨l,i⟩:=W2 (eQ ((((w1.alloc O).alloc T).alloc R).alloc S));rw[<-i];obtain⟨m,C,s,B,K⟩:=L8 i;obtain⟨J,D⟩:=W2 (w1.heap.size+1+1+1);rw[<-D] at B⊢;obtain⟨L,d⟩:=W2 (w1.heap.size+1+1);rw[<-d] at s⊢;obtain⟨I,E⟩:=W2 (w1.heap.size+1);rw[<-E] at C⊢;obtain⟨H,F⟩:=W2 (w1.heap.size);rw[<-F] at m⊢)
   |(obtain⟨l,i⟩:=W2 (eQ ((((w1.alloc O).alloc T).alloc S).alloc R));rw[<-i];obtain⟨m,C,B,s,K⟩:=L8 i;obtain⟨L,d⟩:=W2 (w1.heap.size+1+1+1);rw[<-d] at s⊢;obtain⟨J,D⟩:=W2 (w1.heap.size+1+1);rw[<-D] at B⊢;obtain⟨I,E⟩:=W2 (w1.heap.size+1);rw[<-E] at C⊢;obtain⟨H,F⟩:=W2 (w1.heap.size);rw[<-F] at m⊢)
   |(obtain⟨l,i⟩:=W2 (eQ ((((w1.alloc O).alloc S).alloc R).alloc T));rw[<-i];obtain⟨m,B,s,C,K⟩:=L8 i;obtain⟨I,E⟩:=W2 (w1.heap.size+1+1+1);rw[<-E] at C⊢;obtain⟨L,d⟩:=W2 (w1.heap.size+1+1);rw[<-d] at s⊢;obtain⟨J,D⟩:=W2 (w1.heap.size+1);rw[<-D] at B⊢;obtain⟨H,F⟩:=W2 (w1.heap.size);rw[<-F] at m⊢)
   |(obtain⟨l,i⟩:=W2 (eQ ((((w1.alloc O).alloc S).alloc T).alloc R));rw[<-i];obtain⟨m,B,C,s,K⟩:=L8 i;obtain⟨L,d⟩:=W2 (w1.heap.size+1+1+1);rw[<-d] at s⊢;obtain⟨I,E⟩:=W2 (w1.heap.size+1+1);rw[<-E] at C⊢;obtain⟨J,D⟩:=W2 (w1.heap.size+1);rw[<-D] at B⊢;obtain⟨H,F⟩:=W2 (w1.heap.size);rw[<-F] at m⊢)
   |(obtain⟨l,i⟩:=W2 (eQ ((((w1.alloc T).alloc R).alloc O).alloc S));rw[<-i];obtain⟨C,s,m,B,K⟩:=L8 i;obtain⟨J,D⟩:=W2 (w1.heap.size+1+1+1);rw[<-D] at B⊢;obtain⟨H,F⟩:=W2 (w1.heap.size+1+1);rw[<-F] at m⊢;obtain⟨L,d⟩:=W2 (w1.heap.size+1);rw[<-d] at s⊢;obtain⟨I,E⟩:=W2 (w1.heap.size);rw[<-E] at C⊢)
   |(obtain⟨l,i⟩:=W2 (eQ ((((w1.alloc T).alloc R).alloc S).alloc O));rw[<-i];obtain⟨C,s,B,m,K⟩:=L8 i;obtain⟨H,F⟩:=W2 (w1.heap.size+1+1+1);rw[<-F] at m⊢;obtain⟨J,D⟩:=W2 (w1.heap.size+1+1);rw[<-D] at B⊢;obtain⟨L,d⟩:=W2 (w1.heap.size+1);rw[<-d] at s⊢;obtain⟨I,E⟩:=W2 (w1.heap.size);rw[<-E] at C⊢)
   |(obtain⟨l,i⟩:=W2 (eQ ((((w1.alloc T).alloc O).alloc R).alloc S));rw[<-i];obtain⟨C,m,s,B,K⟩:=L8 i;obtain⟨J,D⟩:=W2 (w1.heap.size+1+1+1);rw[<-D] at B⊢;obtain⟨L,d⟩:=W2 (w1.heap.size+1+1);rw[<-d] at s⊢;obtain⟨H,F⟩:=W2 (w1.heap.size+1);rw[<-F] at m⊢;obtain⟨I,E⟩:=W2 (w1.heap.size);rw[<-E] at C⊢)
   |(obtain⟨l,i⟩:=W2 (eQ ((((w1.alloc T).alloc O).alloc S).alloc R));rw[<-i];obtain⟨C,m,B,s,K⟩:=L8 i;obtain⟨L,d⟩:=W2 (w1.heap.size+1+1+1);rw[<-d] at s⊢;obtain⟨J,D⟩:=W2 (w1.heap.size+1+1);rw[<-D] at B⊢;obtain⟨H,F⟩:=W2 (w1.heap.size+1);rw[<-F] at m⊢;obtain⟨I,E⟩:=W2 (w1.heap.size);rw[<-E] at C⊢)
   |(obtain⟨l,i⟩:=W2 (eQ ((((w1.alloc T).alloc S).alloc R).alloc O));rw[<-i];obtain⟨C,B,s,m,K⟩:=L8 i;obtain⟨H,F⟩:=W2 (w1.heap.size+1+1+1);rw[<-F] at m⊢;obtain⟨L,d⟩:=W2 (w1.heap.size+1+1);rw[<-d] at s⊢;obtain⟨J,D⟩:=W2 (w1.heap.size+1);rw[<-D] at B⊢;obtain⟨I,E⟩:=W2 (w1.heap.size);rw[<-E] at C⊢)
   |(obtain⟨l,i⟩:=W2 (eQ ((((w1.alloc T).alloc S).alloc O).alloc R));rw[<-i];obtain⟨C,B,m,s,K⟩:=L8 i;obtain⟨L,d⟩:=W2 (w1.heap.size+1+1+1);rw[<-d] at s⊢;obtain⟨H,F⟩:=W2 (w1.heap.size+1+1);rw[<-F] at m⊢;obtain⟨J,D⟩:=W2 (w1.heap.size+1);rw[<-D] at B⊢;obtain⟨I,E⟩:=W2 (w1.heap.size);rw[<-E] at C⊢)
   |(obtain⟨l,i⟩:=W2 (eQ ((((w1.alloc S).alloc R).alloc O).alloc T));rw[<-i];obtain⟨B,s,m,C,K⟩:=L8 i;obtain⟨I,E⟩:=W2 (w1.heap.size+1+1+1);rw[<-E] at C⊢;obtain⟨H,F⟩:=W2 (w1.heap.size+1+1);rw[<-F] at m⊢;obtain⟨L,d⟩:=W2 (w1.heap.size+1);rw[<-d] at s⊢;obtain⟨J,D⟩:=W2 (w1.heap.size);rw[<-D] at B⊢)
   |(obtain⟨l,i⟩:=W2 (eQ ((((w1.alloc S).alloc R).alloc T).alloc O));rw[<-i];obtain⟨B,s,C,m,K⟩:=L8 i;obtain⟨H,F⟩:=W2 (w1.heap.size+1+1+1);rw[<-F] at m⊢;obtain⟨I,E⟩:=W2 (w1.heap.size+1+1);rw[<-E] at C⊢;obtain⟨L,d⟩:=W2 (w1.heap.size+1);rw[<-d] at s⊢;obtain⟨J,D⟩:=W2 (w1.heap.size);rw[<-D] at B⊢)
   |(obtain⟨l,i⟩:=W2 (eQ ((((w1.alloc S).alloc O).alloc R).alloc T));rw[<-i];obtain⟨B,m,s,C,K⟩:=L8 i;obtain⟨I,E⟩:=W2 (w1.heap.size+1+1+1);rw[<-E] at C⊢;obtain⟨L,d⟩:=W2 (w1.heap.size+1+1);rw[<-d] at s⊢;obtain⟨H,F⟩:=W2 (w1.heap.size+1);rw[<-F] at m⊢;obtain⟨J,D⟩:=W2 (w1.heap.size);rw[<-D] at B⊢)
   |(obtain⟨l,i⟩:=W2 (eQ ((((w1.alloc S).alloc O).alloc T).alloc R));rw[<-i];obtain⟨B,m,C,s,K⟩:=L8 i;obtain⟨L,d⟩:=W2 (w1.heap.size+1+1+1);rw[<-d] at s⊢;obtain⟨I,E⟩:=W2 (w1.heap.size+1+1);rw[<-E] at C⊢;obtain⟨H,F⟩:=W2 (w1.heap.size+1);rw[<-F] at m⊢;obtain⟨J,D⟩:=W2 (w1.heap.size);rw[<-D] at B⊢)
   |(obtain⟨l,i⟩:=W2 (eQ ((((w1.alloc S).alloc T).alloc R).alloc O));rw[<-i];obtain⟨B,C,s,m,K⟩:=L8 i;obtain⟨H,F⟩:=W2 (w1.heap.size+1+1+1);rw[<-F] at m⊢;obtain⟨L,d⟩:=W2 (w1.heap.size+1+1);rw[<-d] at s⊢;obtain⟨I,E⟩:=W2 (w1.heap.size+1);rw[<-E] at C⊢;obtain⟨J,D⟩:=W2 (w1.heap.size);rw[<-D] at B⊢)
   |(obtain⟨l,i⟩:=W2 (eQ ((((w1.alloc S).alloc T).alloc O).alloc R));rw[<-i];obtain⟨B,C,m,s,K⟩:=L8 i;obtain⟨L,d⟩:=W2 (w1.heap.size+1+1+1);rw[<-d] at s⊢;obtain⟨H,F⟩:=W2 (w1.heap.size+1+1);rw[<-F] at m⊢;obtain⟨I,E⟩:=W2 (w1.heap.size+1);rw[<-E] at C⊢;obtain⟨J,D⟩:=W2 (w1.heap.size);rw[<-D] at B⊢))
  all_goals(clear i;have l4:w1.heap.size<=L:=(by omega);have l5:w1.heap.size<=H:=(by omega);have l6:w1.heap.size<=I:=(by omega);have l7:w1.heap.size<=J:=(by omega);clear d F E D;subst hO0 hO1 hO2 ij)
  all_goals rename_i ky
  all_goals clear ky
  all_goals revert B
  all_goals revert C
  all_goals revert m
  all_goals revert s
  all_goals revert K
  all_goals revert l7
  all_goals revert l6
  all_goals revert l5
  all_goals revert l4
  all_goals revert J
  all_goals revert I
  all_goals revert H
  all_goals revert L
  all_goals revert l
  all_goals exact REST.out
 case k=>
  intro l L H I J l4 l5 l6 l7 K s m C B;clear M;obtain⟨y40,y41,y42,-,-,-⟩:=own3 s;obtain⟨y50,y51,y52,-,-,-⟩:=own3 m;obtain⟨y60,y61,y62,-,-,-⟩:=own3 C;obtain⟨y70,y71,y72,-,-,-⟩:=own3 B;have Bw:=K.blk o8;have hs5:=K.size;have M:=hdq (show∀w':aL,(∀y,y < l.heap.size->y≠w.heap.size+1->w'.heap[y]? =l.heap[y]?)->w'.cell? ⟨L,0,none⟩=some (.int .i64 k0)/\w'.cell? ⟨L,1,none⟩=some (.int .i64 n0)/\w'.cell? ⟨L,2,none⟩=some (.slice A0 a6.length p9)/\w'.cell? ⟨H,0,none⟩=some (.int .i64 k1)/\w'.cell? ⟨H,1,none⟩=some (.int .i64 n1)/\w'.cell? ⟨H,2,none⟩=some (.slice A1 q16.length C9)/\w'.cell? ⟨I,0,none⟩=some (.int .i64 k2)/\w'.cell? ⟨I,1,none⟩=some (.int .i64 Z)/\w'.cell? ⟨I,2,none⟩=some (.slice A2 q17.length F7)/\w'.cell? ⟨J,0,none⟩=some (.int .i64 Y)/\w'.cell? ⟨J,1,none⟩=some (.int .i64 n4)/\w'.cell? ⟨J,2,none⟩=some (.slice A4 q38.length R7) from fun w' hw=> by
   have f: ∀(q j:Nat) (x:aT),q < l.heap.size->q≠w.heap.size+1->l.cell? ⟨q,j,none⟩=some x->w'.cell? ⟨q,j,none⟩=some x:=fun q j x G h2 h3=>(dY (a:=⟨q,j,none⟩) (hw q G h2)).trans h3
   exact⟨f _ _ _ (O1 s) (by omega) y40,f _ _ _ (O1 s) (by omega) y41,f _ _ _ (O1 s) (by omega) y42,f _ _ _ (O1 m) (by omega) y50,f _ _ _ (O1 m) (by omega) y51,f _ _ _ (O1 m) (by omega) y52,f _ _ _ (O1 C) (by omega) y60,f _ _ _ (O1 C) (by omega) y61,f _ _ _ (O1 C) (by omega) y62,f _ _ _ (O1 B) (by omega) y70,f _ _ _ (O1 B) (by omega) y71,f _ _ _ (O1 B) (by omega) y72⟩)
  have X5:Ext l l.drew:=(xr l).drew;have uv:=hdq (fun W (h:Ext l W)=> L0.ext (K.trans h));have HL1:=hdq (fun W (h:Ext l W)=> L1.ext (K.trans h));have ou:=hdq (fun W (h:Ext l W)=> L2.ext (K.trans h));have HL4:=hdq (fun W (h:Ext l W)=> L4.ext (K.trans h));have HE5:=hdq (V.trans K);clear y40 y41 y42 y50 y51 y52 y60 y61 y62 y70 y71 y72 L0 L1 L2 L4 s m C B o8;go_wp2_with fail
  go_region_held3 (fun w'=> w'.cell? ⟨L,0,none⟩=some (.int .i64 k0)/\w'.cell? ⟨L,1,none⟩=some (.int .i64 n0)/\w'.cell? ⟨L,2,none⟩=some (.slice A0 a6.length p9)/\w'.cell? ⟨H,0,none⟩=some (.int .i64 k1)/\w'.cell? ⟨H,1,none⟩=some (.int .i64 n1)/\w'.cell? ⟨H,2,none⟩=some (.slice A1 q16.length C9)/\w'.cell? ⟨I,0,none⟩=some (.int .i64 k2)/\w'.cell? ⟨I,1,none⟩=some (.int .i64 Z)/\w'.cell? ⟨I,2,none⟩=some (.slice A2 q17.length F7)/\w'.cell? ⟨J,0,none⟩=some (.int .i64 Y)/\w'.cell? ⟨J,1,none⟩=some (.int .i64 n4)/\w'.cell? ⟨J,2,none⟩=some (.slice A4 q38.length R7))
   (first|exact M.out _ (fun y G h2=> by rw[aM _ _ _ _ h2,aM _ _ _ _ h2,aM _ _ _ _ h2];exact Ek.heap y G) |exact M.out _ (fun y G _=> by with_reducible exact Ext.heap (Ek) y G) |exact M.out _ (fun y G _=> by with_reducible exact Ext.heap (X10) y G) |exact M.out _ (fun y G _=> by with_reducible exact Ext.heap (X9) y G) |exact M.out _ (fun y G _=> by with_reducible exact Ext.heap (X8.alloc _) y G) |exact M.out _ (fun y G _=> by with_reducible exact Ext.heap (X8) y G) |exact M.out _ (fun y G _=> by with_reducible exact Ext.heap (X.alloc _) y G) |exact M.out _ (fun y G _=> by with_reducible exact Ext.heap (X) y G) |exact M.out _ (fun y G _=> by with_reducible exact Ext.heap ((X5.alloc _).alloc _) y G) |exact M.out _ (fun y G _=> by with_reducible exact Ext.heap (X5.alloc _) y G) |exact M.out _ (fun y G _=> by with_reducible exact Ext.heap (X5) y G) |exact M.out _ (fun y G _=> by with_reducible exact Ext.heap (((xr l).alloc _).drew) y G) |exact M.out _ (fun y G _=> by with_reducible exact Ext.heap ((((xr l).alloc _).alloc _).drew) y G))
   (first|(go_at_call 137;refine(Tx Bb).mono ?_;rintro e ee ⟨a1,a2,a3,a4,a5,rfl,hM,h11⟩;have Ek:Ext l ee:=X10.trans h11;obtain⟨s0,s1,s2,f0,f1,f2⟩:=own3 (Ek.blk Bw)) |(go_at_call 43;refine(Qg TT _ _ (by rw[M7.out];exact Bj) (by omega)).mono ?_;rintro e T3 ⟨uo,rfl,Bb,h10⟩;obtain⟨o1,o2,o3,o4,o5,rfl⟩:=Bb.three';have X10:Ext l T3:=X9.trans h10) |(go_at_call 56;(with_reducible show aX _ _ #[.int .i64 5,.slice _ 2 _] _ _);refine(Sj (Lies.ext hM7 (Ja.alloc _)) (Lies.ext Cs ((xr w8).alloc _)) (aS w8 _)).mono ?_;rintro e w9 ⟨p31,p32,p33,p34,p35,rfl,Bj,h9⟩;have X9:Ext l w9:=(X8.alloc _).trans h9) |(go_at_call 56;(with_reducible show aX _ _ #[.int .i64 9,.slice _ 4 _] _ _);refine(Yw (t1:= .mk k0 n0 a6) (t2:= .mk k1 n1 q16) (t3:= .mk k2 Z q17) (t4:= .mk Y n4 q38) (uv.out _ (by with_reducible (first|exact X|exact X.alloc _|exact(X.alloc _).alloc _|exact((xr l).alloc _).drew|exact(((xr l).alloc _).alloc _).drew))) (HL1.out _ (by with_reducible (first|exact X|exact X.alloc _|exact(X.alloc _).alloc _|exact((xr l).alloc _).drew|exact(((xr l).alloc _).alloc _).drew))) (ou.out _ (by with_reducible (first|exact X|exact X.alloc _|exact(X.alloc _).alloc _|exact((xr l).alloc _).drew|exact(((xr l).alloc _).alloc _).drew))) (HL4.out _ (by with_reducible (first|exact X|exact X.alloc _|exact(X.alloc _).alloc _|exact((xr l).alloc _).drew|exact(((xr l).alloc _).alloc _).drew))) (by first|(with_reducible exact(oi (by first|rfl|simp))) |(with_reducible exact((xr _).alloc _).blk (oi (by first|rfl|simp))) |(with_reducible exact(xr _).drew.blk (oi (by first|rfl|simp))) |(with_reducible exact(((xr _).alloc _).drew).blk (oi (by first|rfl|simp))) |(with_reducible exact Ext.blk h7 ((oi (by first|rfl|simp)))) |(with_reducible exact Ext.blk h7 (((xr _).alloc _).blk (oi (by first|rfl|simp)))) |(with_reducible exact Ext.blk h7 ((xr _).drew.blk (oi (by first|rfl|simp)))) |(with_reducible exact Ext.blk h7 ((((xr _).alloc _).drew).blk (oi (by first|rfl|simp)))))).mono ?_;rintro e w8 ⟨Ex,Fl,Eo,Dz,p25,rfl,Cs,h8⟩;have Ja:Ext w7 w8:=(by with_reducible (first|exact h8|exact((xr _).alloc _).trans h8));have X8:Ext l w8:=X.trans Ja) |(go_at_call 56;(with_reducible show aX _ _ #[.int .i64 5,.slice _ 2 _] _ _);refine(Sj (t1:= .mk k2 Z q17) (t2:= .mk Y n4 q38) (ou.out _ (by with_reducible (first|exact X5|exact X5.alloc _|exact(X5.alloc _).alloc _|exact((xr l).alloc _).drew|exact(((xr l).alloc _).alloc _).drew))) (HL4.out _ (by with_reducible (first|exact X5|exact X5.alloc _|exact(X5.alloc _).alloc _|exact((xr l).alloc _).drew|exact(((xr l).alloc _).alloc _).drew))) (by first|(with_reducible exact(oi (by first|rfl|simp))) |(with_reducible exact((xr _).alloc _).blk (oi (by first|rfl|simp))) |(with_reducible exact(xr _).drew.blk (oi (by first|rfl|simp))) |(with_reducible exact(((xr _).alloc _).drew).blk (oi (by first|rfl|simp))))).mono ?_;rintro e w7 ⟨Fu,Ga,Fh,Fy,Fg,rfl,hM7,h7⟩;have X:Ext l w7:=Ext.trans (by with_reducible (first|exact X5|exact X5.alloc _|exact(X5.alloc _).alloc _|exact((xr l).alloc _).drew|exact(((xr l).alloc _).alloc _).drew)) h7))
  all_goals(
   have hE:=HE5.out.trans Ek;have t9:=X9.size;have hs9:w1.heap.size<=w9.heap.size:=by omega
   have HM:=hdq (W0.since hM (a:=w) (by have:=V.size;omega));clear hM7 Cs Bj Bb M Bw Ja h7 h8 h9 h10 h11;go_wp2_with fail;refine aP (v:= .tuple #[.agg #[.int .i64 a1,.int .i64 a2,.slice a3 a4 a5],.bool (j0 D0 TT)]) (by simp[results,results173,go_sem,s0,s1,s2]) rfl ⟨_,rfl,W0.since (hM.after ((((ja.refl _ _).setCell (p:=⟨w.heap.size+1,0,none⟩) (by show w.heap.size+1 < _;omega) (.int .i64 a1)).setCell (p:=⟨w.heap.size+1,1,none⟩) (by show w.heap.size+1 < _;omega) (.int .i64 a2)).setCell (p:=⟨w.heap.size+1,2,none⟩) (by show w.heap.size+1 < _;omega) (.slice a3 a4 a5))) (by have:=V.size;omega),(((hE.setCell (p:=⟨w.heap.size+1,0,none⟩) (by show w.heap.size<=w.heap.size+1;omega) _).setCell (p:=⟨w.heap.size+1,1,none⟩) (by show w.heap.size<=w.heap.size+1;omega) _).setCell (p:=⟨w.heap.size+1,2,none⟩) (by show w.heap.size<=w.heap.size+1;omega) _)⟩)
end Go.Proofs.YtckhbnmfnpolgaaGreat
namespace Go.Proofs.YtckhbnmfnpolgaaGreat
open Go Go.RowKit
def oD(w:aL)(N:Nat->Prop)(b o:Nat)(t:Tr)(x1 x2:Int)(x3:Option Addr)(x4 x5:Nat):Prop:=
 w.cell? ⟨b,o,none⟩=some (.int .i64 x1)/\w.cell? ⟨b,o+1,none⟩=some (.int .i64 x2)/\w.cell? ⟨b,o+2,none⟩=some (.slice x3 x4 x5)/\InT w N t (.agg #[.int .i64 x1,.int .i64 x2,.slice x3 x4 x5])
theorem InK.kid{w:aL}{N:Nat->Prop}{A:Option Addr}{ks:List Tr}(h:InK w N A ks)(n:0 < ks.length): ∃b o,A=some ⟨b,o,none⟩/\ ∀j,j < ks.length-> ∃x1 x2 x3 x4 x5,oD w N b (o+3*j) (kd ks j) x1 x2 x3 x4 x5:=by
 obtain⟨b,o,-,-,-,-,-,rfl,-⟩:=h.get (fun b _=> rfl) n;refine⟨b,o,rfl,fun j f=> ?_⟩;obtain⟨B,C,m,l,q,s,q16,k,p,e,i,d,-,-,-,v,-⟩:=h.get (fun b _=> rfl) f;simp only[Option.some.injEq,Addr.mk.injEq,and_true] at k;obtain⟨rfl,rfl⟩:=k;rw[Nat.mul_comm] at e i d;exact⟨m,l,q,_,s,e,i,d,(be f p.out).symm▸v⟩
theorem Ud{x:An}{f:Tr->An}{r:Tr×Int}(h:thn x f=some r): ∃s c,x=some (s,c)/\(c=0->f s=some r)/\(c≠0->r=(j2,c)):=by
 rcases Ao h with⟨s,d,e⟩ |⟨s,c,d,hc,rfl⟩
 · exact⟨s,0,d,fun _=> e,fun h=> absurd rfl h⟩
 · exact⟨s,c,d,fun h=> absurd h hc,fun _=> rfl⟩
def ue(e:aL)(A:Option Addr)(ca:Nat)(G:List Tr)(d:Tr->An):Prop:=
 ∀(W:aL) (N:Nat->Prop),Ext e W->(∀b,W.heap.size<=b->N b)->InK W N A G-> ∀(t:Tr) (v:aT),InT W N t v->j0 D0 t=true-> ∀r,d t=some r->
  aX prog 64 #[.slice A G.length ca,v] W (q8 N W r)
theorem a7{x:An}{f:Tr->An}{r:Tr×Int}(h:thn x f=some r): ∃s c,Hid (x=some (s,c))/\Hid (c=0->f s=some r)/\Hid (c≠0->r=(j2,c)):=by
 obtain⟨s,c,i,d,e⟩:=Ud h;exact⟨s,c,hdq i,hdq d,hdq e⟩
def Off(r:Nat)(w w':aL):Prop:=w.heap.size<=w'.heap.size/\ ∀b,b < w.heap.size->b≠r->w'.heap[b]? =w.heap[b]?
theorem Ext.off{r:Nat}{w w':aL}(h:Ext w w'):Off r w w':=⟨h.size,fun b d _=> h.heap b d⟩
theorem Off.refl(r:Nat)(w:aL):Off r w w:=⟨aN _,fun _ _ _=> rfl⟩
theorem Off.trans{r:Nat}{a b c:aL}(h:Off r a b)(k:Off r b c):Off r a c:=⟨bL h.1 k.1,fun x hx hr=>(k.2 x (aY hx h.1) hr).trans (h.2 x hx hr)⟩
theorem Off.set3{r:Nat}{a b:aL}(h:Off r a b)(x y z:aT):Off r a (((b.setCell ⟨r,0,none⟩ x).setCell ⟨r,1,none⟩ y).setCell ⟨r,2,none⟩ z):=
 ⟨by simpa using h.1,fun c hc hr=> by rw[aM _ _ _ _ hr,aM _ _ _ _ hr,aM _ _ _ _ hr];exact h.2 c hc hr⟩
theorem Off.blk{r:Nat}{w w':aL}(h:Off r w w'){b:Nat}{x:Obj}(d:w.heap[b]? =some x)(hr:b≠r):w'.heap[b]? =some x:=(h.2 b (O1 d) hr).trans d
theorem Off.cell{r:Nat}{w w':aL}(h:Off r w w'){b o:Nat}{v:aT}(hc:w.cell? ⟨b,o,none⟩=some v)(hr:b≠r):w'.cell? ⟨b,o,none⟩=some v:=
 (dY (w:=w) (a:=⟨b,o,none⟩) (h.2 b (bU w ⟨b,o,none⟩ hc) hr)).trans hc
theorem InT.off{r:Nat}{w w':aL}{N:Nat->Prop}{t:Tr}{v:aT}(h:InT w N t v)(e:Off r w w')(hN: ∀b,N b->b≠r):InT w' N t v:=
 InT.mono (fun b d=> d.1) (fun b d=> e.2 b d.2 (hN b d.1)) h.bound
theorem InK.off{r:Nat}{w w':aL}{N:Nat->Prop}{A:Option Addr}{ks:List Tr}(h:InK w N A ks)(e:Off r w w')(hN: ∀b,N b->b≠r):InK w' N A ks:=
 InK.mono (fun b d=> d.1) (fun b d=> e.2 b d.2 (hN b d.1)) h.bound
abbrev KA(w:aL)(N:Nat->Prop)(b o:Nat)(t:Tr)(x1 x2:Int)(x3:Option Addr)(x4 x5:Nat):Prop:=
 w.cell? ⟨b,o,none⟩=some (.int .i64 x1)/\w.cell? ⟨b,o+1,none⟩=some (.int .i64 x2)/\w.cell? ⟨b,o+2,none⟩=some (.slice x3 x4 x5)/\b < w.heap.size/\InT w N t (.agg #[.int .i64 x1,.int .i64 x2,.slice x3 x4 x5])
section
variable {w w' w0 w1 : aL} {N : Nat → Prop} {b o r : Nat} {t : Tr} {x1 x2 : Int} {x3 : Option Addr} {x4 x5 : Nat}
theorem KA.i(h:KA w N b o t x1 x2 x3 x4 x5):InT w N t (M0 x1 x2 x3 x4 x5):=h.2.2.2.2
theorem KA.l(h:KA w N b o t x1 x2 x3 x4 x5):Lies w t (M0 x1 x2 x3 x4 x5):=h.2.2.2.2.lies'
theorem KA.off(h:KA w N b o t x1 x2 x3 x4 x5)(d:b≠r)(hN: ∀b,N b->b≠r)(w':aL)(e:Off r w w'):KA w' N b o t x1 x2 x3 x4 x5:=
 ⟨e.cell h.1 d,e.cell h.2.1 d,e.cell h.2.2.1 d,aY h.2.2.2.1 e.1,h.2.2.2.2.off e hN⟩
theorem KA.up(h:KA w0 N b o t x1 x2 x3 x4 x5)(e:Ext w0 w1)(hr:w0.heap.size<=r): ∀w',Off r w1 w'->KA w' (fun b=> N b/\b≠r) b o t x1 x2 x3 x4 x5:=
 KA.off (w:=w1) ⟨e.cell h.1,e.cell h.2.1,e.cell h.2.2.1,aY h.2.2.2.1 e.size,h.2.2.2.2.keep e hr⟩ (by have:=h.2.2.2.1;omega) (fun b h=> h.2)
end
theorem Cd{w:aL}{N:Nat->Prop}{A:Option Addr}{ks:List Tr}(h:InK w N A ks)(f:0 < ks.length): ∃b o,A=some ⟨b,o,none⟩/\N b/\ ∀j,j < ks.length-> ∃x1 x2 x3 x4 x5,KA w N b (o+3*j) (kd ks j) x1 x2 x3 x4 x5:=by
 obtain⟨d,e,rfl,k⟩:=InK.kid h f;refine⟨d,e,rfl, ?_,fun j p=> ?_⟩
 · rcases h with rfl|⟨b,o,h,q,-⟩
   · exact absurd f (by simp)
   · obtain⟨rfl,rfl⟩:d=b/\e=o:=by simpa using h
     exact q
 · obtain⟨x1,x2,x3,x4,x5,i,n,l,m⟩:=k j p
   exact⟨x1,x2,x3,x4,x5,i,n,l,bU _ ⟨d,_,none⟩ i,m⟩
section
variable {w : aL} {N : Nat → Prop} {A : Option Addr} {ks : List Tr}
theorem q16(h:InK w N A ks)(hl:ks.length=1): ∃b o,A=some ⟨b,o,none⟩/\N b/\ ∃x1 x2 x3 x4 x5,KA w N b o (kd ks 0) x1 x2 x3 x4 x5:=by
 obtain⟨b,o,f,d,e⟩:=Cd h (by omega);exact⟨b,o,f,d,e 0 (by omega)⟩
theorem q17(h:InK w N A ks)(hl:ks.length=2): ∃b o,A=some ⟨b,o,none⟩/\N b/\(∃x1 x2 x3 x4 x5,KA w N b o (kd ks 0) x1 x2 x3 x4 x5)/\ ∃x1 x2 x3 x4 x5,KA w N b (o+3) (kd ks 1) x1 x2 x3 x4 x5:=by
 obtain⟨b,o,f,e,d⟩:=Cd h (by omega);exact⟨b,o,f,e,d 0 (by omega),d 1 (by omega)⟩
theorem j19(h:InK w N A ks)(hl:ks.length=3): ∃b o,A=some ⟨b,o,none⟩/\N b/\(∃x1 x2 x3 x4 x5,KA w N b o (kd ks 0) x1 x2 x3 x4 x5)/\(∃x1 x2 x3 x4 x5,KA w N b (o+3) (kd ks 1) x1 x2 x3 x4 x5)/\ ∃x1 x2 x3 x4 x5,KA w N b (o+6) (kd ks 2) x1 x2 x3 x4 x5:=by
 obtain⟨b,o,f,e,d⟩:=Cd h (by omega);exact⟨b,o,f,e,d 0 (by omega),d 1 (by omega),d 2 (by omega)⟩
theorem q38(h:InK w N A ks)(hl:ks.length=4): ∃b o,A=some ⟨b,o,none⟩/\N b/\(∃x1 x2 x3 x4 x5,KA w N b o (kd ks 0) x1 x2 x3 x4 x5)/\(∃x1 x2 x3 x4 x5,KA w N b (o+3) (kd ks 1) x1 x2 x3 x4 x5)/\(∃x1 x2 x3 x4 x5,KA w N b (o+6) (kd ks 2) x1 x2 x3 x4 x5)/\ ∃x1 x2 x3 x4 x5,KA w N b (o+9) (kd ks 3) x1 x2 x3 x4 x5:=by
 obtain⟨b,o,f,e,d⟩:=Cd h (by omega);exact⟨b,o,f,e,d 0 (by omega),d 1 (by omega),d 2 (by omega),d 3 (by omega)⟩
end
section
variable {r : Nat} {w w' w0 w1 : aL} {P Q : aL → Prop}
theorem both{R:aL->Prop}(F: ∀w',R w'->P w')(G: ∀w',R w'->Q w'): ∀w',R w'->P w'/\Q w':=fun w' h=>⟨F w' h,G w' h⟩
theorem rb(F: ∀w',Off r w w'->P w')(X:Ext w w1): ∀w',Off r w1 w'->P w':=fun w' h=> F w' (X.off.trans h)
theorem m7{g:Nat}{x0 x1 x2:aT}{e:aZ}(f:w.heap[g]? =some (.cells #[x0,x1,x2] e (0,0)))(d:g≠r): ∀w',Off r w w'->w'.cell? ⟨g,0,none⟩=some x0/\w'.cell? ⟨g,1,none⟩=some x1/\w'.cell? ⟨g,2,none⟩=some x2/\g < w'.heap.size:=
 fun w' h=> cb3 (h.blk f d)
theorem xK{g:Nat}{x0 x1 x2 x3 x4:aT}{e:aZ}(f:w.heap[g]? =some (.cells #[x0,x1,x2,x3,x4] e (0,0)))(d:g≠r): ∀w',Off r w w'->w'.cell? ⟨g,0,none⟩=some x0/\w'.cell? ⟨g,1,none⟩=some x1/\w'.cell? ⟨g,2,none⟩=some x2/\w'.cell? ⟨g,3,none⟩=some x3/\w'.cell? ⟨g,4,none⟩=some x4/\g < w'.heap.size:=
 fun w' h=> xt (h.blk f d)
theorem Ze{N:Nat->Prop}{x0 x1 x2 x3 x4 f k d:aT}{e i:aZ}(l:w1=(w0.alloc (.cells #[x0,x1,x2,x3,x4] e)).alloc (.cells #[f,k,d] i))(hN: ∀b,w0.heap.size<=b->N b):
 Ext w0 w1/\w1.heap[w0.heap.size+1]? =some (.cells #[f,k,d] i)/\ ∀w',Off (w0.heap.size+1) w1 w'->(∀b,w'.heap.size<=b->N b/\b≠w0.heap.size+1)/\w'.cell? ⟨w0.heap.size,0,none⟩=some x0/\w'.cell? ⟨w0.heap.size,1,none⟩=some x1/\w'.cell? ⟨w0.heap.size,2,none⟩=some x2/\w'.cell? ⟨w0.heap.size,3,none⟩=some x3/\w'.cell? ⟨w0.heap.size,4,none⟩=some x4/\w0.heap.size < w'.heap.size:=by
 obtain⟨n,m,s,j⟩:=box2 l;exact⟨j,m,both (fun w' h b p=> Ia hN j.size s b (bL h.1 p)) (xK n (by omega))⟩
theorem Ext.ne{o:Obj}(X:Ext w w')(h:w.heap[r]? =some o):w'.heap.size≠r:=by
 have:=X.size;have:=O1 h;omega
theorem nb{o:Obj}(h:w.alloc o=w'):w'.heap[w.heap.size]? =some o/\Ext w w':=by
 subst h;exact⟨aS _ _,(xr _).alloc _⟩
theorem InT.up{N:Nat->Prop}{t:Tr}{v:aT}(h:InT w (fun b=> N b/\b≠r) t v)(e:Ext w w1): ∀w',Off r w1 w'->InT w' (fun b=> N b/\b≠r) t v:=fun w' k=>(h.later e).off k fun _ h=> h.2
theorem sn2{N:Nat->Prop}{x0 x1 x2 f k d:aT}{e i:aZ}(l:w1=(w0.alloc (.cells #[x0,x1,x2] e)).alloc (.cells #[f,k,d] i))(hN: ∀b,w0.heap.size<=b->N b):
 Ext w0 w1/\w1.heap[w0.heap.size+1]? =some (.cells #[f,k,d] i)/\ ∀w',Off (w0.heap.size+1) w1 w'->(∀b,w'.heap.size<=b->N b/\b≠w0.heap.size+1)/\w'.cell? ⟨w0.heap.size,0,none⟩=some x0/\w'.cell? ⟨w0.heap.size,1,none⟩=some x1/\w'.cell? ⟨w0.heap.size,2,none⟩=some x2/\w0.heap.size < w'.heap.size:=by
 obtain⟨n,m,s,j⟩:=box2 l;exact⟨j,m,both (fun w' h b p=> Ia hN j.size s b (bL h.1 p)) (m7 n (by omega))⟩
theorem KA.fm{N:Nat->Prop}{b o:Nat}{t:Tr}{x1 x2:Int}{x3:Option Addr}{x4 x5:Nat}(h:KA w (fun b=> N b/\b≠r) b o t x1 x2 x3 x4 x5)(d:N b/\b≠r)(e:Ext w w1): ∀w',Off r w1 w'->KA w' (fun b=> N b/\b≠r) b o t x1 x2 x3 x4 x5:=
 KA.off (KA.off h d.2 (fun _ h=> h.2) _ e.off) d.2 fun _ h=> h.2
theorem fK(w:aL)(a:Obj)(x0 x1 x2:aT)(e:aZ):
 ((w.alloc a).alloc (.cells #[x0,x1,x2] e)).cell? ⟨w.heap.size+1,0,none⟩=some x0/\((w.alloc a).alloc (.cells #[x0,x1,x2] e)).cell? ⟨w.heap.size+1,1,none⟩=some x1/\((w.alloc a).alloc (.cells #[x0,x1,x2] e)).cell? ⟨w.heap.size+1,2,none⟩=some x2:=by
 obtain⟨-,h,-⟩:=box2 (w:=w) (a:=a) (b:= .cells #[x0,x1,x2] e) rfl;exact⟨(cbn h).1,(cbn h).2.1,(cbn h).2.2.1⟩
theorem NJ(w:aL)(a b:Obj)(x0 x1 x2:aT)(e:aZ):
 (((w.alloc a).alloc (.cells #[x0,x1,x2] e)).alloc b).cell? ⟨w.heap.size+1,0,none⟩=some x0/\(((w.alloc a).alloc (.cells #[x0,x1,x2] e)).alloc b).cell? ⟨w.heap.size+1,1,none⟩=some x1/\(((w.alloc a).alloc (.cells #[x0,x1,x2] e)).alloc b).cell? ⟨w.heap.size+1,2,none⟩=some x2:=by
 obtain⟨-,h,-⟩:=Tg (w:=w) (a:=a) (b:= .cells #[x0,x1,x2] e) (c:=b) rfl;exact⟨(cbn h).1,(cbn h).2.1,(cbn h).2.2.1⟩
theorem cz(c:Int):(Hid (c≠0)/\(c !=0)=true/\(c==0)=false)\/c=0:=by
 by_cases h:c=0
 · exact .inr h
 · exact .inl ⟨hdq h,by simp[h],by simp[h]⟩
theorem czk(k n:Int):(Hid (k≠n)/\(k !=n)=true/\(k==n)=false)\/k=n:=by
 by_cases h:k=n
 · exact .inr h
 · exact .inl ⟨hdq h,by simp[h],by simp[h]⟩
end
section
variable {w : aL} {N : Nat → Prop} {t u x : Tr} {v0 v1 v2 u0 u1 u2 x0 x1 x2 : aT}
theorem mc(e:aZ)(h:InT w N t (.agg #[v0,v1,v2]))(hN: ∀b,w.heap.size<=b->N b):Ext w (w.alloc (.cells #[v0,v1,v2] e))/\InK (w.alloc (.cells #[v0,v1,v2] e)) N (some ⟨w.heap.size,0,none⟩) [t]:=⟨(xr _).alloc _,InK.news h (hN _ (aN _))⟩
theorem K6(e:aZ)(h:InT w N t (.agg #[v0,v1,v2]))(k:InT w N u (.agg #[u0,u1,u2]))(hN: ∀b,w.heap.size<=b->N b):Ext w (w.alloc (.cells #[v0,v1,v2,u0,u1,u2] e))/\InK (w.alloc (.cells #[v0,v1,v2,u0,u1,u2] e)) N (some ⟨w.heap.size,0,none⟩) [t,u]:=⟨(xr _).alloc _,InK.news2 h k (hN _ (aN _))⟩
theorem fd(e:aZ)(h:InT w N t (.agg #[v0,v1,v2]))(k:InT w N u (.agg #[u0,u1,u2]))(l:InT w N x (.agg #[x0,x1,x2]))(hN: ∀b,w.heap.size<=b->N b):Ext w (w.alloc (.cells #[v0,v1,v2,u0,u1,u2,x0,x1,x2] e))/\InK (w.alloc (.cells #[v0,v1,v2,u0,u1,u2,x0,x1,x2] e)) N (some ⟨w.heap.size,0,none⟩) [t,u,x]:=⟨(xr _).alloc _,InK.news3 h k l (hN _ (aN _))⟩
end
theorem rgn{P:Program}{id:Nat}{ops:Array Oper}{Q:Exit->Act->aL->Prop}{a:Act}{w W:aL}(r:Nat)(hm:P.follows .mixedOrders=true)(X:Ext W w)(h:wpAnyH P .any ops Q (Off r W) ops.size (Array.replicate ops.size false) a w.drew):(Code.region id ops true).wp P Q a w:=
 wp_region_held_drew hm X.drew.off fun _=> h
section
variable {P : Program} {fn : Func} {a : Act} {w W : aL} {N : Nat → Prop} {r : Tr × Int} {c : Int} {g : Nat} {t : Tr} {u x y z : aT}
theorem D9(e:(results fn a.tmps).run P W= .ok (.tuple #[M0 0 0 none 0 0,m0 c]) W)(d:r=(j2,c))(x:Ext w W)(f:a.defers= []):bodyPost P fn (q8 N w r) .ret a W:=
 aP e f ⟨_,by rw[d],by rw[d];exact d5 _ _ 0 0,x⟩
theorem R6{w0:aL}(f:(results fn a.tmps).run P (((w.setCell ⟨g,0,none⟩ x).setCell ⟨g,1,none⟩ y).setCell ⟨g,2,none⟩ z)= .ok (.tuple #[u,m0 c]) (((w.setCell ⟨g,0,none⟩ x).setCell ⟨g,1,none⟩ y).setCell ⟨g,2,none⟩ z))
 (hT:InT w (fun b=> N b/\b≠g) t u) (hr:r=(t,c)) (X:Ext w0 w) (d:w0.heap.size<=g) (e:a.defers= []):bodyPost P fn (q8 N w0 r) .ret a (((w.setCell ⟨g,0,none⟩ x).setCell ⟨g,1,none⟩ y).setCell ⟨g,2,none⟩ z):=
 aP f e ⟨_,by rw[hr],by rw[hr];exact hT.ret _ _ _,X.set3 d _ _ _⟩
end
theorem PJ{ks:List Tr}(h:ks.length=1):(0:Int) <(ks.length:Int)/\0 < ks.length:=by omega
theorem KJ{ks:List Tr}(h:ks.length=2):((0:Int) <(ks.length:Int)/\0 < ks.length)/\(1:Int) <(ks.length:Int)/\1 < ks.length:=by omega
theorem bF{ks:List Tr}(h:ks.length=3):((0:Int) <(ks.length:Int)/\0 < ks.length)/\((1:Int) <(ks.length:Int)/\1 < ks.length)/\(2:Int) <(ks.length:Int)/\2 < ks.length:=by omega
theorem oK{ks:List Tr}(h:ks.length=4):((0:Int) <(ks.length:Int)/\0 < ks.length)/\((1:Int) <(ks.length:Int)/\1 < ks.length)/\((2:Int) <(ks.length:Int)/\2 < ks.length)/\(3:Int) <(ks.length:Int)/\3 < ks.length:=by omega
theorem Yt{k n:Int}{ks:List Tr}(hv:j0 D0 (.mk k n ks)=true)(hl:ks.length=1)(hk:k=15\/k=16):j0 D0 (.mk 15 0 [kd ks 0])=true:=by
 obtain⟨x,rfl⟩: ∃x,ks= [x]:=List.length_eq_one_iff.1 hl;obtain⟨e,f⟩:=Z3 hv;obtain⟨-,-,-,i⟩:=Z4 e;have d:=i x (by simp);unfold j0;simp only[Bool.and_eq_true,decide_eq_true_eq];refine⟨?_,by simpa[cnt,W1,kd] using f⟩;simp only[kd,List.getD_cons_zero,P0,Z8,Bool.and_true,Bool.and_eq_true,decide_eq_true_eq];exact⟨by omega,rfl,d⟩
theorem dd{r q:Tr×Int}(h:r=q):r=(q.1,q.2):=h
theorem rH{q:Tr×Int}{f:Tr->An}{r:Tr×Int}(h:thn (some q) f=some r):Hid (q.2=0->f q.1=some r)/\Hid (q.2≠0->r=(j2,q.2)):=by
 obtain⟨s,c,i,d,e⟩:=Ud h;obtain rfl:q=(s,c):=by simpa using i
 exact⟨hdq d,hdq e⟩

/-
  Lemmas towards the law, 21: Contract2, V2.
-/
import Derived.Test.YtckhbnmfnpolgaaGreatBAS
open Go renaming World->aK,Calls->aV,Value->aS,heap_alloc_new->aR,bodyPost_ret->aO,TypeId->aY
open Go.World renaming drew->dZ,cell?_of_block->dQ,block_lt_of_cell?->bR
open Nat renaming add_assoc->dN,reduceAdd->dO,le_refl->aM,le_trans->bK,lt_of_lt_of_le->aX
open Go.RowKit.Below renaming heap_setCell->aL
open Go.Proofs.Tryz
set_option linter.unusedVariables false
set_option maxHeartbeats 4000000
set_option maxRecDepth 100000
namespace Go.Proofs.YtckhbnmfnpolgaaGreat
open Go.RowKit
structure Yw (p:Prop):Prop where
 out:p
theorem UB{T p:Prop}(h:Yw T->p)(k:T):p:=h ⟨k⟩
theorem O2{α:Type}(a:α): ∃x,x=a:=⟨a,rfl⟩
theorem P8{w e:aK}{a b c d:Obj}(h:e=dZ ((((w.alloc a).alloc b).alloc c).alloc d)):e.heap[w.heap.size]? =some a/\e.heap[w.heap.size+1]? =some b/\e.heap[w.heap.size+1+1]? =some c/\e.heap[w.heap.size+1+1+1]? =some d/\Ext w e:=by
 subst h;obtain⟨p,q,r,t,-⟩:=jn (xr ((((w.alloc a).alloc b).alloc c).alloc d)).drew;exact⟨p,q,r,t,(((((xr w).alloc a).alloc b).alloc c).alloc d).drew⟩
theorem dq{w:aK}{k:Int}{A:Option Addr}{cap:Nat}{ks:List Tr}(hK:q24 w A ks)(hl:ks.length<=cap)(hc:cap<=maxLen):aV prog 56 #[.int .i64 k,.slice A ks.length cap] w fun e w'=> ∃j f d i l,e= .returned (.agg #[.int .i64 j,.int .i64 f,.slice d i l])/\Lies w' (.mk k 0 ks) (.agg #[.int .i64 j,.int .i64 f,.slice d i l])/\Ext w w':=by
 refine(Oe w k A ks.length cap).mono ?_;rintro e w' ⟨rfl,h⟩;exact⟨_,_,_,_,_,rfl,Lies.mk hl hc (hK.ext h),h⟩
theorem Si{w:aK}{k:Int}{g:Nat}{t1 t2:Tr}{v0 v1 v2 u0 u1 u2:aS}(n:Lies w t1 (.agg #[v0,v1,v2]))(p:Lies w t2 (.agg #[u0,u1,u2]))(i:w.heap[g]? =some (.cells #[v0,v1,v2,u0,u1,u2] 25 (0,0))):
 aV prog 56 #[.int .i64 k,.slice (some ⟨g,0,none⟩) 2 2] w fun e w'=> ∃l d f j m,e= .returned (.agg #[.int .i64 l,.int .i64 d,.slice f j m])/\Lies w' (.mk k 0 [t1,t2]) (.agg #[.int .i64 l,.int .i64 d,.slice f j m])/\Ext w w':=
 dq (ks:= [t1,t2]) (InK.two (e:=25) n p i (O1 i)) (by simp) (by decide)
theorem iv{w:aK}{k:Int}{g:Nat}{t1 t2 t3 t4:Tr}{v0 v1 v2 u0 u1 u2 x0 x1 x2 f i j:aS}(s:Lies w t1 (.agg #[v0,v1,v2]))(B:Lies w t2 (.agg #[u0,u1,u2]))(C:Lies w t3 (.agg #[x0,x1,x2]))(v:Lies w t4 (.agg #[f,i,j]))(d:w.heap[g]? =some (.cells #[v0,v1,v2,u0,u1,u2,x0,x1,x2,f,i,j] 25 (0,0))):
 aV prog 56 #[.int .i64 k,.slice (some ⟨g,0,none⟩) 4 4] w fun e w'=> ∃p l m n q,e= .returned (.agg #[.int .i64 p,.int .i64 l,.slice m n q])/\Lies w' (.mk k 0 [t1,t2,t3,t4]) (.agg #[.int .i64 p,.int .i64 l,.slice m n q])/\Ext w w':=by
 refine dq (ks:= [t1,t2,t3,t4]) (.inr ⟨g,0,rfl,O1 d, ?_⟩) (by simp) (by decide);unfold O4;refine⟨⟨v0,v1,v2,i1 d 0,i1 d 1,i1 d 2,s⟩, ?_⟩;unfold O4;refine⟨⟨u0,u1,u2,i1 d 3,i1 d 4,i1 d 5,B⟩, ?_⟩;unfold O4;refine⟨⟨x0,x1,x2,i1 d 6,i1 d 7,i1 d 8,C⟩, ?_⟩;unfold O4;refine⟨⟨f,i,j,i1 d 9,i1 d 10,i1 d 11,v⟩, ?_⟩;unfold O4
 trivial
theorem Wg{w:aK}{o:Obj}{n:Nat}(h:n=w.heap.size):(w.alloc o).heap[n]? =some o:=h▸aR w o
theorem ZH(n:Int)(ks:List Tr)(hv:j0 m0 (.mk 9 n ks)=true)(w:aK)(A:Option Addr)(cap:Nat)(b8:Lies w (.mk 9 n ks) (.agg #[.int .i64 9,.int .i64 n,.slice A ks.length cap]))(hK:q24 w A ks)(hl:ks.length<=cap)(hc:cap<=maxLen)(hc3:(kd ks 3).kind=8):
 aV prog 173 #[.agg #[.int .i64 9,.int .i64 n,.slice A ks.length cap]] w (pf w (ctr 9 ks)):=by
 obtain⟨hsh,C7⟩:=Z3 hv;have a7:O0 9=(ks.length:Int):=(Z4 hsh).1;have j4:ks.length=4:=by have h9:(4:Int)=(ks.length:Int):=a7;omega
 have hsk:=(Z4 hsh).2.2.2;have J2: ∀t∈ks,j0 m0 t=true:=fun t ht=> by
  have G:=hsk t ht;have h2:=L9 ht;simp only[cnt] at C7;unfold j0;rw[If G (by decide),Bool.true_and,decide_eq_true_eq];omega
 have hcc:=hc;unfold maxLen at hcc;have C0:=hdq (fun W (hW:Ext w W)=> Sq (.mk 9 n ks) 30 hsh W _ (b8.ext hW));obtain⟨wb,y7⟩: ∃wb,wb=(w.alloc (.cells #[.int .i64 9,.int .i64 n,.slice A ks.length cap] 25)).alloc (.cells #[.int .i64 0,.int .i64 0,.slice none 0 0] 25):=⟨_,rfl⟩;have hX:Ext w wb:=y7▸((xr w).alloc _).alloc _;have hb0:wb.heap[w.heap.size]? =some (.cells #[.int .i64 9,.int .i64 n,.slice A ks.length cap] 25 (0,0)):=by rw[y7];exact(W3 (xr _)).1
 have hb1:wb.heap[w.heap.size+1]? =some (.cells #[.int .i64 0,.int .i64 0,.slice none 0 0] 25 (0,0)):=by rw[y7];exact(W3 (xr _)).2.1
 have hs0:w.heap.size+1 < wb.heap.size:=O1 hb1;have D7:0 < ks.length:=by omega
 have U0:(0:Int) <(ks.length:Int):=by omega
 obtain⟨U,o0,k0,n0,A0,q7,a6,ba,S6,J4,M9,K7,ai,dy,M3,z6,x6⟩:=hK.get (xr w) D7;simp only[Nat.zero_mul,Nat.add_zero] at J4 M9 K7;have x9:kd ks 0= .mk k0 n0 a6:=Yb D7 S6.out;have z7:1 < ks.length:=by omega
 have cm:(1:Int) <(ks.length:Int):=by omega
 obtain⟨b1,o1,k1,n1,A1,C6,j15,N3,D6,c10,c11,c12,V7,W6,K9,p5,j9⟩:=hK.get (xr w) z7;simp only[Nat.one_mul,dN,dO] at c10 c11 c12;have I2:kd ks 1= .mk k1 n1 j15:=Yb z7 D6.out;have E9:2 < ks.length:=by omega
 have ft:(2:Int) <(ks.length:Int):=by omega
 obtain⟨b2,o2,Y,Z,A2,F4,q17,fe,gm,c20,c21,bu,dv,dc,hK2,P7,G8⟩:=hK.get (xr w) E9;simp only[Nat.reduceMul,dN,dO] at c20 c21 bu;have S9:kd ks 2= .mk Y Z q17:=Yb E9 gm.out;have D8:3 < ks.length:=by omega
 have ng:(3:Int) <(ks.length:Int):=by omega
 obtain⟨b3,o3,k3,n3,A3,F3,y20,U2,T6,J6,c31,J8,ee,W7,hK3,E8,q8⟩:=hK.get (xr w) D8;simp only[Nat.reduceMul,dN,dO] at J6 c31 J8;have C4:kd ks 3= .mk k3 n3 y20:=Yb D8 T6.out;subst ba
 injection N3 with N3
 injection N3 with Y9 hC1 hD1
 subst Y9 hC1
 injection fe with fe
 injection fe with pw hC2 hD2
 subst pw hC2
 injection U2 with U2
 injection U2 with Bn hC3 hD3
 subst Bn hC3;rw[C4] at hc3;have Iq:k3=8:=hc3;subst Iq;have hv3:=J2 _ q8;have jm:O0 8=(y20.length:Int):=(Z4 (Z3 hv3).1).1;have ru:y20.length=1:=by have h9:(1:Int)=(y20.length:Int):=jm;omega
 have V6:0 < y20.length:=by omega
 have hi4:(0:Int) <(y20.length:Int):=by omega
 obtain⟨b4,o4,k4,n4,A4,Q5,y37,zz,xy,c40,sy,qu,Kk,Hn,hK4,ln,ak⟩:=hK3.get (xr w) V6;simp only[Nat.zero_mul,Nat.add_zero] at c40 sy qu;have kq:kd y20 0= .mk k4 n4 y37:=Yb V6 xy.out;subst zz;have q0:=(Z3 (J2 _ x6)).2;have q1:=(Z3 (J2 _ j9)).2;have q2:=(Z3 (J2 _ G8)).2;have q4:=(Z3 hv3).2;have q5:=L9 ak;have l8:ctr 9 ks= .mk 5 0 [.mk 5 0 [.mk Y Z q17,.mk k4 n4 y37],.mk 9 0 [.mk k0 n0 a6,.mk k1 n1 j15,.mk Y Z q17,.mk k4 n4 y37]]:=by rw[Oq (by rw[C4];rfl),x9,I2,S9,C4,show kd (Tr.kids (.mk 8 n3 y20)) 0=_ from kq]
 rw[l8];have F9:rdx 9 ks=3:=by unfold rdx;rw[C4];simp[Tr.kind]
 obtain⟨TT,E5⟩: ∃x,x=Tr.mk 5 0 [.mk 5 0 [.mk Y Z q17,.mk k4 n4 y37],.mk 9 0 [.mk k0 n0 a6,.mk k1 n1 j15,.mk Y Z q17,.mk k4 n4 y37]]:=⟨_,rfl⟩;rw[<-E5];have qa:cnt TT<=10000:=by rw[E5];simp only[cnt,W1] at*;omega
 have L8:=hdq E5;clear E5 l8;have hrt:U3 (.mk 9 n ks)=3:=F9;rw[hrt] at C0;clear hrt F9 j4 a7;clear ru;go_enter func173,ntmps173;go_wp2_with fail;rw[<-y7];clear y7;refine(C0.out _ hX).mono ?_;rintro e w1 ⟨rfl,G⟩;have V:=hX.trans G;have s8:=G.blk hb0;have o8:=G.blk hb1;have hs1:w.heap.size+1 < w1.heap.size:=O1 o8;obtain⟨z0,z1,z2,-,-,-⟩:=own3 s8;clear hb0 hb1 C0 G;have M:=hdq (show∀w':aK,Ext w1 w'->w'.cell? ⟨w.heap.size,2,none⟩=some (.slice (some ⟨U,o0,none⟩) ks.length cap)/\w'.cell? ⟨U,o0,none⟩=some (.int .i64 k0)/\w'.cell? ⟨U,o0+1,none⟩=some (.int .i64 n0)/\w'.cell? ⟨U,o0+2,none⟩=some (.slice A0 a6.length q7)/\w'.cell? ⟨U,o0+3,none⟩=some (.int .i64 k1)/\w'.cell? ⟨U,o0+4,none⟩=some (.int .i64 n1)/\w'.cell? ⟨U,o0+5,none⟩=some (.slice A1 j15.length C6)/\w'.cell? ⟨U,o0+6,none⟩=some (.int .i64 Y)/\w'.cell? ⟨U,o0+7,none⟩=some (.int .i64 Z)/\w'.cell? ⟨U,o0+8,none⟩=some (.slice A2 q17.length F4)/\w'.cell? ⟨U,o0+11,none⟩=some (.slice (some ⟨b4,o4,none⟩) y20.length F3)/\w'.cell? ⟨b4,o4,none⟩=some (.int .i64 k4)/\w'.cell? ⟨b4,o4+1,none⟩=some (.int .i64 n4)/\w'.cell? ⟨b4,o4+2,none⟩=some (.slice A4 y37.length Q5) from fun w' h=>⟨h.cell z2,(V.trans h).cell J4,(V.trans h).cell M9,(V.trans h).cell K7,(V.trans h).cell c10,(V.trans h).cell c11,(V.trans h).cell c12,(V.trans h).cell c20,(V.trans h).cell c21,(V.trans h).cell bu,(V.trans h).cell J8,(V.trans h).cell c40,(V.trans h).cell sy,(V.trans h).cell qu⟩);have x8:Ext w1 w1.drew:=(xr w1).drew;have L0:=z6.ext V;have L1:=p5.ext V;have L2:=P7.ext V;have L4:=ln.ext V;clear S6 D6 gm T6 xy x9 I2 S9 C4 kq M3 K9 hK2 hK3 hK4 z6 p5 P7 E8 ln x6 j9 G8 q8 ak hK b8 jm J4 M9 K7 c10 c11 c12 c20 c21 bu J6 c31 J8 c40 sy qu z0 z1 z2 s8;go_wp2_with fail
 apply UB
 case h=>
  intro REST
  go_region_held3 (fun w'=> w'.cell? ⟨w.heap.size,2,none⟩=some (.slice (some ⟨U,o0,none⟩) ks.length cap)/\w'.cell? ⟨U,o0,none⟩=some (.int .i64 k0)/\w'.cell? ⟨U,o0+1,none⟩=some (.int .i64 n0)/\w'.cell? ⟨U,o0+2,none⟩=some (.slice A0 a6.length q7)/\w'.cell? ⟨U,o0+3,none⟩=some (.int .i64 k1)/\w'.cell? ⟨U,o0+4,none⟩=some (.int .i64 n1)/\w'.cell? ⟨U,o0+5,none⟩=some (.slice A1 j15.length C6)/\w'.cell? ⟨U,o0+6,none⟩=some (.int .i64 Y)/\w'.cell? ⟨U,o0+7,none⟩=some (.int .i64 Z)/\w'.cell? ⟨U,o0+8,none⟩=some (.slice A2 q17.length F4)/\w'.cell? ⟨U,o0+11,none⟩=some (.slice (some ⟨b4,o4,none⟩) y20.length F3)/\w'.cell? ⟨b4,o4,none⟩=some (.int .i64 k4)/\w'.cell? ⟨b4,o4+1,none⟩=some (.int .i64 n4)/\w'.cell? ⟨b4,o4+2,none⟩=some (.slice A4 y37.length Q5))
   (first|exact M.out _ (by with_reducible exact((((x8).alloc _).alloc _).alloc _).alloc _) |exact M.out _ (by with_reducible exact(((((xr w1).alloc _).alloc _).alloc _).alloc _).drew) |exact M.out _ (by with_reducible exact(((x8).alloc _).alloc _).alloc _) |exact M.out _ (by with_reducible exact((((xr w1).alloc _).alloc _).alloc _).drew) |exact M.out _ (by with_reducible exact((x8).alloc _).alloc _) |exact M.out _ (by with_reducible exact(((xr w1).alloc _).alloc _).drew) |exact M.out _ (by with_reducible exact(x8).alloc _) |exact M.out _ (by with_reducible exact((xr w1).alloc _).drew) |exact M.out _ (by with_reducible exact x8))
   (fail)
  all_goals(obtain⟨R,hO0⟩: ∃x,x=Obj.cells #[.int .i64 k0,.int .i64 n0,.slice A0 a6.length q7] 25:=⟨_,rfl⟩;rw[<-hO0])
  all_goals(obtain⟨S,hO1⟩: ∃x,x=Obj.cells #[.int .i64 k1,.int .i64 n1,.slice A1 j15.length C6] 25:=⟨_,rfl⟩;rw[<-hO1])
  all_goals(obtain⟨O,hO2⟩: ∃x,x=Obj.cells #[.int .i64 Y,.int .i64 Z,.slice A2 q17.length F4] 25:=⟨_,rfl⟩;rw[<-hO2])
  all_goals(obtain⟨T,fu⟩: ∃x,x=Obj.cells #[.int .i64 k4,.int .i64 n4,.slice A4 y37.length Q5] 25:=⟨_,rfl⟩;rw[<-fu])
  all_goals(first
   |(obtain⟨l,i⟩:=O2 (dZ ((((w1.alloc R).alloc S).alloc O).alloc T));rw[<-i];obtain⟨C,B,s,m,K⟩:=P8 i;obtain⟨J,F⟩:=O2 (w1.heap.size+1+1+1);rw[<-F] at m⊢;obtain⟨I,E⟩:=O2 (w1.heap.size+1+1);rw[<-E] at s⊢;obtain⟨L,D⟩:=O2 (w1.heap.size+1);rw[<-D] at B⊢;obtain⟨H,d⟩:=O2 (w1.heap.size);rw[<-d] at C⊢)
   |(obtain⟨l,i⟩:=O2 (dZ ((((w1.alloc R).alloc S).alloc T).alloc O));rw[<-i];obtain⟨C,B,m,s,K⟩:=P8 i;obtain⟨I,E⟩:=O2 (w1.heap.size+1+1+1);rw[<-E] at s⊢;obtain⟨J,F⟩:=O2 (w1.heap.size+1+1);rw[<-F] at m⊢;obtain⟨L,D⟩:=O2 (w1.heap.size+1);rw[<-D] at B⊢;obtain⟨H,d⟩:=O2 (w1.heap.size);rw[<-d] at C⊢)
   |(obtain⟨l,i⟩:=O2 (dZ ((((w1.alloc R).alloc O).alloc S).alloc T));rw[<-i];obtain⟨C,s,B,m,K⟩:=P8 i;obtain⟨J,F⟩:=O2 (w1.heap.size+1+1+1);rw[<-F] at m⊢;obtain⟨L,D⟩:=O2 (w1.heap.size+1+1);rw[<-D] at B⊢;obtain⟨I,E⟩:=O2 (w1.heap.size+1);rw[<-E] at s⊢;obtain⟨H,d⟩:=O2 (w1.heap.size);rw[<-d] at C⊢)
   |(obtain⟨l,i⟩:=O2 (dZ ((((w1.alloc R).alloc O).alloc T).alloc S));rw[<-i];obtain⟨C,s,m,B,K⟩:=P8 i;obtain⟨L,D⟩:=O2 (w1.heap.size+1+1+1);rw[<-D] at B⊢;obtain⟨J,F⟩:=O2 (w1.heap.size+1+1);rw[<-F] at m⊢;obtain⟨I,E⟩:=O2 (w1.heap.size+1);rw[<-E] at s⊢;obtain⟨H,d⟩:=O2 (w1.heap.size);rw[<-d] at C⊢)
   |(obtain⟨l,i⟩:=O2 (dZ ((((w1.alloc R).alloc T).alloc S).alloc O));rw[<-i];obtain⟨C,m,B,s,K⟩:=P8 i;obtain⟨I,E⟩:=O2 (w1.heap.size+1+1+1);rw[<-E] at s⊢;obtain⟨L,D⟩:=O2 (w1.heap.size+1+1);rw[<-D] at B⊢;obtain⟨J,F⟩:=O2 (w1.heap.size+1);rw[<-F] at m⊢;obtain⟨H,d⟩:=O2 (w1.heap.size);rw[<-d] at C⊢)
   |(obtain⟨l,i⟩:=O2 (dZ ((((w1.alloc R).alloc T).alloc O).alloc S));rw[<-i];obtain⟨C,m,s,B,K⟩:=P8 i;obtain⟨L,D⟩:=O2 (w1.heap.size+1+1+1);rw[<-D] at B⊢;obtain⟨I,E⟩:=O2 (w1.heap.size+1+1);rw[<-E] at s⊢;obtain⟨J,F⟩:=O2 (w1.heap.size+1);rw[<-F] at m⊢;obtain⟨H,d⟩:=O2 (w1.heap.size);rw[<-d] at C⊢)
   |(obtain⟨l,i⟩:=O2 (dZ ((((w1.alloc S).alloc R).alloc O).alloc T));rw[<-i];obtain⟨B,C,s,m,K⟩:=P8 i;obtain⟨J,F⟩:=O2 (w1.heap.size+1+1+1);rw[<-F] at m⊢;obtain⟨I,E⟩:=O2 (w1.heap.size+1+1);rw[<-E] at s⊢;obtain⟨H,d⟩:=O2 (w1.heap.size+1);rw[<-d] at C⊢;obtain⟨L,D⟩:=O2 (w1.heap.size);rw[<-D] at B⊢)
   |(obtain⟨l,i⟩:=O2 (dZ ((((w1.alloc S).alloc R).alloc T).alloc O));rw[<-i];obtain⟨B,C,m,s,K⟩:=P8 i;obtain⟨I,E⟩:=O2 (w1.heap.size+1+1+1);rw[<-E] at s⊢;obtain⟨J,F⟩:=O2 (w1.heap.size+1+1);rw[<-F] at m⊢;obtain⟨H,d⟩:=O2 (w1.heap.size+1);rw[<-d] at C⊢;obtain⟨L,D⟩:=O2 (w1.heap.size);rw[<-D] at B⊢)
   |(obtain⟨l,i⟩:=O2 (dZ ((((w1.alloc S).alloc O).alloc R).alloc T));rw[<-i];obtain⟨B,s,C,m,K⟩:=P8 i;obtain⟨J,F⟩:=O2 (w1.heap.size+1+1+1);rw[<-F] at m⊢;obtain⟨H,d⟩:=O2 (w1.heap.size+1+1);rw[<-d] at C⊢;obtain⟨I,E⟩:=O2 (w1.heap.size+1);rw[<-E] at s⊢;obtain⟨L,D⟩:=O2 (w1.heap.size);rw[<-D] at B⊢)
   |(obtain⟨l,i⟩:=O2 (dZ ((((w1.alloc S).alloc O).alloc T).alloc R));rw[<-i];obtain⟨B,s,m,C,K⟩:=P8 i;obtain⟨H,d⟩:=O2 (w1.heap.size+1+1+1);rw[<-d] at C⊢;obtain⟨J,F⟩:=O2 (w1.heap.size+1+1);rw[<-F] at m⊢;obtain⟨I,E⟩:=O2 (w1.heap.size+1);rw[<-E] at s⊢;obtain⟨L,D⟩:=O2 (w1.heap.size);rw[<-D] at B⊢)
   |(obtain⟨l,i⟩:=O2 (dZ ((((w1.alloc S).alloc T).alloc R).alloc O));rw[<-i];obtain⟨B,m,C,s,K⟩:=P8 i;obtain⟨I,E⟩:=O2 (w1.heap.size+1+1+1);rw[<-E] at s⊢;obtain⟨H,d⟩:=O2 (w1.heap.size+1+1);rw[<-d] at C⊢;obtain⟨J,F⟩:=O2 (w1.heap.size+1);rw[<-F] at m⊢;obtain⟨L,D⟩:=O2 (w1.heap.size);rw[<-D] at B⊢)
   |(obtain⟨l,i⟩:=O2 (dZ ((((w1.alloc S).alloc T).alloc O).alloc R));rw[<-i];obtain⟨B,m,s,C,K⟩:=P8 i;obtain⟨H,d⟩:=O2 (w1.heap.size+1+1+1);rw[<-d] at C⊢;obtain⟨I,E⟩:=O2 (w1.heap.size+1+1);rw[<-E] at s⊢;obtain⟨J,F⟩:=O2 (w1.heap.size+1);rw[<-F] at m⊢;obtain⟨L,D⟩:=O2 (w1.heap.size);rw[<-D] at B⊢)
   |(obtain⟨l,i⟩:=O2 (dZ ((((w1.alloc O).alloc R).alloc S).alloc T));rw[<-i];obtain⟨s,C,B,m,K⟩:=P8 i;obtain⟨J,F⟩:=O2 (w1.heap.size+1+1+1);rw[<-F] at m⊢;obtain⟨L,D⟩:=O2 (w1.heap.size+1+1);rw[<-D] at B⊢;obtain⟨H,d⟩:=O2 (w1.heap.size+1);rw[<-d] at C⊢;obtain⟨I,E⟩:=O2 (w1.heap.size);rw[<-E] at s⊢)
   |(obtain⟨l,i⟩:=O2 (dZ ((((w1.alloc O).alloc R).alloc T).alloc S));rw[<-i];obtain⟨s,C,m,B,K⟩:=P8 i;obtain⟨L,D⟩:=O2 (w1.heap.size+1+1+1);rw[<-D] at B⊢;obtain⟨J,F⟩:=O2 (w1.heap.size+1+1);rw[<-F] at m⊢;obtain⟨H,d⟩:=O2 (w1.heap.size+1);rw[<-d] at C⊢;obtain⟨I,E⟩:=O2 (w1.heap.size);rw[<-E] at s⊢)
   |(obtain⟨l,i⟩:=O2 (dZ ((((w1.alloc O).alloc S).alloc R).alloc T));rw[<-i];obtain⟨s,B,C,m,K⟩:=P8 i;obtain⟨J,F⟩:=O2 (w1.heap.size+1+1+1);rw[<-F] at m⊢;obtain⟨H,d⟩:=O2 (w1.heap.size+1+1);rw[<-d] at C⊢;obtain⟨L,D⟩:=O2 (w1.heap.size+1);rw[<-D] at B⊢;obtain⟨I,E⟩:=O2 (w1.heap.size);rw[<-E] at s⊢)
   |(obtain⟨l,i⟩:=O2 (dZ ((((w1.alloc O).alloc S).alloc T).alloc R));rw[<-i];obtain⟨s,B,m,C,K⟩:=P8 i;obtain⟨H,d⟩:=O2 (w1.heap.size+1+1+1);rw[<-d] at C⊢;obtain⟨J,F⟩:=O2 (w1.heap.size+1+1);rw[<-F] at m⊢;obtain⟨L,D⟩:=O2 (w1.heap.size+1);rw[<-D] at B⊢;obtain⟨I,E⟩:=O2 (w1.heap.size);rw[<-E] at s⊢)
   |(obtain⟨l,i⟩:=O2 (dZ ((((w1.alloc O).alloc T).alloc R).alloc S));rw[<-i];obtain⟨s,m,C,B,K⟩:=P8 i;obtain⟨L,D⟩:=O2 (w1.heap.size+1+1+1);rw[<-D] at B⊢;obtain⟨H,d⟩:=O2 (w1.heap.size+1+1);rw[<-d] at C⊢;obtain⟨J,F⟩:=O2 (w1.heap.size+1);rw[<-F] at m⊢;obtain⟨I,E⟩:=O2 (w1.heap.size);rw[<-E] at s⊢)
   |(obtain⟨l,i⟩:=O2 (dZ ((((w1.alloc O).alloc T).alloc S).alloc R));rw[<-i];obtain⟨s,m,B,C,K⟩:=P8 i;obtain⟨H,d⟩:=O2 (w1.heap.size+1+1+1);rw[<-d] at C⊢;obtain⟨L,D⟩:=O2 (w1.heap.size+1+1);rw[<-D] at B⊢;obtain⟨J,F⟩:=O2 (w1.heap.size+1);rw[<-F] at m⊢;obtain⟨I,E⟩:=O2 (w1.heap.size);rw[<-E] at s⊢)
   |(obtain⟨l,i⟩:=O2 (dZ ((((w1.alloc T).alloc R).alloc S).alloc O));rw[<-i];obtain⟨m,C,B,s,K⟩:=P8 i;obtain⟨I,E⟩:=O2 (w1.heap.size+1+1+1);rw[<-E] at s⊢;obtain⟨L,D⟩:=O2 (w1.heap.size+1+1);rw[<-D] at B⊢;obtain⟨H,d⟩:=O2 (w1.heap.size+1);rw[<-d] at C⊢;obtain⟨J,F⟩:=O2 (w1.heap.size);rw[<-F] at m⊢)
   |(obtain⟨l,i⟩:=O2 (dZ ((((w1.alloc T).alloc R).alloc O).alloc S));rw[<-i];obtain⟨m,C,s,B,K⟩:=P8 i;obtain⟨L,D⟩:=O2 (w1.heap.size+1+1+1);rw[<-D] at B⊢;obtain⟨I,E⟩:=O2 (w1.heap.size+1+1);rw[<-E] at s⊢;obtain⟨H,d⟩:=O2 (w1.heap.size+1);rw[<-d] at C⊢;obtain⟨J,F⟩:=O2 (w1.heap.size);rw[<-F] at m⊢)
   |(obtain⟨l,i⟩:=O2 (dZ ((((w1.alloc T).alloc S).alloc R).alloc O));rw[<-i];obtain⟨m,B,C,s,K⟩:=P8 i;obtain⟨I,E⟩:=O2 (w1.heap.size+1+1+1);rw[<-E] at s⊢;obtain⟨H,d⟩:=O2 (w1.heap.size+1+1);rw[<-d] at C⊢;obtain⟨L,D⟩:=O2 (w1.heap.size+1);rw[<-D] at B⊢;obtain⟨J,F⟩:=O2 (w1.heap.size);rw[<-F] at m⊢)
   |(obtain⟨l,i⟩:=O2 (dZ ((((w1.alloc T).alloc S).alloc O).alloc R));rw[<-i];obtain⟨m,B,s,C,K⟩:=P8 i;obtain⟨H,d⟩:=O2 (w1.heap.size+1+1+1);rw[<-d] at C⊢;obtain⟨I,E⟩:=O2 (w1.heap.size+1+1);rw[<-E] at s⊢;obtain⟨L,D⟩:=O2 (w1.heap.size+1);rw[<-D] at B⊢;obtain⟨J,F⟩:=O2 (w1.heap.size);rw[<-F] at m⊢)
   |(obtain⟨l,i⟩:=O2 (dZ ((((w1.alloc T).alloc O).alloc R).alloc S));rw[<-i];obtain⟨m,s,C,B,K⟩:=P8 i;obtain⟨L,D⟩:=O2 (w1.heap.size+1+1+1);rw[<-D] at B⊢;obtain⟨H,d⟩:=O2 (w1.heap.size+1+1);rw[<-d] at C⊢;obtain⟨I,E⟩:=O2 (w1.heap.size+1);rw[<-E] at s⊢;obtain⟨J,F⟩:=O2 (w1.heap.size);rw[<-F] at m⊢)
   |(obtain⟨l,i⟩:=O2 (dZ ((((w1.alloc T).alloc O).alloc S).alloc R));rw[<-i];obtain⟨m,s,B,C,K⟩:=P8 i;obtain⟨H,d⟩:=O2 (w1.heap.size+1+1+1);rw[<-d] at C⊢;obtain⟨L,D⟩:=O2 (w1.heap.size+1+1);rw[<-D] at B⊢;obtain⟨I,E⟩:=O2 (w1.heap.size+1);rw[<-E] at s⊢;obtain⟨J,F⟩:=O2 (w1.heap.size);rw[<-F] at m⊢))
  all_goals(clear i;have l4:w1.heap.size<=H:=(by omega);have l5:w1.heap.size<=L:=(by omega);have l6:w1.heap.size<=I:=(by omega);have l7:w1.heap.size<=J:=(by omega);clear d D E F;subst hO0 hO1 hO2 fu)
  all_goals rename_i jh
  all_goals clear jh
  all_goals revert m
  all_goals revert s
  all_goals revert B
  all_goals revert C
  all_goals revert K
  all_goals revert l7
  all_goals revert l6
  all_goals revert l5
  all_goals revert l4
  all_goals revert J
  all_goals revert I
  all_goals revert L
  all_goals revert H
  all_goals revert l
  all_goals exact REST.out
 case k=>
  intro l H L I J l4 l5 l6 l7 K C B s m;clear M;obtain⟨y40,y41,y42,-,-,-⟩:=own3 C;obtain⟨y50,y51,y52,-,-,-⟩:=own3 B;obtain⟨y60,y61,y62,-,-,-⟩:=own3 s;obtain⟨y70,y71,y72,-,-,-⟩:=own3 m;have Bj:=K.blk o8;have hs5:=K.size;have M:=hdq (show∀w':aK,(∀y,y < l.heap.size->y≠w.heap.size+1->w'.heap[y]? =l.heap[y]?)->w'.cell? ⟨H,0,none⟩=some (.int .i64 k0)/\w'.cell? ⟨H,1,none⟩=some (.int .i64 n0)/\w'.cell? ⟨H,2,none⟩=some (.slice A0 a6.length q7)/\w'.cell? ⟨L,0,none⟩=some (.int .i64 k1)/\w'.cell? ⟨L,1,none⟩=some (.int .i64 n1)/\w'.cell? ⟨L,2,none⟩=some (.slice A1 j15.length C6)/\w'.cell? ⟨I,0,none⟩=some (.int .i64 Y)/\w'.cell? ⟨I,1,none⟩=some (.int .i64 Z)/\w'.cell? ⟨I,2,none⟩=some (.slice A2 q17.length F4)/\w'.cell? ⟨J,0,none⟩=some (.int .i64 k4)/\w'.cell? ⟨J,1,none⟩=some (.int .i64 n4)/\w'.cell? ⟨J,2,none⟩=some (.slice A4 y37.length Q5) from fun w' hw=> by
   have f: ∀(q j:Nat) (x:aS),q < l.heap.size->q≠w.heap.size+1->l.cell? ⟨q,j,none⟩=some x->w'.cell? ⟨q,j,none⟩=some x:=fun q j x G h2 h3=>(dQ (a:=⟨q,j,none⟩) (hw q G h2)).trans h3
   exact⟨f _ _ _ (O1 C) (by omega) y40,f _ _ _ (O1 C) (by omega) y41,f _ _ _ (O1 C) (by omega) y42,f _ _ _ (O1 B) (by omega) y50,f _ _ _ (O1 B) (by omega) y51,f _ _ _ (O1 B) (by omega) y52,f _ _ _ (O1 s) (by omega) y60,f _ _ _ (O1 s) (by omega) y61,f _ _ _ (O1 s) (by omega) y62,f _ _ _ (O1 m) (by omega) y70,f _ _ _ (O1 m) (by omega) y71,f _ _ _ (O1 m) (by omega) y72⟩)
  have X5:Ext l l.drew:=(xr l).drew;have vn:=hdq (fun W (h:Ext l W)=> L0.ext (K.trans h));have HL1:=hdq (fun W (h:Ext l W)=> L1.ext (K.trans h));have mo:=hdq (fun W (h:Ext l W)=> L2.ext (K.trans h));have HL4:=hdq (fun W (h:Ext l W)=> L4.ext (K.trans h));have HE5:=hdq (V.trans K);clear y40 y41 y42 y50 y51 y52 y60 y61 y62 y70 y71 y72 L0 L1 L2 L4 C B s m o8;go_wp2_with fail
  go_region_held3 (fun w'=> w'.cell? ⟨H,0,none⟩=some (.int .i64 k0)/\w'.cell? ⟨H,1,none⟩=some (.int .i64 n0)/\w'.cell? ⟨H,2,none⟩=some (.slice A0 a6.length q7)/\w'.cell? ⟨L,0,none⟩=some (.int .i64 k1)/\w'.cell? ⟨L,1,none⟩=some (.int .i64 n1)/\w'.cell? ⟨L,2,none⟩=some (.slice A1 j15.length C6)/\w'.cell? ⟨I,0,none⟩=some (.int .i64 Y)/\w'.cell? ⟨I,1,none⟩=some (.int .i64 Z)/\w'.cell? ⟨I,2,none⟩=some (.slice A2 q17.length F4)/\w'.cell? ⟨J,0,none⟩=some (.int .i64 k4)/\w'.cell? ⟨J,1,none⟩=some (.int .i64 n4)/\w'.cell? ⟨J,2,none⟩=some (.slice A4 y37.length Q5))
   (first|exact M.out _ (fun y G h2=> by rw[aL _ _ _ _ h2,aL _ _ _ _ h2,aL _ _ _ _ h2];exact Cu.heap y G) |exact M.out _ (fun y G _=> by with_reducible exact Ext.heap (Cu) y G) |exact M.out _ (fun y G _=> by with_reducible exact Ext.heap (X10) y G) |exact M.out _ (fun y G _=> by with_reducible exact Ext.heap (X9) y G) |exact M.out _ (fun y G _=> by with_reducible exact Ext.heap (X8.alloc _) y G) |exact M.out _ (fun y G _=> by with_reducible exact Ext.heap (X8) y G) |exact M.out _ (fun y G _=> by with_reducible exact Ext.heap (X.alloc _) y G) |exact M.out _ (fun y G _=> by with_reducible exact Ext.heap (X) y G) |exact M.out _ (fun y G _=> by with_reducible exact Ext.heap ((X5.alloc _).alloc _) y G) |exact M.out _ (fun y G _=> by with_reducible exact Ext.heap (X5.alloc _) y G) |exact M.out _ (fun y G _=> by with_reducible exact Ext.heap (X5) y G) |exact M.out _ (fun y G _=> by with_reducible exact Ext.heap (((xr l).alloc _).drew) y G) |exact M.out _ (fun y G _=> by with_reducible exact Ext.heap ((((xr l).alloc _).alloc _).drew) y G))
   (first|(go_at_call 137;refine(Uw zq).mono ?_;rintro e bh ⟨a1,a2,a3,a4,a5,rfl,hM,h11⟩;have Cu:Ext l bh:=X10.trans h11;obtain⟨s0,s1,s2,f0,f1,f2⟩:=own3 (Cu.blk Bj)) |(go_at_call 43;refine(ti TT _ _ (by rw[L8.out];exact Bl) (by omega)).mono ?_;rintro e W9 ⟨uo,rfl,zq,h10⟩;obtain⟨o1,o2,o3,o4,o5,rfl⟩:=zq.three';have X10:Ext l W9:=X9.trans h10) |(go_at_call 56;(with_reducible show aV _ _ #[.int .i64 5,.slice _ 2 _] _ _);refine(Si (Lies.ext hM7 (Ga.alloc _)) (Lies.ext zm ((xr w8).alloc _)) (aR w8 _)).mono ?_;rintro e w9 ⟨p31,p32,p33,p34,p35,rfl,Bl,h9⟩;have X9:Ext l w9:=(X8.alloc _).trans h9) |(go_at_call 56;(with_reducible show aV _ _ #[.int .i64 9,.slice _ 4 _] _ _);refine(iv (t1:= .mk k0 n0 a6) (t2:= .mk k1 n1 j15) (t3:= .mk Y Z q17) (t4:= .mk k4 n4 y37) (vn.out _ (by with_reducible (first|exact X|exact X.alloc _|exact(X.alloc _).alloc _|exact((xr l).alloc _).drew|exact(((xr l).alloc _).alloc _).drew))) (HL1.out _ (by with_reducible (first|exact X|exact X.alloc _|exact(X.alloc _).alloc _|exact((xr l).alloc _).drew|exact(((xr l).alloc _).alloc _).drew))) (mo.out _ (by with_reducible (first|exact X|exact X.alloc _|exact(X.alloc _).alloc _|exact((xr l).alloc _).drew|exact(((xr l).alloc _).alloc _).drew))) (HL4.out _ (by with_reducible (first|exact X|exact X.alloc _|exact(X.alloc _).alloc _|exact((xr l).alloc _).drew|exact(((xr l).alloc _).alloc _).drew))) (by first|(with_reducible exact(Wg (by first|rfl|simp))) |(with_reducible exact((xr _).alloc _).blk (Wg (by first|rfl|simp))) |(with_reducible exact(xr _).drew.blk (Wg (by first|rfl|simp))) |(with_reducible exact(((xr _).alloc _).drew).blk (Wg (by first|rfl|simp))) |(with_reducible exact Ext.blk h7 ((Wg (by first|rfl|simp)))) |(with_reducible exact Ext.blk h7 (((xr _).alloc _).blk (Wg (by first|rfl|simp)))) |(with_reducible exact Ext.blk h7 ((xr _).drew.blk (Wg (by first|rfl|simp)))) |(with_reducible exact Ext.blk h7 ((((xr _).alloc _).drew).blk (Wg (by first|rfl|simp)))))).mono ?_;rintro e w8 ⟨Cg,Dw,Cl,Ci,p25,rfl,zm,h8⟩;have Ga:Ext w7 w8:=(by with_reducible (first|exact h8|exact((xr _).alloc _).trans h8));have X8:Ext l w8:=X.trans Ga) |(go_at_call 56;(with_reducible show aV _ _ #[.int .i64 5,.slice _ 2 _] _ _);refine(Si (t1:= .mk Y Z q17) (t2:= .mk k4 n4 y37) (mo.out _ (by with_reducible (first|exact X5|exact X5.alloc _|exact(X5.alloc _).alloc _|exact((xr l).alloc _).drew|exact(((xr l).alloc _).alloc _).drew))) (HL4.out _ (by with_reducible (first|exact X5|exact X5.alloc _|exact(X5.alloc _).alloc _|exact((xr l).alloc _).drew|exact(((xr l).alloc _).alloc _).drew))) (by first|(with_reducible exact(Wg (by first|rfl|simp))) |(with_reducible exact((xr _).alloc _).blk (Wg (by first|rfl|simp))) |(with_reducible exact(xr _).drew.blk (Wg (by first|rfl|simp))) |(with_reducible exact(((xr _).alloc _).drew).blk (Wg (by first|rfl|simp))))).mono ?_;rintro e w7 ⟨Eb,De,Cx,Dg,Dp,rfl,hM7,h7⟩;have X:Ext l w7:=Ext.trans (by with_reducible (first|exact X5|exact X5.alloc _|exact(X5.alloc _).alloc _|exact((xr l).alloc _).drew|exact(((xr l).alloc _).alloc _).drew)) h7))
  all_goals(
   have hE:=HE5.out.trans Cu;have t9:=X9.size;have hs9:w1.heap.size<=w9.heap.size:=by omega
   have HM:=hdq (P0.since hM (a:=w) (by have:=V.size;omega));clear hM7 zm Bl zq M Bj Ga h7 h8 h9 h10 h11;go_wp2_with fail;refine aO (v:= .tuple #[.agg #[.int .i64 a1,.int .i64 a2,.slice a3 a4 a5],.bool (j0 m0 TT)]) (by simp[results,results173,go_sem,s0,s1,s2]) rfl ⟨_,rfl,P0.since (hM.after ((((pa.refl _ _).setCell (p:=⟨w.heap.size+1,0,none⟩) (by show w.heap.size+1 < _;omega) (.int .i64 a1)).setCell (p:=⟨w.heap.size+1,1,none⟩) (by show w.heap.size+1 < _;omega) (.int .i64 a2)).setCell (p:=⟨w.heap.size+1,2,none⟩) (by show w.heap.size+1 < _;omega) (.slice a3 a4 a5))) (by have:=V.size;omega),(((hE.setCell (p:=⟨w.heap.size+1,0,none⟩) (by show w.heap.size<=w.heap.size+1;omega) _).setCell (p:=⟨w.heap.size+1,1,none⟩) (by show w.heap.size<=w.heap.size+1;omega) _).setCell (p:=⟨w.heap.size+1,2,none⟩) (by show w.heap.size<=w.heap.size+1;omega) _)⟩)
end Go.Proofs.YtckhbnmfnpolgaaGreat
namespace Go.Proofs.YtckhbnmfnpolgaaGreat
open Go Go.RowKit
def WA(w:aK)(N:Nat->Prop)(b o:Nat)(t:Tr)(x1 x2:Int)(x3:Option Addr)(x4 x5:Nat):Prop:=
 w.cell? ⟨b,o,none⟩=some (.int .i64 x1)/\w.cell? ⟨b,o+1,none⟩=some (.int .i64 x2)/\w.cell? ⟨b,o+2,none⟩=some (.slice x3 x4 x5)/\InT w N t (.agg #[.int .i64 x1,.int .i64 x2,.slice x3 x4 x5])
theorem InK.kid{w:aK}{N:Nat->Prop}{A:Option Addr}{ks:List Tr}(h:InK w N A ks)(m:0 < ks.length): ∃b o,A=some ⟨b,o,none⟩/\ ∀j,j < ks.length-> ∃x1 x2 x3 x4 x5,WA w N b (o+3*j) (kd ks j) x1 x2 x3 x4 x5:=by
 obtain⟨b,o,-,-,-,-,-,rfl,-⟩:=h.get (fun b _=> rfl) m;refine⟨b,o,rfl,fun j d=> ?_⟩;obtain⟨B,C,p,l,v,s,j15,f,n,i,e,k,-,-,-,q,-⟩:=h.get (fun b _=> rfl) d;simp only[Option.some.injEq,Addr.mk.injEq,and_true] at f;obtain⟨rfl,rfl⟩:=f;rw[Nat.mul_comm] at i e k;exact⟨p,l,v,_,s,i,e,k,(Od d n.out).symm▸q⟩
theorem Xd{x:An}{f:Tr->An}{r:Tr×Int}(h:thn x f=some r): ∃s c,x=some (s,c)/\(c=0->f s=some r)/\(c≠0->r=(E2,c)):=by
 rcases Vp h with⟨s,d,e⟩ |⟨s,c,d,hc,rfl⟩
 · exact⟨s,0,d,fun _=> e,fun h=> absurd rfl h⟩
 · exact⟨s,c,d,fun h=> absurd h hc,fun _=> rfl⟩
def Ce(e:aK)(A:Option Addr)(ca:Nat)(G:List Tr)(d:Tr->An):Prop:=
 ∀(W:aK) (N:Nat->Prop),Ext e W->(∀b,W.heap.size<=b->N b)->InK W N A G-> ∀(t:Tr) (v:aS),InT W N t v->j0 m0 t=true-> ∀r,d t=some r->
  aV prog 64 #[.slice A G.length ca,v] W (N9 N W r)
theorem k8{x:An}{f:Tr->An}{r:Tr×Int}(h:thn x f=some r): ∃s c,Hid (x=some (s,c))/\Hid (c=0->f s=some r)/\Hid (c≠0->r=(E2,c)):=by
 obtain⟨s,c,d,e,i⟩:=Xd h;exact⟨s,c,hdq d,hdq e,hdq i⟩
def Off(r:Nat)(w w':aK):Prop:=w.heap.size<=w'.heap.size/\ ∀b,b < w.heap.size->b≠r->w'.heap[b]? =w.heap[b]?
theorem Ext.off{r:Nat}{w w':aK}(h:Ext w w'):Off r w w':=⟨h.size,fun b d _=> h.heap b d⟩
theorem Off.refl(r:Nat)(w:aK):Off r w w:=⟨aM _,fun _ _ _=> rfl⟩
theorem Off.trans{r:Nat}{a b c:aK}(h:Off r a b)(k:Off r b c):Off r a c:=⟨bK h.1 k.1,fun x hx hr=>(k.2 x (aX hx h.1) hr).trans (h.2 x hx hr)⟩
theorem Off.set3{r:Nat}{a b:aK}(h:Off r a b)(x y z:aS):Off r a (((b.setCell ⟨r,0,none⟩ x).setCell ⟨r,1,none⟩ y).setCell ⟨r,2,none⟩ z):=
 ⟨by simpa using h.1,fun c hc hr=> by rw[aL _ _ _ _ hr,aL _ _ _ _ hr,aL _ _ _ _ hr];exact h.2 c hc hr⟩
theorem Off.blk{r:Nat}{w w':aK}(h:Off r w w'){b:Nat}{x:Obj}(d:w.heap[b]? =some x)(hr:b≠r):w'.heap[b]? =some x:=(h.2 b (O1 d) hr).trans d
theorem Off.cell{r:Nat}{w w':aK}(h:Off r w w'){b o:Nat}{v:aS}(hc:w.cell? ⟨b,o,none⟩=some v)(hr:b≠r):w'.cell? ⟨b,o,none⟩=some v:=
 (dQ (w:=w) (a:=⟨b,o,none⟩) (h.2 b (bR w ⟨b,o,none⟩ hc) hr)).trans hc
theorem InT.off{r:Nat}{w w':aK}{N:Nat->Prop}{t:Tr}{v:aS}(h:InT w N t v)(e:Off r w w')(hN: ∀b,N b->b≠r):InT w' N t v:=
 InT.mono (fun b d=> d.1) (fun b d=> e.2 b d.2 (hN b d.1)) h.bound
theorem InK.off{r:Nat}{w w':aK}{N:Nat->Prop}{A:Option Addr}{ks:List Tr}(h:InK w N A ks)(e:Off r w w')(hN: ∀b,N b->b≠r):InK w' N A ks:=
 InK.mono (fun b d=> d.1) (fun b d=> e.2 b d.2 (hN b d.1)) h.bound
abbrev KA(w:aK)(N:Nat->Prop)(b o:Nat)(t:Tr)(x1 x2:Int)(x3:Option Addr)(x4 x5:Nat):Prop:=
 w.cell? ⟨b,o,none⟩=some (.int .i64 x1)/\w.cell? ⟨b,o+1,none⟩=some (.int .i64 x2)/\w.cell? ⟨b,o+2,none⟩=some (.slice x3 x4 x5)/\b < w.heap.size/\InT w N t (.agg #[.int .i64 x1,.int .i64 x2,.slice x3 x4 x5])
section
variable {w w' w0 w1 : aK} {N : Nat → Prop} {b o r : Nat} {t : Tr} {x1 x2 : Int} {x3 : Option Addr} {x4 x5 : Nat}
theorem KA.i(h:KA w N b o t x1 x2 x3 x4 x5):InT w N t (.agg #[.int .i64 x1,.int .i64 x2,.slice x3 x4 x5]):=h.2.2.2.2
theorem KA.l(h:KA w N b o t x1 x2 x3 x4 x5):Lies w t (.agg #[.int .i64 x1,.int .i64 x2,.slice x3 x4 x5]):=h.2.2.2.2.lies'
theorem KA.off(h:KA w N b o t x1 x2 x3 x4 x5)(d:b≠r)(hN: ∀b,N b->b≠r)(w':aK)(e:Off r w w'):KA w' N b o t x1 x2 x3 x4 x5:=
 ⟨e.cell h.1 d,e.cell h.2.1 d,e.cell h.2.2.1 d,aX h.2.2.2.1 e.1,h.2.2.2.2.off e hN⟩
theorem KA.up(h:KA w0 N b o t x1 x2 x3 x4 x5)(e:Ext w0 w1)(hr:w0.heap.size<=r): ∀w',Off r w1 w'->KA w' (fun b=> N b/\b≠r) b o t x1 x2 x3 x4 x5:=
 KA.off (w:=w1) ⟨e.cell h.1,e.cell h.2.1,e.cell h.2.2.1,aX h.2.2.2.1 e.size,h.2.2.2.2.keep e hr⟩ (by have:=h.2.2.2.1;omega) (fun b h=> h.2)
end
theorem fd{w:aK}{N:Nat->Prop}{A:Option Addr}{ks:List Tr}(h:InK w N A ks)(f:0 < ks.length): ∃b o,A=some ⟨b,o,none⟩/\N b/\ ∀j,j < ks.length-> ∃x1 x2 x3 x4 x5,KA w N b (o+3*j) (kd ks j) x1 x2 x3 x4 x5:=by
 obtain⟨d,i,rfl,p⟩:=InK.kid h f;refine⟨d,i,rfl, ?_,fun j k=> ?_⟩
 · rcases h with rfl|⟨b,o,h,q,-⟩
   · exact absurd f (by simp)
   · obtain⟨rfl,rfl⟩:d=b/\i=o:=by simpa using h
     exact q
 · obtain⟨x1,x2,x3,x4,x5,e,m,n,l⟩:=p j k
   exact⟨x1,x2,x3,x4,x5,e,m,n,bR _ ⟨d,_,none⟩ e,l⟩
section
variable {w : aK} {N : Nat → Prop} {A : Option Addr} {ks : List Tr}
theorem j15(h:InK w N A ks)(hl:ks.length=1): ∃b o,A=some ⟨b,o,none⟩/\N b/\ ∃x1 x2 x3 x4 x5,KA w N b o (kd ks 0) x1 x2 x3 x4 x5:=by
 obtain⟨b,o,d,e,f⟩:=fd h (by omega);exact⟨b,o,d,e,f 0 (by omega)⟩
theorem q17(h:InK w N A ks)(hl:ks.length=2): ∃b o,A=some ⟨b,o,none⟩/\N b/\(∃x1 x2 x3 x4 x5,KA w N b o (kd ks 0) x1 x2 x3 x4 x5)/\ ∃x1 x2 x3 x4 x5,KA w N b (o+3) (kd ks 1) x1 x2 x3 x4 x5:=by
 obtain⟨b,o,e,f,d⟩:=fd h (by omega);exact⟨b,o,e,f,d 0 (by omega),d 1 (by omega)⟩
theorem y20(h:InK w N A ks)(hl:ks.length=3): ∃b o,A=some ⟨b,o,none⟩/\N b/\(∃x1 x2 x3 x4 x5,KA w N b o (kd ks 0) x1 x2 x3 x4 x5)/\(∃x1 x2 x3 x4 x5,KA w N b (o+3) (kd ks 1) x1 x2 x3 x4 x5)/\ ∃x1 x2 x3 x4 x5,KA w N b (o+6) (kd ks 2) x1 x2 x3 x4 x5:=by
 obtain⟨b,o,e,f,d⟩:=fd h (by omega);exact⟨b,o,e,f,d 0 (by omega),d 1 (by omega),d 2 (by omega)⟩
theorem y37(h:InK w N A ks)(hl:ks.length=4): ∃b o,A=some ⟨b,o,none⟩/\N b/\(∃x1 x2 x3 x4 x5,KA w N b o (kd ks 0) x1 x2 x3 x4 x5)/\(∃x1 x2 x3 x4 x5,KA w N b (o+3) (kd ks 1) x1 x2 x3 x4 x5)/\(∃x1 x2 x3 x4 x5,KA w N b (o+6) (kd ks 2) x1 x2 x3 x4 x5)/\ ∃x1 x2 x3 x4 x5,KA w N b (o+9) (kd ks 3) x1 x2 x3 x4 x5:=by
 obtain⟨b,o,e,f,d⟩:=fd h (by omega);exact⟨b,o,e,f,d 0 (by omega),d 1 (by omega),d 2 (by omega),d 3 (by omega)⟩
end
section
variable {r : Nat} {w w' w0 w1 : aK} {P Q : aK → Prop}
theorem both{R:aK->Prop}(F: ∀w',R w'->P w')(G: ∀w',R w'->Q w'): ∀w',R w'->P w'/\Q w':=fun w' h=>⟨F w' h,G w' h⟩
theorem rb(F: ∀w',Off r w w'->P w')(X:Ext w w1): ∀w',Off r w1 w'->P w':=fun w' h=> F w' (X.off.trans h)
theorem U9{g:Nat}{x0 x1 x2:aS}{e:aY}(f:w.heap[g]? =some (.cells #[x0,x1,x2] e (0,0)))(d:g≠r): ∀w',Off r w w'->w'.cell? ⟨g,0,none⟩=some x0/\w'.cell? ⟨g,1,none⟩=some x1/\w'.cell? ⟨g,2,none⟩=some x2/\g < w'.heap.size:=
 fun w' h=> cb3 (h.blk f d)
theorem vJ{g:Nat}{x0 x1 x2 x3 x4:aS}{e:aY}(f:w.heap[g]? =some (.cells #[x0,x1,x2,x3,x4] e (0,0)))(d:g≠r): ∀w',Off r w w'->w'.cell? ⟨g,0,none⟩=some x0/\w'.cell? ⟨g,1,none⟩=some x1/\w'.cell? ⟨g,2,none⟩=some x2/\w'.cell? ⟨g,3,none⟩=some x3/\w'.cell? ⟨g,4,none⟩=some x4/\g < w'.heap.size:=
 fun w' h=> Kt (h.blk f d)
theorem Ue{N:Nat->Prop}{x0 x1 x2 x3 x4 d i j:aS}{e f:aY}(n:w1=(w0.alloc (.cells #[x0,x1,x2,x3,x4] e)).alloc (.cells #[d,i,j] f))(hN: ∀b,w0.heap.size<=b->N b):
 Ext w0 w1/\w1.heap[w0.heap.size+1]? =some (.cells #[d,i,j] f)/\ ∀w',Off (w0.heap.size+1) w1 w'->(∀b,w'.heap.size<=b->N b/\b≠w0.heap.size+1)/\w'.cell? ⟨w0.heap.size,0,none⟩=some x0/\w'.cell? ⟨w0.heap.size,1,none⟩=some x1/\w'.cell? ⟨w0.heap.size,2,none⟩=some x2/\w'.cell? ⟨w0.heap.size,3,none⟩=some x3/\w'.cell? ⟨w0.heap.size,4,none⟩=some x4/\w0.heap.size < w'.heap.size:=by
 obtain⟨l,p,s,k⟩:=box2 n;exact⟨k,p,both (fun w' h b m=> Oa hN k.size s b (bK h.1 m)) (vJ l (by omega))⟩
theorem Ext.ne{o:Obj}(X:Ext w w')(h:w.heap[r]? =some o):w'.heap.size≠r:=by
 have:=X.size;have:=O1 h;omega
theorem nb{o:Obj}(h:w.alloc o=w'):w'.heap[w.heap.size]? =some o/\Ext w w':=by
 subst h;exact⟨aR _ _,(xr _).alloc _⟩
theorem InT.up{N:Nat->Prop}{t:Tr}{v:aS}(h:InT w (fun b=> N b/\b≠r) t v)(e:Ext w w1): ∀w',Off r w1 w'->InT w' (fun b=> N b/\b≠r) t v:=fun w' k=>(h.later e).off k fun _ h=> h.2
theorem sE{N:Nat->Prop}{x0 x1 x2 d i j:aS}{e f:aY}(n:w1=(w0.alloc (.cells #[x0,x1,x2] e)).alloc (.cells #[d,i,j] f))(hN: ∀b,w0.heap.size<=b->N b):
 Ext w0 w1/\w1.heap[w0.heap.size+1]? =some (.cells #[d,i,j] f)/\ ∀w',Off (w0.heap.size+1) w1 w'->(∀b,w'.heap.size<=b->N b/\b≠w0.heap.size+1)/\w'.cell? ⟨w0.heap.size,0,none⟩=some x0/\w'.cell? ⟨w0.heap.size,1,none⟩=some x1/\w'.cell? ⟨w0.heap.size,2,none⟩=some x2/\w0.heap.size < w'.heap.size:=by
 obtain⟨l,p,s,k⟩:=box2 n;exact⟨k,p,both (fun w' h b m=> Oa hN k.size s b (bK h.1 m)) (U9 l (by omega))⟩
theorem KA.fm{N:Nat->Prop}{b o:Nat}{t:Tr}{x1 x2:Int}{x3:Option Addr}{x4 x5:Nat}(h:KA w (fun b=> N b/\b≠r) b o t x1 x2 x3 x4 x5)(d:N b/\b≠r)(e:Ext w w1): ∀w',Off r w1 w'->KA w' (fun b=> N b/\b≠r) b o t x1 x2 x3 x4 x5:=
 KA.off (KA.off h d.2 (fun _ h=> h.2) _ e.off) d.2 fun _ h=> h.2
theorem kJ(w:aK)(a:Obj)(x0 x1 x2:aS)(e:aY):
 ((w.alloc a).alloc (.cells #[x0,x1,x2] e)).cell? ⟨w.heap.size+1,0,none⟩=some x0/\((w.alloc a).alloc (.cells #[x0,x1,x2] e)).cell? ⟨w.heap.size+1,1,none⟩=some x1/\((w.alloc a).alloc (.cells #[x0,x1,x2] e)).cell? ⟨w.heap.size+1,2,none⟩=some x2:=by
 obtain⟨-,h,-⟩:=box2 (w:=w) (a:=a) (b:= .cells #[x0,x1,x2] e) rfl;exact⟨(cbn h).1,(cbn h).2.1,(cbn h).2.2.1⟩
theorem eJ(w:aK)(a b:Obj)(x0 x1 x2:aS)(e:aY):
 (((w.alloc a).alloc (.cells #[x0,x1,x2] e)).alloc b).cell? ⟨w.heap.size+1,0,none⟩=some x0/\(((w.alloc a).alloc (.cells #[x0,x1,x2] e)).alloc b).cell? ⟨w.heap.size+1,1,none⟩=some x1/\(((w.alloc a).alloc (.cells #[x0,x1,x2] e)).alloc b).cell? ⟨w.heap.size+1,2,none⟩=some x2:=by
 obtain⟨-,h,-⟩:=xg (w:=w) (a:=a) (b:= .cells #[x0,x1,x2] e) (c:=b) rfl;exact⟨(cbn h).1,(cbn h).2.1,(cbn h).2.2.1⟩
theorem cz(c:Int):(Hid (c≠0)/\(c !=0)=true/\(c==0)=false)\/c=0:=by
 by_cases h:c=0
 · exact .inr h
 · exact .inl ⟨hdq h,by simp[h],by simp[h]⟩
theorem czk(k n:Int):(Hid (k≠n)/\(k !=n)=true/\(k==n)=false)\/k=n:=by
 by_cases h:k=n
 · exact .inr h
 · exact .inl ⟨hdq h,by simp[h],by simp[h]⟩
end
section
variable {w : aK} {N : Nat → Prop} {t u x : Tr} {v0 v1 v2 u0 u1 u2 x0 x1 x2 : aS}
theorem Tc(e:aY)(h:InT w N t (.agg #[v0,v1,v2]))(hN: ∀b,w.heap.size<=b->N b):Ext w (w.alloc (.cells #[v0,v1,v2] e))/\InK (w.alloc (.cells #[v0,v1,v2] e)) N (some ⟨w.heap.size,0,none⟩) [t]:=⟨(xr _).alloc _,InK.news h (hN _ (aM _))⟩
theorem k7(e:aY)(h:InT w N t (.agg #[v0,v1,v2]))(k:InT w N u (.agg #[u0,u1,u2]))(hN: ∀b,w.heap.size<=b->N b):Ext w (w.alloc (.cells #[v0,v1,v2,u0,u1,u2] e))/\InK (w.alloc (.cells #[v0,v1,v2,u0,u1,u2] e)) N (some ⟨w.heap.size,0,none⟩) [t,u]:=⟨(xr _).alloc _,InK.news2 h k (hN _ (aM _))⟩
theorem fg(e:aY)(h:InT w N t (.agg #[v0,v1,v2]))(k:InT w N u (.agg #[u0,u1,u2]))(l:InT w N x (.agg #[x0,x1,x2]))(hN: ∀b,w.heap.size<=b->N b):Ext w (w.alloc (.cells #[v0,v1,v2,u0,u1,u2,x0,x1,x2] e))/\InK (w.alloc (.cells #[v0,v1,v2,u0,u1,u2,x0,x1,x2] e)) N (some ⟨w.heap.size,0,none⟩) [t,u,x]:=⟨(xr _).alloc _,InK.news3 h k l (hN _ (aM _))⟩
end
theorem rgn{P:Program}{id:Nat}{ops:Array Oper}{Q:Exit->Act->aK->Prop}{a:Act}{w W:aK}(r:Nat)(hm:P.follows .mixedOrders=true)(X:Ext W w)(h:wpAnyH P .any ops Q (Off r W) ops.size (Array.replicate ops.size false) a w.drew):(Code.region id ops true).wp P Q a w:=
 wp_region_held_drew hm X.drew.off fun _=> h
section
variable {P : Program} {fn : Func} {a : Act} {w W : aK} {N : Nat → Prop} {r : Tr × Int} {c : Int} {g : Nat} {t : Tr} {u x y z : aS}
theorem ya(e:(results fn a.tmps).run P W= .ok (.tuple #[.agg #[.int .i64 0,.int .i64 0,.slice none 0 0],.int .i64 c]) W)(d:r=(E2,c))(x:Ext w W)(f:a.defers= []):bodyPost P fn (N9 N w r) .ret a W:=
 aO e f ⟨_,by rw[d],by rw[d];exact F5 _ _ 0 0,x⟩
theorem n7{w0:aK}(e:(results fn a.tmps).run P (((w.setCell ⟨g,0,none⟩ x).setCell ⟨g,1,none⟩ y).setCell ⟨g,2,none⟩ z)= .ok (.tuple #[u,.int .i64 c]) (((w.setCell ⟨g,0,none⟩ x).setCell ⟨g,1,none⟩ y).setCell ⟨g,2,none⟩ z))
 (hT:InT w (fun b=> N b/\b≠g) t u) (hr:r=(t,c)) (X:Ext w0 w) (d:w0.heap.size<=g) (f:a.defers= []):bodyPost P fn (N9 N w0 r) .ret a (((w.setCell ⟨g,0,none⟩ x).setCell ⟨g,1,none⟩ y).setCell ⟨g,2,none⟩ z):=
 aO e f ⟨_,by rw[hr],by rw[hr];exact hT.ret _ _ _,X.set3 d _ _ _⟩
end
theorem SI{ks:List Tr}(h:ks.length=1):(0:Int) <(ks.length:Int)/\0 < ks.length:=by omega
theorem JI{ks:List Tr}(h:ks.length=2):((0:Int) <(ks.length:Int)/\0 < ks.length)/\(1:Int) <(ks.length:Int)/\1 < ks.length:=by omega
theorem FG{ks:List Tr}(h:ks.length=3):((0:Int) <(ks.length:Int)/\0 < ks.length)/\((1:Int) <(ks.length:Int)/\1 < ks.length)/\(2:Int) <(ks.length:Int)/\2 < ks.length:=by omega
theorem rJ{ks:List Tr}(h:ks.length=4):((0:Int) <(ks.length:Int)/\0 < ks.length)/\((1:Int) <(ks.length:Int)/\1 < ks.length)/\((2:Int) <(ks.length:Int)/\2 < ks.length)/\(3:Int) <(ks.length:Int)/\3 < ks.length:=by omega
theorem qs{k n:Int}{ks:List Tr}(hv:j0 m0 (.mk k n ks)=true)(hl:ks.length=1)(hk:k=15\/k=16):j0 m0 (.mk 15 0 [kd ks 0])=true:=by
 obtain⟨x,rfl⟩: ∃x,ks= [x]:=List.length_eq_one_iff.1 hl;obtain⟨f,d⟩:=Z3 hv;obtain⟨-,-,-,e⟩:=Z4 f;have i:=e x (by simp);unfold j0;simp only[Bool.and_eq_true,decide_eq_true_eq];refine⟨?_,by simpa[cnt,W1,kd] using d⟩;simp only[kd,List.getD_cons_zero,D0,m9,Bool.and_true,Bool.and_eq_true,decide_eq_true_eq];exact⟨by omega,rfl,i⟩
theorem me{r q:Tr×Int}(h:r=q):r=(q.1,q.2):=h
theorem OD{q:Tr×Int}{f:Tr->An}{r:Tr×Int}(h:thn (some q) f=some r):Hid (q.2=0->f q.1=some r)/\Hid (q.2≠0->r=(E2,q.2)):=by
 obtain⟨s,c,d,e,i⟩:=Xd h;obtain rfl:q=(s,c):=by simpa using d
 exact⟨hdq e,hdq i⟩

/-
  Lemmas towards the law, 22: Contract2, Put4, InfP.
-/
import Derived.Test.YtbnkbepgmenblaaGreatTAU
set_option linter.unusedVariables false
set_option maxHeartbeats 4000000
set_option maxRecDepth 100000
namespace Go.Proofs.YtbnkbepgmenblaaGreat
open Go.RowKit
structure KeptC (p:Prop):Prop where
 out:p
theorem onceC{T p:Prop}(h:KeptC T->p)(k:T):p:=h ⟨k⟩
theorem y14{α:Type}(a:α): ∃x,x=a:=⟨a,rfl⟩
theorem four{w w5:World}{a b c d:Obj}(h:w5=World.drew ((((w.alloc a).alloc b).alloc c).alloc d)):w5.heap[w.heap.size]? =some a/\w5.heap[w.heap.size+1]? =some b/\w5.heap[w.heap.size+1+1]? =some c/\w5.heap[w.heap.size+1+1+1]? =some d/\Ext w w5:=by
 subst h;obtain⟨p,q,r,t,-⟩:=blk4 (xr ((((w.alloc a).alloc b).alloc c).alloc d)).drew;exact⟨p,q,r,t,(((((xr w).alloc a).alloc b).alloc c).alloc d).drew⟩
theorem nodeL{w:World}{k:Int}{A:Option Addr}{cap:Nat}{ks:List Tr}(hK:j26 w A ks)(hl:ks.length<=cap)(hc:cap<=maxLen):Calls Tryz.prog 71 #[.int .i64 k,.slice A ks.length cap] w fun e w'=> ∃a1 a2 a3 a4 a5,e= .returned (.agg #[.int .i64 a1,.int .i64 a2,.slice a3 a4 a5])/\Lies w' (.mk k 0 ks) (.agg #[.int .i64 a1,.int .i64 a2,.slice a3 a4 a5])/\Ext w w':=by
 refine(q22 w k A ks.length cap).mono ?_;rintro e w' ⟨rfl,h⟩;exact⟨_,_,_,_,_,rfl,Lies.mk hl hc (hK.ext h),h⟩
theorem node2L{w:World}{k:Int}{g:Nat}{t1 t2:Tr}{v0 v1 v2 u0 u1 u2:Value}(h1:Lies w t1 (.agg #[v0,v1,v2]))(h2:Lies w t2 (.agg #[u0,u1,u2]))(hg:w.heap[g]? =some (.cells #[v0,v1,v2,u0,u1,u2] 25 (0,0))):
 Calls Tryz.prog 71 #[.int .i64 k,.slice (some ⟨g,0,none⟩) 2 2] w fun e w'=> ∃a1 a2 a3 a4 a5,e= .returned (.agg #[.int .i64 a1,.int .i64 a2,.slice a3 a4 a5])/\Lies w' (.mk k 0 [t1,t2]) (.agg #[.int .i64 a1,.int .i64 a2,.slice a3 a4 a5])/\Ext w w':=
 nodeL (ks:= [t1,t2]) (InK.two (e:=25) h1 h2 hg (j10 hg)) (by simp) (by decide)
theorem node4L{w:World}{k:Int}{g:Nat}{t1 t2 t3 t4:Tr}{v0 v1 v2 u0 u1 u2 x0 x1 x2 y0 y1 y2:Value}(h1:Lies w t1 (.agg #[v0,v1,v2]))(h2:Lies w t2 (.agg #[u0,u1,u2]))(h3:Lies w t3 (.agg #[x0,x1,x2]))(h4:Lies w t4 (.agg #[y0,y1,y2]))(hg:w.heap[g]? =some (.cells #[v0,v1,v2,u0,u1,u2,x0,x1,x2,y0,y1,y2] 25 (0,0))):
 Calls Tryz.prog 71 #[.int .i64 k,.slice (some ⟨g,0,none⟩) 4 4] w fun e w'=> ∃a1 a2 a3 a4 a5,e= .returned (.agg #[.int .i64 a1,.int .i64 a2,.slice a3 a4 a5])/\Lies w' (.mk k 0 [t1,t2,t3,t4]) (.agg #[.int .i64 a1,.int .i64 a2,.slice a3 a4 a5])/\Ext w w':=by
 refine nodeL (ks:= [t1,t2,t3,t4]) (.inr ⟨g,0,rfl,j10 hg, ?_⟩) (by simp) (by decide);unfold InL;refine⟨⟨v0,v1,v2,q10 hg 0,q10 hg 1,q10 hg 2,h1⟩, ?_⟩;unfold InL;refine⟨⟨u0,u1,u2,q10 hg 3,q10 hg 4,q10 hg 5,h2⟩, ?_⟩;unfold InL;refine⟨⟨x0,x1,x2,q10 hg 6,q10 hg 7,q10 hg 8,h3⟩, ?_⟩;unfold InL;refine⟨⟨y0,y1,y2,q10 hg 9,q10 hg 10,q10 hg 11,h4⟩, ?_⟩;unfold InL
 trivial
theorem q17{w:World}{o:Obj}{n:Nat}(h:n=w.heap.size):(w.alloc o).heap[n]? =some o:=h▸heap_alloc_new w o
theorem q163(n:Int)(ks:List Tr)(hv:valid sigT (.mk 9 n ks)=true)(w:World)(A:Option Addr)(cap:Nat)(j7:Lies w (.mk 9 n ks) (.agg #[.int .i64 9,.int .i64 n,.slice A ks.length cap]))(hK:j26 w A ks)(hl:ks.length<=cap)(hc:cap<=maxLen)(hc3:(kd ks 3).kind=8):
 Calls Tryz.prog 108 #[.agg #[.int .i64 9,.int .i64 n,.slice A ks.length cap]] w (ConQ w (ctr 9 ks)):=by
 obtain⟨hsh,I1⟩:=y12 hv;have j8:opsT 9=(ks.length:Int):=(j12 hsh).1;have p9:ks.length=4:=by have h9:(4:Int)=(ks.length:Int):=j8;omega
 have hsk:=(j12 hsh).2.2.2;have T8: ∀t∈ks,valid sigT t=true:=fun t ht=> by
  have h1:=hsk t ht;have h2:=y15 ht;simp only[cnt] at I1;unfold valid;rw[y28 h1 (by decide),Bool.true_and,decide_eq_true_eq];omega
 have hcc:=hc;unfold maxLen at hcc;have G8:=hdq (fun W (hW:Ext w W)=> j35 (.mk 9 n ks) 30 hsh W _ (j7.ext hW));obtain⟨wb,D9⟩: ∃wb,wb=(w.alloc (.cells #[.int .i64 9,.int .i64 n,.slice A ks.length cap] 25)).alloc (.cells #[.int .i64 0,.int .i64 0,.slice none 0 0] 25):=⟨_,rfl⟩;have hX:Ext w wb:=D9▸((xr w).alloc _).alloc _;have hb0:wb.heap[w.heap.size]? =some (.cells #[.int .i64 9,.int .i64 n,.slice A ks.length cap] 25 (0,0)):=by rw[D9];exact(blk2 (xr _)).1
 have hb1:wb.heap[w.heap.size+1]? =some (.cells #[.int .i64 0,.int .i64 0,.slice none 0 0] 25 (0,0)):=by rw[D9];exact(blk2 (xr _)).2.1
 have hs0:w.heap.size+1 < wb.heap.size:=j10 hb1;have I8:0 < ks.length:=by omega
 have P3:(0:Int) <(ks.length:Int):=by omega
 obtain⟨b0,o0,k0,n0,A0,C7,i6,kx,bm,U0,W9,V0,lp,pj,V5,D3,E4⟩:=hK.get (xr w) I8;simp only[Nat.zero_mul,Nat.add_zero] at U0 W9 V0;have D7:kd ks 0= .mk k0 n0 i6:=q27 I8 bm.out;have J0:1 < ks.length:=by omega
 have ft:(1:Int) <(ks.length:Int):=by omega
 obtain⟨b1,o1,k1,n1,A1,I0,j9,Q7,N0,c10,c11,c12,jk,ir,Q3,D2,u6⟩:=hK.get (xr w) J0;simp only[Nat.one_mul,Nat.add_assoc,Nat.reduceAdd] at c10 c11 c12;have P8:kd ks 1= .mk k1 n1 j9:=q27 J0 N0.out;have I5:2 < ks.length:=by omega
 have S7:(2:Int) <(ks.length:Int):=by omega
 obtain⟨b2,o2,k2,n2,A2,M3,l8,ey,rk,c20,c21,pq,Z8,U1,hK2,S0,P7⟩:=hK.get (xr w) I5;simp only[Nat.reduceMul,Nat.add_assoc,Nat.reduceAdd] at c20 c21 pq;have di:kd ks 2= .mk k2 n2 l8:=q27 I5 rk.out;have J6:3 < ks.length:=by omega
 have Ed:(3:Int) <(ks.length:Int):=by omega
 obtain⟨b3,o3,k3,n3,A3,M2,o7,im,aa,U6,c31,U8,py,iv,hK3,J4,D1⟩:=hK.get (xr w) J6;simp only[Nat.reduceMul,Nat.add_assoc,Nat.reduceAdd] at U6 c31 U8;have F3:kd ks 3= .mk k3 n3 o7:=q27 J6 aa.out;subst kx
 injection Q7 with Q7
 injection Q7 with bw hC1 Vd
 subst bw hC1
 injection ey with ey
 injection ey with si hC2 hD2
 subst si hC2
 injection im with im
 injection im with La zy hD3
 subst La zy;rw[F3] at hc3;have hk8:k3=8:=hc3;subst hk8;have hv3:=T8 _ D1;have ya:opsT 8=(o7.length:Int):=(j12 (y12 hv3).1).1;have Gk:o7.length=1:=by have h9:(1:Int)=(o7.length:Int):=ya;omega
 have ii:0 < o7.length:=by omega
 have hi4:(0:Int) <(o7.length:Int):=by omega
 obtain⟨b4,o4,k4,n4,A4,bc,C3,Xk,Ql,c40,Gg,Jk,Xp,hkc4,hK4,yh,mj⟩:=hK3.get (xr w) ii;simp only[Nat.zero_mul,Nat.add_zero] at c40 Gg Jk;have vg:kd o7 0= .mk k4 n4 C3:=q27 ii Ql.out;subst Xk;have q0:=(y12 (T8 _ E4)).2;have q1:=(y12 (T8 _ u6)).2;have q2:=(y12 (T8 _ P7)).2;have q4:=(y12 hv3).2;have q5:=y15 mj;have p6:ctr 9 ks= .mk 5 0 [.mk 5 0 [.mk k2 n2 l8,.mk k4 n4 C3],.mk 9 0 [.mk k0 n0 i6,.mk k1 n1 j9,.mk k2 n2 l8,.mk k4 n4 C3]]:=by rw[q48 (by rw[F3];rfl),D7,P8,di,F3,show kd (Tr.kids (.mk 8 n3 o7)) 0=_ from vg]
 rw[p6];have N5:rdx 9 ks=3:=by unfold rdx;rw[F3];simp[Tr.kind]
 obtain⟨TT,C9⟩: ∃x,x=Tr.mk 5 0 [.mk 5 0 [.mk k2 n2 l8,.mk k4 n4 C3],.mk 9 0 [.mk k0 n0 i6,.mk k1 n1 j9,.mk k2 n2 l8,.mk k4 n4 C3]]:=⟨_,rfl⟩;rw[<-C9];have Ew:cnt TT<=10000:=by rw[C9];simp only[cnt,cnts] at*;omega
 have V1:=hdq C9;clear C9 p6;have hrt:rdxT (.mk 9 n ks)=3:=N5;rw[hrt] at G8;clear hrt N5 p9 j8;clear Gk;go_enter Tryz.func108,Tryz.ntmps108;go_wp2_with fail;rw[<-D9];clear D9;refine(G8.out _ hX).mono ?_;rintro e w1 ⟨rfl,h1⟩;have p8:=hX.trans h1;have D5:=h1.blk hb0;have B7:=h1.blk hb1;have hs1:w.heap.size+1 < w1.heap.size:=j10 B7;obtain⟨z0,z1,z2,-,-,-⟩:=own3 D5;clear hb0 hb1 G8 h1;have HC:=hdq (show∀w':World,Ext w1 w'->w'.cell? ⟨w.heap.size,2,none⟩=some (.slice (some ⟨b0,o0,none⟩) ks.length cap)/\w'.cell? ⟨b0,o0,none⟩=some (.int .i64 k0)/\w'.cell? ⟨b0,o0+1,none⟩=some (.int .i64 n0)/\w'.cell? ⟨b0,o0+2,none⟩=some (.slice A0 i6.length C7)/\w'.cell? ⟨b0,o0+3,none⟩=some (.int .i64 k1)/\w'.cell? ⟨b0,o0+4,none⟩=some (.int .i64 n1)/\w'.cell? ⟨b0,o0+5,none⟩=some (.slice A1 j9.length I0)/\w'.cell? ⟨b0,o0+6,none⟩=some (.int .i64 k2)/\w'.cell? ⟨b0,o0+7,none⟩=some (.int .i64 n2)/\w'.cell? ⟨b0,o0+8,none⟩=some (.slice A2 l8.length M3)/\w'.cell? ⟨b0,o0+11,none⟩=some (.slice (some ⟨b4,o4,none⟩) o7.length M2)/\w'.cell? ⟨b4,o4,none⟩=some (.int .i64 k4)/\w'.cell? ⟨b4,o4+1,none⟩=some (.int .i64 n4)/\w'.cell? ⟨b4,o4+2,none⟩=some (.slice A4 C3.length bc) from fun w' h=>⟨h.cell z2,(p8.trans h).cell U0,(p8.trans h).cell W9,(p8.trans h).cell V0,(p8.trans h).cell c10,(p8.trans h).cell c11,(p8.trans h).cell c12,(p8.trans h).cell c20,(p8.trans h).cell c21,(p8.trans h).cell pq,(p8.trans h).cell U8,(p8.trans h).cell c40,(p8.trans h).cell Gg,(p8.trans h).cell Jk⟩);have D8:Ext w1 w1.drew:=(xr w1).drew;have L0:=D3.ext p8;have L1:=D2.ext p8;have L2:=S0.ext p8;have L4:=yh.ext p8;clear bm N0 rk aa Ql D7 P8 di F3 vg V5 Q3 hK2 hK3 hK4 D3 D2 S0 J4 yh E4 u6 P7 D1 mj hK j7 ya U0 W9 V0 c10 c11 c12 c20 c21 pq U6 c31 U8 c40 Gg Jk z0 z1 z2 D5;go_wp2_with fail
 apply onceC
 case h=>
  intro REST
  go_region_held3 (fun w'=> w'.cell? ⟨w.heap.size,2,none⟩=some (.slice (some ⟨b0,o0,none⟩) ks.length cap)/\w'.cell? ⟨b0,o0,none⟩=some (.int .i64 k0)/\w'.cell? ⟨b0,o0+1,none⟩=some (.int .i64 n0)/\w'.cell? ⟨b0,o0+2,none⟩=some (.slice A0 i6.length C7)/\w'.cell? ⟨b0,o0+3,none⟩=some (.int .i64 k1)/\w'.cell? ⟨b0,o0+4,none⟩=some (.int .i64 n1)/\w'.cell? ⟨b0,o0+5,none⟩=some (.slice A1 j9.length I0)/\w'.cell? ⟨b0,o0+6,none⟩=some (.int .i64 k2)/\w'.cell? ⟨b0,o0+7,none⟩=some (.int .i64 n2)/\w'.cell? ⟨b0,o0+8,none⟩=some (.slice A2 l8.length M3)/\w'.cell? ⟨b0,o0+11,none⟩=some (.slice (some ⟨b4,o4,none⟩) o7.length M2)/\w'.cell? ⟨b4,o4,none⟩=some (.int .i64 k4)/\w'.cell? ⟨b4,o4+1,none⟩=some (.int .i64 n4)/\w'.cell? ⟨b4,o4+2,none⟩=some (.slice A4 C3.length bc))
   (first|exact HC.out _ (by with_reducible exact((((D8).alloc _).alloc _).alloc _).alloc _) |exact HC.out _ (by with_reducible exact(((((xr w1).alloc _).alloc _).alloc _).alloc _).drew) |exact HC.out _ (by with_reducible exact(((D8).alloc _).alloc _).alloc _) |exact HC.out _ (by with_reducible exact((((xr w1).alloc _).alloc _).alloc _).drew) |exact HC.out _ (by with_reducible exact((D8).alloc _).alloc _) |exact HC.out _ (by with_reducible exact(((xr w1).alloc _).alloc _).drew) |exact HC.out _ (by with_reducible exact(D8).alloc _) |exact HC.out _ (by with_reducible exact((xr w1).alloc _).drew) |exact HC.out _ (by with_reducible exact D8))
   (fail)
  all_goals(obtain⟨O0,jg⟩: ∃x,x=Obj.cells #[.int .i64 k0,.int .i64 n0,.slice A0 i6.length C7] 25:=⟨_,rfl⟩;rw[<-jg])
  all_goals(obtain⟨O1,Dt⟩: ∃x,x=Obj.cells #[.int .i64 k1,.int .i64 n1,.slice A1 j9.length I0] 25:=⟨_,rfl⟩;rw[<-Dt])
  all_goals(obtain⟨O2,M4⟩: ∃x,x=Obj.cells #[.int .i64 k2,.int .i64 n2,.slice A2 l8.length M3] 25:=⟨_,rfl⟩;rw[<-M4])
  all_goals(obtain⟨O4,S8⟩: ∃x,x=Obj.cells #[.int .i64 k4,.int .i64 n4,.slice A4 C3.length bc] 25:=⟨_,rfl⟩;rw[<-S8])
  all_goals(first
   |(obtain⟨w5,B8⟩:=y14 (World.drew ((((w1.alloc O0).alloc O1).alloc O2).alloc O4));rw[<-B8];obtain⟨f4,f5,f6,f7,en⟩:=four B8;obtain⟨g7,F4⟩:=y14 (w1.heap.size+1+1+1);rw[<-F4] at f7⊢;obtain⟨g6,F5⟩:=y14 (w1.heap.size+1+1);rw[<-F5] at f6⊢;obtain⟨g5,D4⟩:=y14 (w1.heap.size+1);rw[<-D4] at f5⊢;obtain⟨g4,hg4⟩:=y14 (w1.heap.size);rw[<-hg4] at f4⊢)
   |(obtain⟨w5,B8⟩:=y14 (World.drew ((((w1.alloc O0).alloc O1).alloc O4).alloc O2));rw[<-B8];obtain⟨f4,f5,f7,f6,en⟩:=four B8;obtain⟨g6,F5⟩:=y14 (w1.heap.size+1+1+1);rw[<-F5] at f6⊢;obtain⟨g7,F4⟩:=y14 (w1.heap.size+1+1);rw[<-F4] at f7⊢;obtain⟨g5,D4⟩:=y14 (w1.heap.size+1);rw[<-D4] at f5⊢;obtain⟨g4,hg4⟩:=y14 (w1.heap.size);rw[<-hg4] at f4⊢)
   |(obtain⟨w5,B8⟩:=y14 (World.drew ((((w1.alloc O0).alloc O2).alloc O1).alloc O4));rw[<-B8];obtain⟨f4,f6,f5,f7,en⟩:=four B8;obtain⟨g7,F4⟩:=y14 (w1.heap.size+1+1+1);rw[<-F4] at f7⊢;obtain⟨g5,D4⟩:=y14 (w1.heap.size+1+1);rw[<-D4] at f5⊢;obtain⟨g6,F5⟩:=y14 (w1.heap.size+1);rw[<-F5] at f6⊢;obtain⟨g4,hg4⟩:=y14 (w1.heap.size);rw[<-hg4] at f4⊢)
   |(obtain⟨w5,B8⟩:=y14 (World.drew ((((w1.alloc O0).alloc O2).alloc O4).alloc O1));rw[<-B8];obtain⟨f4,f6,f7,f5,en⟩:=four B8;obtain⟨g5,D4⟩:=y14 (w1.heap.size+1+1+1);rw[<-D4] at f5⊢;obtain⟨g7,F4⟩:=y14 (w1.heap.size+1+1);rw[<-F4] at f7⊢;obtain⟨g6,F5⟩:=y14 (w1.heap.size+1);rw[<-F5] at f6⊢;obtain⟨g4,hg4⟩:=y14 (w1.heap.size);rw[<-hg4] at f4⊢)
   |(obtain⟨w5,B8⟩:=y14 (World.drew ((((w1.alloc O0).alloc O4).alloc O1).alloc O2));rw[<-B8];obtain⟨f4,f7,f5,f6,en⟩:=four B8;obtain⟨g6,F5⟩:=y14 (w1.heap.size+1+1+1);rw[<-F5] at f6⊢;obtain⟨g5,D4⟩:=y14 (w1.heap.size+1+1);rw[<-D4] at f5⊢;obtain⟨g7,F4⟩:=y14 (w1.heap.size+1);rw[<-F4] at f7⊢;obtain⟨g4,hg4⟩:=y14 (w1.heap.size);rw[<-hg4] at f4⊢)
   |(obtain⟨w5,B8⟩:=y14 (World.drew ((((w1.alloc O0).alloc O4).alloc O2).alloc O1));rw[<-B8];obtain⟨f4,f7,f6,f5,en⟩:=four B8;obtain⟨g5,D4⟩:=y14 (w1.heap.size+1+1+1);rw[<-D4] at f5⊢;obtain⟨g6,F5⟩:=y14 (w1.heap.size+1+1);rw[<-F5] at f6⊢;obtain⟨g7,F4⟩:=y14 (w1.heap.size+1);rw[<-F4] at f7⊢;obtain⟨g4,hg4⟩:=y14 (w1.heap.size);rw[<-hg4] at f4⊢)
   |(obtain⟨w5,B8⟩:=y14 (World.drew ((((w1.alloc O1).alloc O0).alloc O2).alloc O4));rw[<-B8];obtain⟨f5,f4,f6,f7,en⟩:=four B8;obtain⟨g7,F4⟩:=y14 (w1.heap.size+1+1+1);rw[<-F4] at f7⊢;obtain⟨g6,F5⟩:=y14 (w1.heap.size+1+1);rw[<-F5] at f6⊢;obtain⟨g4,hg4⟩:=y14 (w1.heap.size+1);rw[<-hg4] at f4⊢;obtain⟨g5,D4⟩:=y14 (w1.heap.size);rw[<-D4] at f5⊢)
   |(obtain⟨w5,B8⟩:=y14 (World.drew ((((w1.alloc O1).alloc O0).alloc O4).alloc O2));rw[<-B8];obtain⟨f5,f4,f7,f6,en⟩:=four B8;obtain⟨g6,F5⟩:=y14 (w1.heap.size+1+1+1);rw[<-F5] at f6⊢;obtain⟨g7,F4⟩:=y14 (w1.heap.size+1+1);rw[<-F4] at f7⊢;obtain⟨g4,hg4⟩:=y14 (w1.heap.size+1);rw[<-hg4] at f4⊢;obtain⟨g5,D4⟩:=y14 (w1.heap.size);rw[<-D4] at f5⊢)
   |(obtain⟨w5,B8⟩:=y14 (World.drew ((((w1.alloc O1).alloc O2).alloc O0).alloc O4));rw[<-B8];obtain⟨f5,f6,f4,f7,en⟩:=four B8;obtain⟨g7,F4⟩:=y14 (w1.heap.size+1+1+1);rw[<-F4] at f7⊢;obtain⟨g4,hg4⟩:=y14 (w1.heap.size+1+1);rw[<-hg4] at f4⊢;obtain⟨g6,F5⟩:=y14 (w1.heap.size+1);rw[<-F5] at f6⊢;obtain⟨g5,D4⟩:=y14 (w1.heap.size);rw[<-D4] at f5⊢)
   |(obtain⟨w5,B8⟩:=y14 (World.drew ((((w1.alloc O1).alloc O2).alloc O4).alloc O0));rw[<-B8];obtain⟨f5,f6,f7,f4,en⟩:=four B8;obtain⟨g4,hg4⟩:=y14 (w1.heap.size+1+1+1);rw[<-hg4] at f4⊢;obtain⟨g7,F4⟩:=y14 (w1.heap.size+1+1);rw[<-F4] at f7⊢;obtain⟨g6,F5⟩:=y14 (w1.heap.size+1);rw[<-F5] at f6⊢;obtain⟨g5,D4⟩:=y14 (w1.heap.size);rw[<-D4] at f5⊢)
   |(obtain⟨w5,B8⟩:=y14 (World.drew ((((w1.alloc O1).alloc O4).alloc O0).alloc O2));rw[<-B8];obtain⟨f5,f7,f4,f6,en⟩:=four B8;obtain⟨g6,F5⟩:=y14 (w1.heap.size+1+1+1);rw[<-F5] at f6⊢;obtain⟨g4,hg4⟩:=y14 (w1.heap.size+1+1);rw[<-hg4] at f4⊢;obtain⟨g7,F4⟩:=y14 (w1.heap.size+1);rw[<-F4] at f7⊢;obtain⟨g5,D4⟩:=y14 (w1.heap.size);rw[<-D4] at f5⊢)
   |(obtain⟨w5,B8⟩:=y14 (World.drew ((((w1.alloc O1).alloc O4).alloc O2).alloc O0));rw[<-B8];obtain⟨f5,f7,f6,f4,en⟩:=four B8;obtain⟨g4,hg4⟩:=y14 (w1.heap.size+1+1+1);rw[<-hg4] at f4⊢;obtain⟨g6,F5⟩:=y14 (w1.heap.size+1+1);rw[<-F5] at f6⊢;obtain⟨g7,F4⟩:=y14 (w1.heap.size+1);rw[<-F4] at f7⊢;obtain⟨g5,D4⟩:=y14 (w1.heap.size);rw[<-D4] at f5⊢)
   |(obtain⟨w5,B8⟩:=y14 (World.drew ((((w1.alloc O2).alloc O0).alloc O1).alloc O4));rw[<-B8];obtain⟨f6,f4,f5,f7,en⟩:=four B8;obtain⟨g7,F4⟩:=y14 (w1.heap.size+1+1+1);rw[<-F4] at f7⊢;obtain⟨g5,D4⟩:=y14 (w1.heap.size+1+1);rw[<-D4] at f5⊢;obtain⟨g4,hg4⟩:=y14 (w1.heap.size+1);rw[<-hg4] at f4⊢;obtain⟨g6,F5⟩:=y14 (w1.heap.size);rw[<-F5] at f6⊢)
   |(obtain⟨w5,B8⟩:=y14 (World.drew ((((w1.alloc O2).alloc O0).alloc O4).alloc O1));rw[<-B8];obtain⟨f6,f4,f7,f5,en⟩:=four B8;obtain⟨g5,D4⟩:=y14 (w1.heap.size+1+1+1);rw[<-D4] at f5⊢;obtain⟨g7,F4⟩:=y14 (w1.heap.size+1+1);rw[<-F4] at f7⊢;obtain⟨g4,hg4⟩:=y14 (w1.heap.size+1);rw[<-hg4] at f4⊢;obtain⟨g6,F5⟩:=y14 (w1.heap.size);rw[<-F5] at f6⊢)
   |(obtain⟨w5,B8⟩:=y14 (World.drew ((((w1.alloc O2).alloc O1).alloc O0).alloc O4));rw[<-B8];obtain⟨f6,f5,f4,f7,en⟩:=four B8;obtain⟨g7,F4⟩:=y14 (w1.heap.size+1+1+1);rw[<-F4] at f7⊢;obtain⟨g4,hg4⟩:=y14 (w1.heap.size+1+1);rw[<-hg4] at f4⊢;obtain⟨g5,D4⟩:=y14 (w1.heap.size+1);rw[<-D4] at f5⊢;obtain⟨g6,F5⟩:=y14 (w1.heap.size);rw[<-F5] at f6⊢)
   |(obtain⟨w5,B8⟩:=y14 (World.drew ((((w1.alloc O2).alloc O1).alloc O4).alloc O0));rw[<-B8];obtain⟨f6,f5,f7,f4,en⟩:=four B8;obtain⟨g4,hg4⟩:=y14 (w1.heap.size+1+1+1);rw[<-hg4] at f4⊢;obtain⟨g7,F4⟩:=y14 (w1.heap.size+1+1);rw[<-F4] at f7⊢;obtain⟨g5,D4⟩:=y14 (w1.heap.size+1);rw[<-D4] at f5⊢;obtain⟨g6,F5⟩:=y14 (w1.heap.size);rw[<-F5] at f6⊢)
   |(obtain⟨w5,B8⟩:=y14 (World.drew ((((w1.alloc O2).alloc O4).alloc O0).alloc O1));rw[<-B8];obtain⟨f6,f7,f4,f5,en⟩:=four B8;obtain⟨g5,D4⟩:=y14 (w1.heap.size+1+1+1);rw[<-D4] at f5⊢;obtain⟨g4,hg4⟩:=y14 (w1.heap.size+1+1);rw[<-hg4] at f4⊢;obtain⟨g7,F4⟩:=y14 (w1.heap.size+1);rw[<-F4] at f7⊢;obtain⟨g6,F5⟩:=y14 (w1.heap.size);rw[<-F5] at f6⊢)
   |(obtain⟨w5,B8⟩:=y14 (World.drew ((((w1.alloc O2).alloc O4).alloc O1).alloc O0));rw[<-B8];obtain⟨f6,f7,f5,f4,en⟩:=four B8;obtain⟨g4,hg4⟩:=y14 (w1.heap.size+1+1+1);rw[<-hg4] at f4⊢;obtain⟨g5,D4⟩:=y14 (w1.heap.size+1+1);rw[<-D4] at f5⊢;obtain⟨g7,F4⟩:=y14 (w1.heap.size+1);rw[<-F4] at f7⊢;obtain⟨g6,F5⟩:=y14 (w1.heap.size);rw[<-F5] at f6⊢)
   |(obtain⟨w5,B8⟩:=y14 (World.drew ((((w1.alloc O4).alloc O0).alloc O1).alloc O2));rw[<-B8];obtain⟨f7,f4,f5,f6,en⟩:=four B8;obtain⟨g6,F5⟩:=y14 (w1.heap.size+1+1+1);rw[<-F5] at f6⊢;obtain⟨g5,D4⟩:=y14 (w1.heap.size+1+1);rw[<-D4] at f5⊢;obtain⟨g4,hg4⟩:=y14 (w1.heap.size+1);rw[<-hg4] at f4⊢;obtain⟨g7,F4⟩:=y14 (w1.heap.size);rw[<-F4] at f7⊢)
   |(obtain⟨w5,B8⟩:=y14 (World.drew ((((w1.alloc O4).alloc O0).alloc O2).alloc O1));rw[<-B8];obtain⟨f7,f4,f6,f5,en⟩:=four B8;obtain⟨g5,D4⟩:=y14 (w1.heap.size+1+1+1);rw[<-D4] at f5⊢;obtain⟨g6,F5⟩:=y14 (w1.heap.size+1+1);rw[<-F5] at f6⊢;obtain⟨g4,hg4⟩:=y14 (w1.heap.size+1);rw[<-hg4] at f4⊢;obtain⟨g7,F4⟩:=y14 (w1.heap.size);rw[<-F4] at f7⊢)
   |(obtain⟨w5,B8⟩:=y14 (World.drew ((((w1.alloc O4).alloc O1).alloc O0).alloc O2));rw[<-B8];obtain⟨f7,f5,f4,f6,en⟩:=four B8;obtain⟨g6,F5⟩:=y14 (w1.heap.size+1+1+1);rw[<-F5] at f6⊢;obtain⟨g4,hg4⟩:=y14 (w1.heap.size+1+1);rw[<-hg4] at f4⊢;obtain⟨g5,D4⟩:=y14 (w1.heap.size+1);rw[<-D4] at f5⊢;obtain⟨g7,F4⟩:=y14 (w1.heap.size);rw[<-F4] at f7⊢)
   |(obtain⟨w5,B8⟩:=y14 (World.drew ((((w1.alloc O4).alloc O1).alloc O2).alloc O0));rw[<-B8];obtain⟨f7,f5,f6,f4,en⟩:=four B8;obtain⟨g4,hg4⟩:=y14 (w1.heap.size+1+1+1);rw[<-hg4] at f4⊢;obtain⟨g6,F5⟩:=y14 (w1.heap.size+1+1);rw[<-F5] at f6⊢;obtain⟨g5,D4⟩:=y14 (w1.heap.size+1);rw[<-D4] at f5⊢;obtain⟨g7,F4⟩:=y14 (w1.heap.size);rw[<-F4] at f7⊢)
   |(obtain⟨w5,B8⟩:=y14 (World.drew ((((w1.alloc O4).alloc O2).alloc O0).alloc O1));rw[<-B8];obtain⟨f7,f6,f4,f5,en⟩:=four B8;obtain⟨g5,D4⟩:=y14 (w1.heap.size+1+1+1);rw[<-D4] at f5⊢;obtain⟨g4,hg4⟩:=y14 (w1.heap.size+1+1);rw[<-hg4] at f4⊢;obtain⟨g6,F5⟩:=y14 (w1.heap.size+1);rw[<-F5] at f6⊢;obtain⟨g7,F4⟩:=y14 (w1.heap.size);rw[<-F4] at f7⊢)
   |(obtain⟨w5,B8⟩:=y14 (World.drew ((((w1.alloc O4).alloc O2).alloc O1).alloc O0));rw[<-B8];obtain⟨f7,f6,f5,f4,en⟩:=four B8;obtain⟨g4,hg4⟩:=y14 (w1.heap.size+1+1+1);rw[<-hg4] at f4⊢;obtain⟨g5,D4⟩:=y14 (w1.heap.size+1+1);rw[<-D4] at f5⊢;obtain⟨g6,F5⟩:=y14 (w1.heap.size+1);rw[<-F5] at f6⊢;obtain⟨g7,F4⟩:=y14 (w1.heap.size);rw[<-F4] at f7⊢))
  all_goals(clear B8;have l4:w1.heap.size<=g4:=(by omega);have l5:w1.heap.size<=g5:=(by omega);have l6:w1.heap.size<=g6:=(by omega);have l7:w1.heap.size<=g7:=(by omega);clear hg4 D4 F5 F4;subst jg Dt M4 S8)
  all_goals rename_i xw
  all_goals clear xw
  all_goals revert f7
  all_goals revert f6
  all_goals revert f5
  all_goals revert f4
  all_goals revert en
  all_goals revert l7
  all_goals revert l6
  all_goals revert l5
  all_goals revert l4
  all_goals revert g7
  all_goals revert g6
  all_goals revert g5
  all_goals revert g4
  all_goals revert w5
  all_goals exact REST.out
 case k=>
  intro w5 g4 g5 g6 g7 l4 l5 l6 l7 en f4 f5 f6 f7;clear HC;obtain⟨y40,y41,y42,-,-,-⟩:=own3 f4;obtain⟨y50,y51,y52,-,-,-⟩:=own3 f5;obtain⟨y60,y61,y62,-,-,-⟩:=own3 f6;obtain⟨y70,y71,y72,-,-,-⟩:=own3 f7;have Ov:=en.blk B7;have hs5:=en.size;have HC:=hdq (show∀w':World,(∀y,y < w5.heap.size->y≠w.heap.size+1->w'.heap[y]? =w5.heap[y]?)->w'.cell? ⟨g4,0,none⟩=some (.int .i64 k0)/\w'.cell? ⟨g4,1,none⟩=some (.int .i64 n0)/\w'.cell? ⟨g4,2,none⟩=some (.slice A0 i6.length C7)/\w'.cell? ⟨g5,0,none⟩=some (.int .i64 k1)/\w'.cell? ⟨g5,1,none⟩=some (.int .i64 n1)/\w'.cell? ⟨g5,2,none⟩=some (.slice A1 j9.length I0)/\w'.cell? ⟨g6,0,none⟩=some (.int .i64 k2)/\w'.cell? ⟨g6,1,none⟩=some (.int .i64 n2)/\w'.cell? ⟨g6,2,none⟩=some (.slice A2 l8.length M3)/\w'.cell? ⟨g7,0,none⟩=some (.int .i64 k4)/\w'.cell? ⟨g7,1,none⟩=some (.int .i64 n4)/\w'.cell? ⟨g7,2,none⟩=some (.slice A4 C3.length bc) from fun w' hw=> by
   have f: ∀(q j:Nat) (x:Value),q < w5.heap.size->q≠w.heap.size+1->w5.cell? ⟨q,j,none⟩=some x->w'.cell? ⟨q,j,none⟩=some x:=fun q j x h1 h2 h3=>(World.cell?_of_block (a:=⟨q,j,none⟩) (hw q h1 h2)).trans h3
   exact⟨f _ _ _ (j10 f4) (by omega) y40,f _ _ _ (j10 f4) (by omega) y41,f _ _ _ (j10 f4) (by omega) y42,f _ _ _ (j10 f5) (by omega) y50,f _ _ _ (j10 f5) (by omega) y51,f _ _ _ (j10 f5) (by omega) y52,f _ _ _ (j10 f6) (by omega) y60,f _ _ _ (j10 f6) (by omega) y61,f _ _ _ (j10 f6) (by omega) y62,f _ _ _ (j10 f7) (by omega) y70,f _ _ _ (j10 f7) (by omega) y71,f _ _ _ (j10 f7) (by omega) y72⟩)
  have X5:Ext w5 w5.drew:=(xr w5).drew;have Hl:=hdq (fun W (h:Ext w5 W)=> L0.ext (en.trans h));have Ku:=hdq (fun W (h:Ext w5 W)=> L1.ext (en.trans h));have ql:=hdq (fun W (h:Ext w5 W)=> L2.ext (en.trans h));have HL4:=hdq (fun W (h:Ext w5 W)=> L4.ext (en.trans h));have HE5:=hdq (p8.trans en);clear y40 y41 y42 y50 y51 y52 y60 y61 y62 y70 y71 y72 L0 L1 L2 L4 f4 f5 f6 f7 B7;go_wp2_with fail
  go_region_held3 (fun w'=> w'.cell? ⟨g4,0,none⟩=some (.int .i64 k0)/\w'.cell? ⟨g4,1,none⟩=some (.int .i64 n0)/\w'.cell? ⟨g4,2,none⟩=some (.slice A0 i6.length C7)/\w'.cell? ⟨g5,0,none⟩=some (.int .i64 k1)/\w'.cell? ⟨g5,1,none⟩=some (.int .i64 n1)/\w'.cell? ⟨g5,2,none⟩=some (.slice A1 j9.length I0)/\w'.cell? ⟨g6,0,none⟩=some (.int .i64 k2)/\w'.cell? ⟨g6,1,none⟩=some (.int .i64 n2)/\w'.cell? ⟨g6,2,none⟩=some (.slice A2 l8.length M3)/\w'.cell? ⟨g7,0,none⟩=some (.int .i64 k4)/\w'.cell? ⟨g7,1,none⟩=some (.int .i64 n4)/\w'.cell? ⟨g7,2,none⟩=some (.slice A4 C3.length bc))
   (first|exact HC.out _ (fun y h1 h2=> by rw[Below.heap_setCell _ _ _ _ h2,Below.heap_setCell _ _ _ _ h2,Below.heap_setCell _ _ _ _ h2];exact Gn.heap y h1) |exact HC.out _ (fun y h1 _=> by with_reducible exact Ext.heap (Gn) y h1) |exact HC.out _ (fun y h1 _=> by with_reducible exact Ext.heap (X10) y h1) |exact HC.out _ (fun y h1 _=> by with_reducible exact Ext.heap (X9) y h1) |exact HC.out _ (fun y h1 _=> by with_reducible exact Ext.heap (X8.alloc _) y h1) |exact HC.out _ (fun y h1 _=> by with_reducible exact Ext.heap (X8) y h1) |exact HC.out _ (fun y h1 _=> by with_reducible exact Ext.heap (X7.alloc _) y h1) |exact HC.out _ (fun y h1 _=> by with_reducible exact Ext.heap (X7) y h1) |exact HC.out _ (fun y h1 _=> by with_reducible exact Ext.heap ((X5.alloc _).alloc _) y h1) |exact HC.out _ (fun y h1 _=> by with_reducible exact Ext.heap (X5.alloc _) y h1) |exact HC.out _ (fun y h1 _=> by with_reducible exact Ext.heap (X5) y h1) |exact HC.out _ (fun y h1 _=> by with_reducible exact Ext.heap (((xr w5).alloc _).drew) y h1) |exact HC.out _ (fun y h1 _=> by with_reducible exact Ext.heap ((((xr w5).alloc _).alloc _).drew) y h1))
   (first|(go_at_call 110;refine(q41 Lp).mono ?_;rintro e w11 ⟨a1,a2,a3,a4,a5,rfl,hM,h11⟩;have Gn:Ext w5 w11:=X10.trans h11;obtain⟨s0,s1,s2,f0,f1,f2⟩:=own3 (Gn.blk Ov)) |(go_at_call 60;refine(q57 TT _ _ (by rw[V1.out];exact Ls) (by omega)).mono ?_;rintro e zw ⟨uo,rfl,Lp,h10⟩;obtain⟨o1,o2,o3,o4,o5,rfl⟩:=Lp.three';have X10:Ext w5 zw:=X9.trans h10) |(go_at_call 71;(with_reducible show Calls _ _ #[.int .i64 5,.slice _ 2 _] _ _);refine(node2L (Lies.ext hM7 (X78.alloc _)) (Lies.ext Qy ((xr w8).alloc _)) (heap_alloc_new w8 _)).mono ?_;rintro e w9 ⟨p31,p32,p33,p34,p35,rfl,Ls,h9⟩;have X9:Ext w5 w9:=(X8.alloc _).trans h9) |(go_at_call 71;(with_reducible show Calls _ _ #[.int .i64 9,.slice _ 4 _] _ _);refine(node4L (t1:= .mk k0 n0 i6) (t2:= .mk k1 n1 j9) (t3:= .mk k2 n2 l8) (t4:= .mk k4 n4 C3) (Hl.out _ (by with_reducible (first|exact X7|exact X7.alloc _|exact(X7.alloc _).alloc _|exact((xr w5).alloc _).drew|exact(((xr w5).alloc _).alloc _).drew))) (Ku.out _ (by with_reducible (first|exact X7|exact X7.alloc _|exact(X7.alloc _).alloc _|exact((xr w5).alloc _).drew|exact(((xr w5).alloc _).alloc _).drew))) (ql.out _ (by with_reducible (first|exact X7|exact X7.alloc _|exact(X7.alloc _).alloc _|exact((xr w5).alloc _).drew|exact(((xr w5).alloc _).alloc _).drew))) (HL4.out _ (by with_reducible (first|exact X7|exact X7.alloc _|exact(X7.alloc _).alloc _|exact((xr w5).alloc _).drew|exact(((xr w5).alloc _).alloc _).drew))) (by first|(with_reducible exact(q17 (by first|rfl|simp))) |(with_reducible exact((xr _).alloc _).blk (q17 (by first|rfl|simp))) |(with_reducible exact(xr _).drew.blk (q17 (by first|rfl|simp))) |(with_reducible exact(((xr _).alloc _).drew).blk (q17 (by first|rfl|simp))) |(with_reducible exact Ext.blk h7 ((q17 (by first|rfl|simp)))) |(with_reducible exact Ext.blk h7 (((xr _).alloc _).blk (q17 (by first|rfl|simp)))) |(with_reducible exact Ext.blk h7 ((xr _).drew.blk (q17 (by first|rfl|simp)))) |(with_reducible exact Ext.blk h7 ((((xr _).alloc _).drew).blk (q17 (by first|rfl|simp)))))).mono ?_;rintro e w8 ⟨Wq,Uo,Wu,Wl,p25,rfl,Qy,h8⟩;have X78:Ext w7 w8:=(by with_reducible (first|exact h8|exact((xr _).alloc _).trans h8));have X8:Ext w5 w8:=X7.trans X78) |(go_at_call 71;(with_reducible show Calls _ _ #[.int .i64 5,.slice _ 2 _] _ _);refine(node2L (t1:= .mk k2 n2 l8) (t2:= .mk k4 n4 C3) (ql.out _ (by with_reducible (first|exact X5|exact X5.alloc _|exact(X5.alloc _).alloc _|exact((xr w5).alloc _).drew|exact(((xr w5).alloc _).alloc _).drew))) (HL4.out _ (by with_reducible (first|exact X5|exact X5.alloc _|exact(X5.alloc _).alloc _|exact((xr w5).alloc _).drew|exact(((xr w5).alloc _).alloc _).drew))) (by first|(with_reducible exact(q17 (by first|rfl|simp))) |(with_reducible exact((xr _).alloc _).blk (q17 (by first|rfl|simp))) |(with_reducible exact(xr _).drew.blk (q17 (by first|rfl|simp))) |(with_reducible exact(((xr _).alloc _).drew).blk (q17 (by first|rfl|simp))))).mono ?_;rintro e w7 ⟨Ux,Un,Vb,Xh,Xg,rfl,hM7,h7⟩;have X7:Ext w5 w7:=Ext.trans (by with_reducible (first|exact X5|exact X5.alloc _|exact(X5.alloc _).alloc _|exact((xr w5).alloc _).drew|exact(((xr w5).alloc _).alloc _).drew)) h7))
  all_goals(
   have hE:=HE5.out.trans Gn;have t9:=X9.size;have Ch:w1.heap.size<=w9.heap.size:=by omega
   have HM:=hdq (Made.since hM (a:=w) (by have:=p8.size;omega));clear hM7 Qy Ls Lp HC Ov X78 h7 h8 h9 h10 h11;go_wp2_with fail;refine bodyPost_ret (v:= .tuple #[.agg #[.int .i64 a1,.int .i64 a2,.slice a3 a4 a5],.bool (valid sigT TT)]) (by simp[results,Tryz.results108,go_sem,s0,s1,s2]) rfl ⟨_,rfl,Made.since (hM.after ((((y25.refl _ _).setCell (p:=⟨w.heap.size+1,0,none⟩) (by show w.heap.size+1 < _;omega) (.int .i64 a1)).setCell (p:=⟨w.heap.size+1,1,none⟩) (by show w.heap.size+1 < _;omega) (.int .i64 a2)).setCell (p:=⟨w.heap.size+1,2,none⟩) (by show w.heap.size+1 < _;omega) (.slice a3 a4 a5))) (by have:=p8.size;omega),(((hE.setCell (p:=⟨w.heap.size+1,0,none⟩) (by show w.heap.size<=w.heap.size+1;omega) _).setCell (p:=⟨w.heap.size+1,1,none⟩) (by show w.heap.size<=w.heap.size+1;omega) _).setCell (p:=⟨w.heap.size+1,2,none⟩) (by show w.heap.size<=w.heap.size+1;omega) _)⟩)
end Go.Proofs.YtbnkbepgmenblaaGreat
namespace Go.Proofs.YtbnkbepgmenblaaGreat
open Go.RowKit
attribute [local go_sem ↓] Go.wp_at_zero Go.wp_at_succ
def L8PutC(p:List Int):Prop:= ∀(t u:Tr) (d:Int),shape sigT t d=true->(atT t p).isSome=true-> ∀(w:World) (vt vu:Value),Lies w t vt->Lies w u vu-> ∀(A:Option Addr) (n cap:Nat),PFs w A n cap p->n<=1000->cnt t<=1000000->cnt u<=1000000->
 Calls Tryz.prog 56 #[vt,.slice A n cap,vu] w fun e w'=> ∃x,e= .returned x/\From w.heap.size w' (putA t p u) x/\Ext w w'
theorem j185: ∀p:List Int,L8PutC p:=fun p=> by
 induction p with
 |nil=>
  intro t u d hsh hat w vt vu hT hU A n cap hp az I1 Ex;obtain⟨k,nn,ks⟩:=t;obtain⟨At,ct,rfl,hlt,p6,tk⟩:=Lies.mk_iff.1 hT;have Hf:=hU;obtain⟨d1,d2,d3,d4,d5,rfl⟩:=InT.three hU;have ah:n=0:=hp.hn.symm;subst ah;have hx0:=(((xr w).alloc (.cells #[.int .i64 k,.int .i64 nn,.slice At ks.length ct] 25)).alloc (.cells #[.int .i64 d1,.int .i64 d2,.slice d3 d4 d5] 25)).alloc (.cells #[.int .i64 0,.int .i64 0,.slice none 0 0] 25);obtain⟨hb0,Br,hbr,hs2⟩:=blk3 (xr (((w.alloc (.cells #[.int .i64 k,.int .i64 nn,.slice At ks.length ct] 25)).alloc (.cells #[.int .i64 d1,.int .i64 d2,.slice d3 d4 d5] 25)).alloc (.cells #[.int .i64 0,.int .i64 0,.slice none 0 0] 25)));go_enter Tryz.func56,Tryz.ntmps56;go_wp2_with fail;generalize World.alloc (World.alloc (World.alloc w _) _) _=wS at hx0 hb0 Br hbr hs2⊢;refine(j29 u _ _ (Hf.ext hx0) (by omega)).mono ?_;rintro e w6 ⟨xo,rfl,Wi,h6⟩;obtain⟨o1,o2,o3,o4,o5,rfl⟩:=Wi.three;have Nq:=(From.made Wi).since (C:=w.heap.size+3) (by have:=j10 hbr;omega);obtain⟨s0,s1,s2,f0,f1,f2⟩:=own3 (h6.blk hbr);have Bc:=hx0.trans h6;clear hb0 Br hbr;go_wp2_with fail;rw[q71];refine bodyPost_ret (v:= .agg #[.int .i64 o1,.int .i64 o2,.slice o3 o4 o5]) (by simp[results,Tryz.results56,go_sem,s0,s1,s2]) rfl ⟨_,rfl, ?_, ?_⟩
  · exact(((Nq.set (by show w.heap.size+1+1 < w.heap.size+3;omega) _).set (by show w.heap.size+1+1 < w.heap.size+3;omega) _).set (by show w.heap.size+1+1 < w.heap.size+3;omega) _).since (by omega)
  · exact((Bc.setCell (by show w.heap.size<=w.heap.size+1+1;omega) _).setCell (by show w.heap.size<=w.heap.size+1+1;omega) _).setCell (by show w.heap.size<=w.heap.size+1+1;omega) _
 |cons i r ih=>
  intro t u d hsh hat w vt vu hT hU A n cap hp az I1 Ex;have hT0:=hT;obtain⟨k,nn,ks⟩:=t;obtain⟨At,ct,rfl,hlt,p6,tk⟩:=Lies.mk_iff.1 hT;have Hf:=hU;obtain⟨e1,e2,e3,e4,e5,rfl⟩:=InT.three hU;have ah:n=r.length+1:=by have:=hp.hn;simpa using this.symm
  obtain⟨b1,o1,rfl,cp⟩:=hp.hP.get (xr w) (j:=0) (by simp);simp only[List.getElem_cons_zero,Nat.add_zero] at cp;have hi:0<=i/\i < ks.length:=by
   rw[atT] at hat
   split at hat
   · assumption
   · cases hat
  rw[atT,if_pos hi] at hat;obtain⟨m,rfl⟩:=Int.eq_ofNat_of_zero_le hi.1;have hm:m < ks.length:=by omega
  have Iq:((m:Int)).toNat=m:=by omega
  rw[Iq] at hat;have hput:putA (.mk k nn ks) ((m:Int)::r) u= .mk k nn (ks.set m (putA (kd ks m) r u)):=by rw[putA,Iq]
  rw[hput];obtain⟨b,o,k2,n2,A2,c2,l8,rfl,HK,d0,d1,d2,Z8,U1,hK2,S0,j5⟩:=tk.get (xr w) hm;have E7:kd ks m= .mk k2 n2 l8:=q43 hm HK.out;obtain⟨-,-,-,hsk⟩:=q25 hsh;have lw:=hsk _ j5;have hcm:=y15 j5;have U7:=I1;simp only[cnt] at I1;rw[E7] at hat⊢;have Ob:b < w.heap.size:=World.block_lt_of_cell? _ _ d0;have hb1w:b1 < w.heap.size:=World.block_lt_of_cell? _ _ cp;have hx0:=(((xr w).alloc (.cells #[.int .i64 k,.int .i64 nn,.slice (some ⟨b,o,none⟩) ks.length ct] 25)).alloc (.cells #[.int .i64 e1,.int .i64 e2,.slice e3 e4 e5] 25)).alloc (.cells #[.int .i64 0,.int .i64 0,.slice none 0 0] 25);obtain⟨hb0,Br,hbr,hs2⟩:=blk3 (xr (((w.alloc (.cells #[.int .i64 k,.int .i64 nn,.slice (some ⟨b,o,none⟩) ks.length ct] 25)).alloc (.cells #[.int .i64 e1,.int .i64 e2,.slice e3 e4 e5] 25)).alloc (.cells #[.int .i64 0,.int .i64 0,.slice none 0 0] 25)));have Oi:=hp.tail;have hcpb:n<=cap:=hp.hl;have Jy:cap<=maxLen:=hp.hc;unfold maxLen at Jy;obtain⟨AD,Ih⟩: ∃AD,(if cap=1 then some (⟨b1,o1,none⟩:Addr) else some ⟨b1,o1+1,none⟩)=AD:=⟨_,rfl⟩;rw[Ih] at Oi;have HAD:=hdq Ih;have hnz:((n:Int)==0)=false:=beq_eq_false_iff_ne.2 (by omega);have H':(n==0)=false:=beq_eq_false_iff_ne.2 (by omega);have Kw:(0:Int) <(n:Int):=by omega
  have Lg:(1:Int)<=(n:Int):=by omega
  have hn6:0 < n:=by omega
  have hn7:1<=n:=by omega
  have hn8:1<=cap:=by omega
  have Ou:(1:Int)<=(cap:Int):=by omega
  have hn5:(n:Int)<=(cap:Int):=by omega
  have Ue:(m:Int) <(ks.length:Int):=by omega
  have hm3:(0:Int)<=(m:Int):=by omega
  clear Ih hput hsk Iq hi ah hT hU E7 tk;go_enter Tryz.func56,Tryz.ntmps56;go_wp2_with fail;generalize World.alloc (World.alloc (World.alloc w _) _) _=wS at hx0 hb0 Br hbr hs2⊢;obtain⟨y0,y1,y2,-,-,-⟩:=own3 hb0;obtain⟨v0,v1,v2,-,-,-⟩:=own3 Br;have p0:=hx0.cell cp;have q0:=hx0.cell d0;have q1:=hx0.cell d1;have q2:=hx0.cell d2;have Bz:=hdq (show∀w':World,(∀y,y < wS.heap.size->y≠w.heap.size+1+1->w'.heap[y]? =wS.heap[y]?)->w'.cell? ⟨w.heap.size,0,none⟩=some (.int .i64 k)/\w'.cell? ⟨w.heap.size,1,none⟩=some (.int .i64 nn)/\w'.cell? ⟨w.heap.size,2,none⟩=some (.slice (some ⟨b,o,none⟩) ks.length ct)/\w'.cell? ⟨b1,o1,none⟩=some (.int .i64 m)/\w'.cell? ⟨b,o+m*3,none⟩=some (.int .i64 k2)/\w'.cell? ⟨b,o+m*3+1,none⟩=some (.int .i64 n2)/\w'.cell? ⟨b,o+m*3+2,none⟩=some (.slice A2 l8.length c2)/\w'.cell? ⟨w.heap.size+1,0,none⟩=some (.int .i64 e1)/\w'.cell? ⟨w.heap.size+1,1,none⟩=some (.int .i64 e2)/\w'.cell? ⟨w.heap.size+1,2,none⟩=some (.slice e3 e4 e5) from fun w' hw=> by
   have f: ∀(y j:Nat) (x:Value),y < wS.heap.size->y≠w.heap.size+1+1->wS.cell? ⟨y,j,none⟩=some x->w'.cell? ⟨y,j,none⟩=some x:=fun y j x h1 h2 h3=>(World.cell?_of_block (a:=⟨y,j,none⟩) (hw y h1 h2)).trans h3
   exact⟨f _ _ _ (by omega) (by omega) y0,f _ _ _ (by omega) (by omega) y1,f _ _ _ (by omega) (by omega) y2,f _ _ _ (by omega) (by omega) p0,f _ _ _ (by omega) (by omega) q0,f _ _ _ (by omega) (by omega) q1,f _ _ _ (by omega) (by omega) q2,f _ _ _ (by omega) (by omega) v0,f _ _ _ (by omega) (by omega) v1,f _ _ _ (by omega) (by omega) v2⟩)
  have X0:Ext wS wS.drew:=(xr wS).drew;clear y0 y1 y2 v0 v1 v2 p0 q0 q1 q2
  go_region_held3 (fun w'=> w'.cell? ⟨w.heap.size,0,none⟩=some (.int .i64 k)/\w'.cell? ⟨w.heap.size,1,none⟩=some (.int .i64 nn)/\w'.cell? ⟨w.heap.size,2,none⟩=some (.slice (some ⟨b,o,none⟩) ks.length ct)/\w'.cell? ⟨b1,o1,none⟩=some (.int .i64 m)/\w'.cell? ⟨b,o+m*3,none⟩=some (.int .i64 k2)/\w'.cell? ⟨b,o+m*3+1,none⟩=some (.int .i64 n2)/\w'.cell? ⟨b,o+m*3+2,none⟩=some (.slice A2 l8.length c2)/\w'.cell? ⟨w.heap.size+1,0,none⟩=some (.int .i64 e1)/\w'.cell? ⟨w.heap.size+1,1,none⟩=some (.int .i64 e2)/\w'.cell? ⟨w.heap.size+1,2,none⟩=some (.slice e3 e4 e5))
   (first|exact Bz.out _ (fun y h1 h2=> by rw[Below.heap_setCell _ _ _ _ h2,Below.heap_setCell _ _ _ _ h2,Below.heap_setCell _ _ _ _ h2];exact Wt.heap y h1) |exact Bz.out _ (fun y h1 _=> Wt.heap y h1) |exact Bz.out _ (fun y h1 _=> qj.heap y h1) |exact Bz.out _ (fun y h1 _=> X0.heap y h1))
   (first|(go_at_call 56;(try rw[HAD.out]);refine(ih _ u (d - 1) lw hat wS.drew _ _ (S0.ext (hx0.trans X0)) (Hf.ext (hx0.trans X0)) _ _ _ (Oi.ext (hx0.trans X0)) (by omega) (by omega) (by omega)).mono ?_;rintro e w8 ⟨x,rfl,Ka,ea8⟩;have qj:Ext wS w8:=X0.trans ea8) |(go_at_call 104;refine(q114 k nn ks _ m wS.drew.heap.size w8 _ _ (hT0.ext (hx0.trans qj)) Ka ea8.size hm U7).mono ?_;rintro e w9 ⟨x9,rfl,Dh,ea9⟩;have Wt:Ext wS w9:=qj.trans ea9;have Oa:=Dh;obtain⟨g1,g2,g3,g4,g5,rfl⟩:=Oa.three;clear Oa;obtain⟨s0,s1,s2,f0,f1,f2⟩:=own3 (Wt.blk hbr)))
  have Z0:=Dh.since (C:=w.heap.size+3) (by show w.heap.size+3<=wS.heap.size;omega);have Bc:=hx0.trans Wt;clear hb0 Br hbr Bz X0 qj Ka Dh ea8 ea9;go_wp2_with fail;refine bodyPost_ret (v:= .agg #[.int .i64 g1,.int .i64 g2,.slice g3 g4 g5]) (by simp[results,Tryz.results56,go_sem,s0,s1,s2]) rfl ⟨_,rfl, ?_, ?_⟩
  · exact(((Z0.set (by show w.heap.size+1+1 < w.heap.size+3;omega) _).set (by show w.heap.size+1+1 < w.heap.size+3;omega) _).set (by show w.heap.size+1+1 < w.heap.size+3;omega) _).since (by omega)
  · exact((Bc.setCell (by show w.heap.size<=w.heap.size+1+1;omega) _).setCell (by show w.heap.size<=w.heap.size+1+1;omega) _).setCell (by show w.heap.size<=w.heap.size+1+1;omega) _
end Go.Proofs.YtbnkbepgmenblaaGreat
namespace Go.Proofs.YtbnkbepgmenblaaGreat
open Go.RowKit
abbrev An:=Option (Tr×Int)
def thn(x:An)(f:Tr->An):An:=match x with
 |none=> none
 |some (s,c)=> if c=0 then f s else some (q16,c)
def mkV(t:Tr):Tr×Int:=if valid sigT t=true then(t,0) else(q16,2)
def cvtV(a b:Tr):Int:=if q84 a b 200=1 then 0 else if q84 a b 200=2 then 1 else 2
def shpV(t:Tr)(kind:Int):Tr×Int:=if(hnfV t 200).2≠0 then(q16,2) else if(hnfV t 200).1.kind≠kind then(q16,1) else((hnfV t 200).1,0)
def frmV(x:An)(kind:Int):An:=thn x fun s=> some (shpV s kind)
def chkV(x:An)(want:Tr)(y:An):An:=thn x fun s=> if cvtV s want=0 then y else some (q16,cvtV s want)
def natT:Tr:= .mk 6 0 []
def srtT(n:Int):Tr:= .mk 2 n []
def varT(n:Int):Tr:= .mk 1 n []
def stpT(p:Tr):Tr:= .mk 3 0 [natT,.mk 3 0 [.mk 5 0 [shfT 1 p 0,varT 0],.mk 5 0 [shfT 2 p 0,.mk 8 0 [varT 1]]]]
def famV(x:An)(T:Tr)(y:An):An:=thn (frmV x 3) fun s=> if cvtV (kd s.kids 0) T=0 then thn (some (shpV (kd s.kids 1) 2)) fun _=> y else some (q16,cvtV (kd s.kids 0) T)
def arrV(ty:Nat->An):An:=thn (frmV (ty 0) 2) fun a=> thn (frmV (ty 1) 2) fun b=> some (srtT (max a.num b.num),0)
def lamV(inf:Tr->An)(ty:Nat->An)(A:Tr):An:=thn (frmV (ty 0) 2) fun _=> thn (ty 1) fun b=> thn (some (mkV (.mk 3 0 [A,b]))) fun out=> thn (inf out) fun _=> some (out,0)
def appV(ty:Nat->An)(a:Tr):An:=thn (frmV (ty 0) 3) fun s=> chkV (ty 1) (kd s.kids 0) (some (mkV (sbsT a (kd s.kids 1) 0 0)))
def elmV(ty:Nat->An)(p a:Tr):An:=famV (ty 0) natT (thn (some (mkV (.mk 5 0 [p,.mk 7 0 []]))) fun w=> chkV (ty 1) w (thn (some (mkV (stpT p))) fun w2=> chkV (ty 2) w2 (chkV (ty 3) natT (some (mkV (.mk 5 0 [p,a]))))))
def idnV(ty:Nat->An)(T:Tr):An:=thn (frmV (ty 0) 2) fun s=> chkV (ty 1) T (chkV (ty 2) T (some (srtT s.num,0)))
def rflV(inf:Tr->An)(ty:Nat->An)(a:Tr):An:=thn (ty 0) fun s=> thn (frmV (inf s) 2) fun _=> some (mkV (.mk 10 0 [s,a,a]))
def movV(ty:Nat->An)(p:Tr):An:=thn (frmV (ty 1) 10) fun e=> famV (ty 0) (kd e.kids 0) (thn (some (mkV (.mk 5 0 [p,kd e.kids 1]))) fun w=> chkV (ty 2) w (some (mkV (.mk 5 0 [p,kd e.kids 2]))))
def parV(ty:Nat->An)(T a:Tr):An:=thn (frmV (ty 0) 2) fun _=> thn (some (shpV T 13)) fun s=> chkV (ty 1) (kd s.kids 0) (thn (some (mkV (sbsT a (kd s.kids 1) 0 0))) fun w=> chkV (ty 2) w (some (T,0)))
def prtV(ty:Nat->An)(k:Int)(a:Tr):An:=thn (frmV (ty 0) 13) fun s=> if k=15 then some (kd s.kids 0,0) else some (mkV (sbsT (.mk 15 0 [a]) (kd s.kids 1) 0 0))
def lkV(G:List Tr)(n:Int):Tr×Int:=if(G.length:Int)<=n then(q16,1) else mkV (shfT (n+1) (kd G (G.length - 1 - n.toNat)) 0)
def judV(G:List Tr)(inf:Tr->An)(ty:Nat->An)(k n:Int)(ks:List Tr):An:=
 if k=1 then some (lkV G n)
 else if k=2 then some (if n=3 then(q16,1) else(srtT (n+1),0))
 else if k=6 then some (srtT 0,0)
 else if k=7 then some (natT,0)
 else if k=8 then chkV (ty 0) natT (some (natT,0))
 else if k=3\/k=13 then arrV ty
 else if k=4 then lamV inf ty (kd ks 0)
 else if k=5 then appV ty (kd ks 1)
 else if k=9 then elmV ty (kd ks 0) (kd ks 3)
 else if k=10 then idnV ty (kd ks 0)
 else if k=11 then rflV inf ty (kd ks 0)
 else if k=12 then movV ty (kd ks 0)
 else if k=14 then parV ty (kd ks 0) (kd ks 1)
 else prtV ty k (kd ks 0)
def tyV(inf:List Tr->Tr->An)(G:List Tr)(k:Int)(ks:List Tr)(i:Nat):An:=
 if und k i=0 then inf G (kd ks i) else if 20<=G.length then some (q16,2) else inf (G++ [kd ks 0]) (kd ks i)
def infV:Nat->List Tr->Tr->An
 |0,_,_=> none
 |f+1,G,.mk k n ks=> judV G (infV f G) (tyV (infV f) G k ks) k n ks
theorem y36{x:An}{f:Tr->An}{r:Tr×Int}(h:thn x f=some r):(∃s,x=some (s,0)/\f s=some r)\/ ∃s c,x=some (s,c)/\c≠0/\r=(q16,c):=by
 unfold thn at h;cases x with
 |none=> cases h
 |some y=>
  obtain⟨s,c⟩:=y;simp only at h
  split at h
  · rename_i hc
    subst hc;exact .inl ⟨s,rfl,h⟩
  · rename_i hc
    exact .inr ⟨s,c,rfl,hc,by simpa using h.symm⟩
theorem q18{x:An}{f:Tr->An}{u:Tr}(h:thn x f=some (u,0)): ∃s,x=some (s,0)/\f s=some (u,0):=by
 rcases y36 h with h|⟨s,c,-,hc,h⟩
 · exact h
 · simp only[Prod.mk.injEq] at h
   exact absurd h.2.symm hc
theorem j75{y:Tr×Int}{f:Tr->An}{u:Tr}(h:thn (some y) f=some (u,0)):y.2=0/\f y.1=some (u,0):=by
 obtain⟨s,h1,h2⟩:=q18 h;simp only[Option.some.injEq] at h1;subst h1;exact⟨rfl,h2⟩
theorem q93{t:Tr}(h:(mkV t).2=0):valid sigT t=true/\(mkV t).1=t:=by
 unfold mkV at h⊢
 split at h
 · rename_i hv
   exact⟨hv,by rw[if_pos hv]⟩
 · simp at h
theorem y32{t u:Tr}(h:some (mkV t)=some (u,(0:Int))):valid sigT t=true/\u=t:=by
 have h1:mkV t=(u,0):=by simpa using h
 obtain⟨h2,h3⟩:=q93 (t:=t) (by rw[h1]);rw[h1] at h3;exact⟨h2,h3⟩
theorem y104{t:Tr}{kind:Int}(h:(shpV t kind).2=0):hnfV t 200=((shpV t kind).1,0)/\(shpV t kind).1.kind=kind:=by
 unfold shpV at h⊢
 split at h
 · simp at h
 · rename_i h1
   split at h
   · simp at h
   · rename_i h2
     rw[if_neg h1,if_neg h2];exact⟨by rw[<-show(hnfV t 200).2=0 by simpa using h1],by simpa using h2⟩
theorem y56{x:An}{kind:Int}{s:Tr}(h:frmV x kind=some (s,0)): ∃u,x=some (u,0)/\hnfV u 200=(s,0)/\s.kind=kind:=by
 obtain⟨u,h1,h2⟩:=q18 h;have h3:shpV u kind=(s,0):=by simpa using h2
 obtain⟨h4,h5⟩:=y104 (t:=u) (kind:=kind) (by rw[h3]);rw[h3] at h4 h5;exact⟨u,h1,h4,h5⟩
theorem q42{x y:An}{want u:Tr}(h:chkV x want y=some (u,0)): ∃s,x=some (s,0)/\cvtV s want=0/\y=some (u,0):=by
 obtain⟨s,h1,h2⟩:=q18 h
 split at h2
 · rename_i hc
   exact⟨s,h1,hc,h2⟩
 · rename_i hc
   simp only[Option.some.injEq,Prod.mk.injEq] at h2;exact absurd h2.2 hc
theorem j143{x y:An}{T u:Tr}(h:famV x T y=some (u,0)): ∃F s c,x=some (F,0)/\hnfV F 200=(s,0)/\s.kind=3/\cvtV (kd s.kids 0) T=0/\hnfV (kd s.kids 1) 200=(c,0)/\c.kind=2/\y=some (u,0):=by
 obtain⟨s,h1,h2⟩:=q18 h;obtain⟨F,h3,h4,h5⟩:=y56 h1
 split at h2
 · rename_i hc
   obtain⟨h6,h7⟩:=j75 h2;obtain⟨h8,h9⟩:=y104 h6;exact⟨F,s,_,h3,h4,h5,hc,h8,h9,h7⟩
 · rename_i hc
   simp only[Option.some.injEq,Prod.mk.injEq] at h2;exact absurd h2.2 hc
theorem cvtV_ok{a b:Tr}(h:cvtV a b=0):q84 a b 200=1:=by
 unfold cvtV at h
 split at h
 · assumption
 · split at h <;> simp at h
theorem y63{t x:Tr}(h:valid sigT t=true)(hm:x∈t.kids):valid sigT x=true:=by
 obtain⟨k,n,ks⟩:=t;obtain⟨h1,h2⟩:=y12 h;have h3:=(j12 h1).2.2.2 x hm;unfold valid;rw[q69 h3 (by omega),Bool.true_and,decide_eq_true_eq];have:=y15 hm;simp only[cnt] at h2;simp only[Tr.kids] at this;omega
theorem y48{t:Tr}(h:valid sigT t=true){i:Nat}(hi:i < t.kids.length):valid sigT (kd t.kids i)=true:=y63 h (j68 hi)
end Go.Proofs.YtbnkbepgmenblaaGreat

/-
  Lemmas towards the law, 24: L3Succ, Contracted, MHd.
-/
import Derived.Test.YtbnkbepgmenblaaGreatTAC
import Derived.Test.YtbnkbepgmenblaaGreatTAV
set_option linter.unusedVariables false
set_option maxHeartbeats 16000000
set_option maxRecDepth 100000
namespace Go.Proofs.YtbnkbepgmenblaaGreat
open Go.RowKit
structure KeptL (p:Prop):Prop where
 out:p
theorem onceL{T p:Prop}(h:KeptL T->p)(k:T):p:=h ⟨k⟩
def NewQ(w:World)(t:Tr)(e:Ending)(w':World):Prop:= ∃r,e= .returned r/\InT w' (fun b=> w.heap.size<=b/\b < w'.heap.size) t r/\Ext w w'
def LiesQ(w:World)(t:Tr)(e:Ending)(w':World):Prop:= ∃r,e= .returned r/\Lies w' t r/\Ext w w'
theorem y37(t:Tr)(w:World)(v:Value)(j7:Lies w t v)(hc:cnt t<=1000000):Calls Tryz.prog 67 #[v] w fun e w'=> ∃a1 a2 a3 a4 a5 z y,e= .returned (.agg #[.int .i64 a1,.int .i64 a2,.slice a3 a4 a5])/\InT w' (fun b=> z<=b/\b < y) t (.agg #[.int .i64 a1,.int .i64 a2,.slice a3 a4 a5])/\Ext w w'/\z=w.heap.size/\y=w'.heap.size:=by
 refine(j29 t w v j7 hc).mono ?_;rintro e w' ⟨u,rfl,hM,h⟩;obtain⟨a1,a2,a3,a4,a5,rfl⟩:=hM.three';exact⟨a1,a2,a3,a4,a5,_,_,rfl,hM.inT,h,rfl,rfl⟩
theorem tnode2{w:World}{k:Int}{g:Nat}{t1 t2:Tr}{v0 v1 v2 u0 u1 u2:Value}{S1 S2:Nat->Prop}(h1:InT w S1 t1 (.agg #[v0,v1,v2]))(h2:InT w S2 t2 (.agg #[u0,u1,u2]))(hg:w.heap[g]? =some (.cells #[v0,v1,v2,u0,u1,u2] 25 (0,0))):
 Calls Tryz.prog 75 #[.int .i64 k,.slice (some ⟨g,0,none⟩) 2 2] w fun e w'=> ∃a1 a2 a3 a4 a5 z y,e= .returned (.agg #[.int .i64 a1,.int .i64 a2,.slice a3 a4 a5])/\InT w' (fun b=>(S1 b\/S2 b\/b=g)\/z<=b/\b < y) (.mk k 0 [t1,t2]) (.agg #[.int .i64 a1,.int .i64 a2,.slice a3 a4 a5])/\Ext w w'/\z=w.heap.size/\y=w'.heap.size:=by
 refine(j70 w k (some ⟨g,0,none⟩) 2 [t1,t2] (by intro h;cases h) (fun b=>(S1 b\/S2 b\/b=g)/\b < w.heap.size) (fun b h=> h.2) (InK.two (e:=25) (InT.mono (fun b h=>⟨.inl h.1,h.2⟩) (fun _ _=> rfl) h1.bound) (InT.mono (fun b h=>⟨.inr (.inl h.1),h.2⟩) (fun _ _=> rfl) h2.bound) hg ⟨.inr (.inr rfl),j10 hg⟩) (by simp)).mono ?_;rintro e w' ⟨u,rfl,hM,h⟩;obtain⟨a1,a2,a3,a4,a5,rfl⟩:=InT.three hM;exact⟨_,_,_,_,_,_,_,rfl,InT.mono (fun b hb=> by rcases hb with hb|hb;exact .inl hb.1;exact .inr hb) (fun _ _=> rfl) hM,h,rfl,rfl⟩
theorem tnode4{w:World}{k:Int}{g:Nat}{t1 t2 t3 t4:Tr}{v0 v1 v2 u0 u1 u2 x0 x1 x2 y0 y1 y2:Value}{S1 S2 S3 S4:Nat->Prop}(h1:InT w S1 t1 (.agg #[v0,v1,v2]))(h2:InT w S2 t2 (.agg #[u0,u1,u2]))(h3:InT w S3 t3 (.agg #[x0,x1,x2]))(h4:InT w S4 t4 (.agg #[y0,y1,y2]))(hg:w.heap[g]? =some (.cells #[v0,v1,v2,u0,u1,u2,x0,x1,x2,y0,y1,y2] 25 (0,0))):
 Calls Tryz.prog 75 #[.int .i64 k,.slice (some ⟨g,0,none⟩) 4 4] w fun e w'=> ∃a1 a2 a3 a4 a5 z y,e= .returned (.agg #[.int .i64 a1,.int .i64 a2,.slice a3 a4 a5])/\InT w' (fun b=>(S1 b\/S2 b\/S3 b\/S4 b\/b=g)\/z<=b/\b < y) (.mk k 0 [t1,t2,t3,t4]) (.agg #[.int .i64 a1,.int .i64 a2,.slice a3 a4 a5])/\Ext w w'/\z=w.heap.size/\y=w'.heap.size:=by
 have hK:InK w (fun b=>(S1 b\/S2 b\/S3 b\/S4 b\/b=g)/\b < w.heap.size) (some ⟨g,0,none⟩) [t1,t2,t3,t4]:=by
  refine .inr ⟨g,0,rfl,⟨.inr (.inr (.inr (.inr rfl))),j10 hg⟩, ?_⟩;unfold InL;refine⟨⟨v0,v1,v2,q10 hg 0,q10 hg 1,q10 hg 2,InT.mono (fun b h=>⟨.inl h.1,h.2⟩) (fun _ _=> rfl) h1.bound⟩, ?_⟩;unfold InL;refine⟨⟨u0,u1,u2,q10 hg 3,q10 hg 4,q10 hg 5,InT.mono (fun b h=>⟨.inr (.inl h.1),h.2⟩) (fun _ _=> rfl) h2.bound⟩, ?_⟩;unfold InL;refine⟨⟨x0,x1,x2,q10 hg 6,q10 hg 7,q10 hg 8,InT.mono (fun b h=>⟨.inr (.inr (.inl h.1)),h.2⟩) (fun _ _=> rfl) h3.bound⟩, ?_⟩;unfold InL;refine⟨⟨y0,y1,y2,q10 hg 9,q10 hg 10,q10 hg 11,InT.mono (fun b h=>⟨.inr (.inr (.inr (.inl h.1))),h.2⟩) (fun _ _=> rfl) h4.bound⟩, ?_⟩;unfold InL
  trivial
 refine(j70 w k (some ⟨g,0,none⟩) 4 [t1,t2,t3,t4] (by intro h;cases h) _ (fun b h=> h.2) hK (by simp)).mono ?_;rintro e w' ⟨u,rfl,hM,h⟩;obtain⟨a1,a2,a3,a4,a5,rfl⟩:=InT.three hM;exact⟨_,_,_,_,_,_,_,rfl,InT.mono (fun b hb=> by rcases hb with hb|hb;exact .inl hb.1;exact .inr hb) (fun _ _=> rfl) hM,h,rfl,rfl⟩
theorem l3con_3(n:Int)(ks:List Tr)(hv:valid sigT (.mk 9 n ks)=true)(w:World)(A:Option Addr)(cap:Nat)(j7:Lies w (.mk 9 n ks) (.agg #[.int .i64 9,.int .i64 n,.slice A ks.length cap]))(hK:j26 w A ks)(hl:ks.length<=cap)(hc:cap<=maxLen)(hc3:(kd ks 3).kind=8):
 Calls Tryz.prog 57 #[.agg #[.int .i64 9,.int .i64 n,.slice A ks.length cap]] w (NewQ w (ctr 9 ks)):=by
 obtain⟨hsh,I1⟩:=y12 hv;have j8:opsT 9=(ks.length:Int):=(j12 hsh).1;have p9:ks.length=4:=by have h9:(4:Int)=(ks.length:Int):=j8;omega
 have hsk:=(j12 hsh).2.2.2;have T8: ∀t∈ks,valid sigT t=true:=fun t ht=> by
  have h1:=hsk t ht;have h2:=y15 ht;simp only[cnt] at I1;unfold valid;rw[y28 h1 (by decide),Bool.true_and,decide_eq_true_eq];omega
 have hcc:=hc;unfold maxLen at hcc;have G8:=hdq (fun W (hW:Ext w W)=> q31 (.mk 9 n ks) 30 hsh W _ (j7.ext hW));obtain⟨wb,D9⟩: ∃wb,wb=(w.alloc (.cells #[.int .i64 9,.int .i64 n,.slice A ks.length cap] 25)).alloc (.cells #[.int .i64 0,.int .i64 0,.slice none 0 0] 25):=⟨_,rfl⟩;have hX:Ext w wb:=D9▸((xr w).alloc _).alloc _;have hb0:wb.heap[w.heap.size]? =some (.cells #[.int .i64 9,.int .i64 n,.slice A ks.length cap] 25 (0,0)):=by rw[D9];exact(blk2 (xr _)).1
 have hb1:wb.heap[w.heap.size+1]? =some (.cells #[.int .i64 0,.int .i64 0,.slice none 0 0] 25 (0,0)):=by rw[D9];exact(blk2 (xr _)).2.1
 have hs0:w.heap.size+1 < wb.heap.size:=j10 hb1;have I8:0 < ks.length:=by omega
 have P3:(0:Int) <(ks.length:Int):=by omega
 obtain⟨b0,o0,k0,n0,A0,C7,i6,kx,bm,U0,W9,V0,lp,pj,V5,D3,E4⟩:=hK.get (xr w) I8;simp only[Nat.zero_mul,Nat.add_zero] at U0 W9 V0;have D7:kd ks 0= .mk k0 n0 i6:=q27 I8 bm.out;have J0:1 < ks.length:=by omega
 have ft:(1:Int) <(ks.length:Int):=by omega
 obtain⟨b1,o1,k1,n1,A1,I0,j9,Q7,N0,c10,c11,c12,jk,ir,Q3,D2,u6⟩:=hK.get (xr w) J0;simp only[Nat.one_mul,Nat.add_assoc,Nat.reduceAdd] at c10 c11 c12;have P8:kd ks 1= .mk k1 n1 j9:=q27 J0 N0.out;have I5:2 < ks.length:=by omega
 have S7:(2:Int) <(ks.length:Int):=by omega
 obtain⟨b2,o2,k2,n2,A2,M3,l8,ey,rk,c20,c21,pq,Z8,U1,hK2,S0,P7⟩:=hK.get (xr w) I5;simp only[Nat.reduceMul,Nat.add_assoc,Nat.reduceAdd] at c20 c21 pq;have di:kd ks 2= .mk k2 n2 l8:=q27 I5 rk.out;have J6:3 < ks.length:=by omega
 have Ed:(3:Int) <(ks.length:Int):=by omega
 obtain⟨b3,o3,k3,n3,A3,M2,o7,im,aa,U6,c31,U8,py,iv,hK3,J4,D1⟩:=hK.get (xr w) J6;simp only[Nat.reduceMul,Nat.add_assoc,Nat.reduceAdd] at U6 c31 U8;have F3:kd ks 3= .mk k3 n3 o7:=q27 J6 aa.out;subst kx
 injection Q7 with Q7
 injection Q7 with bw hC1 Vd
 subst bw hC1
 injection ey with ey
 injection ey with si hC2 hD2
 subst si hC2
 injection im with im
 injection im with La zy hD3
 subst La zy;rw[F3] at hc3;have hk8:k3=8:=hc3;subst hk8;have hv3:=T8 _ D1;have ya:opsT 8=(o7.length:Int):=(j12 (y12 hv3).1).1;have Gk:o7.length=1:=by have h9:(1:Int)=(o7.length:Int):=ya;omega
 have ii:0 < o7.length:=by omega
 have hi4:(0:Int) <(o7.length:Int):=by omega
 obtain⟨b4,o4,k4,n4,A4,bc,C3,Xk,Ql,c40,Gg,Jk,Xp,hkc4,hK4,yh,mj⟩:=hK3.get (xr w) ii;simp only[Nat.zero_mul,Nat.add_zero] at c40 Gg Jk;have vg:kd o7 0= .mk k4 n4 C3:=q27 ii Ql.out;subst Xk;have q0:=(y12 (T8 _ E4)).2;have q1:=(y12 (T8 _ u6)).2;have q2:=(y12 (T8 _ P7)).2;have q4:=(y12 hv3).2;have q5:=y15 mj;simp only[cnt] at q4;have p6:ctr 9 ks= .mk 5 0 [.mk 5 0 [.mk k2 n2 l8,.mk k4 n4 C3],.mk 9 0 [.mk k0 n0 i6,.mk k1 n1 j9,.mk k2 n2 l8,.mk k4 n4 C3]]:=by rw[q48 (by rw[F3];rfl),D7,P8,di,F3,show kd (Tr.kids (.mk 8 n3 o7)) 0=_ from vg]
 rw[p6];have N5:rdx 9 ks=3:=by unfold rdx;rw[F3];simp[Tr.kind]
 clear p6;have hrt:rdxT (.mk 9 n ks)=3:=N5;rw[hrt] at G8;clear hrt N5 p9 j8;clear Gk;go_enter Tryz.func57,Tryz.ntmps57;go_wp2_with fail;rw[<-D9];clear D9;refine(G8.out _ hX).mono ?_;rintro e wr ⟨rfl,hr⟩;have p8:=hX.trans hr;have D5:=hr.blk hb0;have B7:=hr.blk hb1;have hs1:w.heap.size+1 < wr.heap.size:=j10 B7;obtain⟨z0,z1,z2,-,-,-⟩:=own3 D5;clear hb0 hb1 G8 hr;have Dl:=p8.cell U8;have d40:=p8.cell c40;have d41:=p8.cell Gg;have d42:=p8.cell Jk;have qp:b0 < w.heap.size:=World.block_lt_of_cell? _ _ U0;obtain⟨wS,G6⟩: ∃x,x=wr.alloc (.cells #[.int .i64 k4,.int .i64 n4,.slice A4 C3.length bc] 25):=⟨_,rfl⟩;have eS:Ext wr wS:=G6▸(xr wr).alloc _;have bS:=heap_alloc_new wr (.cells #[.int .i64 k4,.int .i64 n4,.slice A4 C3.length bc] 25);rw[<-G6] at bS;go_wp2_with fail;rw[<-G6];clear G6;have gm:Ext w wS:=p8.trans eS;have hgS:wr.heap.size < wS.heap.size:=j10 bS;have Ph:=eS.blk B7;have Rk:=eS.blk D5;have nh:w.heap.size+1 < wr.heap.size:=hs1;have hsSa:wr.heap.size+1<=wS.heap.size:=hgS;have C8: ∀W,Ext wS W-> ∀w':World,(∀y,y < wS.heap.size->y≠w.heap.size+1->w'.heap[y]? =W.heap[y]?)->w'.cell? ⟨w.heap.size,2,none⟩=some (.slice (some ⟨b0,o0,none⟩) ks.length cap)/\w'.cell? ⟨b0,o0,none⟩=some (.int .i64 k0)/\w'.cell? ⟨b0,o0+1,none⟩=some (.int .i64 n0)/\w'.cell? ⟨b0,o0+2,none⟩=some (.slice A0 i6.length C7)/\w'.cell? ⟨b0,o0+3,none⟩=some (.int .i64 k1)/\w'.cell? ⟨b0,o0+4,none⟩=some (.int .i64 n1)/\w'.cell? ⟨b0,o0+5,none⟩=some (.slice A1 j9.length I0)/\w'.cell? ⟨b0,o0+6,none⟩=some (.int .i64 k2)/\w'.cell? ⟨b0,o0+7,none⟩=some (.int .i64 n2)/\w'.cell? ⟨b0,o0+8,none⟩=some (.slice A2 l8.length M3)/\w'.cell? ⟨wr.heap.size,0,none⟩=some (.int .i64 k4)/\w'.cell? ⟨wr.heap.size,1,none⟩=some (.int .i64 n4)/\w'.cell? ⟨wr.heap.size,2,none⟩=some (.slice A4 C3.length bc):=by
  intro W hW w' h;have F9: ∀q i v,q < wS.heap.size->q≠w.heap.size+1->wS.cell? ⟨q,i,none⟩=some v->w'.cell? ⟨q,i,none⟩=some v:=fun q i v hq hn hv=>
   (World.cell?_of_block (a:=⟨q,i,none⟩) (h q hq hn)).trans (hW.cell hv)
  exact⟨F9 _ _ _ (by omega) (by omega) (q10 Rk 2),F9 _ _ _ (by omega) (by omega) (gm.cell U0),F9 _ _ _ (by omega) (by omega) (gm.cell W9),F9 _ _ _ (by omega) (by omega) (gm.cell V0),F9 _ _ _ (by omega) (by omega) (gm.cell c10),F9 _ _ _ (by omega) (by omega) (gm.cell c11),F9 _ _ _ (by omega) (by omega) (gm.cell c12),F9 _ _ _ (by omega) (by omega) (gm.cell c20),F9 _ _ _ (by omega) (by omega) (gm.cell c21),F9 _ _ _ (by omega) (by omega) (gm.cell pq),F9 _ _ _ (by omega) (by omega) (q10 bS 0),F9 _ _ _ (by omega) (by omega) (q10 bS 1),F9 _ _ _ (by omega) (by omega) (q10 bS 2)⟩
 have HC:=hdq C8;have D8:Ext wS wS.drew:=(xr wS).drew;have L0:=D3.ext gm;have L1:=D2.ext gm;have L2:=S0.ext gm;have L4:=yh.ext gm;clear C8 bm D7 V5 D3 E4 N0 P8 Q3 D2 u6 rk di hK2 S0 P7 aa F3 hK3 J4 D1 Ql vg hK4 yh mj U0 W9 V0 c10 c11 c12 c20 c21 pq U6 c31 U8 c40 Gg Jk Dl d40 d41 d42 hK j7 ya z0 z1 z2 D5 B7 Rk bS hsk T8 hv hv3 hsh I1 hc3 eS p8 hX hs1;go_wp2_with fail
 apply onceL
 case h=>
  intro REST
  go_region_held3 (fun w'=> w'.cell? ⟨w.heap.size,2,none⟩=some (.slice (some ⟨b0,o0,none⟩) ks.length cap)/\w'.cell? ⟨b0,o0,none⟩=some (.int .i64 k0)/\w'.cell? ⟨b0,o0+1,none⟩=some (.int .i64 n0)/\w'.cell? ⟨b0,o0+2,none⟩=some (.slice A0 i6.length C7)/\w'.cell? ⟨b0,o0+3,none⟩=some (.int .i64 k1)/\w'.cell? ⟨b0,o0+4,none⟩=some (.int .i64 n1)/\w'.cell? ⟨b0,o0+5,none⟩=some (.slice A1 j9.length I0)/\w'.cell? ⟨b0,o0+6,none⟩=some (.int .i64 k2)/\w'.cell? ⟨b0,o0+7,none⟩=some (.int .i64 n2)/\w'.cell? ⟨b0,o0+8,none⟩=some (.slice A2 l8.length M3)/\w'.cell? ⟨wr.heap.size,0,none⟩=some (.int .i64 k4)/\w'.cell? ⟨wr.heap.size,1,none⟩=some (.int .i64 n4)/\w'.cell? ⟨wr.heap.size,2,none⟩=some (.slice A4 C3.length bc))
   (first|exact HC.out _ H5 _ (fun y h1 _=> by rw[Below.heap_setCell _ _ _ _ (fun h9=> by have t1:=H1.size;have t2:=H2.size;have t3:=H3.size;have t4:=H4.size;dsimp only at h9;omega),Below.heap_setCell _ _ _ _ (fun h9=> by have t1:=H1.size;have t2:=H2.size;have t3:=H3.size;have t4:=H4.size;dsimp only at h9;omega),Below.heap_setCell _ _ _ _ (fun h9=> by have t1:=H1.size;have t2:=H2.size;have t3:=H3.size;have t4:=H4.size;dsimp only at h9;omega)]) |exact HC.out _ H5 _ (fun y h1 _=> by with_reducible rfl) |exact HC.out _ (H5.alloc _) _ (fun y h1 _=> by with_reducible rfl) |exact HC.out _ ((H5.alloc _).alloc _) _ (fun y h1 _=> by with_reducible rfl) |exact HC.out _ H4 _ (fun y h1 _=> by with_reducible rfl) |exact HC.out _ (H4.alloc _) _ (fun y h1 _=> by with_reducible rfl) |exact HC.out _ ((H4.alloc _).alloc _) _ (fun y h1 _=> by with_reducible rfl) |exact HC.out _ H3 _ (fun y h1 _=> by with_reducible rfl) |exact HC.out _ (H3.alloc _) _ (fun y h1 _=> by with_reducible rfl) |exact HC.out _ ((H3.alloc _).alloc _) _ (fun y h1 _=> by with_reducible rfl) |exact HC.out _ H2 _ (fun y h1 _=> by with_reducible rfl) |exact HC.out _ (H2.alloc _) _ (fun y h1 _=> by with_reducible rfl) |exact HC.out _ ((H2.alloc _).alloc _) _ (fun y h1 _=> by with_reducible rfl) |exact HC.out _ H1 _ (fun y h1 _=> by with_reducible rfl) |exact HC.out _ (H1.alloc _) _ (fun y h1 _=> by with_reducible rfl) |exact HC.out _ ((H1.alloc _).alloc _) _ (fun y h1 _=> by with_reducible rfl) |exact HC.out _ D8 _ (fun y h1 _=> by with_reducible rfl) |exact HC.out _ (D8.alloc _) _ (fun y h1 _=> by with_reducible rfl) |exact HC.out _ ((xr wS).alloc _).drew _ (fun y h1 _=> by with_reducible rfl))
   (first|(go_at_call_of 67 A0;refine(y37 _ _ _ (L0.ext (by with_reducible (first|exact((xr wS).alloc _).drew|exact D8.alloc _|exact D8))) (by omega)).mono ?_;rintro e w1 ⟨Ux,Un,Vb,Xh,Xg,z1,y1,rfl,hM1,h1,hz1,M8⟩;have H1:Ext wS w1:=Ext.trans (by with_reducible (first|exact((xr wS).alloc _).drew|exact D8.alloc _|exact D8)) h1;(first|(have Ff:Ext (World.alloc (World.drew wS) (.cells #[.int .i64 0,.int .i64 0,.slice none 0 0] 25)) w1:=(by with_reducible exact h1);have Uh:w1.heap[wS.heap.size]? =some (.cells #[.int .i64 0,.int .i64 0,.slice none 0 0] 25 (0,0)):=Ext.blk Ff (heap_alloc_new wS.drew (.cells #[.int .i64 0,.int .i64 0,.slice none 0 0] 25))) |(have Ff:Ext (World.drew (World.alloc wS (.cells #[.int .i64 0,.int .i64 0,.slice none 0 0] 25))) w1:=(by with_reducible exact h1);have Uh:w1.heap[wS.heap.size]? =some (.cells #[.int .i64 0,.int .i64 0,.slice none 0 0] 25 (0,0)):=Ext.blk Ff (heap_alloc_new wS (.cells #[.int .i64 0,.int .i64 0,.slice none 0 0] 25))) |(have Uh:=trivial))) |(go_at_call_of 67 A1;refine(y37 _ _ _ (L1.ext (by with_reducible (first|exact(H1.alloc _).alloc _|exact H1.alloc _|exact H1|exact((xr wS).alloc _).drew|exact D8.alloc _|exact D8))) (by omega)).mono ?_;rintro e w2 ⟨Wq,Uo,Wu,Wl,p25,z2,y2,rfl,V7,h2,hz2,hy2⟩;have H2:Ext wS w2:=Ext.trans (by with_reducible (first|exact(H1.alloc _).alloc _|exact H1.alloc _|exact H1|exact((xr wS).alloc _).drew|exact D8.alloc _|exact D8)) h2;have X2:Ext w1 w2:=(by with_reducible (first|exact h2|exact((xr _).alloc _).trans h2));(first|(have Wb:=Ext.blk h2 Uh) |(have Wb:w2.heap[w1.heap.size]? =some (.cells #[.int .i64 0,.int .i64 0,.slice none 0 0] 25 (0,0)):=(by with_reducible exact Ext.blk h2 (heap_alloc_new w1 (.cells #[.int .i64 0,.int .i64 0,.slice none 0 0] 25)))) |(have Wb:=trivial))) |(go_at_call_of 67 A2;refine(y37 _ _ _ (L2.ext (by with_reducible (first|exact(H2.alloc _).alloc _|exact H2.alloc _|exact H2|exact(H1.alloc _).alloc _|exact H1.alloc _|exact H1|exact((xr wS).alloc _).drew|exact D8.alloc _|exact D8))) (by omega)).mono ?_;rintro e w3 ⟨p31,p32,p33,p34,p35,z3,y3,rfl,Nw,h3,hz3,hy3⟩;have H3:Ext wS w3:=Ext.trans (by with_reducible (first|exact(H2.alloc _).alloc _|exact H2.alloc _|exact H2|exact(H1.alloc _).alloc _|exact H1.alloc _|exact H1|exact((xr wS).alloc _).drew|exact D8.alloc _|exact D8)) h3;have X3:Ext w2 w3:=(by with_reducible (first|exact h3|exact((xr _).alloc _).trans h3));(first|(have Wz:=Ext.blk h3 Wb) |(have Wz:w3.heap[w2.heap.size]? =some (.cells #[.int .i64 0,.int .i64 0,.slice none 0 0] 25 (0,0)):=(by with_reducible exact Ext.blk h3 (heap_alloc_new w2 (.cells #[.int .i64 0,.int .i64 0,.slice none 0 0] 25)))) |(have Wz:=trivial))) |(go_at_call_of 67 A4;refine(y37 _ _ _ (L4.ext (by with_reducible (first|exact(H3.alloc _).alloc _|exact H3.alloc _|exact H3|exact(H2.alloc _).alloc _|exact H2.alloc _|exact H2|exact(H1.alloc _).alloc _|exact H1.alloc _|exact H1|exact((xr wS).alloc _).drew|exact D8.alloc _|exact D8))) (by omega)).mono ?_;rintro e w4 ⟨p41,p42,p43,p44,p45,z4,y4,rfl,Fj,h4,hz4,hy4⟩;have H4:Ext wS w4:=Ext.trans (by with_reducible (first|exact(H3.alloc _).alloc _|exact H3.alloc _|exact H3|exact(H2.alloc _).alloc _|exact H2.alloc _|exact H2|exact(H1.alloc _).alloc _|exact H1.alloc _|exact H1|exact((xr wS).alloc _).drew|exact D8.alloc _|exact D8)) h4;have X4:Ext w3 w4:=(by with_reducible (first|exact h4|exact((xr _).alloc _).trans h4));(first|(have Uw:=Ext.blk h4 Wz) |(have Uw:w4.heap[w3.heap.size]? =some (.cells #[.int .i64 0,.int .i64 0,.slice none 0 0] 25 (0,0)):=(by with_reducible exact Ext.blk h4 (heap_alloc_new w3 (.cells #[.int .i64 0,.int .i64 0,.slice none 0 0] 25)))) |(have Uw:=trivial))) |(go_at_call 75;(with_reducible show Calls _ _ #[.int .i64 9,.slice (some ⟨_,0,none⟩) 4 4] _ _);refine(tnode4 (hM1.later (X2.trans (X3.trans (X4.trans (by with_reducible (first|exact(xr _).alloc _|exact((xr _).alloc _).alloc _)))))) (V7.later (X3.trans (X4.trans (by with_reducible (first|exact(xr _).alloc _|exact((xr _).alloc _).alloc _))))) (Nw.later (X4.trans (by with_reducible (first|exact(xr _).alloc _|exact((xr _).alloc _).alloc _)))) (Fj.later (by with_reducible (first|exact(xr _).alloc _|exact((xr _).alloc _).alloc _))) (by first|(with_reducible exact q40 rfl) |(with_reducible exact q40 (by simp)) |(with_reducible exact((xr _).alloc _).blk (q40 rfl)))).mono ?_;rintro e w5 ⟨q1,q2,q3,q4,q5,z5,y5,rfl,hM5,h5,hz5,hy5⟩;have X5:Ext w4 w5:=Ext.trans (by with_reducible (first|exact(xr _).alloc _|exact((xr _).alloc _).alloc _)) h5;have H5:Ext wS w5:=H4.trans X5;(first|(have ri:=Ext.blk X5 Uw;obtain⟨s0,s1,s2,f0,f1,f2⟩:=own3 ri) |(have ri:w5.heap[w4.heap.size]? =some (.cells #[.int .i64 0,.int .i64 0,.slice none 0 0] 25 (0,0)):=(by with_reducible exact Ext.blk h5 (((xr _).alloc _).blk (heap_alloc_new w4 (.cells #[.int .i64 0,.int .i64 0,.slice none 0 0] 25))));obtain⟨s0,s1,s2,f0,f1,f2⟩:=own3 ri) |(have ri:w5.heap[w4.heap.size+1]? =some (.cells #[.int .i64 0,.int .i64 0,.slice none 0 0] 25 (0,0)):=(by with_reducible exact Ext.blk h5 (q40 (o:=(.cells #[.int .i64 0,.int .i64 0,.slice none 0 0] 25)) (by simp)));obtain⟨s0,s1,s2,f0,f1,f2⟩:=own3 ri) |(have ri:=trivial))))
  all_goals(have t1:=H1.size;have t2:=X2.size;have t3:=X3.size;have t4:=X4.size;have t5:=X5.size;have u1:=h1.size;have u2:=h2.size;have u3:=h3.size;have u4:=h4.size;have u5:=h5.size;(try simp at u1);(try simp at hz1);(try simp at u2);(try simp at hz2);(try simp at u3);(try simp at hz3);(try simp at u4);(try simp at hz4);(try simp at u5);(try simp at hz5);have B5:=hM5.bound)
  all_goals(first
   |(have dt:wS.heap.size<=wS.heap.size:=(by omega);have hne: ∀b,((((z1<=b/\b < y1)\/(z2<=b/\b < y2)\/(z3<=b/\b < y3)\/(z4<=b/\b < y4)\/b=w4.heap.size)\/z5<=b/\b < y5)/\b < w5.heap.size)->b≠wS.heap.size/\wS.heap.size<=b:=(fun b hb=> by omega);obtain⟨w7,F7⟩: ∃x,x=((w5.setCell ⟨wS.heap.size,0,none⟩ (.int .i64 q1)).setCell ⟨wS.heap.size,1,none⟩ (.int .i64 q2)).setCell ⟨wS.heap.size,2,none⟩ (.slice q3 q4 q5):=⟨_,rfl⟩;have en:Ext wS w7:=(by rw[F7];exact((H5.setCell (p:=⟨wS.heap.size,0,none⟩) dt _).setCell (p:=⟨wS.heap.size,1,none⟩) dt _).setCell (p:=⟨wS.heap.size,2,none⟩) dt _);have bn:w7.heap[wS.heap.size]? =some (.cells #[.int .i64 q1,.int .i64 q2,.slice q3 q4 q5] 25 (0,0)):=(by rw[F7];exact j11 (j11 (j11 ri 0 (.int .i64 q1)) 1 (.int .i64 q2)) 2 (.slice q3 q4 q5));have Rn:New wS w7 (.mk 9 0 [.mk k0 n0 i6,.mk k1 n1 j9,.mk k2 n2 l8,.mk k4 n4 C3]) (.agg #[.int .i64 q1,.int .i64 q2,.slice q3 q4 q5]):=(by rw[F7];exact InT.mono (fun b hb=>⟨(hne b hb).2,by simp only[World.size_setCell];exact hb.2⟩) (fun b hb=> by have h9:=(hne b hb).1;rw[Below.heap_setCell _ _ _ _ h9,Below.heap_setCell _ _ _ _ h9,Below.heap_setCell _ _ _ _ h9]) B5);rw[<-F7];clear F7;obtain⟨g5,D4⟩: ∃x,x=wS.heap.size:=⟨_,rfl⟩;rw[<-D4] at bn⊢;have mm:wS.heap.size<=g5:=(by omega);obtain⟨G9,gp⟩: ∃x,x=w4.heap.size:=⟨_,rfl⟩;rw[<-gp];clear D4 gp)
   |(have dt:wS.heap.size<=w1.heap.size:=(by omega);have hne: ∀b,((((z1<=b/\b < y1)\/(z2<=b/\b < y2)\/(z3<=b/\b < y3)\/(z4<=b/\b < y4)\/b=w4.heap.size)\/z5<=b/\b < y5)/\b < w5.heap.size)->b≠w1.heap.size/\wS.heap.size<=b:=(fun b hb=> by omega);obtain⟨w7,F7⟩: ∃x,x=((w5.setCell ⟨w1.heap.size,0,none⟩ (.int .i64 q1)).setCell ⟨w1.heap.size,1,none⟩ (.int .i64 q2)).setCell ⟨w1.heap.size,2,none⟩ (.slice q3 q4 q5):=⟨_,rfl⟩;have en:Ext wS w7:=(by rw[F7];exact((H5.setCell (p:=⟨w1.heap.size,0,none⟩) dt _).setCell (p:=⟨w1.heap.size,1,none⟩) dt _).setCell (p:=⟨w1.heap.size,2,none⟩) dt _);have bn:w7.heap[w1.heap.size]? =some (.cells #[.int .i64 q1,.int .i64 q2,.slice q3 q4 q5] 25 (0,0)):=(by rw[F7];exact j11 (j11 (j11 ri 0 (.int .i64 q1)) 1 (.int .i64 q2)) 2 (.slice q3 q4 q5));have Rn:New wS w7 (.mk 9 0 [.mk k0 n0 i6,.mk k1 n1 j9,.mk k2 n2 l8,.mk k4 n4 C3]) (.agg #[.int .i64 q1,.int .i64 q2,.slice q3 q4 q5]):=(by rw[F7];exact InT.mono (fun b hb=>⟨(hne b hb).2,by simp only[World.size_setCell];exact hb.2⟩) (fun b hb=> by have h9:=(hne b hb).1;rw[Below.heap_setCell _ _ _ _ h9,Below.heap_setCell _ _ _ _ h9,Below.heap_setCell _ _ _ _ h9]) B5);rw[<-F7];clear F7;obtain⟨g5,D4⟩: ∃x,x=w1.heap.size:=⟨_,rfl⟩;rw[<-D4] at bn⊢;have mm:wS.heap.size<=g5:=(by omega);obtain⟨G9,gp⟩: ∃x,x=w4.heap.size:=⟨_,rfl⟩;rw[<-gp];clear D4 gp)
   |(have dt:wS.heap.size<=w2.heap.size:=(by omega);have hne: ∀b,((((z1<=b/\b < y1)\/(z2<=b/\b < y2)\/(z3<=b/\b < y3)\/(z4<=b/\b < y4)\/b=w4.heap.size)\/z5<=b/\b < y5)/\b < w5.heap.size)->b≠w2.heap.size/\wS.heap.size<=b:=(fun b hb=> by omega);obtain⟨w7,F7⟩: ∃x,x=((w5.setCell ⟨w2.heap.size,0,none⟩ (.int .i64 q1)).setCell ⟨w2.heap.size,1,none⟩ (.int .i64 q2)).setCell ⟨w2.heap.size,2,none⟩ (.slice q3 q4 q5):=⟨_,rfl⟩;have en:Ext wS w7:=(by rw[F7];exact((H5.setCell (p:=⟨w2.heap.size,0,none⟩) dt _).setCell (p:=⟨w2.heap.size,1,none⟩) dt _).setCell (p:=⟨w2.heap.size,2,none⟩) dt _);have bn:w7.heap[w2.heap.size]? =some (.cells #[.int .i64 q1,.int .i64 q2,.slice q3 q4 q5] 25 (0,0)):=(by rw[F7];exact j11 (j11 (j11 ri 0 (.int .i64 q1)) 1 (.int .i64 q2)) 2 (.slice q3 q4 q5));have Rn:New wS w7 (.mk 9 0 [.mk k0 n0 i6,.mk k1 n1 j9,.mk k2 n2 l8,.mk k4 n4 C3]) (.agg #[.int .i64 q1,.int .i64 q2,.slice q3 q4 q5]):=(by rw[F7];exact InT.mono (fun b hb=>⟨(hne b hb).2,by simp only[World.size_setCell];exact hb.2⟩) (fun b hb=> by have h9:=(hne b hb).1;rw[Below.heap_setCell _ _ _ _ h9,Below.heap_setCell _ _ _ _ h9,Below.heap_setCell _ _ _ _ h9]) B5);rw[<-F7];clear F7;obtain⟨g5,D4⟩: ∃x,x=w2.heap.size:=⟨_,rfl⟩;rw[<-D4] at bn⊢;have mm:wS.heap.size<=g5:=(by omega);obtain⟨G9,gp⟩: ∃x,x=w4.heap.size:=⟨_,rfl⟩;rw[<-gp];clear D4 gp)
   |(have dt:wS.heap.size<=w3.heap.size:=(by omega);have hne: ∀b,((((z1<=b/\b < y1)\/(z2<=b/\b < y2)\/(z3<=b/\b < y3)\/(z4<=b/\b < y4)\/b=w4.heap.size)\/z5<=b/\b < y5)/\b < w5.heap.size)->b≠w3.heap.size/\wS.heap.size<=b:=(fun b hb=> by omega);obtain⟨w7,F7⟩: ∃x,x=((w5.setCell ⟨w3.heap.size,0,none⟩ (.int .i64 q1)).setCell ⟨w3.heap.size,1,none⟩ (.int .i64 q2)).setCell ⟨w3.heap.size,2,none⟩ (.slice q3 q4 q5):=⟨_,rfl⟩;have en:Ext wS w7:=(by rw[F7];exact((H5.setCell (p:=⟨w3.heap.size,0,none⟩) dt _).setCell (p:=⟨w3.heap.size,1,none⟩) dt _).setCell (p:=⟨w3.heap.size,2,none⟩) dt _);have bn:w7.heap[w3.heap.size]? =some (.cells #[.int .i64 q1,.int .i64 q2,.slice q3 q4 q5] 25 (0,0)):=(by rw[F7];exact j11 (j11 (j11 ri 0 (.int .i64 q1)) 1 (.int .i64 q2)) 2 (.slice q3 q4 q5));have Rn:New wS w7 (.mk 9 0 [.mk k0 n0 i6,.mk k1 n1 j9,.mk k2 n2 l8,.mk k4 n4 C3]) (.agg #[.int .i64 q1,.int .i64 q2,.slice q3 q4 q5]):=(by rw[F7];exact InT.mono (fun b hb=>⟨(hne b hb).2,by simp only[World.size_setCell];exact hb.2⟩) (fun b hb=> by have h9:=(hne b hb).1;rw[Below.heap_setCell _ _ _ _ h9,Below.heap_setCell _ _ _ _ h9,Below.heap_setCell _ _ _ _ h9]) B5);rw[<-F7];clear F7;obtain⟨g5,D4⟩: ∃x,x=w3.heap.size:=⟨_,rfl⟩;rw[<-D4] at bn⊢;have mm:wS.heap.size<=g5:=(by omega);obtain⟨G9,gp⟩: ∃x,x=w4.heap.size:=⟨_,rfl⟩;rw[<-gp];clear D4 gp)
   |(have dt:wS.heap.size<=w4.heap.size:=(by omega);have hne: ∀b,((((z1<=b/\b < y1)\/(z2<=b/\b < y2)\/(z3<=b/\b < y3)\/(z4<=b/\b < y4)\/b=w4.heap.size+1)\/z5<=b/\b < y5)/\b < w5.heap.size)->b≠w4.heap.size/\wS.heap.size<=b:=(fun b hb=> by omega);obtain⟨w7,F7⟩: ∃x,x=((w5.setCell ⟨w4.heap.size,0,none⟩ (.int .i64 q1)).setCell ⟨w4.heap.size,1,none⟩ (.int .i64 q2)).setCell ⟨w4.heap.size,2,none⟩ (.slice q3 q4 q5):=⟨_,rfl⟩;have en:Ext wS w7:=(by rw[F7];exact((H5.setCell (p:=⟨w4.heap.size,0,none⟩) dt _).setCell (p:=⟨w4.heap.size,1,none⟩) dt _).setCell (p:=⟨w4.heap.size,2,none⟩) dt _);have bn:w7.heap[w4.heap.size]? =some (.cells #[.int .i64 q1,.int .i64 q2,.slice q3 q4 q5] 25 (0,0)):=(by rw[F7];exact j11 (j11 (j11 ri 0 (.int .i64 q1)) 1 (.int .i64 q2)) 2 (.slice q3 q4 q5));have Rn:New wS w7 (.mk 9 0 [.mk k0 n0 i6,.mk k1 n1 j9,.mk k2 n2 l8,.mk k4 n4 C3]) (.agg #[.int .i64 q1,.int .i64 q2,.slice q3 q4 q5]):=(by rw[F7];exact InT.mono (fun b hb=>⟨(hne b hb).2,by simp only[World.size_setCell];exact hb.2⟩) (fun b hb=> by have h9:=(hne b hb).1;rw[Below.heap_setCell _ _ _ _ h9,Below.heap_setCell _ _ _ _ h9,Below.heap_setCell _ _ _ _ h9]) B5);rw[<-F7];clear F7;obtain⟨G9,gp⟩: ∃x,x=w4.heap.size+1:=⟨_,rfl⟩;rw[<-gp];obtain⟨g5,D4⟩: ∃x,x=w4.heap.size:=⟨_,rfl⟩;rw[<-D4] at bn⊢;have mm:wS.heap.size<=g5:=(by omega);clear D4 gp)
   |(have dt:wS.heap.size<=(w4.heap.size+1):=(by omega);have hne: ∀b,((((z1<=b/\b < y1)\/(z2<=b/\b < y2)\/(z3<=b/\b < y3)\/(z4<=b/\b < y4)\/b=w4.heap.size)\/z5<=b/\b < y5)/\b < w5.heap.size)->b≠(w4.heap.size+1)/\wS.heap.size<=b:=(fun b hb=> by omega);obtain⟨w7,F7⟩: ∃x,x=((w5.setCell ⟨(w4.heap.size+1),0,none⟩ (.int .i64 q1)).setCell ⟨(w4.heap.size+1),1,none⟩ (.int .i64 q2)).setCell ⟨(w4.heap.size+1),2,none⟩ (.slice q3 q4 q5):=⟨_,rfl⟩;have en:Ext wS w7:=(by rw[F7];exact((H5.setCell (p:=⟨(w4.heap.size+1),0,none⟩) dt _).setCell (p:=⟨(w4.heap.size+1),1,none⟩) dt _).setCell (p:=⟨(w4.heap.size+1),2,none⟩) dt _);have bn:w7.heap[(w4.heap.size+1)]? =some (.cells #[.int .i64 q1,.int .i64 q2,.slice q3 q4 q5] 25 (0,0)):=(by rw[F7];exact j11 (j11 (j11 ri 0 (.int .i64 q1)) 1 (.int .i64 q2)) 2 (.slice q3 q4 q5));have Rn:New wS w7 (.mk 9 0 [.mk k0 n0 i6,.mk k1 n1 j9,.mk k2 n2 l8,.mk k4 n4 C3]) (.agg #[.int .i64 q1,.int .i64 q2,.slice q3 q4 q5]):=(by rw[F7];exact InT.mono (fun b hb=>⟨(hne b hb).2,by simp only[World.size_setCell];exact hb.2⟩) (fun b hb=> by have h9:=(hne b hb).1;rw[Below.heap_setCell _ _ _ _ h9,Below.heap_setCell _ _ _ _ h9,Below.heap_setCell _ _ _ _ h9]) B5);rw[<-F7];clear F7;obtain⟨g5,D4⟩: ∃x,x=(w4.heap.size+1):=⟨_,rfl⟩;rw[<-D4] at bn⊢;have mm:wS.heap.size<=g5:=(by omega);obtain⟨G9,gp⟩: ∃x,x=w4.heap.size:=⟨_,rfl⟩;rw[<-gp];clear D4 gp)
   |(have hne: ∀b,((((z1<=b/\b < y1)\/(z2<=b/\b < y2)\/(z3<=b/\b < y3)\/(z4<=b/\b < y4)\/b=w4.heap.size)\/z5<=b/\b < y5)/\b < w5.heap.size)->wS.heap.size<=b:=(fun b hb=> by omega);obtain⟨w7,F7⟩: ∃x,x=w5.alloc (.cells #[.int .i64 q1,.int .i64 q2,.slice q3 q4 q5] 25):=⟨_,rfl⟩;have en:Ext wS w7:=(by rw[F7];exact H5.alloc _);have bn:w7.heap[w5.heap.size]? =some (.cells #[.int .i64 q1,.int .i64 q2,.slice q3 q4 q5] 25 (0,0)):=(by rw[F7];exact heap_alloc_new w5 _);have Rn:New wS w7 (.mk 9 0 [.mk k0 n0 i6,.mk k1 n1 j9,.mk k2 n2 l8,.mk k4 n4 C3]) (.agg #[.int .i64 q1,.int .i64 q2,.slice q3 q4 q5]):=(by rw[F7];exact InT.mono (fun b hb=>⟨hne b hb,by have h9:=hb.2;simp;omega⟩) (fun b hb=>((xr w5).alloc _).heap b hb.2) B5);rw[<-F7];clear F7;obtain⟨g5,D4⟩: ∃x,x=w5.heap.size:=⟨_,rfl⟩;rw[<-D4] at bn⊢;have mm:wS.heap.size<=g5:=(by omega);obtain⟨G9,gp⟩: ∃x,x=w4.heap.size:=⟨_,rfl⟩;rw[<-gp];clear D4 gp))
  all_goals(try clear s0 s1 s2 f0 f1 f2)
  all_goals clear B5 hM1 V7 Nw Fj hM5 ri Uw Wz Wb Uh h5
  all_goals rename_i xw
  all_goals clear xw
  all_goals revert Rn
  all_goals revert bn
  all_goals revert en
  all_goals revert mm
  all_goals revert g5
  all_goals revert w7
  all_goals revert G9
  all_goals revert q5
  all_goals revert q4
  all_goals revert q3
  all_goals revert q2
  all_goals revert q1
  all_goals revert p45
  all_goals revert p44
  all_goals revert p43
  all_goals revert p42
  all_goals revert p41
  all_goals revert p35
  all_goals revert p34
  all_goals revert p33
  all_goals revert p32
  all_goals revert p31
  all_goals revert p25
  all_goals revert Wl
  all_goals revert Wu
  all_goals revert Uo
  all_goals revert Wq
  all_goals revert Xg
  all_goals revert Xh
  all_goals revert Vb
  all_goals revert Un
  all_goals revert Ux
  all_goals exact REST.out
 case k=>
  intro Ux Un Vb Xh Xg Wq Uo Wu Wl p25 p31 p32 p33 p34 p35 p41 p42 p43 p44 p45 q1 q2 q3 q4 q5 G9 w7 g5 mm en bn Rn;have F4:g5 < w7.heap.size:=j10 bn;obtain⟨y0,y1,y2,-,-,-⟩:=own3 bn;have Rs:=en.blk Ph;have Su:=en.size;have Df:=hdq (show∀w':World,(∀y,y < w7.heap.size->y≠w.heap.size+1->w'.heap[y]? =w7.heap[y]?)->w'.cell? ⟨w.heap.size,2,none⟩=some (.slice (some ⟨b0,o0,none⟩) ks.length cap)/\w'.cell? ⟨b0,o0+6,none⟩=some (.int .i64 k2)/\w'.cell? ⟨b0,o0+7,none⟩=some (.int .i64 n2)/\w'.cell? ⟨b0,o0+8,none⟩=some (.slice A2 l8.length M3)/\w'.cell? ⟨wr.heap.size,0,none⟩=some (.int .i64 k4)/\w'.cell? ⟨wr.heap.size,1,none⟩=some (.int .i64 n4)/\w'.cell? ⟨wr.heap.size,2,none⟩=some (.slice A4 C3.length bc)/\w'.cell? ⟨g5,0,none⟩=some (.int .i64 q1)/\w'.cell? ⟨g5,1,none⟩=some (.int .i64 q2)/\w'.cell? ⟨g5,2,none⟩=some (.slice q3 q4 q5) from fun w' hw=> by
   obtain⟨r1,r2,r3,r4,r5,r6,r7,r8,r9,r10,r11,r12,r13⟩:=HC.out w7 en w' (fun y h1 h2=> hw y (by omega) h2);have f: ∀(j:Nat) (x:Value),w7.cell? ⟨g5,j,none⟩=some x->w'.cell? ⟨g5,j,none⟩=some x:=fun j x h3=>(World.cell?_of_block (a:=⟨g5,j,none⟩) (hw g5 F4 (by omega))).trans h3
   exact⟨r1,r8,r9,r10,r11,r12,r13,f _ _ y0,f _ _ y1,f _ _ y2⟩)
  have X7:Ext w7 w7.drew:=(xr w7).drew;have L27:=L2.ext en;have L47:=L4.ext en;have HE7:=hdq (gm.trans en);clear y0 y1 y2 HC Ph L0 L1 L2 L4;go_wp2_with fail
  go_region_held3 (fun w'=> w'.cell? ⟨w.heap.size,2,none⟩=some (.slice (some ⟨b0,o0,none⟩) ks.length cap)/\w'.cell? ⟨b0,o0+6,none⟩=some (.int .i64 k2)/\w'.cell? ⟨b0,o0+7,none⟩=some (.int .i64 n2)/\w'.cell? ⟨b0,o0+8,none⟩=some (.slice A2 l8.length M3)/\w'.cell? ⟨wr.heap.size,0,none⟩=some (.int .i64 k4)/\w'.cell? ⟨wr.heap.size,1,none⟩=some (.int .i64 n4)/\w'.cell? ⟨wr.heap.size,2,none⟩=some (.slice A4 C3.length bc)/\w'.cell? ⟨g5,0,none⟩=some (.int .i64 q1)/\w'.cell? ⟨g5,1,none⟩=some (.int .i64 q2)/\w'.cell? ⟨g5,2,none⟩=some (.slice q3 q4 q5))
   (first|exact Df.out _ (fun y h1 h2=> by rw[Below.heap_setCell _ _ _ _ h2,Below.heap_setCell _ _ _ _ h2,Below.heap_setCell _ _ _ _ h2];exact Uu.heap y h1) |exact Df.out _ (fun y h1 _=> by with_reducible exact Ext.heap (Uu) y h1) |exact Df.out _ (fun y h1 _=> by with_reducible exact Ext.heap (Wa.alloc _) y h1) |exact Df.out _ (fun y h1 _=> by with_reducible exact Ext.heap (Wa) y h1) |exact Df.out _ (fun y h1 _=> by with_reducible exact Ext.heap (H9.alloc _) y h1) |exact Df.out _ (fun y h1 _=> by with_reducible exact Ext.heap (H9) y h1) |exact Df.out _ (fun y h1 _=> by with_reducible exact Ext.heap (H8) y h1) |exact Df.out _ (fun y h1 _=> by with_reducible exact Ext.heap (X7) y h1))
   (first|(go_at_call 75;(with_reducible show Calls _ _ #[.int .i64 5,.slice (some ⟨zw.heap.size,0,none⟩) 2 2] _ _);refine(tnode2 (Tb.later ((xr zw).alloc _)) (InT.later Rn (Wa.alloc _)) (heap_alloc_new zw _)).mono ?_;rintro e w11 ⟨a1,a2,a3,a4,a5,z11,y11,rfl,Qg,h11,Yp,hy11⟩;have Uu:Ext w7 w11:=(Wa.alloc _).trans h11;obtain⟨s0,s1,s2,f0,f1,f2⟩:=own3 (Uu.blk Rs)) |(go_at_call 75;(with_reducible show Calls _ _ #[.int .i64 5,.slice (some ⟨w9.heap.size,0,none⟩) 2 2] _ _);refine(tnode2 (Qy.later (h9.alloc _)) (Ls.later ((xr w9).alloc _)) (heap_alloc_new w9 _)).mono ?_;rintro e zw ⟨e1,e2,e3,e4,e5,z10,y10,rfl,Tb,h10,hz10,hy10⟩;have Wa:Ext w7 zw:=(H9.alloc _).trans h10) |(go_at_call_of 67 A4;refine(y37 _ _ _ (L47.ext H8) (by omega)).mono ?_;rintro e w9 ⟨Wq,Uo,Wu,Wl,p25,z9,y9,rfl,Ls,h9,hz9,hy9⟩;have H9:Ext w7 w9:=H8.trans h9) |(go_at_call_of 67 A2;refine(y37 _ _ _ (L27.ext X7) (by omega)).mono ?_;rintro e w8 ⟨Ux,Un,Vb,Xh,Xg,z8,y8,rfl,Qy,h8,hz8,hy8⟩;have H8:Ext w7 w8:=X7.trans h8))
  have t8:=H8.size;have t9:=h9.size;have Mu:=h10.size;have t11:=h11.size;simp at hz8 hz9 hz10 Yp
  simp at Mu t11
  have HB11:=hdq Qg.bound;have HX:=hdq (HE7.out.trans Uu);clear Rs bn Rn Df Qy Ls Tb Qg;go_wp2_with fail;refine bodyPost_ret (v:= .agg #[.int .i64 a1,.int .i64 a2,.slice a3 a4 a5]) (by simp[results,Tryz.results57,go_sem,s0,s1,s2]) rfl ⟨_,rfl, ?_, ?_⟩
  · refine InT.mono ?ca ?cb HB11.out
    case ca=> exact fun b hb=> by have h8:=hb.1;have h9:=hb.2;simp only[World.size_setCell];exact⟨by omega,h9⟩
    case cb=>
     intro b hb;have hne:b≠w.heap.size+1:=by have h9:=hb.1;omega
     rw[Below.heap_setCell _ _ _ _ hne,Below.heap_setCell _ _ _ _ hne,Below.heap_setCell _ _ _ _ hne]
  · exact((HX.out.setCell (p:=⟨w.heap.size+1,0,none⟩) (by show w.heap.size<=w.heap.size+1;omega) _).setCell (p:=⟨w.heap.size+1,1,none⟩) (by show w.heap.size<=w.heap.size+1;omega) _).setCell (p:=⟨w.heap.size+1,2,none⟩) (by show w.heap.size<=w.heap.size+1;omega) _
theorem q110(t:Tr)(hv:valid sigT t=true)(hr:j55 t=true)(w:World)(v:Value)(j7:Lies w t v):Calls Tryz.prog 57 #[v] w (NewQ w (ctrT t)):=by
 obtain⟨k,n,ks⟩:=t;obtain⟨A,cap,rfl,hl,hc,hK⟩:=Lies.mk_iff.1 j7;have f: ∀{t:Tr} {e:Ending} {w':World},j159 w t e w'->NewQ w t e w':=fun⟨r,h1,h2,h3⟩=>⟨r,h1,h2.inT,h3⟩
 rcases q34 (y65.1 hr) with⟨rfl,h⟩ |⟨rfl,h⟩ |⟨rfl,h⟩ |⟨rfl,h⟩ |⟨rfl,h⟩ |⟨rfl,h⟩
 · exact(l3con_1 n ks hv w A cap j7 hK hl hc h).mono fun _ _=> f
 · exact(l3con_2 n ks hv w A cap j7 hK hl hc h).mono fun _ _=> f
 · exact l3con_3 n ks hv w A cap j7 hK hl hc h
 · exact(l3con_4 n ks hv w A cap j7 hK hl hc h).mono fun _ _=> f
 · exact(l3con_5 n ks hv w A cap j7 hK hl hc h).mono fun _ _=> f
 · exact(l3con_6 n ks hv w A cap j7 hK hl hc h).mono fun _ _=> f
theorem q109(t:Tr)(hv:valid sigT t=true)(hr:j55 t=true)(w:World)(v:Value)(j7:Lies w t v):Calls Tryz.prog 57 #[v] w (LiesQ w (ctrT t)):=
 (q110 t hv hr w v j7).mono fun _ _ ⟨r,h1,h2,h3⟩=>⟨r,h1,InT.mono (fun _ hb=> hb.2) (fun _ _=> rfl) h2,h3⟩
theorem y137(t:Tr)(hv:valid sigT t=true)(hr:j55 t=true)(w:World)(v:Value)(j7:Lies w t v):Calls Tryz.prog 108 #[v] w (ConQ w (ctrT t)):=by
 obtain⟨k,n,ks⟩:=t;obtain⟨A,cap,rfl,hl,hc,hK⟩:=Lies.mk_iff.1 j7;rcases q34 (y65.1 hr) with⟨rfl,h⟩ |⟨rfl,h⟩ |⟨rfl,h⟩ |⟨rfl,h⟩ |⟨rfl,h⟩ |⟨rfl,h⟩
 · exact q166 n ks hv w A cap j7 hK hl hc h
 · exact j162 n ks hv w A cap j7 hK hl hc h
 · exact q163 n ks hv w A cap j7 hK hl hc h
 · exact j167 n ks hv w A cap j7 hK hl hc h
 · exact y167 n ks hv w A cap j7 hK hl hc h
 · exact y163 n ks hv w A cap j7 hK hl hc h
theorem at_any(t:Tr)(path:List Int)(u:Tr)(hat:atT t path=some u)(w:World)(v:Value)(j7:Lies w t v)(A:Option Addr)(cap:Nat)(hl:path.length<=cap)(hc:cap<=maxLen)(hP:Nums w A path):
 Calls Tryz.prog 109 #[v,.slice A path.length cap] w fun e w'=> ∃x,e= .returned x/\Lies w' u x/\Ext w w':=by
 obtain⟨k,n,ks⟩:=t;obtain⟨At,ct,rfl,hlt,p6,tk⟩:=Lies.mk_iff.1 j7;have hcc:=hc;unfold maxLen at hcc;have hx0:=((xr w).alloc (.cells #[.int .i64 k,.int .i64 n,.slice At ks.length ct] 25)).alloc (.cells #[.int .i64 0,.int .i64 0,.slice none 0 0] 25);obtain⟨hb0,hb1,hs0⟩:=blk2 (xr ((w.alloc (.cells #[.int .i64 k,.int .i64 n,.slice At ks.length ct] 25)).alloc (.cells #[.int .i64 0,.int .i64 0,.slice none 0 0] 25)));clear j7;go_enter Tryz.func109,Tryz.ntmps109;go_wp2_with fail;generalize World.alloc (World.alloc w _) _=wS at hx0 hb0 hb1 hs0⊢
 go_loopw [9] (fun i wr=> ∃(j:Nat) (k' n':Int) (kids:List Tr) (A':Option Addr) (c':Nat),j<=path.length/\i= .int .i64 j/\
  Hid (atT (.mk k' n' kids) (path.drop j)=some u)/\kids.length<=c'/\c'<=maxLen/\j26 w A' kids/\
  wr.heap[w.heap.size]? =some (.cells #[.int .i64 k',.int .i64 n',.slice A' kids.length c'] 25 (0,0))/\wr.heap[w.heap.size+1]? =some (.cells #[.int .i64 0,.int .i64 0,.slice none 0 0] 25 (0,0))/\Ext w wr) (fun i _=> path.length -(intOf i).toNat)
 case atStart=> exact⟨0,k,n,ks,At,ct,Nat.zero_le _,rfl,hdq hat,hlt,p6,tk,hb0,hb1,hx0⟩
 case round=>
  obtain⟨j,k',n',kids,A',c',hj,rfl,HA,K8,L6,hK,hb,F2,hx⟩:=hrel;have hsz:w.heap.size+1 < wr.heap.size:=j10 F2;obtain⟨z0,z1,z2,f0,f1,f2⟩:=own3 hb;obtain⟨y0,y1,y2,g0,g1,g2⟩:=own3 F2;by_cases Y2:j < path.length
  · obtain⟨bp,op,rfl,cp⟩:=hP.get hx Y2
    have hdr:path.drop j=path[j]::path.drop (j+1):=List.drop_eq_getElem_cons Y2;have N2:=HA.out;rw[hdr,j98] at N2;clear HA hdr;generalize path[j]=i at cp N2;have my:(j:Int) <(path.length:Int):=by omega
    have jc:(0:Int)<=(j:Int):=Int.natCast_nonneg _;have S7:0<=i/\i <(kids.length:Int):=by
     split at N2
     · assumption
     · cases N2
    rw[if_pos S7] at N2;obtain⟨m,rfl⟩:=Int.eq_ofNat_of_zero_le S7.1;have hm:m < kids.length:=by omega
    have e0:((m:Int)).toNat=m:=by omega
    rw[e0] at N2;obtain⟨b,o,k2,n2,A2,c2,l8,rfl,HK,d0,d1,d2,Z8,U1,hK2,S0,j5⟩:=hK.get (xr w) hm;have E7:kd kids m= .mk k2 n2 l8:=q43 hm HK.out;rw[E7] at N2;have Em:=hdq N2;have Ue:(m:Int) <(kids.length:Int):=S7.2;have Ya:(0:Int)<=(m:Int):=S7.1;have c0:=hx.cell d0;have c1:=hx.cell d1;have c2':=hx.cell d2;clear E7 HK j5 S7 e0 d0 d1 d2 N2;have iv:=L6;unfold maxLen at iv;go_wp2_with fail
    go_roundw
    case rel=> exact⟨j+1,k2,n2,l8,A2,c2,by omega,by go_num,Em,Z8,U1,hK2,j11 (j11 (j11 hb 0 _) 1 _) 2 _,q13 (q13 (q13 F2 (by simp) _) (by simp) _) (by simp) _,((hx.setCell (by simp) _).setCell (by simp) _).setCell (by simp) _⟩
    case measure=> simp[intOf];omega
  · have hje:path.drop j= []:=List.drop_of_length_le (by omega)
    have N2:=HA.out;rw[hje] at N2;have HU:(.mk k' n' kids:Tr)=u:=by simpa[atT] using N2
    clear HA N2 hje;go_wp2_with fail;refine bodyPost_ret (v:= .agg #[.int .i64 k',.int .i64 n',.slice A' kids.length c']) (by simp[results,Tryz.results109,go_sem,y0,y1,y2]) rfl ⟨_,rfl, ?_, ?_⟩
    · rw[<-HU]
      exact Lies.mk K8 L6 (hK.ext (((hx.setCell (by simp) _).setCell (by simp) _).setCell (by simp) _))
    · exact(((hx.setCell (by simp) _).setCell (by simp) _).setCell (by simp) _)
theorem j49(t:Tr)(p:List Int)(hv:valid sigT t=true)(hr:rdxA t p=true)(w:World)(v:Value)(j7:Lies w t v)(A:Option Addr)(n cap:Nat)(hp:PFs w A n cap p)(hn:n<=1000):
 Calls Tryz.prog 52 #[v,.slice A n cap] w fun e w'=> ∃r,e= .returned (.tuple #[r,.bool (conV t p).2])/\Made w w' 25 (conV t p).1 r/\Ext w w':=by
 obtain⟨u,hat,hru⟩:=j85 hr;have ng:=y69 hv hat;have ee:conA t p=putA t p (ctrT u):=by unfold conA;rw[hat]
 have HAT:=hdq (fun W (hW:Ext w W)=> by
  have:=at_any t p u hat W v (j7.ext hW) A cap (by rw[hp.hn];exact hp.hl) hp.hc (hp.hP.ext hW);rw[hp.hn] at this;exact this)
 have Be:=hdq (fun W x (hx:Lies W u x)=> y137 u ng hru W x hx);have Dp:=hdq (fun W (hW:Ext w W) x (hx:Lies W (ctrT u) x)=> put_any p t (ctrT u) 30 (q14 hv).2 (by rw[hat];rfl) W v x (fun b=> b < W.heap.size) (fun _ h=> h) (j7.ext hW) hx A n cap (hp.ext hW) hn (by have:=(q14 hv).1;omega));have I1:valid sigT (ctrT u)=true->cnt (putA t p (ctrT u))<=1000000:=fun h=> by
  have h1:=j150 p t (ctrT u) u hat;have h2:=(q14 h).1;have h3:=(q14 hv).1;omega
 have lm:=q178 (t:=t) hat;have hc1:(conV t p).1=okT (putA t p (ctrT u)):=by unfold conV okT;rw[ee];split <;> rfl
 have hc2:(conV t p).2=valid sigT (putA t p (ctrT u)):=by
  unfold conV;rw[ee];split
  · rename_i h;exact h.symm
  · rename_i h;exact(Bool.eq_false_iff.2 h).symm
 rw[ee] at lm;rw[hc1,hc2];clear hc1 hc2 ee hat hru hr ng;generalize putA t p (ctrT u)=X at Dp I1 lm⊢;generalize ctrT u=c at Be Dp I1 lm;obtain⟨k,nn,ks⟩:=t;obtain⟨At,ct,rfl,-,-,-⟩:=Lies.mk_iff.1 j7;have hx0:=((xr w).alloc (.cells #[.int .i64 k,.int .i64 nn,.slice At ks.length ct] 25)).alloc (.cells #[.int .i64 0,.int .i64 0,.slice none 0 0] 25);obtain⟨hb0,hb1,hs2⟩:=blk2 (xr ((w.alloc (.cells #[.int .i64 k,.int .i64 nn,.slice At ks.length ct] 25)).alloc (.cells #[.int .i64 0,.int .i64 0,.slice none 0 0] 25)));obtain⟨wS,G6⟩: ∃x,x=(w.alloc (.cells #[.int .i64 k,.int .i64 nn,.slice At ks.length ct] 25)).alloc (.cells #[.int .i64 0,.int .i64 0,.slice none 0 0] 25):=⟨_,rfl⟩;rw[<-G6] at hx0 hb0 hb1 hs2;obtain⟨z,hz⟩: ∃z,valid sigT c=z:=⟨_,rfl⟩;have iu:=hdq (show∀W x,Lies W u x->Calls Tryz.prog 108 #[x] W fun e w'=> ∃r,e= .returned (.tuple #[r,.bool z])/\Made W w' 25 (okT c) r/\Ext W w' from fun W x hx=> hz▸Be.out W x hx);clear Be;have HOK:=hdq (show z=true->okT c=c from fun h=> by unfold okT;rw[if_pos (hz.trans h)]);have HNO:=hdq (show z=false->valid sigT X=false from fun h=> Bool.eq_false_iff.2 fun h'=> by have:=lm h';rw[hz,h] at this;cases this);have ud:=hdq (show z=true->cnt X<=1000000 from fun h=> I1 (hz.trans h));clear hz I1 lm;cases z with
 |false=>
  have E2:=HNO.out rfl;have E3:okT X=q16:=by unfold okT;rw[if_neg (by rw[E2];decide)]
  rw[E2,E3];clear HNO HOK ud E2 E3 Dp;go_enter Tryz.func52,Tryz.ntmps52;go_wp2_with fail;rw[<-G6];clear G6;refine(HAT.out _ hx0).mono ?_;rintro e w1 ⟨x,rfl,hL,h1⟩;go_wp2_with fail;refine(iu.out _ _ hL).mono ?_;rintro e w2 ⟨r,rfl,hM,h2⟩;obtain⟨a1,a2,a3,a4,a5,rfl⟩:=hM.three';obtain⟨s0,s1,s2,f0,f1,f2⟩:=own3 (((h1.trans h2).trans ((xr w2).alloc (.cells #[.int .i64 a1,.int .i64 a2,.slice a3 a4 a5] 25))).blk hb1);go_wp2_with fail;refine bodyPost_ret (v:= .tuple #[.agg #[.int .i64 0,.int .i64 0,.slice none 0 0],.bool false]) (by simp[results,Tryz.results52,go_sem,s0,s1,s2]) rfl ⟨_,rfl,Made.leaf _ _ _ 0 0, ?_⟩;exact((((((hx0.trans h1).trans h2).alloc _).setCell (by simp) _).setCell (by simp) _).setCell (by simp) _)
 |true=>
  have E2:=HOK.out rfl;have HC:=ud.out rfl;rw[E2] at iu;clear HNO HOK ud E2;go_enter Tryz.func52,Tryz.ntmps52;go_wp2_with fail;rw[<-G6];clear G6;refine(HAT.out _ hx0).mono ?_;rintro e w1 ⟨x,rfl,hL,h1⟩;go_wp2_with fail;refine(iu.out _ _ hL).mono ?_;rintro e w2 ⟨r,rfl,hM,h2⟩;obtain⟨a1,a2,a3,a4,a5,rfl⟩:=hM.three';have h3:=(xr w2).alloc (.cells #[.int .i64 a1,.int .i64 a2,.slice a3 a4 a5] 25);have S9:=(h1.trans h2).trans h3;obtain⟨z0,z1,z2,-,-,-⟩:=own3 (S9.blk hb0);have hL3:=hM.lies.ext h3;clear hM hL;go_wp2_with fail;refine(Dp.out _ (hx0.trans S9) _ hL3).mono ?_;rintro e w4 ⟨y,rfl,hY,h4⟩;have hLY:Lies w4 X y:=InT.mono (fun b hb=> by rcases hb with h|h;exact Nat.lt_of_lt_of_le h h4.size;exact h.2) (fun _ _=> rfl) hY;clear hY hL3;go_wp2_with fail;refine(q57 _ _ _ hLY HC).mono ?_;rintro e w5 ⟨yo,rfl,Lp,h5⟩;go_wp2_with fail;refine(q41 Lp).mono ?_;rintro e w6 ⟨b1,b2,b3,b4,b5,rfl,Wi,h6⟩;have F8:=((S9.trans h4).trans h5).trans h6;obtain⟨s0,s1,s2,f0,f1,f2⟩:=own3 (F8.blk hb1);have hw4:w.heap.size+2<=w4.heap.size:=by have:=hx0.size;have:=(S9.trans h4).size;omega
  go_wp2_with fail;refine bodyPost_ret (v:= .tuple #[.agg #[.int .i64 b1,.int .i64 b2,.slice b3 b4 b5],.bool (valid sigT X)]) (by simp[results,Tryz.results52,go_sem,s0,s1,s2]) rfl ⟨_,rfl,Made.since (Wi.after ((((y25.refl _ _).setCell (p:=⟨w.heap.size+1,0,none⟩) (by show w.heap.size+1 < _;omega) (.int .i64 b1)).setCell (p:=⟨w.heap.size+1,1,none⟩) (by show w.heap.size+1 < _;omega) (.int .i64 b2)).setCell (p:=⟨w.heap.size+1,2,none⟩) (by show w.heap.size+1 < _;omega) (.slice b3 b4 b5))) (by omega), ?_⟩;exact((((hx0.trans F8).setCell (by simp) _).setCell (by simp) _).setCell (by simp) _)
end Go.Proofs.YtbnkbepgmenblaaGreat
namespace Go.Proofs.YtbnkbepgmenblaaGreat
open Go.RowKit
open M (Hd HR Cv)
theorem j99{k:Int}(n:Int)(ks:List Tr)(h: ¬(k=5\/k=9\/k=12\/k=15\/k=16)):hdW (.mk k n ks)=([],false):=by
 have h0:rdx k ks=0:=y98 (by omega) (by omega) (by omega) (by omega) (by omega);rw[hdW,if_neg (by rw[h0];decide),if_neg (by omega),if_neg (by omega),if_neg (by omega)]
def HdE(t:M.Tm):Prop:=(∀p,hdW (enc t)=(p,true)-> ∃u,conA (enc t) p=enc u/\Hd t u)/\((hdW (enc t)).2=false-> ∀u,¬Hd t u)
theorem HdE.leaf{t:M.Tm}(h:hdW (enc t)=([],false))(no: ∀u,¬Hd t u):HdE t:=
 ⟨fun p e=> by rw[h] at e;simp at e,fun _=> no⟩
theorem HdE.root{t u:M.Tm}(h:hdW (enc t)=([],true))(e:ctrT (enc t)=enc u)(k:Hd t u):HdE t:=
 ⟨fun p q=> by
  rw[h] at q;simp only[Prod.mk.injEq,and_true] at q;subst q;exact⟨u,by rw[j213,e],k⟩,fun q=> by rw[h] at q;cases q⟩
theorem q184: ∀t:M.Tm,HdE t:=by
 intro t
 induction t with
 |var n=> exact .leaf (j99 _ _ (by omega)) fun u h=> by cases h
 |sort n=> exact .leaf (j99 _ _ (by omega)) fun u h=> by cases h
 |pi A B=> exact .leaf (j99 _ _ (by omega)) fun u h=> by cases h
 |lam A B=> exact .leaf (j99 _ _ (by omega)) fun u h=> by cases h
 |nat=> exact .leaf (j99 _ _ (by omega)) fun u h=> by cases h
 |zero=> exact .leaf (j99 _ _ (by omega)) fun u h=> by cases h
 |succ a=> exact .leaf (j99 _ _ (by omega)) fun u h=> by cases h
 |id T a b=> exact .leaf (j99 _ _ (by omega)) fun u h=> by cases h
 |refl a=> exact .leaf (j99 _ _ (by omega)) fun u h=> by cases h
 |sg A B=> exact .leaf (j99 _ _ (by omega)) fun u h=> by cases h
 |pair T a b=> exact .leaf (j99 _ _ (by omega)) fun u h=> by cases h
 |app f a i1 i2=>
  by_cases hl: ∃A b,f= .lam A b
  · obtain⟨A,b,rfl⟩:=hl
    exact .root (by simp[enc,hdW,rdx,kd,Tr.kind]) (y53 b a) (.beta A b a)
  · have hk:(enc f).kind≠4:=by intro h;cases f <;> simp[enc,Tr.kind] at h;exact hl ⟨_,_,rfl⟩
    have h0: ¬rdx 5 [enc f,enc a]≠0:=fun h=> by
     rcases q34 h with h|h|h|h|h|h <;> first|exact hk h.2|omega
    have e:hdW (enc (.app f a))=(((0:Nat):Int)::(hdW (enc f)).1,(hdW (enc f)).2):=by
     show hdW (.mk 5 0 [enc f,enc a])=_
     rw[hdW,if_neg h0,if_pos (.inl rfl),hdWs]
     rfl
    refine⟨fun p h=> ?_,fun h u hu=> ?_⟩
    · rw[e] at h
      simp only[Prod.mk.injEq] at h;obtain⟨rfl,h2⟩:=h;obtain⟨u,h3,h4⟩:=i1.1 _ (by rw[<-h2]);refine⟨.app u a, ?_,.app a h4⟩
      show conA (.mk 5 0 [enc f,enc a]) _=_
      rw[q68 (k:=5) (n:=0) (ks:= [enc f,enc a]) (i:=0) (p:=(hdW (enc f)).1) (by simp) (y116 (enc f) _ (by rw[<-h2]))]
      show Tr.mk 5 0 [conA (enc f) _,enc a]=_
      rw[h3]
      rfl
    · rw[e] at h
      cases hu with
      |beta=> exact hl ⟨_,_,rfl⟩
      |app _ h5=> exact i1.2 h _ h5
 |elim p z s a i1 i2 i3 i4=>
  by_cases hz:a= .zero
  · subst hz
    exact .root (by simp[enc,hdW,rdx,kd,Tr.kind]) rfl (.ez p z s)
  by_cases hl: ∃b,a= .succ b
  · obtain⟨b,rfl⟩:=hl
    exact .root (by simp[enc,hdW,rdx,kd,Tr.kind]) rfl (.es p z s b)
  · have hk:(enc a).kind≠7:=by intro h;cases a <;> simp[enc,Tr.kind] at h;exact hz rfl
    have hk2:(enc a).kind≠8:=by intro h;cases a <;> simp[enc,Tr.kind] at h;exact hl ⟨_,rfl⟩
    have h0: ¬rdx 9 [enc p,enc z,enc s,enc a]≠0:=fun h=> by
     rcases q34 h with h|h|h|h|h|h <;> first|exact hk h.2|exact hk2 h.2|omega
    have e:hdW (enc (.elim p z s a))=(((3:Nat):Int)::(hdW (enc a)).1,(hdW (enc a)).2):=by
     show hdW (.mk 9 0 [enc p,enc z,enc s,enc a])=_
     rw[hdW,if_neg h0,if_neg (by omega),if_pos rfl,hdWs,hdWs,hdWs,hdWs]
     rfl
    refine⟨fun q h=> ?_,fun h u hu=> ?_⟩
    · rw[e] at h
      simp only[Prod.mk.injEq] at h;obtain⟨rfl,h2⟩:=h;obtain⟨u,h3,h4⟩:=i4.1 _ (by rw[<-h2]);refine⟨.elim p z s u, ?_,.elim p z s h4⟩
      show conA (.mk 9 0 [enc p,enc z,enc s,enc a]) _=_
      rw[q68 (k:=9) (n:=0) (ks:= [enc p,enc z,enc s,enc a]) (i:=3) (p:=(hdW (enc a)).1) (by simp) (y116 (enc a) _ (by rw[<-h2]))]
      show Tr.mk 9 0 [enc p,enc z,enc s,conA (enc a) _]=_
      rw[h3]
      rfl
    · rw[e] at h
      cases hu with
      |ez=> exact hz rfl
      |es=> exact hl ⟨_,rfl⟩
      |elim _ _ _ h5=> exact i4.2 h _ h5
 |move p m a i1 i2 i3=>
  by_cases hl: ∃b,m= .refl b
  · obtain⟨b,rfl⟩:=hl
    exact .root (by simp[enc,hdW,rdx,kd,Tr.kind]) rfl (.mr p b a)
  · have hk:(enc m).kind≠11:=by intro h;cases m <;> simp[enc,Tr.kind] at h;exact hl ⟨_,rfl⟩
    have h0: ¬rdx 12 [enc p,enc m,enc a]≠0:=fun h=> by
     rcases q34 h with h|h|h|h|h|h <;> first|exact hk h.2|omega
    have e:hdW (enc (.move p m a))=(((1:Nat):Int)::(hdW (enc m)).1,(hdW (enc m)).2):=by
     show hdW (.mk 12 0 [enc p,enc m,enc a])=_
     rw[hdW,if_neg h0,if_neg (by omega),if_neg (by omega),if_pos rfl,hdWs,hdWs]
     rfl
    refine⟨fun q h=> ?_,fun h u hu=> ?_⟩
    · rw[e] at h
      simp only[Prod.mk.injEq] at h;obtain⟨rfl,h2⟩:=h;obtain⟨u,h3,h4⟩:=i2.1 _ (by rw[<-h2]);refine⟨.move p u a, ?_,.move p a h4⟩
      show conA (.mk 12 0 [enc p,enc m,enc a]) _=_
      rw[q68 (k:=12) (n:=0) (ks:= [enc p,enc m,enc a]) (i:=1) (p:=(hdW (enc m)).1) (by simp) (y116 (enc m) _ (by rw[<-h2]))]
      show Tr.mk 12 0 [enc p,conA (enc m) _,enc a]=_
      rw[h3]
      rfl
    · rw[e] at h
      cases hu with
      |mr=> exact hl ⟨_,rfl⟩
      |move _ _ h5=> exact i2.2 h _ h5
 |fst a i1=>
  by_cases hl: ∃T x y,a= .pair T x y
  · obtain⟨T,x,y,rfl⟩:=hl
    exact .root (by simp[enc,hdW,rdx,kd,Tr.kind]) rfl (.fp T x y)
  · have hk:(enc a).kind≠14:=by intro h;cases a <;> simp[enc,Tr.kind] at h;exact hl ⟨_,_,_,rfl⟩
    have h0: ¬rdx 15 [enc a]≠0:=fun h=> by
     rcases q34 h with h|h|h|h|h|h <;> first|exact hk h.2|omega
    have e:hdW (enc (.fst a))=(((0:Nat):Int)::(hdW (enc a)).1,(hdW (enc a)).2):=by
     show hdW (.mk 15 0 [enc a])=_
     rw[hdW,if_neg h0,if_pos (.inr (.inl rfl)),hdWs]
     rfl
    refine⟨fun q h=> ?_,fun h u hu=> ?_⟩
    · rw[e] at h
      simp only[Prod.mk.injEq] at h;obtain⟨rfl,h2⟩:=h;obtain⟨u,h3,h4⟩:=i1.1 _ (by rw[<-h2]);refine⟨.fst u, ?_,.fst h4⟩
      show conA (.mk 15 0 [enc a]) _=_
      rw[q68 (k:=15) (n:=0) (ks:= [enc a]) (i:=0) (p:=(hdW (enc a)).1) (by simp) (y116 (enc a) _ (by rw[<-h2]))]
      show Tr.mk 15 0 [conA (enc a) _]=_
      rw[h3]
      rfl
    · rw[e] at h
      cases hu with
      |fp=> exact hl ⟨_,_,_,rfl⟩
      |fst h5=> exact i1.2 h _ h5
 |snd a i1=>
  by_cases hl: ∃T x y,a= .pair T x y
  · obtain⟨T,x,y,rfl⟩:=hl
    exact .root (by simp[enc,hdW,rdx,kd,Tr.kind]) rfl (.sp T x y)
  · have hk:(enc a).kind≠14:=by intro h;cases a <;> simp[enc,Tr.kind] at h;exact hl ⟨_,_,_,rfl⟩
    have h0: ¬rdx 16 [enc a]≠0:=fun h=> by
     rcases q34 h with h|h|h|h|h|h <;> first|exact hk h.2|omega
    have e:hdW (enc (.snd a))=(((0:Nat):Int)::(hdW (enc a)).1,(hdW (enc a)).2):=by
     show hdW (.mk 16 0 [enc a])=_
     rw[hdW,if_neg h0,if_pos (.inr (.inr rfl)),hdWs]
     rfl
    refine⟨fun q h=> ?_,fun h u hu=> ?_⟩
    · rw[e] at h
      simp only[Prod.mk.injEq] at h;obtain⟨rfl,h2⟩:=h;obtain⟨u,h3,h4⟩:=i1.1 _ (by rw[<-h2]);refine⟨.snd u, ?_,.snd h4⟩
      show conA (.mk 16 0 [enc a]) _=_
      rw[q68 (k:=16) (n:=0) (ks:= [enc a]) (i:=0) (p:=(hdW (enc a)).1) (by simp) (y116 (enc a) _ (by rw[<-h2]))]
      show Tr.mk 16 0 [conA (enc a) _]=_
      rw[h3]
      rfl
    · rw[e] at h
      cases hu with
      |sp=> exact hl ⟨_,_,_,rfl⟩
      |snd h5=> exact i1.2 h _ h5
theorem q152: ∀(f:Nat) (A:M.Tm) (x:Tr),hnfC f (enc A)=(x,0)-> ∃B,x=enc B/\HR A B/\ ∀C,¬Hd B C
 |0,A,x,h=> by
  cases e:hdQ (enc A) with
  |none=>
   rw[j59 e] at h;simp only[Prod.mk.injEq,and_true] at h;exact⟨A,h.symm,.refl A,(q184 A).2 (q122 e)⟩
  |some p=> rw[q99 e] at h;cases h
 |f+1,A,x,h=> by
  cases e:hdQ (enc A) with
  |none=>
   rw[j59 e] at h;simp only[Prod.mk.injEq,and_true] at h;exact⟨A,h.symm,.refl A,(q184 A).2 (q122 e)⟩
  |some p=>
   by_cases hc:valid sigT (conA (enc A) p)=true
   · rw[j144 e hc] at h
     obtain⟨u,h1,h2⟩:=(q184 A).1 p (q78 e);rw[h1] at h;obtain⟨B,h3,h4,h5⟩:=q152 f u x h;exact⟨B,h3,.step h2 h4,h5⟩
   · rw[q147 e (Bool.eq_false_iff.2 hc)] at h
     cases h
theorem y55{A:M.Tm}{x:Tr}{f:Int}(h:hnfV (enc A) f=(x,0)): ∃B,x=enc B/\HR A B/\(∀C,¬Hd B C)/\valid sigT (enc B)=true:=by
 have hv:=(q101 h).2.2.2;unfold hnfV at h
 split at h
 · obtain⟨B,rfl,h1,h2⟩:=q152 _ A x h
   exact⟨B,rfl,h1,h2,hv⟩
 · cases h
theorem q120{A B c:M.Tm}(h:HR A B)(hs: ∀C,¬Hd B C)(k:HR A c)(hc:M.hk c≠0):B=c:=by
 have:=h.after k hc;cases this with
 |refl=> rfl
 |step h1 _=> exact absurd h1 (hs _)
theorem q219{A B:M.Tm}(h:q84 (enc A) (enc B) 200=1):Cv A B:=by
 unfold q84 at h
 split at h
 · rename_i hv
   simp only[Bool.and_eq_true] at hv
   split at h
   · rename_i e
     rw[q175 e];exact Cv.rfl' _
   · split at h
     · rename_i h1
       split at h
       · rename_i h2
         obtain⟨r1,-,-⟩:=j66 (200:Int).toNat (enc A) (nrmC (200:Int).toNat (enc A)).1 hv.1 (by rw[<-h1.1]);obtain⟨r2,-,-⟩:=j66 (200:Int).toNat (enc B) (nrmC (200:Int).toNat (enc B)).1 hv.2.1 (by rw[<-h1.2]);obtain⟨m,e1,q1⟩:=q203 r1 rfl;obtain⟨m',e2,q2⟩:=q203 r2 rfl;have:m=m':=q175 (by rw[<-e1,<-e2,h2]);subst this;exact⟨m,q1,q2⟩
       · simp at h
     · simp at h
 · simp at h
theorem j175{A B:M.Tm}(h:q84 (enc A) (enc B) 200=2): ¬Cv A B:=by
 intro hc;unfold q84 at h
 split at h
 · rename_i hv
   simp only[Bool.and_eq_true] at hv
   split at h
   · simp at h
   · split at h
     · rename_i h1
       split at h
       · simp at h
       · rename_i h2
         obtain⟨r1,n1,-⟩:=j66 (200:Int).toNat (enc A) (nrmC (200:Int).toNat (enc A)).1 hv.1 (by rw[<-h1.1]);obtain⟨r2,n2,-⟩:=j66 (200:Int).toNat (enc B) (nrmC (200:Int).toNat (enc B)).1 hv.2.1 (by rw[<-h1.2]);obtain⟨C,c1,c2⟩:=hc;obtain⟨d1,e1,f1⟩:=r1.meet (q171 c1);obtain⟨d2,e2,f2⟩:=r2.meet (q171 c2);rw[e1.normal n1] at f1;rw[e2.normal n2] at f2;exact h2 (Reds.unique f1 f2 n1 n2)
     · simp at h
 · simp at h
theorem j170{A B:M.Tm}(h:cvtV (enc A) (enc B)=0):Cv A B:=q219 (cvtV_ok h)
theorem cvt_nb{A B:M.Tm}(h:Cv A B):cvtV (enc A) (enc B)=0\/cvtV (enc A) (enc B)=2:=by
 unfold cvtV
 split
 · exact .inl rfl
 · split
   · rename_i h2
     exact absurd h (j175 h2)
   · exact .inr rfl
theorem kind2{B:M.Tm}(h:(enc B).kind=2): ∃n,B= .sort n:=by
 cases B <;> simp[enc,Tr.kind] at h;exact⟨_,rfl⟩
theorem kind3{B:M.Tm}(h:(enc B).kind=3): ∃C R,B= .pi C R:=by
 cases B <;> simp[enc,Tr.kind] at h;exact⟨_,_,rfl⟩
theorem kind10{B:M.Tm}(h:(enc B).kind=10): ∃T a b,B= .id T a b:=by
 cases B <;> simp[enc,Tr.kind] at h;exact⟨_,_,_,rfl⟩
theorem kind13{B:M.Tm}(h:(enc B).kind=13): ∃C R,B= .sg C R:=by
 cases B <;> simp[enc,Tr.kind] at h;exact⟨_,_,rfl⟩
end Go.Proofs.YtbnkbepgmenblaaGreat

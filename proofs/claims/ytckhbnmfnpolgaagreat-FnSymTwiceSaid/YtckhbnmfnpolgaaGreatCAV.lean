/-
  Lemmas towards the law, 22: L3Succ, Contracted.
-/
import Derived.Test.YtckhbnmfnpolgaaGreatC00
import Derived.Test.YtckhbnmfnpolgaaGreatCAT
import Derived.Test.YtckhbnmfnpolgaaGreatCAU
open Go renaming World->aL,Value->aT,Calls->aX,maxLen->aV,heap_alloc_new->aS,bodyPost_ret->aP
open Nat renaming add_assoc->dV,reduceAdd->dW
open Go.World renaming cell?_of_block->dY,alloc->aO,size_setCell->eZ
open Go.RowKit.Below renaming heap_setCell->aM
open Go.Proofs.Tryz
set_option linter.all false
set_option maxHeartbeats 16000000
set_option maxRecDepth 100000
namespace Go.Proofs.YtckhbnmfnpolgaaGreat
open Go.RowKit
structure aC (p:Prop):Prop where
 out:p
theorem Vy{T p:Prop}(h:aC T->p)(k:T):p:=h ⟨k⟩
def Ov(w:aL)(t:Tr)(e:Ending)(a:aL):Prop:= ∃r,e= .returned r/\InT a (fun b=> w.heap.size<=b/\b < a.heap.size) t r/\Ext w a
theorem Ur(t:Tr)(w:aL)(v:aT)(k:Lies w t v)(hc:cnt t<=1000000):aX prog 46 #[v] w fun e c=> ∃f a d g i z y,e= .returned (M0 f a d g i)/\InT c (fun b=> z<=b/\b < y) t (M0 f a d g i)/\Ext w c/\z=w.heap.size/\y=c.heap.size:=by
 refine(Vf t w v k hc).mono ?_;rintro e c ⟨u,rfl,j,h⟩;obtain⟨f,a,d,g,i,rfl⟩:=j.three';exact⟨f,a,d,g,i,_,_,rfl,j.inT,h,rfl,rfl⟩
theorem Ui{w:aL}{k:Int}{g:Nat}{t1 t2:Tr}{v0 v1 v2 q r n:aT}{S1 f:Nat->Prop}(t:InT w S1 t1 (.agg #[v0,v1,v2]))(s:InT w f t2 (.agg #[q,r,n]))(o:w.heap[g]? =some (.cells #[v0,v1,v2,q,r,n] 25 (0,0))):
 aX prog 60 #[m0 k,.slice (some ⟨g,0,none⟩) 2 2] w fun e c=> ∃j d i l m z y,e= .returned (M0 j d i l m)/\InT c (fun b=>(S1 b\/f b\/b=g)\/z<=b/\b < y) (.mk k 0 [t1,t2]) (M0 j d i l m)/\Ext w c/\z=w.heap.size/\y=c.heap.size:=by
 refine(IE w k (some ⟨g,0,none⟩) 2 [t1,t2] (by intro h;cases h) (fun b=>(S1 b\/f b\/b=g)/\b < w.heap.size) (fun b h=> h.2) (InK.two (e:=25) (InT.mono (fun b h=>⟨.inl h.1,h.2⟩) (fun _ _=> rfl) t.bound) (InT.mono (fun b h=>⟨.inr (.inl h.1),h.2⟩) (fun _ _=> rfl) s.bound) o ⟨.inr (.inr rfl),O1 o⟩) (by simp)).mono ?_;rintro e c ⟨u,rfl,p,h⟩;obtain⟨j,d,i,l,m,rfl⟩:=InT.three p;exact⟨_,_,_,_,_,_,_,rfl,InT.mono (fun b a=> by rcases a with a|a;exact .inl a.1;exact .inr a) (fun _ _=> rfl) p,h,rfl,rfl⟩
theorem Uu{w:aL}{k:Int}{g:Nat}{t1 t2 i f:Tr}{v0 v1 v2 r t j m x p o D l:aT}{S1 q S3 C:Nat->Prop}(I:InT w S1 t1 (.agg #[v0,v1,v2]))(H:InT w q t2 (.agg #[r,t,j]))(F:InT w S3 i (.agg #[m,x,p]))(G:InT w C f (.agg #[o,D,l]))(a:w.heap[g]? =some (.cells #[v0,v1,v2,r,t,j,m,x,p,o,D,l] 25 (0,0))):
 aX prog 60 #[m0 k,.slice (some ⟨g,0,none⟩) 4 4] w fun e d=> ∃v n s A B z y,e= .returned (M0 v n s A B)/\InT d (fun b=>(S1 b\/q b\/S3 b\/C b\/b=g)\/z<=b/\b < y) (.mk k 0 [t1,t2,i,f]) (M0 v n s A B)/\Ext w d/\z=w.heap.size/\y=d.heap.size:=by
 have hK:InK w (fun b=>(S1 b\/q b\/S3 b\/C b\/b=g)/\b < w.heap.size) (some ⟨g,0,none⟩) [t1,t2,i,f]:=by
  refine .inr ⟨g,0,rfl,⟨.inr (.inr (.inr (.inr rfl))),O1 a⟩, ?_⟩;unfold O4;refine⟨⟨v0,v1,v2,U1 a 0,U1 a 1,U1 a 2,InT.mono (fun b h=>⟨.inl h.1,h.2⟩) (fun _ _=> rfl) I.bound⟩, ?_⟩;unfold O4;refine⟨⟨r,t,j,U1 a 3,U1 a 4,U1 a 5,InT.mono (fun b h=>⟨.inr (.inl h.1),h.2⟩) (fun _ _=> rfl) H.bound⟩, ?_⟩;unfold O4;refine⟨⟨m,x,p,U1 a 6,U1 a 7,U1 a 8,InT.mono (fun b h=>⟨.inr (.inr (.inl h.1)),h.2⟩) (fun _ _=> rfl) F.bound⟩, ?_⟩;unfold O4;refine⟨⟨o,D,l,U1 a 9,U1 a 10,U1 a 11,InT.mono (fun b h=>⟨.inr (.inr (.inr (.inl h.1))),h.2⟩) (fun _ _=> rfl) G.bound⟩, ?_⟩;unfold O4
  trivial
 refine(IE w k (some ⟨g,0,none⟩) 4 [t1,t2,i,f] (by intro h;cases h) _ (fun b h=> h.2) hK (by simp)).mono ?_;rintro e d ⟨u,rfl,E,h⟩;obtain⟨v,n,s,A,B,rfl⟩:=InT.three E;exact⟨_,_,_,_,_,_,_,rfl,InT.mono (fun b c=> by rcases c with c|c;exact .inl c.1;exact .inr c) (fun _ _=> rfl) E,h,rfl,rfl⟩
theorem Dp(n:Int)(B:List Tr)(hv:j0 D0 (.mk 9 n B)=true)(w:aL)(A:Option Addr)(cap:Nat)(b8:Lies w (.mk 9 n B) (M0 9 n A B.length cap))(hK:y22 w A B)(hl:B.length<=cap)(hc:cap<=aV)(hc3:(kd B 3).kind=8):
 aX prog 171 #[M0 9 n A B.length cap] w (Ov w (ctr 9 B)):=by
 obtain⟨hsh,C0⟩:=Z3 hv;have a8:U0 9=(B.length:Int):=(Z4 hsh).1;have j6:B.length=4:=by have z:(4:Int)=(B.length:Int):=a8;omega
 have hsk:=(Z4 hsh).2.2.2;have K7: ∀t∈B,j0 D0 t=true:=fun t ht=> by
  have m:=hsk t ht;have h2:=k9 ht;simp only[cnt] at C0;unfold j0;rw[sf m (by decide),Bool.true_and,decide_eq_true_eq];omega
 have hcc:=hc;unfold aV at hcc;have C5:=hdq (fun W (hW:Ext w W)=> Cr (.mk 9 n B) 30 hsh W _ (b8.ext hW));obtain⟨wb,x6⟩: ∃wb,wb=(w.alloc (H0 9 n A B.length cap)).alloc (H0 0 0 none 0 0):=⟨_,rfl⟩;have hX:Ext w wb:=x6▸((xr w).alloc _).alloc _;have hb0:wb.heap[w.heap.size]? =some (H0 9 n A B.length cap):=by rw[x6];exact(blk2 (xr _)).1
 have hb1:wb.heap[w.heap.size+1]? =some (H0 0 0 none 0 0):=by rw[x6];exact(blk2 (xr _)).2.1
 have hs0:w.heap.size+1 < wb.heap.size:=O1 hb1;have E5:0 < B.length:=by omega
 have V8:(0:Int) <(B.length:Int):=by omega
 obtain⟨H,o0,k0,n0,A0,p9,a6,bu,T4,J7,N6,L9,bi,gh,M9,z7,z6⟩:=hK.get (xr w) E5;simp only[Nat.zero_mul,Nat.add_zero] at J7 N6 L9;have x8:kd B 0= .mk k0 n0 a6:=Zb E5 T4.out;have B0:1 < B.length:=by omega
 have fw:(1:Int) <(B.length:Int):=by omega
 obtain⟨b1,o1,k1,n1,A1,C9,q16,O5,E6,c10,c11,c12,Z7,Y4,M6,p5,j9⟩:=hK.get (xr w) B0;simp only[Nat.one_mul,dV,dW] at c10 c11 c12;have I8:kd B 1= .mk k1 n1 q16:=Zb B0 E6.out;have F5:2 < B.length:=by omega
 have gm:(2:Int) <(B.length:Int):=by omega
 obtain⟨b2,o2,k2,Z,A2,F7,q17,ic,iq,c20,c21,em,gj,ej,hK2,S5,I7⟩:=hK.get (xr w) F5;simp only[Nat.reduceMul,dV,dW] at c20 c21 em;have U8:kd B 2= .mk k2 Z q17:=Zb F5 iq.out;have E0:3 < B.length:=by omega
 have qu:(3:Int) <(B.length:Int):=by omega
 obtain⟨b3,o3,k3,n3,A3,F8,j19,W5,V7,L5,c31,K8,ft,Y6,hK3,F6,q9⟩:=hK.get (xr w) E0;simp only[Nat.reduceMul,dV,dW] at L5 c31 K8;have C6:kd B 3= .mk k3 n3 j19:=Zb E0 V7.out;subst bu
 injection O5 with O5
 injection O5 with dh hC1 hD1
 subst dh hC1
 injection ic with ic
 injection ic with si hC2 hD2
 subst si hC2
 injection W5 with W5
 injection W5 with Bl hC3 hD3
 subst Bl hC3;rw[C6] at hc3;have Ie:k3=8:=hc3;subst Ie;have hv3:=K7 _ q9;have kz:U0 8=(j19.length:Int):=(Z4 (Z3 hv3).1).1;have xh:j19.length=1:=by have z:(1:Int)=(j19.length:Int):=kz;omega
 have Z2:0 < j19.length:=by omega
 have hi4:(0:Int) <(j19.length:Int):=by omega
 obtain⟨b4,o4,U,V,A4,R7,q38,Dd,Ch,c40,yb,xi,Hp,Ha,hK4,lh,ay⟩:=hK3.get (xr w) Z2;simp only[Nat.zero_mul,Nat.add_zero] at c40 yb xi;have mz:kd j19 0= .mk U V q38:=Zb Z2 Ch.out;subst Dd;have q0:=(Z3 (K7 _ z6)).2;have F:=(Z3 (K7 _ j9)).2;have D:=(Z3 (K7 _ I7)).2;have C:=(Z3 hv3).2;have E:=k9 ay;simp only[cnt] at C;have l8:ctr 9 B= .mk 5 0 [.mk 5 0 [.mk k2 Z q17,.mk U V q38],.mk 9 0 [.mk k0 n0 a6,.mk k1 n1 q16,.mk k2 Z q17,.mk U V q38]]:=by rw[Vr (by rw[C6];rfl),x8,I8,U8,C6,show kd (Tr.kids (.mk 8 n3 j19)) 0=_ from mz]
 rw[l8];have I4:rdx 9 B=3:=by unfold rdx;rw[C6];simp[Tr.kind]
 clear l8;have hrt:Y3 (.mk 9 n B)=3:=I4;rw[hrt] at C5;clear hrt I4 j6 a8;clear xh;go_enter func171,ntmps171;go_wp2_with fail;rw[<-x6];clear x6;refine(C5.out _ hX).mono ?_;rintro e wr ⟨rfl,hr⟩;have o7:=hX.trans hr;have u6:=hr.blk hb0;have o8:=hr.blk hb1;have hs1:w.heap.size+1 < wr.heap.size:=O1 o8;obtain⟨z0,z1,z2,-,-,-⟩:=own3 u6;clear hb0 hb1 C5 hr;have qh:=o7.cell K8;have d40:=o7.cell c40;have d41:=o7.cell yb;have d42:=o7.cell xi;have Cn:H < w.heap.size:=World.block_lt_of_cell? _ _ J7;obtain⟨c,G8⟩: ∃x,x=wr.alloc (H0 U V A4 q38.length R7):=⟨_,rfl⟩;have eS:Ext wr c:=G8▸(xr wr).alloc _;have bS:=aS wr (H0 U V A4 q38.length R7);rw[<-G8] at bS;go_wp2_with fail;rw[<-G8];clear G8;have Y:Ext w c:=o7.trans eS;have hgS:wr.heap.size < c.heap.size:=O1 bS;have Cu:=eS.blk o8;have Ar:=eS.blk u6;have hgw:w.heap.size+1 < wr.heap.size:=hs1;have hsSa:wr.heap.size+1<=c.heap.size:=hgS;have p8: ∀W,Ext c W-> ∀d:aL,(∀y,y < c.heap.size->y≠w.heap.size+1->d.heap[y]? =W.heap[y]?)->d.cell? ⟨w.heap.size,2,none⟩=some (.slice (some ⟨H,o0,none⟩) B.length cap)/\d.cell? ⟨H,o0,none⟩=some (m0 k0)/\d.cell? ⟨H,o0+1,none⟩=some (m0 n0)/\d.cell? ⟨H,o0+2,none⟩=some (.slice A0 a6.length p9)/\d.cell? ⟨H,o0+3,none⟩=some (m0 k1)/\d.cell? ⟨H,o0+4,none⟩=some (m0 n1)/\d.cell? ⟨H,o0+5,none⟩=some (.slice A1 q16.length C9)/\d.cell? ⟨H,o0+6,none⟩=some (m0 k2)/\d.cell? ⟨H,o0+7,none⟩=some (m0 Z)/\d.cell? ⟨H,o0+8,none⟩=some (.slice A2 q17.length F7)/\d.cell? ⟨wr.heap.size,0,none⟩=some (m0 U)/\d.cell? ⟨wr.heap.size,1,none⟩=some (m0 V)/\d.cell? ⟨wr.heap.size,2,none⟩=some (.slice A4 q38.length R7):=by
  intro W hW d h;have B9: ∀q i v,q < c.heap.size->q≠w.heap.size+1->c.cell? ⟨q,i,none⟩=some v->d.cell? ⟨q,i,none⟩=some v:=fun q i v hq hn hv=>
   (dY (a:=⟨q,i,none⟩) (h q hq hn)).trans (hW.cell hv)
  exact⟨B9 _ _ _ (by omega) (by omega) (U1 Ar 2),B9 _ _ _ (by omega) (by omega) (Y.cell J7),B9 _ _ _ (by omega) (by omega) (Y.cell N6),B9 _ _ _ (by omega) (by omega) (Y.cell L9),B9 _ _ _ (by omega) (by omega) (Y.cell c10),B9 _ _ _ (by omega) (by omega) (Y.cell c11),B9 _ _ _ (by omega) (by omega) (Y.cell c12),B9 _ _ _ (by omega) (by omega) (Y.cell c20),B9 _ _ _ (by omega) (by omega) (Y.cell c21),B9 _ _ _ (by omega) (by omega) (Y.cell em),B9 _ _ _ (by omega) (by omega) (U1 bS 0),B9 _ _ _ (by omega) (by omega) (U1 bS 1),B9 _ _ _ (by omega) (by omega) (U1 bS 2)⟩
 have M:=hdq p8;have Q:Ext c c.drew:=(xr c).drew;have L0:=z7.ext Y;have L1:=p5.ext Y;have L2:=S5.ext Y;have L4:=lh.ext Y;clear p8 T4 x8 M9 z7 z6 E6 I8 M6 p5 j9 iq U8 hK2 S5 I7 V7 C6 hK3 F6 q9 Ch mz hK4 lh ay J7 N6 L9 c10 c11 c12 c20 c21 em L5 c31 K8 c40 yb xi qh d40 d41 d42 hK b8 kz z0 z1 z2 u6 o8 Ar bS hsk K7 hv hv3 hsh C0 hc3 eS o7 hX hs1;go_wp2_with fail
 apply Vy
 case h=>
  intro REST
  go_region_held3 (fun d=> d.cell? ⟨w.heap.size,2,none⟩=some (.slice (some ⟨H,o0,none⟩) B.length cap)/\d.cell? ⟨H,o0,none⟩=some (m0 k0)/\d.cell? ⟨H,o0+1,none⟩=some (m0 n0)/\d.cell? ⟨H,o0+2,none⟩=some (.slice A0 a6.length p9)/\d.cell? ⟨H,o0+3,none⟩=some (m0 k1)/\d.cell? ⟨H,o0+4,none⟩=some (m0 n1)/\d.cell? ⟨H,o0+5,none⟩=some (.slice A1 q16.length C9)/\d.cell? ⟨H,o0+6,none⟩=some (m0 k2)/\d.cell? ⟨H,o0+7,none⟩=some (m0 Z)/\d.cell? ⟨H,o0+8,none⟩=some (.slice A2 q17.length F7)/\d.cell? ⟨wr.heap.size,0,none⟩=some (m0 U)/\d.cell? ⟨wr.heap.size,1,none⟩=some (m0 V)/\d.cell? ⟨wr.heap.size,2,none⟩=some (.slice A4 q38.length R7))
   (first|exact M.out _ H5 _ (fun y m _=> by rw[aM _ _ _ _ (fun z=> by have t1:=J.size;have t2:=S.size;have t3:=H3.size;have t4:=H4.size;dsimp only at z;omega),aM _ _ _ _ (fun z=> by have t1:=J.size;have t2:=S.size;have t3:=H3.size;have t4:=H4.size;dsimp only at z;omega),aM _ _ _ _ (fun z=> by have t1:=J.size;have t2:=S.size;have t3:=H3.size;have t4:=H4.size;dsimp only at z;omega)]) |exact M.out _ H5 _ (fun y m _=> by with_reducible rfl) |exact M.out _ (H5.alloc _) _ (fun y m _=> by with_reducible rfl) |exact M.out _ ((H5.alloc _).alloc _) _ (fun y m _=> by with_reducible rfl) |exact M.out _ H4 _ (fun y m _=> by with_reducible rfl) |exact M.out _ (H4.alloc _) _ (fun y m _=> by with_reducible rfl) |exact M.out _ ((H4.alloc _).alloc _) _ (fun y m _=> by with_reducible rfl) |exact M.out _ H3 _ (fun y m _=> by with_reducible rfl) |exact M.out _ (H3.alloc _) _ (fun y m _=> by with_reducible rfl) |exact M.out _ ((H3.alloc _).alloc _) _ (fun y m _=> by with_reducible rfl) |exact M.out _ S _ (fun y m _=> by with_reducible rfl) |exact M.out _ (S.alloc _) _ (fun y m _=> by with_reducible rfl) |exact M.out _ ((S.alloc _).alloc _) _ (fun y m _=> by with_reducible rfl) |exact M.out _ J _ (fun y m _=> by with_reducible rfl) |exact M.out _ (J.alloc _) _ (fun y m _=> by with_reducible rfl) |exact M.out _ ((J.alloc _).alloc _) _ (fun y m _=> by with_reducible rfl) |exact M.out _ Q _ (fun y m _=> by with_reducible rfl) |exact M.out _ (Q.alloc _) _ (fun y m _=> by with_reducible rfl) |exact M.out _ ((xr c).alloc _).drew _ (fun y m _=> by with_reducible rfl))
   (first|(go_at_call_of 46 A0;refine(Ur _ _ _ (L0.ext (by with_reducible (first|exact((xr c).alloc _).drew|exact Q.alloc _|exact Q))) (by omega)).mono ?_;rintro e R ⟨Fu,Ga,Fh,Fy,Fg,z1,y1,rfl,hM1,m,hz1,hy1⟩;have J:Ext c R:=Ext.trans (by with_reducible (first|exact((xr c).alloc _).drew|exact Q.alloc _|exact Q)) m;(first|(have uh:Ext (aO (World.drew c) (H0 0 0 none 0 0)) R:=(by with_reducible exact m);have Ei:R.heap[c.heap.size]? =some (H0 0 0 none 0 0):=Ext.blk uh (aS c.drew (H0 0 0 none 0 0))) |(have uh:Ext (World.drew (aO c (H0 0 0 none 0 0))) R:=(by with_reducible exact m);have Ei:R.heap[c.heap.size]? =some (H0 0 0 none 0 0):=Ext.blk uh (aS c (H0 0 0 none 0 0))) |(have Ei:=trivial))) |(go_at_call_of 46 A1;refine(Ur _ _ _ (L1.ext (by with_reducible (first|exact(J.alloc _).alloc _|exact J.alloc _|exact J|exact((xr c).alloc _).drew|exact Q.alloc _|exact Q))) (by omega)).mono ?_;rintro e T ⟨Ex,Fl,Eo,Dz,p25,z2,y2,rfl,M3,h2,hz2,hy2⟩;have S:Ext c T:=Ext.trans (by with_reducible (first|exact(J.alloc _).alloc _|exact J.alloc _|exact J|exact((xr c).alloc _).drew|exact Q.alloc _|exact Q)) h2;have X2:Ext R T:=(by with_reducible (first|exact h2|exact((xr _).alloc _).trans h2));(first|(have Ep:=Ext.blk h2 Ei) |(have Ep:T.heap[R.heap.size]? =some (H0 0 0 none 0 0):=(by with_reducible exact Ext.blk h2 (aS R (H0 0 0 none 0 0)))) |(have Ep:=trivial))) |(go_at_call_of 46 A2;refine(Ur _ _ _ (L2.ext (by with_reducible (first|exact(S.alloc _).alloc _|exact S.alloc _|exact S|exact(J.alloc _).alloc _|exact J.alloc _|exact J|exact((xr c).alloc _).drew|exact Q.alloc _|exact Q))) (by omega)).mono ?_;rintro e X ⟨p31,p32,p33,p34,p35,z3,y3,rfl,Ak,h3,hz3,hy3⟩;have H3:Ext c X:=Ext.trans (by with_reducible (first|exact(S.alloc _).alloc _|exact S.alloc _|exact S|exact(J.alloc _).alloc _|exact J.alloc _|exact J|exact((xr c).alloc _).drew|exact Q.alloc _|exact Q)) h3;have X3:Ext T X:=(by with_reducible (first|exact h3|exact((xr _).alloc _).trans h3));(first|(have Fs:=Ext.blk h3 Ep) |(have Fs:X.heap[T.heap.size]? =some (H0 0 0 none 0 0):=(by with_reducible exact Ext.blk h3 (aS T (H0 0 0 none 0 0)))) |(have Fs:=trivial))) |(go_at_call_of 46 A4;refine(Ur _ _ _ (L4.ext (by with_reducible (first|exact(H3.alloc _).alloc _|exact H3.alloc _|exact H3|exact(S.alloc _).alloc _|exact S.alloc _|exact S|exact(J.alloc _).alloc _|exact J.alloc _|exact J|exact((xr c).alloc _).drew|exact Q.alloc _|exact Q))) (by omega)).mono ?_;rintro e s ⟨p41,p42,p43,p44,p45,z4,y4,rfl,Cq,h4,hz4,hy4⟩;have H4:Ext c s:=Ext.trans (by with_reducible (first|exact(H3.alloc _).alloc _|exact H3.alloc _|exact H3|exact(S.alloc _).alloc _|exact S.alloc _|exact S|exact(J.alloc _).alloc _|exact J.alloc _|exact J|exact((xr c).alloc _).drew|exact Q.alloc _|exact Q)) h4;have X4:Ext X s:=(by with_reducible (first|exact h4|exact((xr _).alloc _).trans h4));(first|(have Eu:=Ext.blk h4 Fs) |(have Eu:s.heap[X.heap.size]? =some (H0 0 0 none 0 0):=(by with_reducible exact Ext.blk h4 (aS X (H0 0 0 none 0 0)))) |(have Eu:=trivial))) |(go_at_call 60;(with_reducible show aX _ _ #[m0 9,.slice (some ⟨_,0,none⟩) 4 4] _ _);refine(Uu (hM1.later (X2.trans (X3.trans (X4.trans (by with_reducible (first|exact(xr _).alloc _|exact((xr _).alloc _).alloc _)))))) (M3.later (X3.trans (X4.trans (by with_reducible (first|exact(xr _).alloc _|exact((xr _).alloc _).alloc _))))) (Ak.later (X4.trans (by with_reducible (first|exact(xr _).alloc _|exact((xr _).alloc _).alloc _)))) (Cq.later (by with_reducible (first|exact(xr _).alloc _|exact((xr _).alloc _).alloc _))) (by first|(with_reducible exact zE rfl) |(with_reducible exact zE (by simp)) |(with_reducible exact((xr _).alloc _).blk (zE rfl)))).mono ?_;rintro e L ⟨F,D,G,C,E,z5,y5,rfl,hM5,h5,hz5,hy5⟩;have X5:Ext s L:=Ext.trans (by with_reducible (first|exact(xr _).alloc _|exact((xr _).alloc _).alloc _)) h5;have H5:Ext c L:=H4.trans X5;(first|(have jd:=Ext.blk X5 Eu;obtain⟨s0,s1,s2,f0,f1,f2⟩:=own3 jd) |(have jd:L.heap[s.heap.size]? =some (H0 0 0 none 0 0):=(by with_reducible exact Ext.blk h5 (((xr _).alloc _).blk (aS s (H0 0 0 none 0 0))));obtain⟨s0,s1,s2,f0,f1,f2⟩:=own3 jd) |(have jd:L.heap[s.heap.size+1]? =some (H0 0 0 none 0 0):=(by with_reducible exact Ext.blk h5 (zE (o:=(H0 0 0 none 0 0)) (by simp)));obtain⟨s0,s1,s2,f0,f1,f2⟩:=own3 jd) |(have jd:=trivial))))
  all_goals(have t1:=J.size;have t2:=X2.size;have t3:=X3.size;have t4:=X4.size;have t5:=X5.size;have u1:=m.size;have u2:=h2.size;have u3:=h3.size;have u4:=h4.size;have u5:=h5.size;(try simp at u1);(try simp at hz1);(try simp at u2);(try simp at hz2);(try simp at u3);(try simp at hz3);(try simp at u4);(try simp at hz4);(try simp at u5);(try simp at hz5);have B5:=hM5.bound)
  all_goals(first
   |(have K:c.heap.size<=c.heap.size:=(by omega);have g: ∀b,((((z1<=b/\b < y1)\/(z2<=b/\b < y2)\/(z3<=b/\b < y3)\/(z4<=b/\b < y4)\/b=s.heap.size)\/z5<=b/\b < y5)/\b < L.heap.size)->b≠c.heap.size/\c.heap.size<=b:=(fun b l=> by omega);obtain⟨r,u⟩: ∃x,x=((L.setCell ⟨c.heap.size,0,none⟩ (m0 F)).setCell ⟨c.heap.size,1,none⟩ (m0 D)).setCell ⟨c.heap.size,2,none⟩ (.slice G C E):=⟨_,rfl⟩;have en:Ext c r:=(by rw[u];exact((H5.setCell (p:=⟨c.heap.size,0,none⟩) K _).setCell (p:=⟨c.heap.size,1,none⟩) K _).setCell (p:=⟨c.heap.size,2,none⟩) K _);have P:r.heap[c.heap.size]? =some (H0 F D G C E):=(by rw[u];exact N5 (N5 (N5 jd 0 (m0 F)) 1 (m0 D)) 2 (.slice G C E));have Rn:New c r (.mk 9 0 [.mk k0 n0 a6,.mk k1 n1 q16,.mk k2 Z q17,.mk U V q38]) (M0 F D G C E):=(by rw[u];exact InT.mono (fun b l=>⟨(g b l).2,by simp only[eZ];exact l.2⟩) (fun b l=> by have z:=(g b l).1;rw[aM _ _ _ _ z,aM _ _ _ _ z,aM _ _ _ _ z]) B5);rw[<-u];clear u;obtain⟨I,N⟩: ∃x,x=c.heap.size:=⟨_,rfl⟩;rw[<-N] at P⊢;have bc:c.heap.size<=I:=(by omega);obtain⟨G9,O⟩: ∃x,x=s.heap.size:=⟨_,rfl⟩;rw[<-O];clear N O)
   |(have K:c.heap.size<=R.heap.size:=(by omega);have g: ∀b,((((z1<=b/\b < y1)\/(z2<=b/\b < y2)\/(z3<=b/\b < y3)\/(z4<=b/\b < y4)\/b=s.heap.size)\/z5<=b/\b < y5)/\b < L.heap.size)->b≠R.heap.size/\c.heap.size<=b:=(fun b l=> by omega);obtain⟨r,u⟩: ∃x,x=((L.setCell ⟨R.heap.size,0,none⟩ (m0 F)).setCell ⟨R.heap.size,1,none⟩ (m0 D)).setCell ⟨R.heap.size,2,none⟩ (.slice G C E):=⟨_,rfl⟩;have en:Ext c r:=(by rw[u];exact((H5.setCell (p:=⟨R.heap.size,0,none⟩) K _).setCell (p:=⟨R.heap.size,1,none⟩) K _).setCell (p:=⟨R.heap.size,2,none⟩) K _);have P:r.heap[R.heap.size]? =some (H0 F D G C E):=(by rw[u];exact N5 (N5 (N5 jd 0 (m0 F)) 1 (m0 D)) 2 (.slice G C E));have Rn:New c r (.mk 9 0 [.mk k0 n0 a6,.mk k1 n1 q16,.mk k2 Z q17,.mk U V q38]) (M0 F D G C E):=(by rw[u];exact InT.mono (fun b l=>⟨(g b l).2,by simp only[eZ];exact l.2⟩) (fun b l=> by have z:=(g b l).1;rw[aM _ _ _ _ z,aM _ _ _ _ z,aM _ _ _ _ z]) B5);rw[<-u];clear u;obtain⟨I,N⟩: ∃x,x=R.heap.size:=⟨_,rfl⟩;rw[<-N] at P⊢;have bc:c.heap.size<=I:=(by omega);obtain⟨G9,O⟩: ∃x,x=s.heap.size:=⟨_,rfl⟩;rw[<-O];clear N O)
   |(have K:c.heap.size<=T.heap.size:=(by omega);have g: ∀b,((((z1<=b/\b < y1)\/(z2<=b/\b < y2)\/(z3<=b/\b < y3)\/(z4<=b/\b < y4)\/b=s.heap.size)\/z5<=b/\b < y5)/\b < L.heap.size)->b≠T.heap.size/\c.heap.size<=b:=(fun b l=> by omega);obtain⟨r,u⟩: ∃x,x=((L.setCell ⟨T.heap.size,0,none⟩ (m0 F)).setCell ⟨T.heap.size,1,none⟩ (m0 D)).setCell ⟨T.heap.size,2,none⟩ (.slice G C E):=⟨_,rfl⟩;have en:Ext c r:=(by rw[u];exact((H5.setCell (p:=⟨T.heap.size,0,none⟩) K _).setCell (p:=⟨T.heap.size,1,none⟩) K _).setCell (p:=⟨T.heap.size,2,none⟩) K _);have P:r.heap[T.heap.size]? =some (H0 F D G C E):=(by rw[u];exact N5 (N5 (N5 jd 0 (m0 F)) 1 (m0 D)) 2 (.slice G C E));have Rn:New c r (.mk 9 0 [.mk k0 n0 a6,.mk k1 n1 q16,.mk k2 Z q17,.mk U V q38]) (M0 F D G C E):=(by rw[u];exact InT.mono (fun b l=>⟨(g b l).2,by simp only[eZ];exact l.2⟩) (fun b l=> by have z:=(g b l).1;rw[aM _ _ _ _ z,aM _ _ _ _ z,aM _ _ _ _ z]) B5);rw[<-u];clear u;obtain⟨I,N⟩: ∃x,x=T.heap.size:=⟨_,rfl⟩;rw[<-N] at P⊢;have bc:c.heap.size<=I:=(by omega);obtain⟨G9,O⟩: ∃x,x=s.heap.size:=⟨_,rfl⟩;rw[<-O];clear N O)
   |(have K:c.heap.size<=X.heap.size:=(by omega);have g: ∀b,((((z1<=b/\b < y1)\/(z2<=b/\b < y2)\/(z3<=b/\b < y3)\/(z4<=b/\b < y4)\/b=s.heap.size)\/z5<=b/\b < y5)/\b < L.heap.size)->b≠X.heap.size/\c.heap.size<=b:=(fun b l=> by omega);obtain⟨r,u⟩: ∃x,x=((L.setCell ⟨X.heap.size,0,none⟩ (m0 F)).setCell ⟨X.heap.size,1,none⟩ (m0 D)).setCell ⟨X.heap.size,2,none⟩ (.slice G C E):=⟨_,rfl⟩;have en:Ext c r:=(by rw[u];exact((H5.setCell (p:=⟨X.heap.size,0,none⟩) K _).setCell (p:=⟨X.heap.size,1,none⟩) K _).setCell (p:=⟨X.heap.size,2,none⟩) K _);have P:r.heap[X.heap.size]? =some (H0 F D G C E):=(by rw[u];exact N5 (N5 (N5 jd 0 (m0 F)) 1 (m0 D)) 2 (.slice G C E));have Rn:New c r (.mk 9 0 [.mk k0 n0 a6,.mk k1 n1 q16,.mk k2 Z q17,.mk U V q38]) (M0 F D G C E):=(by rw[u];exact InT.mono (fun b l=>⟨(g b l).2,by simp only[eZ];exact l.2⟩) (fun b l=> by have z:=(g b l).1;rw[aM _ _ _ _ z,aM _ _ _ _ z,aM _ _ _ _ z]) B5);rw[<-u];clear u;obtain⟨I,N⟩: ∃x,x=X.heap.size:=⟨_,rfl⟩;rw[<-N] at P⊢;have bc:c.heap.size<=I:=(by omega);obtain⟨G9,O⟩: ∃x,x=s.heap.size:=⟨_,rfl⟩;rw[<-O];clear N O)
   |(have K:c.heap.size<=s.heap.size:=(by omega);have g: ∀b,((((z1<=b/\b < y1)\/(z2<=b/\b < y2)\/(z3<=b/\b < y3)\/(z4<=b/\b < y4)\/b=s.heap.size+1)\/z5<=b/\b < y5)/\b < L.heap.size)->b≠s.heap.size/\c.heap.size<=b:=(fun b l=> by omega);obtain⟨r,u⟩: ∃x,x=((L.setCell ⟨s.heap.size,0,none⟩ (m0 F)).setCell ⟨s.heap.size,1,none⟩ (m0 D)).setCell ⟨s.heap.size,2,none⟩ (.slice G C E):=⟨_,rfl⟩;have en:Ext c r:=(by rw[u];exact((H5.setCell (p:=⟨s.heap.size,0,none⟩) K _).setCell (p:=⟨s.heap.size,1,none⟩) K _).setCell (p:=⟨s.heap.size,2,none⟩) K _);have P:r.heap[s.heap.size]? =some (H0 F D G C E):=(by rw[u];exact N5 (N5 (N5 jd 0 (m0 F)) 1 (m0 D)) 2 (.slice G C E));have Rn:New c r (.mk 9 0 [.mk k0 n0 a6,.mk k1 n1 q16,.mk k2 Z q17,.mk U V q38]) (M0 F D G C E):=(by rw[u];exact InT.mono (fun b l=>⟨(g b l).2,by simp only[eZ];exact l.2⟩) (fun b l=> by have z:=(g b l).1;rw[aM _ _ _ _ z,aM _ _ _ _ z,aM _ _ _ _ z]) B5);rw[<-u];clear u;obtain⟨G9,O⟩: ∃x,x=s.heap.size+1:=⟨_,rfl⟩;rw[<-O];obtain⟨I,N⟩: ∃x,x=s.heap.size:=⟨_,rfl⟩;rw[<-N] at P⊢;have bc:c.heap.size<=I:=(by omega);clear N O)
   |(have K:c.heap.size<=(s.heap.size+1):=(by omega);have g: ∀b,((((z1<=b/\b < y1)\/(z2<=b/\b < y2)\/(z3<=b/\b < y3)\/(z4<=b/\b < y4)\/b=s.heap.size)\/z5<=b/\b < y5)/\b < L.heap.size)->b≠(s.heap.size+1)/\c.heap.size<=b:=(fun b l=> by omega);obtain⟨r,u⟩: ∃x,x=((L.setCell ⟨(s.heap.size+1),0,none⟩ (m0 F)).setCell ⟨(s.heap.size+1),1,none⟩ (m0 D)).setCell ⟨(s.heap.size+1),2,none⟩ (.slice G C E):=⟨_,rfl⟩;have en:Ext c r:=(by rw[u];exact((H5.setCell (p:=⟨(s.heap.size+1),0,none⟩) K _).setCell (p:=⟨(s.heap.size+1),1,none⟩) K _).setCell (p:=⟨(s.heap.size+1),2,none⟩) K _);have P:r.heap[(s.heap.size+1)]? =some (H0 F D G C E):=(by rw[u];exact N5 (N5 (N5 jd 0 (m0 F)) 1 (m0 D)) 2 (.slice G C E));have Rn:New c r (.mk 9 0 [.mk k0 n0 a6,.mk k1 n1 q16,.mk k2 Z q17,.mk U V q38]) (M0 F D G C E):=(by rw[u];exact InT.mono (fun b l=>⟨(g b l).2,by simp only[eZ];exact l.2⟩) (fun b l=> by have z:=(g b l).1;rw[aM _ _ _ _ z,aM _ _ _ _ z,aM _ _ _ _ z]) B5);rw[<-u];clear u;obtain⟨I,N⟩: ∃x,x=(s.heap.size+1):=⟨_,rfl⟩;rw[<-N] at P⊢;have bc:c.heap.size<=I:=(by omega);obtain⟨G9,O⟩: ∃x,x=s.heap.size:=⟨_,rfl⟩;rw[<-O];clear N O)
   |(have g: ∀b,((((z1<=b/\b < y1)\/(z2<=b/\b < y2)\/(z3<=b/\b < y3)\/(z4<=b/\b < y4)\/b=s.heap.size)\/z5<=b/\b < y5)/\b < L.heap.size)->c.heap.size<=b:=(fun b l=> by omega);obtain⟨r,u⟩: ∃x,x=L.alloc (H0 F D G C E):=⟨_,rfl⟩;have en:Ext c r:=(by rw[u];exact H5.alloc _);have P:r.heap[L.heap.size]? =some (H0 F D G C E):=(by rw[u];exact aS L _);have Rn:New c r (.mk 9 0 [.mk k0 n0 a6,.mk k1 n1 q16,.mk k2 Z q17,.mk U V q38]) (M0 F D G C E):=(by rw[u];exact InT.mono (fun b l=>⟨g b l,by have z:=l.2;simp;omega⟩) (fun b l=>((xr L).alloc _).heap b l.2) B5);rw[<-u];clear u;obtain⟨I,N⟩: ∃x,x=L.heap.size:=⟨_,rfl⟩;rw[<-N] at P⊢;have bc:c.heap.size<=I:=(by omega);obtain⟨G9,O⟩: ∃x,x=s.heap.size:=⟨_,rfl⟩;rw[<-O];clear N O))
  all_goals(try clear s0 s1 s2 f0 f1 f2)
  all_goals clear B5 hM1 M3 Ak Cq hM5 jd Eu Fs Ep Ei h5
  all_goals rename_i ky
  all_goals clear ky
  all_goals revert Rn
  all_goals revert P
  all_goals revert en
  all_goals revert bc
  all_goals revert I
  all_goals revert r
  all_goals revert G9
  all_goals revert E
  all_goals revert C
  all_goals revert G
  all_goals revert D
  all_goals revert F
  all_goals revert p45
  all_goals revert p44
  all_goals revert p43
  all_goals revert p42
  all_goals revert p41
  all_goals revert p35
  all_goals revert p34
  all_goals revert p33
  all_goals revert p32
  all_goals revert p31
  all_goals revert p25
  all_goals revert Dz
  all_goals revert Eo
  all_goals revert Fl
  all_goals revert Ex
  all_goals revert Fg
  all_goals revert Fy
  all_goals revert Fh
  all_goals revert Ga
  all_goals revert Fu
  all_goals exact REST.out
 case k=>
  intro Fu Ga Fh Fy Fg Ex Fl Eo Dz p25 p31 p32 p33 p34 p35 p41 p42 p43 p44 p45 F D G C E G9 r I bc en P Rn;have C7:I < r.heap.size:=O1 P;obtain⟨y0,y1,y2,-,-,-⟩:=own3 P;have Bu:=en.blk Cu;have Il:=en.size;have qj:=hdq (show∀d:aL,(∀y,y < r.heap.size->y≠w.heap.size+1->d.heap[y]? =r.heap[y]?)->d.cell? ⟨w.heap.size,2,none⟩=some (.slice (some ⟨H,o0,none⟩) B.length cap)/\d.cell? ⟨H,o0+6,none⟩=some (m0 k2)/\d.cell? ⟨H,o0+7,none⟩=some (m0 Z)/\d.cell? ⟨H,o0+8,none⟩=some (.slice A2 q17.length F7)/\d.cell? ⟨wr.heap.size,0,none⟩=some (m0 U)/\d.cell? ⟨wr.heap.size,1,none⟩=some (m0 V)/\d.cell? ⟨wr.heap.size,2,none⟩=some (.slice A4 q38.length R7)/\d.cell? ⟨I,0,none⟩=some (m0 F)/\d.cell? ⟨I,1,none⟩=some (m0 D)/\d.cell? ⟨I,2,none⟩=some (.slice G C E) from fun d hw=> by
   obtain⟨r1,r2,r3,r4,r5,r6,r7,r8,r9,r10,r11,r12,r13⟩:=M.out r en d (fun y m h2=> hw y (by omega) h2);have f: ∀(j:Nat) (x:aT),r.cell? ⟨I,j,none⟩=some x->d.cell? ⟨I,j,none⟩=some x:=fun j x h3=>(dY (a:=⟨I,j,none⟩) (hw I C7 (by omega))).trans h3
   exact⟨r1,r8,r9,r10,r11,r12,r13,f _ _ y0,f _ _ y1,f _ _ y2⟩)
  have X7:Ext r r.drew:=(xr r).drew;have L27:=L2.ext en;have L47:=L4.ext en;have HE7:=hdq (Y.trans en);clear y0 y1 y2 M Cu L0 L1 L2 L4;go_wp2_with fail
  go_region_held3 (fun d=> d.cell? ⟨w.heap.size,2,none⟩=some (.slice (some ⟨H,o0,none⟩) B.length cap)/\d.cell? ⟨H,o0+6,none⟩=some (m0 k2)/\d.cell? ⟨H,o0+7,none⟩=some (m0 Z)/\d.cell? ⟨H,o0+8,none⟩=some (.slice A2 q17.length F7)/\d.cell? ⟨wr.heap.size,0,none⟩=some (m0 U)/\d.cell? ⟨wr.heap.size,1,none⟩=some (m0 V)/\d.cell? ⟨wr.heap.size,2,none⟩=some (.slice A4 q38.length R7)/\d.cell? ⟨I,0,none⟩=some (m0 F)/\d.cell? ⟨I,1,none⟩=some (m0 D)/\d.cell? ⟨I,2,none⟩=some (.slice G C E))
   (first|exact qj.out _ (fun y m h2=> by rw[aM _ _ _ _ h2,aM _ _ _ _ h2,aM _ _ _ _ h2];exact Fw.heap y m) |exact qj.out _ (fun y m _=> by with_reducible exact Ext.heap (Fw) y m) |exact qj.out _ (fun y m _=> by with_reducible exact Ext.heap (Fx.alloc _) y m) |exact qj.out _ (fun y m _=> by with_reducible exact Ext.heap (Fx) y m) |exact qj.out _ (fun y m _=> by with_reducible exact Ext.heap (H9.alloc _) y m) |exact qj.out _ (fun y m _=> by with_reducible exact Ext.heap (H9) y m) |exact qj.out _ (fun y m _=> by with_reducible exact Ext.heap (H8) y m) |exact qj.out _ (fun y m _=> by with_reducible exact Ext.heap (X7) y m))
   (first|(go_at_call 60;(with_reducible show aX _ _ #[m0 5,.slice (some ⟨T3.heap.size,0,none⟩) 2 2] _ _);refine(Ui (Cl.later ((xr T3).alloc _)) (InT.later Rn (Fx.alloc _)) (aS T3 _)).mono ?_;rintro e ee ⟨a1,a2,a3,a4,a5,z11,y11,rfl,Du,h11,Hl,hy11⟩;have Fw:Ext r ee:=(Fx.alloc _).trans h11;obtain⟨s0,s1,s2,f0,f1,f2⟩:=own3 (Fw.blk Bu)) |(go_at_call 60;(with_reducible show aX _ _ #[m0 5,.slice (some ⟨w9.heap.size,0,none⟩) 2 2] _ _);refine(Ui (Cs.later (z.alloc _)) (Bj.later ((xr w9).alloc _)) (aS w9 _)).mono ?_;rintro e T3 ⟨e1,e2,e3,e4,e5,z10,y10,rfl,Cl,h10,Gu,hy10⟩;have Fx:Ext r T3:=(H9.alloc _).trans h10) |(go_at_call_of 46 A4;refine(Ur _ _ _ (L47.ext H8) (by omega)).mono ?_;rintro e w9 ⟨Ex,Fl,Eo,Dz,p25,z9,y9,rfl,Bj,z,hz9,hy9⟩;have H9:Ext r w9:=H8.trans z) |(go_at_call_of 46 A2;refine(Ur _ _ _ (L27.ext X7) (by omega)).mono ?_;rintro e w8 ⟨Fu,Ga,Fh,Fy,Fg,z8,y8,rfl,Cs,h8,hz8,hy8⟩;have H8:Ext r w8:=X7.trans h8))
  have t8:=H8.size;have t9:=z.size;have t10:=h10.size;have t11:=h11.size;simp at hz8 hz9 Gu Hl
  simp at t10 t11
  have Km:=hdq Du.bound;have HX:=hdq (HE7.out.trans Fw);clear Bu P Rn qj Cs Bj Cl Du;go_wp2_with fail;refine aP (v:= M0 a1 a2 a3 a4 a5) (by simp[results,results171,go_sem,s0,s1,s2]) rfl ⟨_,rfl, ?_, ?_⟩
  · refine InT.mono ?ca ?cb Km.out
    case ca=> exact fun b l=> by have h8:=l.1;have z:=l.2;simp only[eZ];exact⟨by omega,z⟩
    case cb=>
     intro b l;have g:b≠w.heap.size+1:=by have z:=l.1;omega
     rw[aM _ _ _ _ g,aM _ _ _ _ g,aM _ _ _ _ g]
  · exact((HX.out.setCell (p:=⟨w.heap.size+1,0,none⟩) (by show w.heap.size<=w.heap.size+1;omega) _).setCell (p:=⟨w.heap.size+1,1,none⟩) (by show w.heap.size<=w.heap.size+1;omega) _).setCell (p:=⟨w.heap.size+1,2,none⟩) (by show w.heap.size<=w.heap.size+1;omega) _
theorem QJ(t:Tr)(hv:j0 D0 t=true)(hr:Hf t=true)(w:aL)(v:aT)(a:Lies w t v):aX prog 171 #[v] w (Ov w (ctrT t)):=by
 obtain⟨k,n,b⟩:=t;obtain⟨A,cap,rfl,hl,hc,hK⟩:=Lies.mk_iff.1 a;have f: ∀{t:Tr} {e:Ending} {c:aL},Sg w t e c->Ov w t e c:=fun⟨r,i,g,d⟩=>⟨r,i,g.inT,d⟩
 rcases pl (Xv.1 hr) with⟨rfl,h⟩ |⟨rfl,h⟩ |⟨rfl,h⟩ |⟨rfl,h⟩ |⟨rfl,h⟩ |⟨rfl,h⟩
 · exact(gq n b hv w A cap a hK hl hc h).mono fun _ _=> f
 · exact(Om n b hv w A cap a hK hl hc h).mono fun _ _=> f
 · exact Dp n b hv w A cap a hK hl hc h
 · exact(uq n b hv w A cap a hK hl hc h).mono fun _ _=> f
 · exact(Zn n b hv w A cap a hK hl hc h).mono fun _ _=> f
 · exact(dq n b hv w A cap a hK hl hc h).mono fun _ _=> f
theorem RG(t:Tr)(hv:j0 D0 t=true)(hr:Hf t=true)(w:aL)(v:aT)(a:Lies w t v):aX prog 173 #[v] w (Pf w (ctrT t)):=by
 obtain⟨k,n,b⟩:=t;obtain⟨A,cap,rfl,hl,hc,hK⟩:=Lies.mk_iff.1 a;rcases pl (Xv.1 hr) with⟨rfl,h⟩ |⟨rfl,h⟩ |⟨rfl,h⟩ |⟨rfl,h⟩ |⟨rfl,h⟩ |⟨rfl,h⟩
 · exact OH n b hv w A cap a hK hl hc h
 · exact jJ n b hv w A cap a hK hl hc h
 · exact RI n b hv w A cap a hK hl hc h
 · exact KH n b hv w A cap a hK hl hc h
 · exact gF n b hv w A cap a hK hl hc h
 · exact MI n b hv w A cap a hK hl hc h
theorem vv(t:Tr)(path:List Int)(u:Tr)(F:aa t path=some u)(w:aL)(v:aT)(O:Lies w t v)(A:Option Addr)(cap:Nat)(hl:path.length<=cap)(hc:cap<=aV)(hP:Sa w A path):
 aX prog 174 #[v,.slice A path.length cap] w fun e T=> ∃x,e= .returned x/\Lies T u x/\Ext w T:=by
 obtain⟨k,n,G⟩:=t;obtain⟨At,ct,rfl,H,l8,W⟩:=Lies.mk_iff.1 O;have E:=hc;unfold aV at E;have d:=((xr w).alloc (.cells #[.int .i64 k,.int .i64 n,.slice At G.length ct] 25)).alloc (.cells #[.int .i64 0,.int .i64 0,.slice none 0 0] 25);obtain⟨p,f,B⟩:=blk2 (xr ((w.alloc (.cells #[.int .i64 k,.int .i64 n,.slice At G.length ct] 25)).alloc (.cells #[.int .i64 0,.int .i64 0,.slice none 0 0] 25)));clear O;go_enter func174,ntmps174;go_wp2_with fail;generalize aO (aO w _) _=wS at d p f B⊢
 go_loopw [9] (fun i wr=> ∃(j:Nat) (q l:Int) (kids:List Tr) (z:Option Addr) (g:Nat),j<=path.length/\i= .int .i64 j/\
  Hid (aa (.mk q l kids) (path.drop j)=some u)/\kids.length<=g/\g<=aV/\y22 w z kids/\
  wr.heap[w.heap.size]? =some (.cells #[.int .i64 q,.int .i64 l,.slice z kids.length g] 25 (0,0))/\wr.heap[w.heap.size+1]? =some (.cells #[.int .i64 0,.int .i64 0,.slice none 0 0] 25 (0,0))/\Ext w wr) (fun i _=> path.length -(intOf i).toNat)
 case atStart=> exact⟨0,k,n,G,At,ct,Nat.zero_le _,rfl,hdq F,H,l8,W,p,f,d⟩
 case round=>
  obtain⟨j,q,l,kids,z,g,hj,rfl,y,I5,J,hK,S,I,hx⟩:=hrel;have hsz:w.heap.size+1 < wr.heap.size:=O1 I;obtain⟨z0,z1,z2,f0,f1,f2⟩:=own3 S;obtain⟨X,y1,y2,g0,g1,g2⟩:=own3 I;by_cases U:j < path.length
  · obtain⟨bp,op,rfl,cp⟩:=hP.get hx U
    have s:path.drop j=path[j]::path.drop (j+1):=List.drop_eq_getElem_cons U;have a:=y.out;rw[s,TG] at a;clear y s;generalize path[j]=i at cp a;have qd:(j:Int) <(path.length:Int):=by omega
    have kq:(0:Int)<=(j:Int):=Int.natCast_nonneg _;have c:0<=i/\i <(kids.length:Int):=by
     split at a
     · assumption
     · cases a
    rw[if_pos c] at a;obtain⟨m,rfl⟩:=Int.eq_ofNat_of_zero_le c.1;have hm:m < kids.length:=by omega
    have K:((m:Int)).toNat=m:=by omega
    rw[K] at a;obtain⟨b,o,P,N,Y,c2,q17,rfl,M,L,Q,V,Z,ej,D,S5,e9⟩:=hK.get (xr w) hm;have R:kd kids m= .mk P N q17:=be hm M.out;rw[R] at a;have C:=hdq a;have hm2:(m:Int) <(kids.length:Int):=c.2;have hm0:(0:Int)<=(m:Int):=c.1;have c0:=hx.cell L;have c1:=hx.cell Q;have Kl:=hx.cell V;clear R M e9 c K L Q V a;have Y6:=J;unfold aV at Y6;go_wp2_with fail
    go_roundw
    case rel=> exact⟨j+1,P,N,q17,Y,c2,by omega,by go_num,C,Z,ej,D,N5 (N5 (N5 S 0 _) 1 _) 2 _,Bd (Bd (Bd I (by simp) _) (by simp) _) (by simp) _,((hx.setCell (by simp) _).setCell (by simp) _).setCell (by simp) _⟩
    case measure=> simp[intOf];omega
  · have r:path.drop j= []:=List.drop_of_length_le (by omega)
    have a:=y.out;rw[r] at a;have HU:(.mk q l kids:Tr)=u:=by simpa[aa] using a
    clear y a r;go_wp2_with fail;refine aP (v:= .agg #[.int .i64 q,.int .i64 l,.slice z kids.length g]) (by simp[results,results174,go_sem,X,y1,y2]) rfl ⟨_,rfl, ?_, ?_⟩
    · rw[<-HU]
      exact Lies.mk I5 J (hK.ext (((hx.setCell (by simp) _).setCell (by simp) _).setCell (by simp) _))
    · exact(((hx.setCell (by simp) _).setCell (by simp) _).setCell (by simp) _)
theorem ZJ(t:Tr)(p:List Int)(hv:j0 D0 t=true)(hr:bb t p=true)(w:aL)(v:aT)(T:Lies w t v)(A:Option Addr)(n cap:Nat)(i:Oi w A n cap p)(hn:n<=1000):
 aX prog 132 #[v,.slice A n cap] w fun e I=> ∃r,e= .returned (.tuple #[r,.bool (we t p).2])/\W0 w I 25 (we t p).1 r/\Ext w I:=by
 obtain⟨u,d,j⟩:=nu hr;have ko:=NA hv d;have J:conA t p=m8 t p (ctrT u):=by unfold conA;rw[d]
 have q:=hdq (fun W (H:Ext w W)=> by
  have:=vv t p u d W v (T.ext H) A cap (by rw[i.hn];exact i.hl) i.hc (i.hP.ext H);rw[i.hn] at this;exact this)
 have ii:=hdq (fun W x (hx:Lies W u x)=> RG u ko j W x hx);have L:=hdq (fun W (H:Ext w W) x (hx:Lies W (ctrT u) x)=> Pp p t (ctrT u) 30 (Ki hv).2 (by rw[d];rfl) W v x (fun b=> b < W.heap.size) (fun _ h=> h) (T.ext H) hx A n cap (i.ext H) hn (by have:=(Ki hv).1;omega));have K:j0 D0 (ctrT u)=true->cnt (m8 t p (ctrT u))<=1000000:=fun h=> by
  have C:=KC p t (ctrT u) u d;have m:=(Ki h).1;have h3:=(Ki hv).1;omega
 have G:=YE (t:=t) d;have B:(we t p).1=okT (m8 t p (ctrT u)):=by unfold we okT;rw[J];split <;> rfl
 have E:(we t p).2=j0 D0 (m8 t p (ctrT u)):=by
  unfold we;rw[J];split
  · rename_i h;exact h.symm
  · rename_i h;exact(Bool.eq_false_iff.2 h).symm
 rw[J] at G;rw[B,E];clear B E J d j hr ko;generalize m8 t p (ctrT u)=X at L K G⊢;generalize ctrT u=c at ii L K G;obtain⟨k,nn,Z⟩:=t;obtain⟨At,ct,rfl,-,-,-⟩:=Lies.mk_iff.1 T;have a:=((xr w).alloc (H0 k nn At Z.length ct)).alloc (H0 0 0 none 0 0);obtain⟨D,f,hs2⟩:=blk2 (xr ((w.alloc (H0 k nn At Z.length ct)).alloc (H0 0 0 none 0 0)));obtain⟨wS,s⟩: ∃x,x=(w.alloc (H0 k nn At Z.length ct)).alloc (H0 0 0 none 0 0):=⟨_,rfl⟩;rw[<-s] at a D f hs2;obtain⟨z,l⟩: ∃z,j0 D0 c=z:=⟨_,rfl⟩;have xq:=hdq (show∀W x,Lies W u x->aX prog 173 #[x] W fun e I=> ∃r,e= .returned (.tuple #[r,.bool z])/\W0 W I 25 (okT c) r/\Ext W I from fun W x hx=> l▸ii.out W x hx);clear ii;have Iz:=hdq (show z=true->okT c=c from fun h=> by unfold okT;rw[if_pos (l.trans h)]);have Lv:=hdq (show z=false->j0 D0 X=false from fun h=> Bool.eq_false_iff.2 fun h'=> by have:=G h';rw[l,h] at this;cases this);have O:=hdq (show z=true->cnt X<=1000000 from fun h=> K (l.trans h));clear l K G;cases z with
 |false=>
  have g:=Lv.out rfl;have E3:okT X=j2:=by unfold okT;rw[if_neg (by rw[g];decide)]
  rw[g,E3];clear Lv Iz O g E3 L;go_enter func132,ntmps132;go_wp2_with fail;rw[<-s];clear s;refine(q.out _ a).mono ?_;rintro e w1 ⟨x,rfl,M,C⟩;go_wp2_with fail;refine(xq.out _ _ M).mono ?_;rintro e R ⟨r,rfl,F,m⟩;obtain⟨a1,P,U,Y,a5,rfl⟩:=F.three';obtain⟨V,s1,Q,f0,f1,f2⟩:=own3 (((C.trans m).trans ((xr R).alloc (H0 a1 P U Y a5))).blk f);go_wp2_with fail;refine aP (v:= .tuple #[M0 0 0 none 0 0,.bool false]) (by simp[results,results132,go_sem,V,s1,Q]) rfl ⟨_,rfl,W0.leaf _ _ _ 0 0, ?_⟩;exact((((((a.trans C).trans m).alloc _).setCell (by simp) _).setCell (by simp) _).setCell (by simp) _)
 |true=>
  have g:=Iz.out rfl;have HC:=O.out rfl;rw[g] at xq;clear Lv Iz O g;go_enter func132,ntmps132;go_wp2_with fail;rw[<-s];clear s;refine(q.out _ a).mono ?_;rintro e w1 ⟨x,rfl,M,C⟩;go_wp2_with fail;refine(xq.out _ _ M).mono ?_;rintro e R ⟨r,rfl,F,m⟩;obtain⟨a1,P,U,Y,a5,rfl⟩:=F.three';have h3:=(xr R).alloc (H0 a1 P U Y a5);have N:=(C.trans m).trans h3;obtain⟨z0,z1,z2,-,-,-⟩:=own3 (N.blk D);have o:=F.lies.ext h3;clear F M;go_wp2_with fail;refine(L.out _ (a.trans N) _ o).mono ?_;rintro e w4 ⟨y,rfl,hY,S⟩;have hLY:Lies w4 X y:=InT.mono (fun b hb=> by rcases hb with h|h;exact Nat.lt_of_lt_of_le h S.size;exact h.2) (fun _ _=> rfl) hY;clear hY o;go_wp2_with fail;refine(Qg _ _ _ hLY HC).mono ?_;rintro e w5 ⟨yo,rfl,Bb,h5⟩;go_wp2_with fail;refine(Tx Bb).mono ?_;rintro e w6 ⟨b1,b2,b3,b4,b5,rfl,hM6,h6⟩;have D7:=((N.trans S).trans h5).trans h6;obtain⟨V,s1,Q,f0,f1,f2⟩:=own3 (D7.blk f);have hw4:w.heap.size+2<=w4.heap.size:=by have:=a.size;have:=(N.trans S).size;omega
  go_wp2_with fail;refine aP (v:= .tuple #[M0 b1 b2 b3 b4 b5,.bool (j0 D0 X)]) (by simp[results,results132,go_sem,V,s1,Q]) rfl ⟨_,rfl,W0.since (hM6.after ((((ja.refl _ _).setCell (p:=⟨w.heap.size+1,0,none⟩) (by show w.heap.size+1 < _;omega) (m0 b1)).setCell (p:=⟨w.heap.size+1,1,none⟩) (by show w.heap.size+1 < _;omega) (m0 b2)).setCell (p:=⟨w.heap.size+1,2,none⟩) (by show w.heap.size+1 < _;omega) (.slice b3 b4 b5))) (by omega), ?_⟩;exact((((a.trans D7).setCell (by simp) _).setCell (by simp) _).setCell (by simp) _)

/- Lemmas towards the law. -/
import Derived.Test.YtckhbnmfnpolgaaGreatTAR
open Go renaming World->aN,Calls->aY,Value->aU,heap_alloc_new->aT,bodyPost_ret->aQ,TypeId->bU
open Go.World renaming drew->eU,cell?_of_block->eN,block_lt_of_cell?->bY
open Nat renaming add_assoc->dZ,reduceAdd->eM,le_refl->aP,le_trans->bM,lt_of_lt_of_le->aZ
open Go.RowKit.Below renaming heap_setCell->aM
open Go.Proofs.Tryz
set_option linter.all false
set_option maxHeartbeats 4000000
set_option maxRecDepth 100000
namespace Go.Proofs.YtckhbnmfnpolgaaGreat
open Go.RowKit
structure RA (p:Prop):Prop where
 out:p
theorem kB{T p:Prop}(h:RA T->p)(k:T):p:=h ⟨k⟩
theorem p4{α:Type}(a:α): ∃x,x=a:=⟨a,rfl⟩
theorem da{w e:aN}{a b c d:Obj}(h:e=eU ((((w.alloc a).alloc b).alloc c).alloc d)):e.heap[w.heap.size]? =some a/\e.heap[w.heap.size+1]? =some b/\e.heap[w.heap.size+1+1]? =some c/\e.heap[w.heap.size+1+1+1]? =some d/\Ext w e:=by
 subst h;obtain⟨p,q,r,t,-⟩:=wo (xr ((((w.alloc a).alloc b).alloc c).alloc d)).drew;exact⟨p,q,r,t,(((((xr w).alloc a).alloc b).alloc c).alloc d).drew⟩
theorem It{w:aN}{k:Int}{A:Option Addr}{cap:Nat}{ks:List Tr}(hK:V8 w A ks)(hl:ks.length<=cap)(hc:cap<=maxLen):aY prog 56 #[j0 k,.slice A ks.length cap] w fun e w'=> ∃l j i d f,e= .returned (m0 l j i d f)/\Lies w' (.mk k 0 ks) (m0 l j i d f)/\Ext w w':=by
 refine(Qe w k A ks.length cap).mono ?_;rintro e w' ⟨rfl,h⟩;exact⟨_,_,_,_,_,rfl,Lies.mk hl hc (hK.ext h),h⟩
theorem Fk{w:aN}{k:Int}{g:Nat}{t1 t2:Tr}{v0 v1 v2 u0 u1 u2:aU}(p:Lies w t1 (.agg #[v0,v1,v2]))(n:Lies w t2 (.agg #[u0,u1,u2]))(f:w.heap[g]? =some (.cells #[v0,v1,v2,u0,u1,u2] 25 (0,0))):
 aY prog 56 #[j0 k,.slice (some ⟨g,0,none⟩) 2 2] w fun e w'=> ∃m l d i j,e= .returned (m0 m l d i j)/\Lies w' (.mk k 0 [t1,t2]) (m0 m l d i j)/\Ext w w':=
 It (ks:= [t1,t2]) (InK.two (e:=25) p n f (D1 f)) (by simp) (by decide)
theorem mv{w:aN}{k:Int}{g:Nat}{t1 t2 t3 t4:Tr}{v0 v1 v2 u0 u1 u2 x0 x1 x2 j i f:aU}(C:Lies w t1 (.agg #[v0,v1,v2]))(B:Lies w t2 (.agg #[u0,u1,u2]))(s:Lies w t3 (.agg #[x0,x1,x2]))(v:Lies w t4 (.agg #[j,i,f]))(d:w.heap[g]? =some (.cells #[v0,v1,v2,u0,u1,u2,x0,x1,x2,j,i,f] 25 (0,0))):
 aY prog 56 #[j0 k,.slice (some ⟨g,0,none⟩) 4 4] w fun e w'=> ∃q p l m n,e= .returned (m0 q p l m n)/\Lies w' (.mk k 0 [t1,t2,t3,t4]) (m0 q p l m n)/\Ext w w':=by
 refine It (ks:= [t1,t2,t3,t4]) (.inr ⟨g,0,rfl,D1 d, ?_⟩) (by simp) (by decide);unfold d5;refine⟨⟨v0,v1,v2,E1 d 0,E1 d 1,E1 d 2,C⟩, ?_⟩;unfold d5;refine⟨⟨u0,u1,u2,E1 d 3,E1 d 4,E1 d 5,B⟩, ?_⟩;unfold d5;refine⟨⟨x0,x1,x2,E1 d 6,E1 d 7,E1 d 8,s⟩, ?_⟩;unfold d5;refine⟨⟨j,i,f,E1 d 9,E1 d 10,E1 d 11,v⟩, ?_⟩;unfold d5
 trivial
theorem Hj{w:aN}{o:Obj}{n:Nat}(h:n=w.heap.size):(w.alloc o).heap[n]? =some o:=h▸aT w o
theorem YJ(n:Int)(ks:List Tr)(hv:valid sigT (.mk 9 n ks)=true)(w:aN)(A:Option Addr)(cap:Nat)(d6:Lies w (.mk 9 n ks) (.agg #[.int .i64 9,.int .i64 n,.slice A ks.length cap]))(hK:V8 w A ks)(hl:ks.length<=cap)(hc:cap<=maxLen)(hc3:(kd ks 3).kind=8):
 aY prog 173 #[.agg #[.int .i64 9,.int .i64 n,.slice A ks.length cap]] w (Sg w (ctr 9 ks)):=by
 obtain⟨hsh,D4⟩:=N4 hv;have a8:S0 9=(ks.length:Int):=(m6 hsh).1;have j7:ks.length=4:=by have h9:(4:Int)=(ks.length:Int):=a8;omega
 have hsk:=(m6 hsh).2.2.2;have K5: ∀t∈ks,valid sigT t=true:=fun t ht=> by
  have G:=hsk t ht;have h2:=ya ht;simp only[cnt] at D4;unfold valid;rw[Tf G (by decide),Bool.true_and,decide_eq_true_eq];omega
 have hcc:=hc;unfold maxLen at hcc;have C9:=hdq (fun W (hW:Ext w W)=> Nt (.mk 9 n ks) 30 hsh W _ (d6.ext hW));obtain⟨wb,x7⟩: ∃wb,wb=(w.alloc (.cells #[.int .i64 9,.int .i64 n,.slice A ks.length cap] 25)).alloc (.cells #[.int .i64 0,.int .i64 0,.slice none 0 0] 25):=⟨_,rfl⟩;have hX:Ext w wb:=x7▸((xr w).alloc _).alloc _;have hb0:wb.heap[w.heap.size]? =some (.cells #[.int .i64 9,.int .i64 n,.slice A ks.length cap] 25):=by rw[x7];exact(blk2 (xr _)).1
 have hb1:wb.heap[w.heap.size+1]? =some (.cells #[.int .i64 0,.int .i64 0,.slice none 0 0] 25):=by rw[x7];exact(blk2 (xr _)).2.1
 have hs0:w.heap.size+1 < wb.heap.size:=D1 hb1;have E8:0 < ks.length:=by omega
 have W6:(0:Int) <(ks.length:Int):=by omega
 obtain⟨U,o0,k0,n0,A0,s8,a6,ay,U7,J9,N7,L9,cm,fg,N5,B0,z7⟩:=hK.get (xr w) E8;simp only[Nat.zero_mul,Nat.add_zero] at J9 N7 L9;have y7:kd ks 0= .mk k0 n0 a6:=Vc E8 U7.out;have B7:1 < ks.length:=by omega
 have gy:(1:Int) <(ks.length:Int):=by omega
 obtain⟨b1,o1,k1,n1,A1,D3,q16,O3,E7,c10,c11,c12,Z4,ak,M6,p6,l8⟩:=hK.get (xr w) B7;simp only[Nat.one_mul,dZ,eM] at c10 c11 c12;have I9:kd ks 1= .mk k1 n1 q16:=Vc B7 E7.out;have G0:2 < ks.length:=by omega
 have iw:(2:Int) <(ks.length:Int):=by omega
 obtain⟨b2,o2,Y,n2,A2,G5,y17,iv,kg,c20,c21,fj,ic,gv,hK2,S9,J2⟩:=hK.get (xr w) G0;simp only[Nat.reduceMul,dZ,eM] at c20 c21 fj;have V9:kd ks 2= .mk Y n2 y17:=Vc G0 kg.out;have E6:3 < ks.length:=by omega
 have qj:(3:Int) <(ks.length:Int):=by omega
 obtain⟨b3,o3,k3,n3,A3,G6,j19,W8,U8,L5,c31,L8,fw,af,hK3,F9,q9⟩:=hK.get (xr w) E6;simp only[Nat.reduceMul,dZ,eM] at L5 c31 L8;have C7:kd ks 3= .mk k3 n3 j19:=Vc E6 U8.out;subst ay
 injection O3 with O3
 injection O3 with bi hC1 hD1
 subst bi hC1
 injection iv with iv
 injection iv with ui hC2 hD2
 subst ui hC2
 injection W8 with W8
 injection W8 with Cb hC3 hD3
 subst Cb hC3;rw[C7] at hc3;have He:k3=8:=hc3;subst He;have hv3:=K5 _ q9;have od:S0 8=(j19.length:Int):=(m6 (N4 hv3).1).1;have xg:j19.length=1:=by have h9:(1:Int)=(j19.length:Int):=od;omega
 have aa:0 < j19.length:=by omega
 have hi4:(0:Int) <(j19.length:Int):=by omega
 obtain⟨b4,o4,k4,Z,A4,S7,j37,Aq,Dt,c40,yn,xo,Kq,Hu,hK4,mn,bz⟩:=hK3.get (xr w) aa;simp only[Nat.zero_mul,Nat.add_zero] at c40 yn xo;have nc:kd j19 0= .mk k4 Z j37:=Vc aa Dt.out;subst Aq;have q0:=(N4 (K5 _ z7)).2;have q1:=(N4 (K5 _ l8)).2;have q2:=(N4 (K5 _ J2)).2;have q4:=(N4 hv3).2;have q5:=ya bz;have l9:ctr 9 ks= .mk 5 0 [.mk 5 0 [.mk Y n2 y17,.mk k4 Z j37],.mk 9 0 [.mk k0 n0 a6,.mk k1 n1 q16,.mk Y n2 y17,.mk k4 Z j37]]:=by rw[Yt (by rw[C7];rfl),y7,I9,V9,C7,show kd (Tr.kids (.mk 8 n3 j19)) 0=_ from nc]
 rw[l9];have I3:rdx 9 ks=3:=by unfold rdx;rw[C7];simp[Tr.kind]
 obtain⟨TT,F7⟩: ∃x,x=Tr.mk 5 0 [.mk 5 0 [.mk Y n2 y17,.mk k4 Z j37],.mk 9 0 [.mk k0 n0 a6,.mk k1 n1 q16,.mk Y n2 y17,.mk k4 Z j37]]:=⟨_,rfl⟩;rw[<-F7];have ug:cnt TT<=10000:=by rw[F7];simp only[cnt,O1] at*;omega
 have N8:=hdq F7;clear F7 l9;have hrt:J4 (.mk 9 n ks)=3:=I3;rw[hrt] at C9;clear hrt I3 j7 a8;clear xg;go_enter func173,ntmps173;go_wp2_with fail;rw[<-x7];clear x7;refine(C9.out _ hX).mono ?_;rintro e w1 ⟨rfl,G⟩;have V:=hX.trans G;have u6:=G.blk hb0;have o9:=G.blk hb1;have hs1:w.heap.size+1 < w1.heap.size:=D1 o9;obtain⟨z0,z1,z2,-,-,-⟩:=own3 u6;clear hb0 hb1 C9 G;have M:=hdq (show∀w':aN,Ext w1 w'->w'.cell? ⟨w.heap.size,2,none⟩=some (.slice (some ⟨U,o0,none⟩) ks.length cap)/\w'.cell? ⟨U,o0,none⟩=some (.int .i64 k0)/\w'.cell? ⟨U,o0+1,none⟩=some (.int .i64 n0)/\w'.cell? ⟨U,o0+2,none⟩=some (.slice A0 a6.length s8)/\w'.cell? ⟨U,o0+3,none⟩=some (.int .i64 k1)/\w'.cell? ⟨U,o0+4,none⟩=some (.int .i64 n1)/\w'.cell? ⟨U,o0+5,none⟩=some (.slice A1 q16.length D3)/\w'.cell? ⟨U,o0+6,none⟩=some (.int .i64 Y)/\w'.cell? ⟨U,o0+7,none⟩=some (.int .i64 n2)/\w'.cell? ⟨U,o0+8,none⟩=some (.slice A2 y17.length G5)/\w'.cell? ⟨U,o0+11,none⟩=some (.slice (some ⟨b4,o4,none⟩) j19.length G6)/\w'.cell? ⟨b4,o4,none⟩=some (.int .i64 k4)/\w'.cell? ⟨b4,o4+1,none⟩=some (.int .i64 Z)/\w'.cell? ⟨b4,o4+2,none⟩=some (.slice A4 j37.length S7) from fun w' h=>⟨h.cell z2,(V.trans h).cell J9,(V.trans h).cell N7,(V.trans h).cell L9,(V.trans h).cell c10,(V.trans h).cell c11,(V.trans h).cell c12,(V.trans h).cell c20,(V.trans h).cell c21,(V.trans h).cell fj,(V.trans h).cell L8,(V.trans h).cell c40,(V.trans h).cell yn,(V.trans h).cell xo⟩);have x8:Ext w1 w1.drew:=(xr w1).drew;have L0:=B0.ext V;have L1:=p6.ext V;have L2:=S9.ext V;have L4:=mn.ext V;clear U7 E7 kg U8 Dt y7 I9 V9 C7 nc N5 M6 hK2 hK3 hK4 B0 p6 S9 F9 mn z7 l8 J2 q9 bz hK d6 od J9 N7 L9 c10 c11 c12 c20 c21 fj L5 c31 L8 c40 yn xo z0 z1 z2 u6;go_wp2_with fail
 apply kB
 case h=>
  intro REST
  go_region_held3 (fun w'=> w'.cell? ⟨w.heap.size,2,none⟩=some (.slice (some ⟨U,o0,none⟩) ks.length cap)/\w'.cell? ⟨U,o0,none⟩=some (.int .i64 k0)/\w'.cell? ⟨U,o0+1,none⟩=some (.int .i64 n0)/\w'.cell? ⟨U,o0+2,none⟩=some (.slice A0 a6.length s8)/\w'.cell? ⟨U,o0+3,none⟩=some (.int .i64 k1)/\w'.cell? ⟨U,o0+4,none⟩=some (.int .i64 n1)/\w'.cell? ⟨U,o0+5,none⟩=some (.slice A1 q16.length D3)/\w'.cell? ⟨U,o0+6,none⟩=some (.int .i64 Y)/\w'.cell? ⟨U,o0+7,none⟩=some (.int .i64 n2)/\w'.cell? ⟨U,o0+8,none⟩=some (.slice A2 y17.length G5)/\w'.cell? ⟨U,o0+11,none⟩=some (.slice (some ⟨b4,o4,none⟩) j19.length G6)/\w'.cell? ⟨b4,o4,none⟩=some (.int .i64 k4)/\w'.cell? ⟨b4,o4+1,none⟩=some (.int .i64 Z)/\w'.cell? ⟨b4,o4+2,none⟩=some (.slice A4 j37.length S7))
   (first|exact M.out _ (by with_reducible exact((((x8).alloc _).alloc _).alloc _).alloc _) |exact M.out _ (by with_reducible exact(((((xr w1).alloc _).alloc _).alloc _).alloc _).drew) |exact M.out _ (by with_reducible exact(((x8).alloc _).alloc _).alloc _) |exact M.out _ (by with_reducible exact((((xr w1).alloc _).alloc _).alloc _).drew) |exact M.out _ (by with_reducible exact((x8).alloc _).alloc _) |exact M.out _ (by with_reducible exact(((xr w1).alloc _).alloc _).drew) |exact M.out _ (by with_reducible exact(x8).alloc _) |exact M.out _ (by with_reducible exact((xr w1).alloc _).drew) |exact M.out _ (by with_reducible exact x8))
   (fail)
  all_goals(obtain⟨R,hO0⟩: ∃x,x=Obj.cells #[.int .i64 k0,.int .i64 n0,.slice A0 a6.length s8] 25:=⟨_,rfl⟩;rw[<-hO0])
  all_goals(obtain⟨S,hO1⟩: ∃x,x=Obj.cells #[.int .i64 k1,.int .i64 n1,.slice A1 q16.length D3] 25:=⟨_,rfl⟩;rw[<-hO1])
  all_goals(obtain⟨T,hO2⟩: ∃x,x=Obj.cells #[.int .i64 Y,.int .i64 n2,.slice A2 y17.length G5] 25:=⟨_,rfl⟩;rw[<-hO2])
  all_goals(obtain⟨O,iu⟩: ∃x,x=Obj.cells #[.int .i64 k4,.int .i64 Z,.slice A4 j37.length S7] 25:=⟨_,rfl⟩;rw[<-iu])
  all_goals(first
   |(obtain⟨l,i⟩:=p4 (eU ((((w1.alloc R).alloc S).alloc T).alloc O));rw[<-i];obtain⟨s,m,C,B,J⟩:=da i;obtain⟨K,E⟩:=p4 (w1.heap.size+1+1+1);rw[<-E] at B⊢;obtain⟨I,D⟩:=p4 (w1.heap.size+1+1);rw[<-D] at C⊢;obtain⟨H,F⟩:=p4 (w1.heap.size+1);rw[<-F] at m⊢;obtain⟨L,d⟩:=p4 (w1.heap.size);rw[<-d] at s⊢)
   |(obtain⟨l,i⟩:=p4 (eU ((((w1.alloc R).alloc S).alloc O).alloc T));rw[<-i];obtain⟨s,m,B,C,J⟩:=da i;obtain⟨I,D⟩:=p4 (w1.heap.size+1+1+1);rw[<-D] at C⊢;obtain⟨K,E⟩:=p4 (w1.heap.size+1+1);rw[<-E] at B⊢;obtain⟨H,F⟩:=p4 (w1.heap.size+1);rw[<-F] at m⊢;obtain⟨L,d⟩:=p4 (w1.heap.size);rw[<-d] at s⊢)
   |(obtain⟨l,i⟩:=p4 (eU ((((w1.alloc R).alloc T).alloc S).alloc O));rw[<-i];obtain⟨s,C,m,B,J⟩:=da i;obtain⟨K,E⟩:=p4 (w1.heap.size+1+1+1);rw[<-E] at B⊢;obtain⟨H,F⟩:=p4 (w1.heap.size+1+1);rw[<-F] at m⊢;obtain⟨I,D⟩:=p4 (w1.heap.size+1);rw[<-D] at C⊢;obtain⟨L,d⟩:=p4 (w1.heap.size);rw[<-d] at s⊢)
   |(obtain⟨l,i⟩:=p4 (eU ((((w1.alloc R).alloc T).alloc O).alloc S));rw[<-i];obtain⟨s,C,B,m,J⟩:=da i;obtain⟨H,F⟩:=p4 (w1.heap.size+1+1+1);rw[<-F] at m⊢;obtain⟨K,E⟩:=p4 (w1.heap.size+1+1);rw[<-E] at B⊢;obtain⟨I,D⟩:=p4 (w1.heap.size+1);rw[<-D] at C⊢;obtain⟨L,d⟩:=p4 (w1.heap.size);rw[<-d] at s⊢)
   |(obtain⟨l,i⟩:=p4 (eU ((((w1.alloc R).alloc O).alloc S).alloc T));rw[<-i];obtain⟨s,B,m,C,J⟩:=da i;obtain⟨I,D⟩:=p4 (w1.heap.size+1+1+1);rw[<-D] at C⊢;obtain⟨H,F⟩:=p4 (w1.heap.size+1+1);rw[<-F] at m⊢;obtain⟨K,E⟩:=p4 (w1.heap.size+1);rw[<-E] at B⊢;obtain⟨L,d⟩:=p4 (w1.heap.size);rw[<-d] at s⊢)
   |(obtain⟨l,i⟩:=p4 (eU ((((w1.alloc R).alloc O).alloc T).alloc S));rw[<-i];obtain⟨s,B,C,m,J⟩:=da i;obtain⟨H,F⟩:=p4 (w1.heap.size+1+1+1);rw[<-F] at m⊢;obtain⟨I,D⟩:=p4 (w1.heap.size+1+1);rw[<-D] at C⊢;obtain⟨K,E⟩:=p4 (w1.heap.size+1);rw[<-E] at B⊢;obtain⟨L,d⟩:=p4 (w1.heap.size);rw[<-d] at s⊢)
   |(obtain⟨l,i⟩:=p4 (eU ((((w1.alloc S).alloc R).alloc T).alloc O));rw[<-i];obtain⟨m,s,C,B,J⟩:=da i;obtain⟨K,E⟩:=p4 (w1.heap.size+1+1+1);rw[<-E] at B⊢;obtain⟨I,D⟩:=p4 (w1.heap.size+1+1);rw[<-D] at C⊢;obtain⟨L,d⟩:=p4 (w1.heap.size+1);rw[<-d] at s⊢;obtain⟨H,F⟩:=p4 (w1.heap.size);rw[<-F] at m⊢)
   |(obtain⟨l,i⟩:=p4 (eU ((((w1.alloc S).alloc R).alloc O).alloc T));rw[<-i];obtain⟨m,s,B,C,J⟩:=da i;obtain⟨I,D⟩:=p4 (w1.heap.size+1+1+1);rw[<-D] at C⊢;obtain⟨K,E⟩:=p4 (w1.heap.size+1+1);rw[<-E] at B⊢;obtain⟨L,d⟩:=p4 (w1.heap.size+1);rw[<-d] at s⊢;obtain⟨H,F⟩:=p4 (w1.heap.size);rw[<-F] at m⊢)
   |(obtain⟨l,i⟩:=p4 (eU ((((w1.alloc S).alloc T).alloc R).alloc O));rw[<-i];obtain⟨m,C,s,B,J⟩:=da i;obtain⟨K,E⟩:=p4 (w1.heap.size+1+1+1);rw[<-E] at B⊢;obtain⟨L,d⟩:=p4 (w1.heap.size+1+1);rw[<-d] at s⊢;obtain⟨I,D⟩:=p4 (w1.heap.size+1);rw[<-D] at C⊢;obtain⟨H,F⟩:=p4 (w1.heap.size);rw[<-F] at m⊢)
   |(obtain⟨l,i⟩:=p4 (eU ((((w1.alloc S).alloc T).alloc O).alloc R));rw[<-i];obtain⟨m,C,B,s,J⟩:=da i;obtain⟨L,d⟩:=p4 (w1.heap.size+1+1+1);rw[<-d] at s⊢;obtain⟨K,E⟩:=p4 (w1.heap.size+1+1);rw[<-E] at B⊢;obtain⟨I,D⟩:=p4 (w1.heap.size+1);rw[<-D] at C⊢;obtain⟨H,F⟩:=p4 (w1.heap.size);rw[<-F] at m⊢)
   |(obtain⟨l,i⟩:=p4 (eU ((((w1.alloc S).alloc O).alloc R).alloc T));rw[<-i];obtain⟨m,B,s,C,J⟩:=da i;obtain⟨I,D⟩:=p4 (w1.heap.size+1+1+1);rw[<-D] at C⊢;obtain⟨L,d⟩:=p4 (w1.heap.size+1+1);rw[<-d] at s⊢;obtain⟨K,E⟩:=p4 (w1.heap.size+1);rw[<-E] at B⊢;obtain⟨H,F⟩:=p4 (w1.heap.size);rw[<-F] at m⊢)
   |(obtain⟨l,i⟩:=p4 (eU ((((w1.alloc S).alloc O).alloc T).alloc R));rw[<-i];obtain⟨m,B,C,s,J⟩:=da i;obtain⟨L,d⟩:=p4 (w1.heap.size+1+1+1);rw[<-d] at s⊢;obtain⟨I,D⟩:=p4 (w1.heap.size+1+1);rw[<-D] at C⊢;obtain⟨K,E⟩:=p4 (w1.heap.size+1);rw[<-E] at B⊢;obtain⟨H,F⟩:=p4 (w1.heap.size);rw[<-F] at m⊢)
   |(obtain⟨l,i⟩:=p4 (eU ((((w1.alloc T).alloc R).alloc S).alloc O));rw[<-i];obtain⟨C,s,m,B,J⟩:=da i;obtain⟨K,E⟩:=p4 (w1.heap.size+1+1+1);rw[<-E] at B⊢;obtain⟨H,F⟩:=p4 (w1.heap.size+1+1);rw[<-F] at m⊢;obtain⟨L,d⟩:=p4 (w1.heap.size+1);rw[<-d] at s⊢;obtain⟨I,D⟩:=p4 (w1.heap.size);rw[<-D] at C⊢)
   |(obtain⟨l,i⟩:=p4 (eU ((((w1.alloc T).alloc R).alloc O).alloc S));rw[<-i];obtain⟨C,s,B,m,J⟩:=da i;obtain⟨H,F⟩:=p4 (w1.heap.size+1+1+1);rw[<-F] at m⊢;obtain⟨K,E⟩:=p4 (w1.heap.size+1+1);rw[<-E] at B⊢;obtain⟨L,d⟩:=p4 (w1.heap.size+1);rw[<-d] at s⊢;obtain⟨I,D⟩:=p4 (w1.heap.size);rw[<-D] at C⊢)
   |(obtain⟨l,i⟩:=p4 (eU ((((w1.alloc T).alloc S).alloc R).alloc O));rw[<-i];obtain⟨C,m,s,B,J⟩:=da i;obtain⟨K,E⟩:=p4 (w1.heap.size+1+1+1);rw[<-E] at B⊢;obtain⟨L,d⟩:=p4 (w1.heap.size+1+1);rw[<-d] at s⊢;obtain⟨H,F⟩:=p4 (w1.heap.size+1);rw[<-F] at m⊢;obtain⟨I,D⟩:=p4 (w1.heap.size);rw[<-D] at C⊢)
   |(obtain⟨l,i⟩:=p4 (eU ((((w1.alloc T).alloc S).alloc O).alloc R));rw[<-i];obtain⟨C,m,B,s,J⟩:=da i;obtain⟨L,d⟩:=p4 (w1.heap.size+1+1+1);rw[<-d] at s⊢;obtain⟨K,E⟩:=p4 (w1.heap.size+1+1);rw[<-E] at B⊢;obtain⟨H,F⟩:=p4 (w1.heap.size+1);rw[<-F] at m⊢;obtain⟨I,D⟩:=p4 (w1.heap.size);rw[<-D] at C⊢)
   |(obtain⟨l,i⟩:=p4 (eU ((((w1.alloc T).alloc O).alloc R).alloc S));rw[<-i];obtain⟨C,B,s,m,J⟩:=da i;obtain⟨H,F⟩:=p4 (w1.heap.size+1+1+1);rw[<-F] at m⊢;obtain⟨L,d⟩:=p4 (w1.heap.size+1+1);rw[<-d] at s⊢;obtain⟨K,E⟩:=p4 (w1.heap.size+1);rw[<-E] at B⊢;obtain⟨I,D⟩:=p4 (w1.heap.size);rw[<-D] at C⊢)
   |(obtain⟨l,i⟩:=p4 (eU ((((w1.alloc T).alloc O).alloc S).alloc R));rw[<-i];obtain⟨C,B,m,s,J⟩:=da i;obtain⟨L,d⟩:=p4 (w1.heap.size+1+1+1);rw[<-d] at s⊢;obtain⟨H,F⟩:=p4 (w1.heap.size+1+1);rw[<-F] at m⊢;obtain⟨K,E⟩:=p4 (w1.heap.size+1);rw[<-E] at B⊢;obtain⟨I,D⟩:=p4 (w1.heap.size);rw[<-D] at C⊢)
   |(obtain⟨l,i⟩:=p4 (eU ((((w1.alloc O).alloc R).alloc S).alloc T));rw[<-i];obtain⟨B,s,m,C,J⟩:=da i;obtain⟨I,D⟩:=p4 (w1.heap.size+1+1+1);rw[<-D] at C⊢;obtain⟨H,F⟩:=p4 (w1.heap.size+1+1);rw[<-F] at m⊢;obtain⟨L,d⟩:=p4 (w1.heap.size+1);rw[<-d] at s⊢;obtain⟨K,E⟩:=p4 (w1.heap.size);rw[<-E] at B⊢)
   |(obtain⟨l,i⟩:=p4 (eU ((((w1.alloc O).alloc R).alloc T).alloc S));rw[<-i];obtain⟨B,s,C,m,J⟩:=da i;obtain⟨H,F⟩:=p4 (w1.heap.size+1+1+1);rw[<-F] at m⊢;obtain⟨I,D⟩:=p4 (w1.heap.size+1+1);rw[<-D] at C⊢;obtain⟨L,d⟩:=p4 (w1.heap.size+1);rw[<-d] at s⊢;obtain⟨K,E⟩:=p4 (w1.heap.size);rw[<-E] at B⊢)
   |(obtain⟨l,i⟩:=p4 (eU ((((w1.alloc O).alloc S).alloc R).alloc T));rw[<-i];obtain⟨B,m,s,C,J⟩:=da i;obtain⟨I,D⟩:=p4 (w1.heap.size+1+1+1);rw[<-D] at C⊢;obtain⟨L,d⟩:=p4 (w1.heap.size+1+1);rw[<-d] at s⊢;obtain⟨H,F⟩:=p4 (w1.heap.size+1);rw[<-F] at m⊢;obtain⟨K,E⟩:=p4 (w1.heap.size);rw[<-E] at B⊢)
   |(obtain⟨l,i⟩:=p4 (eU ((((w1.alloc O).alloc S).alloc T).alloc R));rw[<-i];obtain⟨B,m,C,s,J⟩:=da i;obtain⟨L,d⟩:=p4 (w1.heap.size+1+1+1);rw[<-d] at s⊢;obtain⟨I,D⟩:=p4 (w1.heap.size+1+1);rw[<-D] at C⊢;obtain⟨H,F⟩:=p4 (w1.heap.size+1);rw[<-F] at m⊢;obtain⟨K,E⟩:=p4 (w1.heap.size);rw[<-E] at B⊢)
   |(obtain⟨l,i⟩:=p4 (eU ((((w1.alloc O).alloc T).alloc R).alloc S));rw[<-i];obtain⟨B,C,s,m,J⟩:=da i;obtain⟨H,F⟩:=p4 (w1.heap.size+1+1+1);rw[<-F] at m⊢;obtain⟨L,d⟩:=p4 (w1.heap.size+1+1);rw[<-d] at s⊢;obtain⟨I,D⟩:=p4 (w1.heap.size+1);rw[<-D] at C⊢;obtain⟨K,E⟩:=p4 (w1.heap.size);rw[<-E] at B⊢)
   |(obtain⟨l,i⟩:=p4 (eU ((((w1.alloc O).alloc T).alloc S).alloc R));rw[<-i];obtain⟨B,C,m,s,J⟩:=da i;obtain⟨L,d⟩:=p4 (w1.heap.size+1+1+1);rw[<-d] at s⊢;obtain⟨H,F⟩:=p4 (w1.heap.size+1+1);rw[<-F] at m⊢;obtain⟨I,D⟩:=p4 (w1.heap.size+1);rw[<-D] at C⊢;obtain⟨K,E⟩:=p4 (w1.heap.size);rw[<-E] at B⊢))
  all_goals(clear i;have l4:w1.heap.size<=L:=(by omega);have l5:w1.heap.size<=H:=(by omega);have l6:w1.heap.size<=I:=(by omega);have l7:w1.heap.size<=K:=(by omega);clear d F D E;subst hO0 hO1 hO2 iu)
  all_goals rename_i ni
  all_goals clear ni
  all_goals revert B
  all_goals revert C
  all_goals revert m
  all_goals revert s
  all_goals revert J
  all_goals revert l7
  all_goals revert l6
  all_goals revert l5
  all_goals revert l4
  all_goals revert K
  all_goals revert I
  all_goals revert H
  all_goals revert L
  all_goals revert l
  all_goals exact REST.out
 case k=>
  intro l L H I K l4 l5 l6 l7 J s m C B;clear M;obtain⟨y40,y41,y42,-,-,-⟩:=own3 s;obtain⟨y50,y51,y52,-,-,-⟩:=own3 m;obtain⟨y60,y61,y62,-,-,-⟩:=own3 C;obtain⟨y70,y71,y72,-,-,-⟩:=own3 B;have Cg:=J.blk o9;have hs5:=J.size;have M:=hdq (show∀w':aN,(∀y,y < l.heap.size->y≠w.heap.size+1->w'.heap[y]? =l.heap[y]?)->w'.cell? ⟨L,0,none⟩=some (.int .i64 k0)/\w'.cell? ⟨L,1,none⟩=some (.int .i64 n0)/\w'.cell? ⟨L,2,none⟩=some (.slice A0 a6.length s8)/\w'.cell? ⟨H,0,none⟩=some (.int .i64 k1)/\w'.cell? ⟨H,1,none⟩=some (.int .i64 n1)/\w'.cell? ⟨H,2,none⟩=some (.slice A1 q16.length D3)/\w'.cell? ⟨I,0,none⟩=some (.int .i64 Y)/\w'.cell? ⟨I,1,none⟩=some (.int .i64 n2)/\w'.cell? ⟨I,2,none⟩=some (.slice A2 y17.length G5)/\w'.cell? ⟨K,0,none⟩=some (.int .i64 k4)/\w'.cell? ⟨K,1,none⟩=some (.int .i64 Z)/\w'.cell? ⟨K,2,none⟩=some (.slice A4 j37.length S7) from fun w' hw=> by
   have f: ∀(q j:Nat) (x:aU),q < l.heap.size->q≠w.heap.size+1->l.cell? ⟨q,j,none⟩=some x->w'.cell? ⟨q,j,none⟩=some x:=fun q j x G h2 h3=>(eN (a:=⟨q,j,none⟩) (hw q G h2)).trans h3
   exact⟨f _ _ _ (D1 s) (by omega) y40,f _ _ _ (D1 s) (by omega) y41,f _ _ _ (D1 s) (by omega) y42,f _ _ _ (D1 m) (by omega) y50,f _ _ _ (D1 m) (by omega) y51,f _ _ _ (D1 m) (by omega) y52,f _ _ _ (D1 C) (by omega) y60,f _ _ _ (D1 C) (by omega) y61,f _ _ _ (D1 C) (by omega) y62,f _ _ _ (D1 B) (by omega) y70,f _ _ _ (D1 B) (by omega) y71,f _ _ _ (D1 B) (by omega) y72⟩)
  have X5:Ext l l.drew:=(xr l).drew;have xe:=hdq (fun W (h:Ext l W)=> L0.ext (J.trans h));have HL1:=hdq (fun W (h:Ext l W)=> L1.ext (J.trans h));have qp:=hdq (fun W (h:Ext l W)=> L2.ext (J.trans h));have HL4:=hdq (fun W (h:Ext l W)=> L4.ext (J.trans h));have HE5:=hdq (V.trans J);clear y40 y41 y42 y50 y51 y52 y60 y61 y62 y70 y71 y72 L0 L1 L2 L4 s m C B o9;go_wp2_with fail
  go_region_held3 (fun w'=> w'.cell? ⟨L,0,none⟩=some (.int .i64 k0)/\w'.cell? ⟨L,1,none⟩=some (.int .i64 n0)/\w'.cell? ⟨L,2,none⟩=some (.slice A0 a6.length s8)/\w'.cell? ⟨H,0,none⟩=some (.int .i64 k1)/\w'.cell? ⟨H,1,none⟩=some (.int .i64 n1)/\w'.cell? ⟨H,2,none⟩=some (.slice A1 q16.length D3)/\w'.cell? ⟨I,0,none⟩=some (.int .i64 Y)/\w'.cell? ⟨I,1,none⟩=some (.int .i64 n2)/\w'.cell? ⟨I,2,none⟩=some (.slice A2 y17.length G5)/\w'.cell? ⟨K,0,none⟩=some (.int .i64 k4)/\w'.cell? ⟨K,1,none⟩=some (.int .i64 Z)/\w'.cell? ⟨K,2,none⟩=some (.slice A4 j37.length S7))
   (first|exact M.out _ (fun y G h2=> by rw[aM _ _ _ _ h2,aM _ _ _ _ h2,aM _ _ _ _ h2];exact Fu.heap y G) |exact M.out _ (fun y G _=> by with_reducible exact Ext.heap (Fu) y G) |exact M.out _ (fun y G _=> by with_reducible exact Ext.heap (X10) y G) |exact M.out _ (fun y G _=> by with_reducible exact Ext.heap (X9) y G) |exact M.out _ (fun y G _=> by with_reducible exact Ext.heap (X8.alloc _) y G) |exact M.out _ (fun y G _=> by with_reducible exact Ext.heap (X8) y G) |exact M.out _ (fun y G _=> by with_reducible exact Ext.heap (X.alloc _) y G) |exact M.out _ (fun y G _=> by with_reducible exact Ext.heap (X) y G) |exact M.out _ (fun y G _=> by with_reducible exact Ext.heap ((X5.alloc _).alloc _) y G) |exact M.out _ (fun y G _=> by with_reducible exact Ext.heap (X5.alloc _) y G) |exact M.out _ (fun y G _=> by with_reducible exact Ext.heap (X5) y G) |exact M.out _ (fun y G _=> by with_reducible exact Ext.heap (((xr l).alloc _).drew) y G) |exact M.out _ (fun y G _=> by with_reducible exact Ext.heap ((((xr l).alloc _).alloc _).drew) y G))
   (first|(go_at_call 137;refine(fA zw).mono ?_;rintro e Y4 ⟨a1,a2,a3,a4,a5,rfl,hM,h11⟩;have Fu:Ext l Y4:=X10.trans h11;obtain⟨s0,s1,s2,f0,f1,f2⟩:=own3 (Fu.blk Cg)) |(go_at_call 43;refine(Oi TT _ _ (by rw[N8.out];exact Df) (by omega)).mono ?_;rintro e S6 ⟨uo,rfl,zw,h10⟩;obtain⟨o1,o2,o3,o4,o5,rfl⟩:=zw.three';have X10:Ext l S6:=X9.trans h10) |(go_at_call 56;(with_reducible show aY _ _ #[.int .i64 5,.slice _ 2 _] _ _);refine(Fk (Lies.ext hM7 (Ll.alloc _)) (Lies.ext Di ((xr w8).alloc _)) (aT w8 _)).mono ?_;rintro e w9 ⟨p31,p32,p33,p34,p35,rfl,Df,h9⟩;have X9:Ext l w9:=(X8.alloc _).trans h9) |(go_at_call 56;(with_reducible show aY _ _ #[.int .i64 9,.slice _ 4 _] _ _);refine(mv (t1:= .mk k0 n0 a6) (t2:= .mk k1 n1 q16) (t3:= .mk Y n2 y17) (t4:= .mk k4 Z j37) (xe.out _ (by with_reducible (first|exact X|exact X.alloc _|exact(X.alloc _).alloc _|exact((xr l).alloc _).drew|exact(((xr l).alloc _).alloc _).drew))) (HL1.out _ (by with_reducible (first|exact X|exact X.alloc _|exact(X.alloc _).alloc _|exact((xr l).alloc _).drew|exact(((xr l).alloc _).alloc _).drew))) (qp.out _ (by with_reducible (first|exact X|exact X.alloc _|exact(X.alloc _).alloc _|exact((xr l).alloc _).drew|exact(((xr l).alloc _).alloc _).drew))) (HL4.out _ (by with_reducible (first|exact X|exact X.alloc _|exact(X.alloc _).alloc _|exact((xr l).alloc _).drew|exact(((xr l).alloc _).alloc _).drew))) (by first|(with_reducible exact(Hj (by first|rfl|simp))) |(with_reducible exact((xr _).alloc _).blk (Hj (by first|rfl|simp))) |(with_reducible exact(xr _).drew.blk (Hj (by first|rfl|simp))) |(with_reducible exact(((xr _).alloc _).drew).blk (Hj (by first|rfl|simp))) |(with_reducible exact Ext.blk h7 ((Hj (by first|rfl|simp)))) |(with_reducible exact Ext.blk h7 (((xr _).alloc _).blk (Hj (by first|rfl|simp)))) |(with_reducible exact Ext.blk h7 ((xr _).drew.blk (Hj (by first|rfl|simp)))) |(with_reducible exact Ext.blk h7 ((((xr _).alloc _).drew).blk (Hj (by first|rfl|simp)))))).mono ?_;rintro e w8 ⟨Ey,Fy,Gh,Gv,p25,rfl,Di,h8⟩;have Ll:Ext w7 w8:=(by with_reducible (first|exact h8|exact((xr _).alloc _).trans h8));have X8:Ext l w8:=X.trans Ll) |(go_at_call 56;(with_reducible show aY _ _ #[.int .i64 5,.slice _ 2 _] _ _);refine(Fk (t1:= .mk Y n2 y17) (t2:= .mk k4 Z j37) (qp.out _ (by with_reducible (first|exact X5|exact X5.alloc _|exact(X5.alloc _).alloc _|exact((xr l).alloc _).drew|exact(((xr l).alloc _).alloc _).drew))) (HL4.out _ (by with_reducible (first|exact X5|exact X5.alloc _|exact(X5.alloc _).alloc _|exact((xr l).alloc _).drew|exact(((xr l).alloc _).alloc _).drew))) (by first|(with_reducible exact(Hj (by first|rfl|simp))) |(with_reducible exact((xr _).alloc _).blk (Hj (by first|rfl|simp))) |(with_reducible exact(xr _).drew.blk (Hj (by first|rfl|simp))) |(with_reducible exact(((xr _).alloc _).drew).blk (Hj (by first|rfl|simp))))).mono ?_;rintro e w7 ⟨Eu,Gt,Gs,Fx,Gi,rfl,hM7,h7⟩;have X:Ext l w7:=Ext.trans (by with_reducible (first|exact X5|exact X5.alloc _|exact(X5.alloc _).alloc _|exact((xr l).alloc _).drew|exact(((xr l).alloc _).alloc _).drew)) h7))
  all_goals(
   have hE:=HE5.out.trans Fu;have t9:=X9.size;have hs9:w1.heap.size<=w9.heap.size:=by omega
   have HM:=hdq (W0.since hM (a:=w) (by have:=V.size;omega));clear hM7 Di Df zw M Cg Ll h7 h8 h9 h10 h11;go_wp2_with fail;refine aQ (v:= .tuple #[.agg #[.int .i64 a1,.int .i64 a2,.slice a3 a4 a5],.bool (valid sigT TT)]) (by simp[results,results173,go_sem,s0,s1,s2]) rfl ⟨_,rfl,W0.since (hM.after ((((Ua.refl _ _).setCell (p:=⟨w.heap.size+1,0,none⟩) (by show w.heap.size+1 < _;omega) (.int .i64 a1)).setCell (p:=⟨w.heap.size+1,1,none⟩) (by show w.heap.size+1 < _;omega) (.int .i64 a2)).setCell (p:=⟨w.heap.size+1,2,none⟩) (by show w.heap.size+1 < _;omega) (.slice a3 a4 a5))) (by have:=V.size;omega),(((hE.setCell (p:=⟨w.heap.size+1,0,none⟩) (by show w.heap.size<=w.heap.size+1;omega) _).setCell (p:=⟨w.heap.size+1,1,none⟩) (by show w.heap.size<=w.heap.size+1;omega) _).setCell (p:=⟨w.heap.size+1,2,none⟩) (by show w.heap.size<=w.heap.size+1;omega) _)⟩)
end Go.Proofs.YtckhbnmfnpolgaaGreat
namespace Go.Proofs.YtckhbnmfnpolgaaGreat
open Go Go.RowKit
def aF(w:aN)(N:Nat->Prop)(b o:Nat)(t:Tr)(x1 x2:Int)(x3:Option Addr)(x4 x5:Nat):Prop:=
 w.cell? ⟨b,o,none⟩=some (.int .i64 x1)/\w.cell? ⟨b,o+1,none⟩=some (.int .i64 x2)/\w.cell? ⟨b,o+2,none⟩=some (.slice x3 x4 x5)/\InT w N t (.agg #[.int .i64 x1,.int .i64 x2,.slice x3 x4 x5])
theorem InK.kid{w:aN}{N:Nat->Prop}{A:Option Addr}{ks:List Tr}(h:InK w N A ks)(m:0 < ks.length): ∃b o,A=some ⟨b,o,none⟩/\ ∀j,j < ks.length-> ∃x1 x2 x3 x4 x5,aF w N b (o+3*j) (kd ks j) x1 x2 x3 x4 x5:=by
 obtain⟨b,o,-,-,-,-,-,rfl,-⟩:=h.get (fun b _=> rfl) m;refine⟨b,o,rfl,fun j e=> ?_⟩;obtain⟨C,B,v,l,p,s,q16,i,q,f,d,k,-,-,-,n,-⟩:=h.get (fun b _=> rfl) e;simp only[Option.some.injEq,Addr.mk.injEq,and_true] at i;obtain⟨rfl,rfl⟩:=i;rw[Nat.mul_comm] at f d k;exact⟨v,l,p,_,s,f,d,k,(Pe e q.out).symm▸n⟩
theorem we{x:An}{f:Tr->An}{r:Tr×Int}(h:thn x f=some r): ∃s c,x=some (s,c)/\(c=0->f s=some r)/\(c≠0->r=(D2,c)):=by
 rcases Yr h with⟨s,d,e⟩ |⟨s,c,d,hc,rfl⟩
 · exact⟨s,0,d,fun _=> e,fun h=> absurd rfl h⟩
 · exact⟨s,c,d,fun h=> absurd h hc,fun _=> rfl⟩
def kf(e:aN)(A:Option Addr)(ca:Nat)(G:List Tr)(d:Tr->An):Prop:=
 ∀(W:aN) (N:Nat->Prop),Ext e W->(∀b,W.heap.size<=b->N b)->InK W N A G-> ∀(t:Tr) (v:aU),InT W N t v->valid sigT t=true-> ∀r,d t=some r->
  aY prog 64 #[.slice A G.length ca,v] W (n9 N W r)
theorem g8{x:An}{f:Tr->An}{r:Tr×Int}(h:thn x f=some r): ∃s c,Hid (x=some (s,c))/\Hid (c=0->f s=some r)/\Hid (c≠0->r=(D2,c)):=by
 obtain⟨s,c,i,d,e⟩:=we h;exact⟨s,c,hdq i,hdq d,hdq e⟩
def Off(r:Nat)(w w':aN):Prop:=w.heap.size<=w'.heap.size/\ ∀b,b < w.heap.size->b≠r->w'.heap[b]? =w.heap[b]?
theorem Ext.off{r:Nat}{w w':aN}(h:Ext w w'):Off r w w':=⟨h.size,fun b d _=> h.heap b d⟩
theorem Off.refl(r:Nat)(w:aN):Off r w w:=⟨aP _,fun _ _ _=> rfl⟩
theorem Off.trans{r:Nat}{a b c:aN}(h:Off r a b)(k:Off r b c):Off r a c:=⟨bM h.1 k.1,fun x hx hr=>(k.2 x (aZ hx h.1) hr).trans (h.2 x hx hr)⟩
theorem Off.set3{r:Nat}{a b:aN}(h:Off r a b)(x y z:aU):Off r a (((b.setCell ⟨r,0,none⟩ x).setCell ⟨r,1,none⟩ y).setCell ⟨r,2,none⟩ z):=
 ⟨by simpa using h.1,fun c hc hr=> by rw[aM _ _ _ _ hr,aM _ _ _ _ hr,aM _ _ _ _ hr];exact h.2 c hc hr⟩
theorem Off.blk{r:Nat}{w w':aN}(h:Off r w w'){b:Nat}{x:Obj}(d:w.heap[b]? =some x)(hr:b≠r):w'.heap[b]? =some x:=(h.2 b (D1 d) hr).trans d
theorem Off.cell{r:Nat}{w w':aN}(h:Off r w w'){b o:Nat}{v:aU}(hc:w.cell? ⟨b,o,none⟩=some v)(hr:b≠r):w'.cell? ⟨b,o,none⟩=some v:=
 (eN (w:=w) (a:=⟨b,o,none⟩) (h.2 b (bY w ⟨b,o,none⟩ hc) hr)).trans hc
theorem InT.off{r:Nat}{w w':aN}{N:Nat->Prop}{t:Tr}{v:aU}(h:InT w N t v)(e:Off r w w')(hN: ∀b,N b->b≠r):InT w' N t v:=
 InT.mono (fun b d=> d.1) (fun b d=> e.2 b d.2 (hN b d.1)) h.bound
theorem InK.off{r:Nat}{w w':aN}{N:Nat->Prop}{A:Option Addr}{ks:List Tr}(h:InK w N A ks)(e:Off r w w')(hN: ∀b,N b->b≠r):InK w' N A ks:=
 InK.mono (fun b d=> d.1) (fun b d=> e.2 b d.2 (hN b d.1)) h.bound
abbrev KA(w:aN)(N:Nat->Prop)(b o:Nat)(t:Tr)(x1 x2:Int)(x3:Option Addr)(x4 x5:Nat):Prop:=
 w.cell? ⟨b,o,none⟩=some (.int .i64 x1)/\w.cell? ⟨b,o+1,none⟩=some (.int .i64 x2)/\w.cell? ⟨b,o+2,none⟩=some (.slice x3 x4 x5)/\b < w.heap.size/\InT w N t (.agg #[.int .i64 x1,.int .i64 x2,.slice x3 x4 x5])
section
variable {w w' w0 w1 : aN} {N : Nat → Prop} {b o r : Nat} {t : Tr} {x1 x2 : Int} {x3 : Option Addr} {x4 x5 : Nat}
theorem KA.i(h:KA w N b o t x1 x2 x3 x4 x5):InT w N t (m0 x1 x2 x3 x4 x5):=h.2.2.2.2
theorem KA.l(h:KA w N b o t x1 x2 x3 x4 x5):Lies w t (m0 x1 x2 x3 x4 x5):=h.2.2.2.2.lies'
theorem KA.off(h:KA w N b o t x1 x2 x3 x4 x5)(d:b≠r)(hN: ∀b,N b->b≠r)(w':aN)(e:Off r w w'):KA w' N b o t x1 x2 x3 x4 x5:=
 ⟨e.cell h.1 d,e.cell h.2.1 d,e.cell h.2.2.1 d,aZ h.2.2.2.1 e.1,h.2.2.2.2.off e hN⟩
theorem KA.up(h:KA w0 N b o t x1 x2 x3 x4 x5)(e:Ext w0 w1)(hr:w0.heap.size<=r): ∀w',Off r w1 w'->KA w' (fun b=> N b/\b≠r) b o t x1 x2 x3 x4 x5:=
 KA.off (w:=w1) ⟨e.cell h.1,e.cell h.2.1,e.cell h.2.2.1,aZ h.2.2.2.1 e.size,h.2.2.2.2.keep e hr⟩ (by have:=h.2.2.2.1;omega) (fun b h=> h.2)
end
theorem ae{w:aN}{N:Nat->Prop}{A:Option Addr}{ks:List Tr}(h:InK w N A ks)(e:0 < ks.length): ∃b o,A=some ⟨b,o,none⟩/\N b/\ ∀j,j < ks.length-> ∃x1 x2 x3 x4 x5,KA w N b (o+3*j) (kd ks j) x1 x2 x3 x4 x5:=by
 obtain⟨d,f,rfl,p⟩:=InK.kid h e;refine⟨d,f,rfl, ?_,fun j k=> ?_⟩
 · rcases h with rfl|⟨b,o,h,n,-⟩
   · exact absurd e (by simp)
   · obtain⟨rfl,rfl⟩:d=b/\f=o:=by simpa using h
     exact n
 · obtain⟨x1,x2,x3,x4,x5,i,q,l,m⟩:=p j k
   exact⟨x1,x2,x3,x4,x5,i,q,l,bY _ ⟨d,_,none⟩ i,m⟩
section
variable {w : aN} {N : Nat → Prop} {A : Option Addr} {ks : List Tr}
theorem q16(h:InK w N A ks)(hl:ks.length=1): ∃b o,A=some ⟨b,o,none⟩/\N b/\ ∃x1 x2 x3 x4 x5,KA w N b o (kd ks 0) x1 x2 x3 x4 x5:=by
 obtain⟨b,o,f,d,e⟩:=ae h (by omega);exact⟨b,o,f,d,e 0 (by omega)⟩
theorem y17(h:InK w N A ks)(hl:ks.length=2): ∃b o,A=some ⟨b,o,none⟩/\N b/\(∃x1 x2 x3 x4 x5,KA w N b o (kd ks 0) x1 x2 x3 x4 x5)/\ ∃x1 x2 x3 x4 x5,KA w N b (o+3) (kd ks 1) x1 x2 x3 x4 x5:=by
 obtain⟨b,o,f,e,d⟩:=ae h (by omega);exact⟨b,o,f,e,d 0 (by omega),d 1 (by omega)⟩
theorem j19(h:InK w N A ks)(hl:ks.length=3): ∃b o,A=some ⟨b,o,none⟩/\N b/\(∃x1 x2 x3 x4 x5,KA w N b o (kd ks 0) x1 x2 x3 x4 x5)/\(∃x1 x2 x3 x4 x5,KA w N b (o+3) (kd ks 1) x1 x2 x3 x4 x5)/\ ∃x1 x2 x3 x4 x5,KA w N b (o+6) (kd ks 2) x1 x2 x3 x4 x5:=by
 obtain⟨b,o,f,e,d⟩:=ae h (by omega);exact⟨b,o,f,e,d 0 (by omega),d 1 (by omega),d 2 (by omega)⟩
theorem j37(h:InK w N A ks)(hl:ks.length=4): ∃b o,A=some ⟨b,o,none⟩/\N b/\(∃x1 x2 x3 x4 x5,KA w N b o (kd ks 0) x1 x2 x3 x4 x5)/\(∃x1 x2 x3 x4 x5,KA w N b (o+3) (kd ks 1) x1 x2 x3 x4 x5)/\(∃x1 x2 x3 x4 x5,KA w N b (o+6) (kd ks 2) x1 x2 x3 x4 x5)/\ ∃x1 x2 x3 x4 x5,KA w N b (o+9) (kd ks 3) x1 x2 x3 x4 x5:=by
 obtain⟨b,o,f,e,d⟩:=ae h (by omega);exact⟨b,o,f,e,d 0 (by omega),d 1 (by omega),d 2 (by omega),d 3 (by omega)⟩
end
section
variable {r : Nat} {w w' w0 w1 : aN} {P Q : aN → Prop}
theorem both{R:aN->Prop}(F: ∀w',R w'->P w')(G: ∀w',R w'->Q w'): ∀w',R w'->P w'/\Q w':=fun w' h=>⟨F w' h,G w' h⟩
theorem rb(F: ∀w',Off r w w'->P w')(X:Ext w w1): ∀w',Off r w1 w'->P w':=fun w' h=> F w' (X.off.trans h)
theorem k8{g:Nat}{x0 x1 x2:aU}{e:bU}(f:w.heap[g]? =some (.cells #[x0,x1,x2] e (0,0)))(d:g≠r): ∀w',Off r w w'->w'.cell? ⟨g,0,none⟩=some x0/\w'.cell? ⟨g,1,none⟩=some x1/\w'.cell? ⟨g,2,none⟩=some x2/\g < w'.heap.size:=
 fun w' h=> cb3 (h.blk f d)
theorem ML{g:Nat}{x0 x1 x2 x3 x4:aU}{e:bU}(f:w.heap[g]? =some (.cells #[x0,x1,x2,x3,x4] e (0,0)))(d:g≠r): ∀w',Off r w w'->w'.cell? ⟨g,0,none⟩=some x0/\w'.cell? ⟨g,1,none⟩=some x1/\w'.cell? ⟨g,2,none⟩=some x2/\w'.cell? ⟨g,3,none⟩=some x3/\w'.cell? ⟨g,4,none⟩=some x4/\g < w'.heap.size:=
 fun w' h=> Ky (h.blk f d)
theorem Nf{N:Nat->Prop}{x0 x1 x2 x3 x4 k f d:aU}{e j:bU}(l:w1=(w0.alloc (.cells #[x0,x1,x2,x3,x4] e)).alloc (.cells #[k,f,d] j))(hN: ∀b,w0.heap.size<=b->N b):
 Ext w0 w1/\w1.heap[w0.heap.size+1]? =some (.cells #[k,f,d] j)/\ ∀w',Off (w0.heap.size+1) w1 w'->(∀b,w'.heap.size<=b->N b/\b≠w0.heap.size+1)/\w'.cell? ⟨w0.heap.size,0,none⟩=some x0/\w'.cell? ⟨w0.heap.size,1,none⟩=some x1/\w'.cell? ⟨w0.heap.size,2,none⟩=some x2/\w'.cell? ⟨w0.heap.size,3,none⟩=some x3/\w'.cell? ⟨w0.heap.size,4,none⟩=some x4/\w0.heap.size < w'.heap.size:=by
 obtain⟨m,p,s,i⟩:=box2 l;exact⟨i,p,both (fun w' h b n=> Va hN i.size s b (bM h.1 n)) (ML m (by omega))⟩
theorem Ext.ne{o:Obj}(X:Ext w w')(h:w.heap[r]? =some o):w'.heap.size≠r:=by
 have:=X.size;have:=D1 h;omega
theorem nb{o:Obj}(h:w.alloc o=w'):w'.heap[w.heap.size]? =some o/\Ext w w':=by
 subst h;exact⟨aT _ _,(xr _).alloc _⟩
theorem InT.up{N:Nat->Prop}{t:Tr}{v:aU}(h:InT w (fun b=> N b/\b≠r) t v)(e:Ext w w1): ∀w',Off r w1 w'->InT w' (fun b=> N b/\b≠r) t v:=fun w' k=>(h.later e).off k fun _ h=> h.2
theorem sn2{N:Nat->Prop}{x0 x1 x2 k f d:aU}{e j:bU}(l:w1=(w0.alloc (.cells #[x0,x1,x2] e)).alloc (.cells #[k,f,d] j))(hN: ∀b,w0.heap.size<=b->N b):
 Ext w0 w1/\w1.heap[w0.heap.size+1]? =some (.cells #[k,f,d] j)/\ ∀w',Off (w0.heap.size+1) w1 w'->(∀b,w'.heap.size<=b->N b/\b≠w0.heap.size+1)/\w'.cell? ⟨w0.heap.size,0,none⟩=some x0/\w'.cell? ⟨w0.heap.size,1,none⟩=some x1/\w'.cell? ⟨w0.heap.size,2,none⟩=some x2/\w0.heap.size < w'.heap.size:=by
 obtain⟨m,p,s,i⟩:=box2 l;exact⟨i,p,both (fun w' h b n=> Va hN i.size s b (bM h.1 n)) (k8 m (by omega))⟩
theorem KA.fm{N:Nat->Prop}{b o:Nat}{t:Tr}{x1 x2:Int}{x3:Option Addr}{x4 x5:Nat}(h:KA w (fun b=> N b/\b≠r) b o t x1 x2 x3 x4 x5)(d:N b/\b≠r)(e:Ext w w1): ∀w',Off r w1 w'->KA w' (fun b=> N b/\b≠r) b o t x1 x2 x3 x4 x5:=
 KA.off (KA.off h d.2 (fun _ h=> h.2) _ e.off) d.2 fun _ h=> h.2
theorem pL(w:aN)(a:Obj)(x0 x1 x2:aU)(e:bU):
 ((w.alloc a).alloc (.cells #[x0,x1,x2] e)).cell? ⟨w.heap.size+1,0,none⟩=some x0/\((w.alloc a).alloc (.cells #[x0,x1,x2] e)).cell? ⟨w.heap.size+1,1,none⟩=some x1/\((w.alloc a).alloc (.cells #[x0,x1,x2] e)).cell? ⟨w.heap.size+1,2,none⟩=some x2:=by
 obtain⟨-,h,-⟩:=box2 (w:=w) (a:=a) (b:= .cells #[x0,x1,x2] e) rfl;exact⟨(cbn h).1,(cbn h).2.1,(cbn h).2.2.1⟩
theorem kL(w:aN)(a b:Obj)(x0 x1 x2:aU)(e:bU):
 (((w.alloc a).alloc (.cells #[x0,x1,x2] e)).alloc b).cell? ⟨w.heap.size+1,0,none⟩=some x0/\(((w.alloc a).alloc (.cells #[x0,x1,x2] e)).alloc b).cell? ⟨w.heap.size+1,1,none⟩=some x1/\(((w.alloc a).alloc (.cells #[x0,x1,x2] e)).alloc b).cell? ⟨w.heap.size+1,2,none⟩=some x2:=by
 obtain⟨-,h,-⟩:=be (w:=w) (a:=a) (b:= .cells #[x0,x1,x2] e) (c:=b) rfl;exact⟨(cbn h).1,(cbn h).2.1,(cbn h).2.2.1⟩
theorem cz(c:Int):(Hid (c≠0)/\(c !=0)=true/\(c==0)=false)\/c=0:=by
 by_cases h:c=0
 · exact .inr h
 · exact .inl ⟨hdq h,by simp[h],by simp[h]⟩
theorem czk(k n:Int):(Hid (k≠n)/\(k !=n)=true/\(k==n)=false)\/k=n:=by
 by_cases h:k=n
 · exact .inr h
 · exact .inl ⟨hdq h,by simp[h],by simp[h]⟩
end
section
variable {w : aN} {N : Nat → Prop} {t u x : Tr} {v0 v1 v2 u0 u1 u2 x0 x1 x2 : aU}
theorem Cd(e:bU)(h:InT w N t (.agg #[v0,v1,v2]))(hN: ∀b,w.heap.size<=b->N b):Ext w (w.alloc (.cells #[v0,v1,v2] e))/\InK (w.alloc (.cells #[v0,v1,v2] e)) N (some ⟨w.heap.size,0,none⟩) [t]:=⟨(xr _).alloc _,InK.news h (hN _ (aP _))⟩
theorem n7(e:bU)(h:InT w N t (.agg #[v0,v1,v2]))(k:InT w N u (.agg #[u0,u1,u2]))(hN: ∀b,w.heap.size<=b->N b):Ext w (w.alloc (.cells #[v0,v1,v2,u0,u1,u2] e))/\InK (w.alloc (.cells #[v0,v1,v2,u0,u1,u2] e)) N (some ⟨w.heap.size,0,none⟩) [t,u]:=⟨(xr _).alloc _,InK.news2 h k (hN _ (aP _))⟩
theorem Zc(e:bU)(h:InT w N t (.agg #[v0,v1,v2]))(k:InT w N u (.agg #[u0,u1,u2]))(l:InT w N x (.agg #[x0,x1,x2]))(hN: ∀b,w.heap.size<=b->N b):Ext w (w.alloc (.cells #[v0,v1,v2,u0,u1,u2,x0,x1,x2] e))/\InK (w.alloc (.cells #[v0,v1,v2,u0,u1,u2,x0,x1,x2] e)) N (some ⟨w.heap.size,0,none⟩) [t,u,x]:=⟨(xr _).alloc _,InK.news3 h k l (hN _ (aP _))⟩
end
theorem rgn{P:Program}{id:Nat}{ops:Array Oper}{Q:Exit->Act->aN->Prop}{a:Act}{w W:aN}(r:Nat)(hm:P.follows .mixedOrders=true)(X:Ext W w)(h:wpAnyH P .any ops Q (Off r W) ops.size (Array.replicate ops.size false) a w.drew):(Code.region id ops true).wp P Q a w:=
 wp_region_held_drew hm X.drew.off fun _=> h
section
variable {P : Program} {fn : Func} {a : Act} {w W : aN} {N : Nat → Prop} {r : Tr × Int} {c : Int} {g : Nat} {t : Tr} {u x y z : aU}
theorem v9(e:(results fn a.tmps).run P W= .ok (.tuple #[m0 0 0 none 0 0,j0 c]) W)(d:r=(D2,c))(x:Ext w W)(f:a.defers= []):bodyPost P fn (n9 N w r) .ret a W:=
 aQ e f ⟨_,by rw[d],by rw[d];exact Z5 _ _ 0 0,x⟩
theorem L7{w0:aN}(f:(results fn a.tmps).run P (((w.setCell ⟨g,0,none⟩ x).setCell ⟨g,1,none⟩ y).setCell ⟨g,2,none⟩ z)= .ok (.tuple #[u,j0 c]) (((w.setCell ⟨g,0,none⟩ x).setCell ⟨g,1,none⟩ y).setCell ⟨g,2,none⟩ z))
 (hT:InT w (fun b=> N b/\b≠g) t u) (hr:r=(t,c)) (X:Ext w0 w) (e:w0.heap.size<=g) (d:a.defers= []):bodyPost P fn (n9 N w0 r) .ret a (((w.setCell ⟨g,0,none⟩ x).setCell ⟨g,1,none⟩ y).setCell ⟨g,2,none⟩ z):=
 aQ f d ⟨_,by rw[hr],by rw[hr];exact hT.ret _ _ _,X.set3 e _ _ _⟩
end
theorem gL{ks:List Tr}(h:ks.length=1):(0:Int) <(ks.length:Int)/\0 < ks.length:=by omega
theorem mL{ks:List Tr}(h:ks.length=2):((0:Int) <(ks.length:Int)/\0 < ks.length)/\(1:Int) <(ks.length:Int)/\1 < ks.length:=by omega
theorem aI{ks:List Tr}(h:ks.length=3):((0:Int) <(ks.length:Int)/\0 < ks.length)/\((1:Int) <(ks.length:Int)/\1 < ks.length)/\(2:Int) <(ks.length:Int)/\2 < ks.length:=by omega
theorem zL{ks:List Tr}(h:ks.length=4):((0:Int) <(ks.length:Int)/\0 < ks.length)/\((1:Int) <(ks.length:Int)/\1 < ks.length)/\((2:Int) <(ks.length:Int)/\2 < ks.length)/\(3:Int) <(ks.length:Int)/\3 < ks.length:=by omega
theorem Dw{k n:Int}{ks:List Tr}(hv:valid sigT (.mk k n ks)=true)(hl:ks.length=1)(hk:k=15\/k=16):valid sigT (.mk 15 0 [kd ks 0])=true:=by
 obtain⟨x,rfl⟩: ∃x,ks= [x]:=List.length_eq_one_iff.1 hl;obtain⟨d,i⟩:=N4 hv;obtain⟨-,-,-,e⟩:=m6 d;have f:=e x (by simp);unfold valid;simp only[Bool.and_eq_true,decide_eq_true_eq];refine⟨?_,by simpa[cnt,O1,kd] using i⟩;simp only[kd,List.getD_cons_zero,I0,ma,Bool.and_true,Bool.and_eq_true,decide_eq_true_eq];exact⟨by omega,rfl,f⟩
theorem Od{r q:Tr×Int}(h:r=q):r=(q.1,q.2):=h
theorem TI{q:Tr×Int}{f:Tr->An}{r:Tr×Int}(h:thn (some q) f=some r):Hid (q.2=0->f q.1=some r)/\Hid (q.2≠0->r=(D2,q.2)):=by
 obtain⟨s,c,i,d,e⟩:=we h;obtain rfl:q=(s,c):=by simpa using i
 exact⟨hdq d,hdq e⟩

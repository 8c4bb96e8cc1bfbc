/- Lemmas towards the law. -/
import Derived.Test.YtckhbnmfnpolgaaGreatTBM
open Go.World renaming alloc->aO,setCell->bT
open Go.Proofs.Tryz
set_option linter.all false
set_option maxHeartbeats 8000000
set_option maxRecDepth 100000
namespace Go.Proofs.YtckhbnmfnpolgaaGreat
open Go Go.RowKit
attribute [local go_sem ↓] Go.wp_at_zero Go.wp_at_succ
theorem FL(f g0 Y:Nat)(G:List Tr)(A:Option Addr)(ca:Nat)(j:World)(hG:V8 j A G)(F8:G.length<=ca)(hcm:ca<=maxLen)(hA:A=none->ca=0)(d e:Tr)(v ve:Value)(hd:Lies j d v)(O:Lies j e ve)(q:Tr×Int)(h:Uc (pc f G) (pc g0 G) (Re Y G) d e=some q):Calls prog 34 #[.slice A G.length ca,v,ve] j (n9 AllN j q):=by
 have HI:=hdq (fun t v (ht:Lies j t v) W (hW:Ext j W) f r h=> bL f G A ca W (hG.ext hW) F8 hcm hA t v (ht.ext hW) r h);obtain⟨s,c,L,M,H3⟩:=g8 h;have HD:=hdq hd;have HE:=hdq O;have HJ:=hdq (fun h8=> nk F8 hcm hG hA h8);obtain⟨k,n,ks⟩:=d;obtain⟨At,ct,rfl,-⟩:=Lies.mk_iff.1 hd;obtain⟨k',n',ks'⟩:=e;obtain⟨At',ct',rfl,-⟩:=Lies.mk_iff.1 O;have hN: ∀b,j.heap.size<=b->AllN b:=fun _ _=> trivial
 clear h hd O hG;go_enter func34,ntmps34;go_wp2_with fail;generalize S:aO (aO (aO j _) _) _=w1;obtain⟨l,br,F⟩:=sn3 S.symm hN;replace F:=hdq F;have X:=xr w1;have Q:=F.out _ X.off;clear S hN;have Ay:=hdq (fun h8=>(HJ.out h8).keep l (g:=j.heap.size+1+1) (by omega) (D1 br));clear HJ;have N:=Q.1;refine(HI.out _ _ HD.out _ (l.trans X) _ _ L.out).mono ?_;rintro e w2 ⟨u0,u1,u2,rfl,E,H,I,e⟩;replace E:=InT.mono (S':=fun b=> AllN b/\b≠j.heap.size+1+1) (fun b p=> N b p) (fun _ _=> rfl) E;obtain⟨ss1,ss2,ss3,ss4,ss5,rfl⟩:=E.three;replace H:=InT.mono (S':=fun b=> AllN b/\b≠j.heap.size+1+1) (fun b p=> N b p) (fun _ _=> rfl) H;obtain⟨sa1,sa2,sa3,sa4,sa5,rfl⟩:=H.three;replace I:=InT.mono (S':=fun b=> AllN b/\b≠j.heap.size+1+1) (fun b p=> N b p) (fun _ _=> rfl) I;obtain⟨sb1,sb2,sb3,sb4,sb5,rfl⟩:=I.three;replace X:=X.trans e;replace Q:=F.out _ X.off;clear e N;simp only;obtain⟨U,t⟩ |rfl:=cz c
 · have R:=cbn (X.blk br)
   have R1:=fun o=> cbn ((X.alloc o).blk br)
   have R2:=fun o m=> cbn (((X.alloc o).alloc m).blk br)
   have R3:=fun o m o2=> cbn ((((X.alloc o).alloc m).alloc o2).blk br)
   have R4:=fun o m o2 x y z=> cbn ((((xr _).alloc m).alloc o2).blk (b6 (b6 (b6 ((X.alloc o).blk br) 0 x) 1 y) 2 z))
   go_wp2_with fail;exact v9 (by simp[results,results34,go_sem,R4]) (H3.out U.out) (((((l.trans X).alloc _).set3 (by omega) _ _ _).alloc _).alloc _) rfl
 obtain⟨h8,hv,I8,ii⟩:=sx L.out;rw[vl] at E H I;have Vs:=hdq (fun i (hi:i < 3)=> qd ii (i:=i) (by omega));have VTs:=hdq (show cnt (.mk k n ks)<=1000000 from by have:=(N4 hv).2;omega);have C:=M.out rfl;have P:=hdq (Ay.out h8);clear Ay;clear L M H3 h8 hv I8 ii;have D:=fun o m o2=> F.out _ (((X.alloc o).alloc m).alloc o2).off
 go_wp2_with fail;clear D;generalize S:aO (aO (aO w2 _) _) _=w3;obtain⟨q0,q1,q2,-,e⟩:=be S.symm;have:=D1 br;have:=X.size;replace F:=hdq (both (rb F.out (X.trans e)) (both (k8 q0 (by omega)) (both (k8 q1 (by omega)) (both (k8 q2 (by omega)) (both (E.up e) (both (H.up e) (I.up e)))))));replace X:=X.trans e;replace P:=hdq (P.out.ext X);replace br:=X.blk br;replace l:=l.trans X;replace X:=xr w3;replace Q:=F.out _ X.off;clear S q0 q1 q2 e E H I this;obtain⟨u,c,G1,G2,G3⟩:=g8 C;clear C;have N:=Q.1.1;refine(HI.out _ _ HE.out _ (l.trans X) _ _ G1.out).mono ?_;rintro e w4 ⟨u0,u1,u2,rfl,E,H,I,e⟩;replace E:=InT.mono (S':=fun b=> AllN b/\b≠j.heap.size+1+1) (fun b p=> N b p) (fun _ _=> rfl) E;obtain⟨rs1,rs2,rs3,rs4,rs5,rfl⟩:=E.three;replace H:=InT.mono (S':=fun b=> AllN b/\b≠j.heap.size+1+1) (fun b p=> N b p) (fun _ _=> rfl) H;obtain⟨ra1,ra2,ra3,ra4,ra5,rfl⟩:=H.three;replace I:=InT.mono (S':=fun b=> AllN b/\b≠j.heap.size+1+1) (fun b p=> N b p) (fun _ _=> rfl) I;obtain⟨rb1,rb2,rb3,rb4,rb5,rfl⟩:=I.three;replace X:=X.trans e;replace Q:=F.out _ X.off;clear e N;simp only;obtain⟨U,t⟩ |rfl:=cz c
 · have R:=cbn (X.blk br)
   have R1:=fun o=> cbn ((X.alloc o).blk br)
   have R2:=fun o m=> cbn (((X.alloc o).alloc m).blk br)
   have R3:=fun o m o2=> cbn ((((X.alloc o).alloc m).alloc o2).blk br)
   have R4:=fun o m o2 x y z=> cbn ((((xr _).alloc m).alloc o2).blk (b6 (b6 (b6 ((X.alloc o).blk br) 0 x) 1 y) 2 z))
   go_wp2_with fail;exact v9 (by simp[results,results34,go_sem,R4]) (G3.out U.out) (((((l.trans X).alloc _).set3 (by omega) _ _ _).alloc _).alloc _) rfl
 obtain⟨h8,hv,I8,ii⟩:=sx G1.out;rw[vl] at E H I;have Vr:=hdq (fun i (hi:i < 3)=> qd ii (i:=i) (by omega));have VTr:=hdq (show cnt (.mk k' n' ks')<=1000000 from by have:=(N4 hv).2;omega);have C:=G2.out rfl;clear G1 G2 G3 h8 hv I8 ii;have D:=fun o m o2=> F.out _ (((X.alloc o).alloc m).alloc o2).off
 go_wp2_with fail;clear D;generalize S:aO (aO (aO w4 _) _) _=w5;obtain⟨q0,q1,q2,-,e⟩:=be S.symm;have:=D1 br;have:=X.size;replace F:=hdq (both (rb F.out (X.trans e)) (both (k8 q0 (by omega)) (both (k8 q1 (by omega)) (both (k8 q2 (by omega)) (both (E.up e) (both (H.up e) (I.up e)))))));replace X:=X.trans e;replace P:=hdq (P.out.ext X);replace br:=X.blk br;replace l:=l.trans X;replace X:=xr w5;replace Q:=F.out _ X.off;clear S q0 q1 q2 e E H I this;obtain⟨L,M⟩:=PF C;clear C;refine(IF _ _ _ _ _ Q.1.2.2.2.2.1.lies' Q.2.2.2.2.1.lies').mono ?_;rintro e w6 ⟨rfl,e⟩;replace X:=X.trans e;replace Q:=F.out _ X.off;generalize W3 _ _=c at L M⊢;obtain⟨U,t⟩ |rfl:=cz c
 · have R:=cbn (X.blk br)
   go_wp2_with fail;exact v9 (by simp[results,results34,go_sem,R]) (M.out U.out) ((l.trans X).set3 (by omega) _ _ _) rfl
 have C:=L.out rfl;clear L M;go_wp2_with fail;obtain⟨L,M⟩:=PF C;clear C;refine(IF _ _ _ _ _ Q.1.2.2.2.2.2.2.lies' Q.2.2.2.2.2.1.lies').mono ?_;rintro e w7 ⟨rfl,e⟩;replace X:=X.trans e;replace Q:=F.out _ X.off;generalize W3 _ _=c at L M⊢;obtain⟨U,t⟩ |rfl:=cz c
 · have R:=cbn (X.blk br)
   go_wp2_with fail;exact v9 (by simp[results,results34,go_sem,R]) (M.out U.out) ((l.trans X).set3 (by omega) _ _ _) rfl
 have C:=L.out rfl;clear L M;go_wp2_with fail;replace F:=hdq (rb F.out X);replace P:=hdq (P.out.ext X);replace br:=X.blk br;replace l:=l.trans X;replace X:=xr w7;replace Q:=F.out _ X.off;have C:=hdq C;unfold zs Xi at C;refine rgn (j.heap.size+1+1) (by kernel_rfl) X ?_;replace X:=X.drew;refine B3 [0,1,3] 9 (by kernel_rfl) X.off (fun _ _ _ _ _ h=> h) ?_
 iterate 3 (refine tk rfl (by rfl) (by intro w X;have Q:=F.out _ X;go_simp;(try with_reducible rfl)) ?_;try simp only[W2])
 replace Q:=F.out _ X.off;refine Ci 11 75 #[true,true,true,true,true,true,true,true,true,true,true,false] 1 [.any,.any,Sp.tree (fun b=> AllN b/\b≠j.heap.size+1+1) (shfT 1 (kd s.kids 0) 0),.any,Sp.tree (fun b=> AllN b/\b≠j.heap.size+1+1) (shfT 1 (kd s.kids 1) 0),Sp.tree (fun b=> AllN b/\b≠j.heap.size+1+1) (.mk 1 0 []),Sp.row (fun b=> AllN b/\b≠j.heap.size+1+1) [shfT 1 (kd s.kids 0) 0,shfT 1 (kd s.kids 1) 0,.mk 1 0 []],Sp.tree (fun b=> AllN b/\b≠j.heap.size+1+1) (.mk 10 0 [shfT 1 (kd s.kids 0) 0,shfT 1 (kd s.kids 1) 0,.mk 1 0 []]),Sp.row (fun b=> AllN b/\b≠j.heap.size+1+1) [kd u.kids 0,.mk 10 0 [shfT 1 (kd s.kids 0) 0,shfT 1 (kd s.kids 1) 0,.mk 1 0 []]],Sp.tree (fun b=> AllN b/\b≠j.heap.size+1+1) (.mk 4 0 [kd u.kids 0,.mk 10 0 [shfT 1 (kd s.kids 0) 0,shfT 1 (kd s.kids 1) 0,.mk 1 0 []]]),Sp.box w7.drew] [2,4,5,6,7,8,9,10] (fun w h=>(X.trans h).off) (by kernel_rfl) rfl ?st1 ?fi1
 case st1=>
  repeat' first|exact trivial|refine And.intro ⟨_,rfl, ?_⟩ ?_
  all_goals(intro a w z hE J V;refine Ord.step_of rfl rfl ?_;intro K hK)
  · (have f55:=v4 (show a.eval (.tmp 55)= m0 ss1 ss2 ss3 ss4 ss5 from J 55 (by kernel_rfl));go_simp;go_at_call 61;refine(KF (kd s.kids 0) (Vs.out 0 (by omega)) w _ (Mc Q.1.1.1 hE) _ (Q.1.2.2.2.2.1.oldG' hE).lies').mono ?_;rintro e T ⟨u,rfl,Z,B⟩;exact hK _ _ ⟨_,z,rfl,E9 hE B,Z⟩)
  · (have f57:=v4 (show a.eval (.tmp 57)= m0 sa1 sa2 sa3 sa4 sa5 from J 57 (by kernel_rfl));go_simp;go_at_call 61;refine(KF (kd s.kids 1) (Vs.out 1 (by omega)) w _ (Mc Q.1.1.1 hE) _ (Q.1.2.2.2.2.2.1.oldG' hE).lies').mono ?_;rintro e T ⟨u,rfl,Z,B⟩;exact hK _ _ ⟨_,z,rfl,E9 hE B,Z⟩)
  · (go_simp;go_at_call 62;refine(y15 w 1 0).mono ?_;rintro e T ⟨rfl,B⟩;exact hK _ _ ⟨_,z,rfl,E9 hE B,Z5 _ _ _ _⟩)
  · (have h2:InT w (Mz _ z) (shfT 1 (kd s.kids 0) 0) (a.eval (.tmp 56)):=V 2 56 (by kernel_rfl);obtain⟨_,_,_,_,_,Y⟩:=h2.three;rw[Y] at h2;replace Y:=v4 Y;have h4:InT w (Mz _ z) (shfT 1 (kd s.kids 1) 0) (a.eval (.tmp 58)):=V 4 58 (by kernel_rfl);obtain⟨_,_,_,_,_,f4⟩:=h4.three;rw[f4] at h4;replace f4:=v4 f4;have h5:InT w (Mz _ z) (.mk 1 0 []) (a.eval (.tmp 59)):=V 5 59 (by kernel_rfl);obtain⟨_,_,_,_,_,f5⟩:=h5.three;rw[f5] at h5;replace f5:=v4 f5;go_simp;obtain⟨B,h⟩:=Zc 25 h2 h4 h5 (Mc Q.1.1.1 hE);exact hK _ _ ⟨_,z,rfl,E9 hE B,_,3,rfl,Nat.le_refl _,by decide,h⟩)
  · (obtain⟨A6,c6,f6,lq,ut,ot⟩: ∃A c,a.eval (.tmp 60)= .slice A 3 c/\3<=c/\c<=maxLen/\InK w (Mz _ z) A [shfT 1 (kd s.kids 0) 0,shfT 1 (kd s.kids 1) 0,.mk 1 0 []]:=V 6 60 (by kernel_rfl);replace f6:=v4 f6;go_simp;go_at_call 60;refine(Xt 10 _ _ (Mc Q.1.1.1 hE) A6 c6 _ ot (by simp) lq (by simp)).mono ?_;rintro e T ⟨u,rfl,hx,B⟩;exact hK _ _ ⟨_,z,rfl,E9 hE B,hx⟩)
  · (have f54:=v4 (show a.eval (.tmp 54)= m0 rs1 rs2 rs3 rs4 rs5 from J 54 (by kernel_rfl));have h7:InT w (Mz _ z) (.mk 10 0 [shfT 1 (kd s.kids 0) 0,shfT 1 (kd s.kids 1) 0,.mk 1 0 []]) (a.eval (.tmp 61)):=V 7 61 (by kernel_rfl);obtain⟨_,_,_,_,_,f7⟩:=h7.three;rw[f7] at h7;replace f7:=v4 f7;go_simp;obtain⟨B,h⟩:=n7 25 (Q.2.2.2.2.1.oldG' hE) h7 (Mc Q.1.1.1 hE);exact hK _ _ ⟨_,z,rfl,E9 hE B,_,2,rfl,Nat.le_refl _,by decide,h⟩)
  · (obtain⟨A8,c8,f8,nz,zx,nh⟩: ∃A c,a.eval (.tmp 62)= .slice A 2 c/\2<=c/\c<=maxLen/\InK w (Mz _ z) A [kd u.kids 0,.mk 10 0 [shfT 1 (kd s.kids 0) 0,shfT 1 (kd s.kids 1) 0,.mk 1 0 []]]:=V 8 62 (by kernel_rfl);replace f8:=v4 f8;go_simp;go_at_call 60;refine(Xt 4 _ _ (Mc Q.1.1.1 hE) A8 c8 _ nh (by simp) nz (by simp)).mono ?_;rintro e T ⟨u,rfl,hx,B⟩;exact hK _ _ ⟨_,z,rfl,E9 hE B,hx⟩)
  · (go_simp;exact hK _ _ ⟨_,_,rfl,EG.box hE,_,rfl,List.mem_cons_self ..,(show _<=w.heap.size from hE.1.size),heap_alloc_new _ _⟩)
 case fi1=>
  intro v T z hE hG;have ht:InT T (Mz _ z) (.mk 4 0 [kd u.kids 0,.mk 10 0 [shfT 1 (kd s.kids 0) 0,shfT 1 (kd s.kids 1) 0,.mk 1 0 []]]) (v 9):=hG 9 (by decide) (by kernel_rfl);obtain⟨a1,a2,a3,a4,a5,B8⟩:=ht.three;rw[B8] at ht;obtain⟨gb,hv2,gz,bl,bx⟩: ∃g,v 10= O2 g/\g∈z/\w7.drew.heap.size<=g/\T.heap[g]? =_:=hG 10 (by decide) (by kernel_rfl);simp only[List.foldl,Ord.dstOf,List.getElem?_toArray,List.getElem?_cons_zero,List.getElem?_cons_succ,Option.bind_some,Act.put,List.setIfInBounds_toArray,List.set_cons_zero,List.set_cons_succ];rw[B8,hv2];replace ht:=(InT.mono (fun b (p:Mz _ z b)=>(⟨p.1,fun h=> p.2 (h▸gz)⟩:(fun b=> AllN b/\b≠j.heap.size+1+1) b/\b≠gb)) (fun _ _=> rfl) ht).ret (j0 a1) (j0 a2) (.slice a3 a4 a5);have hne:=kp X bl br;have X1:=X;replace X:=X.trans hE.1;have Zx:=cbn bx;clear hG hE gz B8 hv2;refine H0 11 (by kernel_rfl) rfl rfl (fun K hK=> ?_)
  go_simp
  have e:=Off.new3 X (Nat.le_trans X1.size bl) bx (j0 a1) (j0 a2) (.slice a3 a4 a5);refine hK.out _ _ e.1.off (fun _=> ?_);clear hK K Zx;replace X:=e.1;have bq:=e.2;generalize bT (bT (bT T _ _) _ _) _ _=w8 at*;refine wpAnyH_done (by kernel_rfl) ?_ _;clear bx e X1;replace F:=hdq (both (rb F.out X) (both (k8 bq hne) (ht.up (xr _))));replace P:=hdq (P.out.ext X);replace br:=X.blk br;replace l:=l.trans X;replace X:=xr w8;replace Q:=F.out _ X.off;clear bq ht hne bl;go_wp2_with fail;refine rgn (j.heap.size+1+1) (by kernel_rfl) X ?_;replace X:=X.drew;refine B3 [0,1,2,4] 9 (by kernel_rfl) X.off (fun _ _ _ _ _ h=> h) ?_
  iterate 4 (refine tk rfl (by rfl) (by intro w X;have Q:=F.out _ X;go_simp;(try with_reducible rfl)) ?_;try simp only[W2])
  replace Q:=F.out _ X.off;refine H0 3 (by kernel_rfl) rfl rfl (fun K hK=> ?_)
  go_simp
  go_at_call 46
  have N9:=Q.1.1.1.1;refine(Sf _ _ _ (HE.out.ext (l.trans X)) (VTr.out)).mono ?_;rintro e w9 ⟨u,rfl,hM,e⟩;have O:=hM.at' N9;obtain⟨_,_,_,_,_,rfl⟩:=O.three;clear hM N9;replace X:=X.trans e;replace Q:=F.out _ X.off;refine hK.out _ _ X.off (fun _=> ?_);refine H0 5 (by kernel_rfl) rfl rfl (fun K hK=> ?_)
  go_simp
  go_at_call 46
  have N9:=Q.1.1.1.1;refine(Sf _ _ _ (HD.out.ext (l.trans X)) (VTs.out)).mono ?_;rintro e S6 ⟨u,rfl,hM,e⟩;have hd:=hM.at' N9;obtain⟨_,_,_,_,_,rfl⟩:=hd.three;clear hM N9;replace O:=O.later e;replace X:=X.trans e;replace Q:=F.out _ X.off;refine hK.out _ _ X.off (fun _=> ?_);refine H0 6 (by kernel_rfl) rfl rfl (fun K hK=> ?_)
  go_simp
  obtain⟨e,o7⟩:=Zc 25 Q.2.2 O hd Q.1.1.1.1;replace X:=X.trans e;replace Q:=F.out _ X.off;refine hK.out _ _ X.off (fun _=> ?_);clear O hd;refine H0 7 (by kernel_rfl) rfl rfl (fun K hK=> ?_)
  go_simp
  go_at_call 60
  refine(db 12 Q.1.1.1.1 o7 rfl).mono ?_;rintro e Y4 ⟨A7,c7,rfl,hp,e⟩;replace X:=X.trans e;replace Q:=F.out _ X.off;refine hK.out _ _ X.off (fun _=> ?_);clear o7;refine H0 8 (by kernel_rfl) rfl rfl (fun K hK=> ?_)
  go_simp
  go_at_call 63
  refine(dD Y _ _ (P.out.ext X) _ _ hp q C.out).mono ?_;rintro e ki ⟨u,rfl,Z,e⟩;replace X:=X.trans e;replace Q:=F.out _ X.off;refine hK.out _ _ X.off (fun _=> ?_);obtain⟨_,_,_,_,_,rfl⟩:=Z.three;clear hp;refine B3 [9,10] 2 (by kernel_rfl) X.off (fun _ _ _ _ _ h=> h) ?_
  iterate 2 (refine tk rfl (by rfl) (by intro w X;go_simp;(try with_reducible rfl)) ?_;try simp only[W2])
  have R:=cbn (X.blk br);refine H0 11 (by kernel_rfl) rfl rfl (fun K hK=> ?_)
  go_simp
  refine hK.out _ _ (X.off.set3 _ _ _) (fun _=> ?_);refine B3 [12] 0 (by kernel_rfl) (X.off.set3 _ _ _) (fun _ _ _ _ _ h=> h) ?_;refine tk rfl (by rfl) (by intro w X;go_simp;(try with_reducible rfl)) ?_
  try simp only[W2]
  refine wpAnyH_done (by kernel_rfl) ?_ _;go_wp2_with fail;exact L7 (by simp[results,results34,go_sem,R]) (Z) (Od rfl) (l.trans X) (by omega) rfl

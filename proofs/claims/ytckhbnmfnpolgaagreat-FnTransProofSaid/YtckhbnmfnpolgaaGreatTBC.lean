/- Lemmas towards the law. -/
import Derived.Test.YtckhbnmfnpolgaaGreatTBB
open Go renaming World->aN,maxLen->aW,results->aS,wpAnyH_done->bO,heap_alloc_new->aT,Value->aU
open Go.World renaming alloc->aO,setCell->bT
open Nat renaming le_succ->aR,le_refl->aP,le_trans->bM,lt_of_lt_of_le->aZ
open List renaming mem_cons_self->fP,getElem?_toArray->dV,getElem?_cons_zero->dR,getElem?_cons_succ->dO,setIfInBounds_toArray->aV,set_cons_zero->bP,set_cons_succ->bN
open Go.RowKit.Below renaming heap_setCell->aM
open Go.Proofs.Tryz
set_option linter.all false
set_option maxHeartbeats 8000000
set_option maxRecDepth 100000
namespace Go.Proofs.YtckhbnmfnpolgaaGreat
open Go Go.RowKit
attribute [local go_sem ↓] Go.wp_at_zero Go.wp_at_succ
theorem ZH{t:Tr}{k:Int}{q:Tr×Int}(h:S4 t k=q)(hc:q.2=0):q.1.kids.length=(S0 k).toNat/\valid sigT q.1=true:=by
 have d:Q0 (some (t,0)) k=some (q.1,0):=by
  show thn (some (t,0)) _=_
  unfold thn;rw[<-hc];simp[h]
 obtain⟨-,f,c⟩:=vi d;exact⟨by omega,c⟩
theorem Rs{X:Tr×Int}{x:An}{K:Tr->Tr}{Y:Tr->An}{r:Tr×Int}(h:thn (some X) (fun s=> E4 x (K s) (Y s))=some r): ∃d,Hid (X.2=0->Wa x (K X.1)=some d)/\Hid (X.2≠0->d=X.2)/\Hid (d=0->X.2=0/\Y X.1=some r)/\Hid (d≠0->r=(D2,d)):=by
 obtain⟨d,j,c,f,i⟩:=oC h;exact⟨d,hdq j,hdq c,hdq f,hdq i⟩
theorem LK{wC:aN}{p1 p2:Nat}{A:Option Addr}{G:List Tr}{At:Option Addr}{f:List Tr}{ty:Nat->An}(k n:Int)(ca ct:Nat)(O:f.length<=ct)(l9:ct<=aW)(w0:aN)(N:Nat->Prop)(hJ:zc wC w0 N p1 p2 A G At f ty)(j7:f.length=3)(r:Tr×Int)(h:kr ty (kd f 0)=some r):Calls prog 149 #[.agg #[.slice A G.length ca,j0 k,j0 n,.slice At f.length ct,.func (.func 105) #[] #[O2 p1,O2 p2]]] w0 (n9 N w0 r):=by
 obtain⟨s,c,C,J,D⟩:=g8 h;clear h;obtain⟨b,o,rfl,-,⟨O9,P3,P6,Q5,R6,K0⟩,⟨eh,ax,dv,df,bm,K1⟩,ou,pn,oy,pq,pd,K2⟩:=j19 hJ.hK j7;have hp:=aI j7;have J3:=hdq j7;clear j7;go_enter func149,ntmps149;go_wp2_with fail;generalize E:aO (aO w0 _) _=w1;obtain⟨l,br,S⟩:=Nf E.symm hJ.hN;have B:=hdq (hJ.keep l (g:=w0.heap.size+1) (aR _) (D1 br));clear hJ;have F:=hdq (both S (both (K0.up l (aR _)) (both (K1.up l (aR _)) (K2.up l (aR _)))));have X:=xr w1;have Q:=F.out _ X.off;clear S E K0 K1 K2;refine(bF k n ca ct O l9 _ _ (B.out.ext X) 1 (by rw[J3.out];decide) 10 _ C.out).mono ?_;rintro e w2 ⟨u,rfl,hT,e⟩;replace X:=X.trans e;replace Q:=F.out _ X.off;obtain⟨ka,na,j⟩:=s;obtain⟨A1,c1,rfl,-,-,hK⟩:=InT.mk_iff.1 hT;clear hT;simp only at hK⊢;obtain⟨Y,t⟩ |rfl:=cz c
 · have R:=cbn (X.blk br)
   have R':=fun o=> cbn ((X.alloc o).blk br)
   go_wp2_with fail;exact v9 (by simp[aS,results149,go_sem,R,R']) (D.out Y.out) (((l.trans X).alloc _).set3 (aR _) _ _ _) rfl
 obtain⟨-,q,-⟩:=vi C.out;have hq:=J.out rfl;simp only[Tr.kids] at q hq hK;have q:j.length=3:=by have:S0 10=3:=rfl;omega
 clear C J D;obtain⟨c,C,J,D⟩:=Bs hq;clear hq;obtain⟨b2,o2,rfl,U,⟨qq,pw,px,qs,rq,F0⟩,⟨f11,f12,f13,f14,f15,F1⟩,f21,f22,f23,f24,f25,F2⟩:=j19 hK q;rw[q];clear hK q;go_wp2_with fail;generalize E:aO w2 _=w3;obtain⟨I,e⟩:=nb E;replace F:=hdq (both (rb F.out (X.trans e)) (both (k8 I (X.ne br)) (both (F0.fm U e) (both (F1.fm U e) (F2.fm U e)))));replace X:=X.trans e;replace B:=hdq (B.out.ext X);replace br:=X.blk br;replace l:=l.trans X;replace X:=xr w3;replace Q:=F.out _ X.off;clear E I e;clear F0 F1 F2 U;refine rgn (w0.heap.size+1) (by kernel_rfl) X ?_;replace X:=X.drew;refine B3 [0,1,2,3,4] 2 (by kernel_rfl) X.off (fun _ _ _ _ _ h=> h) ?_
 iterate 5 (refine tk rfl (by rfl) (by intro w X;have Q:=F.out _ X;go_simp;(try with_reducible rfl)) ?_;try simp only[W2])
 replace Q:=F.out _ X.off;refine H0 5 (by kernel_rfl) rfl rfl (fun K hK=> ?_)
 go_simp
 go_at_call 181
 refine(GD k n ca ct O l9 _ _ (B.out.ext X) 0 (by rw[J3.out];decide) _ _ Q.2.2.1.i c C.out).mono ?_;rintro e w4 ⟨rfl,e⟩;replace X:=X.trans e;replace Q:=F.out _ X.off;refine hK.out _ _ X.off (fun _=> ?_);refine B3 [6] 0 (by kernel_rfl) X.off (fun _ _ _ _ _ h=> h) ?_;refine tk rfl (by rfl) (by intro w X;go_simp;(try with_reducible rfl)) ?_
 try simp only[W2]
 refine bO (by kernel_rfl) ?_ _;obtain⟨Y,t⟩ |rfl:=cz c
 · have R:=cbn (X.blk br)
   go_wp2_with fail;exact v9 (by simp[aS,results149,go_sem,R]) (D.out Y.out) ((l.trans X).set3 (aR _) _ _ _) rfl
 obtain⟨d,h1,h2,h3,h4⟩:=Xs (J.out rfl);clear C J D;have C:=hdq h1;have J:=hdq h2;have D:=hdq h3;have H4:=hdq h4;clear h1 h2 h3 h4;go_wp2_with fail;generalize E:aO w4 _=w5;obtain⟨I,e⟩:=nb E;replace F:=hdq (both (rb F.out (X.trans e)) (k8 I (X.ne br)));replace X:=X.trans e;replace B:=hdq (B.out.ext X);replace br:=X.blk br;replace l:=l.trans X;replace X:=xr w5;replace Q:=F.out _ X.off;clear E I e;refine rgn (w0.heap.size+1) (by kernel_rfl) X ?_;replace X:=X.drew;refine B3 [0,1,2,3,4] 9 (by kernel_rfl) X.off (fun _ _ _ _ _ h=> h) ?_
 iterate 5 (refine tk rfl (by rfl) (by intro w X;have Q:=F.out _ X;go_simp;(try with_reducible rfl)) ?_;try simp only[W2])
 replace Q:=F.out _ X.off;refine fk 12 63 10 #[true,true,true,true,true,true,true,true,true,true,true,true,false,false] 2 [.any,.any,.any,.any,.any,Sp.row (fun b=> N b/\b≠w0.heap.size+1) [kd f 0,kd j 1],Sp.tree (fun b=> N b/\b≠w0.heap.size+1) (.mk 5 0 [kd f 0,kd j 1]),Sp.two (fun b=> N b/\b≠w0.heap.size+1) (mkV (.mk 5 0 [kd f 0,kd j 1])).1 (j0 (mkV (.mk 5 0 [kd f 0,kd j 1])).2),Sp.two (fun b=> N b/\b≠w0.heap.size+1) (mkV (.mk 5 0 [kd f 0,kd j 1])).1 (j0 (mkV (.mk 5 0 [kd f 0,kd j 1])).2),Sp.tree (fun b=> N b/\b≠w0.heap.size+1) (mkV (.mk 5 0 [kd f 0,kd j 1])).1,Sp.val (j0 (mkV (.mk 5 0 [kd f 0,kd j 1])).2),Sp.box w5.drew] [5,6,7,8,9,10,11] (fun w h=>(X.trans h).off) (by kernel_rfl) rfl rfl (fun _ _ _ _ h=> h) ?hx3 ?st3 ?fi3
 case hx3=>(intro a w z hE p L;obtain⟨u8,H,h8⟩: ∃u,a.eval (.tmp 34)= .tuple #[u,j0 (mkV (.mk 5 0 [kd f 0,kd j 1])).2]/\InT w (Mz _ z) (mkV (.mk 5 0 [kd f 0,kd j 1])).1 u:=L 8 34 (by kernel_rfl);replace H:=v4 H;exact⟨j0 (mkV (.mk 5 0 [kd f 0,kd j 1])).2,Or.inl ⟨by rfl,fun w'' _=> by go_simp⟩,rfl⟩)
 case st3=>
  repeat' first|exact trivial|refine And.intro ⟨_,rfl, ?_⟩ ?_
  all_goals(intro a w z hE p L;refine Ord.step_of rfl rfl ?_;intro K hK)
  · (have f35:=v4 (show a.eval (.tmp 35)= m0 O9 P3 P6 Q5 R6 from p 35 (by kernel_rfl));have f39:=v4 (show a.eval (.tmp 39)= m0 f11 f12 f13 f14 f15 from p 39 (by kernel_rfl));go_simp;obtain⟨V,h⟩:=n7 25 (Q.1.1.2.1.i.oldG' hE) (Q.1.2.2.2.1.i.oldG' hE) (Mc Q.1.1.1.1 hE);exact hK _ _ ⟨_,z,rfl,E9 hE V,_,2,rfl,aP _,by decide,h⟩)
  · (obtain⟨A5,c5,f5,ly,sq,mz⟩: ∃A c,a.eval (.tmp 40)= .slice A 2 c/\2<=c/\c<=aW/\InK w (Mz _ z) A [kd f 0,kd j 1]:=L 5 40 (by kernel_rfl);replace f5:=v4 f5;go_simp;go_at_call 56;refine(Qe w 5 A5 2 c5).mono ?_;rintro e w' ⟨rfl,V⟩;exact hK _ _ ⟨_,z,rfl,E9 hE V,InT.mk_iff.2 ⟨_,_,rfl,ly,sq,mz.later V⟩⟩)
  · (have h6:InT w (Mz _ z) (.mk 5 0 [kd f 0,kd j 1]) (a.eval (.tmp 41)):=L 6 41 (by kernel_rfl);obtain⟨_,_,_,_,_,f6⟩:=h6.three;rw[f6] at h6;replace f6:=v4 f6;go_simp;go_at_call 103;refine(Qi h6).mono ?_;rintro e w' ⟨_,_,_,_,_,rfl,hu,V⟩;exact hK _ _ ⟨_,z,rfl,E9 hE V,_,rfl,hu⟩)
  · (obtain⟨u7,f7,h7⟩: ∃u,a.eval (.tmp 42)= .tuple #[u,j0 (mkV (.mk 5 0 [kd f 0,kd j 1])).2]/\InT w (Mz _ z) (mkV (.mk 5 0 [kd f 0,kd j 1])).1 u:=L 7 42 (by kernel_rfl);replace f7:=v4 f7;go_simp;exact hK _ _ ⟨_,z,rfl,hE.id,_,rfl,h7⟩)
  · (obtain⟨u8,H,h8⟩: ∃u,a.eval (.tmp 34)= .tuple #[u,j0 (mkV (.mk 5 0 [kd f 0,kd j 1])).2]/\InT w (Mz _ z) (mkV (.mk 5 0 [kd f 0,kd j 1])).1 u:=L 8 34 (by kernel_rfl);replace H:=v4 H;go_simp;exact hK _ _ ⟨_,z,rfl,hE.id,h8⟩)
  · (obtain⟨u8,H,h8⟩: ∃u,a.eval (.tmp 34)= .tuple #[u,j0 (mkV (.mk 5 0 [kd f 0,kd j 1])).2]/\InT w (Mz _ z) (mkV (.mk 5 0 [kd f 0,kd j 1])).1 u:=L 8 34 (by kernel_rfl);replace H:=v4 H;go_simp;exact hK _ _ ⟨_,z,rfl,hE.id,rfl⟩)
  · (go_simp;exact hK _ _ ⟨_,_,rfl,EG.box hE,_,rfl,fP ..,(show _<=w.heap.size from hE.1.size),aT _ _⟩)
 case fi3=>
  intro v w' z hE hG;have ht:InT w' (Mz _ z) (mkV (.mk 5 0 [kd f 0,kd j 1])).1 (v 9):=hG 9 (by decide) (by kernel_rfl);obtain⟨a1,a2,a3,a4,a5,B8⟩:=ht.three;rw[B8] at ht;obtain⟨gb,hv2,gz,bl,bx⟩: ∃g,v 11= O2 g/\g∈z/\w5.drew.heap.size<=g/\w'.heap[g]? =_:=hG 11 (by decide) (by kernel_rfl);have hv3:v 10= j0 (mkV (.mk 5 0 [kd f 0,kd j 1])).2:=hG 10 (by decide) (by kernel_rfl);simp only[List.foldl,Ord.dstOf,dV,dR,dO,Option.bind_some,Act.put,aV,bP,bN];rw[B8,hv2,hv3];replace ht:=(InT.mono (fun b (U:Mz _ z b)=>(⟨U.1,fun h=> U.2 (h▸gz)⟩:(fun b=> N b/\b≠w0.heap.size+1) b/\b≠gb)) (fun _ _=> rfl) ht).ret (j0 a1) (j0 a2) (.slice a3 a4 a5);have Z:=kp X bl br;have X1:=X;replace X:=X.trans hE.1;have Zx:=cbn bx;clear hG hE gz B8 hv2;refine H0 12 (by kernel_rfl) rfl rfl (fun K hK=> ?_)
  go_simp
  have e:=Off.new3 X (bM X1.size bl) bx (j0 a1) (j0 a2) (.slice a3 a4 a5);refine hK.out _ _ e.1.off (fun _=> ?_);clear hK K Zx;replace X:=e.1;have I:=e.2;generalize bT (bT (bT w' _ _) _ _) _ _=w6 at*;refine B3 [13] 0 (by kernel_rfl) X.off (fun _ _ _ _ _ h=> h) ?_;refine tk rfl (by rfl) (by intro w X;go_simp;(try with_reducible rfl)) ?_
  try simp only[W2]
  refine bO (by kernel_rfl) ?_ _;clear bx e X1;replace F:=hdq (both (rb F.out X) (both (k8 I Z) (ht.up (xr _))));replace B:=hdq (B.out.ext X);replace br:=X.blk br;replace l:=l.trans X;replace X:=xr w6;replace Q:=F.out _ X.off;clear I ht Z bl;go_wp2_with fail;refine(tA k n ca ct O l9 _ _ (B.out.ext X) 2 (by rw[J3.out];decide) _ _ Q.2.2 _ d C.out J.out).mono ?_;rintro e w7 ⟨rfl,e⟩;replace X:=X.trans e;replace Q:=F.out _ X.off;obtain⟨Y,t⟩ |rfl:=cz d
  · have R:=cbn (X.blk br)
    go_wp2_with fail;exact v9 (by simp[aS,results149,go_sem,R]) (H4.out Y.out) ((l.trans X).set3 (aR _) _ _ _) rfl
  have HR:=hdq (Option.some.inj (D.out rfl));clear C J D H4;go_wp2_with fail;refine rgn (w0.heap.size+1) (by kernel_rfl) X ?_;replace X:=X.drew;refine B3 [0,1,2,3,4] 7 (by kernel_rfl) X.off (fun _ _ _ _ _ h=> h) ?_
  iterate 5 (refine tk rfl (by rfl) (by intro w X;have Q:=F.out _ X;go_simp;(try with_reducible rfl)) ?_;try simp only[W2])
  replace Q:=F.out _ X.off;refine H0 5 (by kernel_rfl) rfl rfl (fun K hK=> ?_)
  go_simp
  obtain⟨e,o7⟩:=n7 25 Q.1.1.1.2.1.i Q.1.1.2.2.2.2.i Q.1.1.1.1.1;replace X:=X.trans e;replace Q:=F.out _ X.off;refine hK.out _ _ X.off (fun _=> ?_);refine H0 6 (by kernel_rfl) rfl rfl (fun K hK=> ?_)
  go_simp
  go_at_call 56
  refine(yk 5 o7 rfl).mono ?_;rintro e w8 ⟨rfl,hx,e⟩;replace X:=X.trans e;replace Q:=F.out _ X.off;refine hK.out _ _ X.off (fun _=> ?_);refine H0 7 (by kernel_rfl) rfl rfl (fun K hK=> ?_)
  go_simp
  go_at_call 103
  refine(Qi hx).mono ?_;rintro e w9 ⟨_,_,_,_,_,rfl,hz,e⟩;replace X:=X.trans e;replace Q:=F.out _ X.off;refine hK.out _ _ X.off (fun _=> ?_);refine B3 [8,9] 2 (by kernel_rfl) X.off (fun _ _ _ _ _ h=> h) ?_
  iterate 2 (refine tk rfl (by rfl) (by intro w X;go_simp;(try with_reducible rfl)) ?_;try simp only[W2])
  have R:=cbn (X.blk br);refine H0 10 (by kernel_rfl) rfl rfl (fun K hK=> ?_)
  go_simp
  refine hK.out _ _ (X.off.set3 _ _ _) (fun _=> ?_);refine B3 [11] 0 (by kernel_rfl) (X.off.set3 _ _ _) (fun _ _ _ _ _ h=> h) ?_;refine tk rfl (by rfl) (by intro w X;go_simp;(try with_reducible rfl)) ?_
  try simp only[W2]
  refine bO (by kernel_rfl) ?_ _;go_wp2_with fail;exact L7 (by simp[aS,results149,go_sem,R]) (hz) (Od HR.out.symm) (l.trans X) (aR _) rfl
theorem iG{wC:aN}{p1 p2:Nat}{A:Option Addr}{G:List Tr}{At:Option Addr}{f:List Tr}{ty:Nat->An}(k n:Int)(ca ct:Nat)(L:f.length<=ct)(l9:ct<=aW)(w0:aN)(N:Nat->Prop)(hJ:zc wC w0 N p1 p2 A G At f ty)(j7:f.length=3)(hv0:valid sigT (kd f 0)=true)(U:valid sigT (kd f 1)=true)(r:Tr×Int)(h:No ty (kd f 0) (kd f 1)=some r):Calls prog 150 #[.agg #[.slice A G.length ca,j0 k,j0 n,.slice At f.length ct,.func (.func 105) #[] #[O2 p1,O2 p2]]] w0 (n9 N w0 r):=by
 have jy:=hdq hv0;clear hv0;have qi:=hdq U;clear U;obtain⟨s,c,H1,H2,H3⟩:=g8 h;clear h;obtain⟨b,o,rfl,-,⟨O9,P3,P6,Q5,R6,K0⟩,⟨eh,ax,dv,df,bm,K1⟩,ou,pn,oy,pq,pd,K2⟩:=j19 hJ.hK j7;have hp:=aI j7;have J3:=hdq j7;clear j7;go_enter func150,ntmps150;go_wp2_with fail;generalize hw:aO (aO w0 _) _=w1;obtain⟨B,br,S⟩:=Nf hw.symm hJ.hN;have H:=hdq (hJ.keep B (g:=w0.heap.size+1) (aR _) (D1 br));clear hJ;have F:=hdq (both S (both (K0.up B (aR _)) (both (K1.up B (aR _)) (K2.up B (aR _)))));have X:=xr w1;have Q:=F.out _ X.off;clear S hw K0 K1 K2;refine(lD k n ca ct L l9 _ _ (H.out.ext X) 0 (by rw[J3.out];decide) _ H1.out).mono ?_;rintro e w2 ⟨rfl,e⟩;replace X:=X.trans e;replace Q:=F.out _ X.off;simp only;obtain⟨Z,t⟩ |rfl:=cz c
 · have R:=cbn (X.blk br)
   go_wp2_with fail;exact v9 (by simp[aS,results150,go_sem,R]) (H3.out Z.out) ((B.trans X).set3 (aR _) _ _ _) rfl
 obtain⟨d,G1,G2,G3,G4⟩:=Rs (H2.out rfl);clear H1 H2 H3;obtain⟨q,Y⟩: ∃q,S4 (kd f 0) 13=q:=⟨_,rfl⟩;rw[Y] at G1 G2 G3;have HQ:=hdq Y;have Gp:=hdq (fun hc=> ZH Y hc);have ix:=hdq (fun w M (hM: ∀b,w.heap.size<=b->M b) v (hv:Lies w (kd f 0) v)=>(show Calls prog 83 #[v,j0 13] w (n9 M w q) from Y▸NE (kd f 0) 13 w M hM v hv));clear Y HQ;go_wp2_with fail;refine(ix.out _ _ Q.1.1 _ Q.2.1.l).mono ?_;rintro e w3 ⟨u,rfl,hT,e⟩;replace X:=X.trans e;replace Q:=F.out _ X.off;obtain⟨u1,u2,u3,u4,u5,rfl⟩:=hT.three;simp only;go_wp2_with fail;generalize hw:aO w3 _=w4;obtain⟨bq,e⟩:=nb hw;replace F:=hdq (both (rb F.out (X.trans e)) (both (k8 bq (X.ne br)) (hT.up e)));replace X:=X.trans e;replace H:=hdq (H.out.ext X);replace br:=X.blk br;replace B:=B.trans X;replace X:=xr w4;replace Q:=F.out _ X.off;clear hw bq e;clear hT;refine rgn (w0.heap.size+1) (by kernel_rfl) X ?_;replace X:=X.drew;refine B3 [0,1,3] 3 (by kernel_rfl) X.off (fun _ _ _ _ _ h=> h) ?_
 iterate 3 (refine tk rfl (by rfl) (by intro w X;have Q:=F.out _ X;go_simp;(try with_reducible rfl)) ?_;try simp only[W2])
 replace Q:=F.out _ X.off;refine H0 2 (by kernel_rfl) rfl rfl (fun K hK=> ?_)
 go_simp
 go_at_call 146
 refine(RD _ _ _ _ Q.2.2).mono ?_;rintro e w5 ⟨u,rfl,hx,e⟩;replace X:=X.trans e;replace Q:=F.out _ X.off;refine hK.out _ _ X.off (fun _=> ?_);obtain⟨_,_,_,_,_,rfl⟩:=hx.three;refine H0 4 (by kernel_rfl) rfl rfl (fun K hK=> ?_)
 go_simp
 go_at_call 145
 refine(tA k n ca ct L l9 _ _ (H.out.ext X) 1 (by rw[J3.out];decide) _ _ hx _ d G1.out G2.out).mono ?_;rintro e w6 ⟨rfl,e⟩;replace X:=X.trans e;replace Q:=F.out _ X.off;refine hK.out _ _ X.off (fun _=> ?_);refine B3 [5] 0 (by kernel_rfl) X.off (fun _ _ _ _ _ h=> h) ?_;refine tk rfl (by rfl) (by intro w X;go_simp;(try with_reducible rfl)) ?_
 try simp only[W2]
 refine bO (by kernel_rfl) ?_ _;clear hx;obtain⟨Z,t⟩ |rfl:=cz d
 · have R:=cbn (X.blk br)
   go_wp2_with fail;exact v9 (by simp[aS,results150,go_sem,R]) (G4.out Z.out) ((B.trans X).set3 (aR _) _ _ _) rfl
 obtain⟨hc,hy⟩:=G3.out (by trivial);obtain⟨C,hv⟩:=Gp.out hc;have hT:=Q.2.2;obtain⟨⟨ka,na,j⟩,qc⟩:=q;simp only at hc hy C hv hT;subst hc;obtain⟨A1,cq,V,-,-,hK⟩:=InT.mk_iff.1 hT;obtain⟨rfl,rfl,rfl,rfl,rfl⟩:u1=ka/\u2=na/\u3=A1/\u4=j.length/\u5=cq:=by simpa using V
 have C:j.length=2:=C;have av:=hdq (show valid sigT (kd j 1)=true from qd hv (i:=1) (by simp only[Tr.kids];omega));clear G1 G2 G3 G4 Gp ix hT V hv;simp only[Tr.kids] at hy;obtain⟨b2,o2,rfl,hb,-,f11,I,p,f14,f15,F1⟩:=y17 hK C;have HF:=hdq (fun w' (h:Off (w0.heap.size+1) w6 w')=>(KA.off F1 hb.2 (fun _ h=> h.2) w' h));obtain⟨d,h1,h2,h3,h4⟩:=Xs hy;have H1:=hdq h1;have H2:=hdq h2;have H3:=hdq h3;have H4:=hdq h4;have HL:=hdq C;clear hK F1 hb hy h1 h2 h3 h4;replace F:=hdq (both (rb F.out X) HF.out);replace H:=hdq (H.out.ext X);replace br:=X.blk br;replace B:=B.trans X;replace X:=xr w6;replace Q:=F.out _ X.off;clear HF;have hp1:(1:Int) <(j.length:Int)/\1 < j.length:=by omega
 clear C;go_wp2_with fail;refine rgn (w0.heap.size+1) (by kernel_rfl) X ?_;replace X:=X.drew;refine B3 [0,1,2,3,4,5,6,7,8] 10 (by kernel_rfl) X.off (fun _ _ _ _ _ h=> h) ?_
 iterate 9 (refine tk rfl (by rfl) (by intro w X;have Q:=F.out _ X;go_simp;(try with_reducible rfl)) ?_;try simp only[W2])
 replace Q:=F.out _ X.off;refine fk 17 67 15 #[true,true,true,true,true,true,true,true,true,true,true,true,true,true,true,true,true,false,false] 2 [.any,.any,.any,.any,.any,.any,.any,.any,.any,Sp.two (fun b=> N b/\b≠w0.heap.size+1) (okT (X0 (kd f 1) (kd j 1) 0 0)) (.bool (valid sigT (X0 (kd f 1) (kd j 1) 0 0))),Sp.tree (fun b=> N b/\b≠w0.heap.size+1) (okT (X0 (kd f 1) (kd j 1) 0 0)),Sp.val (.bool (valid sigT (X0 (kd f 1) (kd j 1) 0 0))),Sp.two (fun b=> N b/\b≠w0.heap.size+1) (mkV (X0 (kd f 1) (kd j 1) 0 0)).1 (j0 (mkV (X0 (kd f 1) (kd j 1) 0 0)).2),Sp.two (fun b=> N b/\b≠w0.heap.size+1) (mkV (X0 (kd f 1) (kd j 1) 0 0)).1 (j0 (mkV (X0 (kd f 1) (kd j 1) 0 0)).2),Sp.tree (fun b=> N b/\b≠w0.heap.size+1) (mkV (X0 (kd f 1) (kd j 1) 0 0)).1,Sp.val (j0 (mkV (X0 (kd f 1) (kd j 1) 0 0)).2),Sp.box w6.drew] [9,10,11,12,13,14,15,16] (fun w h=>(X.trans h).off) (by kernel_rfl) rfl rfl (fun _ _ _ _ h=> h) ?hx4 ?st4 ?fi4
 case hx4=>(intro a w z hE D E;obtain⟨Ki,p,G8⟩: ∃u,a.eval (.tmp 38)= .tuple #[u,j0 (mkV (X0 (kd f 1) (kd j 1) 0 0)).2]/\InT w (Mz _ z) (mkV (X0 (kd f 1) (kd j 1) 0 0)).1 u:=E 13 38 (by kernel_rfl);replace p:=v4 p;exact⟨j0 (mkV (X0 (kd f 1) (kd j 1) 0 0)).2,Or.inl ⟨by rfl,fun w'' _=> by go_simp⟩,rfl⟩)
 case st4=>
  repeat' first|exact trivial|refine And.intro ⟨_,rfl, ?_⟩ ?_
  all_goals(intro a w z hE D E;refine Ord.step_of rfl rfl ?_;intro K hK)
  · (have f42:=v4 (show a.eval (.tmp 42)= m0 f11 I p f14 f15 from D 42 (by kernel_rfl));have f47:=v4 (show a.eval (.tmp 47)= m0 eh ax dv df bm from D 47 (by kernel_rfl));go_simp;go_at_call 119;refine(dz av.out qi.out (Mc Q.1.1.1.1 hE) (Q.2.l.ext hE.1) (Q.1.1.2.2.1.l.ext hE.1)).mono ?_;rintro e w' ⟨_,_,_,_,_,rfl,V,e'⟩;exact hK _ _ ⟨_,z,rfl,E9 hE e',_,rfl,V⟩)
  · (obtain⟨u9,f9,h9⟩: ∃u,a.eval (.tmp 48)= .tuple #[u,.bool (valid sigT (X0 (kd f 1) (kd j 1) 0 0))]/\InT w (Mz _ z) (okT (X0 (kd f 1) (kd j 1) 0 0)) u:=E 9 48 (by kernel_rfl);replace f9:=v4 f9;go_simp;exact hK _ _ ⟨_,z,rfl,hE.id,h9⟩)
  · (obtain⟨u9,f9,h9⟩: ∃u,a.eval (.tmp 48)= .tuple #[u,.bool (valid sigT (X0 (kd f 1) (kd j 1) 0 0))]/\InT w (Mz _ z) (okT (X0 (kd f 1) (kd j 1) 0 0)) u:=E 9 48 (by kernel_rfl);replace f9:=v4 f9;go_simp;exact hK _ _ ⟨_,z,rfl,hE.id,rfl⟩)
  · (have J:InT w (Mz _ z) (okT (X0 (kd f 1) (kd j 1) 0 0)) (a.eval (.tmp 49)):=E 10 49 (by kernel_rfl);obtain⟨_,_,_,_,_,O⟩:=J.three;rw[O] at J;replace O:=v4 O;have f11:=ck (E 11 50 (by kernel_rfl)) rfl;go_simp;go_at_call 103;refine(Mp J).mono ?_;rintro e w' ⟨_,_,_,_,_,rfl,V,e'⟩;exact hK _ _ ⟨_,z,rfl,E9 hE e',_,rfl,V⟩)
  · (obtain⟨u12,I,K9⟩: ∃u,a.eval (.tmp 51)= .tuple #[u,j0 (mkV (X0 (kd f 1) (kd j 1) 0 0)).2]/\InT w (Mz _ z) (mkV (X0 (kd f 1) (kd j 1) 0 0)).1 u:=E 12 51 (by kernel_rfl);replace I:=v4 I;go_simp;exact hK _ _ ⟨_,z,rfl,hE.id,_,rfl,K9⟩)
  · (obtain⟨Ki,p,G8⟩: ∃u,a.eval (.tmp 38)= .tuple #[u,j0 (mkV (X0 (kd f 1) (kd j 1) 0 0)).2]/\InT w (Mz _ z) (mkV (X0 (kd f 1) (kd j 1) 0 0)).1 u:=E 13 38 (by kernel_rfl);replace p:=v4 p;go_simp;exact hK _ _ ⟨_,z,rfl,hE.id,G8⟩)
  · (obtain⟨Ki,p,G8⟩: ∃u,a.eval (.tmp 38)= .tuple #[u,j0 (mkV (X0 (kd f 1) (kd j 1) 0 0)).2]/\InT w (Mz _ z) (mkV (X0 (kd f 1) (kd j 1) 0 0)).1 u:=E 13 38 (by kernel_rfl);replace p:=v4 p;go_simp;exact hK _ _ ⟨_,z,rfl,hE.id,rfl⟩)
  · (go_simp;exact hK _ _ ⟨_,_,rfl,EG.box hE,_,rfl,fP ..,(show _<=w.heap.size from hE.1.size),aT _ _⟩)
 case fi4=>
  intro v w' z hE hG;have ht:InT w' (Mz _ z) (mkV (X0 (kd f 1) (kd j 1) 0 0)).1 (v 14):=hG 14 (by decide) (by kernel_rfl);obtain⟨a1,a2,a3,a4,a5,U⟩:=ht.three;rw[U] at ht;obtain⟨gb,hv2,gz,bl,bx⟩: ∃g,v 16= O2 g/\g∈z/\w6.drew.heap.size<=g/\w'.heap[g]? =_:=hG 16 (by decide) (by kernel_rfl);have hv3:v 15= j0 (mkV (X0 (kd f 1) (kd j 1) 0 0)).2:=hG 15 (by decide) (by kernel_rfl);simp only[List.foldl,Ord.dstOf,dV,dR,dO,Option.bind_some,Act.put,aV,bP,bN];rw[U,hv2,hv3];replace ht:=(InT.mono (fun b (hb:Mz _ z b)=>(⟨hb.1,fun h=> hb.2 (h▸gz)⟩:(fun b=> N b/\b≠w0.heap.size+1) b/\b≠gb)) (fun _ _=> rfl) ht).ret (j0 a1) (j0 a2) (.slice a3 a4 a5);have hne:=kp X bl br;have X1:=X;replace X:=X.trans hE.1;have Zx:=cbn bx;clear hG hE gz U hv2;refine H0 17 (by kernel_rfl) rfl rfl (fun K hK=> ?_)
  go_simp
  have e:=Off.new3 X (bM X1.size bl) bx (j0 a1) (j0 a2) (.slice a3 a4 a5);refine hK.out _ _ e.1.off (fun _=> ?_);clear hK K Zx;replace X:=e.1;have bq:=e.2;generalize bT (bT (bT w' _ _) _ _) _ _=w7 at*;refine B3 [18] 0 (by kernel_rfl) X.off (fun _ _ _ _ _ h=> h) ?_;refine tk rfl (by rfl) (by intro w X;go_simp;(try with_reducible rfl)) ?_
  try simp only[W2]
  refine bO (by kernel_rfl) ?_ _;clear bx e X1;replace F:=hdq (both (rb F.out X) (both (k8 bq hne) (ht.up (xr _))));replace H:=hdq (H.out.ext X);replace br:=X.blk br;replace B:=B.trans X;replace X:=xr w7;replace Q:=F.out _ X.off;clear bq ht hne bl;go_wp2_with fail;refine(tA k n ca ct L l9 _ _ (H.out.ext X) 2 (by rw[J3.out];decide) _ _ Q.2.2 _ d H1.out H2.out).mono ?_;rintro e w8 ⟨rfl,e⟩;replace X:=X.trans e;replace Q:=F.out _ X.off;obtain⟨Z,t⟩ |rfl:=cz d
  · have R:=cbn (X.blk br)
    go_wp2_with fail;exact v9 (by simp[aS,results150,go_sem,R]) (H4.out Z.out) ((B.trans X).set3 (aR _) _ _ _) rfl
  have HR:=hdq (Option.some.inj (H3.out rfl));clear H1 H2 H3 H4;have R:=cbn (X.blk br);go_wp2_with fail;exact L7 (by simp[aS,results150,go_sem,R]) (Q.1.1.1.2.1.i) (HR.out.symm) (B.trans X) (aR _) rfl
end Go.Proofs.YtckhbnmfnpolgaaGreat
namespace Go.Proofs.YtckhbnmfnpolgaaGreat
open Go Go.RowKit
def DQ(w:aN)(g m:Nat)(P:Tr->Prop)(e:Ending)(w':aN):Prop:= ∃t u,e= .returned u/\P t/\E2 w.heap.size w' t u/\Rd w' g m/\i1 [g] w w'
def OfD(r g:Nat)(w w':aN):Prop:=w.heap.size<=w'.heap.size/\ ∀b,b < w.heap.size->b≠r->b≠g->w'.heap[b]? =w.heap[b]?
def St(W w:aN)(g m:Nat):Prop:=i1 [g] W w/\Rd w g m
section
variable {r g m m' b : Nat} {w w' w'' w0 w1 W : aN} {P Q : aN → Prop} {N : Nat → Prop} {t : Tr} {u x0 x1 x2 : aU} {o : Obj} {e : TypeId}
theorem i1.ofD(h:i1 [g] w w'):OfD r g w w':=⟨h.size,fun b d _ c=> h.block b d (by simpa using c)⟩
theorem OfD.trans(h:OfD r g w w')(k:OfD r g w' w''):OfD r g w w'':=⟨bM h.1 k.1,fun b d hr c=>(k.2 b (aZ d h.1) hr c).trans (h.2 b d hr c)⟩
theorem OfD.set3(h:OfD r g w w')(x y z:aU):OfD r g w (((w'.setCell ⟨r,0,none⟩ x).setCell ⟨r,1,none⟩ y).setCell ⟨r,2,none⟩ z):=
 ⟨by simpa using h.1,fun c hc hr d=> by rw[aM _ _ _ _ hr,aM _ _ _ _ hr,aM _ _ _ _ hr];exact h.2 c hc hr d⟩
theorem St.of(h:Rd w g m)(e:Ext w w'):St w w' g m:=⟨oE e,h.ext e⟩
theorem St.id(h:St W w g m):St w w g m:=⟨i1.refl _ _,h.2⟩
theorem St.up(h:St W w g m)(e:Ext w w'):St W w' g m:=⟨h.1.trans (oE e),h.2.ext e⟩
theorem St.dr(h:St W w g m):St W w.drew g m:=h.up (xr _).drew
theorem St.tr(h:St W w g m)(o:i1 [g] w w')(R:Rd w' g m'):St W w' g m':=⟨h.1.trans o,R⟩
theorem St.off(h:St W w g m):OfD r g W w:=h.1.ofD
theorem St.br(Z:St W w g m)(d:W.heap[b]? =some o)(c:b≠g):w.heap[b]? =some o:=Z.1.keepBlk d (by simpa using c)
theorem St.news(Z:St W w g m)(hr:W.heap[r]? =some o): ∀b,w.heap.size<=b->r < b:=fun b c=> by
 have:=D1 hr;have:=Z.1.size;omega
theorem St.below{X:Nat}(Z:St W w g m)(c:Below X w w')(d:W.heap.size<=X)(f:g < X):St W w' g m:=⟨Z.1.below c d,Z.2.under c f⟩
theorem Yn(c:w.heap[b]? =some (.cells #[x0,x1,x2] e (0,0)))(hr:b≠r)(d:b≠g): ∀w',OfD r g w w'->w'.cell? ⟨b,0,none⟩=some x0/\w'.cell? ⟨b,1,none⟩=some x1/\w'.cell? ⟨b,2,none⟩=some x2/\b < w'.heap.size:=
 fun w' h=> cb3 ((h.2 b (D1 c) hr d).trans c)
theorem dB(F: ∀w',OfD r g w w'->P w')(Z:St w w1 g m): ∀w',OfD r g w1 w'->P w':=fun w' h=> F w' (Z.off.trans h)
theorem InT.dl(h:InT w N t u)(X:i1 [g] w w')(hN: ∀b,N b->b≠g):InT w' N t u:=InT.mono (fun b c=> c.1) (fun b c=> X.block b c.2 (by simpa using hN b c.1)) h.bound
theorem InT.dw(h:InT w N t u)(X:OfD r g w w')(hN: ∀b,N b->b≠r/\b≠g):InT w' N t u:=InT.mono (fun b c=> c.1) (fun b c=> X.2 b c.2 (hN b c.1).1 (hN b c.1).2) h.bound
theorem ab{r g:Nat}(h:g < r): ∀b,r < b->b≠r/\b≠g:=fun b c=> by omega
theorem bb{r g:Nat}(h:g < r): ∀b,r < b->b≠g:=fun b c=> by omega
theorem DQ.at{T:Tr->Prop}{e:Ending}(h:DQ w g m' T e w')(Z:St W w g m)(hr:W.heap[r]? =some o): ∃t k n A l c,e= .returned (m0 k n A l c)/\T t/\InT w' (fun b=> r < b) t (m0 k n A l c)/\i1 [g] w w'/\St W w' g m':=by
 obtain⟨t,u,rfl,p,f,i,d⟩:=h;obtain⟨k,n,A,l,c,rfl⟩:=f.three;exact⟨t,k,n,A,l,c,rfl,p,InT.mono (fun b j=> Z.news hr b j.1) (fun _ _=> rfl) f,d,Z.tr d i⟩
def CQ(w:aN)(g m:Nat)(P:List Tr->Tr->Prop)(e:Ending)(w':aN):Prop:= ∃A n c d t u,e= .returned (.tuple #[.slice A n c,u])/\P d t/\d.length=n/\(n<=c/\c<=aW/\(A=none->c=0))/\Tc w.heap.size w' A d/\E2 w.heap.size w' t u/\Rd w' g m/\i1 [g] w w'
theorem CQ.at{T:List Tr->Tr->Prop}{e:Ending}(h:CQ w g m' T e w')(Z:St W w g m)(hN: ∀b,w.heap.size<=b->N b): ∃A n c f t k i B l d,e= .returned (.tuple #[.slice A n c,m0 k i B l d])/\T f t/\f.length=n/\(n<=c/\c<=aW/\(A=none->c=0))/\InK w' N A f/\InT w' N t (m0 k i B l d)/\St W w' g m':=by
 obtain⟨A,n,c,f,t,u,rfl,E,C,q,s,p,D,v⟩:=h;obtain⟨k,i,B,l,d,rfl⟩:=p.three;exact⟨A,n,c,f,t,k,i,B,l,d,rfl,E,C,q,InK.mono (fun b j=> hN b j.1) (fun _ _=> rfl) s,InT.mono (fun b j=> hN b j.1) (fun _ _=> rfl) p,Z.tr v D⟩
end
section
variable {P : Program} {fn : Func} {a : Act} {w w0 W : aN} {g m m' r : Nat} {t : Tr} {u x y z : aU} {T : Tr → Prop} {o : Obj}
theorem Zb{A:Option Addr}{n c:Nat}{f:List Tr}{T:List Tr->Tr->Prop}(j:(aS fn a.tmps).run P (((w.setCell ⟨r,0,none⟩ x).setCell ⟨r,1,none⟩ y).setCell ⟨r,2,none⟩ z)= .ok (.tuple #[.slice A n c,u]) (((w.setCell ⟨r,0,none⟩ x).setCell ⟨r,1,none⟩ y).setCell ⟨r,2,none⟩ z))
 (hP:T f t) (hn:f.length=n) (hA:n<=c/\c<=aW/\(A=none->c=0)) (hK:InK w (fun b=> r < b) A f) (hT:InT w (fun b=> r < b) t u) (Y:i1 [g] w0 W) (Z:St W w g m') (k:g < w0.heap.size) (hr:w0.heap.size<=r) (hm:m'<=m) (i:a.defers= []):bodyPost P fn (CQ w0 g m T) .ret a (((w.setCell ⟨r,0,none⟩ x).setCell ⟨r,1,none⟩ y).setCell ⟨r,2,none⟩ z):=by
 have hs: ∀b,r < b->b < w.heap.size->(((w.setCell ⟨r,0,none⟩ x).setCell ⟨r,1,none⟩ y).setCell ⟨r,2,none⟩ z).heap[b]? =w.heap[b]? :=fun b d _=> by
  have:b≠r:=by omega
  rw[aM _ _ _ _ this,aM _ _ _ _ this,aM _ _ _ _ this]
 exact bodyPost_ret j i ⟨A,n,c,f,t,u,rfl,hP,hn,hA,InK.mono (fun b d=>⟨by omega,by simpa using d.2⟩) (fun b d=> hs b d.1 d.2) hK.bound,InT.mono (fun b d=>⟨by omega,by simpa using d.2⟩) (fun b d=> hs b d.1 d.2) hT.bound,(((Z.2.mono hm).set (by show g < r;omega) _).set (by show g < r;omega) _).set (by show g < r;omega) _,(((Y.trans Z.1).setNew hr _).setNew hr _).setNew hr _⟩
theorem KA.dw{N:Nat->Prop}{w:aN}{b o:Nat}{t:Tr}{x1 x2:Int}{i:Option Addr}{c f:Nat}(h:KA w N b o t x1 x2 i c f)(d:N b)(hN: ∀b,N b->b≠r/\b≠g): ∀w',OfD r g w w'->KA w' N b o t x1 x2 i c f:=fun w' X=> by
 have hc: ∀{j:Nat} {v:aU},w.cell? ⟨b,j,none⟩=some v->w'.cell? ⟨b,j,none⟩=some v:=fun{j v} hc=>(World.cell?_of_block (w:=w) (a:=⟨b,j,none⟩) (X.2 b h.2.2.2.1 (hN b d).1 (hN b d).2)).trans hc
 exact⟨hc h.1,hc h.2.1,hc h.2.2.1,aZ h.2.2.2.1 X.1,h.2.2.2.2.dw X hN⟩
theorem InK.nil'(w:aN)(N:Nat->Prop)(A:Option Addr):InK w N A []:= .inl rfl
theorem InK.tail{N:Nat->Prop}{w:aN}{b o:Nat}{t:Tr}{d:List Tr}(h:InK w N (some ⟨b,o,none⟩) (t::d)):InK w N (some ⟨b,o+3,none⟩) d:=by
 rcases h with h|⟨i,j,c,f,hl⟩
 · cases h
 · simp only[Option.some.injEq,Addr.mk.injEq,and_true] at c
   obtain⟨rfl,rfl⟩:=c;exact .inr ⟨b,o+3,rfl,f,d5.drop 1 hl⟩
theorem KA.ex{N:Nat->Prop}{w w':aN}{b o:Nat}{t:Tr}{x1 x2:Int}{f:Option Addr}{c d:Nat}(h:KA w N b o t x1 x2 f c d)(e:Ext w w'):KA w' N b o t x1 x2 f c d:=
 ⟨e.cell h.1,e.cell h.2.1,e.cell h.2.2.1,aZ h.2.2.2.1 e.size,h.2.2.2.2.later e⟩
theorem Oe{id:Nat}{ops:Array Oper}{Q:Exit->Act->aN->Prop}(r:Nat)(hm:P.follows .mixedOrders=true)(Z:St W w g m)(h: ∀w',Ext w w'->St W w' g m->wpAnyH P .any ops Q (OfD r g W) ops.size (Array.replicate ops.size false) a w'):(Code.region id ops true).wp P Q a w:=
 wp_region_held_drew hm Z.dr.off fun _=> h _ (xr _).drew Z.dr
theorem kb(f:(aS fn a.tmps).run P (((w.setCell ⟨r,0,none⟩ x).setCell ⟨r,1,none⟩ y).setCell ⟨r,2,none⟩ z)= .ok u (((w.setCell ⟨r,0,none⟩ x).setCell ⟨r,1,none⟩ y).setCell ⟨r,2,none⟩ z))
 (hP:T t) (hT:InT w (fun b=> r < b) t u) (Y:i1 [g] w0 W) (Z:St W w g m') (i:g < w0.heap.size) (hr:w0.heap.size<=r) (hm:m'<=m) (d:a.defers= []):bodyPost P fn (DQ w0 g m T) .ret a (((w.setCell ⟨r,0,none⟩ x).setCell ⟨r,1,none⟩ y).setCell ⟨r,2,none⟩ z):=
 bodyPost_ret f d ⟨t,u,rfl,hP,InT.mono (fun b c=>⟨by omega,by simpa using c.2⟩) (fun b c=> by
  have:b≠r:=by omega
  rw[aM _ _ _ _ this,aM _ _ _ _ this,aM _ _ _ _ this]) hT.bound,(((Z.2.mono hm).set (by show g < r;omega) _).set (by show g < r;omega) _).set (by show g < r;omega) _,(((Y.trans Z.1).setNew hr _).setNew hr _).setNew hr _⟩
end
theorem St.new3{W w:aN}{g m b:Nat}{x0 x1 x2:aU}{e:TypeId}(Z:St W w g m)(j:W.heap.size<=b)(i:g < b)(h:w.heap[b]? =some (.cells #[x0,x1,x2] e (0,0)))(c f d:aU):
 St W (((w.setCell ⟨b,0,none⟩ c).setCell ⟨b,1,none⟩ f).setCell ⟨b,2,none⟩ d) g m/\(((w.setCell ⟨b,0,none⟩ c).setCell ⟨b,1,none⟩ f).setCell ⟨b,2,none⟩ d).heap[b]? =some (.cells #[c,f,d] e (0,0)):=
 ⟨⟨((Z.1.setNew j _).setNew j _).setNew j _,((Z.2.set i _).set i _).set i _⟩,b6 (b6 (b6 h 0 c) 1 f) 2 d⟩
theorem SA{w:aN}{N:Nat->Prop}{t1 t2 C B:Tr}{p A n q f l j d v i s k:aU}(e:TypeId)(I:InT w N t1 (.agg #[p,A,n]))(H:InT w N t2 (.agg #[q,f,l]))(D:InT w N C (.agg #[j,d,v]))(F:InT w N B (.agg #[i,s,k]))(hN: ∀b,w.heap.size<=b->N b):
 Ext w (w.alloc (.cells #[p,A,n,q,f,l,j,d,v,i,s,k] e))/\InK (w.alloc (.cells #[p,A,n,q,f,l,j,d,v,i,s,k] e)) N (some ⟨w.heap.size,0,none⟩) [t1,t2,C,B]:=by
 have E:=(xr w).alloc (.cells #[p,A,n,q,f,l,j,d,v,i,s,k] e);have c:=aT w (.cells #[p,A,n,q,f,l,j,d,v,i,s,k] e);exact⟨E,.inr ⟨w.heap.size,0,rfl,hN _ (aP _),⟨⟨_,_,_,E1 c 0,E1 c 1,E1 c 2,I.later E⟩,⟨_,_,_,E1 c 3,E1 c 4,E1 c 5,H.later E⟩,⟨_,_,_,E1 c 6,E1 c 7,E1 c 8,D.later E⟩,⟨_,_,_,E1 c 9,E1 c 10,E1 c 11,F.later E⟩,trivial⟩⟩⟩
theorem Cy{P:Program}{ops:Array Oper}{Q:Exit->Act->aN->Prop}{S:aN->Prop}{w:aN}{l:Array Bool}{a:Act}{f:Nat}{c d:Oper}(i j:Nat)(hr:Region.ready .any ops l= [i,j])(n:ops[i]? =some c)(s:ops[j]? =some d)(q:c.guard=none)(k:d.guard=none)
 (h: ∀K:Act->aN->Prop,Shut (∀a w,S w->(S w->wpAnyH P .any ops Q S f (l.setIfInBounds i true) a w)->K a w)->c.wp P a w K Q)
 (p: ∀K:Act->aN->Prop,Shut (∀a w,S w->(S w->wpAnyH P .any ops Q S f (l.setIfInBounds j true) a w)->K a w)->d.wp P a w K Q):wpAnyH P .any ops Q S (f+1) l a w:=by
 refine wpAnyH_ready hr (by simp) (AllReadyH.cons n (fun K hK=> ?_) (AllReadyH.cons s (fun K hK=> ?_) AllReadyH.nil))
 · rw[if_pos (by unfold Region.wanted;rw[q])]
   exact h K hK
 · rw[if_pos (by unfold Region.wanted;rw[k])]
   exact p K hK
theorem InK.dl{N:Nat->Prop}{g:Nat}{w w':aN}{A:Option Addr}{d:List Tr}(h:InK w N A d)(X:i1 [g] w w')(hN: ∀b,N b->b≠g):InK w' N A d:=InK.mono (fun b c=> c.1) (fun b c=> X.block b c.2 (by simpa using hN b c.1)) h.bound
theorem VK{w:aN}{g m:Nat}{cs:Array aU}(e:TypeId)(ns:List Int)(hc:cs.toList=ns.map (Value.int .i64))(R:Rd w g m):Ext w (w.alloc (.cells cs e))/\Xb (w.alloc (.cells cs e)) (some ⟨w.heap.size,0,none⟩) ns/\w.heap.size≠g:=
 ⟨(xr w).alloc _,sG (aT w _) hc,by have:=R.lt;omega⟩
theorem Qw{w:aN}{g m b:Nat}{ns:List Int}(N:Xb w (some ⟨b,0,none⟩) ns/\b≠g)(hn:(decide (0 < ns.length)&& decide (ns.length < 100))=true)(R:Rd w g m)(hm:m < 1125899906842624):
 Calls prog 100 #[O2 g,.slice (some ⟨b,0,none⟩) ns.length ns.length] w fun e w'=> ∃x:Int,e= .returned (j0 x)/\x∈ns/\i1 [g] w w'/\Rd w' g (m+1):=by
 simp only[Bool.and_eq_true,decide_eq_true_eq] at hn;exact(Qq _ g m R hm _ ns.length ns (aP _) (by unfold aW;omega) hn.1 N.1 (by intro b o f;simp at f;have:=N.2;omega)).mono fun e w' ⟨x,i,c,d,j⟩=>⟨x,i,c,j,d⟩
theorem numD{w:aN}{g m:Nat}{cs:Array aU}{e:TypeId}(ns:List Int)(hc:cs.toList=ns.map (Value.int .i64))(hn:(decide (0 < ns.length)&& decide (ns.length < 100))=true)(R:Rd w g m)(hm:m < 1125899906842624):
 Calls prog 100 #[O2 g,.slice (some ⟨w.heap.size,0,none⟩) ns.length ns.length] (w.alloc (.cells cs e)) fun e w'=> ∃x:Int,e= .returned (j0 x)/\x∈ns/\i1 [g] w w'/\Rd w' g (m+1):=by
 simp only[Bool.and_eq_true,decide_eq_true_eq] at hn;have c:=(xr w).alloc (.cells cs e);have:=R.lt;exact(Qq _ g m (R.ext c) hm _ ns.length ns (aP _) (by unfold aW;omega) hn.1 (sG (aT w _) hc) (by intro b o i;simp at i;omega)).mono fun e w' ⟨x,k,j,d,f⟩=>⟨x,k,j,(oE c).trans f,d⟩
end Go.Proofs.YtckhbnmfnpolgaaGreat
namespace Go.Proofs.YtckhbnmfnpolgaaGreat
open Go.RowKit
open M (Hd HR Cv Ty j2 rc a7 O5)
def Ag(G:List M.Tm)(t:M.Tm):Prop:= ∀f c,Rl False (O0 f (ctxE G) (enc t)) (P0 c (ctxE G) (enc t))
def li(G:List M.Tm)(t:M.Tm):Prop:= ∀f,rg (O0 f (ctxE G) (enc t))
theorem li.of{G:List M.Tm}{t A:M.Tm}(hG:y6 G)(hv:valid sigT (enc t)=true)(h:Ty G t A)(l:j2 G t):li G t:=fun f s c e=> by
 rcases lm f G t A hG hv h l s c e with rfl|rfl <;> decide
def bv(G:List M.Tm):M.Tm->Prop
 | .pi A B=> Ag G A/\(a7 G A->G.length < 20->Ag (A::G) B)
 | .lam A B=> Ag G A/\(a7 G A->G.length < 20->Ag (A::G) B)
 | .sg A B=> Ag G A/\(a7 G A->G.length < 20->Ag (A::G) B)
 | .app f a=> Ag G f/\Ag G a
 | .succ a=> Ag G a
 | .elim p z s a=> Ag G p/\Ag G z/\Ag G s/\Ag G a
 | .id T a b=> Ag G T/\Ag G a/\Ag G b
 | .refl a=> Ag G a
 | .move p e a=> Ag G p/\Ag G e/\Ag G a
 | .pair T a b=> Ag G T/\Ag G a/\Ag G b
 | .fst a=> Ag G a
 | .snd a=> Ag G a
 |_=> True
def vz(G:List M.Tm):M.Tm->Prop
 | .elim p z s a=>(∀F,Ty G p F->valid sigT (enc (M.stepTy p))=true)\/li G s
 | .move p e a=>(∀E T l r,Ty G e E->HR E (.id T l r)->valid sigT (enc (.id T l r))=true->valid sigT (enc (.app p l))=true)\/li G a
 | .pair T a b=>(∀S C D X,Ty G T S->HR T (.sg C D)->valid sigT (enc (.sg C D))=true->Ty G a X->valid sigT (enc (D.inst a))=true)\/li G b
 |_=> True
theorem uD(G:List M.Tm)(hl:G.length<=20)(n:Nat)(hv:valid sigT (enc (.sort n))=true):Ag G (.sort n):=fun f c=> by
 cases f with
 |zero=> exact Rl.no _
 |succ f=>
  cases c with
  |zero=> exact Rl.no' _
  |succ c=>
   exact We False (k:=2) (ks:= []) hv (by rw[q28];exact hl) (fun i h=> by cases h) (fun h=> by cases h) (fun h=> by cases h) (fun h=> by cases h) (fun h=> by cases h) (fun h=> by cases h) (fun h=> by cases h)
theorem YC{G:List M.Tm}{t A:M.Tm}(hG:y6 G)(hl:G.length<=20)(h:Ty G t A)(l:j2 G t)(v:valid sigT (enc A)=true):Ag G A:=by
 rcases j2.type h hG.wf l with rfl|⟨c,k,-,S,d,i⟩
 · exact uD G hl 3 v
 · exact fun f j=> vm hG hl v d c
theorem tG{A t:M.Tm}{n:Nat}(hn:n<=3)(h:valid sigT (enc (.lam A t))=true):valid sigT (.mk 3 0 [enc A,enc (.sort n)])=true:=by
 obtain⟨c,f⟩:=N4 h;have i:=(m6 c).2.2.2 (enc A) (by simp);have k:=nu (enc t);simp only[enc,cnt,O1] at f;have j:I0 sigT (enc (.sort n)) (30 - 1)=true:=by
  rcases(by omega:n=0\/n=1\/n=2\/n=3) with rfl|rfl|rfl|rfl <;> decide
 have d:I0 sigT (.mk 3 0 [enc A,enc (.sort n)]) 30=true:=by
  show(true &&(true &&(I0 sigT (enc A) (30 - 1)&&(I0 sigT (enc (.sort n)) (30 - 1)&& true))))=true
  rw[i,j]
  rfl
 show(I0 sigT (.mk 3 0 [enc A,enc (.sort n)]) 30 && decide (cnt (.mk 3 0 [enc A,enc (.sort n)])<=400))=true
 rw[d,Bool.true_and,decide_eq_true_eq];simp only[enc,cnt,O1];omega
section
variable {G : List M.Tm}
theorem lx(hG:y6 G){k:Int}(hk:T4 k 1=1)(d:T4 k 0=0){A B:M.Tm}(hA:valid sigT (enc A)=true)(h:a7 G A->G.length < 20->Ag (A::G) B)(f c:Nat)(e: ∃s,Q0 (Ma (P0 c) (ctxE G) k [enc A,enc B] 0) 2=some (s,0)):
 Rl False (Sa (O0 f) (ctxE G) k [enc A,enc B] 1) (Ma (P0 c) (ctxE G) k [enc A,enc B] 1):=by
 obtain⟨s,e⟩:=e;rw[CA _ _ d] at e;obtain⟨S,i,-,-,-,-,b,-⟩:=pe (snd c) hG hA e;refine Wk (fun h=> by rw[hk] at h;cases h) fun _ hl=> ?_
 rw[show ctxE G++ [kd [enc A,enc B] 0]=ctxE (A::G) from(de A G).symm];exact h b (by rw[q28] at hl;exact hl) f c
theorem k7(hG:y6 G)(hl:G.length<=20): ∀t:M.Tm,valid sigT (enc t)=true->bv G t->vz G t->Ag G t:=by
 have q:(ctxE G).length<=20:=by rw[q28];exact hl
 have kid: ∀{k:Int} {v:List Tr} {f d:Nat} {i:Nat},T4 k i=0->(Rl False (O0 f (ctxE G) (kd v i)) (P0 d (ctxE G) (kd v i)))->Rl False (Sa (O0 f) (ctxE G) k v i) (Ma (P0 d) (ctxE G) k v i):=fun j h=> Wk (fun _=> h) fun h=> absurd j h
 intro t hv hk hc f d;cases f with
 |zero=> exact Rl.no _
 |succ f=>
 cases d with
 |zero=> exact Rl.no' _
 |succ d=>
 cases t with
 |var n=> exact We False (k:=1) (ks:= []) hv q (fun i h=> by cases h) (fun h=> by cases h) (fun h=> by cases h) (fun h=> by cases h) (fun h=> by cases h) (fun h=> by cases h) (fun h=> by cases h)
 |sort n=> exact uD G hl n hv (f+1) (d+1)
 |nat=> exact We False (k:=6) (ks:= []) hv q (fun i h=> by cases h) (fun h=> by cases h) (fun h=> by cases h) (fun h=> by cases h) (fun h=> by cases h) (fun h=> by cases h) (fun h=> by cases h)
 |zero=> exact We False (k:=7) (ks:= []) hv q (fun i h=> by cases h) (fun h=> by cases h) (fun h=> by cases h) (fun h=> by cases h) (fun h=> by cases h) (fun h=> by cases h) (fun h=> by cases h)
 |succ a=>
  refine We False (k:=8) (ks:= [enc a]) hv q (fun i hi j=> ?_) (fun h=> by cases h) (fun h=> by cases h) (fun h=> by cases h) (fun h=> by cases h) (fun h=> by cases h) (fun h=> by cases h)
  match i,hi with
  |0,_=> exact kid j (hk f d)
 |fst a=>
  refine We False (k:=15) (ks:= [enc a]) hv q (fun i hi j=> ?_) (fun h=> by cases h) (fun h=> by cases h) (fun h=> by cases h) (fun h=> by cases h) (fun h=> by cases h) (fun h=> by cases h)
  match i,hi with
  |0,_=> exact kid j (hk f d)
 |snd a=>
  refine We False (k:=16) (ks:= [enc a]) hv q (fun i hi j=> ?_) (fun h=> by cases h) (fun h=> by cases h) (fun h=> by cases h) (fun h=> by cases h) (fun h=> by cases h) (fun h=> by cases h)
  match i,hi with
  |0,_=> exact kid j (hk f d)
 |refl a=>
  refine We False (k:=11) (ks:= [enc a]) hv q (fun i hi j=> ?_) (fun h=> by cases h) (fun h=> by cases h) (fun h=> by cases h) (fun _ s _ e=> ?_) (fun h=> by cases h) (fun h=> by cases h)
  · match i,hi with
    |0,_=> exact kid j (hk f d)
  · obtain⟨A,rfl,H,J,I⟩:=snd d G a s hG (Z0 hv (by simp)) (yL rfl e)
    exact YC hG hl H J I f d
 |app g a=>
  refine We False (k:=5) (ks:= [enc g,enc a]) hv q (fun i hi j=> ?_) (fun h=> by cases h) (fun h=> by cases h) (fun h=> by cases h) (fun h=> by cases h) (fun h=> by cases h) (fun h=> by cases h)
  match i,hi with
  |0,_=> exact kid j (hk.1 f d)
  |1,_=> exact kid j (hk.2 f d)
 |pi A B=>
  refine We False (k:=3) (ks:= [enc A,enc B]) hv q (fun i hi j=> ?_) (fun _=> lx hG rfl rfl (Z0 hv (by simp)) hk.2 f d) (fun h=> by cases h) (fun h=> by cases h) (fun h=> by cases h) (fun h=> by cases h) (fun h=> by cases h)
  match i,hi with
  |0,_=> exact kid j (hk.1 f d)
  |1,_=> cases j
 |sg A B=>
  refine We False (k:=13) (ks:= [enc A,enc B]) hv q (fun i hi j=> ?_) (fun _=> lx hG rfl rfl (Z0 hv (by simp)) hk.2 f d) (fun h=> by cases h) (fun h=> by cases h) (fun h=> by cases h) (fun h=> by cases h) (fun h=> by cases h)
  match i,hi with
  |0,_=> exact kid j (hk.1 f d)
  |1,_=> cases j
 |lam A t=>
  have Y:valid sigT (enc A)=true:=Z0 hv (by simp);refine We False (k:=4) (ks:= [enc A,enc t]) hv q (fun i hi j=> ?_) (fun _=> lx hG rfl rfl Y hk.2 f d) (fun _ hs B _ hB=> ?_) (fun h=> by cases h) (fun h=> by cases h) (fun h=> by cases h) (fun h=> by cases h)
  · match i,hi with
    |0,_=> exact kid j (hk.1 f d)
    |1,_=> cases j
  · obtain⟨s,hs⟩:=hs
    rw[CA _ _ rfl] at hs;obtain⟨S,i,-,-,-,-,b,-⟩:=pe (snd d) hG Y hs;have K:=hG.cons b Y;have hl2:G.length < 20:=by have:=(Qu rfl hB).1;rwa [q28] at this
    obtain⟨B,rfl,H,J,I⟩:=snd d (A::G) t B K (Z0 hv (by simp)) (AB rfl hB);have L:ctxE G++ [enc A]=ctxE (A::G):=(de A G).symm;refine YD (fun g _=> hk.1 f g) (fun g _ _ _=> ?_) ?_ ?_
    · rw[show ctxE G++ [kd [enc A,enc t] 0]=ctxE (A::G) from L]
      exact YC K (by simp only[List.length_cons];omega) H J I f g
    · rcases j2.type H K.wf J with rfl|⟨l',k,-,X,U,Z⟩
      · exact .inl (tG (aP _) hv)
      · refine .inr (.inr ?_)
        rw[show ctxE G++ [kd [enc A,enc t] 0]=ctxE (A::G) from L];have:=(lm f (A::G) B X K I U l').frm (kind:=2) fun s e=>⟨X,.sort k,(Ri K I U e).1,Z,by simp[M.hk],rfl⟩
        exact fun s c e=> by rcases this s c e with rfl|rfl <;> decide
    · rcases((hk.1 f d).frm 2).okV hs with h|h
      · exact .inl h
      · exact .inr ⟨s,h⟩
 |elim p z s a=>
  refine We False (k:=9) (ks:= [enc p,enc z,enc s,enc a]) hv q (fun i hi j=> ?_) (fun h=> by cases h) (fun h=> by cases h) (fun _ O=> .inr ?_) (fun h=> by cases h) (fun h=> by cases h) (fun h=> by cases h)
  · match i,hi with
    |0,_=> exact kid j (hk.1 f d)
    |1,_=> exact kid j (hk.2.1 f d)
    |2,_=> exact kid j (hk.2.2.1 f d)
    |3,_=> exact kid j (hk.2.2.2 f d)
  · rcases hc with hc|hc
    · obtain⟨x,O⟩:=O
      rw[CA _ _ rfl] at O;obtain⟨F,C,R,-,hF,-⟩:=Vk (snd d) hG (Z0 hv (by simp)) O;exact .inl (by rw[show Oc (kd [enc p,enc z,enc s,enc a] 0)=enc (M.stepTy p) from uq p];exact hc F hF)
    · exact .inr (hc f)
 |id T a b=>
  refine We False (k:=10) (ks:= [enc T,enc a,enc b]) hv q (fun i hi j=> ?_) (fun h=> by cases h) (fun h=> by cases h) (fun h=> by cases h) (fun h=> by cases h) (fun h=> by cases h) (fun h=> by cases h)
  match i,hi with
  |0,_=> exact kid j (hk.1 f d)
  |1,_=> exact kid j (hk.2.1 f d)
  |2,_=> exact kid j (hk.2.2 f d)
 |move p e a=>
  refine We False (k:=12) (ks:= [enc p,enc e,enc a]) hv q (fun i hi j=> ?_) (fun h=> by cases h) (fun h=> by cases h) (fun h=> by cases h) (fun h=> by cases h) (fun _ s hs _=> .inr ?_) (fun h=> by cases h)
  · match i,hi with
    |0,_=> exact kid j (hk.1 f d)
    |1,_=> exact kid j (hk.2.1 f d)
    |2,_=> exact kid j (hk.2.2 f d)
  · rcases hc with hc|hc
    · rw[CA _ _ rfl] at hs
      have V:=hs;obtain⟨E,T,l,r,rfl,H,J,-⟩:=yq (snd d) hG (Z0 hv (by simp)) hs;obtain⟨u,U,Z,h6⟩:=vf V;obtain⟨-,-,-,h7⟩:=BA Z;exact .inl (hc E T l r H J h7)
    · exact .inr (hc f)
 |pair T a b=>
  refine We False (k:=14) (ks:= [enc T,enc a,enc b]) hv q (fun i hi j=> ?_) (fun h=> by cases h) (fun h=> by cases h) (fun h=> by cases h) (fun h=> by cases h) (fun h=> by cases h) (fun _ H s J I=> .inr ?_)
  · match i,hi with
    |0,_=> exact kid j (hk.1 f d)
    |1,_=> exact kid j (hk.2.1 f d)
    |2,_=> exact kid j (hk.2.2 f d)
  · rcases hc with hc|hc
    · obtain⟨x,H⟩:=H
      obtain⟨X,I,-⟩:=I;rw[CA _ _ rfl] at H I;obtain⟨S,i,-,hS,-⟩:=pe (snd d) hG (Z0 hv (by simp)) H;obtain⟨X,rfl,hX,-⟩:=snd d G a X hG (Z0 hv (by simp)) I;have e1:S4 (enc T) 13=(s,0):=J;obtain⟨L,e3⟩:=Vz (t:=enc T) (kind:=13) (by rw[e1]);rw[e1] at L e3;obtain⟨B,rfl,rB,-,vB⟩:=nj L;obtain⟨C,D,rfl⟩:=Mv e3;refine .inl ?_;rw[show X0 (kd [enc T,enc a,enc b] 1) (kd (enc (.sg C D)).kids 1) 0 0=enc (D.inst a) from Yp D a];exact hc S C D X hS rB vB hX
    · exact .inr (hc f)
end

/-
  Lemmas towards the law, 38: Sides, SMade, MBase, MEndIt, D5, MMut.
-/
import Derived.Test.YtckhbnmfnpolgaaGreatC00
import Derived.Test.YtckhbnmfnpolgaaGreatCBK
open Go renaming wp_at_zero->cP,wp_at_succ->cQ,results->aR,bodyPost_ret->aP,wp_region_held_drew->iL,wpAnyH_done->bP
open Go.World renaming alloc->aO
open List renaming mem_cons->gP,not_mem_nil->gN,getElem?_toArray->dZ,getElem?_cons_zero->dQ,getElem?_cons_succ->dL,setIfInBounds_toArray->aU,set_cons_zero->bN,set_cons_succ->bM,replicate->gX,eq_of_mem_replicate->kU,getD_eq_getElem?_getD->dR,getElem?_eq_getElem->bZ,getElem_mem->gU,eq_nil_of_length_eq_zero->bO
open Nat renaming le_trans->bL,le_refl->aN
open Int renaming eq_ofNat_of_zero_le->dN
open Go.Proofs.Tryz
set_option linter.all false
set_option maxHeartbeats 40000000
set_option maxRecDepth 100000
namespace Go.Proofs.YtckhbnmfnpolgaaGreat
open Go Go.RowKit
attribute [local go_sem ↓] cP cQ
theorem sz(f:Nat)(G:List Tr)(A:Option Addr)(ca:Nat)(a:World)(hG:y22 a A G)(z:G.length<=ca)(i:ca<=maxLen)(t:Tr)(v:Value)(ht:Lies a t v)(N:Nat->Prop)(hN: ∀b,a.heap.size<=b->N b)(r:Tr×Int)(h:X0 (Yb f G t) 10=some r):Calls prog 42 #[.slice A G.length ca,v] a (q8 N a r):=by
 have C:=hdq (fun W (j:Ext a W) N hN q D=> LF f G A ca W (hG.ext j) z i t v (ht.ext j) N hN q D);obtain⟨s,c,l,w,p⟩:=a7 h;obtain⟨k,n,I⟩:=t;obtain⟨At,ct,rfl,-⟩:=Lies.mk_iff.1 ht;clear h ht hG;go_enter func42,ntmps42;go_wp2_with fail;generalize d:aO (aO a _) _=B;obtain⟨g,br,S⟩:=sn2 d.symm hN;have F:=hdq (S);have X:=xr B;have Q:=F.out _ X.off;clear S hN d;refine(C.out _ (g.trans X) _ Q.1 _ l.out).mono ?_;rintro e y ⟨u,rfl,hT,e⟩;replace X:=X.trans e;replace Q:=F.out _ X.off;obtain⟨_,_,_,_,_,rfl⟩:=hT.three;simp only;obtain⟨E,t⟩ |rfl:=cz c
 · have R:=cbn (X.blk br)
   have H:=fun o=> cbn ((X.alloc o).blk br)
   go_wp2_with fail;exact D9 (by simp[aR,results42,go_sem,R,H]) (p.out E.out) (((g.trans X).alloc _).set3 (Nat.le_succ _) _ _ _) rfl
 have HR:=hdq (Option.some.inj (w.out rfl));clear l w p;go_wp2_with fail;generalize d:aO y _=x;obtain⟨m,e⟩:=nb d;replace F:=hdq (both (rb F.out (X.trans e)) (both (m7 m (X.ne br)) (hT.up e)));replace X:=X.trans e;replace br:=X.blk br;replace g:=g.trans X;replace X:=xr x;replace Q:=F.out _ X.off;clear d m e;clear hT;refine(Qz s 10 _ _ Q.1.1 _ Q.2.2.lies').mono ?_;rintro e J ⟨u,rfl,hT,e⟩;replace X:=X.trans e;replace Q:=F.out _ X.off;obtain⟨_,_,_,_,_,rfl⟩:=hT.three;rw[HR.out] at hT⊢;have R:=cbn (X.blk br);go_wp2_with fail;exact R6 (by simp[aR,results42,go_sem,R]) (hT) (dd rfl) (g.trans X) (Nat.le_succ _) rfl
theorem kH(f:Nat)(G:List Tr)(A:Option Addr)(ca:Nat)(d:World)(hG:y22 d A G)(G0:G.length<=ca)(hcm:ca<=maxLen)(t:Tr)(v:Value)(ht:Lies d t v)(r:Tr×Int)(h:X0 (Yb f G t) 10=some r):Calls prog 13 #[.slice A G.length ca,v] d (eK d r):=by
 have HI:=hdq (fun W (hW:Ext d W) N hN q hq=> sz f G A ca W (hG.ext hW) G0 hcm t v (ht.ext hW) N hN q hq);have HH:=hdq h;obtain⟨k,n,ks⟩:=t;obtain⟨At,ct,rfl,-⟩:=Lies.mk_iff.1 ht;clear ht hG;go_enter func13,ntmps13;go_wp2_with fail;generalize I:aO (aO (aO (aO d _) _) _) _=w1;obtain⟨bt,Z,iw,V,s1,e1⟩:=JB I.symm;clear I;have Q:=cb3 bt;obtain⟨R,U⟩: ∃R,R= [d.heap.size+1,d.heap.size+1+1,d.heap.size+1+1+1]:=⟨_,rfl⟩;have hN: ∀b,w1.heap.size<=b->b∉R:=by
  intro b g h;rw[U] at h;simp only[gP,gN,or_false] at h;omega
 refine(HI.out _ e1 _ hN _ h).mono ?_;rintro e w2 ⟨u,rfl,hT,m⟩;obtain⟨_,_,_,_,_,rfl⟩:=hT.three;obtain⟨s,c⟩:=r;simp only at hT⊢;obtain⟨HC,t⟩ |rfl:=cz c
 · have r0:=cbn (m.blk Z)
   have s0:=fun o=> cbn ((m.alloc o).blk Z)
   have r1:=cbn (m.blk iw);have s1:=fun o=> cbn ((m.alloc o).blk iw)
   have r2:=cbn (m.blk V);have s2:=fun o=> cbn ((m.alloc o).blk V)
   go_wp2_with fail;refine aP (v:= .tuple #[M0 0 0 none 0 0,M0 0 0 none 0 0,M0 0 0 none 0 0,m0 c]) (by simp[aR,results13,go_sem,r0,r1,r2,s0,s1,s2]) rfl ⟨_,_,_,rfl, ?_, ?_, ?_, ?_⟩
   iterate 3 (rw[jr (HC.out)];exact d5 _ _ 0 0)
   exact((((e1.trans m).alloc _).set3 (by omega) _ _ _).set3 (by omega) _ _ _).set3 (by omega) _ _ _
 · obtain⟨hk,J,hv⟩:=Mi HH.out
   obtain⟨ks,kn,D⟩:=s;obtain⟨Af,cf,he,Jk,Ih,hK⟩:=InT.mk_iff.1 hT;simp only[Value.agg.injEq] at he;cases he
   clear hT;simp only[Tr.kids] at J;have J:D.length=3:=by have:U0 10=3:=rfl;omega
   have zu:=hdq (show cnt (kd D 0)<=1000000 from by have:=(Z3 (Vc hv (i:=0) (by simp only[Tr.kids];omega))).2;simp only[Tr.kids] at this;omega);have P9:=hdq (show cnt (kd D 1)<=1000000 from by have:=(Z3 (Vc hv (i:=1) (by simp only[Tr.kids];omega))).2;simp only[Tr.kids] at this;omega);have Bg:=hdq (show cnt (kd D 2)<=1000000 from by have:=(Z3 (Vc hv (i:=2) (by simp only[Tr.kids];omega))).2;simp only[Tr.kids] at this;omega);obtain⟨b,o,rfl,g,⟨O8,Q6,O7,P5,P4,K0⟩,⟨ah,bm,aj,dc,df,K1⟩,pk,oo,ot,po,pg,K2⟩:=j19 hK J;rw[J];obtain⟨T,T0,T1,T2⟩: ∃T:Nat->Tr,T (d.heap.size+1)=kd D 0/\T (d.heap.size+1+1)=kd D 1/\T (d.heap.size+1+1+1)=kd D 2:=⟨fun r=> kd D (r -(d.heap.size+1)),by simp,by simp[show d.heap.size+1+1 -(d.heap.size+1)=1 by omega],by simp[show d.heap.size+1+1+1 -(d.heap.size+1)=2 by omega]⟩;rw[<-T0] at K0 zu;rw[<-T1] at K1 P9;rw[<-T2] at K2 Bg;go_wp2_with fail;generalize I:aO w2 _=p;obtain⟨P,y⟩:=nb I;have hs:=(m).size;have O:=hdq (fun w (X:g9 R p w)=>(⟨X.cell (cb3 P).1 (hN _ hs),X.cell (cb3 P).2.1 (hN _ hs),X.cell (cb3 P).2.2.1 (hN _ hs),KA.offR K0 g (y.offR.trans X),KA.offR K1 g (y.offR.trans X),KA.offR K2 g (y.offR.trans X)⟩:_/\_/\_/\_/\_/\_));have qq:=hdq (show d.heap.size+1∈R by rw[U];simp);have Ik:=hdq (⟨_,_,_,((m).trans y).drew.blk Z⟩: ∃a b c,p.drew.heap[d.heap.size+1]? =some (.cells #[a,b,c] 25 (0,0)));have Y:=hdq (show d.heap.size+1+1∈R by rw[U];simp);have Ez:=hdq (⟨_,_,_,((m).trans y).drew.blk iw⟩: ∃a b c,p.drew.heap[d.heap.size+1+1]? =some (.cells #[a,b,c] 25 (0,0)));have J6:=hdq (show d.heap.size+1+1+1∈R by rw[U];simp);have vh:=hdq (⟨_,_,_,((m).trans y).drew.blk V⟩: ∃a b c,p.drew.heap[d.heap.size+1+1+1]? =some (.cells #[a,b,c] 25 (0,0)));have E:=hdq (show∀r,r∈R->r < p.drew.heap.size from fun r hr=> Nat.lt_of_not_le fun h=> hN r (bL ((m).trans y).drew.size h) hr);have F:=hdq (show d.heap.size<=p.heap.size from(e1.trans ((m).trans y)).size);clear g K0 K1 K2 P I hK hv hk HH HI hN Z iw V hs J Jk Ih;refine iL (S:=fun w=> g9 R p w) (by kernel_rfl) (xr p).drew.offR (fun _=> ?_);refine O2 [0,1,2,3,5,6,7,8,10,11,12,13] 7 (by kernel_rfl) (xr p).drew.offR (fun _ _ _ _ _ h=> h) ?_
   iterate 12 (refine tk rfl (by rfl) (by intro w X;have Q:=O.out _ X;go_simp;(try with_reducible rfl)) ?_;try simp only[N2])
   refine lC (S:=fun w=> g9 R p w) d.heap.size R T 18 37 #[true,true,true,true,true,true,true,true,true,true,true,true,true,true,true,true,true,true,false] 1 [S3.any,S3.any,S3.any,S3.any,S3.tree (T (d.heap.size+1)),S3.any,S3.any,S3.any,S3.any,S3.tree (T (d.heap.size+1+1)),S3.any,S3.any,S3.any,S3.any,S3.tree (T (d.heap.size+1+1+1)),S3.put (d.heap.size+1),S3.put (d.heap.size+1+1),S3.put (d.heap.size+1+1+1)] [4,9,14,15,16,17] (fun w h=>(xr p).drew.offR.trans h) (by kernel_rfl) rfl ?st ?fi
   case st=>
    repeat' first|exact trivial|refine And.intro ⟨_,rfl, ?_⟩ ?_
    all_goals(intro a w z hE j i6;refine Ord.step_of rfl rfl ?_;intro K hK;have X:=(xr p).drew.offR.trans hE.1)
    · (have f:=D3 (show a.eval (.tmp 25)= M0 O8 Q6 O7 P5 P4 from j 25 (by kernel_rfl));have Q:=O.out _ X;go_simp;go_at_call 43;refine(Qg _ w _ Q.2.2.2.1.l zu.out).mono ?_;rintro e H ⟨u,rfl,M,L⟩;exact hK _ _ ⟨_,(),rfl,E3.ext (hE.lt E.out) (bL F.out X.1) L,(M.at' (fun b g=>⟨bL (bL F.out X.1) g,fun x=> absurd (hE.lt E.out b x) (Nat.not_lt.2 g)⟩):InT _ _ _ _)⟩)
    · (have f:=D3 (show a.eval (.tmp 30)= M0 ah bm aj dc df from j 30 (by kernel_rfl));have Q:=O.out _ X;go_simp;go_at_call 43;refine(Qg _ w _ Q.2.2.2.2.1.l P9.out).mono ?_;rintro e H ⟨u,rfl,M,L⟩;exact hK _ _ ⟨_,(),rfl,E3.ext (hE.lt E.out) (bL F.out X.1) L,(M.at' (fun b g=>⟨bL (bL F.out X.1) g,fun x=> absurd (hE.lt E.out b x) (Nat.not_lt.2 g)⟩):InT _ _ _ _)⟩)
    · (have f:=D3 (show a.eval (.tmp 35)= M0 pk oo ot po pg from j 35 (by kernel_rfl));have Q:=O.out _ X;go_simp;go_at_call 43;refine(Qg _ w _ Q.2.2.2.2.2.l Bg.out).mono ?_;rintro e H ⟨u,rfl,M,L⟩;exact hK _ _ ⟨_,(),rfl,E3.ext (hE.lt E.out) (bL F.out X.1) L,(M.at' (fun b g=>⟨bL (bL F.out X.1) g,fun x=> absurd (hE.lt E.out b x) (Nat.not_lt.2 g)⟩):InT _ _ _ _)⟩)
    · (have h:InT w (fun b=> d.heap.size<=b/\b∉R) (T (d.heap.size+1)) (a.eval (.tmp 26)):=i6 4 26 (by kernel_rfl);obtain⟨_,_,_,_,_,C⟩:=h.three;rw[C] at h;have f:=D3 C;have fr:=D3 (show a.eval (.tmp 4)= .pointer (some ⟨d.heap.size+1,0,none⟩) from j 4 (by kernel_rfl));obtain⟨_,_,_,g⟩:=E3.box hE qq.out Ik.out;have Q:=cbn g;go_simp;exact hK _ _ ⟨undef,(),rfl,(E3.put qq.out (by omega) ⟨_,_,_,g⟩ h).1,qq.out,(E3.put (B:=d.heap.size) qq.out (by omega) ⟨_,_,_,g⟩ h).2⟩)
    · (have h:InT w (fun b=> d.heap.size<=b/\b∉R) (T (d.heap.size+1+1)) (a.eval (.tmp 31)):=i6 9 31 (by kernel_rfl);obtain⟨_,_,_,_,_,C⟩:=h.three;rw[C] at h;have f:=D3 C;have fr:=D3 (show a.eval (.tmp 5)= .pointer (some ⟨d.heap.size+1+1,0,none⟩) from j 5 (by kernel_rfl));obtain⟨_,_,_,g⟩:=E3.box hE Y.out Ez.out;have Q:=cbn g;go_simp;exact hK _ _ ⟨undef,(),rfl,(E3.put Y.out (by omega) ⟨_,_,_,g⟩ h).1,Y.out,(E3.put (B:=d.heap.size) Y.out (by omega) ⟨_,_,_,g⟩ h).2⟩)
    · (have h:InT w (fun b=> d.heap.size<=b/\b∉R) (T (d.heap.size+1+1+1)) (a.eval (.tmp 36)):=i6 14 36 (by kernel_rfl);obtain⟨_,_,_,_,_,C⟩:=h.three;rw[C] at h;have f:=D3 C;have fr:=D3 (show a.eval (.tmp 6)= .pointer (some ⟨d.heap.size+1+1+1,0,none⟩) from j 6 (by kernel_rfl));obtain⟨_,_,_,g⟩:=E3.box hE J6.out vh.out;have Q:=cbn g;go_simp;exact hK _ _ ⟨undef,(),rfl,(E3.put J6.out (by omega) ⟨_,_,_,g⟩ h).1,J6.out,(E3.put (B:=d.heap.size) J6.out (by omega) ⟨_,_,_,g⟩ h).2⟩)
   case fi=>
    intro v H hE hG;obtain⟨-,a0,b0,c0,hb0,Li⟩:_/\Rb d.heap.size R H (d.heap.size+1) (T (d.heap.size+1)):=hG 15 (by decide) (by kernel_rfl);obtain⟨-,a1,b1,c1,hb1,Hi⟩:_/\Rb d.heap.size R H (d.heap.size+1+1) (T (d.heap.size+1+1)):=hG 16 (by decide) (by kernel_rfl);obtain⟨-,a2,b2,c2,hb2,K5⟩:_/\Rb d.heap.size R H (d.heap.size+1+1+1) (T (d.heap.size+1+1+1)):=hG 17 (by decide) (by kernel_rfl);clear hG;simp only[List.foldl,Ord.dstOf,dZ,dQ,dL,Option.bind_some,Act.put,aU,bN,bM];refine O2 [18] 0 (by kernel_rfl) ((xr p).drew.offR.trans hE.1) (fun _ _ _ _ _ h=> h) ?_;refine tk rfl (by rfl) (by intro w X;go_simp;(try with_reducible rfl)) ?_
    try simp only[N2]
    refine bP (by kernel_rfl) ?_ _;have R0:=cbn hb0;have R1:=cbn hb1;have R2:=cbn hb2;go_wp2_with fail;refine aP (v:= .tuple #[.agg #[a0,b0,c0],.agg #[a1,b1,c1],.agg #[a2,b2,c2],m0 0]) (by simp[aR,results13,go_sem,R0,R1,R2]) rfl ⟨_,_,_,rfl, ?_, ?_, ?_, ?_⟩
    · rw[tf];exact T0▸InT.mono (fun b g=> g.1) (fun _ _=> rfl) Li
    · rw[tf];exact T1▸InT.mono (fun b g=> g.1) (fun _ _=> rfl) Hi
    · rw[tf];exact T2▸InT.mono (fun b g=> g.1) (fun _ _=> rfl) K5
    · exact Below.trans (e1.trans (((m).trans y))).drew hE.2.1
theorem PE(f:Nat)(G:List Tr)(A:Option Addr)(ca:Nat)(g:World)(hG:y22 g A G)(G0:G.length<=ca)(hcm:ca<=maxLen)(hA:A=none->ca=0)(t:Tr)(v:Value)(ht:Lies g t v)(r:Tr×Int)(h:X0 (Se f G t) 10=some r):Calls prog 14 #[.slice A G.length ca,v] g (eK g r):=by
 have HI:=hdq (fun W (hW:Ext g W) N hN q hq=> qK f G A ca W (hG.ext hW) G0 hcm hA t v (ht.ext hW) N hN q hq);have HH:=hdq h;obtain⟨k,n,ks⟩:=t;obtain⟨At,ct,rfl,-⟩:=Lies.mk_iff.1 ht;clear ht hG;go_enter func14,ntmps14;go_wp2_with fail;generalize D:aO (aO (aO (aO g _) _) _) _=w1;obtain⟨bt,I,J,H,U,V⟩:=JB D.symm;clear D;have Q:=cb3 bt;obtain⟨R,hR⟩: ∃R,R= [g.heap.size+1,g.heap.size+1+1,g.heap.size+1+1+1]:=⟨_,rfl⟩;have hN: ∀b,w1.heap.size<=b->b∉R:=by
  intro b j h;rw[hR] at h;simp only[gP,gN,or_false] at h;omega
 obtain⟨s,c,H1,H2,H3⟩:=a7 HH.out;refine(HI.out _ V _ hN _ H1.out).mono ?_;rintro e w2 ⟨u,rfl,hT,C⟩;obtain⟨_,_,_,_,_,rfl⟩:=hT.three;simp only;obtain⟨L,t⟩ |rfl:=cz c
 · obtain rfl:=H3.out L.out
   have r0:=cbn (C.blk I);have s0:=fun o=> cbn ((C.alloc o).blk I)
   have r1:=cbn (C.blk J);have U:=fun o=> cbn ((C.alloc o).blk J)
   have Z:=cbn (C.blk H);have Y:=fun o=> cbn ((C.alloc o).blk H)
   go_wp2_with fail;refine aP (v:= .tuple #[M0 0 0 none 0 0,M0 0 0 none 0 0,M0 0 0 none 0 0,m0 c]) (by simp[aR,results14,go_sem,r0,r1,Z,s0,U,Y]) rfl ⟨_,_,_,rfl, ?_, ?_, ?_, ?_⟩
   iterate 3 (rw[jr (L.out)];exact d5 _ _ 0 0)
   exact((((V.trans C).alloc _).set3 (by omega) _ _ _).set3 (by omega) _ _ _).set3 (by omega) _ _ _
 obtain⟨kx,nx,E,d,G1,G2,G3,G4⟩:=Rp (Option.some.inj (H2.out rfl));clear H1 H2 H3;go_wp2_with fail;generalize D:aO w2 _=w3;obtain⟨bq,x⟩:=nb D;clear D;refine(Si G1.out _ _ (fun b j=> hN b (bL (C.trans x).size j)) _ (hT.later x).lies').mono ?_;rintro e w4 ⟨A1,c1,rfl,K5,-,e4⟩;have X:=(C.trans x).trans e4;clear hT bq;simp only;obtain⟨L,t⟩ |rfl:=cz d
 · obtain rfl:=G2.out L.out
   have r0:=cbn (X.blk I);have s0:=fun o=> cbn ((X.alloc o).blk I)
   have r1:=cbn (X.blk J);have U:=fun o=> cbn ((X.alloc o).blk J)
   have Z:=cbn (X.blk H);have Y:=fun o=> cbn ((X.alloc o).blk H)
   go_wp2_with fail;refine aP (v:= .tuple #[M0 0 0 none 0 0,M0 0 0 none 0 0,M0 0 0 none 0 0,m0 d]) (by simp[aR,results14,go_sem,r0,r1,Z,s0,U,Y]) rfl ⟨_,_,_,rfl, ?_, ?_, ?_, ?_⟩
   iterate 3 (rw[jr (L.out)];exact d5 _ _ 0 0)
   exact((((V.trans X).alloc _).set3 (by omega) _ _ _).set3 (by omega) _ _ _).set3 (by omega) _ _ _
 obtain⟨L,t⟩ |rfl:=czk kx 10
 · obtain rfl:=G3.out (by trivial) L.out
   have r0:=cbn (X.blk I);have s0:=fun o=> cbn ((X.alloc o).blk I)
   have r1:=cbn (X.blk J);have U:=fun o=> cbn ((X.alloc o).blk J)
   have Z:=cbn (X.blk H);have Y:=fun o=> cbn ((X.alloc o).blk H)
   go_wp2_with fail;refine aP (v:= .tuple #[M0 0 0 none 0 0,M0 0 0 none 0 0,M0 0 0 none 0 0,m0 1]) (by simp[aR,results14,go_sem,r0,r1,Z,s0,U,Y]) rfl ⟨_,_,_,rfl, ?_, ?_, ?_, ?_⟩
   iterate 3 (rw[jr (by decide)];exact d5 _ _ 0 0)
   exact((((V.trans X).alloc _).set3 (by omega) _ _ _).set3 (by omega) _ _ _).set3 (by omega) _ _ _
 obtain rfl:=G4.out (by trivial) (by trivial);clear G1 G2 G3 G4;obtain⟨hk,Q9,hv⟩:=Mi HH.out;obtain⟨Af,cf,he,Jk,Ih,hK⟩:=InT.mk_iff.1 K5;simp only[Value.agg.injEq] at he;cases he
 clear K5;simp only[Tr.kids] at Q9;have Q9:E.length=3:=by have:U0 10=3:=rfl;omega
 have zu:=hdq (show cnt (kd E 0)<=1000000 from by have:=(Z3 (Vc hv (i:=0) (by simp only[Tr.kids];omega))).2;simp only[Tr.kids] at this;omega);have P9:=hdq (show cnt (kd E 1)<=1000000 from by have:=(Z3 (Vc hv (i:=1) (by simp only[Tr.kids];omega))).2;simp only[Tr.kids] at this;omega);have Bg:=hdq (show cnt (kd E 2)<=1000000 from by have:=(Z3 (Vc hv (i:=2) (by simp only[Tr.kids];omega))).2;simp only[Tr.kids] at this;omega);obtain⟨b,o,rfl,j,⟨O8,Q6,O7,P5,P4,K0⟩,⟨ah,bm,aj,dc,df,K1⟩,pk,oo,ot,po,pg,K2⟩:=j19 hK Q9;rw[Q9];obtain⟨T,T0,T1,T2⟩: ∃T:Nat->Tr,T (g.heap.size+1)=kd E 0/\T (g.heap.size+1+1)=kd E 1/\T (g.heap.size+1+1+1)=kd E 2:=⟨fun r=> kd E (r -(g.heap.size+1)),by simp,by simp[show g.heap.size+1+1 -(g.heap.size+1)=1 by omega],by simp[show g.heap.size+1+1+1 -(g.heap.size+1)=2 by omega]⟩;rw[<-T0] at K0 zu;rw[<-T1] at K1 P9;rw[<-T2] at K2 Bg;go_wp2_with fail;generalize D:aO w4 _=p;obtain⟨bf,x⟩:=nb D;have hs:=(X).size;have FZ:=hdq (fun w (X:g9 R p w)=>(⟨X.cell (cb3 bf).1 (hN _ hs),X.cell (cb3 bf).2.1 (hN _ hs),X.cell (cb3 bf).2.2.1 (hN _ hs),KA.offR K0 j (x.offR.trans X),KA.offR K1 j (x.offR.trans X),KA.offR K2 j (x.offR.trans X)⟩:_/\_/\_/\_/\_/\_));have qq:=hdq (show g.heap.size+1∈R by rw[hR];simp);have Ik:=hdq (⟨_,_,_,((X).trans x).drew.blk I⟩: ∃a b c,p.drew.heap[g.heap.size+1]? =some (.cells #[a,b,c] 25 (0,0)));have rq:=hdq (show g.heap.size+1+1∈R by rw[hR];simp);have Ez:=hdq (⟨_,_,_,((X).trans x).drew.blk J⟩: ∃a b c,p.drew.heap[g.heap.size+1+1]? =some (.cells #[a,b,c] 25 (0,0)));have J6:=hdq (show g.heap.size+1+1+1∈R by rw[hR];simp);have vh:=hdq (⟨_,_,_,((X).trans x).drew.blk H⟩: ∃a b c,p.drew.heap[g.heap.size+1+1+1]? =some (.cells #[a,b,c] 25 (0,0)));have M:=hdq (show∀r,r∈R->r < p.drew.heap.size from fun r hr=> Nat.lt_of_not_le fun h=> hN r (bL ((X).trans x).drew.size h) hr);have O:=hdq (show g.heap.size<=p.heap.size from(V.trans ((X).trans x)).size);clear j K0 K1 K2 bf D hK hv hk HH HI hN I J H hs Q9 Jk Ih;refine iL (S:=fun w=> g9 R p w) (by kernel_rfl) (xr p).drew.offR (fun _=> ?_);refine O2 [0,1,2,3,5,6,7,8,10,11,12,13] 7 (by kernel_rfl) (xr p).drew.offR (fun _ _ _ _ _ h=> h) ?_
 iterate 12 (refine tk rfl (by rfl) (by intro w X;have Q:=FZ.out _ X;go_simp;(try with_reducible rfl)) ?_;try simp only[N2])
 refine lC (S:=fun w=> g9 R p w) g.heap.size R T 18 56 #[true,true,true,true,true,true,true,true,true,true,true,true,true,true,true,true,true,true,false] 1 [S3.any,S3.any,S3.any,S3.any,S3.tree (T (g.heap.size+1)),S3.any,S3.any,S3.any,S3.any,S3.tree (T (g.heap.size+1+1)),S3.any,S3.any,S3.any,S3.any,S3.tree (T (g.heap.size+1+1+1)),S3.put (g.heap.size+1),S3.put (g.heap.size+1+1),S3.put (g.heap.size+1+1+1)] [4,9,14,15,16,17] (fun w h=>(xr p).drew.offR.trans h) (by kernel_rfl) rfl ?st ?fi
 case st=>
  repeat' first|exact trivial|refine And.intro ⟨_,rfl, ?_⟩ ?_
  all_goals(intro a w z hE m i6;refine Ord.step_of rfl rfl ?_;intro K hK;have X:=(xr p).drew.offR.trans hE.1)
  · (have f:=D3 (show a.eval (.tmp 44)= M0 O8 Q6 O7 P5 P4 from m 44 (by kernel_rfl));have Q:=FZ.out _ X;go_simp;go_at_call 46;refine(Vf _ w _ Q.2.2.2.1.l zu.out).mono ?_;rintro e P ⟨u,rfl,hM,e'⟩;exact hK _ _ ⟨_,(),rfl,E3.ext (hE.lt M.out) (bL O.out X.1) e',(hM.at' (fun b j=>⟨bL (bL O.out X.1) j,fun y=> absurd (hE.lt M.out b y) (Nat.not_lt.2 j)⟩):InT _ _ _ _)⟩)
  · (have f:=D3 (show a.eval (.tmp 49)= M0 ah bm aj dc df from m 49 (by kernel_rfl));have Q:=FZ.out _ X;go_simp;go_at_call 46;refine(Vf _ w _ Q.2.2.2.2.1.l P9.out).mono ?_;rintro e P ⟨u,rfl,hM,e'⟩;exact hK _ _ ⟨_,(),rfl,E3.ext (hE.lt M.out) (bL O.out X.1) e',(hM.at' (fun b j=>⟨bL (bL O.out X.1) j,fun y=> absurd (hE.lt M.out b y) (Nat.not_lt.2 j)⟩):InT _ _ _ _)⟩)
  · (have f:=D3 (show a.eval (.tmp 54)= M0 pk oo ot po pg from m 54 (by kernel_rfl));have Q:=FZ.out _ X;go_simp;go_at_call 46;refine(Vf _ w _ Q.2.2.2.2.2.l Bg.out).mono ?_;rintro e P ⟨u,rfl,hM,e'⟩;exact hK _ _ ⟨_,(),rfl,E3.ext (hE.lt M.out) (bL O.out X.1) e',(hM.at' (fun b j=>⟨bL (bL O.out X.1) j,fun y=> absurd (hE.lt M.out b y) (Nat.not_lt.2 j)⟩):InT _ _ _ _)⟩)
  · (have h:InT w (fun b=> g.heap.size<=b/\b∉R) (T (g.heap.size+1)) (a.eval (.tmp 45)):=i6 4 45 (by kernel_rfl);obtain⟨_,_,_,_,_,F⟩:=h.three;rw[F] at h;have f:=D3 F;have fr:=D3 (show a.eval (.tmp 4)= .pointer (some ⟨g.heap.size+1,0,none⟩) from m 4 (by kernel_rfl));obtain⟨_,_,_,j⟩:=E3.box hE qq.out Ik.out;have Q:=cbn j;go_simp;exact hK _ _ ⟨undef,(),rfl,(E3.put qq.out (by omega) ⟨_,_,_,j⟩ h).1,qq.out,(E3.put (B:=g.heap.size) qq.out (by omega) ⟨_,_,_,j⟩ h).2⟩)
  · (have h:InT w (fun b=> g.heap.size<=b/\b∉R) (T (g.heap.size+1+1)) (a.eval (.tmp 50)):=i6 9 50 (by kernel_rfl);obtain⟨_,_,_,_,_,F⟩:=h.three;rw[F] at h;have f:=D3 F;have fr:=D3 (show a.eval (.tmp 5)= .pointer (some ⟨g.heap.size+1+1,0,none⟩) from m 5 (by kernel_rfl));obtain⟨_,_,_,j⟩:=E3.box hE rq.out Ez.out;have Q:=cbn j;go_simp;exact hK _ _ ⟨undef,(),rfl,(E3.put rq.out (by omega) ⟨_,_,_,j⟩ h).1,rq.out,(E3.put (B:=g.heap.size) rq.out (by omega) ⟨_,_,_,j⟩ h).2⟩)
  · (have h:InT w (fun b=> g.heap.size<=b/\b∉R) (T (g.heap.size+1+1+1)) (a.eval (.tmp 55)):=i6 14 55 (by kernel_rfl);obtain⟨_,_,_,_,_,F⟩:=h.three;rw[F] at h;have f:=D3 F;have fr:=D3 (show a.eval (.tmp 6)= .pointer (some ⟨g.heap.size+1+1+1,0,none⟩) from m 6 (by kernel_rfl));obtain⟨_,_,_,j⟩:=E3.box hE J6.out vh.out;have Q:=cbn j;go_simp;exact hK _ _ ⟨undef,(),rfl,(E3.put J6.out (by omega) ⟨_,_,_,j⟩ h).1,J6.out,(E3.put (B:=g.heap.size) J6.out (by omega) ⟨_,_,_,j⟩ h).2⟩)
 case fi=>
  intro v P hE hG;obtain⟨-,a0,b0,c0,hb0,Li⟩:_/\Rb g.heap.size R P (g.heap.size+1) (T (g.heap.size+1)):=hG 15 (by decide) (by kernel_rfl);obtain⟨-,a1,b1,c1,hb1,Hi⟩:_/\Rb g.heap.size R P (g.heap.size+1+1) (T (g.heap.size+1+1)):=hG 16 (by decide) (by kernel_rfl);obtain⟨-,a2,b2,c2,hb2,K5⟩:_/\Rb g.heap.size R P (g.heap.size+1+1+1) (T (g.heap.size+1+1+1)):=hG 17 (by decide) (by kernel_rfl);clear hG;simp only[List.foldl,Ord.dstOf,dZ,dQ,dL,Option.bind_some,Act.put,aU,bN,bM];refine O2 [18] 0 (by kernel_rfl) ((xr p).drew.offR.trans hE.1) (fun _ _ _ _ _ h=> h) ?_;refine tk rfl (by rfl) (by intro w X;go_simp;(try with_reducible rfl)) ?_
  try simp only[N2]
  refine bP (by kernel_rfl) ?_ _;have R0:=cbn hb0;have R1:=cbn hb1;have R2:=cbn hb2;go_wp2_with fail;refine aP (v:= .tuple #[.agg #[a0,b0,c0],.agg #[a1,b1,c1],.agg #[a2,b2,c2],m0 0]) (by simp[aR,results14,go_sem,R0,R1,R2]) rfl ⟨_,_,_,rfl, ?_, ?_, ?_, ?_⟩
  · rw[tf];exact T0▸InT.mono (fun b j=> j.1) (fun _ _=> rfl) Li
  · rw[tf];exact T1▸InT.mono (fun b j=> j.1) (fun _ _=> rfl) Hi
  · rw[tf];exact T2▸InT.mono (fun b j=> j.1) (fun _ _=> rfl) K5
  · exact Below.trans (V.trans (((X).trans x))).drew hE.2.1
end Go.Proofs.YtckhbnmfnpolgaaGreat
namespace Go.Proofs.YtckhbnmfnpolgaaGreat
open Go.RowKit
attribute [local go_sem ↓] cP cQ
theorem aE(t:Tr)(hv:j0 D0 t=true)(a:World)(N:Nat->Prop)(hN: ∀b,a.heap.size<=b->N b)(v:Value)(f:Lies a t v):Calls prog 61 #[v] a fun e l=> ∃u,e= .returned u/\InT l N (shfT 1 t 0) u/\Ext a l:=by
 have z:=hdq (fun W (s:Ext a W) M c=> Xo t 1 hv (by omega) (by omega) W M c v (f.ext s));obtain⟨k,n,p⟩:=t;obtain⟨At,ct,rfl,-⟩:=Lies.mk_iff.1 f;clear f hv;obtain⟨g,d⟩: ∃x,x=((a.alloc (H0 k n At p.length ct)).alloc (H0 0 0 none 0 0)):=⟨_,rfl⟩;obtain⟨C,y,K,i⟩:=box2 d;obtain⟨M,c⟩: ∃M,M=(fun b=> N b/\b≠a.heap.size+1):=⟨_,rfl⟩;have J:=hdq (show∀b,g.heap.size<=b->M b by rw[c];exact Ia hN i.size (by omega));have q:=hdq c;clear c hN;go_enter func61,ntmps61;go_wp2_with fail;rw[<-d];clear d;refine(z.out g i M (fun b I=> J.out b (bL (xr g).size I))).mono ?_;rintro e r ⟨u,rfl,hT,j⟩;have O:=j.size;obtain⟨E,o,D,F,H,rfl⟩:=hT.three;have G:=hdq hT;clear hT;have m:=j;have L:=cb3 (m.blk C);have A:=m9 (m.blk y);have B:=i;have w:=B.trans j;go_wp2_with fail;refine aP (v:= M0 E o D F H) (by simp[aR,results61,go_sem,A]) rfl ⟨_,rfl,InT.ret (q.out▸(G.out.later (xr r))) _ _ _,(w.set3 (by omega) _ _ _)⟩
theorem NI(f:Nat){G:List Tr}{A:Option Addr}{ca:Nat}(d:World)(N:Nat->Prop)(L:SJ d N A G ca)(t:Tr)(v:Value)(hT:InT d N t v)(r:Tr×Int)(h:thn (Q0 f G t) (fun _=> some (t,0))=some r):Calls prog 63 #[.slice A G.length ca,v] d (q8 N d r):=by
 obtain⟨s,c,W,J,H⟩:=Ud h;clear h;have K:=hdq W;have T:=hdq J;have z:=hdq H;clear W J H;obtain⟨k,n,I⟩:=t;obtain⟨At,ct,rfl,-⟩:=InT.mk_iff.1 hT;have D:=hdq hT;clear hT;obtain⟨O,y⟩: ∃x,x=((d.alloc (H0 k n At I.length ct)).alloc (H0 0 0 none 0 0)):=⟨_,rfl⟩;obtain⟨Q,p,s1,X⟩:=box2 y;have F:=hdq (L.keep X (g:=d.heap.size+1) (by omega) (by omega));obtain⟨M,w⟩: ∃M,M=(fun b=> N b/\b≠d.heap.size+1):=⟨_,rfl⟩;rw[<-w] at F;have Y:=hdq w;clear w L;go_enter func63,ntmps63;go_wp2_with fail;rw[<-y];clear y;have C:=X;refine(Sq f _ _ _ K.out O M A ca _ (F.out.ext (xr O)) (Y.out▸(D.out).keep C (g:=d.heap.size+1) (by omega))).mono ?_;rintro e j ⟨u,rfl,hT,m⟩;have s2:=m.size;obtain⟨S,E,R,U,V,rfl⟩:=hT.three;have Ta:=hdq hT;clear hT;simp only;by_cases a:c=0
 case neg=>
  obtain rfl:=z.out a;have t1:(c !=0)=true:=by simp[a]
  have t2:(c==0)=false:=by simp[a]
  clear a z;have i:=m;have Z:=cb3 (i.blk Q);have B:=cbn (i.blk p);have l:Ext j (j.alloc (H0 S E R U V)):=(xr j).alloc _;have o:=C.trans m;have q:=cbn (l.blk (i.blk p));go_wp2_with fail;refine aP (v:= .tuple #[M0 0 0 none 0 0,m0 c]) (by simp[aR,results63,go_sem,B,q]) rfl ⟨_,rfl,d5 _ _ 0 0,((o.trans l).set3 (by omega) _ _ _)⟩
 have P:=T.out a;subst a;clear T z;obtain rfl:=(Option.some.inj P).symm;clear K P;have o:=C.trans m;have i:=m;have Z:=cb3 (i.blk Q);have B:=cbn (i.blk p);have l:Ext j (j.alloc (H0 S E R U V)):=(xr j).alloc _;have q:=cbn (l.blk (i.blk p));go_wp2_with fail;refine aP (v:= .tuple #[M0 k n At I.length ct,m0 0]) (by simp[aR,results63,go_sem,B,q]) rfl ⟨_,rfl,InT.ret (D.out.keep (o.trans l) (g:=d.heap.size+1) (by omega)) _ _ _,((o.trans l).set3 (by omega) _ _ _)⟩
end Go.Proofs.YtckhbnmfnpolgaaGreat
namespace Go.Proofs.YtckhbnmfnpolgaaGreat
open Go.RowKit
open M (Hd HR Cv Ty Lim Wb y6 U4 dep DG fvb)
inductive zd:List M.Tm->M.Tm->Prop where
 |num {n a}:n<=2->NC n a->zd (gX n .nat) a
 |txt {G l a}:(G,l)∈txts->a∈l->zd G a
 |rfl {a}:NC 1 a->zd [.nat] (.refl a)
theorem NG.rep(n:Nat):NG n (gX n .nat):=fun i hi=> by
 unfold M.lk;rw[List.getElem?_replicate,if_pos hi]
 rfl
theorem zd.ok{G:List M.Tm}{a:M.Tm}(h:zd G a):SG a/\DG G 3/\(O6 G->j0 D0 (enc a)=true->oe G a):=by
 cases h with
 |num hn h=> exact⟨h.sg,fun A hA=> by rw[kU hA];decide,fun hG hv=> h.side (NG.rep _) hG hv⟩
 |txt h d=>
  obtain⟨e,b,c,-⟩:=gu h d;exact⟨e,c,fun _ _=> b⟩
 |rfl h=> exact⟨h.sg,fun A hA=> by rw[List.mem_singleton.1 hA];decide,fun _ _=> trivial⟩
theorem S4.ccRS{f a:Nat}(h:f<=a): ∀ts done:List Tr,S4 (ccRS f done ts) (ccRS a done ts)
 | [],_=> S4.rfl' _
 |t::ts,done=>((Ij h done t).frm 2).thn fun _=> S4.ccRS h ts _
theorem sC{f:Nat}: ∀(ts:List Tr) (G:List M.Tm) (u:Tr),O6 G->(∀t∈ts,j0 D0 t=true)->ccRS f (ctxE G) ts=some (u,0)-> ∃D,ctxE D=ctxE G++ts/\O6 D
 | [],G,u,hG,hv,h=>⟨G,by simp,hG⟩
 |t::ts,G,u,hG,hv,h=> by
  obtain⟨s,a,c⟩:=M8 h;obtain⟨A,rfl⟩:=Ol (hv t (by simp));obtain⟨d,a⟩:=gg hG (hv _ (by simp)) a;obtain⟨S,i,-,-,-,-,b,-⟩:=Sd (snd d) hG (hv _ (by simp)) a;rw[<-yd] at c;obtain⟨D,e,g⟩:=sC ts (A::G) u (hG.cons b (hv _ (by simp))) (fun x hx=> hv x (by simp[hx])) c;exact⟨D,by rw[e,yd];simp,g⟩
theorem JC: ∀(ts:List Tr) (G:List M.Tm),O6 G->(∀t∈ts,j0 D0 t=true)-> ∃f,Is (ccRS f (ctxE G) ts)
 | [],G,hG,hv=>⟨0,Is.mk _⟩
 |t::ts,G,hG,hv=> by
  have v:=hv t (by simp);obtain⟨A,rfl⟩:=Ol v;obtain⟨a,d⟩:=(Qw 21 G (by omega) hG A v).at;by_cases g: ∃f s,X0 (Q0 f (ctxE G) (enc A)) 2=some (s,0)
  · obtain⟨c,l,hs⟩:=g
    obtain⟨c,hs⟩:=gg hG v hs;obtain⟨S,i,-,-,-,-,b,-⟩:=Sd (snd c) hG v hs;obtain⟨k,j⟩:=JC ts (A::G) (hG.cons b v) (fun x hx=> hv x (by simp[hx]));refine⟨a+k,((d _ (by omega)).frm 2).thn fun s _=> ?_⟩;rw[<-yd];exact j.le (S4.ccRS (by omega) _ _)
  · exact⟨a,((d _ (aN _)).frm 2).thn fun s e=> absurd ⟨a,s,e⟩ g⟩
theorem JG(ctx:List Tr)(t:Tr): ∃f,Is (Se f ctx t):=by
 unfold Se;by_cases hf:Ob ctx=false\/j0 D0 t=false
 · exact⟨0,by rw[if_pos hf];exact Is.mk _⟩
 · have c:Ob ctx=true:=by
    cases h:Ob ctx with
    |true=> rfl
    |false=> exact absurd (.inl h) hf
   have d:j0 D0 t=true:=by
    cases h:j0 D0 t with
    |true=> rfl
    |false=> exact absurd (.inr h) hf
   have o: ∀f,Yu f ctx=ccRS f (ctxE []) ctx:=fun f=> by unfold Yu;rw[if_pos c];rfl
   obtain⟨b,g⟩:=JC ctx [] O6.nil (Fr c).2;simp only[if_neg hf,o];by_cases i: ∃f s,ccRS f (ctxE []) ctx=some (s,0)
   · obtain⟨p,n,hs⟩:=i
     obtain⟨D,j,k⟩:=sC ctx [] n O6.nil (Fr c).2 hs;obtain rfl:ctx=ctxE D:=by rw[j];simp[ctxE]
     obtain⟨a,rfl⟩:=Ol d;obtain⟨l,m⟩:=(Qw 21 D (by omega) k a d).at;exact⟨b+l,(g.le (S4.ccRS (by omega) _ _)).thn fun s _=>(m _ (by omega)).thn fun _ _=> Is.mk _⟩
   · exact⟨b,g.thn fun s e=> absurd ⟨b,s,e⟩ i⟩
theorem WE{ctx:List Tr}{t:Tr}(hs:SD ctx)(hd: ∀G a,ctx=ctxE G->t=enc a->O6 G->j0 D0 t=true->Dr G a): ∃f b r,X0 (Se f ctx t) 10=some r/\X0 (Yb b ctx t) 10=some r:=by
 obtain⟨f,k⟩:=JG ctx t;obtain⟨b,g⟩:=So ctx t;obtain⟨⟨s,c⟩,e⟩:=k.frm 10;obtain⟨⟨i,j⟩,d⟩:=(g b (aN _)).frm 10;rcases((j255 (f:=f) (f':=b) hs hd).frm 10) s c i j e d with⟨rfl,rfl⟩ |⟨h,-⟩
 · exact⟨f,b,_,e,d⟩
 · exact h.elim
end Go.Proofs.YtckhbnmfnpolgaaGreat
namespace Go.Proofs.YtckhbnmfnpolgaaGreat
open Go Go.RowKit
attribute [local go_sem ↓] cP cQ
def BQ(b:List Tr)(t:Tr):Prop:= ∃G a,b=ctxE G/\t=enc a/\zd G a/\j0 D0 t=true/\b.length<=5/\ ∀x∈b,cnt x<=400
theorem BQ.num{j D C:Nat}{t:Tr}(b:j<=2)(h:NQ j D C t)(v:j0 D0 t=true):BQ (gX j (.mk 6 0 [])) t:=by
 obtain⟨a,rfl,c,-⟩:=h;exact⟨gX j .nat,a,by simp[ctxE,enc],rfl,.num b c,v,by simp;omega,fun x hx=> by rw[kU hx];decide⟩
theorem BQ.txt{c b:List (List UInt8)}{q:List M.Tm×List M.Tm}{i:Nat}(e:q∈txts)(f:Wa c=ctxE q.1)(d:Wa b=q.2.map enc)(hx:(Wa c).length<=5)(hi:i <(Wa b).length):BQ (Wa c) (kd (Wa b) i):=by
 have hv:j0 D0 (kd (Wa b) i)=true:=zH (by unfold kd;rw[dR,bZ hi];exact gU hi);have a:i < q.2.length:=by rw[d] at hi;simpa using hi
 refine⟨q.1,q.2[i],f, ?_,.txt e (gU a),hv,hx,fun x h=>(Z3 (zH h)).2⟩;unfold kd;rw[d,dR,List.getElem?_map,bZ a]
 rfl
theorem nG(f:World)(g m:Nat)(hR:Rd f g m)(hm:m < 700000):Calls prog 66 #[.pointer (some ⟨g,0,none⟩)] f (CQ f g (m+3000) BQ):=by
 have d:=hdq hR.lt;go_enter func66,ntmps66;go_wp2_with fail;generalize P:aO f _=w1;obtain⟨br,e⟩:=nb P;have Z:=(St.of hR e).id;have Y:D1 [g] f w1:=oE e;clear P e hR;refine(Yf _ g _ 2 Z.2 (by omega)).mono ?_;rintro e w2 ⟨x,rfl,n,hx1,R,o⟩;replace Z:=Z.tr o R;clear o R;obtain⟨HC,t⟩ |rfl:=cz x
 rotate_left
 · go_wp2_with fail
   refine(numD [0,1,2,0] rfl rfl Z.2 (by omega)).mono ?_;rintro e G ⟨nn,rfl,om,o,R⟩;replace Z:=Z.tr o R;clear o R;obtain⟨N,rfl⟩:=dN (show 0<=nn by simp at om;omega);have hN:N<=2:=by simp at om;omega
   clear om;go_wp2_with fail;have ly:=kb.lit (xr G);have n:=(xr G).alloc (.cells #[] 25);generalize aO G _=wq at ly n⊢
   go_loopw [5,6] (fun vo i wr=> ∃(v:Value) (j:Nat),v=vo/\j<=N/\i= .int .i64 j/\kb G wr v (gX j (.mk 6 0 []))/\Ext G wr) (fun _ i _=> N -(intOf i).toNat)
   case atStart=> exact⟨_,0,rfl,Nat.zero_le _,rfl,ly,n⟩
   case round=>
    obtain⟨v,j,rfl,H,rfl,hG,hx⟩:=hrel;clear ly n;by_cases hlt:j < N
    · have uk:(j:Int) <(N:Int):=by omega
      go_wp2_with fail;refine(q15 _ 6 0).mono ?_;rintro e J ⟨rfl,e5⟩;have e6:=e5.alloc (.cells #[.int .i64 6,.int .i64 0,.slice none 0 0] 25);have ba:=heap_alloc_new J (.cells #[.int .i64 6,.int .i64 0,.slice none 0 0] 25);have Dm:=hx.trans e6;go_wp2_with (at_builtin;refine yH (tr:= .mk 6 0 []) (.tmp 23) (.tmp 25) hG e6 hx (Y1.leaf _ _ 6 0) (by simp;omega) rfl rfl rfl rfl ba ?_)
      intro A c w7 zf hB7;rw[<-List.replicate_succ'] at zf;go_wp2_with fail
      go_roundw
      case rel=> exact⟨_,j+1,rfl,by omega,by go_num,zf,Below.trans Dm hB7⟩
      case measure=> simp[intOf];omega
    obtain rfl:j=N:=by omega
    obtain⟨A,c,rfl,q1,u,M,K⟩:=hG.row;rw[List.length_replicate] at q1⊢;replace K:InK wr (fun b=> f.heap.size < b) A _:=InK.mono (fun b k=> Z.news br b k.1) (fun _ _=> rfl) K;replace Z:=Z.up hx;clear hG hx hlt;go_wp2_with fail;refine(numD [3,2,4,1] rfl rfl Z.2 (by omega)).mono ?_;rintro e w4 ⟨kk,rfl,yn,o,R⟩;replace Z:=Z.tr o R;replace K:=K.dl o (Na (by have:=d.out;omega));clear o R;have hk4: -3<=kk/\kk<=4:=by simp at yn;omega
    clear yn;go_wp2_with fail;refine(To _ g _ j (j:Int) kk Z.2 (by omega) rfl (by omega) (by omega) (by omega)).mono ?_;intro e J h;obtain⟨ta,ua,va,Aa,la,ca,rfl,Pa,a,o,Z⟩:=h.at Z br;replace K:=K.dl o (Na (by have:=d.out;omega));clear o;go_wp2_with fail;generalize P:aO J _=w6;obtain⟨bq,e⟩:=nb P;have F:=hdq (nq (r:=f.heap.size) (g:=g) bq (by have:=O1 br;have:=Z.1.size;omega) (by have:=O1 br;have:=d.out;have:=Z.1.size;omega));replace br:=e.blk (Z.br br (by have:=d.out;omega));replace Y:=Y.trans (Z.up e).1;replace Z:=(Z.up e).id;replace K:=K.later e;replace a:=a.later e;have Q:=F.out _ Z.off;clear P bq e;refine(li ta _ _ a.lies').mono ?_;rintro e w7 ⟨rfl,e⟩;replace Z:=Z.up e;replace K:=K.later e;replace a:=a.later e;replace Q:=F.out _ Z.off;cases hz:j0 D0 ta with
    |true=>
     go_wp2_with fail;refine Wd f.heap.size (by kernel_rfl) Z fun w8 e Z=> ?_
     replace K:=K.later e;replace a:=a.later e;replace Q:=F.out _ Z.off;refine O2 [0,1,2] 1 (by kernel_rfl) Z.off (fun _ _ _ _ _ h=> h) ?_
     iterate 3 (refine tk rfl (by rfl) (by intro w X;have Q:=F.out _ X;go_simp;(try with_reducible rfl)) ?_;try simp only[N2])
     have R:=cbn (Z.br br (by have:=d.out;omega));refine O0 3 (by kernel_rfl) rfl rfl (fun K hK=> ?_)
     go_simp
     refine hK.out _ _ (Z.off.set3 _ _ _) (fun _=> ?_);clear hK K;refine bP (by kernel_rfl) ?_ _;go_wp2_with fail;exact Za (by simp[aR,results66,go_sem,R]) (BQ.num hN Pa hz) (List.length_replicate ..) ⟨q1,u,M⟩ K a Y Z d.out (aN _) (by omega) rfl
    |false=>
     go_wp2_with fail;refine(Yf _ g _ 4 Z.2 (by omega)).mono ?_;rintro e w8 ⟨y,rfl,hy0,hy1,R,o⟩;replace Z:=Z.tr o R;clear o R;replace Q:=F.out _ Z.off;go_wp2_with fail;refine(Oy y _).mono ?_;rintro e w9 ⟨b1,b2,p,rfl,U,S1,S,e⟩;replace Z:=Z.up e;replace Q:=F.out _ Z.off;obtain⟨q,hq,r1,T,n1,n2,z1,z2,q1,u,M⟩:=Rr p U;have s:=hdq (fun W (B:Ext w9 W)=> ox p.1 b1 W (S1.ext B) n1 z1);have HB:=hdq (fun i hi=> BQ.txt (i:=i) hq r1 T (by omega) hi);have O:=hdq (ox p.2 b2 w9 S n2 z2);clear S1 S hq r1 T z1 z2 U;generalize p.1.length=P1 at*;generalize p.2.length=P2 at*;generalize Wa p.1=C at*;generalize Wa p.2=I at*;go_wp2_with fail;have E:=Z.news br;refine(O.out).mono ?_;rintro e T3 ⟨A,c,rfl,hA,K,e⟩;replace Z:=Z.up e;replace Q:=F.out _ Z.off;replace K:InK T3 (fun b=> f.heap.size < b) A I:=InK.mono (fun b k=> E b k.1) (fun _ _=> rfl) K;obtain⟨b,oq,rfl,k,hk⟩:=Cd K u;obtain⟨L,V⟩: ∃L,I.length=L:=⟨_,rfl⟩;rw[V] at hk hA u M HB⊢;have HK:=hdq hk;have iy:(0:Int) <(L:Int):=by omega
     have z:=hA.2.1;unfold maxLen at z;have O5:=hA.1;replace br:=Z.br br (by have:=d.out;omega);replace Y:=Y.trans Z.1;replace s:=hdq (fun W B=> s.out W (e.trans B));replace Z:=Z.id;clear hk K hA V O e;go_wp2_with fail;refine Wd f.heap.size (by kernel_rfl) Z fun ee e Z=> ?_
     refine O2 [0,2,3,4,5] 6 (by kernel_rfl) Z.off (fun _ _ _ _ _ h=> h) ?_
     iterate 5 (refine tk rfl (by rfl) (by intro w X;go_simp;(try with_reducible rfl)) ?_;try simp only[N2])
     refine O0 1 (by kernel_rfl) rfl rfl (fun K hK=> ?_)
     go_simp
     replace E:=Z.news br
     go_at_call 98
     refine(s.out _ e).mono ?_;rintro e' iu ⟨A6,c6,rfl,h6,l,e⟩;replace l:InK iu (fun b=> f.heap.size < b) A6 C:=InK.mono (fun b k=> E b k.1) (fun _ _=> rfl) l;replace Z:=Z.up e;refine hK.out _ _ Z.off (fun _=> ?_);clear hK K;refine O0 6 (by kernel_rfl) rfl rfl (fun K hK=> ?_)
     go_simp
     go_at_call 67
     refine(Yf _ g _ (L:Int) Z.2 (by omega)).mono ?_;rintro e rk ⟨j,rfl,kq,qi,R,o⟩;replace Z:=Z.tr o R;replace l:=l.dl o (Na (by have:=d.out;omega));clear o R;refine hK.out _ _ Z.off (fun _=> ?_);clear hK K;obtain⟨j,rfl⟩:=dN kq;have H:j < L:=by omega
     have uk:(j:Int) <(L:Int):=by omega
     obtain⟨x1,x2,x3,x4,x5,D⟩:=HK.out j H;rw[Nat.mul_comm] at D;have F:=hdq (D.dw (r:=f.heap.size) (g:=g) k (ab (by have:=d.out;omega)));clear D;refine O2 [7,8,9] 1 (by kernel_rfl) Z.off (fun _ _ _ _ _ h=> h) ?_
     iterate 3 (refine tk rfl (by rfl) (by intro w X;have Q:=F.out _ X;go_simp;(try with_reducible rfl)) ?_;try simp only[N2])
     have R:=cbn (Z.br br (by have:=d.out;omega));refine O0 10 (by kernel_rfl) rfl rfl (fun K hK=> ?_)
     go_simp
     refine hK.out _ _ (Z.off.set3 _ _ _) (fun _=> ?_);clear hK K;refine bP (by kernel_rfl) ?_ _;have Q:=F.out _ Z.off;go_wp2_with fail;exact Za (by simp[aR,results66,go_sem,R]) (HB.out j H) rfl h6 l Q.i Y Z d.out (aN _) (by omega) rfl
 go_wp2_with fail;refine(Yf _ g _ 4 Z.2 (by omega)).mono ?_;rintro e G ⟨y,rfl,hy0,hy1,R,o⟩;replace Z:=Z.tr o R;clear o R;go_wp2_with fail;refine(Oy y _).mono ?_;rintro e w4 ⟨b1,b2,p,rfl,U,S1,S,e⟩;replace Z:=Z.up e;obtain⟨q,hq,r1,T,n1,n2,z1,z2,q1,u,M⟩:=Rr p U;have s:=hdq (fun W (B:Ext w4 W)=> ox p.1 b1 W (S1.ext B) n1 z1);have HB:=hdq (fun i hi=> BQ.txt (i:=i) hq r1 T (by omega) hi);have O:=hdq (ox p.2 b2 w4 S n2 z2);clear S1 S hq r1 T z1 z2 U;generalize p.1.length=P1 at*;generalize p.2.length=P2 at*;generalize Wa p.1=C at*;generalize Wa p.2=I at*;go_wp2_with fail;have E:=Z.news br;refine(O.out).mono ?_;rintro e J ⟨A,c,rfl,hA,K,e⟩;replace Z:=Z.up e;replace K:InK J (fun b=> f.heap.size < b) A I:=InK.mono (fun b k=> E b k.1) (fun _ _=> rfl) K;obtain⟨b,oq,rfl,k,hk⟩:=Cd K u;obtain⟨L,V⟩: ∃L,I.length=L:=⟨_,rfl⟩;rw[V] at hk hA u M HB⊢;have HK:=hdq hk;have iy:(0:Int) <(L:Int):=by omega
 have z:=hA.2.1;unfold maxLen at z;have O5:=hA.1;replace br:=Z.br br (by have:=d.out;omega);replace Y:=Y.trans Z.1;replace s:=hdq (fun W B=> s.out W (e.trans B));replace Z:=Z.id;clear hk K hA V O e;go_wp2_with fail;refine Wd f.heap.size (by kernel_rfl) Z fun w6 e Z=> ?_
 refine O2 [0,2,3,4,5] 6 (by kernel_rfl) Z.off (fun _ _ _ _ _ h=> h) ?_
 iterate 5 (refine tk rfl (by rfl) (by intro w X;go_simp;(try with_reducible rfl)) ?_;try simp only[N2])
 refine O0 1 (by kernel_rfl) rfl rfl (fun K hK=> ?_)
 go_simp
 replace E:=Z.news br
 go_at_call 98
 refine(s.out _ e).mono ?_;rintro e' w7 ⟨A6,c6,rfl,h6,l,e⟩;replace l:InK w7 (fun b=> f.heap.size < b) A6 C:=InK.mono (fun b k=> E b k.1) (fun _ _=> rfl) l;replace Z:=Z.up e;refine hK.out _ _ Z.off (fun _=> ?_);clear hK K;refine O0 6 (by kernel_rfl) rfl rfl (fun K hK=> ?_)
 go_simp
 go_at_call 67
 refine(Yf _ g _ (L:Int) Z.2 (by omega)).mono ?_;rintro e w8 ⟨j,rfl,kq,qi,R,o⟩;replace Z:=Z.tr o R;replace l:=l.dl o (Na (by have:=d.out;omega));clear o R;refine hK.out _ _ Z.off (fun _=> ?_);clear hK K;obtain⟨j,rfl⟩:=dN kq;have H:j < L:=by omega
 have uk:(j:Int) <(L:Int):=by omega
 obtain⟨x1,x2,x3,x4,x5,D⟩:=HK.out j H;rw[Nat.mul_comm] at D;have F:=hdq (D.dw (r:=f.heap.size) (g:=g) k (ab (by have:=d.out;omega)));clear D;refine O2 [7,8,9] 1 (by kernel_rfl) Z.off (fun _ _ _ _ _ h=> h) ?_
 iterate 3 (refine tk rfl (by rfl) (by intro w X;have Q:=F.out _ X;go_simp;(try with_reducible rfl)) ?_;try simp only[N2])
 have R:=cbn (Z.br br (by have:=d.out;omega));refine O0 10 (by kernel_rfl) rfl rfl (fun K hK=> ?_)
 go_simp
 refine hK.out _ _ (Z.off.set3 _ _ _) (fun _=> ?_);clear hK K;refine bP (by kernel_rfl) ?_ _;have Q:=F.out _ Z.off;go_wp2_with fail;exact Za (by simp[aR,results66,go_sem,R]) (HB.out j H) rfl h6 l Q.i Y Z d.out (aN _) (by omega) rfl
end Go.Proofs.YtckhbnmfnpolgaaGreat
namespace Go.Proofs.YtckhbnmfnpolgaaGreat
open Go.RowKit
open M (Hd HR Cv Ty Lim Wb y6 U4 dep DG fvb)
def M1(t a:Tr):Prop:=a=t\/a= .mk 8 0 [t]\/(∃k n,a= .mk k n [])\/ ∃k n b A B,t= .mk k n [A,B]/\a= .mk 5 b [A,B]
theorem M1.sg{a c:M.Tm}(h:M1 (enc a) (enc c))(k:SG a):SG c:=by
 rcases h with h|h|⟨q,n,h⟩ |⟨q,n,e,A,B,b,d⟩
 · rw[Md h];exact k
 · cases c <;> simp only[enc,Tr.mk.injEq,List.cons.injEq] at h <;> first|(exact absurd h.1 (by decide)) |skip
   rw[Md h.2.2.1];exact k
 · cases c <;> simp only[enc,Tr.mk.injEq] at h <;> first|trivial|(exact absurd h.2.2 (by simp))
 · cases c <;> simp only[enc,Tr.mk.injEq,List.cons.injEq] at d <;> first|(exact absurd d.1 (by decide)) |skip
   rename_i f x
   obtain⟨-,-,rfl,rfl,-⟩:=d;cases a <;> simp only[enc,Tr.mk.injEq,List.cons.injEq,and_true,reduceCtorEq,and_false] at b
   case pi A B=> rw[<-Md b.2.2.1,<-Md b.2.2.2];exact⟨k.2.1,k.2.2⟩
   case lam A B=> rw[<-Md b.2.2.1,<-Md b.2.2.2];exact⟨k.2.1,k.2.2⟩
   case sg A B=> rw[<-Md b.2.2.1,<-Md b.2.2.2];exact⟨k.2.1,k.2.2⟩
   case app A B=> rw[<-Md b.2.2.1,<-Md b.2.2.2];exact k
theorem yJ{t u:M.Tm}{k n:Int}{a:List Tr}{i:Nat}(h:enc t= .mk k n a)(hi:i < a.length):enc (Po t i u)= .mk k n (a.set i (enc u)):=by
 cases t <;> simp only[enc,Tr.mk.injEq] at h <;> obtain⟨rfl,rfl,rfl⟩:=h <;> simp only[List.length_cons,List.length_nil] at hi <;> first|omega|skip
 all_goals(rcases i with _|_|_|_|i <;> first|rfl|omega)
theorem MR.m1{t c:Tr}(h:MR t c)(v:j0 D0 t=true)(j:j0 D0 c=true):M1 t c:=by
 have q:=(Z3 j).1;cases h with
 | @kind k n y a b=>
  have e:U0 y=(a.length:Int):=(Z4 q).1;simp only[gP,gN,or_false] at b;rcases b with rfl|rfl|rfl|rfl|rfl
  · have:U0 0= -1:=rfl
    omega
  · have:U0 17= -1:=rfl
    omega
  · have:U0 1=0:=rfl
    have:a= []:=bO (by omega);subst this;exact .inr (.inr (.inl ⟨_,_,rfl⟩))
  · have:U0 5=2:=rfl
    match a,(by omega:a.length=2) with
    | [A,B],_=> exact .inr (.inr (.inr ⟨_,_,_,_,_,rfl,rfl⟩))
  · have:U0 6=0:=rfl
    have:a= []:=bO (by omega);subst this;exact .inr (.inr (.inl ⟨_,_,rfl⟩))
 | @num k n y a b=>
  obtain⟨e,m,d,-⟩:=Z4 q;have e:U0 k=(a.length:Int):=e;have d:y<=Ma k:=d;by_cases hk:a= []
  · subst hk
    exact .inr (.inr (.inl ⟨_,_,rfl⟩))
  · exfalso
    have hl:=List.length_pos_iff.2 hk;have hm:Ma k=0:=by
     unfold Ma;by_cases f:k=1
     · subst f
       have:U0 1=0:=rfl;omega
     · by_cases g:k=2
       · subst g
         have:U0 2=0:=rfl;omega
       · rw[if_neg f,if_neg g]
    simp only[gP,gN,or_false] at b;omega
 | @more k n a=>
  have o:U0 k=(a.length:Int):=(Z4 (Z3 v).1).1;have l:U0 k=((a++ [.mk 7 0 []]:List Tr).length:Int):=(Z4 q).1;simp only[List.length_append,List.length_singleton] at l;omega
 |succ=> exact .inr (.inl rfl)
 | @var k n a hk=>
  exfalso
  have hl:=List.length_pos_iff.2 hk;have:=(Z4 q).2.2.2 (.mk 1 25 []) (List.mem_of_getElem? (i:=0) (by simp[hl]))
  revert this
  decide
 |same=> exact .inl rfl
inductive M5 (G:List M.Tm) (a:M.Tm):List Tr->Tr->Prop where
 |same {t}:M1 (enc a) t->M5 G a (ctxE G) t
 |tail {t}:M1 (enc a) t->M5 G a (ctxE G).tail t
 |last {t u}:(∀A,u=enc A->dep A<=4)->M1 (enc a) t->M5 G a (ctxE G++ [u]) t
 |long {t n}:M1 (enc a) t->M5 G a (ctxE G++gX n (.mk 6 0 [])) t
 |any {t}:(∀A,t=enc A->dep A<=4)->M5 G a (ctxE G) t
 |kid {k n ks i u}:enc a= .mk k n ks->i < ks.length->dep u<=4->M5 G a (ctxE G) (.mk k n (ks.set i (enc u)))
theorem SD.all3: ∀{ts:List Tr},(∀A,enc A∈ts->dep A<=3)-> ∀{us:List Tr},SD us->SD (ts++us)
 | [],_,us,h=> h
 |t::ts,k,us,h=>⟨fun A e=> by have:=k A (by simp[e]);omega,fun _ A e=> k A (by simp[e]),SD.all3 (fun A hA=> k A (by simp[hA])) h⟩
theorem rm{G:List M.Tm}(h:DG G 3): ∀A,enc A∈ctxE G->dep A<=3:=fun A hA=> by
 unfold ctxE at hA;rw[List.mem_reverse,List.mem_map] at hA;obtain⟨B,hB,e⟩:=hA;rw[<-Md e];exact h B hB
theorem M5.ok{G:List M.Tm}{a:M.Tm}{ctx:List Tr}{t:Tr}(m:zd G a)(h:M5 G a ctx t):SD ctx/\ ∀D b,ctx=ctxE D->t=enc b->O6 D->j0 D0 t=true->j0 D0 (enc a)=true->Dr D b:=by
 obtain⟨j,f,l⟩:=m.ok;have i:=rm f;have st: ∀{t:Tr} {D:List M.Tm} {b:M.Tm},M1 (enc a) t->t=enc b->Dr D b:=fun k e=> .inl (M1.sg (e▸k) j)
 cases h with
 |same k=> exact⟨SD.of f,fun D b d c hD hv _=> st k c⟩
 |tail k=> exact⟨by have:=SD.all3 (ts:=(ctxE G).tail) (fun A hA=> i A (List.mem_of_mem_tail hA)) (us:= []) trivial;simpa using this,fun D b d c hD hv _=> st k c⟩
 |last g k=> exact⟨SD.all3 i ⟨fun A e=> g A e,fun q=> absurd rfl q,trivial⟩,fun D b d c hD hv _=> st k c⟩
 | @long t n k=>
  refine⟨?_,fun D b d c hD hv _=> st k c⟩;have:=SD.all3 (ts:=ctxE G++gX n (.mk 6 0 [])) (fun A hA=> by
   rcases List.mem_append.1 hA with hA|hA
   · exact i A hA
   · have:=kU hA
     rw[Md (u:= .nat) this]
     decide) (us:= []) trivial
  simpa using this
 |any g=> exact⟨SD.of f,fun D b d c hD hv _=> by cases py d;exact .inr ⟨f,.inl (g b c)⟩⟩
 |kid e hi g=>
  refine⟨SD.of f,fun D b d c hD hv o=> ?_⟩;cases py d
  rw[<-yJ e hi] at c;rw[<-Md c];exact .inr ⟨f,.inr ⟨_,_,_,rfl,j,l hD o,g⟩⟩
theorem Pk(a:M.Tm):dep a<=dT (enc a):=by
 induction a <;> simp only[dep,enc,dT,qs] <;> omega
theorem MW.m5{G:List M.Tm}{a:M.Tm}{ctx:List Tr}{t:Tr}(h:MW (ctxE G) (enc a) ctx t)(v:j0 D0 (enc a)=true)(b:j0 D0 t=true):M5 G a ctx t:=by
 have d: ∀{u:Tr},dT u<=4-> ∀A,u=enc A->dep A<=4:=fun h A e=> by
  subst e;exact bL (Pk A) h
 cases h with
 |same h=> exact .same (h.m1 v b)
 |tail e h=> subst e;exact .tail (h.m1 v b)
 |last c h=> exact .last (d c.2) (h.m1 v b)
 |long e h=> obtain⟨q,rfl⟩:=e;exact .long (h.m1 v b)
 |any h=> exact .any (d h.2)
 |kid e hi c=>
  obtain⟨u,rfl⟩:=Ol c.1;exact .kid e hi (d c.2 u rfl)
theorem MW.sd{G:List M.Tm}{a:M.Tm}{ctx:List Tr}{t:Tr}(b:zd G a)(v:j0 D0 (enc a)=true)(h:MW (ctxE G) (enc a) ctx t):SD ctx:=by
 have d: ∀{u:Tr},dT u<=4-> ∀A,u=enc A->dep A<=4:=fun h A e=> by
  subst e;exact bL (Pk A) h
 cases h with
 |same h=> exact(M5.ok b (.same (.inl rfl))).1
 |tail e h=> subst e;exact(M5.ok b (.tail (.inl rfl))).1
 |last c h=> exact(M5.ok b (.last (d c.2) (.inl rfl))).1
 |long e h=> obtain⟨q,rfl⟩:=e;exact(M5.ok b (.long (.inl rfl))).1
 |any h=> exact(M5.ok b (.same (.inl rfl))).1
 |kid e hi c=> exact(M5.ok b (.same (.inl rfl))).1
theorem qG{G:List M.Tm}{a:M.Tm}{ctx:List Tr}{t:Tr}(c:zd G a)(v:j0 D0 (enc a)=true)(h:MW (ctxE G) (enc a) ctx t): ∃f d r,X0 (Se f ctx t) 10=some r/\X0 (Yb d ctx t) 10=some r:=
 WE (h.sd c v) fun D b g e hD hv=>(M5.ok c (h.m5 v hv)).2 D b g e hD hv v

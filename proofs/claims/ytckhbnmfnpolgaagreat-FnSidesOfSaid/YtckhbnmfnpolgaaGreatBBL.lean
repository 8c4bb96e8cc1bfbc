/-
  Lemmas towards the law, 38: Sides, MBase, MEndIt, D5, MMut.
-/
import Derived.Test.YtckhbnmfnpolgaaGreatBBK
open Go.World renaming alloc->aN
open Go renaming results->aQ,bodyPost_ret->aO,wp_region_held_drew->gQ,wpAnyH_done->bP
open List renaming mem_cons->fY,not_mem_nil->fW,getElem?_toArray->eM,getElem?_cons_zero->dV,getElem?_cons_succ->dP,setIfInBounds_toArray->aT,set_cons_zero->bM,set_cons_succ->bL,replicate->gO,eq_of_mem_replicate->kL,getD_eq_getElem?_getD->dL,getElem?_eq_getElem->bV,getElem_mem->gL,eq_nil_of_length_eq_zero->aZ
open Nat renaming le_trans->bK,le_refl->aM
open Int renaming eq_ofNat_of_zero_le->cV
open Go.Proofs.Tryz
set_option linter.unusedVariables false
set_option maxHeartbeats 40000000
set_option maxRecDepth 100000
namespace Go.Proofs.YtckhbnmfnpolgaaGreat
open Go Go.RowKit
attribute [local go_sem ↓] Go.wp_at_zero Go.wp_at_succ
theorem uH(f:Nat)(G:List Tr)(A:Option Addr)(ca:Nat)(a:World)(hG:q24 a A G)(x:G.length<=ca)(i:ca<=maxLen)(t:Tr)(v:Value)(ht:Lies a t v)(N:Nat->Prop)(hN: ∀b,a.heap.size<=b->N b)(r:Tr×Int)(h:V0 (Uf f G t) 10=some r):Calls prog 42 #[.slice A G.length ca,v] a (N9 N a r):=by
 have z:=hdq (fun W (l:Ext a W) N hN q y=> VD f G A ca W (hG.ext l) x i t v (ht.ext l) N hN q y);obtain⟨s,c,j,m,p⟩:=k8 h;obtain⟨k,n,J⟩:=t;obtain⟨At,ct,rfl,-⟩:=Lies.mk_iff.1 ht;clear h ht hG;go_enter func42,ntmps42;go_wp2_with fail;generalize g:aN (aN a _) _=H;obtain⟨d,br,S⟩:=sE g.symm hN;have F:=hdq (S);have X:=xr H;have Q:=F.out _ X.off;clear S hN g;refine(z.out _ (d.trans X) _ Q.1 _ j.out).mono ?_;rintro e D ⟨u,rfl,hT,e⟩;replace X:=X.trans e;replace Q:=F.out _ X.off;obtain⟨_,_,_,_,_,rfl⟩:=hT.three;simp only;obtain⟨C,t⟩ |rfl:=cz c
 · have R:=cbn (X.blk br)
   have B:=fun o=> cbn ((X.alloc o).blk br)
   go_wp2_with fail;exact ya (by simp[aQ,results42,go_sem,R,B]) (p.out C.out) (((d.trans X).alloc _).set3 (Nat.le_succ _) _ _ _) rfl
 have HR:=hdq (Option.some.inj (m.out rfl));clear j m p;go_wp2_with fail;generalize g:aN D _=E;obtain⟨w,e⟩:=nb g;replace F:=hdq (both (rb F.out (X.trans e)) (both (U9 w (X.ne br)) (hT.up e)));replace X:=X.trans e;replace br:=X.blk br;replace d:=d.trans X;replace X:=xr E;replace Q:=F.out _ X.off;clear g w e;clear hT;refine(qB s 10 _ _ Q.1.1 _ Q.2.2.lies').mono ?_;rintro e I ⟨u,rfl,hT,e⟩;replace X:=X.trans e;replace Q:=F.out _ X.off;obtain⟨_,_,_,_,_,rfl⟩:=hT.three;rw[HR.out] at hT⊢;have R:=cbn (X.blk br);go_wp2_with fail;exact n7 (by simp[aQ,results42,go_sem,R]) (hT) (me rfl) (d.trans X) (Nat.le_succ _) rfl
theorem AH(f:Nat)(G:List Tr)(A:Option Addr)(ca:Nat)(d:World)(hG:q24 d A G)(J5:G.length<=ca)(hcm:ca<=maxLen)(t:Tr)(v:Value)(ht:Lies d t v)(r:Tr×Int)(h:V0 (Uf f G t) 10=some r):Calls prog 13 #[.slice A G.length ca,v] d (QI d r):=by
 have HI:=hdq (fun W (hW:Ext d W) N hN q hq=> uH f G A ca W (hG.ext hW) J5 hcm t v (ht.ext hW) N hN q hq);have HH:=hdq h;obtain⟨k,n,ks⟩:=t;obtain⟨At,ct,rfl,-⟩:=Lies.mk_iff.1 ht;clear ht hG;go_enter func13,ntmps13;go_wp2_with fail;generalize O:aN (aN (aN (aN d _) _) _) _=w1;obtain⟨bt,V,gi,U,s1,e1⟩:=jB O.symm;clear O;have Q:=cb3 bt;obtain⟨R,P⟩: ∃R,R= [d.heap.size+1,d.heap.size+1+1,d.heap.size+1+1+1]:=⟨_,rfl⟩;have hN: ∀b,w1.heap.size<=b->b∉R:=by
  intro b g h;rw[P] at h;simp only[fY,fW,or_false] at h;omega
 refine(HI.out _ e1 _ hN _ h).mono ?_;rintro e w2 ⟨u,rfl,hT,m⟩;obtain⟨_,_,_,_,_,rfl⟩:=hT.three;obtain⟨s,c⟩:=r;simp only at hT⊢;obtain⟨HC,t⟩ |rfl:=cz c
 · have r0:=cbn (m.blk V)
   have s0:=fun o=> cbn ((m.alloc o).blk V)
   have r1:=cbn (m.blk gi);have s1:=fun o=> cbn ((m.alloc o).blk gi)
   have r2:=cbn (m.blk U);have s2:=fun o=> cbn ((m.alloc o).blk U)
   go_wp2_with fail;refine aO (v:= .tuple #[.agg #[.int .i64 0,.int .i64 0,.slice none 0 0],.agg #[.int .i64 0,.int .i64 0,.slice none 0 0],.agg #[.int .i64 0,.int .i64 0,.slice none 0 0],.int .i64 c]) (by simp[aQ,results13,go_sem,r0,r1,r2,s0,s1,s2]) rfl ⟨_,_,_,rfl, ?_, ?_, ?_, ?_⟩
   iterate 3 (rw[vp (HC.out)];exact F5 _ _ 0 0)
   exact((((e1.trans m).alloc _).set3 (by omega) _ _ _).set3 (by omega) _ _ _).set3 (by omega) _ _ _
 · obtain⟨hk,M,hv⟩:=Yk HH.out
   obtain⟨ks,kn,E⟩:=s;obtain⟨Af,cf,he,Hg,Jd,hK⟩:=InT.mk_iff.1 hT;simp only[Value.agg.injEq] at he;cases he
   clear hT;simp only[Tr.kids] at M;have M:E.length=3:=by have:O0 10=3:=rfl;omega
   have ze:=hdq (show cnt (kd E 0)<=1000000 from by have:=(Z3 (Cd hv (i:=0) (by simp only[Tr.kids];omega))).2;simp only[Tr.kids] at this;omega);have Q7:=hdq (show cnt (kd E 1)<=1000000 from by have:=(Z3 (Cd hv (i:=1) (by simp only[Tr.kids];omega))).2;simp only[Tr.kids] at this;omega);have qz:=hdq (show cnt (kd E 2)<=1000000 from by have:=(Z3 (Cd hv (i:=2) (by simp only[Tr.kids];omega))).2;simp only[Tr.kids] at this;omega);obtain⟨b,o,rfl,g,⟨O3,N6,O6,O7,O9,K0⟩,⟨ax,Y7,Y6,Z2,aa,K1⟩,mh,ma,ml,mg,mj,K2⟩:=y20 hK M;rw[M];obtain⟨T,T0,T1,T2⟩: ∃T:Nat->Tr,T (d.heap.size+1)=kd E 0/\T (d.heap.size+1+1)=kd E 1/\T (d.heap.size+1+1+1)=kd E 2:=⟨fun r=> kd E (r -(d.heap.size+1)),by simp,by simp[show d.heap.size+1+1 -(d.heap.size+1)=1 by omega],by simp[show d.heap.size+1+1+1 -(d.heap.size+1)=2 by omega]⟩;rw[<-T0] at K0 ze;rw[<-T1] at K1 Q7;rw[<-T2] at K2 qz;go_wp2_with fail;generalize O:aN w2 _=x;obtain⟨Z,C⟩:=nb O;have hs:=(m).size;have FZ:=hdq (fun w (X:n9 R x w)=>(⟨X.cell (cb3 Z).1 (hN _ hs),X.cell (cb3 Z).2.1 (hN _ hs),X.cell (cb3 Z).2.2.1 (hN _ hs),KA.offR K0 g (C.offR.trans X),KA.offR K1 g (C.offR.trans X),KA.offR K2 g (C.offR.trans X)⟩:_/\_/\_/\_/\_/\_));have nl:=hdq (show d.heap.size+1∈R by rw[P];simp);have Hl:=hdq (⟨_,_,_,((m).trans C).drew.blk V⟩: ∃a b c,x.drew.heap[d.heap.size+1]? =some (.cells #[a,b,c] 25 (0,0)));have Y:=hdq (show d.heap.size+1+1∈R by rw[P];simp);have Da:=hdq (⟨_,_,_,((m).trans C).drew.blk gi⟩: ∃a b c,x.drew.heap[d.heap.size+1+1]? =some (.cells #[a,b,c] 25 (0,0)));have I9:=hdq (show d.heap.size+1+1+1∈R by rw[P];simp);have qy:=hdq (⟨_,_,_,((m).trans C).drew.blk U⟩: ∃a b c,x.drew.heap[d.heap.size+1+1+1]? =some (.cells #[a,b,c] 25 (0,0)));have F:=hdq (show∀r,r∈R->r < x.drew.heap.size from fun r hr=> Nat.lt_of_not_le fun h=> hN r (bK ((m).trans C).drew.size h) hr);have I:=hdq (show d.heap.size<=x.heap.size from(e1.trans ((m).trans C)).size);clear g K0 K1 K2 Z O hK hv hk HH HI hN V gi U hs M Hg Jd;refine gQ (S:=fun w=> n9 R x w) (by kernel_rfl) (xr x).drew.offR (fun _=> ?_);refine W2 [0,1,2,3,5,6,7,8,10,11,12,13] 7 (by kernel_rfl) (xr x).drew.offR (fun _ _ _ _ _ h=> h) ?_
   iterate 12 (refine tk rfl (by rfl) (by intro w X;have Q:=FZ.out _ X;go_simp;(try with_reducible rfl)) ?_;try simp only[I3])
   refine NB (S:=fun w=> n9 R x w) d.heap.size R T 18 37 #[true,true,true,true,true,true,true,true,true,true,true,true,true,true,true,true,true,true,false] 1 [S3.any,S3.any,S3.any,S3.any,S3.tree (T (d.heap.size+1)),S3.any,S3.any,S3.any,S3.any,S3.tree (T (d.heap.size+1+1)),S3.any,S3.any,S3.any,S3.any,S3.tree (T (d.heap.size+1+1+1)),S3.put (d.heap.size+1),S3.put (d.heap.size+1+1),S3.put (d.heap.size+1+1+1)] [4,9,14,15,16,17] (fun w h=>(xr x).drew.offR.trans h) (by kernel_rfl) rfl ?st ?fi
   case st=>
    repeat' first|exact trivial|refine And.intro ⟨_,rfl, ?_⟩ ?_
    all_goals(intro a w z p j j5;refine Ord.step_of rfl rfl ?_;intro K hK;have X:=(xr x).drew.offR.trans p.1)
    · (have f:=S4 (show a.eval (.tmp 25)= .agg #[.int .i64 O3,.int .i64 N6,.slice O6 O7 O9] from j 25 (by kernel_rfl));have Q:=FZ.out _ X;go_simp;go_at_call 43;refine(ti _ w _ Q.2.2.2.1.l ze.out).mono ?_;rintro e H ⟨u,rfl,J,L⟩;exact hK _ _ ⟨_,(),rfl,E3.ext (p.lt F.out) (bK I.out X.1) L,(J.at' (fun b g=>⟨bK (bK I.out X.1) g,fun y=> absurd (p.lt F.out b y) (Nat.not_lt.2 g)⟩):InT _ _ _ _)⟩)
    · (have f:=S4 (show a.eval (.tmp 30)= .agg #[.int .i64 ax,.int .i64 Y7,.slice Y6 Z2 aa] from j 30 (by kernel_rfl));have Q:=FZ.out _ X;go_simp;go_at_call 43;refine(ti _ w _ Q.2.2.2.2.1.l Q7.out).mono ?_;rintro e H ⟨u,rfl,J,L⟩;exact hK _ _ ⟨_,(),rfl,E3.ext (p.lt F.out) (bK I.out X.1) L,(J.at' (fun b g=>⟨bK (bK I.out X.1) g,fun y=> absurd (p.lt F.out b y) (Nat.not_lt.2 g)⟩):InT _ _ _ _)⟩)
    · (have f:=S4 (show a.eval (.tmp 35)= .agg #[.int .i64 mh,.int .i64 ma,.slice ml mg mj] from j 35 (by kernel_rfl));have Q:=FZ.out _ X;go_simp;go_at_call 43;refine(ti _ w _ Q.2.2.2.2.2.l qz.out).mono ?_;rintro e H ⟨u,rfl,J,L⟩;exact hK _ _ ⟨_,(),rfl,E3.ext (p.lt F.out) (bK I.out X.1) L,(J.at' (fun b g=>⟨bK (bK I.out X.1) g,fun y=> absurd (p.lt F.out b y) (Nat.not_lt.2 g)⟩):InT _ _ _ _)⟩)
    · (have h:InT w (fun b=> d.heap.size<=b/\b∉R) (T (d.heap.size+1)) (a.eval (.tmp 26)):=j5 4 26 (by kernel_rfl);obtain⟨_,_,_,_,_,D⟩:=h.three;rw[D] at h;have f:=S4 D;have fr:=S4 (show a.eval (.tmp 4)= .pointer (some ⟨d.heap.size+1,0,none⟩) from j 4 (by kernel_rfl));obtain⟨_,_,_,g⟩:=E3.box p nl.out Hl.out;have Q:=cbn g;go_simp;exact hK _ _ ⟨undef,(),rfl,(E3.put nl.out (by omega) ⟨_,_,_,g⟩ h).1,nl.out,(E3.put (B:=d.heap.size) nl.out (by omega) ⟨_,_,_,g⟩ h).2⟩)
    · (have h:InT w (fun b=> d.heap.size<=b/\b∉R) (T (d.heap.size+1+1)) (a.eval (.tmp 31)):=j5 9 31 (by kernel_rfl);obtain⟨_,_,_,_,_,D⟩:=h.three;rw[D] at h;have f:=S4 D;have fr:=S4 (show a.eval (.tmp 5)= .pointer (some ⟨d.heap.size+1+1,0,none⟩) from j 5 (by kernel_rfl));obtain⟨_,_,_,g⟩:=E3.box p Y.out Da.out;have Q:=cbn g;go_simp;exact hK _ _ ⟨undef,(),rfl,(E3.put Y.out (by omega) ⟨_,_,_,g⟩ h).1,Y.out,(E3.put (B:=d.heap.size) Y.out (by omega) ⟨_,_,_,g⟩ h).2⟩)
    · (have h:InT w (fun b=> d.heap.size<=b/\b∉R) (T (d.heap.size+1+1+1)) (a.eval (.tmp 36)):=j5 14 36 (by kernel_rfl);obtain⟨_,_,_,_,_,D⟩:=h.three;rw[D] at h;have f:=S4 D;have fr:=S4 (show a.eval (.tmp 6)= .pointer (some ⟨d.heap.size+1+1+1,0,none⟩) from j 6 (by kernel_rfl));obtain⟨_,_,_,g⟩:=E3.box p I9.out qy.out;have Q:=cbn g;go_simp;exact hK _ _ ⟨undef,(),rfl,(E3.put I9.out (by omega) ⟨_,_,_,g⟩ h).1,I9.out,(E3.put (B:=d.heap.size) I9.out (by omega) ⟨_,_,_,g⟩ h).2⟩)
   case fi=>
    intro v H p hG;obtain⟨-,a0,b0,c0,hb0,Jq⟩:_/\Ub d.heap.size R H (d.heap.size+1) (T (d.heap.size+1)):=hG 15 (by decide) (by kernel_rfl);obtain⟨-,a1,b1,c1,hb1,Ka⟩:_/\Ub d.heap.size R H (d.heap.size+1+1) (T (d.heap.size+1+1)):=hG 16 (by decide) (by kernel_rfl);obtain⟨-,a2,b2,c2,hb2,J0⟩:_/\Ub d.heap.size R H (d.heap.size+1+1+1) (T (d.heap.size+1+1+1)):=hG 17 (by decide) (by kernel_rfl);clear hG;simp only[List.foldl,Ord.dstOf,eM,dV,dP,Option.bind_some,Act.put,aT,bM,bL];refine W2 [18] 0 (by kernel_rfl) ((xr x).drew.offR.trans p.1) (fun _ _ _ _ _ h=> h) ?_;refine tk rfl (by rfl) (by intro w X;go_simp;(try with_reducible rfl)) ?_
    try simp only[I3]
    refine bP (by kernel_rfl) ?_ _;have R0:=cbn hb0;have R1:=cbn hb1;have R2:=cbn hb2;go_wp2_with fail;refine aO (v:= .tuple #[.agg #[a0,b0,c0],.agg #[a1,b1,c1],.agg #[a2,b2,c2],.int .i64 0]) (by simp[aQ,results13,go_sem,R0,R1,R2]) rfl ⟨_,_,_,rfl, ?_, ?_, ?_, ?_⟩
    · rw[qg];exact T0▸InT.mono (fun b g=> g.1) (fun _ _=> rfl) Jq
    · rw[qg];exact T1▸InT.mono (fun b g=> g.1) (fun _ _=> rfl) Ka
    · rw[qg];exact T2▸InT.mono (fun b g=> g.1) (fun _ _=> rfl) J0
    · exact Below.trans (e1.trans (((m).trans C))).drew p.2.1
theorem cI(f:Nat)(G:List Tr)(A:Option Addr)(ca:Nat)(g:World)(hG:q24 g A G)(J5:G.length<=ca)(hcm:ca<=maxLen)(hA:A=none->ca=0)(t:Tr)(v:Value)(ht:Lies g t v)(r:Tr×Int)(h:V0 (Yj f G t) 10=some r):Calls prog 14 #[.slice A G.length ca,v] g (QI g r):=by
 have HI:=hdq (fun W (hW:Ext g W) N hN q hq=> DJ f G A ca W (hG.ext hW) J5 hcm hA t v (ht.ext hW) N hN q hq);have HH:=hdq h;obtain⟨k,n,ks⟩:=t;obtain⟨At,ct,rfl,-⟩:=Lies.mk_iff.1 ht;clear ht hG;go_enter func14,ntmps14;go_wp2_with fail;generalize L:aN (aN (aN (aN g _) _) _) _=w1;obtain⟨bt,F,I,E,O,V⟩:=jB L.symm;clear L;have Q:=cb3 bt;obtain⟨R,hR⟩: ∃R,R= [g.heap.size+1,g.heap.size+1+1,g.heap.size+1+1+1]:=⟨_,rfl⟩;have hN: ∀b,w1.heap.size<=b->b∉R:=by
  intro b j h;rw[hR] at h;simp only[fY,fW,or_false] at h;omega
 obtain⟨s,c,H1,H2,H3⟩:=k8 HH.out;refine(HI.out _ V _ hN _ H1.out).mono ?_;rintro e w2 ⟨u,rfl,hT,D⟩;obtain⟨_,_,_,_,_,rfl⟩:=hT.three;simp only;obtain⟨M,t⟩ |rfl:=cz c
 · obtain rfl:=H3.out M.out
   have r0:=cbn (D.blk F);have s0:=fun o=> cbn ((D.alloc o).blk F)
   have r1:=cbn (D.blk I);have O:=fun o=> cbn ((D.alloc o).blk I)
   have r2:=cbn (D.blk E);have s2:=fun o=> cbn ((D.alloc o).blk E)
   go_wp2_with fail;refine aO (v:= .tuple #[.agg #[.int .i64 0,.int .i64 0,.slice none 0 0],.agg #[.int .i64 0,.int .i64 0,.slice none 0 0],.agg #[.int .i64 0,.int .i64 0,.slice none 0 0],.int .i64 c]) (by simp[aQ,results14,go_sem,r0,r1,r2,s0,O,s2]) rfl ⟨_,_,_,rfl, ?_, ?_, ?_, ?_⟩
   iterate 3 (rw[vp (M.out)];exact F5 _ _ 0 0)
   exact((((V.trans D).alloc _).set3 (by omega) _ _ _).set3 (by omega) _ _ _).set3 (by omega) _ _ _
 obtain⟨kx,nx,J,d,G1,G2,G3,G4⟩:=Zn (Option.some.inj (H2.out rfl));clear H1 H2 H3;go_wp2_with fail;generalize L:aN w2 _=w3;obtain⟨bq,x⟩:=nb L;clear L;refine(Qj G1.out _ _ (fun b j=> hN b (bK (D.trans x).size j)) _ (hT.later x).lies').mono ?_;rintro e w4 ⟨A1,c1,rfl,J0,-,e4⟩;have X:=(D.trans x).trans e4;clear hT bq;simp only;obtain⟨M,t⟩ |rfl:=cz d
 · obtain rfl:=G2.out M.out
   have r0:=cbn (X.blk F);have s0:=fun o=> cbn ((X.alloc o).blk F)
   have r1:=cbn (X.blk I);have O:=fun o=> cbn ((X.alloc o).blk I)
   have r2:=cbn (X.blk E);have s2:=fun o=> cbn ((X.alloc o).blk E)
   go_wp2_with fail;refine aO (v:= .tuple #[.agg #[.int .i64 0,.int .i64 0,.slice none 0 0],.agg #[.int .i64 0,.int .i64 0,.slice none 0 0],.agg #[.int .i64 0,.int .i64 0,.slice none 0 0],.int .i64 d]) (by simp[aQ,results14,go_sem,r0,r1,r2,s0,O,s2]) rfl ⟨_,_,_,rfl, ?_, ?_, ?_, ?_⟩
   iterate 3 (rw[vp (M.out)];exact F5 _ _ 0 0)
   exact((((V.trans X).alloc _).set3 (by omega) _ _ _).set3 (by omega) _ _ _).set3 (by omega) _ _ _
 obtain⟨M,t⟩ |rfl:=czk kx 10
 · obtain rfl:=G3.out (by trivial) M.out
   have r0:=cbn (X.blk F);have s0:=fun o=> cbn ((X.alloc o).blk F)
   have r1:=cbn (X.blk I);have O:=fun o=> cbn ((X.alloc o).blk I)
   have r2:=cbn (X.blk E);have s2:=fun o=> cbn ((X.alloc o).blk E)
   go_wp2_with fail;refine aO (v:= .tuple #[.agg #[.int .i64 0,.int .i64 0,.slice none 0 0],.agg #[.int .i64 0,.int .i64 0,.slice none 0 0],.agg #[.int .i64 0,.int .i64 0,.slice none 0 0],.int .i64 1]) (by simp[aQ,results14,go_sem,r0,r1,r2,s0,O,s2]) rfl ⟨_,_,_,rfl, ?_, ?_, ?_, ?_⟩
   iterate 3 (rw[vp (by decide)];exact F5 _ _ 0 0)
   exact((((V.trans X).alloc _).set3 (by omega) _ _ _).set3 (by omega) _ _ _).set3 (by omega) _ _ _
 obtain rfl:=G4.out (by trivial) (by trivial);clear G1 G2 G3 G4;obtain⟨hk,Y2,hv⟩:=Yk HH.out;obtain⟨Af,cf,he,Hg,Jd,hK⟩:=InT.mk_iff.1 J0;simp only[Value.agg.injEq] at he;cases he
 clear J0;simp only[Tr.kids] at Y2;have Y2:J.length=3:=by have:O0 10=3:=rfl;omega
 have ze:=hdq (show cnt (kd J 0)<=1000000 from by have:=(Z3 (Cd hv (i:=0) (by simp only[Tr.kids];omega))).2;simp only[Tr.kids] at this;omega);have Q7:=hdq (show cnt (kd J 1)<=1000000 from by have:=(Z3 (Cd hv (i:=1) (by simp only[Tr.kids];omega))).2;simp only[Tr.kids] at this;omega);have qz:=hdq (show cnt (kd J 2)<=1000000 from by have:=(Z3 (Cd hv (i:=2) (by simp only[Tr.kids];omega))).2;simp only[Tr.kids] at this;omega);obtain⟨b,o,rfl,j,⟨O3,N6,O6,O7,O9,K0⟩,⟨ax,Y7,Y6,Z2,aa,K1⟩,mh,ma,ml,mg,mj,K2⟩:=y20 hK Y2;rw[Y2];obtain⟨T,T0,T1,T2⟩: ∃T:Nat->Tr,T (g.heap.size+1)=kd J 0/\T (g.heap.size+1+1)=kd J 1/\T (g.heap.size+1+1+1)=kd J 2:=⟨fun r=> kd J (r -(g.heap.size+1)),by simp,by simp[show g.heap.size+1+1 -(g.heap.size+1)=1 by omega],by simp[show g.heap.size+1+1+1 -(g.heap.size+1)=2 by omega]⟩;rw[<-T0] at K0 ze;rw[<-T1] at K1 Q7;rw[<-T2] at K2 qz;go_wp2_with fail;generalize L:aN w4 _=y;obtain⟨bf,x⟩:=nb L;have hs:=(X).size;have FZ:=hdq (fun w (X:n9 R y w)=>(⟨X.cell (cb3 bf).1 (hN _ hs),X.cell (cb3 bf).2.1 (hN _ hs),X.cell (cb3 bf).2.2.1 (hN _ hs),KA.offR K0 j (x.offR.trans X),KA.offR K1 j (x.offR.trans X),KA.offR K2 j (x.offR.trans X)⟩:_/\_/\_/\_/\_/\_));have nl:=hdq (show g.heap.size+1∈R by rw[hR];simp);have Hl:=hdq (⟨_,_,_,((X).trans x).drew.blk F⟩: ∃a b c,y.drew.heap[g.heap.size+1]? =some (.cells #[a,b,c] 25 (0,0)));have oz:=hdq (show g.heap.size+1+1∈R by rw[hR];simp);have Da:=hdq (⟨_,_,_,((X).trans x).drew.blk I⟩: ∃a b c,y.drew.heap[g.heap.size+1+1]? =some (.cells #[a,b,c] 25 (0,0)));have I9:=hdq (show g.heap.size+1+1+1∈R by rw[hR];simp);have qy:=hdq (⟨_,_,_,((X).trans x).drew.blk E⟩: ∃a b c,y.drew.heap[g.heap.size+1+1+1]? =some (.cells #[a,b,c] 25 (0,0)));have P:=hdq (show∀r,r∈R->r < y.drew.heap.size from fun r hr=> Nat.lt_of_not_le fun h=> hN r (bK ((X).trans x).drew.size h) hr);have Y:=hdq (show g.heap.size<=y.heap.size from(V.trans ((X).trans x)).size);clear j K0 K1 K2 bf L hK hv hk HH HI hN F I E hs Y2 Hg Jd;refine gQ (S:=fun w=> n9 R y w) (by kernel_rfl) (xr y).drew.offR (fun _=> ?_);refine W2 [0,1,2,3,5,6,7,8,10,11,12,13] 7 (by kernel_rfl) (xr y).drew.offR (fun _ _ _ _ _ h=> h) ?_
 iterate 12 (refine tk rfl (by rfl) (by intro w X;have Q:=FZ.out _ X;go_simp;(try with_reducible rfl)) ?_;try simp only[I3])
 refine NB (S:=fun w=> n9 R y w) g.heap.size R T 18 56 #[true,true,true,true,true,true,true,true,true,true,true,true,true,true,true,true,true,true,false] 1 [S3.any,S3.any,S3.any,S3.any,S3.tree (T (g.heap.size+1)),S3.any,S3.any,S3.any,S3.any,S3.tree (T (g.heap.size+1+1)),S3.any,S3.any,S3.any,S3.any,S3.tree (T (g.heap.size+1+1+1)),S3.put (g.heap.size+1),S3.put (g.heap.size+1+1),S3.put (g.heap.size+1+1+1)] [4,9,14,15,16,17] (fun w h=>(xr y).drew.offR.trans h) (by kernel_rfl) rfl ?st ?fi
 case st=>
  repeat' first|exact trivial|refine And.intro ⟨_,rfl, ?_⟩ ?_
  all_goals(intro a w z p m j5;refine Ord.step_of rfl rfl ?_;intro K hK;have X:=(xr y).drew.offR.trans p.1)
  · (have f:=S4 (show a.eval (.tmp 44)= .agg #[.int .i64 O3,.int .i64 N6,.slice O6 O7 O9] from m 44 (by kernel_rfl));have Q:=FZ.out _ X;go_simp;go_at_call 46;refine(Yg _ w _ Q.2.2.2.1.l ze.out).mono ?_;rintro e U ⟨u,rfl,Z,e'⟩;exact hK _ _ ⟨_,(),rfl,E3.ext (p.lt P.out) (bK Y.out X.1) e',(Z.at' (fun b j=>⟨bK (bK Y.out X.1) j,fun C=> absurd (p.lt P.out b C) (Nat.not_lt.2 j)⟩):InT _ _ _ _)⟩)
  · (have f:=S4 (show a.eval (.tmp 49)= .agg #[.int .i64 ax,.int .i64 Y7,.slice Y6 Z2 aa] from m 49 (by kernel_rfl));have Q:=FZ.out _ X;go_simp;go_at_call 46;refine(Yg _ w _ Q.2.2.2.2.1.l Q7.out).mono ?_;rintro e U ⟨u,rfl,Z,e'⟩;exact hK _ _ ⟨_,(),rfl,E3.ext (p.lt P.out) (bK Y.out X.1) e',(Z.at' (fun b j=>⟨bK (bK Y.out X.1) j,fun C=> absurd (p.lt P.out b C) (Nat.not_lt.2 j)⟩):InT _ _ _ _)⟩)
  · (have f:=S4 (show a.eval (.tmp 54)= .agg #[.int .i64 mh,.int .i64 ma,.slice ml mg mj] from m 54 (by kernel_rfl));have Q:=FZ.out _ X;go_simp;go_at_call 46;refine(Yg _ w _ Q.2.2.2.2.2.l qz.out).mono ?_;rintro e U ⟨u,rfl,Z,e'⟩;exact hK _ _ ⟨_,(),rfl,E3.ext (p.lt P.out) (bK Y.out X.1) e',(Z.at' (fun b j=>⟨bK (bK Y.out X.1) j,fun C=> absurd (p.lt P.out b C) (Nat.not_lt.2 j)⟩):InT _ _ _ _)⟩)
  · (have h:InT w (fun b=> g.heap.size<=b/\b∉R) (T (g.heap.size+1)) (a.eval (.tmp 45)):=j5 4 45 (by kernel_rfl);obtain⟨_,_,_,_,_,H⟩:=h.three;rw[H] at h;have f:=S4 H;have fr:=S4 (show a.eval (.tmp 4)= .pointer (some ⟨g.heap.size+1,0,none⟩) from m 4 (by kernel_rfl));obtain⟨_,_,_,j⟩:=E3.box p nl.out Hl.out;have Q:=cbn j;go_simp;exact hK _ _ ⟨undef,(),rfl,(E3.put nl.out (by omega) ⟨_,_,_,j⟩ h).1,nl.out,(E3.put (B:=g.heap.size) nl.out (by omega) ⟨_,_,_,j⟩ h).2⟩)
  · (have h:InT w (fun b=> g.heap.size<=b/\b∉R) (T (g.heap.size+1+1)) (a.eval (.tmp 50)):=j5 9 50 (by kernel_rfl);obtain⟨_,_,_,_,_,H⟩:=h.three;rw[H] at h;have f:=S4 H;have fr:=S4 (show a.eval (.tmp 5)= .pointer (some ⟨g.heap.size+1+1,0,none⟩) from m 5 (by kernel_rfl));obtain⟨_,_,_,j⟩:=E3.box p oz.out Da.out;have Q:=cbn j;go_simp;exact hK _ _ ⟨undef,(),rfl,(E3.put oz.out (by omega) ⟨_,_,_,j⟩ h).1,oz.out,(E3.put (B:=g.heap.size) oz.out (by omega) ⟨_,_,_,j⟩ h).2⟩)
  · (have h:InT w (fun b=> g.heap.size<=b/\b∉R) (T (g.heap.size+1+1+1)) (a.eval (.tmp 55)):=j5 14 55 (by kernel_rfl);obtain⟨_,_,_,_,_,H⟩:=h.three;rw[H] at h;have f:=S4 H;have fr:=S4 (show a.eval (.tmp 6)= .pointer (some ⟨g.heap.size+1+1+1,0,none⟩) from m 6 (by kernel_rfl));obtain⟨_,_,_,j⟩:=E3.box p I9.out qy.out;have Q:=cbn j;go_simp;exact hK _ _ ⟨undef,(),rfl,(E3.put I9.out (by omega) ⟨_,_,_,j⟩ h).1,I9.out,(E3.put (B:=g.heap.size) I9.out (by omega) ⟨_,_,_,j⟩ h).2⟩)
 case fi=>
  intro v U p hG;obtain⟨-,a0,b0,c0,hb0,Jq⟩:_/\Ub g.heap.size R U (g.heap.size+1) (T (g.heap.size+1)):=hG 15 (by decide) (by kernel_rfl);obtain⟨-,a1,b1,c1,hb1,Ka⟩:_/\Ub g.heap.size R U (g.heap.size+1+1) (T (g.heap.size+1+1)):=hG 16 (by decide) (by kernel_rfl);obtain⟨-,a2,b2,c2,hb2,J0⟩:_/\Ub g.heap.size R U (g.heap.size+1+1+1) (T (g.heap.size+1+1+1)):=hG 17 (by decide) (by kernel_rfl);clear hG;simp only[List.foldl,Ord.dstOf,eM,dV,dP,Option.bind_some,Act.put,aT,bM,bL];refine W2 [18] 0 (by kernel_rfl) ((xr y).drew.offR.trans p.1) (fun _ _ _ _ _ h=> h) ?_;refine tk rfl (by rfl) (by intro w X;go_simp;(try with_reducible rfl)) ?_
  try simp only[I3]
  refine bP (by kernel_rfl) ?_ _;have R0:=cbn hb0;have R1:=cbn hb1;have R2:=cbn hb2;go_wp2_with fail;refine aO (v:= .tuple #[.agg #[a0,b0,c0],.agg #[a1,b1,c1],.agg #[a2,b2,c2],.int .i64 0]) (by simp[aQ,results14,go_sem,R0,R1,R2]) rfl ⟨_,_,_,rfl, ?_, ?_, ?_, ?_⟩
  · rw[qg];exact T0▸InT.mono (fun b j=> j.1) (fun _ _=> rfl) Jq
  · rw[qg];exact T1▸InT.mono (fun b j=> j.1) (fun _ _=> rfl) Ka
  · rw[qg];exact T2▸InT.mono (fun b j=> j.1) (fun _ _=> rfl) J0
  · exact Below.trans (V.trans (((X).trans x))).drew p.2.1
end Go.Proofs.YtckhbnmfnpolgaaGreat
namespace Go.Proofs.YtckhbnmfnpolgaaGreat
open Go.RowKit
open M (Hd HR Cv Ty M2 zc y6 W4 dep DG fvb)
inductive ad:List M.Tm->M.Tm->Prop where
 |num {n a}:n<=2->NC n a->ad (gO n .nat) a
 |txt {G l a}:(G,l)∈txts->a∈l->ad G a
 |rfl {a}:NC 1 a->ad [.nat] (.refl a)
theorem NG.rep(n:Nat):NG n (gO n .nat):=fun i hi=> by
 unfold M.lk;rw[List.getElem?_replicate,if_pos hi]
 rfl
theorem ad.ok{G:List M.Tm}{a:M.Tm}(h:ad G a):SG a/\DG G 3/\(X6 G->j0 m0 (enc a)=true->ke G a):=by
 cases h with
 |num hn h=> exact⟨h.sg,fun A hA=> by rw[kL hA];decide,fun hG hv=> h.side (NG.rep _) hG hv⟩
 |txt h b=>
  obtain⟨d,e,c,-⟩:=Kv h b;exact⟨d,c,fun _ _=> e⟩
 |rfl h=> exact⟨h.sg,fun A hA=> by rw[List.mem_singleton.1 hA];decide,fun _ _=> trivial⟩
theorem V4.ccRS{f a:Nat}(h:f<=a): ∀ts done:List Tr,V4 (ccRS f done ts) (ccRS a done ts)
 | [],_=> V4.rfl' _
 |t::ts,done=>((Zj h done t).frm 2).thn fun _=> V4.ccRS h ts _
theorem Xy{f:Nat}: ∀(ts:List Tr) (G:List M.Tm) (u:Tr),X6 G->(∀t∈ts,j0 m0 t=true)->ccRS f (ctxE G) ts=some (u,0)-> ∃D,ctxE D=ctxE G++ts/\X6 D
 | [],G,u,hG,hv,h=>⟨G,by simp,hG⟩
 |t::ts,G,u,hG,hv,h=> by
  obtain⟨s,a,c⟩:=v9 h;obtain⟨A,rfl⟩:=Zk (hv t (by simp));obtain⟨d,a⟩:=Og hG (hv _ (by simp)) a;obtain⟨S,i,-,-,-,-,b,-⟩:=Ld (snd d) hG (hv _ (by simp)) a;rw[<-md] at c;obtain⟨D,g,e⟩:=Xy ts (A::G) u (hG.cons b (hv _ (by simp))) (fun x hx=> hv x (by simp[hx])) c;exact⟨D,by rw[g,md];simp,e⟩
theorem uz: ∀(ts:List Tr) (G:List M.Tm),X6 G->(∀t∈ts,j0 m0 t=true)-> ∃f,Is (ccRS f (ctxE G) ts)
 | [],G,hG,hv=>⟨0,Is.mk _⟩
 |t::ts,G,hG,hv=> by
  have v:=hv t (by simp);obtain⟨A,rfl⟩:=Zk v;obtain⟨a,c⟩:=(rx 21 G (by omega) hG A v).at;by_cases g: ∃f s,V0 (M0 f (ctxE G) (enc A)) 2=some (s,0)
  · obtain⟨d,l,hs⟩:=g
    obtain⟨d,hs⟩:=Og hG v hs;obtain⟨S,i,-,-,-,-,b,-⟩:=Ld (snd d) hG v hs;obtain⟨k,j⟩:=uz ts (A::G) (hG.cons b v) (fun x hx=> hv x (by simp[hx]));refine⟨a+k,((c _ (by omega)).frm 2).thn fun s _=> ?_⟩;rw[<-md];exact j.le (V4.ccRS (by omega) _ _)
  · exact⟨a,((c _ (aM _)).frm 2).thn fun s e=> absurd ⟨a,s,e⟩ g⟩
theorem sH(ctx:List Tr)(t:Tr): ∃f,Is (Yj f ctx t):=by
 unfold Yj;by_cases hf:Xb ctx=false\/j0 m0 t=false
 · exact⟨0,by rw[if_pos hf];exact Is.mk _⟩
 · have b:Xb ctx=true:=by
    cases h:Xb ctx with
    |true=> rfl
    |false=> exact absurd (.inl h) hf
   have g:j0 m0 t=true:=by
    cases h:j0 m0 t with
    |true=> rfl
    |false=> exact absurd (.inr h) hf
   have n: ∀f,Ft f ctx=ccRS f (ctxE []) ctx:=fun f=> by unfold Ft;rw[if_pos b];rfl
   obtain⟨c,d⟩:=uz ctx [] X6.nil (mv b).2;simp only[if_neg hf,n];by_cases i: ∃f s,ccRS f (ctxE []) ctx=some (s,0)
   · obtain⟨p,j,hs⟩:=i
     obtain⟨D,m,k⟩:=Xy ctx [] j X6.nil (mv b).2 hs;obtain rfl:ctx=ctxE D:=by rw[m];simp[ctxE]
     obtain⟨a,rfl⟩:=Zk g;obtain⟨o,l⟩:=(rx 21 D (by omega) k a g).at;exact⟨c+o,(d.le (V4.ccRS (by omega) _ _)).thn fun s _=>(l _ (by omega)).thn fun _ _=> Is.mk _⟩
   · exact⟨c,d.thn fun s e=> absurd ⟨c,s,e⟩ i⟩
theorem eH{ctx:List Tr}{t:Tr}(hs:SD ctx)(hd: ∀G a,ctx=ctxE G->t=enc a->X6 G->j0 m0 t=true->Dr G a): ∃f b r,V0 (Yj f ctx t) 10=some r/\V0 (Uf b ctx t) 10=some r:=by
 obtain⟨f,i⟩:=sH ctx t;obtain⟨b,k⟩:=PG ctx t;obtain⟨⟨s,c⟩,d⟩:=i.frm 10;obtain⟨⟨g,j⟩,e⟩:=(k b (aM _)).frm 10;rcases((q245 (f:=f) (f':=b) hs hd).frm 10) s c g j d e with⟨rfl,rfl⟩ |⟨h,-⟩
 · exact⟨f,b,_,d,e⟩
 · exact h.elim
end Go.Proofs.YtckhbnmfnpolgaaGreat
namespace Go.Proofs.YtckhbnmfnpolgaaGreat
open Go Go.RowKit
attribute [local go_sem ↓] Go.wp_at_zero Go.wp_at_succ
def BQ(b:List Tr)(t:Tr):Prop:= ∃G a,b=ctxE G/\t=enc a/\ad G a/\j0 m0 t=true/\b.length<=5/\ ∀x∈b,cnt x<=400
theorem BQ.num{j D C:Nat}{t:Tr}(b:j<=2)(h:NQ j D C t)(v:j0 m0 t=true):BQ (gO j (.mk 6 0 [])) t:=by
 obtain⟨a,rfl,c,-⟩:=h;exact⟨gO j .nat,a,by simp[ctxE,enc],rfl,.num b c,v,by simp;omega,fun x hx=> by rw[kL hx];decide⟩
theorem BQ.txt{c b:List (List UInt8)}{q:List M.Tm×List M.Tm}{i:Nat}(f:q∈txts)(e:Za c=ctxE q.1)(d:Za b=q.2.map enc)(hx:(Za c).length<=5)(hi:i <(Za b).length):BQ (Za c) (kd (Za b) i):=by
 have hv:j0 m0 (kd (Za b) i)=true:=AF (by unfold kd;rw[dL,bV hi];exact gL hi);have a:i < q.2.length:=by rw[d] at hi;simpa using hi
 refine⟨q.1,q.2[i],e, ?_,.txt f (gL a),hv,hx,fun x h=>(Z3 (AF h)).2⟩;unfold kd;rw[d,dL,List.getElem?_map,bV a]
 rfl
theorem QG(f:World)(g m:Nat)(hR:Rd f g m)(hm:m < 700000):Calls prog 66 #[.pointer (some ⟨g,0,none⟩)] f (CQ f g (m+3000) BQ):=by
 have d:=hdq hR.lt;go_enter func66,ntmps66;go_wp2_with fail;generalize hw:aN f _=w1;obtain⟨br,e⟩:=nb hw;have Z:=(St.of hR e).id;have Y:X0 [g] f w1:=oE e;clear hw e hR;refine(Pf _ g _ 2 Z.2 (by omega)).mono ?_;rintro e w2 ⟨x,rfl,n,hx1,R,o⟩;replace Z:=Z.tr o R;clear o R;obtain⟨HC,t⟩ |rfl:=cz x
 rotate_left
 · go_wp2_with fail
   refine(numD [0,1,2,0] rfl rfl Z.2 (by omega)).mono ?_;rintro e H ⟨nn,rfl,mn,o,R⟩;replace Z:=Z.tr o R;clear o R;obtain⟨N,rfl⟩:=cV (show 0<=nn by simp at mn;omega);have hN:N<=2:=by simp at mn;omega
   clear mn;go_wp2_with fail;have gv:=xb.lit (xr H);have n:=(xr H).alloc (.cells #[] 25);generalize aN H _=wq at gv n⊢
   go_loopw [5,6] (fun vo i wr=> ∃(v:Value) (j:Nat),v=vo/\j<=N/\i= .int .i64 j/\xb H wr v (gO j (.mk 6 0 []))/\Ext H wr) (fun _ i _=> N -(intOf i).toNat)
   case atStart=> exact⟨_,0,rfl,Nat.zero_le _,rfl,gv,n⟩
   case round=>
    obtain⟨v,j,rfl,G,rfl,hG,hx⟩:=hrel;clear gv n;by_cases hlt:j < N
    · have uv:(j:Int) <(N:Int):=by omega
      go_wp2_with fail;refine(y15 _ 6 0).mono ?_;rintro e w5 ⟨rfl,e5⟩;have e6:=e5.alloc (.cells #[.int .i64 6,.int .i64 0,.slice none 0 0] 25);have ae:=heap_alloc_new w5 (.cells #[.int .i64 6,.int .i64 0,.slice none 0 0] 25);have zn:=hx.trans e6;go_wp2_with (at_builtin;refine mH (tr:= .mk 6 0 []) (.tmp 23) (.tmp 25) hG e6 hx (j2.leaf _ _ 6 0) (by simp;omega) rfl rfl rfl rfl ae ?_)
      intro A c w7 xc hB7;rw[<-List.replicate_succ'] at xc;go_wp2_with fail
      go_roundw
      case rel=> exact⟨_,j+1,rfl,by omega,by go_num,xc,Below.trans zn hB7⟩
      case measure=> simp[intOf];omega
    obtain rfl:j=N:=by omega
    obtain⟨A,c,rfl,q1,B,I,K⟩:=hG.row;rw[List.length_replicate] at q1⊢;replace K:InK wr (fun b=> f.heap.size < b) A _:=InK.mono (fun b k=> Z.news br b k.1) (fun _ _=> rfl) K;replace Z:=Z.up hx;clear hG hx hlt;go_wp2_with fail;refine(numD [3,2,4,1] rfl rfl Z.2 (by omega)).mono ?_;rintro e w4 ⟨kk,rfl,yv,o,R⟩;replace Z:=Z.tr o R;replace K:=K.dl o (La (by have:=d.out;omega));clear o R;have hk4: -3<=kk/\kk<=4:=by simp at yv;omega
    clear yv;go_wp2_with fail;refine(Zp _ g _ j (j:Int) kk Z.2 (by omega) rfl (by omega) (by omega) (by omega)).mono ?_;intro e w5 h;obtain⟨ta,ua,va,Aa,la,ca,rfl,Pa,a,o,Z⟩:=h.at Z br;replace K:=K.dl o (La (by have:=d.out;omega));clear o;go_wp2_with fail;generalize hw:aN w5 _=w6;obtain⟨bq,e⟩:=nb hw;have F:=hdq (Xl (r:=f.heap.size) (g:=g) bq (by have:=O1 br;have:=Z.1.size;omega) (by have:=O1 br;have:=d.out;have:=Z.1.size;omega));replace br:=e.blk (Z.br br (by have:=d.out;omega));replace Y:=Y.trans (Z.up e).1;replace Z:=(Z.up e).id;replace K:=K.later e;replace a:=a.later e;have Q:=F.out _ Z.off;clear hw bq e;refine(oi ta _ _ a.lies').mono ?_;rintro e w7 ⟨rfl,e⟩;replace Z:=Z.up e;replace K:=K.later e;replace a:=a.later e;replace Q:=F.out _ Z.off;cases hz:j0 m0 ta with
    |true=>
     go_wp2_with fail;refine Vd f.heap.size (by kernel_rfl) Z fun w8 e Z=> ?_
     replace K:=K.later e;replace a:=a.later e;replace Q:=F.out _ Z.off;refine W2 [0,1,2] 1 (by kernel_rfl) Z.off (fun _ _ _ _ _ h=> h) ?_
     iterate 3 (refine tk rfl (by rfl) (by intro w X;have Q:=F.out _ X;go_simp;(try with_reducible rfl)) ?_;try simp only[I3])
     have R:=cbn (Z.br br (by have:=d.out;omega));refine H0 3 (by kernel_rfl) rfl rfl (fun K hK=> ?_)
     go_simp
     refine hK.out _ _ (Z.off.set3 _ _ _) (fun _=> ?_);clear hK K;refine bP (by kernel_rfl) ?_ _;go_wp2_with fail;exact db (by simp[aQ,results66,go_sem,R]) (BQ.num hN Pa hz) (List.length_replicate ..) ⟨q1,B,I⟩ K a Y Z d.out (aM _) (by omega) rfl
    |false=>
     go_wp2_with fail;refine(Pf _ g _ 4 Z.2 (by omega)).mono ?_;rintro e w8 ⟨y,rfl,hy0,hy1,R,o⟩;replace Z:=Z.tr o R;clear o R;replace Q:=F.out _ Z.off;go_wp2_with fail;refine(Wz y _).mono ?_;rintro e w9 ⟨b1,b2,p,rfl,U,S1,J,e⟩;replace Z:=Z.up e;replace Q:=F.out _ Z.off;obtain⟨q,T,r1,r2,n1,n2,S,M,q1,B,I⟩:=Vq p U;have D:=hdq (fun W (E:Ext w9 W)=> Ww p.1 b1 W (S1.ext E) n1 S);have HB:=hdq (fun i hi=> BQ.txt (i:=i) T r1 r2 (by omega) hi);have V:=hdq (Ww p.2 b2 w9 J n2 M);clear S1 J T r1 r2 S M U;generalize p.1.length=P1 at*;generalize p.2.length=P2 at*;generalize Za p.1=C at*;generalize Za p.2=O at*;go_wp2_with fail;have u:=Z.news br;refine(V.out).mono ?_;rintro e W9 ⟨A,c,rfl,hA,K,e⟩;replace Z:=Z.up e;replace Q:=F.out _ Z.off;replace K:InK W9 (fun b=> f.heap.size < b) A O:=InK.mono (fun b k=> u b k.1) (fun _ _=> rfl) K;obtain⟨b,oq,rfl,k,hk⟩:=fd K B;obtain⟨L,P⟩: ∃L,O.length=L:=⟨_,rfl⟩;rw[P] at hk hA B I HB⊢;have HK:=hdq hk;have ic:(0:Int) <(L:Int):=by omega
     have z:=hA.2.1;unfold maxLen at z;have N3:=hA.1;replace br:=Z.br br (by have:=d.out;omega);replace Y:=Y.trans Z.1;replace D:=hdq (fun W E=> D.out W (e.trans E));replace Z:=Z.id;clear hk K hA P V e;go_wp2_with fail;refine Vd f.heap.size (by kernel_rfl) Z fun bh e Z=> ?_
     refine W2 [0,2,3,4,5] 6 (by kernel_rfl) Z.off (fun _ _ _ _ _ h=> h) ?_
     iterate 5 (refine tk rfl (by rfl) (by intro w X;go_simp;(try with_reducible rfl)) ?_;try simp only[I3])
     refine H0 1 (by kernel_rfl) rfl rfl (fun K hK=> ?_)
     go_simp
     replace u:=Z.news br
     go_at_call 98
     refine(D.out _ e).mono ?_;rintro e' im ⟨A6,c6,rfl,h6,l,e⟩;replace l:InK im (fun b=> f.heap.size < b) A6 C:=InK.mono (fun b k=> u b k.1) (fun _ _=> rfl) l;replace Z:=Z.up e;refine hK.out _ _ Z.off (fun _=> ?_);clear hK K;refine H0 6 (by kernel_rfl) rfl rfl (fun K hK=> ?_)
     go_simp
     go_at_call 67
     refine(Pf _ g _ (L:Int) Z.2 (by omega)).mono ?_;rintro e wh ⟨j,rfl,jc,od,R,o⟩;replace Z:=Z.tr o R;replace l:=l.dl o (La (by have:=d.out;omega));clear o R;refine hK.out _ _ Z.off (fun _=> ?_);clear hK K;obtain⟨j,rfl⟩:=cV jc;have G:j < L:=by omega
     have uv:(j:Int) <(L:Int):=by omega
     obtain⟨x1,x2,x3,x4,x5,s⟩:=HK.out j G;rw[Nat.mul_comm] at s;have F:=hdq (s.dw (r:=f.heap.size) (g:=g) k (ab (by have:=d.out;omega)));clear s;refine W2 [7,8,9] 1 (by kernel_rfl) Z.off (fun _ _ _ _ _ h=> h) ?_
     iterate 3 (refine tk rfl (by rfl) (by intro w X;have Q:=F.out _ X;go_simp;(try with_reducible rfl)) ?_;try simp only[I3])
     have R:=cbn (Z.br br (by have:=d.out;omega));refine H0 10 (by kernel_rfl) rfl rfl (fun K hK=> ?_)
     go_simp
     refine hK.out _ _ (Z.off.set3 _ _ _) (fun _=> ?_);clear hK K;refine bP (by kernel_rfl) ?_ _;have Q:=F.out _ Z.off;go_wp2_with fail;exact db (by simp[aQ,results66,go_sem,R]) (HB.out j G) rfl h6 l Q.i Y Z d.out (aM _) (by omega) rfl
 go_wp2_with fail;refine(Pf _ g _ 4 Z.2 (by omega)).mono ?_;rintro e H ⟨y,rfl,hy0,hy1,R,o⟩;replace Z:=Z.tr o R;clear o R;go_wp2_with fail;refine(Wz y _).mono ?_;rintro e w4 ⟨b1,b2,p,rfl,U,S1,J,e⟩;replace Z:=Z.up e;obtain⟨q,T,r1,r2,n1,n2,S,M,q1,B,I⟩:=Vq p U;have D:=hdq (fun W (E:Ext w4 W)=> Ww p.1 b1 W (S1.ext E) n1 S);have HB:=hdq (fun i hi=> BQ.txt (i:=i) T r1 r2 (by omega) hi);have V:=hdq (Ww p.2 b2 w4 J n2 M);clear S1 J T r1 r2 S M U;generalize p.1.length=P1 at*;generalize p.2.length=P2 at*;generalize Za p.1=C at*;generalize Za p.2=O at*;go_wp2_with fail;have u:=Z.news br;refine(V.out).mono ?_;rintro e w5 ⟨A,c,rfl,hA,K,e⟩;replace Z:=Z.up e;replace K:InK w5 (fun b=> f.heap.size < b) A O:=InK.mono (fun b k=> u b k.1) (fun _ _=> rfl) K;obtain⟨b,oq,rfl,k,hk⟩:=fd K B;obtain⟨L,P⟩: ∃L,O.length=L:=⟨_,rfl⟩;rw[P] at hk hA B I HB⊢;have HK:=hdq hk;have ic:(0:Int) <(L:Int):=by omega
 have z:=hA.2.1;unfold maxLen at z;have N3:=hA.1;replace br:=Z.br br (by have:=d.out;omega);replace Y:=Y.trans Z.1;replace D:=hdq (fun W E=> D.out W (e.trans E));replace Z:=Z.id;clear hk K hA P V e;go_wp2_with fail;refine Vd f.heap.size (by kernel_rfl) Z fun w6 e Z=> ?_
 refine W2 [0,2,3,4,5] 6 (by kernel_rfl) Z.off (fun _ _ _ _ _ h=> h) ?_
 iterate 5 (refine tk rfl (by rfl) (by intro w X;go_simp;(try with_reducible rfl)) ?_;try simp only[I3])
 refine H0 1 (by kernel_rfl) rfl rfl (fun K hK=> ?_)
 go_simp
 replace u:=Z.news br
 go_at_call 98
 refine(D.out _ e).mono ?_;rintro e' w7 ⟨A6,c6,rfl,h6,l,e⟩;replace l:InK w7 (fun b=> f.heap.size < b) A6 C:=InK.mono (fun b k=> u b k.1) (fun _ _=> rfl) l;replace Z:=Z.up e;refine hK.out _ _ Z.off (fun _=> ?_);clear hK K;refine H0 6 (by kernel_rfl) rfl rfl (fun K hK=> ?_)
 go_simp
 go_at_call 67
 refine(Pf _ g _ (L:Int) Z.2 (by omega)).mono ?_;rintro e w8 ⟨j,rfl,jc,od,R,o⟩;replace Z:=Z.tr o R;replace l:=l.dl o (La (by have:=d.out;omega));clear o R;refine hK.out _ _ Z.off (fun _=> ?_);clear hK K;obtain⟨j,rfl⟩:=cV jc;have G:j < L:=by omega
 have uv:(j:Int) <(L:Int):=by omega
 obtain⟨x1,x2,x3,x4,x5,s⟩:=HK.out j G;rw[Nat.mul_comm] at s;have F:=hdq (s.dw (r:=f.heap.size) (g:=g) k (ab (by have:=d.out;omega)));clear s;refine W2 [7,8,9] 1 (by kernel_rfl) Z.off (fun _ _ _ _ _ h=> h) ?_
 iterate 3 (refine tk rfl (by rfl) (by intro w X;have Q:=F.out _ X;go_simp;(try with_reducible rfl)) ?_;try simp only[I3])
 have R:=cbn (Z.br br (by have:=d.out;omega));refine H0 10 (by kernel_rfl) rfl rfl (fun K hK=> ?_)
 go_simp
 refine hK.out _ _ (Z.off.set3 _ _ _) (fun _=> ?_);clear hK K;refine bP (by kernel_rfl) ?_ _;have Q:=F.out _ Z.off;go_wp2_with fail;exact db (by simp[aQ,results66,go_sem,R]) (HB.out j G) rfl h6 l Q.i Y Z d.out (aM _) (by omega) rfl
end Go.Proofs.YtckhbnmfnpolgaaGreat
namespace Go.Proofs.YtckhbnmfnpolgaaGreat
open Go.RowKit
open M (Hd HR Cv Ty M2 zc y6 W4 dep DG fvb)
def M1(t a:Tr):Prop:=a=t\/a= .mk 8 0 [t]\/(∃k n,a= .mk k n [])\/ ∃k n b A B,t= .mk k n [A,B]/\a= .mk 5 b [A,B]
theorem M1.sg{a c:M.Tm}(h:M1 (enc a) (enc c))(k:SG a):SG c:=by
 rcases h with h|h|⟨q,n,h⟩ |⟨q,n,e,A,B,b,d⟩
 · rw[be h];exact k
 · cases c <;> simp only[enc,Tr.mk.injEq,List.cons.injEq] at h <;> first|(exact absurd h.1 (by decide)) |skip
   rw[be h.2.2.1];exact k
 · cases c <;> simp only[enc,Tr.mk.injEq] at h <;> first|trivial|(exact absurd h.2.2 (by simp))
 · cases c <;> simp only[enc,Tr.mk.injEq,List.cons.injEq] at d <;> first|(exact absurd d.1 (by decide)) |skip
   rename_i f x
   obtain⟨-,-,rfl,rfl,-⟩:=d;cases a <;> simp only[enc,Tr.mk.injEq,List.cons.injEq,and_true,reduceCtorEq,and_false] at b
   case pi A B=> rw[<-be b.2.2.1,<-be b.2.2.2];exact⟨k.2.1,k.2.2⟩
   case lam A B=> rw[<-be b.2.2.1,<-be b.2.2.2];exact⟨k.2.1,k.2.2⟩
   case sg A B=> rw[<-be b.2.2.1,<-be b.2.2.2];exact⟨k.2.1,k.2.2⟩
   case app A B=> rw[<-be b.2.2.1,<-be b.2.2.2];exact k
theorem cH{t u:M.Tm}{k n:Int}{a:List Tr}{i:Nat}(h:enc t= .mk k n a)(hi:i < a.length):enc (ao t i u)= .mk k n (a.set i (enc u)):=by
 cases t <;> simp only[enc,Tr.mk.injEq] at h <;> obtain⟨rfl,rfl,rfl⟩:=h <;> simp only[List.length_cons,List.length_nil] at hi <;> first|omega|skip
 all_goals(rcases i with _|_|_|_|i <;> first|rfl|omega)
theorem MR.m1{t c:Tr}(h:MR t c)(v:j0 m0 t=true)(j:j0 m0 c=true):M1 t c:=by
 have q:=(Z3 j).1;cases h with
 | @kind k n y a b=>
  have e:O0 y=(a.length:Int):=(Z4 q).1;simp only[fY,fW,or_false] at b;rcases b with rfl|rfl|rfl|rfl|rfl
  · have:O0 0= -1:=rfl
    omega
  · have:O0 17= -1:=rfl
    omega
  · have:O0 1=0:=rfl
    have:a= []:=aZ (by omega);subst this;exact .inr (.inr (.inl ⟨_,_,rfl⟩))
  · have:O0 5=2:=rfl
    match a,(by omega:a.length=2) with
    | [A,B],_=> exact .inr (.inr (.inr ⟨_,_,_,_,_,rfl,rfl⟩))
  · have:O0 6=0:=rfl
    have:a= []:=aZ (by omega);subst this;exact .inr (.inr (.inl ⟨_,_,rfl⟩))
 | @num k n y a b=>
  obtain⟨e,m,g,-⟩:=Z4 q;have e:O0 k=(a.length:Int):=e;have g:y<=Ja k:=g;by_cases hk:a= []
  · subst hk
    exact .inr (.inr (.inl ⟨_,_,rfl⟩))
  · exfalso
    have hl:=List.length_pos_iff.2 hk;have hm:Ja k=0:=by
     unfold Ja;by_cases f:k=1
     · subst f
       have:O0 1=0:=rfl;omega
     · by_cases d:k=2
       · subst d
         have:O0 2=0:=rfl;omega
       · rw[if_neg f,if_neg d]
    simp only[fY,fW,or_false] at b;omega
 | @more k n a=>
  have o:O0 k=(a.length:Int):=(Z4 (Z3 v).1).1;have l:O0 k=((a++ [.mk 7 0 []]:List Tr).length:Int):=(Z4 q).1;simp only[List.length_append,List.length_singleton] at l;omega
 |succ=> exact .inr (.inl rfl)
 | @var k n a hk=>
  exfalso
  have hl:=List.length_pos_iff.2 hk;have:=(Z4 q).2.2.2 (.mk 1 25 []) (List.mem_of_getElem? (i:=0) (by simp[hl]))
  revert this
  decide
 |same=> exact .inl rfl
inductive M5 (G:List M.Tm) (a:M.Tm):List Tr->Tr->Prop where
 |same {t}:M1 (enc a) t->M5 G a (ctxE G) t
 |tail {t}:M1 (enc a) t->M5 G a (ctxE G).tail t
 |last {t u}:(∀A,u=enc A->dep A<=4)->M1 (enc a) t->M5 G a (ctxE G++ [u]) t
 |long {t n}:M1 (enc a) t->M5 G a (ctxE G++gO n (.mk 6 0 [])) t
 |any {t}:(∀A,t=enc A->dep A<=4)->M5 G a (ctxE G) t
 |kid {k n ks i u}:enc a= .mk k n ks->i < ks.length->dep u<=4->M5 G a (ctxE G) (.mk k n (ks.set i (enc u)))
theorem SD.all3: ∀{ts:List Tr},(∀A,enc A∈ts->dep A<=3)-> ∀{us:List Tr},SD us->SD (ts++us)
 | [],_,us,h=> h
 |t::ts,k,us,h=>⟨fun A e=> by have:=k A (by simp[e]);omega,fun _ A e=> k A (by simp[e]),SD.all3 (fun A hA=> k A (by simp[hA])) h⟩
theorem Uo{G:List M.Tm}(h:DG G 3): ∀A,enc A∈ctxE G->dep A<=3:=fun A hA=> by
 unfold ctxE at hA;rw[List.mem_reverse,List.mem_map] at hA;obtain⟨B,a,e⟩:=hA;rw[<-be e];exact h B a
theorem M5.ok{G:List M.Tm}{a:M.Tm}{ctx:List Tr}{t:Tr}(p:ad G a)(h:M5 G a ctx t):SD ctx/\ ∀D b,ctx=ctxE D->t=enc b->X6 D->j0 m0 t=true->j0 m0 (enc a)=true->Dr D b:=by
 obtain⟨l,g,m⟩:=p.ok;have j:=Uo g;have st: ∀{t:Tr} {D:List M.Tm} {b:M.Tm},M1 (enc a) t->t=enc b->Dr D b:=fun k e=> .inl (M1.sg (e▸k) l)
 cases h with
 |same k=> exact⟨SD.of g,fun D b d c f hv _=> st k c⟩
 |tail k=> exact⟨by have:=SD.all3 (ts:=(ctxE G).tail) (fun A hA=> j A (List.mem_of_mem_tail hA)) (us:= []) trivial;simpa using this,fun D b d c f hv _=> st k c⟩
 |last i k=> exact⟨SD.all3 j ⟨fun A e=> i A e,fun q=> absurd rfl q,trivial⟩,fun D b d c f hv _=> st k c⟩
 | @long t n k=>
  refine⟨?_,fun D b d c f hv _=> st k c⟩;have:=SD.all3 (ts:=ctxE G++gO n (.mk 6 0 [])) (fun A hA=> by
   rcases List.mem_append.1 hA with hA|hA
   · exact j A hA
   · have:=kL hA
     rw[be (u:= .nat) this]
     decide) (us:= []) trivial
  simpa using this
 |any i=> exact⟨SD.of g,fun D b d c f hv _=> by cases xt d;exact .inr ⟨g,.inl (i b c)⟩⟩
 |kid e hi i=>
  refine⟨SD.of g,fun D b d c f hv o=> ?_⟩;cases xt d
  rw[<-cH e hi] at c;rw[<-be c];exact .inr ⟨g,.inr ⟨_,_,_,rfl,l,m f o,i⟩⟩
theorem Qk(a:M.Tm):dep a<=dT (enc a):=by
 induction a <;> simp only[dep,enc,dT,gr] <;> omega
theorem MW.m5{G:List M.Tm}{a:M.Tm}{ctx:List Tr}{t:Tr}(h:MW (ctxE G) (enc a) ctx t)(v:j0 m0 (enc a)=true)(c:j0 m0 t=true):M5 G a ctx t:=by
 have d: ∀{u:Tr},dT u<=4-> ∀A,u=enc A->dep A<=4:=fun h A e=> by
  subst e;exact bK (Qk A) h
 cases h with
 |same h=> exact .same (h.m1 v c)
 |tail e h=> subst e;exact .tail (h.m1 v c)
 |last b h=> exact .last (d b.2) (h.m1 v c)
 |long e h=> obtain⟨q,rfl⟩:=e;exact .long (h.m1 v c)
 |any h=> exact .any (d h.2)
 |kid e hi b=>
  obtain⟨u,rfl⟩:=Zk b.1;exact .kid e hi (d b.2 u rfl)
theorem MW.sd{G:List M.Tm}{a:M.Tm}{ctx:List Tr}{t:Tr}(b:ad G a)(v:j0 m0 (enc a)=true)(h:MW (ctxE G) (enc a) ctx t):SD ctx:=by
 have d: ∀{u:Tr},dT u<=4-> ∀A,u=enc A->dep A<=4:=fun h A e=> by
  subst e;exact bK (Qk A) h
 cases h with
 |same h=> exact(M5.ok b (.same (.inl rfl))).1
 |tail e h=> subst e;exact(M5.ok b (.tail (.inl rfl))).1
 |last c h=> exact(M5.ok b (.last (d c.2) (.inl rfl))).1
 |long e h=> obtain⟨q,rfl⟩:=e;exact(M5.ok b (.long (.inl rfl))).1
 |any h=> exact(M5.ok b (.same (.inl rfl))).1
 |kid e hi c=> exact(M5.ok b (.same (.inl rfl))).1
theorem EH{G:List M.Tm}{a:M.Tm}{ctx:List Tr}{t:Tr}(c:ad G a)(v:j0 m0 (enc a)=true)(h:MW (ctxE G) (enc a) ctx t): ∃f e r,V0 (Yj f ctx t) 10=some r/\V0 (Uf e ctx t) 10=some r:=
 eH (h.sd c v) fun D b g i d hv=>(M5.ok c (h.m5 v hv)).2 D b g i d hv v

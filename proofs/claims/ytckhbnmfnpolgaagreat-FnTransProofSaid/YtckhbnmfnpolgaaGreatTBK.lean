/- Lemmas towards the law. -/
import Derived.Test.YtckhbnmfnpolgaaGreatTBJ
open Go renaming wp_at_zero->cT,wp_at_succ->cU,results->aS,bodyPost_ret->aQ,wp_region_held_drew->gX,wpAnyH_done->bO
open Go.World renaming alloc->aO
open List renaming mem_cons->gU,not_mem_nil->gM,getElem?_toArray->dV,getElem?_cons_zero->dR,getElem?_cons_succ->dO,setIfInBounds_toArray->aV,set_cons_zero->bP,set_cons_succ->bN,replicate->iR,eq_of_mem_replicate->lO,getD_eq_getElem?_getD->dW,getElem?_eq_getElem->cR,getElem_mem->iO,eq_nil_of_length_eq_zero->bW
open Nat renaming le_trans->bM,le_refl->aP
open Int renaming eq_ofNat_of_zero_le->dP
open Go.Proofs.Tryz
set_option linter.all false
set_option maxHeartbeats 40000000
set_option maxRecDepth 100000
namespace Go.Proofs.YtckhbnmfnpolgaaGreat
open Go Go.RowKit
attribute [local go_sem ↓] cT cU
theorem SC(f:Nat)(G:List Tr)(A:Option Addr)(ca:Nat)(a:World)(hG:V8 a A G)(x:G.length<=ca)(i:ca<=maxLen)(t:Tr)(v:Value)(ht:Lies a t v)(N:Nat->Prop)(hN: ∀b,a.heap.size<=b->N b)(r:Tr×Int)(h:Q0 (Ra f G t) 10=some r):Calls prog 42 #[.slice A G.length ca,v] a (n9 N a r):=by
 have C:=hdq (fun W (m:Ext a W) N hN q z=> cL f G A ca W (hG.ext m) x i t v (ht.ext m) N hN q z);obtain⟨s,c,p,l,j⟩:=g8 h;obtain⟨k,n,J⟩:=t;obtain⟨At,ct,rfl,-⟩:=Lies.mk_iff.1 ht;clear h ht hG;go_enter func42,ntmps42;go_wp2_with fail;generalize d:aO (aO a _) _=y;obtain⟨g,br,S⟩:=sn2 d.symm hN;have F:=hdq (S);have X:=xr y;have Q:=F.out _ X.off;clear S hN d;refine(C.out _ (g.trans X) _ Q.1 _ p.out).mono ?_;rintro e D ⟨u,rfl,hT,e⟩;replace X:=X.trans e;replace Q:=F.out _ X.off;obtain⟨_,_,_,_,_,rfl⟩:=hT.three;simp only;obtain⟨E,t⟩ |rfl:=cz c
 · have R:=cbn (X.blk br)
   have B:=fun o=> cbn ((X.alloc o).blk br)
   go_wp2_with fail;exact v9 (by simp[aS,results42,go_sem,R,B]) (j.out E.out) (((g.trans X).alloc _).set3 (Nat.le_succ _) _ _ _) rfl
 have HR:=hdq (Option.some.inj (l.out rfl));clear p l j;go_wp2_with fail;generalize d:aO D _=H;obtain⟨w,e⟩:=nb d;replace F:=hdq (both (rb F.out (X.trans e)) (both (k8 w (X.ne br)) (hT.up e)));replace X:=X.trans e;replace br:=X.blk br;replace g:=g.trans X;replace X:=xr H;replace Q:=F.out _ X.off;clear d w e;clear hT;refine(NE s 10 _ _ Q.1.1 _ Q.2.2.lies').mono ?_;rintro e I ⟨u,rfl,hT,e⟩;replace X:=X.trans e;replace Q:=F.out _ X.off;obtain⟨_,_,_,_,_,rfl⟩:=hT.three;rw[HR.out] at hT⊢;have R:=cbn (X.blk br);go_wp2_with fail;exact L7 (by simp[aS,results42,go_sem,R]) (hT) (Od rfl) (g.trans X) (Nat.le_succ _) rfl
theorem ME(f:Nat)(G:List Tr)(A:Option Addr)(ca:Nat)(d:World)(hG:V8 d A G)(F8:G.length<=ca)(hcm:ca<=maxLen)(t:Tr)(v:Value)(ht:Lies d t v)(r:Tr×Int)(h:Q0 (Ra f G t) 10=some r):Calls prog 13 #[.slice A G.length ca,v] d (YK d r):=by
 have HI:=hdq (fun W (hW:Ext d W) N hN q hq=> SC f G A ca W (hG.ext hW) F8 hcm t v (ht.ext hW) N hN q hq);have HH:=hdq h;obtain⟨k,n,ks⟩:=t;obtain⟨At,ct,rfl,-⟩:=Lies.mk_iff.1 ht;clear ht hG;go_enter func13,ntmps13;go_wp2_with fail;generalize M:aO (aO (aO (aO d _) _) _) _=w1;obtain⟨bt,er,jg,jh,s1,V⟩:=TD M.symm;clear M;have Q:=cb3 bt;obtain⟨R,U⟩: ∃R,R= [d.heap.size+1,d.heap.size+1+1,d.heap.size+1+1+1]:=⟨_,rfl⟩;have hN: ∀b,w1.heap.size<=b->b∉R:=by
  intro b g h;rw[U] at h;simp only[gU,gM,or_false] at h;omega
 refine(HI.out _ V _ hN _ h).mono ?_;rintro e w2 ⟨u,rfl,hT,m⟩;obtain⟨_,_,_,_,_,rfl⟩:=hT.three;obtain⟨s,c⟩:=r;simp only at hT⊢;obtain⟨HC,t⟩ |rfl:=cz c
 · have r0:=cbn (m.blk er)
   have s0:=fun o=> cbn ((m.alloc o).blk er)
   have r1:=cbn (m.blk jg);have s1:=fun o=> cbn ((m.alloc o).blk jg)
   have r2:=cbn (m.blk jh);have s2:=fun o=> cbn ((m.alloc o).blk jh)
   go_wp2_with fail;refine aQ (v:= .tuple #[m0 0 0 none 0 0,m0 0 0 none 0 0,m0 0 0 none 0 0,j0 c]) (by simp[aS,results13,go_sem,r0,r1,r2,s0,s1,s2]) rfl ⟨_,_,_,rfl, ?_, ?_, ?_, ?_⟩
   iterate 3 (rw[So (HC.out)];exact Z5 _ _ 0 0)
   exact((((V.trans m).alloc _).set3 (by omega) _ _ _).set3 (by omega) _ _ _).set3 (by omega) _ _ _
 · obtain⟨hk,L,hv⟩:=vi HH.out
   obtain⟨ks,kn,C⟩:=s;obtain⟨Af,cf,he,Lz,Lk,hK⟩:=InT.mk_iff.1 hT;simp only[Value.agg.injEq] at he;cases he
   clear hT;simp only[Tr.kids] at L;have L:C.length=3:=by have:S0 10=3:=rfl;omega
   have Ei:=hdq (show cnt (kd C 0)<=1000000 from by have:=(N4 (qd hv (i:=0) (by simp only[Tr.kids];omega))).2;simp only[Tr.kids] at this;omega);have T5:=hdq (show cnt (kd C 1)<=1000000 from by have:=(N4 (qd hv (i:=1) (by simp only[Tr.kids];omega))).2;simp only[Tr.kids] at this;omega);have Ax:=hdq (show cnt (kd C 2)<=1000000 from by have:=(N4 (qd hv (i:=2) (by simp only[Tr.kids];omega))).2;simp only[Tr.kids] at this;omega);obtain⟨b,o,rfl,g,⟨O9,P3,P6,Q5,R6,K0⟩,⟨eh,ax,dv,df,bm,K1⟩,ou,pn,oy,pq,pd,K2⟩:=j19 hK L;rw[L];obtain⟨T,T0,T1,T2⟩: ∃T:Nat->Tr,T (d.heap.size+1)=kd C 0/\T (d.heap.size+1+1)=kd C 1/\T (d.heap.size+1+1+1)=kd C 2:=⟨fun r=> kd C (r -(d.heap.size+1)),by simp,by simp[show d.heap.size+1+1 -(d.heap.size+1)=1 by omega],by simp[show d.heap.size+1+1+1 -(d.heap.size+1)=2 by omega]⟩;rw[<-T0] at K0 Ei;rw[<-T1] at K1 T5;rw[<-T2] at K2 Ax;go_wp2_with fail;generalize M:aO w2 _=p;obtain⟨Y,y⟩:=nb M;have hs:=(m).size;have O:=hdq (fun w (X:m8 R p w)=>(⟨X.cell (cb3 Y).1 (hN _ hs),X.cell (cb3 Y).2.1 (hN _ hs),X.cell (cb3 Y).2.2.1 (hN _ hs),KA.offR K0 g (y.offR.trans X),KA.offR K1 g (y.offR.trans X),KA.offR K2 g (y.offR.trans X)⟩:_/\_/\_/\_/\_/\_));have P:=hdq (show d.heap.size+1∈R by rw[U];simp);have Js:=hdq (⟨_,_,_,((m).trans y).drew.blk er⟩: ∃a b c,p.drew.heap[d.heap.size+1]? =some (.cells #[a,b,c] 25 (0,0)));have Z:=hdq (show d.heap.size+1+1∈R by rw[U];simp);have Ge:=hdq (⟨_,_,_,((m).trans y).drew.blk jg⟩: ∃a b c,p.drew.heap[d.heap.size+1+1]? =some (.cells #[a,b,c] 25 (0,0)));have K8:=hdq (show d.heap.size+1+1+1∈R by rw[U];simp);have yi:=hdq (⟨_,_,_,((m).trans y).drew.blk jh⟩: ∃a b c,p.drew.heap[d.heap.size+1+1+1]? =some (.cells #[a,b,c] 25 (0,0)));have H:=hdq (show∀r,r∈R->r < p.drew.heap.size from fun r hr=> Nat.lt_of_not_le fun h=> hN r (bM ((m).trans y).drew.size h) hr);have E:=hdq (show d.heap.size<=p.heap.size from(V.trans ((m).trans y)).size);clear g K0 K1 K2 Y M hK hv hk HH HI hN er jg jh hs L Lz Lk;refine gX (S:=fun w=> m8 R p w) (by kernel_rfl) (xr p).drew.offR (fun _=> ?_);refine B3 [0,1,2,3,5,6,7,8,10,11,12,13] 7 (by kernel_rfl) (xr p).drew.offR (fun _ _ _ _ _ h=> h) ?_
   iterate 12 (refine tk rfl (by rfl) (by intro w X;have Q:=O.out _ X;go_simp;(try with_reducible rfl)) ?_;try simp only[W2])
   refine FC (S:=fun w=> m8 R p w) d.heap.size R T 18 37 #[true,true,true,true,true,true,true,true,true,true,true,true,true,true,true,true,true,true,false] 1 [S3.any,S3.any,S3.any,S3.any,S3.tree (T (d.heap.size+1)),S3.any,S3.any,S3.any,S3.any,S3.tree (T (d.heap.size+1+1)),S3.any,S3.any,S3.any,S3.any,S3.tree (T (d.heap.size+1+1+1)),S3.put (d.heap.size+1),S3.put (d.heap.size+1+1),S3.put (d.heap.size+1+1+1)] [4,9,14,15,16,17] (fun w h=>(xr p).drew.offR.trans h) (by kernel_rfl) rfl ?st ?fi
   case st=>
    repeat' first|exact trivial|refine And.intro ⟨_,rfl, ?_⟩ ?_
    all_goals(intro a w z hE j i6;refine Ord.step_of rfl rfl ?_;intro K hK;have X:=(xr p).drew.offR.trans hE.1)
    · (have f:=v4 (show a.eval (.tmp 25)= m0 O9 P3 P6 Q5 R6 from j 25 (by kernel_rfl));have Q:=O.out _ X;go_simp;go_at_call 43;refine(Oi _ w _ Q.2.2.2.1.l Ei.out).mono ?_;rintro e F ⟨u,rfl,J,I⟩;exact hK _ _ ⟨_,(),rfl,E3.ext (hE.lt H.out) (bM E.out X.1) I,(J.at' (fun b g=>⟨bM (bM E.out X.1) g,fun x=> absurd (hE.lt H.out b x) (Nat.not_lt.2 g)⟩):InT _ _ _ _)⟩)
    · (have f:=v4 (show a.eval (.tmp 30)= m0 eh ax dv df bm from j 30 (by kernel_rfl));have Q:=O.out _ X;go_simp;go_at_call 43;refine(Oi _ w _ Q.2.2.2.2.1.l T5.out).mono ?_;rintro e F ⟨u,rfl,J,I⟩;exact hK _ _ ⟨_,(),rfl,E3.ext (hE.lt H.out) (bM E.out X.1) I,(J.at' (fun b g=>⟨bM (bM E.out X.1) g,fun x=> absurd (hE.lt H.out b x) (Nat.not_lt.2 g)⟩):InT _ _ _ _)⟩)
    · (have f:=v4 (show a.eval (.tmp 35)= m0 ou pn oy pq pd from j 35 (by kernel_rfl));have Q:=O.out _ X;go_simp;go_at_call 43;refine(Oi _ w _ Q.2.2.2.2.2.l Ax.out).mono ?_;rintro e F ⟨u,rfl,J,I⟩;exact hK _ _ ⟨_,(),rfl,E3.ext (hE.lt H.out) (bM E.out X.1) I,(J.at' (fun b g=>⟨bM (bM E.out X.1) g,fun x=> absurd (hE.lt H.out b x) (Nat.not_lt.2 g)⟩):InT _ _ _ _)⟩)
    · (have h:InT w (fun b=> d.heap.size<=b/\b∉R) (T (d.heap.size+1)) (a.eval (.tmp 26)):=i6 4 26 (by kernel_rfl);obtain⟨_,_,_,_,_,D⟩:=h.three;rw[D] at h;have f:=v4 D;have fr:=v4 (show a.eval (.tmp 4)= O2 (d.heap.size+1) from j 4 (by kernel_rfl));obtain⟨_,_,_,g⟩:=E3.box hE P.out Js.out;have Q:=cbn g;go_simp;exact hK _ _ ⟨undef,(),rfl,(E3.put P.out (by omega) ⟨_,_,_,g⟩ h).1,P.out,(E3.put (B:=d.heap.size) P.out (by omega) ⟨_,_,_,g⟩ h).2⟩)
    · (have h:InT w (fun b=> d.heap.size<=b/\b∉R) (T (d.heap.size+1+1)) (a.eval (.tmp 31)):=i6 9 31 (by kernel_rfl);obtain⟨_,_,_,_,_,D⟩:=h.three;rw[D] at h;have f:=v4 D;have fr:=v4 (show a.eval (.tmp 5)= O2 (d.heap.size+1+1) from j 5 (by kernel_rfl));obtain⟨_,_,_,g⟩:=E3.box hE Z.out Ge.out;have Q:=cbn g;go_simp;exact hK _ _ ⟨undef,(),rfl,(E3.put Z.out (by omega) ⟨_,_,_,g⟩ h).1,Z.out,(E3.put (B:=d.heap.size) Z.out (by omega) ⟨_,_,_,g⟩ h).2⟩)
    · (have h:InT w (fun b=> d.heap.size<=b/\b∉R) (T (d.heap.size+1+1+1)) (a.eval (.tmp 36)):=i6 14 36 (by kernel_rfl);obtain⟨_,_,_,_,_,D⟩:=h.three;rw[D] at h;have f:=v4 D;have fr:=v4 (show a.eval (.tmp 6)= O2 (d.heap.size+1+1+1) from j 6 (by kernel_rfl));obtain⟨_,_,_,g⟩:=E3.box hE K8.out yi.out;have Q:=cbn g;go_simp;exact hK _ _ ⟨undef,(),rfl,(E3.put K8.out (by omega) ⟨_,_,_,g⟩ h).1,K8.out,(E3.put (B:=d.heap.size) K8.out (by omega) ⟨_,_,_,g⟩ h).2⟩)
   case fi=>
    intro v F hE hG;obtain⟨-,a0,b0,c0,hb0,Im⟩:_/\Rc d.heap.size R F (d.heap.size+1) (T (d.heap.size+1)):=hG 15 (by decide) (by kernel_rfl);obtain⟨-,a1,b1,c1,hb1,Hz⟩:_/\Rc d.heap.size R F (d.heap.size+1+1) (T (d.heap.size+1+1)):=hG 16 (by decide) (by kernel_rfl);obtain⟨-,a2,b2,c2,hb2,J8⟩:_/\Rc d.heap.size R F (d.heap.size+1+1+1) (T (d.heap.size+1+1+1)):=hG 17 (by decide) (by kernel_rfl);clear hG;simp only[List.foldl,Ord.dstOf,dV,dR,dO,Option.bind_some,Act.put,aV,bP,bN];refine B3 [18] 0 (by kernel_rfl) ((xr p).drew.offR.trans hE.1) (fun _ _ _ _ _ h=> h) ?_;refine tk rfl (by rfl) (by intro w X;go_simp;(try with_reducible rfl)) ?_
    try simp only[W2]
    refine bO (by kernel_rfl) ?_ _;have R0:=cbn hb0;have R1:=cbn hb1;have R2:=cbn hb2;go_wp2_with fail;refine aQ (v:= .tuple #[.agg #[a0,b0,c0],.agg #[a1,b1,c1],.agg #[a2,b2,c2],j0 0]) (by simp[aS,results13,go_sem,R0,R1,R2]) rfl ⟨_,_,_,rfl, ?_, ?_, ?_, ?_⟩
    · rw[vl];exact T0▸InT.mono (fun b g=> g.1) (fun _ _=> rfl) Im
    · rw[vl];exact T1▸InT.mono (fun b g=> g.1) (fun _ _=> rfl) Hz
    · rw[vl];exact T2▸InT.mono (fun b g=> g.1) (fun _ _=> rfl) J8
    · exact Below.trans (V.trans (((m).trans y))).drew hE.2.1
theorem bL(f:Nat)(G:List Tr)(A:Option Addr)(ca:Nat)(g:World)(hG:V8 g A G)(F8:G.length<=ca)(hcm:ca<=maxLen)(hA:A=none->ca=0)(t:Tr)(v:Value)(ht:Lies g t v)(r:Tr×Int)(h:Q0 (pc f G t) 10=some r):Calls prog 14 #[.slice A G.length ca,v] g (YK g r):=by
 have HI:=hdq (fun W (hW:Ext g W) N hN q hq=> wL f G A ca W (hG.ext hW) F8 hcm hA t v (ht.ext hW) N hN q hq);have HH:=hdq h;obtain⟨k,n,ks⟩:=t;obtain⟨At,ct,rfl,-⟩:=Lies.mk_iff.1 ht;clear ht hG;go_enter func14,ntmps14;go_wp2_with fail;generalize F:aO (aO (aO (aO g _) _) _) _=w1;obtain⟨bt,E,H,I,P,M⟩:=TD F.symm;clear F;have Q:=cb3 bt;obtain⟨R,hR⟩: ∃R,R= [g.heap.size+1,g.heap.size+1+1,g.heap.size+1+1+1]:=⟨_,rfl⟩;have hN: ∀b,w1.heap.size<=b->b∉R:=by
  intro b j h;rw[hR] at h;simp only[gU,gM,or_false] at h;omega
 obtain⟨s,c,H1,H2,H3⟩:=g8 HH.out;refine(HI.out _ M _ hN _ H1.out).mono ?_;rintro e w2 ⟨u,rfl,hT,C⟩;obtain⟨_,_,_,_,_,rfl⟩:=hT.three;simp only;obtain⟨L,t⟩ |rfl:=cz c
 · obtain rfl:=H3.out L.out
   have r0:=cbn (C.blk E);have s0:=fun o=> cbn ((C.alloc o).blk E)
   have r1:=cbn (C.blk H);have P:=fun o=> cbn ((C.alloc o).blk H)
   have r2:=cbn (C.blk I);have Y:=fun o=> cbn ((C.alloc o).blk I)
   go_wp2_with fail;refine aQ (v:= .tuple #[m0 0 0 none 0 0,m0 0 0 none 0 0,m0 0 0 none 0 0,j0 c]) (by simp[aS,results14,go_sem,r0,r1,r2,s0,P,Y]) rfl ⟨_,_,_,rfl, ?_, ?_, ?_, ?_⟩
   iterate 3 (rw[So (L.out)];exact Z5 _ _ 0 0)
   exact((((M.trans C).alloc _).set3 (by omega) _ _ _).set3 (by omega) _ _ _).set3 (by omega) _ _ _
 obtain⟨kx,nx,D,d,G1,G2,G3,G4⟩:=ss (Option.some.inj (H2.out rfl));clear H1 H2 H3;go_wp2_with fail;generalize F:aO w2 _=w3;obtain⟨bq,p⟩:=nb F;clear F;refine(cl G1.out _ _ (fun b j=> hN b (bM (C.trans p).size j)) _ (hT.later p).lies').mono ?_;rintro e w4 ⟨A1,c1,rfl,J8,-,e4⟩;have X:=(C.trans p).trans e4;clear hT bq;simp only;obtain⟨L,t⟩ |rfl:=cz d
 · obtain rfl:=G2.out L.out
   have r0:=cbn (X.blk E);have s0:=fun o=> cbn ((X.alloc o).blk E)
   have r1:=cbn (X.blk H);have P:=fun o=> cbn ((X.alloc o).blk H)
   have r2:=cbn (X.blk I);have Y:=fun o=> cbn ((X.alloc o).blk I)
   go_wp2_with fail;refine aQ (v:= .tuple #[m0 0 0 none 0 0,m0 0 0 none 0 0,m0 0 0 none 0 0,j0 d]) (by simp[aS,results14,go_sem,r0,r1,r2,s0,P,Y]) rfl ⟨_,_,_,rfl, ?_, ?_, ?_, ?_⟩
   iterate 3 (rw[So (L.out)];exact Z5 _ _ 0 0)
   exact((((M.trans X).alloc _).set3 (by omega) _ _ _).set3 (by omega) _ _ _).set3 (by omega) _ _ _
 obtain⟨L,t⟩ |rfl:=czk kx 10
 · obtain rfl:=G3.out (by trivial) L.out
   have r0:=cbn (X.blk E);have s0:=fun o=> cbn ((X.alloc o).blk E)
   have r1:=cbn (X.blk H);have P:=fun o=> cbn ((X.alloc o).blk H)
   have r2:=cbn (X.blk I);have Y:=fun o=> cbn ((X.alloc o).blk I)
   go_wp2_with fail;refine aQ (v:= .tuple #[m0 0 0 none 0 0,m0 0 0 none 0 0,m0 0 0 none 0 0,j0 1]) (by simp[aS,results14,go_sem,r0,r1,r2,s0,P,Y]) rfl ⟨_,_,_,rfl, ?_, ?_, ?_, ?_⟩
   iterate 3 (rw[So (by decide)];exact Z5 _ _ 0 0)
   exact((((M.trans X).alloc _).set3 (by omega) _ _ _).set3 (by omega) _ _ _).set3 (by omega) _ _ _
 obtain rfl:=G4.out (by trivial) (by trivial);clear G1 G2 G3 G4;obtain⟨hk,I8,hv⟩:=vi HH.out;obtain⟨Af,cf,he,Lz,Lk,hK⟩:=InT.mk_iff.1 J8;simp only[Value.agg.injEq] at he;cases he
 clear J8;simp only[Tr.kids] at I8;have I8:D.length=3:=by have:S0 10=3:=rfl;omega
 have Ei:=hdq (show cnt (kd D 0)<=1000000 from by have:=(N4 (qd hv (i:=0) (by simp only[Tr.kids];omega))).2;simp only[Tr.kids] at this;omega);have T5:=hdq (show cnt (kd D 1)<=1000000 from by have:=(N4 (qd hv (i:=1) (by simp only[Tr.kids];omega))).2;simp only[Tr.kids] at this;omega);have Ax:=hdq (show cnt (kd D 2)<=1000000 from by have:=(N4 (qd hv (i:=2) (by simp only[Tr.kids];omega))).2;simp only[Tr.kids] at this;omega);obtain⟨b,o,rfl,j,⟨O9,P3,P6,Q5,R6,K0⟩,⟨eh,ax,dv,df,bm,K1⟩,ou,pn,oy,pq,pd,K2⟩:=j19 hK I8;rw[I8];obtain⟨T,T0,T1,T2⟩: ∃T:Nat->Tr,T (g.heap.size+1)=kd D 0/\T (g.heap.size+1+1)=kd D 1/\T (g.heap.size+1+1+1)=kd D 2:=⟨fun r=> kd D (r -(g.heap.size+1)),by simp,by simp[show g.heap.size+1+1 -(g.heap.size+1)=1 by omega],by simp[show g.heap.size+1+1+1 -(g.heap.size+1)=2 by omega]⟩;rw[<-T0] at K0 Ei;rw[<-T1] at K1 T5;rw[<-T2] at K2 Ax;go_wp2_with fail;generalize F:aO w4 _=x;obtain⟨bf,p⟩:=nb F;have hs:=(X).size;have FZ:=hdq (fun w (X:m8 R x w)=>(⟨X.cell (cb3 bf).1 (hN _ hs),X.cell (cb3 bf).2.1 (hN _ hs),X.cell (cb3 bf).2.2.1 (hN _ hs),KA.offR K0 j (p.offR.trans X),KA.offR K1 j (p.offR.trans X),KA.offR K2 j (p.offR.trans X)⟩:_/\_/\_/\_/\_/\_));have ra:=hdq (show g.heap.size+1∈R by rw[hR];simp);have Js:=hdq (⟨_,_,_,((X).trans p).drew.blk E⟩: ∃a b c,x.drew.heap[g.heap.size+1]? =some (.cells #[a,b,c] 25 (0,0)));have sj:=hdq (show g.heap.size+1+1∈R by rw[hR];simp);have Ge:=hdq (⟨_,_,_,((X).trans p).drew.blk H⟩: ∃a b c,x.drew.heap[g.heap.size+1+1]? =some (.cells #[a,b,c] 25 (0,0)));have K8:=hdq (show g.heap.size+1+1+1∈R by rw[hR];simp);have yi:=hdq (⟨_,_,_,((X).trans p).drew.blk I⟩: ∃a b c,x.drew.heap[g.heap.size+1+1+1]? =some (.cells #[a,b,c] 25 (0,0)));have V:=hdq (show∀r,r∈R->r < x.drew.heap.size from fun r hr=> Nat.lt_of_not_le fun h=> hN r (bM ((X).trans p).drew.size h) hr);have O:=hdq (show g.heap.size<=x.heap.size from(M.trans ((X).trans p)).size);clear j K0 K1 K2 bf F hK hv hk HH HI hN E H I hs I8 Lz Lk;refine gX (S:=fun w=> m8 R x w) (by kernel_rfl) (xr x).drew.offR (fun _=> ?_);refine B3 [0,1,2,3,5,6,7,8,10,11,12,13] 7 (by kernel_rfl) (xr x).drew.offR (fun _ _ _ _ _ h=> h) ?_
 iterate 12 (refine tk rfl (by rfl) (by intro w X;have Q:=FZ.out _ X;go_simp;(try with_reducible rfl)) ?_;try simp only[W2])
 refine FC (S:=fun w=> m8 R x w) g.heap.size R T 18 56 #[true,true,true,true,true,true,true,true,true,true,true,true,true,true,true,true,true,true,false] 1 [S3.any,S3.any,S3.any,S3.any,S3.tree (T (g.heap.size+1)),S3.any,S3.any,S3.any,S3.any,S3.tree (T (g.heap.size+1+1)),S3.any,S3.any,S3.any,S3.any,S3.tree (T (g.heap.size+1+1+1)),S3.put (g.heap.size+1),S3.put (g.heap.size+1+1),S3.put (g.heap.size+1+1+1)] [4,9,14,15,16,17] (fun w h=>(xr x).drew.offR.trans h) (by kernel_rfl) rfl ?st ?fi
 case st=>
  repeat' first|exact trivial|refine And.intro ⟨_,rfl, ?_⟩ ?_
  all_goals(intro a w z hE m i6;refine Ord.step_of rfl rfl ?_;intro K hK;have X:=(xr x).drew.offR.trans hE.1)
  · (have f:=v4 (show a.eval (.tmp 44)= m0 O9 P3 P6 Q5 R6 from m 44 (by kernel_rfl));have Q:=FZ.out _ X;go_simp;go_at_call 46;refine(Sf _ w _ Q.2.2.2.1.l Ei.out).mono ?_;rintro e U ⟨u,rfl,hM,Z⟩;exact hK _ _ ⟨_,(),rfl,E3.ext (hE.lt V.out) (bM O.out X.1) Z,(hM.at' (fun b j=>⟨bM (bM O.out X.1) j,fun y=> absurd (hE.lt V.out b y) (Nat.not_lt.2 j)⟩):InT _ _ _ _)⟩)
  · (have f:=v4 (show a.eval (.tmp 49)= m0 eh ax dv df bm from m 49 (by kernel_rfl));have Q:=FZ.out _ X;go_simp;go_at_call 46;refine(Sf _ w _ Q.2.2.2.2.1.l T5.out).mono ?_;rintro e U ⟨u,rfl,hM,Z⟩;exact hK _ _ ⟨_,(),rfl,E3.ext (hE.lt V.out) (bM O.out X.1) Z,(hM.at' (fun b j=>⟨bM (bM O.out X.1) j,fun y=> absurd (hE.lt V.out b y) (Nat.not_lt.2 j)⟩):InT _ _ _ _)⟩)
  · (have f:=v4 (show a.eval (.tmp 54)= m0 ou pn oy pq pd from m 54 (by kernel_rfl));have Q:=FZ.out _ X;go_simp;go_at_call 46;refine(Sf _ w _ Q.2.2.2.2.2.l Ax.out).mono ?_;rintro e U ⟨u,rfl,hM,Z⟩;exact hK _ _ ⟨_,(),rfl,E3.ext (hE.lt V.out) (bM O.out X.1) Z,(hM.at' (fun b j=>⟨bM (bM O.out X.1) j,fun y=> absurd (hE.lt V.out b y) (Nat.not_lt.2 j)⟩):InT _ _ _ _)⟩)
  · (have h:InT w (fun b=> g.heap.size<=b/\b∉R) (T (g.heap.size+1)) (a.eval (.tmp 45)):=i6 4 45 (by kernel_rfl);obtain⟨_,_,_,_,_,J⟩:=h.three;rw[J] at h;have f:=v4 J;have fr:=v4 (show a.eval (.tmp 4)= O2 (g.heap.size+1) from m 4 (by kernel_rfl));obtain⟨_,_,_,j⟩:=E3.box hE ra.out Js.out;have Q:=cbn j;go_simp;exact hK _ _ ⟨undef,(),rfl,(E3.put ra.out (by omega) ⟨_,_,_,j⟩ h).1,ra.out,(E3.put (B:=g.heap.size) ra.out (by omega) ⟨_,_,_,j⟩ h).2⟩)
  · (have h:InT w (fun b=> g.heap.size<=b/\b∉R) (T (g.heap.size+1+1)) (a.eval (.tmp 50)):=i6 9 50 (by kernel_rfl);obtain⟨_,_,_,_,_,J⟩:=h.three;rw[J] at h;have f:=v4 J;have fr:=v4 (show a.eval (.tmp 5)= O2 (g.heap.size+1+1) from m 5 (by kernel_rfl));obtain⟨_,_,_,j⟩:=E3.box hE sj.out Ge.out;have Q:=cbn j;go_simp;exact hK _ _ ⟨undef,(),rfl,(E3.put sj.out (by omega) ⟨_,_,_,j⟩ h).1,sj.out,(E3.put (B:=g.heap.size) sj.out (by omega) ⟨_,_,_,j⟩ h).2⟩)
  · (have h:InT w (fun b=> g.heap.size<=b/\b∉R) (T (g.heap.size+1+1+1)) (a.eval (.tmp 55)):=i6 14 55 (by kernel_rfl);obtain⟨_,_,_,_,_,J⟩:=h.three;rw[J] at h;have f:=v4 J;have fr:=v4 (show a.eval (.tmp 6)= O2 (g.heap.size+1+1+1) from m 6 (by kernel_rfl));obtain⟨_,_,_,j⟩:=E3.box hE K8.out yi.out;have Q:=cbn j;go_simp;exact hK _ _ ⟨undef,(),rfl,(E3.put K8.out (by omega) ⟨_,_,_,j⟩ h).1,K8.out,(E3.put (B:=g.heap.size) K8.out (by omega) ⟨_,_,_,j⟩ h).2⟩)
 case fi=>
  intro v U hE hG;obtain⟨-,a0,b0,c0,hb0,Im⟩:_/\Rc g.heap.size R U (g.heap.size+1) (T (g.heap.size+1)):=hG 15 (by decide) (by kernel_rfl);obtain⟨-,a1,b1,c1,hb1,Hz⟩:_/\Rc g.heap.size R U (g.heap.size+1+1) (T (g.heap.size+1+1)):=hG 16 (by decide) (by kernel_rfl);obtain⟨-,a2,b2,c2,hb2,J8⟩:_/\Rc g.heap.size R U (g.heap.size+1+1+1) (T (g.heap.size+1+1+1)):=hG 17 (by decide) (by kernel_rfl);clear hG;simp only[List.foldl,Ord.dstOf,dV,dR,dO,Option.bind_some,Act.put,aV,bP,bN];refine B3 [18] 0 (by kernel_rfl) ((xr x).drew.offR.trans hE.1) (fun _ _ _ _ _ h=> h) ?_;refine tk rfl (by rfl) (by intro w X;go_simp;(try with_reducible rfl)) ?_
  try simp only[W2]
  refine bO (by kernel_rfl) ?_ _;have R0:=cbn hb0;have R1:=cbn hb1;have R2:=cbn hb2;go_wp2_with fail;refine aQ (v:= .tuple #[.agg #[a0,b0,c0],.agg #[a1,b1,c1],.agg #[a2,b2,c2],j0 0]) (by simp[aS,results14,go_sem,R0,R1,R2]) rfl ⟨_,_,_,rfl, ?_, ?_, ?_, ?_⟩
  · rw[vl];exact T0▸InT.mono (fun b j=> j.1) (fun _ _=> rfl) Im
  · rw[vl];exact T1▸InT.mono (fun b j=> j.1) (fun _ _=> rfl) Hz
  · rw[vl];exact T2▸InT.mono (fun b j=> j.1) (fun _ _=> rfl) J8
  · exact Below.trans (M.trans (((X).trans p))).drew hE.2.1
end Go.Proofs.YtckhbnmfnpolgaaGreat
namespace Go.Proofs.YtckhbnmfnpolgaaGreat
open Go.RowKit
attribute [local go_sem ↓] cT cU
theorem KF(t:Tr)(hv:valid sigT t=true)(a:World)(N:Nat->Prop)(hN: ∀b,a.heap.size<=b->N b)(v:Value)(j:Lies a t v):Calls prog 61 #[v] a fun e m=> ∃u,e= .returned u/\InT m N (shfT 1 t 0) u/\Ext a m:=by
 have q:=hdq (fun W (B:Ext a W) M c=> so t 1 hv (by omega) (by omega) W M c v (j.ext B));obtain⟨k,n,D⟩:=t;obtain⟨At,ct,rfl,-⟩:=Lies.mk_iff.1 j;clear j hv;obtain⟨d,f⟩: ∃x,x=((a.alloc (D0 k n At D.length ct)).alloc M0):=⟨_,rfl⟩;obtain⟨p,o,O,i⟩:=box2 f;obtain⟨M,c⟩: ∃M,M=(fun b=> N b/\b≠a.heap.size+1):=⟨_,rfl⟩;have H:=hdq (show∀b,d.heap.size<=b->M b by rw[c];exact Va hN i.size (by omega));have z:=hdq c;clear c hN;go_enter func61,ntmps61;go_wp2_with fail;rw[<-f];clear f;refine(q.out d i M (fun b r=> H.out b (bM (xr d).size r))).mono ?_;rintro e I ⟨u,rfl,hT,g⟩;have K:=g.size;obtain⟨J,F,y,C,E,rfl⟩:=hT.three;have A:=hdq hT;clear hT;have l:=g;have L:=cb3 (l.blk p);have G:=Ca (l.blk o);have s:=i;have w:=s.trans g;go_wp2_with fail;refine aQ (v:= m0 J F y C E) (by simp[aS,results61,go_sem,G]) rfl ⟨_,rfl,InT.ret (z.out▸(A.out.later (xr I))) _ _ _,(w.set3 (by omega) _ _ _)⟩
theorem dD(f:Nat){G:List Tr}{A:Option Addr}{ca:Nat}(d:World)(N:Nat->Prop)(H:SJ d N A G ca)(t:Tr)(v:Value)(hT:InT d N t v)(r:Tr×Int)(h:thn (O0 f G t) (fun _=> some (t,0))=some r):Calls prog 63 #[.slice A G.length ca,v] d (n9 N d r):=by
 obtain⟨s,c,W,O,D⟩:=we h;clear h;have R:=hdq W;have I:=hdq O;have q:=hdq D;clear W O D;obtain⟨k,n,S⟩:=t;obtain⟨At,ct,rfl,-⟩:=InT.mk_iff.1 hT;have J:=hdq hT;clear hT;obtain⟨E,w⟩: ∃x,x=((d.alloc (D0 k n At S.length ct)).alloc M0):=⟨_,rfl⟩;obtain⟨F,o,s1,Q⟩:=box2 w;have V:=hdq (H.keep Q (g:=d.heap.size+1) (by omega) (by omega));obtain⟨M,B⟩: ∃M,M=(fun b=> N b/\b≠d.heap.size+1):=⟨_,rfl⟩;rw[<-B] at V;have Z:=hdq B;clear B H;go_enter func63,ntmps63;go_wp2_with fail;rw[<-w];clear w;have z:=Q;refine(Tp f _ _ _ R.out E M A ca _ (V.out.ext (xr E)) (Z.out▸(J.out).keep z (g:=d.heap.size+1) (by omega))).mono ?_;rintro e l ⟨u,rfl,hT,m⟩;have s2:=m.size;obtain⟨X,U,K,P,T,rfl⟩:=hT.three;have Ta:=hdq hT;clear hT;simp only;by_cases a:c=0
 case neg=>
  obtain rfl:=q.out a;have t1:(c !=0)=true:=by simp[a]
  have t2:(c==0)=false:=by simp[a]
  clear a q;have i:=m;have Y:=cb3 (i.blk F);have C:=cbn (i.blk o);have j:Ext l (l.alloc (D0 X U K P T)):=(xr l).alloc _;have p:=z.trans m;have y:=cbn (j.blk (i.blk o));go_wp2_with fail;refine aQ (v:= .tuple #[m0 0 0 none 0 0,j0 c]) (by simp[aS,results63,go_sem,C,y]) rfl ⟨_,rfl,Z5 _ _ 0 0,((p.trans j).set3 (by omega) _ _ _)⟩
 have L:=I.out a;subst a;clear I q;obtain rfl:=(Option.some.inj L).symm;clear R L;have p:=z.trans m;have i:=m;have Y:=cb3 (i.blk F);have C:=cbn (i.blk o);have j:Ext l (l.alloc (D0 X U K P T)):=(xr l).alloc _;have y:=cbn (j.blk (i.blk o));go_wp2_with fail;refine aQ (v:= .tuple #[m0 k n At S.length ct,j0 0]) (by simp[aS,results63,go_sem,C,y]) rfl ⟨_,rfl,InT.ret (J.out.keep (p.trans j) (g:=d.heap.size+1) (by omega)) _ _ _,((p.trans j).set3 (by omega) _ _ _)⟩
end Go.Proofs.YtckhbnmfnpolgaaGreat
namespace Go.Proofs.YtckhbnmfnpolgaaGreat
open Go.RowKit
open M (Hd HR Cv Ty j2 rc a7 O5 dep DG fvb)
inductive Wb:List M.Tm->M.Tm->Prop where
 |num {n a}:n<=2->NC n a->Wb (iR n .nat) a
 |txt {G l a}:(G,l)∈txts->a∈l->Wb G a
 |rfl {a}:NC 1 a->Wb [.nat] (.refl a)
theorem NG.rep(n:Nat):NG n (iR n .nat):=fun i hi=> by
 unfold M.lk;rw[List.getElem?_replicate,if_pos hi]
 rfl
theorem Wb.ok{G:List M.Tm}{a:M.Tm}(h:Wb G a):SG a/\DG G 3/\(y6 G->valid sigT (enc a)=true->ef G a):=by
 cases h with
 |num hn h=> exact⟨h.sg,fun A hA=> by rw[lO hA];decide,fun hG hv=> h.side (NG.rep _) hG hv⟩
 |txt h b=>
  obtain⟨e,c,d,-⟩:=Qk h b;exact⟨e,d,fun _ _=> c⟩
 |rfl h=> exact⟨h.sg,fun A hA=> by rw[List.mem_singleton.1 hA];decide,fun _ _=> trivial⟩
theorem i5.ccRS{f a:Nat}(h:f<=a): ∀ts done:List Tr,i5 (ccRS f done ts) (ccRS a done ts)
 | [],_=> i5.rfl' _
 |t::ts,done=>((am h done t).frm 2).thn fun _=> i5.ccRS h ts _
theorem BC{f:Nat}: ∀(ts:List Tr) (G:List M.Tm) (u:Tr),y6 G->(∀t∈ts,valid sigT t=true)->ccRS f (ctxE G) ts=some (u,0)-> ∃D,ctxE D=ctxE G++ts/\y6 D
 | [],G,u,hG,hv,h=>⟨G,by simp,hG⟩
 |t::ts,G,u,hG,hv,h=> by
  obtain⟨s,a,c⟩:=ga h;obtain⟨A,rfl⟩:=Dm (hv t (by simp));obtain⟨g,a⟩:=Ti hG (hv _ (by simp)) a;obtain⟨S,i,-,-,-,-,b,-⟩:=pe (snd g) hG (hv _ (by simp)) a;rw[<-de] at c;obtain⟨D,d,e⟩:=BC ts (A::G) u (hG.cons b (hv _ (by simp))) (fun x hx=> hv x (by simp[hx])) c;exact⟨D,by rw[d,de];simp,e⟩
theorem AC: ∀(ts:List Tr) (G:List M.Tm),y6 G->(∀t∈ts,valid sigT t=true)-> ∃f,Is (ccRS f (ctxE G) ts)
 | [],G,hG,hv=>⟨0,Is.mk _⟩
 |t::ts,G,hG,hv=> by
  have v:=hv t (by simp);obtain⟨A,rfl⟩:=Dm v;obtain⟨a,d⟩:=(py 21 G (by omega) hG A v).at;by_cases c: ∃f s,Q0 (O0 f (ctxE G) (enc A)) 2=some (s,0)
  · obtain⟨g,l,hs⟩:=c
    obtain⟨g,hs⟩:=Ti hG v hs;obtain⟨S,i,-,-,-,-,b,-⟩:=pe (snd g) hG v hs;obtain⟨k,j⟩:=AC ts (A::G) (hG.cons b v) (fun x hx=> hv x (by simp[hx]));refine⟨a+k,((d _ (by omega)).frm 2).thn fun s _=> ?_⟩;rw[<-de];exact j.le (i5.ccRS (by omega) _ _)
  · exact⟨a,((d _ (aP _)).frm 2).thn fun s e=> absurd ⟨a,s,e⟩ c⟩
theorem kD(ctx:List Tr)(t:Tr): ∃f,Is (pc f ctx t):=by
 unfold pc;by_cases hf:Qc ctx=false\/valid sigT t=false
 · exact⟨0,by rw[if_pos hf];exact Is.mk _⟩
 · have c:Qc ctx=true:=by
    cases h:Qc ctx with
    |true=> rfl
    |false=> exact absurd (.inl h) hf
   have g:valid sigT t=true:=by
    cases h:valid sigT t with
    |true=> rfl
    |false=> exact absurd (.inr h) hf
   have n: ∀f,Ry f ctx=ccRS f (ctxE []) ctx:=fun f=> by unfold Ry;rw[if_pos c];rfl
   obtain⟨b,i⟩:=AC ctx [] y6.nil (et c).2;simp only[if_neg hf,n];by_cases d: ∃f s,ccRS f (ctxE []) ctx=some (s,0)
   · obtain⟨p,m,hs⟩:=d
     obtain⟨D,j,k⟩:=BC ctx [] m y6.nil (et c).2 hs;obtain rfl:ctx=ctxE D:=by rw[j];simp[ctxE]
     obtain⟨a,rfl⟩:=Dm g;obtain⟨o,l⟩:=(py 21 D (by omega) k a g).at;exact⟨b+o,(i.le (i5.ccRS (by omega) _ _)).thn fun s _=>(l _ (by omega)).thn fun _ _=> Is.mk _⟩
   · exact⟨b,i.thn fun s e=> absurd ⟨b,s,e⟩ d⟩
theorem nD{ctx:List Tr}{t:Tr}(hs:SD ctx)(hd: ∀G a,ctx=ctxE G->t=enc a->y6 G->valid sigT t=true->Dr G a): ∃f b r,Q0 (pc f ctx t) 10=some r/\Q0 (Ra b ctx t) 10=some r:=by
 obtain⟨f,k⟩:=kD ctx t;obtain⟨b,i⟩:=Yx ctx t;obtain⟨⟨s,c⟩,e⟩:=k.frm 10;obtain⟨⟨g,j⟩,d⟩:=(i b (aP _)).frm 10;rcases((j244 (f:=f) (f':=b) hs hd).frm 10) s c g j e d with⟨rfl,rfl⟩ |⟨h,-⟩
 · exact⟨f,b,_,e,d⟩
 · exact h.elim
end Go.Proofs.YtckhbnmfnpolgaaGreat
namespace Go.Proofs.YtckhbnmfnpolgaaGreat
open Go Go.RowKit
attribute [local go_sem ↓] cT cU
def BQ(b:List Tr)(t:Tr):Prop:= ∃G a,b=ctxE G/\t=enc a/\Wb G a/\valid sigT t=true/\b.length<=5/\ ∀x∈b,cnt x<=400
theorem BQ.num{j D C:Nat}{t:Tr}(b:j<=2)(h:NQ j D C t)(v:valid sigT t=true):BQ (iR j (.mk 6 0 [])) t:=by
 obtain⟨a,rfl,c,-⟩:=h;exact⟨iR j .nat,a,by simp[ctxE,enc],rfl,.num b c,v,by simp;omega,fun x hx=> by rw[lO hx];decide⟩
theorem BQ.txt{c b:List (List UInt8)}{q:List M.Tm×List M.Tm}{i:Nat}(e:q∈txts)(f:Ub c=ctxE q.1)(d:Ub b=q.2.map enc)(hx:(Ub c).length<=5)(hi:i <(Ub b).length):BQ (Ub c) (kd (Ub b) i):=by
 have hv:valid sigT (kd (Ub b) i)=true:=PI (by unfold kd;rw[dW,cR hi];exact iO hi);have a:i < q.2.length:=by rw[d] at hi;simpa using hi
 refine⟨q.1,q.2[i],f, ?_,.txt e (iO a),hv,hx,fun x h=>(N4 (PI h)).2⟩;unfold kd;rw[d,dW,List.getElem?_map,cR a]
 rfl
theorem gJ(d:World)(g m:Nat)(hR:Rd d g m)(hm:m < 700000):Calls prog 66 #[.pointer (some ⟨g,0,none⟩)] d (CQ d g (m+3000) BQ):=by
 have f:=hdq hR.lt;go_enter func66,ntmps66;go_wp2_with fail;generalize U:aO d _=w1;obtain⟨br,e⟩:=nb U;have Z:=(St.of hR e).id;have Y:i1 [g] d w1:=oE e;clear U e hR;refine(Qf _ g _ 2 Z.2 (by omega)).mono ?_;rintro e w2 ⟨x,rfl,n,hx1,R,o⟩;replace Z:=Z.tr o R;clear o R;obtain⟨HC,t⟩ |rfl:=cz x
 rotate_left
 · go_wp2_with fail
   refine(numD [0,1,2,0] rfl rfl Z.2 (by omega)).mono ?_;rintro e H ⟨nn,rfl,pj,o,R⟩;replace Z:=Z.tr o R;clear o R;obtain⟨N,rfl⟩:=dP (show 0<=nn by simp at pj;omega);have hN:N<=2:=by simp at pj;omega
   clear pj;go_wp2_with fail;have mf:=ec.lit (xr H);have n:=(xr H).alloc (.cells #[] 25);generalize aO H _=wq at mf n⊢
   go_loopw [5,6] (fun vo i wr=> ∃(v:Value) (j:Nat),v=vo/\j<=N/\i= .int .i64 j/\ec H wr v (iR j (.mk 6 0 []))/\Ext H wr) (fun _ i _=> N -(intOf i).toNat)
   case atStart=> exact⟨_,0,rfl,Nat.zero_le _,rfl,mf,n⟩
   case round=>
    obtain⟨v,j,rfl,G,rfl,hG,hx⟩:=hrel;clear mf n;by_cases hlt:j < N
    · have vx:(j:Int) <(N:Int):=by omega
      go_wp2_with fail;refine(y15 _ 6 0).mono ?_;rintro e O ⟨rfl,e5⟩;have e6:=e5.alloc (.cells #[.int .i64 6,.int .i64 0,.slice none 0 0] 25);have cn:=heap_alloc_new O (.cells #[.int .i64 6,.int .i64 0,.slice none 0 0] 25);have Dg:=hx.trans e6;go_wp2_with (at_builtin;refine pJ (tr:= .mk 6 0 []) (.tmp 23) (.tmp 25) hG e6 hx (E2.leaf _ _ 6 0) (by simp;omega) rfl rfl rfl rfl cn ?_)
      intro A c w7 zn hB7;rw[<-List.replicate_succ'] at zn;go_wp2_with fail
      go_roundw
      case rel=> exact⟨_,j+1,rfl,by omega,by go_num,zn,Below.trans Dg hB7⟩
      case measure=> simp[intOf];omega
    obtain rfl:j=N:=by omega
    obtain⟨A,c,rfl,q1,E,V,K⟩:=hG.row;rw[List.length_replicate] at q1⊢;replace K:InK wr (fun b=> d.heap.size < b) A _:=InK.mono (fun b k=> Z.news br b k.1) (fun _ _=> rfl) K;replace Z:=Z.up hx;clear hG hx hlt;go_wp2_with fail;refine(numD [3,2,4,1] rfl rfl Z.2 (by omega)).mono ?_;rintro e w4 ⟨kk,rfl,De,o,R⟩;replace Z:=Z.tr o R;replace K:=K.dl o (bb (by have:=f.out;omega));clear o R;have hk4: -3<=kk/\kk<=4:=by simp at De;omega
    clear De;go_wp2_with fail;refine(Ts _ g _ j (j:Int) kk Z.2 (by omega) rfl (by omega) (by omega) (by omega)).mono ?_;intro e O h;obtain⟨ta,ua,va,Aa,la,ca,rfl,Pa,a,o,Z⟩:=h.at Z br;replace K:=K.dl o (bb (by have:=f.out;omega));clear o;go_wp2_with fail;generalize U:aO O _=w6;obtain⟨bq,e⟩:=nb U;have F:=hdq (Yn (r:=d.heap.size) (g:=g) bq (by have:=D1 br;have:=Z.1.size;omega) (by have:=D1 br;have:=f.out;have:=Z.1.size;omega));replace br:=e.blk (Z.br br (by have:=f.out;omega));replace Y:=Y.trans (Z.up e).1;replace Z:=(Z.up e).id;replace K:=K.later e;replace a:=a.later e;have Q:=F.out _ Z.off;clear U bq e;refine(rj ta _ _ a.lies').mono ?_;rintro e w7 ⟨rfl,e⟩;replace Z:=Z.up e;replace K:=K.later e;replace a:=a.later e;replace Q:=F.out _ Z.off;cases hz:valid sigT ta with
    |true=>
     go_wp2_with fail;refine Oe d.heap.size (by kernel_rfl) Z fun w8 e Z=> ?_
     replace K:=K.later e;replace a:=a.later e;replace Q:=F.out _ Z.off;refine B3 [0,1,2] 1 (by kernel_rfl) Z.off (fun _ _ _ _ _ h=> h) ?_
     iterate 3 (refine tk rfl (by rfl) (by intro w X;have Q:=F.out _ X;go_simp;(try with_reducible rfl)) ?_;try simp only[W2])
     have R:=cbn (Z.br br (by have:=f.out;omega));refine H0 3 (by kernel_rfl) rfl rfl (fun K hK=> ?_)
     go_simp
     refine hK.out _ _ (Z.off.set3 _ _ _) (fun _=> ?_);clear hK K;refine bO (by kernel_rfl) ?_ _;go_wp2_with fail;exact Zb (by simp[aS,results66,go_sem,R]) (BQ.num hN Pa hz) (List.length_replicate ..) ⟨q1,E,V⟩ K a Y Z f.out (aP _) (by omega) rfl
    |false=>
     go_wp2_with fail;refine(Qf _ g _ 4 Z.2 (by omega)).mono ?_;rintro e w8 ⟨y,rfl,hy0,hy1,R,o⟩;replace Z:=Z.tr o R;clear o R;replace Q:=F.out _ Z.off;go_wp2_with fail;refine(PD y _).mono ?_;rintro e w9 ⟨b1,b2,p,rfl,hp,S1,M,e⟩;replace Z:=Z.up e;replace Q:=F.out _ Z.off;obtain⟨q,I,P,r2,n1,n2,J,S,q1,E,V⟩:=du p hp;have u:=hdq (fun W (z:Ext w9 W)=> mA p.1 b1 W (S1.ext z) n1 J);have T:=hdq (fun i hi=> BQ.txt (i:=i) I P r2 (by omega) hi);have HY:=hdq (mA p.2 b2 w9 M n2 S);clear S1 M I P r2 J S hp;generalize p.1.length=P1 at*;generalize p.2.length=P2 at*;generalize Ub p.1=C at*;generalize Ub p.2=Rt at*;go_wp2_with fail;have s:=Z.news br;refine(HY.out).mono ?_;rintro e S6 ⟨A,c,rfl,hA,K,e⟩;replace Z:=Z.up e;replace Q:=F.out _ Z.off;replace K:InK S6 (fun b=> d.heap.size < b) A Rt:=InK.mono (fun b k=> s b k.1) (fun _ _=> rfl) K;obtain⟨b,oq,rfl,k,hk⟩:=ae K E;obtain⟨L,hL⟩: ∃L,Rt.length=L:=⟨_,rfl⟩;rw[hL] at hk hA E V T⊢;have HK:=hdq hk;have ji:(0:Int) <(L:Int):=by omega
     have B:=hA.2.1;unfold maxLen at B;have O3:=hA.1;replace br:=Z.br br (by have:=f.out;omega);replace Y:=Y.trans Z.1;replace u:=hdq (fun W z=> u.out W (e.trans z));replace Z:=Z.id;clear hk K hA hL HY e;go_wp2_with fail;refine Oe d.heap.size (by kernel_rfl) Z fun Y4 e Z=> ?_
     refine B3 [0,2,3,4,5] 6 (by kernel_rfl) Z.off (fun _ _ _ _ _ h=> h) ?_
     iterate 5 (refine tk rfl (by rfl) (by intro w X;go_simp;(try with_reducible rfl)) ?_;try simp only[W2])
     refine H0 1 (by kernel_rfl) rfl rfl (fun K hK=> ?_)
     go_simp
     replace s:=Z.news br
     go_at_call 98
     refine(u.out _ e).mono ?_;rintro e' ki ⟨A6,c6,rfl,h6,l,e⟩;replace l:InK ki (fun b=> d.heap.size < b) A6 C:=InK.mono (fun b k=> s b k.1) (fun _ _=> rfl) l;replace Z:=Z.up e;refine hK.out _ _ Z.off (fun _=> ?_);refine H0 6 (by kernel_rfl) rfl rfl (fun K hK=> ?_)
     go_simp
     go_at_call 67
     refine(Qf _ g _ (L:Int) Z.2 (by omega)).mono ?_;rintro e si ⟨j,rfl,km,pz,R,o⟩;replace Z:=Z.tr o R;replace l:=l.dl o (bb (by have:=f.out;omega));clear o R;refine hK.out _ _ Z.off (fun _=> ?_);obtain⟨j,rfl⟩:=dP km;have G:j < L:=by omega
     have vx:(j:Int) <(L:Int):=by omega
     obtain⟨x1,x2,x3,x4,x5,D⟩:=HK.out j G;rw[Nat.mul_comm] at D;have F:=hdq (D.dw (r:=d.heap.size) (g:=g) k (ab (by have:=f.out;omega)));clear D;refine B3 [7,8,9] 1 (by kernel_rfl) Z.off (fun _ _ _ _ _ h=> h) ?_
     iterate 3 (refine tk rfl (by rfl) (by intro w X;have Q:=F.out _ X;go_simp;(try with_reducible rfl)) ?_;try simp only[W2])
     have R:=cbn (Z.br br (by have:=f.out;omega));refine H0 10 (by kernel_rfl) rfl rfl (fun K hK=> ?_)
     go_simp
     refine hK.out _ _ (Z.off.set3 _ _ _) (fun _=> ?_);refine bO (by kernel_rfl) ?_ _;have Q:=F.out _ Z.off;go_wp2_with fail;exact Zb (by simp[aS,results66,go_sem,R]) (T.out j G) rfl h6 l Q.i Y Z f.out (aP _) (by omega) rfl
 go_wp2_with fail;refine(Qf _ g _ 4 Z.2 (by omega)).mono ?_;rintro e H ⟨y,rfl,hy0,hy1,R,o⟩;replace Z:=Z.tr o R;clear o R;go_wp2_with fail;refine(PD y _).mono ?_;rintro e w4 ⟨b1,b2,p,rfl,hp,S1,M,e⟩;replace Z:=Z.up e;obtain⟨q,I,P,r2,n1,n2,J,S,q1,E,V⟩:=du p hp;have u:=hdq (fun W (z:Ext w4 W)=> mA p.1 b1 W (S1.ext z) n1 J);have T:=hdq (fun i hi=> BQ.txt (i:=i) I P r2 (by omega) hi);have HY:=hdq (mA p.2 b2 w4 M n2 S);clear S1 M I P r2 J S hp;generalize p.1.length=P1 at*;generalize p.2.length=P2 at*;generalize Ub p.1=C at*;generalize Ub p.2=Rt at*;go_wp2_with fail;have s:=Z.news br;refine(HY.out).mono ?_;rintro e O ⟨A,c,rfl,hA,K,e⟩;replace Z:=Z.up e;replace K:InK O (fun b=> d.heap.size < b) A Rt:=InK.mono (fun b k=> s b k.1) (fun _ _=> rfl) K;obtain⟨b,oq,rfl,k,hk⟩:=ae K E;obtain⟨L,hL⟩: ∃L,Rt.length=L:=⟨_,rfl⟩;rw[hL] at hk hA E V T⊢;have HK:=hdq hk;have ji:(0:Int) <(L:Int):=by omega
 have B:=hA.2.1;unfold maxLen at B;have O3:=hA.1;replace br:=Z.br br (by have:=f.out;omega);replace Y:=Y.trans Z.1;replace u:=hdq (fun W z=> u.out W (e.trans z));replace Z:=Z.id;clear hk K hA hL HY e;go_wp2_with fail;refine Oe d.heap.size (by kernel_rfl) Z fun w6 e Z=> ?_
 refine B3 [0,2,3,4,5] 6 (by kernel_rfl) Z.off (fun _ _ _ _ _ h=> h) ?_
 iterate 5 (refine tk rfl (by rfl) (by intro w X;go_simp;(try with_reducible rfl)) ?_;try simp only[W2])
 refine H0 1 (by kernel_rfl) rfl rfl (fun K hK=> ?_)
 go_simp
 replace s:=Z.news br
 go_at_call 98
 refine(u.out _ e).mono ?_;rintro e' w7 ⟨A6,c6,rfl,h6,l,e⟩;replace l:InK w7 (fun b=> d.heap.size < b) A6 C:=InK.mono (fun b k=> s b k.1) (fun _ _=> rfl) l;replace Z:=Z.up e;refine hK.out _ _ Z.off (fun _=> ?_);refine H0 6 (by kernel_rfl) rfl rfl (fun K hK=> ?_)
 go_simp
 go_at_call 67
 refine(Qf _ g _ (L:Int) Z.2 (by omega)).mono ?_;rintro e w8 ⟨j,rfl,km,pz,R,o⟩;replace Z:=Z.tr o R;replace l:=l.dl o (bb (by have:=f.out;omega));clear o R;refine hK.out _ _ Z.off (fun _=> ?_);obtain⟨j,rfl⟩:=dP km;have G:j < L:=by omega
 have vx:(j:Int) <(L:Int):=by omega
 obtain⟨x1,x2,x3,x4,x5,D⟩:=HK.out j G;rw[Nat.mul_comm] at D;have F:=hdq (D.dw (r:=d.heap.size) (g:=g) k (ab (by have:=f.out;omega)));clear D;refine B3 [7,8,9] 1 (by kernel_rfl) Z.off (fun _ _ _ _ _ h=> h) ?_
 iterate 3 (refine tk rfl (by rfl) (by intro w X;have Q:=F.out _ X;go_simp;(try with_reducible rfl)) ?_;try simp only[W2])
 have R:=cbn (Z.br br (by have:=f.out;omega));refine H0 10 (by kernel_rfl) rfl rfl (fun K hK=> ?_)
 go_simp
 refine hK.out _ _ (Z.off.set3 _ _ _) (fun _=> ?_);refine bO (by kernel_rfl) ?_ _;have Q:=F.out _ Z.off;go_wp2_with fail;exact Zb (by simp[aS,results66,go_sem,R]) (T.out j G) rfl h6 l Q.i Y Z f.out (aP _) (by omega) rfl
end Go.Proofs.YtckhbnmfnpolgaaGreat
namespace Go.Proofs.YtckhbnmfnpolgaaGreat
open Go.RowKit
open M (Hd HR Cv Ty j2 rc a7 O5 dep DG fvb)
def M1(t a:Tr):Prop:=a=t\/a= .mk 8 0 [t]\/(∃k n,a= .mk k n [])\/ ∃k n b A B,t= .mk k n [A,B]/\a= .mk 5 b [A,B]
theorem M1.sg{a c:M.Tm}(h:M1 (enc a) (enc c))(k:SG a):SG c:=by
 rcases h with h|h|⟨q,n,h⟩ |⟨q,n,e,A,B,b,d⟩
 · rw[wd h];exact k
 · cases c <;> simp only[enc,Tr.mk.injEq,List.cons.injEq] at h <;> first|(exact absurd h.1 (by decide)) |skip
   rw[wd h.2.2.1];exact k
 · cases c <;> simp only[enc,Tr.mk.injEq] at h <;> first|trivial|(exact absurd h.2.2 (by simp))
 · cases c <;> simp only[enc,Tr.mk.injEq,List.cons.injEq] at d <;> first|(exact absurd d.1 (by decide)) |skip
   rename_i f x
   obtain⟨-,-,rfl,rfl,-⟩:=d;cases a <;> simp only[enc,Tr.mk.injEq,List.cons.injEq,and_true,reduceCtorEq,and_false] at b
   case pi A B=> rw[<-wd b.2.2.1,<-wd b.2.2.2];exact⟨k.2.1,k.2.2⟩
   case lam A B=> rw[<-wd b.2.2.1,<-wd b.2.2.2];exact⟨k.2.1,k.2.2⟩
   case sg A B=> rw[<-wd b.2.2.1,<-wd b.2.2.2];exact⟨k.2.1,k.2.2⟩
   case app A B=> rw[<-wd b.2.2.1,<-wd b.2.2.2];exact k
theorem sI{t u:M.Tm}{k n:Int}{a:List Tr}{i:Nat}(h:enc t= .mk k n a)(hi:i < a.length):enc (zp t i u)= .mk k n (a.set i (enc u)):=by
 cases t <;> simp only[enc,Tr.mk.injEq] at h <;> obtain⟨rfl,rfl,rfl⟩:=h <;> simp only[List.length_cons,List.length_nil] at hi <;> first|omega|skip
 all_goals(rcases i with _|_|_|_|i <;> first|rfl|omega)
theorem MR.m1{t c:Tr}(h:MR t c)(v:valid sigT t=true)(l:valid sigT c=true):M1 t c:=by
 have q:=(N4 l).1;cases h with
 | @kind k n y a b=>
  have e:S0 y=(a.length:Int):=(m6 q).1;simp only[gU,gM,or_false] at b;rcases b with rfl|rfl|rfl|rfl|rfl
  · have:S0 0= -1:=rfl
    omega
  · have:S0 17= -1:=rfl
    omega
  · have:S0 1=0:=rfl
    have:a= []:=bW (by omega);subst this;exact .inr (.inr (.inl ⟨_,_,rfl⟩))
  · have:S0 5=2:=rfl
    match a,(by omega:a.length=2) with
    | [A,B],_=> exact .inr (.inr (.inr ⟨_,_,_,_,_,rfl,rfl⟩))
  · have:S0 6=0:=rfl
    have:a= []:=bW (by omega);subst this;exact .inr (.inr (.inl ⟨_,_,rfl⟩))
 | @num k n y a b=>
  obtain⟨e,o,f,-⟩:=m6 q;have e:S0 k=(a.length:Int):=e;have f:y<=Za k:=f;by_cases hk:a= []
  · subst hk
    exact .inr (.inr (.inl ⟨_,_,rfl⟩))
  · exfalso
    have hl:=List.length_pos_iff.2 hk;have hm:Za k=0:=by
     unfold Za;by_cases g:k=1
     · subst g
       have:S0 1=0:=rfl;omega
     · by_cases d:k=2
       · subst d
         have:S0 2=0:=rfl;omega
       · rw[if_neg g,if_neg d]
    simp only[gU,gM,or_false] at b;omega
 | @more k n a=>
  have m:S0 k=(a.length:Int):=(m6 (N4 v).1).1;have j:S0 k=((a++ [.mk 7 0 []]:List Tr).length:Int):=(m6 q).1;simp only[List.length_append,List.length_singleton] at j;omega
 |succ=> exact .inr (.inl rfl)
 | @var k n a hk=>
  exfalso
  have hl:=List.length_pos_iff.2 hk;have:=(m6 q).2.2.2 (.mk 1 25 []) (List.mem_of_getElem? (i:=0) (by simp[hl]))
  revert this
  decide
 |same=> exact .inl rfl
inductive M5 (G:List M.Tm) (a:M.Tm):List Tr->Tr->Prop where
 |same {t}:M1 (enc a) t->M5 G a (ctxE G) t
 |tail {t}:M1 (enc a) t->M5 G a (ctxE G).tail t
 |last {t u}:(∀A,u=enc A->dep A<=4)->M1 (enc a) t->M5 G a (ctxE G++ [u]) t
 |long {t n}:M1 (enc a) t->M5 G a (ctxE G++iR n (.mk 6 0 [])) t
 |any {t}:(∀A,t=enc A->dep A<=4)->M5 G a (ctxE G) t
 |kid {k n ks i u}:enc a= .mk k n ks->i < ks.length->dep u<=4->M5 G a (ctxE G) (.mk k n (ks.set i (enc u)))
theorem SD.all3: ∀{ts:List Tr},(∀A,enc A∈ts->dep A<=3)-> ∀{us:List Tr},SD us->SD (ts++us)
 | [],_,us,h=> h
 |t::ts,k,us,h=>⟨fun A e=> by have:=k A (by simp[e]);omega,fun _ A e=> k A (by simp[e]),SD.all3 (fun A hA=> k A (by simp[hA])) h⟩
theorem mp{G:List M.Tm}(h:DG G 3): ∀A,enc A∈ctxE G->dep A<=3:=fun A hA=> by
 unfold ctxE at hA;rw[List.mem_reverse,List.mem_map] at hA;obtain⟨B,a,e⟩:=hA;rw[<-wd e];exact h B a
theorem M5.ok{G:List M.Tm}{a:M.Tm}{ctx:List Tr}{t:Tr}(p:Wb G a)(h:M5 G a ctx t):SD ctx/\ ∀D b,ctx=ctxE D->t=enc b->y6 D->valid sigT t=true->valid sigT (enc a)=true->Dr D b:=by
 obtain⟨l,g,m⟩:=p.ok;have j:=mp g;have st: ∀{t:Tr} {D:List M.Tm} {b:M.Tm},M1 (enc a) t->t=enc b->Dr D b:=fun k e=> .inl (M1.sg (e▸k) l)
 cases h with
 |same k=> exact⟨SD.of g,fun D b d c f hv _=> st k c⟩
 |tail k=> exact⟨by have:=SD.all3 (ts:=(ctxE G).tail) (fun A hA=> j A (List.mem_of_mem_tail hA)) (us:= []) trivial;simpa using this,fun D b d c f hv _=> st k c⟩
 |last i k=> exact⟨SD.all3 j ⟨fun A e=> i A e,fun q=> absurd rfl q,trivial⟩,fun D b d c f hv _=> st k c⟩
 | @long t n k=>
  refine⟨?_,fun D b d c f hv _=> st k c⟩;have:=SD.all3 (ts:=ctxE G++iR n (.mk 6 0 [])) (fun A hA=> by
   rcases List.mem_append.1 hA with hA|hA
   · exact j A hA
   · have:=lO hA
     rw[wd (u:= .nat) this]
     decide) (us:= []) trivial
  simpa using this
 |any i=> exact⟨SD.of g,fun D b d c f hv _=> by cases Wq d;exact .inr ⟨g,.inl (i b c)⟩⟩
 |kid e hi i=>
  refine⟨SD.of g,fun D b d c f hv o=> ?_⟩;cases Wq d
  rw[<-sI e hi] at c;rw[<-wd c];exact .inr ⟨g,.inr ⟨_,_,_,rfl,l,m f o,i⟩⟩
theorem Xl(a:M.Tm):dep a<=dT (enc a):=by
 induction a <;> simp only[dep,enc,dT,ku] <;> omega
theorem MW.m5{G:List M.Tm}{a:M.Tm}{ctx:List Tr}{t:Tr}(h:MW (ctxE G) (enc a) ctx t)(v:valid sigT (enc a)=true)(c:valid sigT t=true):M5 G a ctx t:=by
 have d: ∀{u:Tr},dT u<=4-> ∀A,u=enc A->dep A<=4:=fun h A e=> by
  subst e;exact bM (Xl A) h
 cases h with
 |same h=> exact .same (h.m1 v c)
 |tail e h=> subst e;exact .tail (h.m1 v c)
 |last b h=> exact .last (d b.2) (h.m1 v c)
 |long e h=> obtain⟨q,rfl⟩:=e;exact .long (h.m1 v c)
 |any h=> exact .any (d h.2)
 |kid e hi b=>
  obtain⟨u,rfl⟩:=Dm b.1;exact .kid e hi (d b.2 u rfl)
theorem MW.sd{G:List M.Tm}{a:M.Tm}{ctx:List Tr}{t:Tr}(b:Wb G a)(v:valid sigT (enc a)=true)(h:MW (ctxE G) (enc a) ctx t):SD ctx:=by
 have d: ∀{u:Tr},dT u<=4-> ∀A,u=enc A->dep A<=4:=fun h A e=> by
  subst e;exact bM (Xl A) h
 cases h with
 |same h=> exact(M5.ok b (.same (.inl rfl))).1
 |tail e h=> subst e;exact(M5.ok b (.tail (.inl rfl))).1
 |last c h=> exact(M5.ok b (.last (d c.2) (.inl rfl))).1
 |long e h=> obtain⟨q,rfl⟩:=e;exact(M5.ok b (.long (.inl rfl))).1
 |any h=> exact(M5.ok b (.same (.inl rfl))).1
 |kid e hi c=> exact(M5.ok b (.same (.inl rfl))).1
theorem jF{G:List M.Tm}{a:M.Tm}{ctx:List Tr}{t:Tr}(c:Wb G a)(v:valid sigT (enc a)=true)(h:MW (ctxE G) (enc a) ctx t): ∃f g r,Q0 (pc f ctx t) 10=some r/\Q0 (Ra g ctx t) 10=some r:=
 nD (h.sd c v) fun D b e i d hv=>(M5.ok c (h.m5 v hv)).2 D b e i d hv v

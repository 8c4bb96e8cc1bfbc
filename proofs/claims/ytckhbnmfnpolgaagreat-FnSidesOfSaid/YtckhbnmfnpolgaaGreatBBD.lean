/-
  Lemmas towards the law, 30: InfF, Dw, MAgN.
-/
import Derived.Test.YtckhbnmfnpolgaaGreatBBC
open Go renaming World->aK,maxLen->aU,results->aQ,wpAnyH_done->bP,heap_alloc_new->aR,Value->aS
open Go.World renaming alloc->aN,setCell->cP
open Nat renaming le_succ->aP,le_refl->aM,le_trans->bK,lt_of_lt_of_le->aX
open List renaming mem_cons_self->gX,getElem?_toArray->eM,getElem?_cons_zero->dV,getElem?_cons_succ->dP,setIfInBounds_toArray->aT,set_cons_zero->bM,set_cons_succ->bL
open Go.RowKit.Below renaming heap_setCell->aL
open Go.Proofs.Tryz
set_option linter.unusedVariables false
set_option maxHeartbeats 8000000
set_option maxRecDepth 100000
namespace Go.Proofs.YtckhbnmfnpolgaaGreat
open Go Go.RowKit
attribute [local go_sem ↓] Go.wp_at_zero Go.wp_at_succ
theorem vG{t:Tr}{k:Int}{q:Tr×Int}(h:d4 t k=q)(hc:q.2=0):q.1.kids.length=(O0 k).toNat/\j0 m0 q.1=true:=by
 have d:V0 (some (t,0)) k=some (q.1,0):=by
  show thn (some (t,0)) _=_
  unfold thn;rw[<-hc];simp[h]
 obtain⟨-,f,c⟩:=Yk d;exact⟨by omega,c⟩
theorem Mp{X:Tr×Int}{x:An}{K:Tr->Tr}{Y:Tr->An}{r:Tr×Int}(h:thn (some X) (fun s=> P3 x (K s) (Y s))=some r): ∃d,Hid (X.2=0->Ba x (K X.1)=some d)/\Hid (X.2≠0->d=X.2)/\Hid (d=0->X.2=0/\Y X.1=some r)/\Hid (d≠0->r=(E2,d)):=by
 obtain⟨d,f,i,j,c⟩:=nC h;exact⟨d,hdq f,hdq i,hdq j,hdq c⟩
theorem YD{wC:aK}{p1 p2:Nat}{A:Option Addr}{G:List Tr}{At:Option Addr}{f:List Tr}{ty:Nat->An}(k n:Int)(ca ct:Nat)(O:f.length<=ct)(l8:ct<=aU)(w0:aK)(N:Nat->Prop)(hJ:Rb wC w0 N p1 p2 A G At f ty)(j4:f.length=3)(r:Tr×Int)(h:bn ty (kd f 0)=some r):Calls prog 149 #[.agg #[.slice A G.length ca,.int .i64 k,.int .i64 n,.slice At f.length ct,.func (.func 105) #[] #[.pointer (some ⟨p1,0,none⟩),.pointer (some ⟨p2,0,none⟩)]]] w0 (N9 N w0 r):=by
 obtain⟨s,c,C,H,I⟩:=k8 h;clear h;obtain⟨b,o,rfl,-,⟨O3,N6,O6,O7,O9,K0⟩,⟨ax,Y7,Y6,Z2,aa,K1⟩,mh,ma,ml,mg,mj,K2⟩:=y20 hJ.hK j4;have hp:=FG j4;have I4:=hdq j4;clear j4;go_enter func149,ntmps149;go_wp2_with fail;generalize L:aN (aN w0 _) _=w1;obtain⟨p,br,S⟩:=Ue L.symm hJ.hN;have D:=hdq (hJ.keep p (g:=w0.heap.size+1) (aP _) (O1 br));clear hJ;have F:=hdq (both S (both (K0.up p (aP _)) (both (K1.up p (aP _)) (K2.up p (aP _)))));have X:=xr w1;have Q:=F.out _ X.off;clear S L K0 K1 K2;refine(Bx k n ca ct O l8 _ _ (D.out.ext X) 1 (by rw[I4.out];decide) 10 _ C.out).mono ?_;rintro e w2 ⟨u,rfl,hT,e⟩;replace X:=X.trans e;replace Q:=F.out _ X.off;obtain⟨ka,na,j⟩:=s;obtain⟨A1,c1,rfl,-,-,hK⟩:=InT.mk_iff.1 hT;clear hT;simp only at hK⊢;obtain⟨HC,t⟩ |rfl:=cz c
 · have R:=cbn (X.blk br)
   have R':=fun o=> cbn ((X.alloc o).blk br)
   go_wp2_with fail;exact ya (by simp[aQ,results149,go_sem,R,R']) (I.out HC.out) (((p.trans X).alloc _).set3 (aP _) _ _ _) rfl
 obtain⟨-,q,-⟩:=Yk C.out;have hq:=H.out rfl;simp only[Tr.kids] at q hq hK;have q:j.length=3:=by have:O0 10=3:=rfl;omega
 clear C H I;obtain⟨c,C,H,I⟩:=Ll hq;clear hq;obtain⟨b2,o2,rfl,V,⟨ul,sk,si,ui,un,F0⟩,⟨f11,f12,f13,f14,f15,F1⟩,f21,f22,f23,f24,f25,F2⟩:=y20 hK q;rw[q];clear hK q;go_wp2_with fail;generalize L:aN w2 _=w3;obtain⟨E,e⟩:=nb L;replace F:=hdq (both (rb F.out (X.trans e)) (both (U9 E (X.ne br)) (both (F0.fm V e) (both (F1.fm V e) (F2.fm V e)))));replace X:=X.trans e;replace D:=hdq (D.out.ext X);replace br:=X.blk br;replace p:=p.trans X;replace X:=xr w3;replace Q:=F.out _ X.off;clear L E e;clear F0 F1 F2 V;refine rgn (w0.heap.size+1) (by kernel_rfl) X ?_;replace X:=X.drew;refine W2 [0,1,2,3,4] 2 (by kernel_rfl) X.off (fun _ _ _ _ _ h=> h) ?_
 iterate 5 (refine tk rfl (by rfl) (by intro w X;have Q:=F.out _ X;go_simp;(try with_reducible rfl)) ?_;try simp only[I3])
 replace Q:=F.out _ X.off;refine H0 5 (by kernel_rfl) rfl rfl (fun K hK=> ?_)
 go_simp
 go_at_call 181
 refine(Rz k n ca ct O l8 _ _ (D.out.ext X) 0 (by rw[I4.out];decide) _ _ Q.2.2.1.i c C.out).mono ?_;rintro e w4 ⟨rfl,e⟩;replace X:=X.trans e;replace Q:=F.out _ X.off;refine hK.out _ _ X.off (fun _=> ?_);clear hK K;refine W2 [6] 0 (by kernel_rfl) X.off (fun _ _ _ _ _ h=> h) ?_;refine tk rfl (by rfl) (by intro w X;go_simp;(try with_reducible rfl)) ?_
 try simp only[I3]
 refine bP (by kernel_rfl) ?_ _;obtain⟨HC,t⟩ |rfl:=cz c
 · have R:=cbn (X.blk br)
   go_wp2_with fail;exact ya (by simp[aQ,results149,go_sem,R]) (I.out HC.out) ((p.trans X).set3 (aP _) _ _ _) rfl
 obtain⟨d,h1,h2,h3,h4⟩:=mp (H.out rfl);clear C H I;have C:=hdq h1;have H:=hdq h2;have I:=hdq h3;have H4:=hdq h4;clear h1 h2 h3 h4;go_wp2_with fail;generalize L:aN w4 _=w5;obtain⟨E,e⟩:=nb L;replace F:=hdq (both (rb F.out (X.trans e)) (U9 E (X.ne br)));replace X:=X.trans e;replace D:=hdq (D.out.ext X);replace br:=X.blk br;replace p:=p.trans X;replace X:=xr w5;replace Q:=F.out _ X.off;clear L E e;refine rgn (w0.heap.size+1) (by kernel_rfl) X ?_;replace X:=X.drew;refine W2 [0,1,2,3,4] 9 (by kernel_rfl) X.off (fun _ _ _ _ _ h=> h) ?_
 iterate 5 (refine tk rfl (by rfl) (by intro w X;have Q:=F.out _ X;go_simp;(try with_reducible rfl)) ?_;try simp only[I3])
 replace Q:=F.out _ X.off;refine Wi 12 63 10 #[true,true,true,true,true,true,true,true,true,true,true,true,false,false] 2 [.any,.any,.any,.any,.any,Sp.row (fun b=> N b/\b≠w0.heap.size+1) [kd f 0,kd j 1],Sp.tree (fun b=> N b/\b≠w0.heap.size+1) (.mk 5 0 [kd f 0,kd j 1]),Sp.two (fun b=> N b/\b≠w0.heap.size+1) (mkV (.mk 5 0 [kd f 0,kd j 1])).1 (.int .i64 (mkV (.mk 5 0 [kd f 0,kd j 1])).2),Sp.two (fun b=> N b/\b≠w0.heap.size+1) (mkV (.mk 5 0 [kd f 0,kd j 1])).1 (.int .i64 (mkV (.mk 5 0 [kd f 0,kd j 1])).2),Sp.tree (fun b=> N b/\b≠w0.heap.size+1) (mkV (.mk 5 0 [kd f 0,kd j 1])).1,Sp.val (.int .i64 (mkV (.mk 5 0 [kd f 0,kd j 1])).2),Sp.box w5.drew] [5,6,7,8,9,10,11] (fun w h=>(X.trans h).off) (by kernel_rfl) rfl rfl (fun _ _ _ _ h=> h) ?hx3 ?st3 ?fi3
 case hx3=>(intro a w z l B U;obtain⟨u8,J,h8⟩: ∃u,a.eval (.tmp 34)= .tuple #[u,.int .i64 (mkV (.mk 5 0 [kd f 0,kd j 1])).2]/\InT w (Mz _ z) (mkV (.mk 5 0 [kd f 0,kd j 1])).1 u:=U 8 34 (by kernel_rfl);replace J:=S4 J;exact⟨.int .i64 (mkV (.mk 5 0 [kd f 0,kd j 1])).2,Or.inl ⟨by rfl,fun w'' _=> by go_simp⟩,rfl⟩)
 case st3=>
  repeat' first|exact trivial|refine And.intro ⟨_,rfl, ?_⟩ ?_
  all_goals(intro a w z l B U;refine Ord.step_of rfl rfl ?_;intro K hK)
  · (have f35:=S4 (show a.eval (.tmp 35)= .agg #[.int .i64 O3,.int .i64 N6,.slice O6 O7 O9] from B 35 (by kernel_rfl));have f39:=S4 (show a.eval (.tmp 39)= .agg #[.int .i64 f11,.int .i64 f12,.slice f13 f14 f15] from B 39 (by kernel_rfl));go_simp;obtain⟨Y,h⟩:=k7 25 (Q.1.1.2.1.i.oldG' l) (Q.1.2.2.2.1.i.oldG' l) (Re Q.1.1.1.1 l);exact hK _ _ ⟨_,z,rfl,Ma l Y,_,2,rfl,aM _,by decide,h⟩)
  · (obtain⟨A5,c5,f5,kg,nt,kt⟩: ∃A c,a.eval (.tmp 40)= .slice A 2 c/\2<=c/\c<=aU/\InK w (Mz _ z) A [kd f 0,kd j 1]:=U 5 40 (by kernel_rfl);replace f5:=S4 f5;go_simp;go_at_call 56;refine(Oe w 5 A5 2 c5).mono ?_;rintro e w' ⟨rfl,Y⟩;exact hK _ _ ⟨_,z,rfl,Ma l Y,InT.mk_iff.2 ⟨_,_,rfl,kg,nt,kt.later Y⟩⟩)
  · (have h6:InT w (Mz _ z) (.mk 5 0 [kd f 0,kd j 1]) (a.eval (.tmp 41)):=U 6 41 (by kernel_rfl);obtain⟨_,_,_,_,_,f6⟩:=h6.three;rw[f6] at h6;replace f6:=S4 f6;go_simp;go_at_call 103;refine(Vf h6).mono ?_;rintro e w' ⟨_,_,_,_,_,rfl,hu,Y⟩;exact hK _ _ ⟨_,z,rfl,Ma l Y,_,rfl,hu⟩)
  · (obtain⟨u7,f7,h7⟩: ∃u,a.eval (.tmp 42)= .tuple #[u,.int .i64 (mkV (.mk 5 0 [kd f 0,kd j 1])).2]/\InT w (Mz _ z) (mkV (.mk 5 0 [kd f 0,kd j 1])).1 u:=U 7 42 (by kernel_rfl);replace f7:=S4 f7;go_simp;exact hK _ _ ⟨_,z,rfl,l.id,_,rfl,h7⟩)
  · (obtain⟨u8,J,h8⟩: ∃u,a.eval (.tmp 34)= .tuple #[u,.int .i64 (mkV (.mk 5 0 [kd f 0,kd j 1])).2]/\InT w (Mz _ z) (mkV (.mk 5 0 [kd f 0,kd j 1])).1 u:=U 8 34 (by kernel_rfl);replace J:=S4 J;go_simp;exact hK _ _ ⟨_,z,rfl,l.id,h8⟩)
  · (obtain⟨u8,J,h8⟩: ∃u,a.eval (.tmp 34)= .tuple #[u,.int .i64 (mkV (.mk 5 0 [kd f 0,kd j 1])).2]/\InT w (Mz _ z) (mkV (.mk 5 0 [kd f 0,kd j 1])).1 u:=U 8 34 (by kernel_rfl);replace J:=S4 J;go_simp;exact hK _ _ ⟨_,z,rfl,l.id,rfl⟩)
  · (go_simp;exact hK _ _ ⟨_,_,rfl,EG.box l,_,rfl,gX ..,(show _<=w.heap.size from l.1.size),aR _ _⟩)
 case fi3=>
  intro v w' z l hG;have ht:InT w' (Mz _ z) (mkV (.mk 5 0 [kd f 0,kd j 1])).1 (v 9):=hG 9 (by decide) (by kernel_rfl);obtain⟨a1,a2,a3,a4,a5,D1⟩:=ht.three;rw[D1] at ht;obtain⟨gb,hv2,gz,bl,bx⟩: ∃g,v 11= .pointer (some ⟨g,0,none⟩)/\g∈z/\w5.drew.heap.size<=g/\w'.heap[g]? =_:=hG 11 (by decide) (by kernel_rfl);have hv3:v 10= .int .i64 (mkV (.mk 5 0 [kd f 0,kd j 1])).2:=hG 10 (by decide) (by kernel_rfl);simp only[List.foldl,Ord.dstOf,eM,dV,dP,Option.bind_some,Act.put,aT,bM,bL];rw[D1,hv2,hv3];replace ht:=(InT.mono (fun b (V:Mz _ z b)=>(⟨V.1,fun h=> V.2 (h▸gz)⟩:(fun b=> N b/\b≠w0.heap.size+1) b/\b≠gb)) (fun _ _=> rfl) ht).ret (.int .i64 a1) (.int .i64 a2) (.slice a3 a4 a5);have Z:=Xf X bl br;have X1:=X;replace X:=X.trans l.1;have Zx:=cbn bx;clear hG l gz D1 hv2;refine H0 12 (by kernel_rfl) rfl rfl (fun K hK=> ?_)
  go_simp
  have e:=Off.new3 X (bK X1.size bl) bx (.int .i64 a1) (.int .i64 a2) (.slice a3 a4 a5);refine hK.out _ _ e.1.off (fun _=> ?_);clear hK K Zx;replace X:=e.1;have E:=e.2;generalize cP (cP (cP w' _ _) _ _) _ _=w6 at*;refine W2 [13] 0 (by kernel_rfl) X.off (fun _ _ _ _ _ h=> h) ?_;refine tk rfl (by rfl) (by intro w X;go_simp;(try with_reducible rfl)) ?_
  try simp only[I3]
  refine bP (by kernel_rfl) ?_ _;clear bx e X1;replace F:=hdq (both (rb F.out X) (both (U9 E Z) (ht.up (xr _))));replace D:=hdq (D.out.ext X);replace br:=X.blk br;replace p:=p.trans X;replace X:=xr w6;replace Q:=F.out _ X.off;clear E ht Z bl;go_wp2_with fail;refine(kw k n ca ct O l8 _ _ (D.out.ext X) 2 (by rw[I4.out];decide) _ _ Q.2.2 _ d C.out H.out).mono ?_;rintro e w7 ⟨rfl,e⟩;replace X:=X.trans e;replace Q:=F.out _ X.off;obtain⟨HC,t⟩ |rfl:=cz d
  · have R:=cbn (X.blk br)
    go_wp2_with fail;exact ya (by simp[aQ,results149,go_sem,R]) (H4.out HC.out) ((p.trans X).set3 (aP _) _ _ _) rfl
  have HR:=hdq (Option.some.inj (I.out rfl));clear C H I H4;go_wp2_with fail;refine rgn (w0.heap.size+1) (by kernel_rfl) X ?_;replace X:=X.drew;refine W2 [0,1,2,3,4] 7 (by kernel_rfl) X.off (fun _ _ _ _ _ h=> h) ?_
  iterate 5 (refine tk rfl (by rfl) (by intro w X;have Q:=F.out _ X;go_simp;(try with_reducible rfl)) ?_;try simp only[I3])
  replace Q:=F.out _ X.off;refine H0 5 (by kernel_rfl) rfl rfl (fun K hK=> ?_)
  go_simp
  obtain⟨e,o7⟩:=k7 25 Q.1.1.1.2.1.i Q.1.1.2.2.2.2.i Q.1.1.1.1.1;replace X:=X.trans e;replace Q:=F.out _ X.off;refine hK.out _ _ X.off (fun _=> ?_);clear hK K;refine H0 6 (by kernel_rfl) rfl rfl (fun K hK=> ?_)
  go_simp
  go_at_call 56
  refine(Sm 5 o7 rfl).mono ?_;rintro e w8 ⟨rfl,hx,e⟩;replace X:=X.trans e;replace Q:=F.out _ X.off;refine hK.out _ _ X.off (fun _=> ?_);clear hK K;refine H0 7 (by kernel_rfl) rfl rfl (fun K hK=> ?_)
  go_simp
  go_at_call 103
  refine(Vf hx).mono ?_;rintro e w9 ⟨_,_,_,_,_,rfl,hz,e⟩;replace X:=X.trans e;replace Q:=F.out _ X.off;refine hK.out _ _ X.off (fun _=> ?_);clear hK K;refine W2 [8,9] 2 (by kernel_rfl) X.off (fun _ _ _ _ _ h=> h) ?_
  iterate 2 (refine tk rfl (by rfl) (by intro w X;go_simp;(try with_reducible rfl)) ?_;try simp only[I3])
  have R:=cbn (X.blk br);refine H0 10 (by kernel_rfl) rfl rfl (fun K hK=> ?_)
  go_simp
  refine hK.out _ _ (X.off.set3 _ _ _) (fun _=> ?_);clear hK K;refine W2 [11] 0 (by kernel_rfl) (X.off.set3 _ _ _) (fun _ _ _ _ _ h=> h) ?_;refine tk rfl (by rfl) (by intro w X;go_simp;(try with_reducible rfl)) ?_
  try simp only[I3]
  refine bP (by kernel_rfl) ?_ _;go_wp2_with fail;exact n7 (by simp[aQ,results149,go_sem,R]) (hz) (me HR.out.symm) (p.trans X) (aP _) rfl
theorem wG{wC:aK}{p1 p2:Nat}{A:Option Addr}{G:List Tr}{At:Option Addr}{f:List Tr}{ty:Nat->An}(k n:Int)(ca ct:Nat)(U:f.length<=ct)(l8:ct<=aU)(w0:aK)(N:Nat->Prop)(hJ:Rb wC w0 N p1 p2 A G At f ty)(j4:f.length=3)(hv0:j0 m0 (kd f 0)=true)(Y:j0 m0 (kd f 1)=true)(r:Tr×Int)(h:lo ty (kd f 0) (kd f 1)=some r):Calls prog 150 #[.agg #[.slice A G.length ca,.int .i64 k,.int .i64 n,.slice At f.length ct,.func (.func 105) #[] #[.pointer (some ⟨p1,0,none⟩),.pointer (some ⟨p2,0,none⟩)]]] w0 (N9 N w0 r):=by
 have gh:=hdq hv0;clear hv0;have nc:=hdq Y;clear Y;obtain⟨s,c,Z,H2,H3⟩:=k8 h;clear h;obtain⟨b,o,rfl,-,⟨O3,N6,O6,O7,O9,K0⟩,⟨ax,Y7,Y6,Z2,aa,K1⟩,mh,ma,ml,mg,mj,K2⟩:=y20 hJ.hK j4;have hp:=FG j4;have I4:=hdq j4;clear j4;go_enter func150,ntmps150;go_wp2_with fail;generalize hw:aN (aN w0 _) _=w1;obtain⟨C,br,S⟩:=Ue hw.symm hJ.hN;have H:=hdq (hJ.keep C (g:=w0.heap.size+1) (aP _) (O1 br));clear hJ;have F:=hdq (both S (both (K0.up C (aP _)) (both (K1.up C (aP _)) (K2.up C (aP _)))));have X:=xr w1;have Q:=F.out _ X.off;clear S hw K0 K1 K2;refine(DA k n ca ct U l8 _ _ (H.out.ext X) 0 (by rw[I4.out];decide) _ Z.out).mono ?_;rintro e w2 ⟨rfl,e⟩;replace X:=X.trans e;replace Q:=F.out _ X.off;simp only;obtain⟨HC,t⟩ |rfl:=cz c
 · have R:=cbn (X.blk br)
   go_wp2_with fail;exact ya (by simp[aQ,results150,go_sem,R]) (H3.out HC.out) ((C.trans X).set3 (aP _) _ _ _) rfl
 obtain⟨d,G1,G2,G3,G4⟩:=Mp (H2.out rfl);clear Z H2 H3;obtain⟨q,hq⟩: ∃q,d4 (kd f 0) 13=q:=⟨_,rfl⟩;rw[hq] at G1 G2 G3;have HQ:=hdq hq;have Cr:=hdq (fun hc=> vG hq hc);have io:=hdq (fun w M (hM: ∀b,w.heap.size<=b->M b) v (hv:Lies w (kd f 0) v)=>(show Calls prog 83 #[v,.int .i64 13] w (N9 M w q) from hq▸qB (kd f 0) 13 w M hM v hv));clear hq HQ;go_wp2_with fail;refine(io.out _ _ Q.1.1 _ Q.2.1.l).mono ?_;rintro e w3 ⟨u,rfl,hT,e⟩;replace X:=X.trans e;replace Q:=F.out _ X.off;obtain⟨u1,u2,u3,u4,u5,rfl⟩:=hT.three;simp only;go_wp2_with fail;generalize hw:aN w3 _=w4;obtain⟨bq,e⟩:=nb hw;replace F:=hdq (both (rb F.out (X.trans e)) (both (U9 bq (X.ne br)) (hT.up e)));replace X:=X.trans e;replace H:=hdq (H.out.ext X);replace br:=X.blk br;replace C:=C.trans X;replace X:=xr w4;replace Q:=F.out _ X.off;clear hw bq e;clear hT;refine rgn (w0.heap.size+1) (by kernel_rfl) X ?_;replace X:=X.drew;refine W2 [0,1,3] 3 (by kernel_rfl) X.off (fun _ _ _ _ _ h=> h) ?_
 iterate 3 (refine tk rfl (by rfl) (by intro w X;have Q:=F.out _ X;go_simp;(try with_reducible rfl)) ?_;try simp only[I3])
 replace Q:=F.out _ X.off;refine H0 2 (by kernel_rfl) rfl rfl (fun K hK=> ?_)
 go_simp
 go_at_call 146
 refine(EA _ _ _ _ Q.2.2).mono ?_;rintro e w5 ⟨u,rfl,hx,e⟩;replace X:=X.trans e;replace Q:=F.out _ X.off;refine hK.out _ _ X.off (fun _=> ?_);clear hK K;obtain⟨_,_,_,_,_,rfl⟩:=hx.three;refine H0 4 (by kernel_rfl) rfl rfl (fun K hK=> ?_)
 go_simp
 go_at_call 145
 refine(kw k n ca ct U l8 _ _ (H.out.ext X) 1 (by rw[I4.out];decide) _ _ hx _ d G1.out G2.out).mono ?_;rintro e w6 ⟨rfl,e⟩;replace X:=X.trans e;replace Q:=F.out _ X.off;refine hK.out _ _ X.off (fun _=> ?_);clear hK K;refine W2 [5] 0 (by kernel_rfl) X.off (fun _ _ _ _ _ h=> h) ?_;refine tk rfl (by rfl) (by intro w X;go_simp;(try with_reducible rfl)) ?_
 try simp only[I3]
 refine bP (by kernel_rfl) ?_ _;clear hx;obtain⟨HC,t⟩ |rfl:=cz d
 · have R:=cbn (X.blk br)
   go_wp2_with fail;exact ya (by simp[aQ,results150,go_sem,R]) (G4.out HC.out) ((C.trans X).set3 (aP _) _ _ _) rfl
 obtain⟨hc,hy⟩:=G3.out (by trivial);obtain⟨D,hv⟩:=Cr.out hc;have hT:=Q.2.2;obtain⟨⟨ka,na,j⟩,qc⟩:=q;simp only at hc hy D hv hT;subst hc;obtain⟨A1,cq,V,-,-,hK⟩:=InT.mk_iff.1 hT;obtain⟨rfl,rfl,rfl,rfl,rfl⟩:u1=ka/\u2=na/\u3=A1/\u4=j.length/\u5=cq:=by simpa using V
 have D:j.length=2:=D;have Y3:=hdq (show j0 m0 (kd j 1)=true from Cd hv (i:=1) (by simp only[Tr.kids];omega));clear G1 G2 G3 G4 Cr io hT V hv;simp only[Tr.kids] at hy;obtain⟨b2,o2,rfl,hb,-,f11,I,p,f14,f15,F1⟩:=q17 hK D;have HF:=hdq (fun w' (h:Off (w0.heap.size+1) w6 w')=>(KA.off F1 hb.2 (fun _ h=> h.2) w' h));obtain⟨d,h1,h2,h3,h4⟩:=mp hy;have Z:=hdq h1;have H2:=hdq h2;have H3:=hdq h3;have H4:=hdq h4;have HL:=hdq D;clear hK F1 hb hy h1 h2 h3 h4;replace F:=hdq (both (rb F.out X) HF.out);replace H:=hdq (H.out.ext X);replace br:=X.blk br;replace C:=C.trans X;replace X:=xr w6;replace Q:=F.out _ X.off;clear HF;have hp1:(1:Int) <(j.length:Int)/\1 < j.length:=by omega
 clear D;go_wp2_with fail;refine rgn (w0.heap.size+1) (by kernel_rfl) X ?_;replace X:=X.drew;refine W2 [0,1,2,3,4,5,6,7,8] 10 (by kernel_rfl) X.off (fun _ _ _ _ _ h=> h) ?_
 iterate 9 (refine tk rfl (by rfl) (by intro w X;have Q:=F.out _ X;go_simp;(try with_reducible rfl)) ?_;try simp only[I3])
 replace Q:=F.out _ X.off;refine Wi 17 67 15 #[true,true,true,true,true,true,true,true,true,true,true,true,true,true,true,true,true,false,false] 2 [.any,.any,.any,.any,.any,.any,.any,.any,.any,Sp.two (fun b=> N b/\b≠w0.heap.size+1) (okT (Q0 (kd f 1) (kd j 1) 0 0)) (.bool (j0 m0 (Q0 (kd f 1) (kd j 1) 0 0))),Sp.tree (fun b=> N b/\b≠w0.heap.size+1) (okT (Q0 (kd f 1) (kd j 1) 0 0)),Sp.val (.bool (j0 m0 (Q0 (kd f 1) (kd j 1) 0 0))),Sp.two (fun b=> N b/\b≠w0.heap.size+1) (mkV (Q0 (kd f 1) (kd j 1) 0 0)).1 (.int .i64 (mkV (Q0 (kd f 1) (kd j 1) 0 0)).2),Sp.two (fun b=> N b/\b≠w0.heap.size+1) (mkV (Q0 (kd f 1) (kd j 1) 0 0)).1 (.int .i64 (mkV (Q0 (kd f 1) (kd j 1) 0 0)).2),Sp.tree (fun b=> N b/\b≠w0.heap.size+1) (mkV (Q0 (kd f 1) (kd j 1) 0 0)).1,Sp.val (.int .i64 (mkV (Q0 (kd f 1) (kd j 1) 0 0)).2),Sp.box w6.drew] [9,10,11,12,13,14,15,16] (fun w h=>(X.trans h).off) (by kernel_rfl) rfl rfl (fun _ _ _ _ h=> h) ?hx4 ?st4 ?fi4
 case hx4=>(intro a w z B E J;obtain⟨u13,p,G6⟩: ∃u,a.eval (.tmp 38)= .tuple #[u,.int .i64 (mkV (Q0 (kd f 1) (kd j 1) 0 0)).2]/\InT w (Mz _ z) (mkV (Q0 (kd f 1) (kd j 1) 0 0)).1 u:=J 13 38 (by kernel_rfl);replace p:=S4 p;exact⟨.int .i64 (mkV (Q0 (kd f 1) (kd j 1) 0 0)).2,Or.inl ⟨by rfl,fun w'' _=> by go_simp⟩,rfl⟩)
 case st4=>
  repeat' first|exact trivial|refine And.intro ⟨_,rfl, ?_⟩ ?_
  all_goals(intro a w z B E J;refine Ord.step_of rfl rfl ?_;intro K hK)
  · (have f42:=S4 (show a.eval (.tmp 42)= .agg #[.int .i64 f11,.int .i64 I,.slice p f14 f15] from E 42 (by kernel_rfl));have f47:=S4 (show a.eval (.tmp 47)= .agg #[.int .i64 ax,.int .i64 Y7,.slice Y6 Z2 aa] from E 47 (by kernel_rfl));go_simp;go_at_call 119;refine(Ms Y3.out nc.out (Re Q.1.1.1.1 B) (Q.2.l.ext B.1) (Q.1.1.2.2.1.l.ext B.1)).mono ?_;rintro e w' ⟨_,_,_,_,_,rfl,V,e'⟩;exact hK _ _ ⟨_,z,rfl,Ma B e',_,rfl,V⟩)
  · (obtain⟨u9,f9,h9⟩: ∃u,a.eval (.tmp 48)= .tuple #[u,.bool (j0 m0 (Q0 (kd f 1) (kd j 1) 0 0))]/\InT w (Mz _ z) (okT (Q0 (kd f 1) (kd j 1) 0 0)) u:=J 9 48 (by kernel_rfl);replace f9:=S4 f9;go_simp;exact hK _ _ ⟨_,z,rfl,B.id,h9⟩)
  · (obtain⟨u9,f9,h9⟩: ∃u,a.eval (.tmp 48)= .tuple #[u,.bool (j0 m0 (Q0 (kd f 1) (kd j 1) 0 0))]/\InT w (Mz _ z) (okT (Q0 (kd f 1) (kd j 1) 0 0)) u:=J 9 48 (by kernel_rfl);replace f9:=S4 f9;go_simp;exact hK _ _ ⟨_,z,rfl,B.id,rfl⟩)
  · (have O:InT w (Mz _ z) (okT (Q0 (kd f 1) (kd j 1) 0 0)) (a.eval (.tmp 49)):=J 10 49 (by kernel_rfl);obtain⟨_,_,_,_,_,L⟩:=O.three;rw[L] at O;replace L:=S4 L;have f11:=Ei (J 11 50 (by kernel_rfl)) rfl;go_simp;go_at_call 103;refine(Wl O).mono ?_;rintro e w' ⟨_,_,_,_,_,rfl,V,e'⟩;exact hK _ _ ⟨_,z,rfl,Ma B e',_,rfl,V⟩)
  · (obtain⟨u12,I,J3⟩: ∃u,a.eval (.tmp 51)= .tuple #[u,.int .i64 (mkV (Q0 (kd f 1) (kd j 1) 0 0)).2]/\InT w (Mz _ z) (mkV (Q0 (kd f 1) (kd j 1) 0 0)).1 u:=J 12 51 (by kernel_rfl);replace I:=S4 I;go_simp;exact hK _ _ ⟨_,z,rfl,B.id,_,rfl,J3⟩)
  · (obtain⟨u13,p,G6⟩: ∃u,a.eval (.tmp 38)= .tuple #[u,.int .i64 (mkV (Q0 (kd f 1) (kd j 1) 0 0)).2]/\InT w (Mz _ z) (mkV (Q0 (kd f 1) (kd j 1) 0 0)).1 u:=J 13 38 (by kernel_rfl);replace p:=S4 p;go_simp;exact hK _ _ ⟨_,z,rfl,B.id,G6⟩)
  · (obtain⟨u13,p,G6⟩: ∃u,a.eval (.tmp 38)= .tuple #[u,.int .i64 (mkV (Q0 (kd f 1) (kd j 1) 0 0)).2]/\InT w (Mz _ z) (mkV (Q0 (kd f 1) (kd j 1) 0 0)).1 u:=J 13 38 (by kernel_rfl);replace p:=S4 p;go_simp;exact hK _ _ ⟨_,z,rfl,B.id,rfl⟩)
  · (go_simp;exact hK _ _ ⟨_,_,rfl,EG.box B,_,rfl,gX ..,(show _<=w.heap.size from B.1.size),aR _ _⟩)
 case fi4=>
  intro v w' z B hG;have ht:InT w' (Mz _ z) (mkV (Q0 (kd f 1) (kd j 1) 0 0)).1 (v 14):=hG 14 (by decide) (by kernel_rfl);obtain⟨a1,a2,a3,a4,a5,Y⟩:=ht.three;rw[Y] at ht;obtain⟨gb,hv2,gz,bl,bx⟩: ∃g,v 16= .pointer (some ⟨g,0,none⟩)/\g∈z/\w6.drew.heap.size<=g/\w'.heap[g]? =_:=hG 16 (by decide) (by kernel_rfl);have hv3:v 15= .int .i64 (mkV (Q0 (kd f 1) (kd j 1) 0 0)).2:=hG 15 (by decide) (by kernel_rfl);simp only[List.foldl,Ord.dstOf,eM,dV,dP,Option.bind_some,Act.put,aT,bM,bL];rw[Y,hv2,hv3];replace ht:=(InT.mono (fun b (hb:Mz _ z b)=>(⟨hb.1,fun h=> hb.2 (h▸gz)⟩:(fun b=> N b/\b≠w0.heap.size+1) b/\b≠gb)) (fun _ _=> rfl) ht).ret (.int .i64 a1) (.int .i64 a2) (.slice a3 a4 a5);have hne:=Xf X bl br;have X1:=X;replace X:=X.trans B.1;have Zx:=cbn bx;clear hG B gz Y hv2;refine H0 17 (by kernel_rfl) rfl rfl (fun K hK=> ?_)
  go_simp
  have e:=Off.new3 X (bK X1.size bl) bx (.int .i64 a1) (.int .i64 a2) (.slice a3 a4 a5);refine hK.out _ _ e.1.off (fun _=> ?_);clear hK K Zx;replace X:=e.1;have bq:=e.2;generalize cP (cP (cP w' _ _) _ _) _ _=w7 at*;refine W2 [18] 0 (by kernel_rfl) X.off (fun _ _ _ _ _ h=> h) ?_;refine tk rfl (by rfl) (by intro w X;go_simp;(try with_reducible rfl)) ?_
  try simp only[I3]
  refine bP (by kernel_rfl) ?_ _;clear bx e X1;replace F:=hdq (both (rb F.out X) (both (U9 bq hne) (ht.up (xr _))));replace H:=hdq (H.out.ext X);replace br:=X.blk br;replace C:=C.trans X;replace X:=xr w7;replace Q:=F.out _ X.off;clear bq ht hne bl;go_wp2_with fail;refine(kw k n ca ct U l8 _ _ (H.out.ext X) 2 (by rw[I4.out];decide) _ _ Q.2.2 _ d Z.out H2.out).mono ?_;rintro e w8 ⟨rfl,e⟩;replace X:=X.trans e;replace Q:=F.out _ X.off;obtain⟨HC,t⟩ |rfl:=cz d
  · have R:=cbn (X.blk br)
    go_wp2_with fail;exact ya (by simp[aQ,results150,go_sem,R]) (H4.out HC.out) ((C.trans X).set3 (aP _) _ _ _) rfl
  have HR:=hdq (Option.some.inj (H3.out rfl));clear Z H2 H3 H4;have R:=cbn (X.blk br);go_wp2_with fail;exact n7 (by simp[aQ,results150,go_sem,R]) (Q.1.1.1.2.1.i) (HR.out.symm) (C.trans X) (aP _) rfl
end Go.Proofs.YtckhbnmfnpolgaaGreat
namespace Go.Proofs.YtckhbnmfnpolgaaGreat
open Go Go.RowKit
def DQ(w:aK)(g m:Nat)(P:Tr->Prop)(e:Ending)(w':aK):Prop:= ∃t u,e= .returned u/\P t/\j2 w.heap.size w' t u/\Rd w' g m/\X0 [g] w w'
def OfD(r g:Nat)(w w':aK):Prop:=w.heap.size<=w'.heap.size/\ ∀b,b < w.heap.size->b≠r->b≠g->w'.heap[b]? =w.heap[b]?
def St(W w:aK)(g m:Nat):Prop:=X0 [g] W w/\Rd w g m
section
variable {r g m m' b : Nat} {w w' w'' w0 w1 W : aK} {P Q : aK → Prop} {N : Nat → Prop} {t : Tr} {u x0 x1 x2 : aS} {o : Obj} {e : TypeId}
theorem X0.ofD(h:X0 [g] w w'):OfD r g w w':=⟨h.size,fun b d _ c=> h.block b d (by simpa using c)⟩
theorem OfD.trans(h:OfD r g w w')(k:OfD r g w' w''):OfD r g w w'':=⟨bK h.1 k.1,fun b d hr c=>(k.2 b (aX d h.1) hr c).trans (h.2 b d hr c)⟩
theorem OfD.set3(h:OfD r g w w')(x y z:aS):OfD r g w (((w'.setCell ⟨r,0,none⟩ x).setCell ⟨r,1,none⟩ y).setCell ⟨r,2,none⟩ z):=
 ⟨by simpa using h.1,fun c hc hr d=> by rw[aL _ _ _ _ hr,aL _ _ _ _ hr,aL _ _ _ _ hr];exact h.2 c hc hr d⟩
theorem St.of(h:Rd w g m)(e:Ext w w'):St w w' g m:=⟨oE e,h.ext e⟩
theorem St.id(h:St W w g m):St w w g m:=⟨X0.refl _ _,h.2⟩
theorem St.up(h:St W w g m)(e:Ext w w'):St W w' g m:=⟨h.1.trans (oE e),h.2.ext e⟩
theorem St.dr(h:St W w g m):St W w.drew g m:=h.up (xr _).drew
theorem St.tr(h:St W w g m)(o:X0 [g] w w')(R:Rd w' g m'):St W w' g m':=⟨h.1.trans o,R⟩
theorem St.off(h:St W w g m):OfD r g W w:=h.1.ofD
theorem St.br(Z:St W w g m)(d:W.heap[b]? =some o)(c:b≠g):w.heap[b]? =some o:=Z.1.keepBlk d (by simpa using c)
theorem St.news(Z:St W w g m)(hr:W.heap[r]? =some o): ∀b,w.heap.size<=b->r < b:=fun b c=> by
 have:=O1 hr;have:=Z.1.size;omega
theorem St.below{X:Nat}(Z:St W w g m)(c:Below X w w')(f:W.heap.size<=X)(d:g < X):St W w' g m:=⟨Z.1.below c f,Z.2.under c d⟩
theorem Xl(c:w.heap[b]? =some (.cells #[x0,x1,x2] e (0,0)))(hr:b≠r)(d:b≠g): ∀w',OfD r g w w'->w'.cell? ⟨b,0,none⟩=some x0/\w'.cell? ⟨b,1,none⟩=some x1/\w'.cell? ⟨b,2,none⟩=some x2/\b < w'.heap.size:=
 fun w' h=> cb3 ((h.2 b (O1 c) hr d).trans c)
theorem mC(F: ∀w',OfD r g w w'->P w')(Z:St w w1 g m): ∀w',OfD r g w1 w'->P w':=fun w' h=> F w' (Z.off.trans h)
theorem InT.dl(h:InT w N t u)(X:X0 [g] w w')(hN: ∀b,N b->b≠g):InT w' N t u:=InT.mono (fun b c=> c.1) (fun b c=> X.block b c.2 (by simpa using hN b c.1)) h.bound
theorem InT.dw(h:InT w N t u)(X:OfD r g w w')(hN: ∀b,N b->b≠r/\b≠g):InT w' N t u:=InT.mono (fun b c=> c.1) (fun b c=> X.2 b c.2 (hN b c.1).1 (hN b c.1).2) h.bound
theorem ab{r g:Nat}(h:g < r): ∀b,r < b->b≠r/\b≠g:=fun b c=> by omega
theorem La{r g:Nat}(h:g < r): ∀b,r < b->b≠g:=fun b c=> by omega
theorem DQ.at{T:Tr->Prop}{e:Ending}(h:DQ w g m' T e w')(Z:St W w g m)(hr:W.heap[r]? =some o): ∃t k n A l c,e= .returned (.agg #[.int .i64 k,.int .i64 n,.slice A l c])/\T t/\InT w' (fun b=> r < b) t (.agg #[.int .i64 k,.int .i64 n,.slice A l c])/\X0 [g] w w'/\St W w' g m':=by
 obtain⟨t,u,rfl,i,f,j,d⟩:=h;obtain⟨k,n,A,l,c,rfl⟩:=f.three;exact⟨t,k,n,A,l,c,rfl,i,InT.mono (fun b p=> Z.news hr b p.1) (fun _ _=> rfl) f,d,Z.tr d j⟩
def CQ(w:aK)(g m:Nat)(P:List Tr->Tr->Prop)(e:Ending)(w':aK):Prop:= ∃A n c d t u,e= .returned (.tuple #[.slice A n c,u])/\P d t/\d.length=n/\(n<=c/\c<=aU/\(A=none->c=0))/\Mb w.heap.size w' A d/\j2 w.heap.size w' t u/\Rd w' g m/\X0 [g] w w'
theorem CQ.at{T:List Tr->Tr->Prop}{e:Ending}(h:CQ w g m' T e w')(Z:St W w g m)(hN: ∀b,w.heap.size<=b->N b): ∃A n c f t k i B l d,e= .returned (.tuple #[.slice A n c,.agg #[.int .i64 k,.int .i64 i,.slice B l d]])/\T f t/\f.length=n/\(n<=c/\c<=aU/\(A=none->c=0))/\InK w' N A f/\InT w' N t (.agg #[.int .i64 k,.int .i64 i,.slice B l d])/\St W w' g m':=by
 obtain⟨A,n,c,f,t,u,rfl,q,C,D,s,p,E,v⟩:=h;obtain⟨k,i,B,l,d,rfl⟩:=p.three;exact⟨A,n,c,f,t,k,i,B,l,d,rfl,q,C,D,InK.mono (fun b j=> hN b j.1) (fun _ _=> rfl) s,InT.mono (fun b j=> hN b j.1) (fun _ _=> rfl) p,Z.tr v E⟩
end
section
variable {P : Program} {fn : Func} {a : Act} {w w0 W : aK} {g m m' r : Nat} {t : Tr} {u x y z : aS} {T : Tr → Prop} {o : Obj}
theorem db{A:Option Addr}{n c:Nat}{f:List Tr}{T:List Tr->Tr->Prop}(i:(aQ fn a.tmps).run P (((w.setCell ⟨r,0,none⟩ x).setCell ⟨r,1,none⟩ y).setCell ⟨r,2,none⟩ z)= .ok (.tuple #[.slice A n c,u]) (((w.setCell ⟨r,0,none⟩ x).setCell ⟨r,1,none⟩ y).setCell ⟨r,2,none⟩ z))
 (hP:T f t) (hn:f.length=n) (hA:n<=c/\c<=aU/\(A=none->c=0)) (hK:InK w (fun b=> r < b) A f) (hT:InT w (fun b=> r < b) t u) (Y:X0 [g] w0 W) (Z:St W w g m') (k:g < w0.heap.size) (hr:w0.heap.size<=r) (hm:m'<=m) (j:a.defers= []):bodyPost P fn (CQ w0 g m T) .ret a (((w.setCell ⟨r,0,none⟩ x).setCell ⟨r,1,none⟩ y).setCell ⟨r,2,none⟩ z):=by
 have hs: ∀b,r < b->b < w.heap.size->(((w.setCell ⟨r,0,none⟩ x).setCell ⟨r,1,none⟩ y).setCell ⟨r,2,none⟩ z).heap[b]? =w.heap[b]? :=fun b d _=> by
  have:b≠r:=by omega
  rw[aL _ _ _ _ this,aL _ _ _ _ this,aL _ _ _ _ this]
 exact bodyPost_ret i j ⟨A,n,c,f,t,u,rfl,hP,hn,hA,InK.mono (fun b d=>⟨by omega,by simpa using d.2⟩) (fun b d=> hs b d.1 d.2) hK.bound,InT.mono (fun b d=>⟨by omega,by simpa using d.2⟩) (fun b d=> hs b d.1 d.2) hT.bound,(((Z.2.mono hm).set (by show g < r;omega) _).set (by show g < r;omega) _).set (by show g < r;omega) _,(((Y.trans Z.1).setNew hr _).setNew hr _).setNew hr _⟩
theorem KA.dw{N:Nat->Prop}{w:aK}{b o:Nat}{t:Tr}{x1 x2:Int}{d:Option Addr}{c i:Nat}(h:KA w N b o t x1 x2 d c i)(f:N b)(hN: ∀b,N b->b≠r/\b≠g): ∀w',OfD r g w w'->KA w' N b o t x1 x2 d c i:=fun w' X=> by
 have hc: ∀{j:Nat} {v:aS},w.cell? ⟨b,j,none⟩=some v->w'.cell? ⟨b,j,none⟩=some v:=fun{j v} hc=>(World.cell?_of_block (w:=w) (a:=⟨b,j,none⟩) (X.2 b h.2.2.2.1 (hN b f).1 (hN b f).2)).trans hc
 exact⟨hc h.1,hc h.2.1,hc h.2.2.1,aX h.2.2.2.1 X.1,h.2.2.2.2.dw X hN⟩
theorem InK.nil'(w:aK)(N:Nat->Prop)(A:Option Addr):InK w N A []:= .inl rfl
theorem InK.tail{N:Nat->Prop}{w:aK}{b o:Nat}{t:Tr}{c:List Tr}(h:InK w N (some ⟨b,o,none⟩) (t::c)):InK w N (some ⟨b,o+3,none⟩) c:=by
 rcases h with h|⟨i,j,d,f,hl⟩
 · cases h
 · simp only[Option.some.injEq,Addr.mk.injEq,and_true] at d
   obtain⟨rfl,rfl⟩:=d;exact .inr ⟨b,o+3,rfl,f,O4.drop 1 hl⟩
theorem KA.ex{N:Nat->Prop}{w w':aK}{b o:Nat}{t:Tr}{x1 x2:Int}{d:Option Addr}{c f:Nat}(h:KA w N b o t x1 x2 d c f)(e:Ext w w'):KA w' N b o t x1 x2 d c f:=
 ⟨e.cell h.1,e.cell h.2.1,e.cell h.2.2.1,aX h.2.2.2.1 e.size,h.2.2.2.2.later e⟩
theorem Vd{id:Nat}{ops:Array Oper}{Q:Exit->Act->aK->Prop}(r:Nat)(hm:P.follows .mixedOrders=true)(Z:St W w g m)(h: ∀w',Ext w w'->St W w' g m->wpAnyH P .any ops Q (OfD r g W) ops.size (Array.replicate ops.size false) a w'):(Code.region id ops true).wp P Q a w:=
 wp_region_held_drew hm Z.dr.off fun _=> h _ (xr _).drew Z.dr
theorem Na(d:(aQ fn a.tmps).run P (((w.setCell ⟨r,0,none⟩ x).setCell ⟨r,1,none⟩ y).setCell ⟨r,2,none⟩ z)= .ok u (((w.setCell ⟨r,0,none⟩ x).setCell ⟨r,1,none⟩ y).setCell ⟨r,2,none⟩ z))
 (hP:T t) (hT:InT w (fun b=> r < b) t u) (Y:X0 [g] w0 W) (Z:St W w g m') (i:g < w0.heap.size) (hr:w0.heap.size<=r) (hm:m'<=m) (f:a.defers= []):bodyPost P fn (DQ w0 g m T) .ret a (((w.setCell ⟨r,0,none⟩ x).setCell ⟨r,1,none⟩ y).setCell ⟨r,2,none⟩ z):=
 bodyPost_ret d f ⟨t,u,rfl,hP,InT.mono (fun b c=>⟨by omega,by simpa using c.2⟩) (fun b c=> by
  have:b≠r:=by omega
  rw[aL _ _ _ _ this,aL _ _ _ _ this,aL _ _ _ _ this]) hT.bound,(((Z.2.mono hm).set (by show g < r;omega) _).set (by show g < r;omega) _).set (by show g < r;omega) _,(((Y.trans Z.1).setNew hr _).setNew hr _).setNew hr _⟩
end
theorem St.new3{W w:aK}{g m b:Nat}{x0 x1 x2:aS}{e:TypeId}(Z:St W w g m)(j:W.heap.size<=b)(i:g < b)(h:w.heap[b]? =some (.cells #[x0,x1,x2] e (0,0)))(f c d:aS):
 St W (((w.setCell ⟨b,0,none⟩ f).setCell ⟨b,1,none⟩ c).setCell ⟨b,2,none⟩ d) g m/\(((w.setCell ⟨b,0,none⟩ f).setCell ⟨b,1,none⟩ c).setCell ⟨b,2,none⟩ d).heap[b]? =some (.cells #[f,c,d] e (0,0)):=
 ⟨⟨((Z.1.setNew j _).setNew j _).setNew j _,((Z.2.set i _).set i _).set i _⟩,M6 (M6 (M6 h 0 f) 1 c) 2 d⟩
theorem Hy{w:aK}{N:Nat->Prop}{t1 t2 B C:Tr}{j A f q p v l d s n k i:aS}(e:TypeId)(D:InT w N t1 (.agg #[j,A,f]))(H:InT w N t2 (.agg #[q,p,v]))(I:InT w N B (.agg #[l,d,s]))(F:InT w N C (.agg #[n,k,i]))(hN: ∀b,w.heap.size<=b->N b):
 Ext w (w.alloc (.cells #[j,A,f,q,p,v,l,d,s,n,k,i] e))/\InK (w.alloc (.cells #[j,A,f,q,p,v,l,d,s,n,k,i] e)) N (some ⟨w.heap.size,0,none⟩) [t1,t2,B,C]:=by
 have E:=(xr w).alloc (.cells #[j,A,f,q,p,v,l,d,s,n,k,i] e);have c:=aR w (.cells #[j,A,f,q,p,v,l,d,s,n,k,i] e);exact⟨E,.inr ⟨w.heap.size,0,rfl,hN _ (aM _),⟨⟨_,_,_,i1 c 0,i1 c 1,i1 c 2,D.later E⟩,⟨_,_,_,i1 c 3,i1 c 4,i1 c 5,H.later E⟩,⟨_,_,_,i1 c 6,i1 c 7,i1 c 8,I.later E⟩,⟨_,_,_,i1 c 9,i1 c 10,i1 c 11,F.later E⟩,trivial⟩⟩⟩
theorem Zr{P:Program}{ops:Array Oper}{Q:Exit->Act->aK->Prop}{S:aK->Prop}{w:aK}{l:Array Bool}{a:Act}{f:Nat}{d c:Oper}(i j:Nat)(hr:Region.ready .any ops l= [i,j])(q:ops[i]? =some d)(p:ops[j]? =some c)(n:d.guard=none)(k:c.guard=none)
 (h: ∀K:Act->aK->Prop,Shut (∀a w,S w->(S w->wpAnyH P .any ops Q S f (l.setIfInBounds i true) a w)->K a w)->d.wp P a w K Q)
 (s: ∀K:Act->aK->Prop,Shut (∀a w,S w->(S w->wpAnyH P .any ops Q S f (l.setIfInBounds j true) a w)->K a w)->c.wp P a w K Q):wpAnyH P .any ops Q S (f+1) l a w:=by
 refine wpAnyH_ready hr (by simp) (AllReadyH.cons q (fun K hK=> ?_) (AllReadyH.cons p (fun K hK=> ?_) AllReadyH.nil))
 · rw[if_pos (by unfold Region.wanted;rw[n])]
   exact h K hK
 · rw[if_pos (by unfold Region.wanted;rw[k])]
   exact s K hK
theorem InK.dl{N:Nat->Prop}{g:Nat}{w w':aK}{A:Option Addr}{d:List Tr}(h:InK w N A d)(X:X0 [g] w w')(hN: ∀b,N b->b≠g):InK w' N A d:=InK.mono (fun b c=> c.1) (fun b c=> X.block b c.2 (by simpa using hN b c.1)) h.bound
theorem WI{w:aK}{g m:Nat}{cs:Array aS}(e:TypeId)(ns:List Int)(hc:cs.toList=ns.map (Value.int .i64))(R:Rd w g m):Ext w (w.alloc (.cells cs e))/\Qa (w.alloc (.cells cs e)) (some ⟨w.heap.size,0,none⟩) ns/\w.heap.size≠g:=
 ⟨(xr w).alloc _,OG (aR w _) hc,by have:=R.lt;omega⟩
theorem Wv{w:aK}{g m b:Nat}{ns:List Int}(N:Qa w (some ⟨b,0,none⟩) ns/\b≠g)(hn:(decide (0 < ns.length)&& decide (ns.length < 100))=true)(R:Rd w g m)(hm:m < 1125899906842624):
 Calls prog 100 #[.pointer (some ⟨g,0,none⟩),.slice (some ⟨b,0,none⟩) ns.length ns.length] w fun e w'=> ∃x:Int,e= .returned (.int .i64 x)/\x∈ns/\X0 [g] w w'/\Rd w' g (m+1):=by
 simp only[Bool.and_eq_true,decide_eq_true_eq] at hn;exact(an _ g m R hm _ ns.length ns (aM _) (by unfold aU;omega) hn.1 N.1 (by intro b o f;simp at f;have:=N.2;omega)).mono fun e w' ⟨x,d,i,j,c⟩=>⟨x,d,i,c,j⟩
theorem numD{w:aK}{g m:Nat}{cs:Array aS}{e:TypeId}(ns:List Int)(hc:cs.toList=ns.map (Value.int .i64))(hn:(decide (0 < ns.length)&& decide (ns.length < 100))=true)(R:Rd w g m)(hm:m < 1125899906842624):
 Calls prog 100 #[.pointer (some ⟨g,0,none⟩),.slice (some ⟨w.heap.size,0,none⟩) ns.length ns.length] (w.alloc (.cells cs e)) fun e w'=> ∃x:Int,e= .returned (.int .i64 x)/\x∈ns/\X0 [g] w w'/\Rd w' g (m+1):=by
 simp only[Bool.and_eq_true,decide_eq_true_eq] at hn;have c:=(xr w).alloc (.cells cs e);have:=R.lt;exact(an _ g m (R.ext c) hm _ ns.length ns (aM _) (by unfold aU;omega) hn.1 (OG (aR w _) hc) (by intro b o k;simp at k;omega)).mono fun e w' ⟨x,d,i,j,f⟩=>⟨x,d,i,(oE c).trans f,j⟩
end Go.Proofs.YtckhbnmfnpolgaaGreat
namespace Go.Proofs.YtckhbnmfnpolgaaGreat
open Go.RowKit
open M (Hd HR Cv Ty M2 zc y6 W4)
def Ag(G:List M.Tm)(t:M.Tm):Prop:= ∀f c,Rl False (M0 f (ctxE G) (enc t)) (N0 c (ctxE G) (enc t))
def Tg(G:List M.Tm)(t:M.Tm):Prop:= ∀f,Ze (M0 f (ctxE G) (enc t))
theorem Tg.of{G:List M.Tm}{t A:M.Tm}(hG:X6 G)(hv:j0 m0 (enc t)=true)(h:Ty G t A)(l:M2 G t):Tg G t:=fun f s c e=> by
 rcases Yi f G t A hG hv h l s c e with rfl|rfl <;> decide
def Vt(G:List M.Tm):M.Tm->Prop
 | .pi A B=> Ag G A/\(y6 G A->G.length < 20->Ag (A::G) B)
 | .lam A B=> Ag G A/\(y6 G A->G.length < 20->Ag (A::G) B)
 | .sg A B=> Ag G A/\(y6 G A->G.length < 20->Ag (A::G) B)
 | .app f a=> Ag G f/\Ag G a
 | .succ a=> Ag G a
 | .elim p z s a=> Ag G p/\Ag G z/\Ag G s/\Ag G a
 | .id T a b=> Ag G T/\Ag G a/\Ag G b
 | .refl a=> Ag G a
 | .move p e a=> Ag G p/\Ag G e/\Ag G a
 | .pair T a b=> Ag G T/\Ag G a/\Ag G b
 | .fst a=> Ag G a
 | .snd a=> Ag G a
 |_=> True
def Qv(G:List M.Tm):M.Tm->Prop
 | .elim p z s a=>(∀F,Ty G p F->j0 m0 (enc (M.stepTy p))=true)\/Tg G s
 | .move p e a=>(∀E T l r,Ty G e E->HR E (.id T l r)->j0 m0 (enc (.id T l r))=true->j0 m0 (enc (.app p l))=true)\/Tg G a
 | .pair T a b=>(∀S C D X,Ty G T S->HR T (.sg C D)->j0 m0 (enc (.sg C D))=true->Ty G a X->j0 m0 (enc (D.inst a))=true)\/Tg G b
 |_=> True
theorem vz(G:List M.Tm)(hl:G.length<=20)(n:Nat)(hv:j0 m0 (enc (.sort n))=true):Ag G (.sort n):=fun f c=> by
 cases f with
 |zero=> exact Rl.no _
 |succ f=>
  cases c with
  |zero=> exact Rl.no' _
  |succ c=>
   exact oe False (k:=2) (ks:= []) hv (by rw[y26];exact hl) (fun i h=> by cases h) (fun h=> by cases h) (fun h=> by cases h) (fun h=> by cases h) (fun h=> by cases h) (fun h=> by cases h) (fun h=> by cases h)
theorem IC{G:List M.Tm}{t A:M.Tm}(hG:X6 G)(hl:G.length<=20)(h:Ty G t A)(l:M2 G t)(v:j0 m0 (enc A)=true):Ag G A:=by
 rcases M2.type h hG.wf l with rfl|⟨d,k,-,S,c,i⟩
 · exact vz G hl 3 v
 · exact fun f j=> mI hG hl v c d
theorem uG{A t:M.Tm}{n:Nat}(hn:n<=3)(h:j0 m0 (enc (.lam A t))=true):j0 m0 (.mk 3 0 [enc A,enc (.sort n)])=true:=by
 obtain⟨j,c⟩:=Z3 h;have f:=(Z4 j).2.2.2 (enc A) (by simp);have k:=Tq (enc t);simp only[enc,cnt,W1] at c;have d:D0 m0 (enc (.sort n)) (30 - 1)=true:=by
  rcases(by omega:n=0\/n=1\/n=2\/n=3) with rfl|rfl|rfl|rfl <;> decide
 have i:D0 m0 (.mk 3 0 [enc A,enc (.sort n)]) 30=true:=by
  show(true &&(true &&(D0 m0 (enc A) (30 - 1)&&(D0 m0 (enc (.sort n)) (30 - 1)&& true))))=true
  rw[f,d]
  rfl
 show(D0 m0 (.mk 3 0 [enc A,enc (.sort n)]) 30 && decide (cnt (.mk 3 0 [enc A,enc (.sort n)])<=400))=true
 rw[i,Bool.true_and,decide_eq_true_eq];simp only[enc,cnt,W1];omega
section
variable {G : List M.Tm}
theorem Fs(hG:X6 G){k:Int}(hk:E4 k 1=1)(d:E4 k 0=0){A B:M.Tm}(hA:j0 m0 (enc A)=true)(h:y6 G A->G.length < 20->Ag (A::G) B)(f c:Nat)(e: ∃s,V0 (ga (N0 c) (ctxE G) k [enc A,enc B] 0) 2=some (s,0)):
 Rl False (ja (M0 f) (ctxE G) k [enc A,enc B] 1) (ga (N0 c) (ctxE G) k [enc A,enc B] 1):=by
 obtain⟨s,e⟩:=e;rw[Tw _ _ d] at e;obtain⟨S,i,-,-,-,-,b,-⟩:=Ld (snd c) hG hA e;refine Vi (fun h=> by rw[hk] at h;cases h) fun _ hl=> ?_
 rw[show ctxE G++ [kd [enc A,enc B] 0]=ctxE (A::G) from(md A G).symm];exact h b (by rw[y26] at hl;exact hl) f c
theorem g9(hG:X6 G)(hl:G.length<=20): ∀t:M.Tm,j0 m0 (enc t)=true->Vt G t->Qv G t->Ag G t:=by
 have q:(ctxE G).length<=20:=by rw[y26];exact hl
 have kid: ∀{k:Int} {v:List Tr} {f d:Nat} {i:Nat},E4 k i=0->(Rl False (M0 f (ctxE G) (kd v i)) (N0 d (ctxE G) (kd v i)))->Rl False (ja (M0 f) (ctxE G) k v i) (ga (N0 d) (ctxE G) k v i):=fun j h=> Vi (fun _=> h) fun h=> absurd j h
 intro t hv hk hc f d;cases f with
 |zero=> exact Rl.no _
 |succ f=>
 cases d with
 |zero=> exact Rl.no' _
 |succ d=>
 cases t with
 |var n=> exact oe False (k:=1) (ks:= []) hv q (fun i h=> by cases h) (fun h=> by cases h) (fun h=> by cases h) (fun h=> by cases h) (fun h=> by cases h) (fun h=> by cases h) (fun h=> by cases h)
 |sort n=> exact vz G hl n hv (f+1) (d+1)
 |nat=> exact oe False (k:=6) (ks:= []) hv q (fun i h=> by cases h) (fun h=> by cases h) (fun h=> by cases h) (fun h=> by cases h) (fun h=> by cases h) (fun h=> by cases h) (fun h=> by cases h)
 |zero=> exact oe False (k:=7) (ks:= []) hv q (fun i h=> by cases h) (fun h=> by cases h) (fun h=> by cases h) (fun h=> by cases h) (fun h=> by cases h) (fun h=> by cases h) (fun h=> by cases h)
 |succ a=>
  refine oe False (k:=8) (ks:= [enc a]) hv q (fun i hi j=> ?_) (fun h=> by cases h) (fun h=> by cases h) (fun h=> by cases h) (fun h=> by cases h) (fun h=> by cases h) (fun h=> by cases h)
  match i,hi with
  |0,_=> exact kid j (hk f d)
 |fst a=>
  refine oe False (k:=15) (ks:= [enc a]) hv q (fun i hi j=> ?_) (fun h=> by cases h) (fun h=> by cases h) (fun h=> by cases h) (fun h=> by cases h) (fun h=> by cases h) (fun h=> by cases h)
  match i,hi with
  |0,_=> exact kid j (hk f d)
 |snd a=>
  refine oe False (k:=16) (ks:= [enc a]) hv q (fun i hi j=> ?_) (fun h=> by cases h) (fun h=> by cases h) (fun h=> by cases h) (fun h=> by cases h) (fun h=> by cases h) (fun h=> by cases h)
  match i,hi with
  |0,_=> exact kid j (hk f d)
 |refl a=>
  refine oe False (k:=11) (ks:= [enc a]) hv q (fun i hi j=> ?_) (fun h=> by cases h) (fun h=> by cases h) (fun h=> by cases h) (fun _ s _ e=> ?_) (fun h=> by cases h) (fun h=> by cases h)
  · match i,hi with
    |0,_=> exact kid j (hk f d)
  · obtain⟨A,rfl,H,J,I⟩:=snd d G a s hG (Z0 hv (by simp)) (AJ rfl e)
    exact IC hG hl H J I f d
 |app g a=>
  refine oe False (k:=5) (ks:= [enc g,enc a]) hv q (fun i hi j=> ?_) (fun h=> by cases h) (fun h=> by cases h) (fun h=> by cases h) (fun h=> by cases h) (fun h=> by cases h) (fun h=> by cases h)
  match i,hi with
  |0,_=> exact kid j (hk.1 f d)
  |1,_=> exact kid j (hk.2 f d)
 |pi A B=>
  refine oe False (k:=3) (ks:= [enc A,enc B]) hv q (fun i hi j=> ?_) (fun _=> Fs hG rfl rfl (Z0 hv (by simp)) hk.2 f d) (fun h=> by cases h) (fun h=> by cases h) (fun h=> by cases h) (fun h=> by cases h) (fun h=> by cases h)
  match i,hi with
  |0,_=> exact kid j (hk.1 f d)
  |1,_=> cases j
 |sg A B=>
  refine oe False (k:=13) (ks:= [enc A,enc B]) hv q (fun i hi j=> ?_) (fun _=> Fs hG rfl rfl (Z0 hv (by simp)) hk.2 f d) (fun h=> by cases h) (fun h=> by cases h) (fun h=> by cases h) (fun h=> by cases h) (fun h=> by cases h)
  match i,hi with
  |0,_=> exact kid j (hk.1 f d)
  |1,_=> cases j
 |lam A t=>
  have U:j0 m0 (enc A)=true:=Z0 hv (by simp);refine oe False (k:=4) (ks:= [enc A,enc t]) hv q (fun i hi j=> ?_) (fun _=> Fs hG rfl rfl U hk.2 f d) (fun _ hs B _ hB=> ?_) (fun h=> by cases h) (fun h=> by cases h) (fun h=> by cases h) (fun h=> by cases h)
  · match i,hi with
    |0,_=> exact kid j (hk.1 f d)
    |1,_=> cases j
  · obtain⟨s,hs⟩:=hs
    rw[Tw _ _ rfl] at hs;obtain⟨S,i,-,-,-,-,b,-⟩:=Ld (snd d) hG U hs;have K:=hG.cons b U;have hl2:G.length < 20:=by have:=(Yq rfl hB).1;rwa [y26] at this
    obtain⟨B,rfl,H,J,I⟩:=snd d (A::G) t B K (Z0 hv (by simp)) (cB rfl hB);have L:ctxE G++ [enc A]=ctxE (A::G):=(md A G).symm;refine Qy (fun g _=> hk.1 f g) (fun g _ _ _=> ?_) ?_ ?_
    · rw[show ctxE G++ [kd [enc A,enc t] 0]=ctxE (A::G) from L]
      exact IC K (by simp only[List.length_cons];omega) H J I f g
    · rcases M2.type H K.wf J with rfl|⟨l',k,-,X,Z,V⟩
      · exact .inl (uG (aM _) hv)
      · refine .inr (.inr ?_)
        rw[show ctxE G++ [kd [enc A,enc t] 0]=ctxE (A::G) from L];have:=(Yi f (A::G) B X K I Z l').frm (kind:=2) fun s e=>⟨X,.sort k,(eg K I Z e).1,V,by simp[M.hk],rfl⟩
        exact fun s c e=> by rcases this s c e with rfl|rfl <;> decide
    · rcases((hk.1 f d).frm 2).okV hs with h|h
      · exact .inl h
      · exact .inr ⟨s,h⟩
 |elim p z s a=>
  refine oe False (k:=9) (ks:= [enc p,enc z,enc s,enc a]) hv q (fun i hi j=> ?_) (fun h=> by cases h) (fun h=> by cases h) (fun _ O=> .inr ?_) (fun h=> by cases h) (fun h=> by cases h) (fun h=> by cases h)
  · match i,hi with
    |0,_=> exact kid j (hk.1 f d)
    |1,_=> exact kid j (hk.2.1 f d)
    |2,_=> exact kid j (hk.2.2.1 f d)
    |3,_=> exact kid j (hk.2.2.2 f d)
  · rcases hc with hc|hc
    · obtain⟨x,O⟩:=O
      rw[Tw _ _ rfl] at O;obtain⟨F,C,R,-,hF,-⟩:=vi (snd d) hG (Z0 hv (by simp)) O;exact .inl (by rw[show Wb (kd [enc p,enc z,enc s,enc a] 0)=enc (M.stepTy p) from Up p];exact hc F hF)
    · exact .inr (hc f)
 |id T a b=>
  refine oe False (k:=10) (ks:= [enc T,enc a,enc b]) hv q (fun i hi j=> ?_) (fun h=> by cases h) (fun h=> by cases h) (fun h=> by cases h) (fun h=> by cases h) (fun h=> by cases h) (fun h=> by cases h)
  match i,hi with
  |0,_=> exact kid j (hk.1 f d)
  |1,_=> exact kid j (hk.2.1 f d)
  |2,_=> exact kid j (hk.2.2 f d)
 |move p e a=>
  refine oe False (k:=12) (ks:= [enc p,enc e,enc a]) hv q (fun i hi j=> ?_) (fun h=> by cases h) (fun h=> by cases h) (fun h=> by cases h) (fun h=> by cases h) (fun _ s hs _=> .inr ?_) (fun h=> by cases h)
  · match i,hi with
    |0,_=> exact kid j (hk.1 f d)
    |1,_=> exact kid j (hk.2.1 f d)
    |2,_=> exact kid j (hk.2.2 f d)
  · rcases hc with hc|hc
    · rw[Tw _ _ rfl] at hs
      have Y:=hs;obtain⟨E,T,l,r,rfl,H,J,-⟩:=ym (snd d) hG (Z0 hv (by simp)) hs;obtain⟨u,Z,V,h6⟩:=Ng Y;obtain⟨-,-,-,h7⟩:=Qw V;exact .inl (hc E T l r H J h7)
    · exact .inr (hc f)
 |pair T a b=>
  refine oe False (k:=14) (ks:= [enc T,enc a,enc b]) hv q (fun i hi j=> ?_) (fun h=> by cases h) (fun h=> by cases h) (fun h=> by cases h) (fun h=> by cases h) (fun h=> by cases h) (fun _ H s J I=> .inr ?_)
  · match i,hi with
    |0,_=> exact kid j (hk.1 f d)
    |1,_=> exact kid j (hk.2.1 f d)
    |2,_=> exact kid j (hk.2.2 f d)
  · rcases hc with hc|hc
    · obtain⟨x,H⟩:=H
      obtain⟨X,I,-⟩:=I;rw[Tw _ _ rfl] at H I;obtain⟨S,i,-,hS,-⟩:=Ld (snd d) hG (Z0 hv (by simp)) H;obtain⟨X,rfl,hX,-⟩:=snd d G a X hG (Z0 hv (by simp)) I;have e1:d4 (enc T) 13=(s,0):=J;obtain⟨L,e3⟩:=bw (t:=enc T) (kind:=13) (by rw[e1]);rw[e1] at L e3;obtain⟨B,rfl,rB,-,vB⟩:=Vg L;obtain⟨C,D,rfl⟩:=Wu e3;refine .inl ?_;rw[show Q0 (kd [enc T,enc a,enc b] 1) (kd (enc (.sg C D)).kids 1) 0 0=enc (D.inst a) from xo D a];exact hc S C D X hS rB vB hX
    · exact .inr (hc f)
end

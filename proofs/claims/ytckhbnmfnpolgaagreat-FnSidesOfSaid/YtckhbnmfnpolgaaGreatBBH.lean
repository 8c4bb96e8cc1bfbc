/-
  Lemmas towards the law, 34: MStat, SInfM, SInfE, InfK.
-/
import Derived.Test.YtckhbnmfnpolgaaGreatBBG
open List renaming length_cons->bY
open Go renaming World->aK,Value->aS,Calls->aV,results->aQ,wpAnyH_done->bP,maxLen->aU,bodyPost_ret->aO
open Go.World renaming alloc->aN
open Nat renaming le_succ->aP,le_refl->aM
open Go.IntWalk renaming i64_in->dR
open Go.Proofs.Tryz
set_option linter.unusedVariables false
set_option maxHeartbeats 8000000
set_option maxRecDepth 100000
namespace Go.Proofs.YtckhbnmfnpolgaaGreat
open Go.RowKit
open M (Hd HR Cv Ty M2 zc y6 W4 dep DG fvb)
def SG:M.Tm->Prop
 | .pi A B=> dep A<=4/\SG A/\SG B
 | .lam A B=> dep A<=4/\SG A/\SG B
 | .sg A B=> dep A<=4/\SG A/\SG B
 | .app f a=> SG f/\SG a
 | .succ a=> SG a
 | .elim p z s a=> j0 m0 (enc (M.stepTy p))=true/\SG p/\SG z/\SG s/\SG a
 | .id T a b=> SG T/\SG a/\SG b
 | .refl a=> SG a
 | .move p e a=>((∃x,e= .refl x)\/(∃n,e= .var n)/\cnt (enc p)<=300)/\SG p/\SG e/\SG a
 | .pair T a b=>(∃X Y,T= .sg X Y/\j0 m0 (enc (Y.inst a))=true)/\SG T/\SG a/\SG b
 | .fst a=> SG a
 | .snd a=> SG a
 |_=> True
theorem HR.at{a b:M.Tm}(h:HR a b)(k:M.hk a≠0):b=a:=by
 cases h with
 |refl=> rfl
 |step c=> exact absurd c.hk k
theorem Ks{G:List M.Tm}{p e a:M.Tm}(hG:X6 G)(f:DG G 4)(hv:j0 m0 (enc (.move p e a))=true)(h:(∃x,e= .refl x)\/(∃n,e= .var n)/\cnt (enc p)<=300): ∀E T l r,Ty G e E->HR E (.id T l r)->j0 m0 (enc (.id T l r))=true->j0 m0 (enc (.app p l))=true:=by
 intro E T l r b d hi;refine VA (Z0 hv (by simp)) (CB hv (by simp)) hi ?_;rcases h with⟨x,rfl⟩ |h
 · cases b with
   |refl b=>
    cases HR.at d (by simp[M.hk])
    have c:=(Z3 hv).2;simp only[enc,cnt,W1] at c;omega
 · obtain⟨n,rfl⟩:=h.1
   have i:dep E<=4:=by
    cases b with
    |var b=> exact f.lk b
   obtain⟨m,ev⟩:=d.ev (by simp[M.hk]);rcases M2.type b hG.wf trivial with rfl|⟨-,k,-,S,j,c⟩
   · cases ev.val (by simp[M.hk])
   · have g:=M.ev4t i j c ev
     simp only[dep] at g;have:3*cnt (enc l)+1<=256:=Ns l 4 (by omega);have:=h.2;omega
theorem Jr: ∀(t:M.Tm) (G:List M.Tm),SG t->X6 G->DG G 4->G.length<=20->j0 m0 (enc t)=true->Ag G t:=by
 intro t
 induction t with
 |var n=> intro G h hG c hl hv;exact g9 hG hl _ hv trivial trivial
 |sort n=> intro G h hG c hl hv;exact g9 hG hl _ hv trivial trivial
 |nat=> intro G h hG c hl hv;exact g9 hG hl _ hv trivial trivial
 |zero=> intro G h hG c hl hv;exact g9 hG hl _ hv trivial trivial
 |pi A B d g=> intro G h hG c hl hv;exact g9 hG hl _ hv ⟨d G h.2.1 hG c hl (Z0 hv (by simp)),fun b j=> g (A::G) h.2.2 (hG.cons b (Z0 hv (by simp))) (c.cons h.1) (by simp only[bY];omega) (Z0 hv (by simp))⟩ trivial
 |lam A B d g=> intro G h hG c hl hv;exact g9 hG hl _ hv ⟨d G h.2.1 hG c hl (Z0 hv (by simp)),fun b j=> g (A::G) h.2.2 (hG.cons b (Z0 hv (by simp))) (c.cons h.1) (by simp only[bY];omega) (Z0 hv (by simp))⟩ trivial
 |sg A B d g=> intro G h hG c hl hv;exact g9 hG hl _ hv ⟨d G h.2.1 hG c hl (Z0 hv (by simp)),fun b j=> g (A::G) h.2.2 (hG.cons b (Z0 hv (by simp))) (c.cons h.1) (by simp only[bY];omega) (Z0 hv (by simp))⟩ trivial
 |app f a d g=> intro G h hG c hl hv;exact g9 hG hl _ hv ⟨d G h.1 hG c hl (Z0 hv (by simp)),g G h.2 hG c hl (Z0 hv (by simp))⟩ trivial
 |succ a d=> intro G h hG c hl hv;exact g9 hG hl _ hv (d G h hG c hl (Z0 hv (by simp))) trivial
 |refl a d=> intro G h hG c hl hv;exact g9 hG hl _ hv (d G h hG c hl (Z0 hv (by simp))) trivial
 |fst a d=> intro G h hG c hl hv;exact g9 hG hl _ hv (d G h hG c hl (Z0 hv (by simp))) trivial
 |snd a d=> intro G h hG c hl hv;exact g9 hG hl _ hv (d G h hG c hl (Z0 hv (by simp))) trivial
 |id T a b d g i=> intro G h hG c hl hv;exact g9 hG hl _ hv ⟨d G h.1 hG c hl (Z0 hv (by simp)),g G h.2.1 hG c hl (Z0 hv (by simp)),i G h.2.2 hG c hl (Z0 hv (by simp))⟩ trivial
 |elim p z s a d g i m=>
  intro G h hG c hl hv;exact g9 hG hl _ hv ⟨d G h.2.1 hG c hl (Z0 hv (by simp)),g G h.2.2.1 hG c hl (Z0 hv (by simp)),i G h.2.2.2.1 hG c hl (Z0 hv (by simp)),m G h.2.2.2.2 hG c hl (Z0 hv (by simp))⟩ (.inl fun _ _=> h.1)
 |pair T a b d g i=>
  intro G h hG c hl hv;refine g9 hG hl _ hv ⟨d G h.2.1 hG c hl (Z0 hv (by simp)),g G h.2.2.1 hG c hl (Z0 hv (by simp)),i G h.2.2.2 hG c hl (Z0 hv (by simp))⟩ (.inl fun S X Y Z o l v u=> ?_);obtain⟨q,r,rfl,k⟩:=h.1;have:=HR.at l (by simp[M.hk]);cases this
  exact k
 |move p e a d g i=>
  intro G h hG c hl hv;exact g9 hG hl _ hv ⟨d G h.2.1 hG c hl (Z0 hv (by simp)),g G h.2.2.1 hG c hl (Z0 hv (by simp)),i G h.2.2.2 hG c hl (Z0 hv (by simp))⟩ (.inl (Ks hG c hv h.1))
def KM(t:M.Tm):Prop:=SG t\/dep t<=4
theorem DG.mono4{G:List M.Tm}(h:DG G 3):DG G 4:=h.up (by omega)
theorem KM.ag{t:M.Tm}{G:List M.Tm}(h:KM t)(hG:X6 G)(a:DG G 3)(hl:G.length<=12)(v:j0 m0 (enc t)=true):Ag G t:=by
 rcases h with h|h
 · exact Jr t G h hG (DG.mono4 a) (by omega) v
 · exact iI t G hG a h (by omega) v
def Zv(G:List M.Tm):M.Tm->Prop
 | .pi A B=> KM A/\(KM B/\dep A<=3\/SG B/\dep A<=4)
 | .lam A B=> KM A/\(KM B/\dep A<=3\/SG B/\dep A<=4)
 | .sg A B=> KM A/\(KM B/\dep A<=3\/SG B/\dep A<=4)
 | .app f a=> KM f/\KM a
 | .succ a=> KM a
 | .elim p z s a=>(j0 m0 (enc (M.stepTy p))=true\/dep p<=4)/\KM p/\KM z/\KM s/\KM a
 | .id T a b=> KM T/\KM a/\KM b
 | .refl a=> KM a
 | .move p e a=>((∃x,e= .refl x)\/(∃n,e= .var n)/\cnt (enc p)<=300\/Tg G a)/\KM p/\KM e/\KM a
 | .pair T a b=>((∃X Y,T= .sg X Y/\j0 m0 (enc (Y.inst a))=true)\/Tg G b)/\KM T/\KM a/\KM b
 | .fst a=> KM a
 | .snd a=> KM a
 |_=> True
theorem Zv.under{G:List M.Tm}{A B:M.Tm}(h:KM B/\dep A<=3\/SG B/\dep A<=4)(hG:X6 (A::G))(a:DG G 3)(hl:G.length<=11)(v:j0 m0 (enc B)=true):Ag (A::G) B:=by
 rcases h with⟨h,d⟩ |⟨h,d⟩
 · exact h.ag hG (a.cons d) (by simp only[bY];omega) v
 · exact Jr B (A::G) h hG ((DG.mono4 a).cons d) (by simp only[bY];omega) v
theorem Ur{G:List M.Tm}(hG:X6 G)(d:DG G 3)(hl:G.length<=11): ∀t:M.Tm,Zv G t->j0 m0 (enc t)=true->Ag G t:=by
 have K: ∀{k n:Int} {g:List Tr} {x:M.Tm},j0 m0 (.mk k n g)=true->enc x∈g->KM x->Ag G x:=fun hv hm h=> h.ag hG d (by omega) (Z0 hv hm)
 intro t h hv;cases t with
 |var n=> exact g9 hG (by omega) _ hv trivial trivial
 |sort n=> exact g9 hG (by omega) _ hv trivial trivial
 |nat=> exact g9 hG (by omega) _ hv trivial trivial
 |zero=> exact g9 hG (by omega) _ hv trivial trivial
 |pi A B=> exact g9 hG (by omega) _ hv ⟨K hv (by simp) h.1,fun b _=> Zv.under h.2 (hG.cons b (Z0 hv (by simp))) d hl (Z0 hv (by simp))⟩ trivial
 |lam A B=> exact g9 hG (by omega) _ hv ⟨K hv (by simp) h.1,fun b _=> Zv.under h.2 (hG.cons b (Z0 hv (by simp))) d hl (Z0 hv (by simp))⟩ trivial
 |sg A B=> exact g9 hG (by omega) _ hv ⟨K hv (by simp) h.1,fun b _=> Zv.under h.2 (hG.cons b (Z0 hv (by simp))) d hl (Z0 hv (by simp))⟩ trivial
 |app f a=> exact g9 hG (by omega) _ hv ⟨K hv (by simp) h.1,K hv (by simp) h.2⟩ trivial
 |succ a=> exact g9 hG (by omega) _ hv (K hv (by simp) h) trivial
 |refl a=> exact g9 hG (by omega) _ hv (K hv (by simp) h) trivial
 |fst a=> exact g9 hG (by omega) _ hv (K hv (by simp) h) trivial
 |snd a=> exact g9 hG (by omega) _ hv (K hv (by simp) h) trivial
 |id T a b=> exact g9 hG (by omega) _ hv ⟨K hv (by simp) h.1,K hv (by simp) h.2.1,K hv (by simp) h.2.2⟩ trivial
 |elim p z s a=>
  refine g9 hG (by omega) _ hv ⟨K hv (by simp) h.2.1,K hv (by simp) h.2.2.1,K hv (by simp) h.2.2.2.1,K hv (by simp) h.2.2.2.2⟩ (.inl fun F hF=> ?_);rcases h.1 with c|c
  · exact c
  · have u:3*cnt (enc p)+1<=256:=Ns p 4 c
    exact nB hF.fv (Z0 hv (by simp)) (by omega) (by omega)
 |pair T a b=>
  refine g9 hG (by omega) _ hv ⟨K hv (by simp) h.2.1,K hv (by simp) h.2.2.1,K hv (by simp) h.2.2.2⟩ ?_;rcases h.1 with c|c
  · refine .inl fun S X Y Z r j m q=> ?_
    obtain⟨l,o,rfl,i⟩:=c;cases HR.at j (by simp[M.hk])
    exact i
  · exact .inr c
 |move p e a=>
  refine g9 hG (by omega) _ hv ⟨K hv (by simp) h.2.1,K hv (by simp) h.2.2.1,K hv (by simp) h.2.2.2⟩ ?_;rcases h.1 with c|c|c
  · exact .inl (Ks hG (DG.mono4 d) hv (.inl c))
  · exact .inl (Ks hG (DG.mono4 d) hv (.inr c))
  · exact .inr c
end Go.Proofs.YtckhbnmfnpolgaaGreat
namespace Go.Proofs.YtckhbnmfnpolgaaGreat
open Go.RowKit
attribute [local go_sem ↓] Go.wp_at_zero Go.wp_at_succ
theorem kI{f:Nat}(E:k9 f){G:List Tr}{A:Option Addr}{ca:Nat}(d:aK)(N:Nat->Prop)(H:SJ d N A G ca)(k n:Int)(j:List Tr)(D:j.length=3)(v:aS)(hT:InT d N (.mk k n j) v)(ty:Nat->An)(Y:ty 0=M0 f G (kd j 0))(Z:ty 1=M0 f G (kd j 1))(O:ty 2=M0 f G (kd j 2))(r:Tr×Int)(h:Lo ty (kd j 0)=some r):aV prog 167 #[.slice A G.length ca,v] d (Qg N d r):=by
 unfold Lo at h;rw[Y,Z,O] at h;obtain⟨s,c,p,y,z⟩:=k8 h;clear h Y Z O;obtain⟨At,ct,rfl,-,l8,hK⟩:=InT.mk_iff.1 hT;obtain⟨b,o,rfl,-,⟨O3,N6,O6,O7,O9,M⟩,⟨ax,Y7,Y6,Z2,aa,V⟩,mh,ma,ml,mg,mj,K2⟩:=y20 hK D;rw[D];clear hT hK D;go_enter func167,ntmps167;go_wp2_with fail;generalize x:aN (aN d _) _=w1;obtain⟨g,br,S⟩:=Yd x.symm H;have F:=hdq (both S (both (M.up g (aP _)) (both (V.up g (aP _)) (K2.up g (aP _)))));have X:=xr w1;have Q:=F.out _ X.off;clear S H x M V K2;refine(DD E _ _ Q.1.1 _ _ Q.2.2.1.i 10 _ p.out).mono ?_;rintro e w2 ⟨u,rfl,hT,e⟩;replace X:=X.trans e;replace Q:=F.out _ X.off;simp only at hT⊢;obtain⟨ka,na,p7⟩:=s;obtain⟨A1,c1,rfl,-,-,hK⟩:=InT.mk_iff.1 hT;clear hT;obtain⟨q,t⟩ |rfl:=cz c
 · have R:=cbn (X.blk br)
   have R':=fun o=> cbn ((X.alloc o).blk br)
   go_wp2_with fail;exact Zf (by simp[aQ,results167,go_sem,R,R']) (z.out q.out) q.out (((g.trans X).alloc _).set3 (aP _) _ _ _) rfl
 obtain⟨-,a,-⟩:=sm p.out;have C:=y.out rfl;simp only[Tr.kids] at a C;have a:p7.length=3:=by have:O0 10=3:=rfl;omega
 clear p y z;obtain⟨c,I,U,W⟩:=Ll C;clear C;obtain⟨b2,o2,rfl,B,⟨ul,sk,si,ui,un,L⟩,⟨f11,f12,f13,f14,f15,T⟩,f21,f22,f23,f24,f25,J⟩:=y20 hK a;rw[a];clear hK a;go_wp2_with fail;generalize x:aN w2 _=w3;obtain⟨P,e⟩:=nb x;replace F:=hdq (both (rb F.out (X.trans e)) (both (U9 P (X.ne br)) (both (L.fm B e) (both (T.fm B e) (J.fm B e)))));replace X:=X.trans e;replace br:=X.blk br;replace g:=g.trans X;replace X:=xr w3;replace Q:=F.out _ X.off;clear x P e;clear L T J B;refine rgn (d.heap.size+1) (by kernel_rfl) X ?_;replace X:=X.drew;refine W2 [0,1,2,3,4,5,6,7,8] 2 (by kernel_rfl) X.off (fun _ _ _ _ _ h=> h) ?_
 iterate 9 (refine tk rfl (by rfl) (by intro w X;have Q:=F.out _ X;go_simp;(try with_reducible rfl)) ?_;try simp only[I3])
 replace Q:=F.out _ X.off;refine H0 9 (by kernel_rfl) rfl rfl (fun K hK=> ?_)
 go_simp
 go_at_call 189
 refine(bJ E _ _ Q.1.1.1 _ _ _ _ Q.1.2.1.i Q.2.2.1.l c I.out).mono ?_;rintro e w4 ⟨rfl,e⟩;replace X:=X.trans e;replace Q:=F.out _ X.off;refine hK.out _ _ X.off (fun _=> ?_);clear hK K;refine W2 [10] 0 (by kernel_rfl) X.off (fun _ _ _ _ _ h=> h) ?_;refine tk rfl (by rfl) (by intro w X;go_simp;(try with_reducible rfl)) ?_
 try simp only[I3]
 refine bP (by kernel_rfl) ?_ _;obtain⟨q,t⟩ |rfl:=cz c
 · go_wp2_with fail
   refine rgn (d.heap.size+1) (by kernel_rfl) X ?_;replace X:=X.drew;refine W2 [0,1,2,3,4,5,6,7,10] 4 (by kernel_rfl) X.off (fun _ _ _ _ _ h=> h) ?_
   iterate 9 (refine tk rfl (by rfl) (by intro w X;have Q:=F.out _ X;go_simp;(try with_reducible rfl)) ?_;try simp only[I3])
   replace Q:=F.out _ X.off;refine H0 8 (by kernel_rfl) rfl rfl (fun K hK=> ?_)
   go_simp
   obtain⟨e,m⟩:=k7 25 Q.1.2.1.i Q.2.2.2.2.i Q.1.1.1.hN;replace X:=X.trans e;replace Q:=F.out _ X.off;refine hK.out _ _ X.off (fun _=> ?_);clear hK K;refine H0 9 (by kernel_rfl) rfl rfl (fun K hK=> ?_)
   go_simp
   go_at_call 60
   refine(Ra 5 Q.1.1.1.hN m rfl).mono ?_;rintro e w5 ⟨A9,c9,rfl,hx,e⟩;replace X:=X.trans e;replace Q:=F.out _ X.off;refine hK.out _ _ X.off (fun _=> ?_);clear hK K;have R:=cbn (X.blk br);refine H0 11 (by kernel_rfl) rfl rfl (fun K hK=> ?_)
   go_simp
   refine hK.out _ _ (X.off.set3 _ _ _) (fun _=> ?_);clear hK K;refine W2 [12] 0 (by kernel_rfl) (X.off.set3 _ _ _) (fun _ _ _ _ _ h=> h) ?_;refine tk rfl (by rfl) (by intro w X;go_simp;(try with_reducible rfl)) ?_
   try simp only[I3]
   refine bP (by kernel_rfl) ?_ _;go_wp2_with fail;exact Ua (by simp[aQ,results167,go_sem,R]) (hx) (Tk (W.out q.out) q.out) (g.trans X) (aP _) rfl
 obtain⟨c,p,y,z⟩:=Mc (U.out rfl);clear I U W;go_wp2_with fail;refine rgn (d.heap.size+1) (by kernel_rfl) X ?_;replace X:=X.drew;refine W2 [0,1,2,3,4,5,6,7,8,9,10,11,12] 4 (by kernel_rfl) X.off (fun _ _ _ _ _ h=> h) ?_
 iterate 13 (refine tk rfl (by rfl) (by intro w X;have Q:=F.out _ X;go_simp;(try with_reducible rfl)) ?_;try simp only[I3])
 replace Q:=F.out _ X.off;refine H0 13 (by kernel_rfl) rfl rfl (fun K hK=> ?_)
 go_simp
 obtain⟨e,m⟩:=k7 25 Q.1.2.1.i Q.2.2.2.1.i Q.1.1.1.hN;replace X:=X.trans e;replace Q:=F.out _ X.off;refine hK.out _ _ X.off (fun _=> ?_);clear hK K;refine H0 14 (by kernel_rfl) rfl rfl (fun K hK=> ?_)
 go_simp
 go_at_call 60
 refine(Ra 5 Q.1.1.1.hN m rfl).mono ?_;rintro e w5 ⟨A14,c14,rfl,hx,e⟩;replace X:=X.trans e;replace Q:=F.out _ X.off;refine hK.out _ _ X.off (fun _=> ?_);clear hK K;refine H0 15 (by kernel_rfl) rfl rfl (fun K hK=> ?_)
 go_simp
 go_at_call 116
 refine(cl E _ _ Q.1.1.1 (kd j 2) _ _ _ Q.1.2.2.2.i hx.lies' c p.out).mono ?_;rintro e w6 ⟨rfl,e⟩;replace X:=X.trans e;replace Q:=F.out _ X.off;refine hK.out _ _ X.off (fun _=> ?_);clear hK K;refine W2 [16] 0 (by kernel_rfl) X.off (fun _ _ _ _ _ h=> h) ?_;refine tk rfl (by rfl) (by intro w X;go_simp;(try with_reducible rfl)) ?_
 try simp only[I3]
 refine bP (by kernel_rfl) ?_ _;clear hx m;go_wp2_with fail;refine rgn (d.heap.size+1) (by kernel_rfl) X ?_;replace X:=X.drew;refine W2 [0,1,2,3,4,5,6,7,10] 4 (by kernel_rfl) X.off (fun _ _ _ _ _ h=> h) ?_
 iterate 9 (refine tk rfl (by rfl) (by intro w X;have Q:=F.out _ X;go_simp;(try with_reducible rfl)) ?_;try simp only[I3])
 replace Q:=F.out _ X.off;refine H0 8 (by kernel_rfl) rfl rfl (fun K hK=> ?_)
 go_simp
 obtain⟨e,m⟩:=k7 25 Q.1.2.1.i Q.2.2.2.2.i Q.1.1.1.hN;replace X:=X.trans e;replace Q:=F.out _ X.off;refine hK.out _ _ X.off (fun _=> ?_);clear hK K;refine H0 9 (by kernel_rfl) rfl rfl (fun K hK=> ?_)
 go_simp
 go_at_call 60
 refine(Ra 5 Q.1.1.1.hN m rfl).mono ?_;rintro e w7 ⟨A9,c9,rfl,hx,e⟩;replace X:=X.trans e;replace Q:=F.out _ X.off;refine hK.out _ _ X.off (fun _=> ?_);clear hK K;have R:=cbn (X.blk br);refine H0 11 (by kernel_rfl) rfl rfl (fun K hK=> ?_)
 go_simp
 refine hK.out _ _ (X.off.set3 _ _ _) (fun _=> ?_);clear hK K;refine W2 [12] 0 (by kernel_rfl) (X.off.set3 _ _ _) (fun _ _ _ _ _ h=> h) ?_;refine tk rfl (by rfl) (by intro w X;go_simp;(try with_reducible rfl)) ?_
 try simp only[I3]
 refine bP (by kernel_rfl) ?_ _;go_wp2_with fail;exact Ua (by simp[aQ,results167,go_sem,R]) (hx) (Pk y.out z.out) (g.trans X) (aP _) rfl
theorem pE{f:Nat}(k:k9 f){G:List Tr}{A:Option Addr}{ca:Nat}(a:aK)(N:Nat->Prop)(c:SJ a N A G ca)(n:Int)(i:List Tr)(o:0<=n)(l:n<=3)(v:aS)(hT:InT a N (.mk 2 n i) v)(ty:Nat->An)(r:Tr×Int)(h:some (if 3<=n then(E2,1) else(m6 (n+1),0))=some r):aV prog 169 #[.slice A G.length ca,v] a (N9 N a r):=by
 obtain⟨At,ct,rfl,-,j,hK⟩:=InT.mk_iff.1 hT;clear hT;by_cases hn:3<=n
 · obtain rfl:r=(E2,1):=by rw[if_pos hn] at h;simpa using h.symm
   have t1:decide ((3:Int)<=n)=true:=decide_eq_true hn;clear h hn;go_enter func169,ntmps169;go_wp2_with fail;exact ya (by simp[aQ,results169,go_sem,kJ]) rfl (((xr _).alloc _).alloc _) rfl
 obtain rfl:r=(m6 (n+1),0):=by rw[if_neg hn] at h;simpa using h.symm
 have t1:decide ((3:Int)<=n)=false:=decide_eq_false hn;have b:IntKind.i64.wrap (n+1)=n+1:=dR _ ⟨by omega,by omega⟩;clear h hn;go_enter func169,ntmps169;go_wp2_with fail;generalize b:aN (aN a _) _=d;obtain⟨g,br,S⟩:=Yd b.symm c;have F:=hdq (S);have X:=xr d;have Q:=F.out _ X.off;clear S c b;refine(y15 _ 2 (n+1)).mono ?_;rintro e m ⟨rfl,e⟩;replace X:=X.trans e;replace Q:=F.out _ X.off;have R:=cbn (X.blk br);go_wp2_with fail;exact n7 (by simp[aQ,results169,go_sem,R]) (F5 _ _ 2 (n+1)) (rfl) (g.trans X) (aP _) rfl
theorem cE{f:Nat}(k:k9 f){G:List Tr}{A:Option Addr}{ca:Nat}(a:aK)(N:Nat->Prop)(b:SJ a N A G ca)(n:Int)(i:List Tr)(v:aS)(hT:InT a N (.mk 6 n i) v)(ty:Nat->An)(r:Tr×Int)(h:some (m6 0,0)=some r):aV prog 169 #[.slice A G.length ca,v] a (N9 N a r):=by
 obtain⟨At,ct,rfl,-,j,hK⟩:=InT.mk_iff.1 hT;clear hT;obtain rfl:r=(m6 0,0):=by simpa using h.symm
 clear h;go_enter func169,ntmps169;go_wp2_with fail;generalize c:aN (aN a _) _=d;obtain⟨g,br,S⟩:=Yd c.symm b;have F:=hdq (S);have X:=xr d;have Q:=F.out _ X.off;clear S b c;refine(y15 _ 2 0).mono ?_;rintro e l ⟨rfl,e⟩;replace X:=X.trans e;replace Q:=F.out _ X.off;have R:=cbn (X.blk br);go_wp2_with fail;exact n7 (by simp[aQ,results169,go_sem,R]) (F5 _ _ 2 0) (rfl) (g.trans X) (aP _) rfl
theorem dI{f:Nat}(k:k9 f){G:List Tr}{A:Option Addr}{ca:Nat}(a:aK)(N:Nat->Prop)(b:SJ a N A G ca)(n:Int)(i:List Tr)(v:aS)(hT:InT a N (.mk 7 n i) v)(ty:Nat->An)(r:Tr×Int)(h:some (i5,0)=some r):aV prog 169 #[.slice A G.length ca,v] a (N9 N a r):=by
 obtain⟨At,ct,rfl,-,j,hK⟩:=InT.mk_iff.1 hT;clear hT;obtain rfl:r=(i5,0):=by simpa using h.symm
 clear h;go_enter func169,ntmps169;go_wp2_with fail;generalize c:aN (aN a _) _=d;obtain⟨g,br,S⟩:=Yd c.symm b;have F:=hdq (S);have X:=xr d;have Q:=F.out _ X.off;clear S b c;refine(y15 _ 6 0).mono ?_;rintro e l ⟨rfl,e⟩;replace X:=X.trans e;replace Q:=F.out _ X.off;have R:=cbn (X.blk br);go_wp2_with fail;exact n7 (by simp[aQ,results169,go_sem,R]) (F5 _ _ 6 0) (rfl) (g.trans X) (aP _) rfl
theorem sF{f:Nat}(P:k9 f){G:List Tr}{A:Option Addr}{ca:Nat}(b:aK)(N:Nat->Prop)(c:SJ b N A G ca)(n:Int)(I:List Tr)(t:0<=n)(p:n<=20)(v:aS)(hT:InT b N (.mk 1 n I) v)(ty:Nat->An)(r:Tr×Int)(h:some (Wq G n)=some r):aV prog 169 #[.slice A G.length ca,v] b (N9 N b r):=by
 obtain⟨At,ct,rfl,-,O,hK⟩:=InT.mk_iff.1 hT;clear hT;by_cases a:(G.length:Int)<=n
 · obtain rfl:r=(E2,1):=by unfold Wq at h;rw[if_pos a] at h;simpa using h.symm
   have t1:decide ((G.length:Int)<=n)=true:=decide_eq_true a;clear h a t p;go_enter func169,ntmps169;go_wp2_with fail;exact ya (by simp[aQ,results169,go_sem,kJ]) rfl (((xr _).alloc _).alloc _) rfl
 have t1:decide ((G.length:Int)<=n)=false:=decide_eq_false a;have d:=c.h21;obtain⟨i,hi⟩: ∃i:Nat,(G.length:Int) - 1 - n=(i:Int):=⟨G.length - 1 - n.toNat,by omega⟩;have s:G.length - 1 - n.toNat=i:=by omega
 have o:i < G.length:=by omega
 have H:(i:Int) <(G.length:Int):=by omega
 have B:IntKind.i64.wrap ((G.length:Int) - 1)=(G.length:Int) - 1:=dR _ ⟨by omega,by omega⟩;have g:IntKind.i64.wrap ((G.length:Int) - 1 - n)=(i:Int):=by rw[hi];exact dR _ ⟨by omega,by omega⟩
 have j:IntKind.i64.wrap (n+1)=n+1:=dR _ ⟨by omega,by omega⟩;have io:=hdq (fun W M z V (J:Lies W (kd G i) V)=> rv (kd G i) (n+1) (c.hv _ (Li o)) (by omega) (by omega) W M z V J);obtain⟨Y,og,rfl,E,q⟩:=fd c.hG (by omega);obtain⟨L,U,T,Z,x5,k⟩:=q i o;rw[Nat.mul_comm] at k;obtain⟨D,m⟩: ∃X,shfT (n+1) (kd G i) 0=X:=⟨_,rfl⟩;obtain rfl:r=(D,0):=by unfold Wq at h;rw[if_neg a,s,m] at h;simpa using h.symm
 rw[m] at io;clear h m q s hi t p a d E;go_enter func169,ntmps169;go_wp2_with fail;generalize y:aN (aN b _) _=C;obtain⟨x,br,S⟩:=Yd y.symm c;have F:=hdq (both S (k.up x (aP _)));have X:=xr C;have Q:=F.out _ X.off;clear S c y k;refine rgn (b.heap.size+1) (by kernel_rfl) X ?_;replace X:=X.drew;refine W2 [0,1,2,3,4,5,6,7,8,9,10,11] 3 (by kernel_rfl) X.off (fun _ _ _ _ _ h=> h) ?_
 iterate 12 (refine tk rfl (by rfl) (by intro w X;have Q:=F.out _ X;go_simp;(try with_reducible rfl)) ?_;try simp only[I3])
 replace Q:=F.out _ X.off;refine H0 12 (by kernel_rfl) rfl rfl (fun K hK=> ?_)
 go_simp
 go_at_call 104
 refine(io.out _ _ Q.1.1.hN _ Q.2.l).mono ?_;rintro e w2 ⟨u,rfl,hx,e⟩;replace X:=X.trans e;replace Q:=F.out _ X.off;refine hK.out _ _ X.off (fun _=> ?_);clear hK K;obtain⟨_,_,_,_,_,rfl⟩:=hx.three;clear B g j t1;have R:=cbn (X.blk br);refine H0 13 (by kernel_rfl) rfl rfl (fun K hK=> ?_)
 go_simp
 refine hK.out _ _ (X.off.set3 _ _ _) (fun _=> ?_);clear hK K;refine W2 [14] 0 (by kernel_rfl) (X.off.set3 _ _ _) (fun _ _ _ _ _ h=> h) ?_;refine tk rfl (by rfl) (by intro w X;go_simp;(try with_reducible rfl)) ?_
 try simp only[I3]
 refine bP (by kernel_rfl) ?_ _;go_wp2_with fail;exact n7 (by simp[aQ,results169,go_sem,R]) (hx) (rfl) (x.trans X) (aP _) rfl
theorem ID{f:Nat}(E:k9 f){G:List Tr}{A:Option Addr}{ca:Nat}(j:aK)(N:Nat->Prop)(u:SJ j N A G ca)(n:Int)(p:List Tr)(q:p.length=1)(v:aS)(hT:InT j N (.mk 8 n p) v)(ty:Nat->An)(t:ty 0=M0 f G (kd p 0))(r:Tr×Int)(h:P3 (ty 0) i5 (some (i5,0))=some r):aV prog 169 #[.slice A G.length ca,v] j (Qg N j r):=by
 rw[t] at h;obtain⟨c,P,O,U⟩:=Mc h;clear h t;obtain⟨At,ct,rfl,-,W,hK⟩:=InT.mk_iff.1 hT;obtain⟨b,o,rfl,-,D,M,H,I,L,x⟩:=j15 hK q;rw[q];clear hT hK q;go_enter func169,ntmps169;go_wp2_with fail;generalize B:aN (aN j _) _=T;obtain⟨y,br,S⟩:=Yd B.symm u;have F:=hdq (both S (x.up y (aP _)));have X:=xr T;have Q:=F.out _ X.off;clear S u B x;refine rgn (j.heap.size+1) (by kernel_rfl) X ?_;replace X:=X.drew;refine W2 [1,2,3,4,5] 5 (by kernel_rfl) X.off (fun _ _ _ _ _ h=> h) ?_
 iterate 5 (refine tk rfl (by rfl) (by intro w X;have Q:=F.out _ X;go_simp;(try with_reducible rfl)) ?_;try simp only[I3])
 replace Q:=F.out _ X.off;refine Wo 8 93 #[true,true,true,true,true,true,true,true,false,false] 2 [Sp.val (.agg #[.int .i64 6,.int .i64 0,.slice none 0 0]),.any,.any,.any,.any,.any,Sp.val (.agg #[.int .i64 6,.int .i64 0,.slice none 0 0]),Sp.val (.int .i64 c)] [0,6,7] (fun w h=>(X.trans h).off) (by kernel_rfl) rfl ?st1 ?fi1
 case st1=>
  repeat' first|exact trivial|refine And.intro ⟨_,rfl, ?_⟩ ?_
  all_goals(intro a w z d g J;refine Ord.step_of rfl rfl ?_;intro K hK)
  · (go_simp;go_at_call 62;refine(y15 w 6 0).mono ?_;rintro e s ⟨rfl,m⟩;exact hK _ _ ⟨_,z,rfl,Ma d m,rfl⟩)
  · (go_simp;go_at_call 62;refine(y15 w 6 0).mono ?_;rintro e s ⟨rfl,m⟩;exact hK _ _ ⟨_,z,rfl,Ma d m,rfl⟩)
  · (have V:=S4 (show a.eval (.tmp 50)= .slice A G.length ca from g 50 (by kernel_rfl));have C:=S4 (show a.eval (.tmp 54)= .agg #[.int .i64 D,.int .i64 M,.slice H I L] from g 54 (by kernel_rfl));have Y:=Ei (J 6 55 (by kernel_rfl)) rfl;go_simp;go_at_call 116;refine(cl E _ _ (SJ.oldG' Q.1.1 d) (kd p 0) i5 _ _ (Q.2.i.oldG' d) (F5 _ (fun _=> True) 6 0).lies' c P.out).mono ?_;rintro e s ⟨rfl,m⟩;exact hK _ _ ⟨_,z,rfl,Ma d m,rfl⟩)
 case fi1=>
  intro v s z d hG;have l:v 0= .agg #[.int .i64 6,.int .i64 0,.slice none 0 0]:=hG 0 (by decide) (by kernel_rfl);have k:v 7= .int .i64 c:=hG 7 (by decide) (by kernel_rfl);simp only[List.foldl,Ord.dstOf,List.getElem?_toArray,List.getElem?_cons_zero,List.getElem?_cons_succ,Option.bind_some,Act.put,List.setIfInBounds_toArray,List.set_cons_zero,List.set_cons_succ];rw[l,k];replace X:=X.trans d.1;replace Q:=F.out _ X.off;clear hG d l k;have R:=cbn (X.blk br);refine H0 8 (by kernel_rfl) rfl rfl (fun K hK=> ?_)
  go_simp
  refine hK.out _ _ (X.off.set3 _ _ _) (fun _=> ?_);clear hK K;refine W2 [9] 0 (by kernel_rfl) (X.off.set3 _ _ _) (fun _ _ _ _ _ h=> h) ?_;refine tk rfl (by rfl) (by intro w X;go_simp;(try with_reducible rfl)) ?_
  try simp only[I3]
  refine bP (by kernel_rfl) ?_ _;go_wp2_with fail;exact Ua (by simp[aQ,results169,go_sem,R]) (F5 _ _ 6 0) (Pk O.out U.out) (y.trans X) (aP _) rfl
theorem FF{f:Nat}(B:k9 f){G:List Tr}{A:Option Addr}{ca:Nat}(a:aK)(N:Nat->Prop)(z:SJ a N A G ca)(n:Int)(p:List Tr)(x:p.length=1)(v:aS)(hT:InT a N (.mk 11 n p) v)(ty:Nat->An)(y:ty 0=M0 f G (kd p 0))(r:Tr×Int)(h:am (M0 f G) ty (kd p 0)=some r):aV prog 169 #[.slice A G.length ca,v] a (Qg N a r):=by
 unfold am at h;rw[y] at h;obtain⟨s,c,I,H,J⟩:=k8 h;clear h y;obtain⟨At,ct,rfl,-,V,hK⟩:=InT.mk_iff.1 hT;obtain⟨b,o,rfl,-,W,N6,Z,Y,O9,C⟩:=j15 hK x;rw[x];clear hT hK x;go_enter func169,ntmps169;go_wp2_with fail;generalize g:aN (aN a _) _=P;obtain⟨d,br,S⟩:=Yd g.symm z;have F:=hdq (both S (C.up d (aP _)));have X:=xr P;have Q:=F.out _ X.off;clear S z g C;refine(B G (kd p 0) (s,c) I.out _ _ A ca _ Q.1.1 Q.2.i).mono ?_;rintro e E ⟨u,rfl,hT,e⟩;replace X:=X.trans e;replace Q:=F.out _ X.off;obtain⟨_,_,_,_,_,rfl⟩:=hT.three;simp only;obtain⟨k,t⟩ |rfl:=cz c
 · go_wp2_with fail
   generalize g:aN E _=q;obtain⟨m,e⟩:=nb g;replace F:=hdq (both (rb F.out (X.trans e)) (both (U9 m (X.ne br)) (hT.up e)));replace X:=X.trans e;replace br:=X.blk br;replace d:=d.trans X;replace X:=xr q;replace Q:=F.out _ X.off;clear g m e;clear hT;refine rgn (a.heap.size+1) (by kernel_rfl) X ?_;replace X:=X.drew;refine W2 [0,1,2,3,4,5,6,7,8,11] 4 (by kernel_rfl) X.off (fun _ _ _ _ _ h=> h) ?_
   iterate 10 (refine tk rfl (by rfl) (by intro w X;have Q:=F.out _ X;go_simp;(try with_reducible rfl)) ?_;try simp only[I3])
   replace Q:=F.out _ X.off;refine H0 9 (by kernel_rfl) rfl rfl (fun K hK=> ?_)
   go_simp
   obtain⟨e,l⟩:=fg 25 Q.2.2 Q.1.2.i Q.1.2.i Q.1.1.1.hN;replace X:=X.trans e;replace Q:=F.out _ X.off;refine hK.out _ _ X.off (fun _=> ?_);clear hK K;refine H0 10 (by kernel_rfl) rfl rfl (fun K hK=> ?_)
   go_simp
   go_at_call 60
   refine(Ra 10 Q.1.1.1.hN l rfl).mono ?_;rintro e M ⟨D,j,rfl,hx,e⟩;replace X:=X.trans e;replace Q:=F.out _ X.off;refine hK.out _ _ X.off (fun _=> ?_);clear hK K;have R:=cbn (X.blk br);refine H0 12 (by kernel_rfl) rfl rfl (fun K hK=> ?_)
   go_simp
   refine hK.out _ _ (X.off.set3 _ _ _) (fun _=> ?_);clear hK K;refine W2 [13] 0 (by kernel_rfl) (X.off.set3 _ _ _) (fun _ _ _ _ _ h=> h) ?_;refine tk rfl (by rfl) (by intro w X;go_simp;(try with_reducible rfl)) ?_
   try simp only[I3]
   refine bP (by kernel_rfl) ?_ _;go_wp2_with fail;exact Ua (by simp[aQ,results169,go_sem,R]) (hx) (Tk (J.out k.out) k.out) (d.trans X) (aP _) rfl
 obtain⟨s2,c,L,O,T⟩:=k8 (H.out rfl);clear I H J;go_wp2_with fail;generalize g:aN E _=q;obtain⟨m,e⟩:=nb g;replace F:=hdq (both (rb F.out (X.trans e)) (both (U9 m (X.ne br)) (hT.up e)));replace X:=X.trans e;replace br:=X.blk br;replace d:=d.trans X;replace X:=xr q;replace Q:=F.out _ X.off;clear g m e;clear hT;refine(Tt B _ _ Q.1.1.1 _ _ Q.2.2 _ L.out).mono ?_;rintro e M ⟨rfl,e⟩;replace X:=X.trans e;replace Q:=F.out _ X.off;simp only;obtain⟨k,t⟩ |rfl:=cz c
 · go_wp2_with fail
   refine rgn (a.heap.size+1) (by kernel_rfl) X ?_;replace X:=X.drew;refine W2 [0,1,2,3,4,5,6,7,8,11] 4 (by kernel_rfl) X.off (fun _ _ _ _ _ h=> h) ?_
   iterate 10 (refine tk rfl (by rfl) (by intro w X;have Q:=F.out _ X;go_simp;(try with_reducible rfl)) ?_;try simp only[I3])
   replace Q:=F.out _ X.off;refine H0 9 (by kernel_rfl) rfl rfl (fun K hK=> ?_)
   go_simp
   obtain⟨e,l⟩:=fg 25 Q.2.2 Q.1.2.i Q.1.2.i Q.1.1.1.hN;replace X:=X.trans e;replace Q:=F.out _ X.off;refine hK.out _ _ X.off (fun _=> ?_);clear hK K;refine H0 10 (by kernel_rfl) rfl rfl (fun K hK=> ?_)
   go_simp
   go_at_call 60
   refine(Ra 10 Q.1.1.1.hN l rfl).mono ?_;rintro e U ⟨D,j,rfl,hx,e⟩;replace X:=X.trans e;replace Q:=F.out _ X.off;refine hK.out _ _ X.off (fun _=> ?_);clear hK K;have R:=cbn (X.blk br);refine H0 12 (by kernel_rfl) rfl rfl (fun K hK=> ?_)
   go_simp
   refine hK.out _ _ (X.off.set3 _ _ _) (fun _=> ?_);clear hK K;refine W2 [13] 0 (by kernel_rfl) (X.off.set3 _ _ _) (fun _ _ _ _ _ h=> h) ?_;refine tk rfl (by rfl) (by intro w X;go_simp;(try with_reducible rfl)) ?_
   try simp only[I3]
   refine bP (by kernel_rfl) ?_ _;go_wp2_with fail;exact Ua (by simp[aQ,results169,go_sem,R]) (hx) (Tk (T.out k.out) k.out) (d.trans X) (aP _) rfl
 go_wp2_with fail;refine rgn (a.heap.size+1) (by kernel_rfl) X ?_;replace X:=X.drew;refine W2 [0,1,2,3,4,5,6,7,8,11] 4 (by kernel_rfl) X.off (fun _ _ _ _ _ h=> h) ?_
 iterate 10 (refine tk rfl (by rfl) (by intro w X;have Q:=F.out _ X;go_simp;(try with_reducible rfl)) ?_;try simp only[I3])
 replace Q:=F.out _ X.off;refine H0 9 (by kernel_rfl) rfl rfl (fun K hK=> ?_)
 go_simp
 obtain⟨e,l⟩:=fg 25 Q.2.2 Q.1.2.i Q.1.2.i Q.1.1.1.hN;replace X:=X.trans e;replace Q:=F.out _ X.off;refine hK.out _ _ X.off (fun _=> ?_);clear hK K;refine H0 10 (by kernel_rfl) rfl rfl (fun K hK=> ?_)
 go_simp
 go_at_call 60
 refine(Ra 10 Q.1.1.1.hN l rfl).mono ?_;rintro e U ⟨D,j,rfl,hx,e⟩;replace X:=X.trans e;replace Q:=F.out _ X.off;refine hK.out _ _ X.off (fun _=> ?_);clear hK K;have R:=cbn (X.blk br);refine H0 12 (by kernel_rfl) rfl rfl (fun K hK=> ?_)
 go_simp
 refine hK.out _ _ (X.off.set3 _ _ _) (fun _=> ?_);clear hK K;refine W2 [13] 0 (by kernel_rfl) (X.off.set3 _ _ _) (fun _ _ _ _ _ h=> h) ?_;refine tk rfl (by rfl) (by intro w X;go_simp;(try with_reducible rfl)) ?_
 try simp only[I3]
 refine bP (by kernel_rfl) ?_ _;go_wp2_with fail;exact Ua (by simp[aQ,results169,go_sem,R]) (hx) (aq (O.out (by trivial))) (d.trans X) (aP _) rfl
theorem RI{f:Nat}(m:k9 f){G:List Tr}{A:Option Addr}{ca:Nat}(c:aK)(N:Nat->Prop)(g:SJ c N A G ca)(k n:Int)(a:List Tr)(hk:k≠1/\k≠2/\k≠6/\k≠7/\k≠8/\k≠11)(i:a.length=1)(b:j0 m0 (.mk 15 0 [kd a 0])=true)(v:aS)(hT:InT c N (.mk k n a) v)(ty:Nat->An)(d:ty 0=M0 f G (kd a 0))(r:Tr×Int)(h:bj ty k (kd a 0)=some r):aV prog 169 #[.slice A G.length ca,v] c (N9 N c r):=by
 have H:=hdq h;clear h;have t:=hdq b;clear b;have p:=hdq d;clear d;have w:=hdq i;clear i;have o:=hdq hT;obtain⟨At,ct,rfl,-⟩:=InT.mk_iff.1 hT;clear hT;have t1:(k==1)=false:=by simp[hk]
 have t2:(k==2)=false:=by simp[hk]
 have B:(k==6)=false:=by simp[hk]
 have x:(k==7)=false:=by simp[hk]
 have y:(k==8)=false:=by simp[hk]
 have s:(k==11)=false:=by simp[hk]
 clear hk;go_enter func169,ntmps169;go_wp2_with fail;generalize l:aN (aN c _) _=q;obtain⟨j,br,S⟩:=Yd l.symm g;have F:=hdq (S);have X:=xr q;have Q:=F.out _ X.off;clear S g l;refine(wE m _ _ Q.1 k n a w.out t.out _ (o.out.keep (j.trans X) (aP _)) ty p.out r H.out).mono ?_;rintro e z ⟨u,rfl,hT,e⟩;replace X:=X.trans e;replace Q:=F.out _ X.off;obtain⟨_,_,_,_,_,rfl⟩:=hT.three;have R:=cbn (X.blk br);go_wp2_with fail;exact n7 (by simp[aQ,results169,go_sem,R]) (hT) (rfl) (j.trans X) (aP _) rfl
theorem QD{f:Nat}{G:List Tr}{k n:Int}{a:List Tr}(hv:j0 m0 (.mk k n a)=true){i:Nat}{s:Tr}(hi:i < a.length)(h:ga (N0 f) G k a i=some (s,0)):j0 m0 s=true:=by
 have hk:j0 m0 (kd a i)=true:=Cd (t:= .mk k n a) hv hi;unfold ga at h
 split at h
 · exact mF hk h
 · split at h
   · simp at h
   · exact mF hk h
def II(g:aK)(N:Nat->Prop)(G:List Tr)(k:Int)(f:List Tr)(i:Nat)(e:Ending)(b:aK):Prop:=
 ∃d a H c,e= .returned (.tuple #[.slice d (H:List Tr).length a,.int .i64 c])/\Ext g b/\((c=2/\H= []/\E4 k i≠0/\20<=G.length)\/(c=0/\H.length<=a/\a<=aU/\InK b N d H/\((E4 k i=0/\H=G)\/(E4 k i≠0/\G.length < 20/\H=G++ [kd f 0]))))
theorem BF(G:List Tr)(k n:Int)(a:List Tr)(d:aK)(N:Nat->Prop)(hN: ∀b,d.heap.size<=b->N b)(A At:Option Addr)(ca ct:Nat)(hG:InK d N A G)(hK:InK d N At a)(J:a.length<=ct)(M:ct<=aU)(F:G.length<=ca)(s:ca<=aU)(i:Nat)(hi:i < a.length):
 aV prog 106 #[.slice A G.length ca,.agg #[.int .i64 k,.int .i64 n,.slice At a.length ct],.int .i64 i] d (II d N G k a i):=by
 have c:=(xr d).alloc (.cells #[.int .i64 k,.int .i64 n,.slice At a.length ct] 25);have D:=heap_alloc_new d (.cells #[.int .i64 k,.int .i64 n,.slice At a.length ct] 25);obtain⟨g,f⟩: ∃x,x=d.alloc (.cells #[.int .i64 k,.int .i64 n,.slice At a.length ct] 25):=⟨_,rfl⟩;rw[<-f] at c D;obtain⟨b,o,rfl,C⟩:=InK.kid hK (by omega);obtain⟨V,R,Z,P,O,m,p,v,hT⟩:=C 0 (by omega);simp only[Nat.mul_zero,Nat.add_zero] at m p v;have y:=hdq hT;have B:=hdq hG;have K:=hdq hN;have l:=hdq (fun W=> ws k i W);unfold II;have I:(0:Int) <(a.length:Int):=by omega
 have X:0 < a.length:=by omega
 clear C hT hG hK hN;have U:=c.cell m;have T:=c.cell p;have Q:=c.cell v;clear m p v;obtain⟨Y,z1,S,-,-,-⟩:=own3 D;obtain⟨u,z⟩: ∃u,u=E4 k i:=⟨_,rfl⟩;rw[<-z] at l⊢;clear z;by_cases h:u=0
 · have t1:(u==0)=true:=by simp[h]
   go_enter func106,ntmps106;go_wp2_with fail;rw[<-f];clear f;refine(l.out g).mono ?_;rintro e j ⟨rfl,rfl⟩;go_wp2_with fail;go_ret2;exact⟨A,ca,G,0,rfl,c,.inr ⟨rfl,F,s,B.out.later c,.inl ⟨h,rfl⟩⟩⟩
 · have t1:(u==0)=false:=by simp[h]
   by_cases E:20<=G.length
   · go_enter func106,ntmps106
     go_wp2_with fail;rw[<-f];clear f;refine(l.out g).mono ?_;rintro e j ⟨rfl,rfl⟩;go_wp2_with fail;refine(qH G (kd a 0) g N A ca _ (y.out.later c) E).mono ?_;rintro e j ⟨rfl,w⟩;go_wp2_with fail;go_ret2;exact⟨none,0, [],2,rfl,c.trans w,.inl ⟨rfl,rfl,h,E⟩⟩
   · go_enter func106,ntmps106
     go_wp2_with fail;rw[<-f];clear f;refine(l.out g).mono ?_;rintro e j ⟨rfl,rfl⟩;go_wp2_with fail;refine(XG G (kd a 0) g N (fun b hb=> K.out b (by have:=c.size;omega)) A ca _ (B.out.later c) (y.out.later c) (by omega)).mono ?_;rintro e j ⟨L,H,rfl,r,t,q,w⟩;go_wp2_with fail;go_ret2;exact⟨L,H,G++ [kd a 0],0,by simp,c.trans w,.inr ⟨rfl,by simpa using r,t,q,.inr ⟨h,by omega,rfl⟩⟩⟩
def Xi(f:Nat):Prop:= ∀(a:aK) (N:Nat->Prop) (A:Option Addr) (ca:Nat) (G:List Tr) (t:Tr) (v:aS) (r:Tr×Int),(∀b,a.heap.size<=b->N b)->G.length<=ca->ca<=aU->InK a N A G->(∀x∈G,j0 m0 x=true)->G.length<=20->InT a N t v->j0 m0 t=true->N0 f G t=some r->
 aV prog 64 #[.slice A G.length ca,v] a (N9 N a r)
theorem FI(f:Nat)(IH:Xi f)(R:aK)(L C:Nat)(A At:Option Addr)(ca ct:Nat)(G:List Tr)(k n:Int)(a:List Tr)(Y9:R.heap[L]? =some (.cells #[.slice A G.length ca] 23 (0,0)))(pw:R.heap[C]? =some (.cells #[.int .i64 k,.int .i64 n,.slice At a.length ct] 25 (0,0)))(U:a.length<=ct)(l8:ct<=aU)(J5:G.length<=ca)(J:ca<=aU)(ii: ∀x∈G,j0 m0 x=true)(hL:G.length<=20)(mf:j0 m0 (.mk k n a)=true):VI R L C A G At a (ga (N0 f) G k a):=by
 intro p N hx hN hG hK i hi r hr;have bi: ∀x∈a,j0 m0 x=true:=fun x hm=> UA mf hm
 have Ak:=hdq bi;have ww:=hdq ii;have Ed:=hdq IH;have HN:=hdq hN;have HG:=hdq hG;have HK:=hdq hK;have HR:=hdq hr;obtain⟨b,o,rfl,I8⟩:=InK.kid hK (by omega);obtain⟨k1,k2,k3,k4,k5,E,F,D,hT⟩:=I8 i hi;rw[Nat.mul_comm 3 i] at E F D;have HT:=hdq hT;have t:=hx.blk Y9;have j:=hx.blk pw;have hpi:(i:Int) <(a.length:Int):=by omega
 clear I8 hT hG hK hN IH bi ii hr mf Y9 pw hx;obtain⟨z,Z⟩: ∃x,x=(p.alloc (.cells #[.int .i64 0,.int .i64 0,.slice none 0 0] 25)):=⟨_,rfl⟩;obtain⟨O,s1,q⟩:=rC Z;obtain⟨M,m⟩: ∃M,M=(fun b=> N b/\b≠p.heap.size):=⟨_,rfl⟩;have P5:=hdq (show∀b,z.heap.size<=b->M b from m▸Oa HN.out q.size (by omega));have Ao:=hdq (show InK z M A G from m▸HG.out.keep q (aM _));have vh:=hdq (show InK z M _ a from m▸HK.out.keep q (aM _));have Gl:=hdq (show InT z M (kd a i) _ from m▸HT.out.keep q (aM _));have HM:=hdq m;clear m;have zA:p.cell? ⟨L,0,none⟩=some (.slice A G.length ca):=i1 t 0;have S:p.cell? ⟨C,0,none⟩=some (.int .i64 k):=i1 j 0;have Q:p.cell? ⟨C,1,none⟩=some (.int .i64 n):=i1 j 1;have Y:p.cell? ⟨C,2,none⟩=some (.slice (some ⟨b,o,none⟩) a.length ct):=i1 j 2;have lA:=O1 t;have lB:=O1 j;go_enter func105,ntmps105;go_wp2_with fail;rw[<-Z];clear Z;clear zA S Q Y lA lB;refine(BF G k n a z M P5.out A _ ca ct Ao.out vh.out U l8 J5 J i hi).mono ?_;rintro e w2 ⟨A',c',H,c,rfl,B,hO⟩;have s2:=B.size;rcases hO with⟨rfl,rfl,w,et⟩ |⟨rfl,X,K,s,hH⟩
 · obtain rfl:r=(E2,2):=by
    have:=HR.out;unfold ga at this;rw[if_neg w,if_pos et] at this
    simpa using this.symm
   clear E F D;have l:=B;have y:=Z9 (l.blk O);have T:=q;have g:=T.trans B;have P:=KC (g.blk t);have ZB:=cb3 (g.blk j);go_wp2_with fail;refine aO (v:= .tuple #[.agg #[.int .i64 0,.int .i64 0,.slice none 0 0],.int .i64 2]) (by simp[aQ,results105,go_sem,y]) rfl ⟨_,rfl,F5 _ _ 0 0,(g.set3 (by omega) _ _ _)⟩
 · have I:Hid (N0 f H (kd a i)=some r/\(∀x∈H,j0 m0 x=true)/\H.length<=20):=hdq (by
    have:=HR.out;unfold ga at this;rcases hH with⟨w,rfl⟩ |⟨w,et,rfl⟩
    · rw[if_pos w] at this
      exact⟨this,ww.out,hL⟩
    · rw[if_neg w,if_neg (by omega)] at this
      refine⟨this,fun x hx=> ?_,by simp;omega⟩;rcases List.mem_append.1 hx with hx|hx
      · exact ww.out x hx
      · rw[List.mem_singleton.1 hx]
        exact Ak.out _ (Li (by omega)))
   have gm:=hdq s;clear hH s HR;have T:=q;have g:=T.trans B;have Er:=g.cell E;have qo:=g.cell F;have jd:=g.cell D;clear E F D;have l:=B;have y:=Z9 (l.blk O);have P:=KC (g.blk t);have ZB:=cb3 (g.blk j);go_wp2_with fail;clear y P ZB;refine(Ed.out w2 M A' c' H (kd a i) _ r (fun b hb=> P5.out b (by have:=l.size;omega)) X K gm.out I.out.2.1 I.out.2.2 (Gl.out.later l) (Ak.out _ (Li hi)) I.out.1).mono ?_;rintro e w3 ⟨u,rfl,hT,V⟩;have s3:=V.size;obtain⟨⟨q1,q2,q3⟩,d⟩:=r;simp only at hT⊢;obtain⟨a2,b2,A2,l2,c2,rfl⟩:=hT.three;have T2:=hdq hT;clear hT I Er qo jd;have i6:=l.trans V;have y:=Z9 (i6.blk O);have W:=g.trans V;have P:=KC (W.blk t);have ZB:=cb3 (W.blk j);go_wp2_with fail;refine aO (v:= .tuple #[.agg #[.int .i64 a2,.int .i64 b2,.slice A2 l2 c2],.int .i64 d]) (by simp[aQ,results105,go_sem,y]) rfl ⟨_,rfl,InT.ret (HM.out▸T2.out) _ _ _,(W.set3 (by omega) _ _ _)⟩
theorem Lz: ∀f,Xi f
 |0=> fun m N A ca G t v r hN p a hG ii z ht hv hr=> by cases hr
 |f+1=> fun m N A ca G t v r hN p a hG ii z ht hv hr=> by
  obtain⟨k,n,c⟩:=t;have o:=hdq (show Vb G (N0 f G) (ga (N0 f) G k c) k n c=some r from hr);obtain⟨At,ct,rfl,l,L,hK⟩:=InT.mk_iff.1 ht;have P:=hdq (Lz f);have HN:=hdq hN;have HG:=hdq hG;have HK:=hdq hK;have C:=hdq hv;have F:=hdq ii;clear hN hG hK hv ii ht hr;obtain⟨g,K⟩: ∃x,x=(((m.alloc (.cells #[.slice A G.length ca] 23)).alloc (.cells #[.int .i64 k,.int .i64 n,.slice At c.length ct] 25)).alloc (.cells #[.int .i64 0,.int .i64 0,.slice none 0 0] 25)):=⟨_,rfl⟩;obtain⟨w,I,O,s1,q⟩:=xg K;obtain⟨M,j⟩: ∃M,M=(fun b=> N b/\b≠m.heap.size+1+1):=⟨_,rfl⟩;have P5:=hdq (show∀b,g.heap.size<=b->M b from j▸Oa HN.out q.size (by omega));have S:=hdq (show InK g M A G from j▸HG.out.keep q (by omega));have V:=hdq (show InK g M At c from j▸HK.out.keep q (by omega));have Y:=hdq j;clear j;have D:=hdq (FI f P.out g _ _ A At ca ct G k n c w I l L p a F.out z C.out);have U:Hid (Rb g g M (m.heap.size) (m.heap.size+1) A G At c (ga (N0 f) G k c)):=hdq ⟨D.out,xr _,P5.out,S.out,V.out⟩;have HI:Hid (Ce g A ca G (N0 f G)):=hdq (fun W N' hx J C5 Z v' Gm B r' rj=> P.out W N' A ca G Z v' r' J p a C5 F.out z Gm B rj);have Ee:Hid (∀i s,i < c.length->ga (N0 f) G k c i=some (s,0)->j0 m0 s=true):=hdq (fun i s hi hs=> QD C.out hi hs);go_enter func64,ntmps64;go_wp2_with fail;rw[<-K];clear K;have Q:=KC w;have R:=cb3 I;have E:=Z9 O;go_wp2_with fail;clear Q R E;refine(RH k n ca ct l L g M U.out (N0 f G) HI.out C.out F.out p a Ee.out r o.out).mono ?_;rintro e w2 ⟨u,rfl,hT,H⟩;have s2:=H.size;obtain⟨⟨q1,q2,q3⟩,d⟩:=r;simp only at hT⊢;obtain⟨X,b2,A2,T,c2,rfl⟩:=hT.three;have T2:=hdq hT;clear hT o;have y:=H;have Q:=KC (y.blk w);have R:=cb3 (y.blk I);have E:=Z9 (y.blk O);have j7:=q;have e9:=j7.trans H;go_wp2_with fail;refine aO (v:= .tuple #[.agg #[.int .i64 X,.int .i64 b2,.slice A2 T c2],.int .i64 d]) (by simp[aQ,results64,go_sem,E]) rfl ⟨_,rfl,InT.ret (Y.out▸T2.out) _ _ _,(e9.set3 (by omega) _ _ _)⟩

/-
  Lemmas towards the law, 34: MStat, SInfM, SInfE, InfK.
-/
import Derived.Test.YtckhbnmfnpolgaaGreatC00
import Derived.Test.YtckhbnmfnpolgaaGreatCBG
open List renaming length_cons->cN
open Go renaming World->aL,Value->aT,Calls->aX,results->aR,wpAnyH_done->bP,maxLen->aV,bodyPost_ret->aP
open Go.World renaming alloc->aO
open Nat renaming le_succ->aQ,le_refl->aN
open Go.IntWalk renaming i64_in->eL
open Go.Proofs.Tryz
set_option linter.all false
set_option maxHeartbeats 8000000
set_option maxRecDepth 100000
namespace Go.Proofs.YtckhbnmfnpolgaaGreat
open Go.RowKit
open M (Hd HR Cv Ty Lim Wb y6 U4 dep DG fvb)
def SG:M.Tm->Prop
 | .pi A B=> dep A<=4/\SG A/\SG B
 | .lam A B=> dep A<=4/\SG A/\SG B
 | .sg A B=> dep A<=4/\SG A/\SG B
 | .app f a=> SG f/\SG a
 | .succ a=> SG a
 | .elim p z s a=> j0 D0 (enc (M.stepTy p))=true/\SG p/\SG z/\SG s/\SG a
 | .id T a b=> SG T/\SG a/\SG b
 | .refl a=> SG a
 | .move p e a=>((∃x,e= .refl x)\/(∃n,e= .var n)/\cnt (enc p)<=300)/\SG p/\SG e/\SG a
 | .pair T a b=>(∃X Y,T= .sg X Y/\j0 D0 (enc (Y.inst a))=true)/\SG T/\SG a/\SG b
 | .fst a=> SG a
 | .snd a=> SG a
 |_=> True
theorem HR.at{a b:M.Tm}(h:HR a b)(k:M.hk a≠0):b=a:=by
 cases h with
 |refl=> rfl
 |step c=> exact absurd c.hk k
theorem Pu{G:List M.Tm}{p e a:M.Tm}(hG:O6 G)(hD:DG G 4)(hv:j0 D0 (enc (.move p e a))=true)(h:(∃x,e= .refl x)\/(∃n,e= .var n)/\cnt (enc p)<=300): ∀E T l r,Ty G e E->HR E (.id T l r)->j0 D0 (enc (.id T l r))=true->j0 D0 (enc (.app p l))=true:=by
 intro E T l r b d hi;refine TC (J1 hv (by simp)) (Tz hv (by simp)) hi ?_;rcases h with⟨x,rfl⟩ |h
 · cases b with
   |refl b=>
    cases HR.at d (by simp[M.hk])
    have c:=(Z3 hv).2;simp only[enc,cnt,W1] at c;omega
 · obtain⟨n,rfl⟩:=h.1
   have hE:dep E<=4:=by
    cases b with
    |var b=> exact hD.lk b
   obtain⟨m,ev⟩:=d.ev (by simp[M.hk]);rcases Lim.type b hG.wf trivial with rfl|⟨-,k,-,S,f,c⟩
   · cases ev.val (by simp[M.hk])
   · have g:=M.ev4t hE f c ev
     simp only[dep] at g;have:3*cnt (enc l)+1<=256:=Xw l 4 (by omega);have:=h.2;omega
theorem Ft: ∀(t:M.Tm) (G:List M.Tm),SG t->O6 G->DG G 4->G.length<=20->j0 D0 (enc t)=true->Ag G t:=by
 intro t
 induction t with
 |var n=> intro G h hG hD hl hv;exact k8 hG hl _ hv trivial trivial
 |sort n=> intro G h hG hD hl hv;exact k8 hG hl _ hv trivial trivial
 |nat=> intro G h hG hD hl hv;exact k8 hG hl _ hv trivial trivial
 |zero=> intro G h hG hD hl hv;exact k8 hG hl _ hv trivial trivial
 |pi A B c d=> intro G h hG hD hl hv;exact k8 hG hl _ hv ⟨c G h.2.1 hG hD hl (J1 hv (by simp)),fun b i=> d (A::G) h.2.2 (hG.cons b (J1 hv (by simp))) (hD.cons h.1) (by simp only[cN];omega) (J1 hv (by simp))⟩ trivial
 |lam A B c d=> intro G h hG hD hl hv;exact k8 hG hl _ hv ⟨c G h.2.1 hG hD hl (J1 hv (by simp)),fun b i=> d (A::G) h.2.2 (hG.cons b (J1 hv (by simp))) (hD.cons h.1) (by simp only[cN];omega) (J1 hv (by simp))⟩ trivial
 |sg A B c d=> intro G h hG hD hl hv;exact k8 hG hl _ hv ⟨c G h.2.1 hG hD hl (J1 hv (by simp)),fun b i=> d (A::G) h.2.2 (hG.cons b (J1 hv (by simp))) (hD.cons h.1) (by simp only[cN];omega) (J1 hv (by simp))⟩ trivial
 |app f a c d=> intro G h hG hD hl hv;exact k8 hG hl _ hv ⟨c G h.1 hG hD hl (J1 hv (by simp)),d G h.2 hG hD hl (J1 hv (by simp))⟩ trivial
 |succ a c=> intro G h hG hD hl hv;exact k8 hG hl _ hv (c G h hG hD hl (J1 hv (by simp))) trivial
 |refl a c=> intro G h hG hD hl hv;exact k8 hG hl _ hv (c G h hG hD hl (J1 hv (by simp))) trivial
 |fst a c=> intro G h hG hD hl hv;exact k8 hG hl _ hv (c G h hG hD hl (J1 hv (by simp))) trivial
 |snd a c=> intro G h hG hD hl hv;exact k8 hG hl _ hv (c G h hG hD hl (J1 hv (by simp))) trivial
 |id T a b c d g=> intro G h hG hD hl hv;exact k8 hG hl _ hv ⟨c G h.1 hG hD hl (J1 hv (by simp)),d G h.2.1 hG hD hl (J1 hv (by simp)),g G h.2.2 hG hD hl (J1 hv (by simp))⟩ trivial
 |elim p z s a c d g l=>
  intro G h hG hD hl hv;exact k8 hG hl _ hv ⟨c G h.2.1 hG hD hl (J1 hv (by simp)),d G h.2.2.1 hG hD hl (J1 hv (by simp)),g G h.2.2.2.1 hG hD hl (J1 hv (by simp)),l G h.2.2.2.2 hG hD hl (J1 hv (by simp))⟩ (.inl fun _ _=> h.1)
 |pair T a b c d g=>
  intro G h hG hD hl hv;refine k8 hG hl _ hv ⟨c G h.2.1 hG hD hl (J1 hv (by simp)),d G h.2.2.1 hG hD hl (J1 hv (by simp)),g G h.2.2.2 hG hD hl (J1 hv (by simp))⟩ (.inl fun S X Y Z u j m q=> ?_);obtain⟨r,o,rfl,k⟩:=h.1;have:=HR.at j (by simp[M.hk]);cases this
  exact k
 |move p e a c d g=>
  intro G h hG hD hl hv;exact k8 hG hl _ hv ⟨c G h.2.1 hG hD hl (J1 hv (by simp)),d G h.2.2.1 hG hD hl (J1 hv (by simp)),g G h.2.2.2 hG hD hl (J1 hv (by simp))⟩ (.inl (Pu hG hD hv h.1))
def KM(t:M.Tm):Prop:=SG t\/dep t<=4
theorem DG.mono4{G:List M.Tm}(h:DG G 3):DG G 4:=h.up (by omega)
theorem KM.ag{t:M.Tm}{G:List M.Tm}(h:KM t)(hG:O6 G)(hD:DG G 3)(hl:G.length<=12)(v:j0 D0 (enc t)=true):Ag G t:=by
 rcases h with h|h
 · exact Ft t G h hG (DG.mono4 hD) (by omega) v
 · exact yG t G hG hD h (by omega) v
def Dx(G:List M.Tm):M.Tm->Prop
 | .pi A B=> KM A/\(KM B/\dep A<=3\/SG B/\dep A<=4)
 | .lam A B=> KM A/\(KM B/\dep A<=3\/SG B/\dep A<=4)
 | .sg A B=> KM A/\(KM B/\dep A<=3\/SG B/\dep A<=4)
 | .app f a=> KM f/\KM a
 | .succ a=> KM a
 | .elim p z s a=>(j0 D0 (enc (M.stepTy p))=true\/dep p<=4)/\KM p/\KM z/\KM s/\KM a
 | .id T a b=> KM T/\KM a/\KM b
 | .refl a=> KM a
 | .move p e a=>((∃x,e= .refl x)\/(∃n,e= .var n)/\cnt (enc p)<=300\/Yg G a)/\KM p/\KM e/\KM a
 | .pair T a b=>((∃X Y,T= .sg X Y/\j0 D0 (enc (Y.inst a))=true)\/Yg G b)/\KM T/\KM a/\KM b
 | .fst a=> KM a
 | .snd a=> KM a
 |_=> True
theorem Dx.under{G:List M.Tm}{A B:M.Tm}(h:KM B/\dep A<=3\/SG B/\dep A<=4)(hG:O6 (A::G))(hD:DG G 3)(hl:G.length<=11)(v:j0 D0 (enc B)=true):Ag (A::G) B:=by
 rcases h with⟨h,d⟩ |⟨h,d⟩
 · exact h.ag hG (hD.cons d) (by simp only[cN];omega) v
 · exact Ft B (A::G) h hG ((DG.mono4 hD).cons d) (by simp only[cN];omega) v
theorem Xu{G:List M.Tm}(hG:O6 G)(hD:DG G 3)(hl:G.length<=11): ∀t:M.Tm,Dx G t->j0 D0 (enc t)=true->Ag G t:=by
 have K: ∀{k n:Int} {d:List Tr} {x:M.Tm},j0 D0 (.mk k n d)=true->enc x∈d->KM x->Ag G x:=fun hv hm h=> h.ag hG hD (by omega) (J1 hv hm)
 intro t h hv;cases t with
 |var n=> exact k8 hG (by omega) _ hv trivial trivial
 |sort n=> exact k8 hG (by omega) _ hv trivial trivial
 |nat=> exact k8 hG (by omega) _ hv trivial trivial
 |zero=> exact k8 hG (by omega) _ hv trivial trivial
 |pi A B=> exact k8 hG (by omega) _ hv ⟨K hv (by simp) h.1,fun b _=> Dx.under h.2 (hG.cons b (J1 hv (by simp))) hD hl (J1 hv (by simp))⟩ trivial
 |lam A B=> exact k8 hG (by omega) _ hv ⟨K hv (by simp) h.1,fun b _=> Dx.under h.2 (hG.cons b (J1 hv (by simp))) hD hl (J1 hv (by simp))⟩ trivial
 |sg A B=> exact k8 hG (by omega) _ hv ⟨K hv (by simp) h.1,fun b _=> Dx.under h.2 (hG.cons b (J1 hv (by simp))) hD hl (J1 hv (by simp))⟩ trivial
 |app f a=> exact k8 hG (by omega) _ hv ⟨K hv (by simp) h.1,K hv (by simp) h.2⟩ trivial
 |succ a=> exact k8 hG (by omega) _ hv (K hv (by simp) h) trivial
 |refl a=> exact k8 hG (by omega) _ hv (K hv (by simp) h) trivial
 |fst a=> exact k8 hG (by omega) _ hv (K hv (by simp) h) trivial
 |snd a=> exact k8 hG (by omega) _ hv (K hv (by simp) h) trivial
 |id T a b=> exact k8 hG (by omega) _ hv ⟨K hv (by simp) h.1,K hv (by simp) h.2.1,K hv (by simp) h.2.2⟩ trivial
 |elim p z s a=>
  refine k8 hG (by omega) _ hv ⟨K hv (by simp) h.2.1,K hv (by simp) h.2.2.1,K hv (by simp) h.2.2.2.1,K hv (by simp) h.2.2.2.2⟩ (.inl fun F hF=> ?_);rcases h.1 with c|c
  · exact c
  · have j:3*cnt (enc p)+1<=256:=Xw p 4 c
    exact LC hF.fv (J1 hv (by simp)) (by omega) (by omega)
 |pair T a b=>
  refine k8 hG (by omega) _ hv ⟨K hv (by simp) h.2.1,K hv (by simp) h.2.2.1,K hv (by simp) h.2.2.2⟩ ?_;rcases h.1 with c|c
  · refine .inl fun S X Y Z r i o q=> ?_
    obtain⟨m,l,rfl,g⟩:=c;cases HR.at i (by simp[M.hk])
    exact g
  · exact .inr c
 |move p e a=>
  refine k8 hG (by omega) _ hv ⟨K hv (by simp) h.2.1,K hv (by simp) h.2.2.1,K hv (by simp) h.2.2.2⟩ ?_;rcases h.1 with c|c|c
  · exact .inl (Pu hG (DG.mono4 hD) hv (.inl c))
  · exact .inl (Pu hG (DG.mono4 hD) hv (.inr c))
  · exact .inr c
end Go.Proofs.YtckhbnmfnpolgaaGreat
namespace Go.Proofs.YtckhbnmfnpolgaaGreat
open Go.RowKit
attribute [local go_sem ↓] Go.wp_at_zero Go.wp_at_succ
theorem uG{f:Nat}(D:a9 f){G:List Tr}{A:Option Addr}{ca:Nat}(d:aL)(N:Nat->Prop)(J:SJ d N A G ca)(k n:Int)(j:List Tr)(C:j.length=3)(v:aT)(hT:InT d N (.mk k n j) v)(ty:Nat->An)(Y:ty 0=Q0 f G (kd j 0))(U:ty 1=Q0 f G (kd j 1))(I:ty 2=Q0 f G (kd j 2))(r:Tr×Int)(h:zp ty (kd j 0)=some r):aX prog 167 #[.slice A G.length ca,v] d (Ug N d r):=by
 unfold zp at h;rw[Y,U,I] at h;obtain⟨s,c,x,B,y⟩:=a7 h;clear h Y U I;obtain⟨At,ct,rfl,-,l8,hK⟩:=InT.mk_iff.1 hT;obtain⟨b,o,rfl,-,⟨O8,Q6,O7,P5,P4,Z⟩,⟨ah,bm,aj,dc,df,H⟩,pk,oo,ot,po,pg,V⟩:=j19 hK C;rw[C];clear hT hK C;go_enter func167,ntmps167;go_wp2_with fail;generalize p:aO (aO d _) _=w1;obtain⟨g,br,S⟩:=ie p.symm J;have F:=hdq (both S (both (Z.up g (aQ _)) (both (H.up g (aQ _)) (V.up g (aQ _)))));have X:=xr w1;have Q:=F.out _ X.off;clear S J p Z H V;refine(vE D _ _ Q.1.1 _ _ Q.2.2.1.i 10 _ x.out).mono ?_;rintro e w2 ⟨u,rfl,hT,e⟩;replace X:=X.trans e;replace Q:=F.out _ X.off;simp only at hT⊢;obtain⟨ka,na,p7⟩:=s;obtain⟨A1,c1,rfl,-,-,hK⟩:=InT.mk_iff.1 hT;clear hT;obtain⟨q,t⟩ |rfl:=cz c
 · have R:=cbn (X.blk br)
   have R':=fun o=> cbn ((X.alloc o).blk br)
   go_wp2_with fail;exact Vg (by simp[aR,results167,go_sem,R,R']) (y.out q.out) q.out (((g.trans X).alloc _).set3 (aQ _) _ _ _) rfl
 obtain⟨-,a,-⟩:=vp x.out;have E:=B.out rfl;simp only[Tr.kids] at a E;have a:p7.length=3:=by have:U0 10=3:=rfl;omega
 clear x B y;obtain⟨c,W,M,H3⟩:=Jn E;clear E;obtain⟨b2,o2,rfl,z,⟨jm,jw,jq,jl,jk,P⟩,⟨f11,f12,f13,f14,f15,O⟩,f21,f22,f23,f24,f25,T⟩:=j19 hK a;rw[a];clear hK a;go_wp2_with fail;generalize p:aO w2 _=w3;obtain⟨L,e⟩:=nb p;replace F:=hdq (both (rb F.out (X.trans e)) (both (m7 L (X.ne br)) (both (P.fm z e) (both (O.fm z e) (T.fm z e)))));replace X:=X.trans e;replace br:=X.blk br;replace g:=g.trans X;replace X:=xr w3;replace Q:=F.out _ X.off;clear p L e;clear P O T z;refine rgn (d.heap.size+1) (by kernel_rfl) X ?_;replace X:=X.drew;refine O2 [0,1,2,3,4,5,6,7,8] 2 (by kernel_rfl) X.off (fun _ _ _ _ _ h=> h) ?_
 iterate 9 (refine tk rfl (by rfl) (by intro w X;have Q:=F.out _ X;go_simp;(try with_reducible rfl)) ?_;try simp only[N2])
 replace Q:=F.out _ X.off;refine O0 9 (by kernel_rfl) rfl rfl (fun K hK=> ?_)
 go_simp
 go_at_call 189
 refine(VJ D _ _ Q.1.1.1 _ _ _ _ Q.1.2.1.i Q.2.2.1.l c W.out).mono ?_;rintro e w4 ⟨rfl,e⟩;replace X:=X.trans e;replace Q:=F.out _ X.off;refine hK.out _ _ X.off (fun _=> ?_);clear hK K;refine O2 [10] 0 (by kernel_rfl) X.off (fun _ _ _ _ _ h=> h) ?_;refine tk rfl (by rfl) (by intro w X;go_simp;(try with_reducible rfl)) ?_
 try simp only[N2]
 refine bP (by kernel_rfl) ?_ _;obtain⟨q,t⟩ |rfl:=cz c
 · go_wp2_with fail
   refine rgn (d.heap.size+1) (by kernel_rfl) X ?_;replace X:=X.drew;refine O2 [0,1,2,3,4,5,6,7,10] 4 (by kernel_rfl) X.off (fun _ _ _ _ _ h=> h) ?_
   iterate 9 (refine tk rfl (by rfl) (by intro w X;have Q:=F.out _ X;go_simp;(try with_reducible rfl)) ?_;try simp only[N2])
   replace Q:=F.out _ X.off;refine O0 8 (by kernel_rfl) rfl rfl (fun K hK=> ?_)
   go_simp
   obtain⟨e,m⟩:=K6 25 Q.1.2.1.i Q.2.2.2.2.i Q.1.1.1.hN;replace X:=X.trans e;replace Q:=F.out _ X.off;refine hK.out _ _ X.off (fun _=> ?_);clear hK K;refine O0 9 (by kernel_rfl) rfl rfl (fun K hK=> ?_)
   go_simp
   go_at_call 60
   refine(Qa 5 Q.1.1.1.hN m rfl).mono ?_;rintro e w5 ⟨A9,c9,rfl,hx,e⟩;replace X:=X.trans e;replace Q:=F.out _ X.off;refine hK.out _ _ X.off (fun _=> ?_);clear hK K;have R:=cbn (X.blk br);refine O0 11 (by kernel_rfl) rfl rfl (fun K hK=> ?_)
   go_simp
   refine hK.out _ _ (X.off.set3 _ _ _) (fun _=> ?_);clear hK K;refine O2 [12] 0 (by kernel_rfl) (X.off.set3 _ _ _) (fun _ _ _ _ _ h=> h) ?_;refine tk rfl (by rfl) (by intro w X;go_simp;(try with_reducible rfl)) ?_
   try simp only[N2]
   refine bP (by kernel_rfl) ?_ _;go_wp2_with fail;exact Va (by simp[aR,results167,go_sem,R]) (hx) (Tl (H3.out q.out) q.out) (g.trans X) (aQ _) rfl
 obtain⟨c,x,B,y⟩:=Sc (M.out rfl);clear W M H3;go_wp2_with fail;refine rgn (d.heap.size+1) (by kernel_rfl) X ?_;replace X:=X.drew;refine O2 [0,1,2,3,4,5,6,7,8,9,10,11,12] 4 (by kernel_rfl) X.off (fun _ _ _ _ _ h=> h) ?_
 iterate 13 (refine tk rfl (by rfl) (by intro w X;have Q:=F.out _ X;go_simp;(try with_reducible rfl)) ?_;try simp only[N2])
 replace Q:=F.out _ X.off;refine O0 13 (by kernel_rfl) rfl rfl (fun K hK=> ?_)
 go_simp
 obtain⟨e,m⟩:=K6 25 Q.1.2.1.i Q.2.2.2.1.i Q.1.1.1.hN;replace X:=X.trans e;replace Q:=F.out _ X.off;refine hK.out _ _ X.off (fun _=> ?_);clear hK K;refine O0 14 (by kernel_rfl) rfl rfl (fun K hK=> ?_)
 go_simp
 go_at_call 60
 refine(Qa 5 Q.1.1.1.hN m rfl).mono ?_;rintro e w5 ⟨A14,c14,rfl,hx,e⟩;replace X:=X.trans e;replace Q:=F.out _ X.off;refine hK.out _ _ X.off (fun _=> ?_);clear hK K;refine O0 15 (by kernel_rfl) rfl rfl (fun K hK=> ?_)
 go_simp
 go_at_call 116
 refine(Ml D _ _ Q.1.1.1 (kd j 2) _ _ _ Q.1.2.2.2.i hx.lies' c x.out).mono ?_;rintro e w6 ⟨rfl,e⟩;replace X:=X.trans e;replace Q:=F.out _ X.off;refine hK.out _ _ X.off (fun _=> ?_);clear hK K;refine O2 [16] 0 (by kernel_rfl) X.off (fun _ _ _ _ _ h=> h) ?_;refine tk rfl (by rfl) (by intro w X;go_simp;(try with_reducible rfl)) ?_
 try simp only[N2]
 refine bP (by kernel_rfl) ?_ _;clear hx m;go_wp2_with fail;refine rgn (d.heap.size+1) (by kernel_rfl) X ?_;replace X:=X.drew;refine O2 [0,1,2,3,4,5,6,7,10] 4 (by kernel_rfl) X.off (fun _ _ _ _ _ h=> h) ?_
 iterate 9 (refine tk rfl (by rfl) (by intro w X;have Q:=F.out _ X;go_simp;(try with_reducible rfl)) ?_;try simp only[N2])
 replace Q:=F.out _ X.off;refine O0 8 (by kernel_rfl) rfl rfl (fun K hK=> ?_)
 go_simp
 obtain⟨e,m⟩:=K6 25 Q.1.2.1.i Q.2.2.2.2.i Q.1.1.1.hN;replace X:=X.trans e;replace Q:=F.out _ X.off;refine hK.out _ _ X.off (fun _=> ?_);clear hK K;refine O0 9 (by kernel_rfl) rfl rfl (fun K hK=> ?_)
 go_simp
 go_at_call 60
 refine(Qa 5 Q.1.1.1.hN m rfl).mono ?_;rintro e w7 ⟨A9,c9,rfl,hx,e⟩;replace X:=X.trans e;replace Q:=F.out _ X.off;refine hK.out _ _ X.off (fun _=> ?_);clear hK K;have R:=cbn (X.blk br);refine O0 11 (by kernel_rfl) rfl rfl (fun K hK=> ?_)
 go_simp
 refine hK.out _ _ (X.off.set3 _ _ _) (fun _=> ?_);clear hK K;refine O2 [12] 0 (by kernel_rfl) (X.off.set3 _ _ _) (fun _ _ _ _ _ h=> h) ?_;refine tk rfl (by rfl) (by intro w X;go_simp;(try with_reducible rfl)) ?_
 try simp only[N2]
 refine bP (by kernel_rfl) ?_ _;go_wp2_with fail;exact Va (by simp[aR,results167,go_sem,R]) (hx) (Tk B.out y.out) (g.trans X) (aQ _) rfl
theorem eH{f:Nat}(l:a9 f){G:List Tr}{A:Option Addr}{ca:Nat}(a:aL)(N:Nat->Prop)(c:SJ a N A G ca)(n:Int)(d:List Tr)(o:0<=n)(k:n<=3)(v:aT)(hT:InT a N (.mk 2 n d) v)(ty:Nat->An)(r:Tr×Int)(h:some (if 3<=n then(j2,1) else(m6 (n+1),0))=some r):aX prog 169 #[.slice A G.length ca,v] a (q8 N a r):=by
 obtain⟨At,ct,rfl,-,m,hK⟩:=InT.mk_iff.1 hT;clear hT;by_cases hn:3<=n
 · obtain rfl:r=(j2,1):=by rw[if_pos hn] at h;simpa using h.symm
   have t1:decide ((3:Int)<=n)=true:=decide_eq_true hn;clear h hn;go_enter func169,ntmps169;go_wp2_with fail;exact D9 (by simp[aR,results169,go_sem,fK]) rfl (((xr _).alloc _).alloc _) rfl
 obtain rfl:r=(m6 (n+1),0):=by rw[if_neg hn] at h;simpa using h.symm
 have t1:decide ((3:Int)<=n)=false:=decide_eq_false hn;have b:IntKind.i64.wrap (n+1)=n+1:=eL _ ⟨by omega,by omega⟩;clear h hn;go_enter func169,ntmps169;go_wp2_with fail;generalize b:aO (aO a _) _=g;obtain⟨i,br,S⟩:=ie b.symm c;have F:=hdq (S);have X:=xr g;have Q:=F.out _ X.off;clear S c b;refine(q15 _ 2 (n+1)).mono ?_;rintro e j ⟨rfl,e⟩;replace X:=X.trans e;replace Q:=F.out _ X.off;have R:=cbn (X.blk br);go_wp2_with fail;exact R6 (by simp[aR,results169,go_sem,R]) (d5 _ _ 2 (n+1)) (rfl) (i.trans X) (aQ _) rfl
theorem uJ{f:Nat}(k:a9 f){G:List Tr}{A:Option Addr}{ca:Nat}(a:aL)(N:Nat->Prop)(c:SJ a N A G ca)(n:Int)(d:List Tr)(v:aT)(hT:InT a N (.mk 6 n d) v)(ty:Nat->An)(r:Tr×Int)(h:some (m6 0,0)=some r):aX prog 169 #[.slice A G.length ca,v] a (q8 N a r):=by
 obtain⟨At,ct,rfl,-,l,hK⟩:=InT.mk_iff.1 hT;clear hT;obtain rfl:r=(m6 0,0):=by simpa using h.symm
 clear h;go_enter func169,ntmps169;go_wp2_with fail;generalize b:aO (aO a _) _=g;obtain⟨i,br,S⟩:=ie b.symm c;have F:=hdq (S);have X:=xr g;have Q:=F.out _ X.off;clear S c b;refine(q15 _ 2 0).mono ?_;rintro e j ⟨rfl,e⟩;replace X:=X.trans e;replace Q:=F.out _ X.off;have R:=cbn (X.blk br);go_wp2_with fail;exact R6 (by simp[aR,results169,go_sem,R]) (d5 _ _ 2 0) (rfl) (i.trans X) (aQ _) rfl
theorem FH{f:Nat}(k:a9 f){G:List Tr}{A:Option Addr}{ca:Nat}(a:aL)(N:Nat->Prop)(c:SJ a N A G ca)(n:Int)(d:List Tr)(v:aT)(hT:InT a N (.mk 7 n d) v)(ty:Nat->An)(r:Tr×Int)(h:some (n5,0)=some r):aX prog 169 #[.slice A G.length ca,v] a (q8 N a r):=by
 obtain⟨At,ct,rfl,-,l,hK⟩:=InT.mk_iff.1 hT;clear hT;obtain rfl:r=(n5,0):=by simpa using h.symm
 clear h;go_enter func169,ntmps169;go_wp2_with fail;generalize b:aO (aO a _) _=g;obtain⟨i,br,S⟩:=ie b.symm c;have F:=hdq (S);have X:=xr g;have Q:=F.out _ X.off;clear S c b;refine(q15 _ 6 0).mono ?_;rintro e j ⟨rfl,e⟩;replace X:=X.trans e;replace Q:=F.out _ X.off;have R:=cbn (X.blk br);go_wp2_with fail;exact R6 (by simp[aR,results169,go_sem,R]) (d5 _ _ 6 0) (rfl) (i.trans X) (aQ _) rfl
theorem jG{f:Nat}(Y:a9 f){G:List Tr}{A:Option Addr}{ca:Nat}(b:aL)(N:Nat->Prop)(c:SJ b N A G ca)(n:Int)(C:List Tr)(p:0<=n)(y:n<=20)(v:aT)(hT:InT b N (.mk 1 n C) v)(ty:Nat->An)(r:Tr×Int)(h:some (Mr G n)=some r):aX prog 169 #[.slice A G.length ca,v] b (q8 N b r):=by
 obtain⟨At,ct,rfl,-,l8,hK⟩:=InT.mk_iff.1 hT;clear hT;by_cases a:(G.length:Int)<=n
 · obtain rfl:r=(j2,1):=by unfold Mr at h;rw[if_pos a] at h;simpa using h.symm
   have t1:decide ((G.length:Int)<=n)=true:=decide_eq_true a;clear h a p y;go_enter func169,ntmps169;go_wp2_with fail;exact D9 (by simp[aR,results169,go_sem,fK]) rfl (((xr _).alloc _).alloc _) rfl
 have t1:decide ((G.length:Int)<=n)=false:=decide_eq_false a;have j:=c.h21;obtain⟨i,hi⟩: ∃i:Nat,(G.length:Int) - 1 - n=(i:Int):=⟨G.length - 1 - n.toNat,by omega⟩;have s:G.length - 1 - n.toNat=i:=by omega
 have x:i < G.length:=by omega
 have I:(i:Int) <(G.length:Int):=by omega
 have E:IntKind.i64.wrap ((G.length:Int) - 1)=(G.length:Int) - 1:=eL _ ⟨by omega,by omega⟩;have k:IntKind.i64.wrap ((G.length:Int) - 1 - n)=(i:Int):=by rw[hi];exact eL _ ⟨by omega,by omega⟩
 have g:IntKind.i64.wrap (n+1)=n+1:=eL _ ⟨by omega,by omega⟩;have t:=hdq (fun W M D V (B:Lies W (kd G i) V)=> Xo (kd G i) (n+1) (c.hv _ (Xi x)) (by omega) (by omega) W M D V B);obtain⟨Z,og,rfl,L,q⟩:=Cd c.hG (by omega);obtain⟨x1,T,x3,P,O,d⟩:=q i x;rw[Nat.mul_comm] at d;obtain⟨J,m⟩: ∃X,shfT (n+1) (kd G i) 0=X:=⟨_,rfl⟩;obtain rfl:r=(J,0):=by unfold Mr at h;rw[if_neg a,s,m] at h;simpa using h.symm
 rw[m] at t;clear h m q s hi p y a j L;go_enter func169,ntmps169;go_wp2_with fail;generalize o:aO (aO b _) _=H;obtain⟨z,br,S⟩:=ie o.symm c;have F:=hdq (both S (d.up z (aQ _)));have X:=xr H;have Q:=F.out _ X.off;clear S c o d;refine rgn (b.heap.size+1) (by kernel_rfl) X ?_;replace X:=X.drew;refine O2 [0,1,2,3,4,5,6,7,8,9,10,11] 3 (by kernel_rfl) X.off (fun _ _ _ _ _ h=> h) ?_
 iterate 12 (refine tk rfl (by rfl) (by intro w X;have Q:=F.out _ X;go_simp;(try with_reducible rfl)) ?_;try simp only[N2])
 replace Q:=F.out _ X.off;refine O0 12 (by kernel_rfl) rfl rfl (fun K hK=> ?_)
 go_simp
 go_at_call 104
 refine(t.out _ _ Q.1.1.hN _ Q.2.l).mono ?_;rintro e U ⟨u,rfl,hx,e⟩;replace X:=X.trans e;replace Q:=F.out _ X.off;refine hK.out _ _ X.off (fun _=> ?_);clear hK K;obtain⟨_,_,_,_,_,rfl⟩:=hx.three;clear E k g t1;have R:=cbn (X.blk br);refine O0 13 (by kernel_rfl) rfl rfl (fun K hK=> ?_)
 go_simp
 refine hK.out _ _ (X.off.set3 _ _ _) (fun _=> ?_);clear hK K;refine O2 [14] 0 (by kernel_rfl) (X.off.set3 _ _ _) (fun _ _ _ _ _ h=> h) ?_;refine tk rfl (by rfl) (by intro w X;go_simp;(try with_reducible rfl)) ?_
 try simp only[N2]
 refine bP (by kernel_rfl) ?_ _;go_wp2_with fail;exact R6 (by simp[aR,results169,go_sem,R]) (hx) (rfl) (z.trans X) (aQ _) rfl
theorem sJ{f:Nat}(L:a9 f){G:List Tr}{A:Option Addr}{ca:Nat}(g:aL)(N:Nat->Prop)(t:SJ g N A G ca)(n:Int)(m:List Tr)(p:m.length=1)(v:aT)(hT:InT g N (.mk 8 n m) v)(ty:Nat->An)(x:ty 0=Q0 f G (kd m 0))(r:Tr×Int)(h:W3 (ty 0) n5 (some (n5,0))=some r):aX prog 169 #[.slice A G.length ca,v] g (Ug N g r):=by
 rw[x] at h;obtain⟨c,C,O,D⟩:=Sc h;clear h x;obtain⟨At,ct,rfl,-,W,hK⟩:=InT.mk_iff.1 hT;obtain⟨b,o,rfl,-,E,B,T,I,P,u⟩:=q16 hK p;rw[p];clear hT hK p;go_enter func169,ntmps169;go_wp2_with fail;generalize s:aO (aO g _) _=J;obtain⟨y,br,S⟩:=ie s.symm t;have F:=hdq (both S (u.up y (aQ _)));have X:=xr J;have Q:=F.out _ X.off;clear S t s u;refine rgn (g.heap.size+1) (by kernel_rfl) X ?_;replace X:=X.drew;refine O2 [1,2,3,4,5] 5 (by kernel_rfl) X.off (fun _ _ _ _ _ h=> h) ?_
 iterate 5 (refine tk rfl (by rfl) (by intro w X;have Q:=F.out _ X;go_simp;(try with_reducible rfl)) ?_;try simp only[N2])
 replace Q:=F.out _ X.off;refine Vi 8 93 #[true,true,true,true,true,true,true,true,false,false] 2 [Sp.val (M0 6 0 none 0 0),.any,.any,.any,.any,.any,Sp.val (M0 6 0 none 0 0),Sp.val (m0 c)] [0,6,7] (fun w h=>(X.trans h).off) (by kernel_rfl) rfl ?st1 ?fi1
 case st1=>
  repeat' first|exact trivial|refine And.intro ⟨_,rfl, ?_⟩ ?_
  all_goals(intro a w z hE d H;refine Ord.step_of rfl rfl ?_;intro K hK)
  · (go_simp;go_at_call 62;refine(q15 w 6 0).mono ?_;rintro e q ⟨rfl,k⟩;exact hK _ _ ⟨_,z,rfl,n9 hE k,rfl⟩)
  · (go_simp;go_at_call 62;refine(q15 w 6 0).mono ?_;rintro e q ⟨rfl,k⟩;exact hK _ _ ⟨_,z,rfl,n9 hE k,rfl⟩)
  · (have M:=D3 (show a.eval (.tmp 50)= .slice A G.length ca from d 50 (by kernel_rfl));have U:=D3 (show a.eval (.tmp 54)= M0 E B T I P from d 54 (by kernel_rfl));have V:=Wj (H 6 55 (by kernel_rfl)) rfl;go_simp;go_at_call 116;refine(Ml L _ _ (SJ.oldG' Q.1.1 hE) (kd m 0) n5 _ _ (Q.2.i.oldG' hE) (d5 _ (fun _=> True) 6 0).lies' c C.out).mono ?_;rintro e q ⟨rfl,k⟩;exact hK _ _ ⟨_,z,rfl,n9 hE k,rfl⟩)
 case fi1=>
  intro v q z hE hG;have j:v 0= M0 6 0 none 0 0:=hG 0 (by decide) (by kernel_rfl);have l:v 7= m0 c:=hG 7 (by decide) (by kernel_rfl);simp only[List.foldl,Ord.dstOf,List.getElem?_toArray,List.getElem?_cons_zero,List.getElem?_cons_succ,Option.bind_some,Act.put,List.setIfInBounds_toArray,List.set_cons_zero,List.set_cons_succ];rw[j,l];replace X:=X.trans hE.1;replace Q:=F.out _ X.off;clear hG hE j l;have R:=cbn (X.blk br);refine O0 8 (by kernel_rfl) rfl rfl (fun K hK=> ?_)
  go_simp
  refine hK.out _ _ (X.off.set3 _ _ _) (fun _=> ?_);clear hK K;refine O2 [9] 0 (by kernel_rfl) (X.off.set3 _ _ _) (fun _ _ _ _ _ h=> h) ?_;refine tk rfl (by rfl) (by intro w X;go_simp;(try with_reducible rfl)) ?_
  try simp only[N2]
  refine bP (by kernel_rfl) ?_ _;go_wp2_with fail;exact Va (by simp[aR,results169,go_sem,R]) (d5 _ _ 6 0) (Tk O.out D.out) (y.trans X) (aQ _) rfl
theorem PH{f:Nat}(E:a9 f){G:List Tr}{A:Option Addr}{ca:Nat}(d:aL)(N:Nat->Prop)(C:SJ d N A G ca)(n:Int)(j:List Tr)(x:j.length=1)(v:aT)(hT:InT d N (.mk 11 n j) v)(ty:Nat->An)(J:ty 0=Q0 f G (kd j 0))(r:Tr×Int)(h:Dq (Q0 f G) ty (kd j 0)=some r):aX prog 169 #[.slice A G.length ca,v] d (Ug N d r):=by
 unfold Dq at h;rw[J] at h;obtain⟨s,c,z,H,y⟩:=a7 h;clear h J;obtain⟨At,ct,rfl,-,Z,hK⟩:=InT.mk_iff.1 hT;obtain⟨b,o,rfl,-,W,V,O7,Y,P4,D⟩:=q16 hK x;rw[x];clear hT hK x;go_enter func169,ntmps169;go_wp2_with fail;generalize a:aO (aO d _) _=P;obtain⟨g,br,S⟩:=ie a.symm C;have F:=hdq (both S (D.up g (aQ _)));have X:=xr P;have Q:=F.out _ X.off;clear S C a D;refine(E G (kd j 0) (s,c) z.out _ _ A ca _ Q.1.1 Q.2.i).mono ?_;rintro e B ⟨u,rfl,hT,e⟩;replace X:=X.trans e;replace Q:=F.out _ X.off;obtain⟨_,_,_,_,_,rfl⟩:=hT.three;simp only;obtain⟨p,t⟩ |rfl:=cz c
 · go_wp2_with fail
   generalize a:aO B _=q;obtain⟨l,e⟩:=nb a;replace F:=hdq (both (rb F.out (X.trans e)) (both (m7 l (X.ne br)) (hT.up e)));replace X:=X.trans e;replace br:=X.blk br;replace g:=g.trans X;replace X:=xr q;replace Q:=F.out _ X.off;clear a l e;clear hT;refine rgn (d.heap.size+1) (by kernel_rfl) X ?_;replace X:=X.drew;refine O2 [0,1,2,3,4,5,6,7,8,11] 4 (by kernel_rfl) X.off (fun _ _ _ _ _ h=> h) ?_
   iterate 10 (refine tk rfl (by rfl) (by intro w X;have Q:=F.out _ X;go_simp;(try with_reducible rfl)) ?_;try simp only[N2])
   replace Q:=F.out _ X.off;refine O0 9 (by kernel_rfl) rfl rfl (fun K hK=> ?_)
   go_simp
   obtain⟨e,m⟩:=fd 25 Q.2.2 Q.1.2.i Q.1.2.i Q.1.1.1.hN;replace X:=X.trans e;replace Q:=F.out _ X.off;refine hK.out _ _ X.off (fun _=> ?_);clear hK K;refine O0 10 (by kernel_rfl) rfl rfl (fun K hK=> ?_)
   go_simp
   go_at_call 60
   refine(Qa 10 Q.1.1.1.hN m rfl).mono ?_;rintro e T ⟨I,k,rfl,hx,e⟩;replace X:=X.trans e;replace Q:=F.out _ X.off;refine hK.out _ _ X.off (fun _=> ?_);clear hK K;have R:=cbn (X.blk br);refine O0 12 (by kernel_rfl) rfl rfl (fun K hK=> ?_)
   go_simp
   refine hK.out _ _ (X.off.set3 _ _ _) (fun _=> ?_);clear hK K;refine O2 [13] 0 (by kernel_rfl) (X.off.set3 _ _ _) (fun _ _ _ _ _ h=> h) ?_;refine tk rfl (by rfl) (by intro w X;go_simp;(try with_reducible rfl)) ?_
   try simp only[N2]
   refine bP (by kernel_rfl) ?_ _;go_wp2_with fail;exact Va (by simp[aR,results169,go_sem,R]) (hx) (Tl (y.out p.out) p.out) (g.trans X) (aQ _) rfl
 obtain⟨s2,c,L,U,O⟩:=a7 (H.out rfl);clear z H y;go_wp2_with fail;generalize a:aO B _=q;obtain⟨l,e⟩:=nb a;replace F:=hdq (both (rb F.out (X.trans e)) (both (m7 l (X.ne br)) (hT.up e)));replace X:=X.trans e;replace br:=X.blk br;replace g:=g.trans X;replace X:=xr q;replace Q:=F.out _ X.off;clear a l e;clear hT;refine(wv E _ _ Q.1.1.1 _ _ Q.2.2 _ L.out).mono ?_;rintro e T ⟨rfl,e⟩;replace X:=X.trans e;replace Q:=F.out _ X.off;simp only;obtain⟨p,t⟩ |rfl:=cz c
 · go_wp2_with fail
   refine rgn (d.heap.size+1) (by kernel_rfl) X ?_;replace X:=X.drew;refine O2 [0,1,2,3,4,5,6,7,8,11] 4 (by kernel_rfl) X.off (fun _ _ _ _ _ h=> h) ?_
   iterate 10 (refine tk rfl (by rfl) (by intro w X;have Q:=F.out _ X;go_simp;(try with_reducible rfl)) ?_;try simp only[N2])
   replace Q:=F.out _ X.off;refine O0 9 (by kernel_rfl) rfl rfl (fun K hK=> ?_)
   go_simp
   obtain⟨e,m⟩:=fd 25 Q.2.2 Q.1.2.i Q.1.2.i Q.1.1.1.hN;replace X:=X.trans e;replace Q:=F.out _ X.off;refine hK.out _ _ X.off (fun _=> ?_);clear hK K;refine O0 10 (by kernel_rfl) rfl rfl (fun K hK=> ?_)
   go_simp
   go_at_call 60
   refine(Qa 10 Q.1.1.1.hN m rfl).mono ?_;rintro e M ⟨I,k,rfl,hx,e⟩;replace X:=X.trans e;replace Q:=F.out _ X.off;refine hK.out _ _ X.off (fun _=> ?_);clear hK K;have R:=cbn (X.blk br);refine O0 12 (by kernel_rfl) rfl rfl (fun K hK=> ?_)
   go_simp
   refine hK.out _ _ (X.off.set3 _ _ _) (fun _=> ?_);clear hK K;refine O2 [13] 0 (by kernel_rfl) (X.off.set3 _ _ _) (fun _ _ _ _ _ h=> h) ?_;refine tk rfl (by rfl) (by intro w X;go_simp;(try with_reducible rfl)) ?_
   try simp only[N2]
   refine bP (by kernel_rfl) ?_ _;go_wp2_with fail;exact Va (by simp[aR,results169,go_sem,R]) (hx) (Tl (O.out p.out) p.out) (g.trans X) (aQ _) rfl
 go_wp2_with fail;refine rgn (d.heap.size+1) (by kernel_rfl) X ?_;replace X:=X.drew;refine O2 [0,1,2,3,4,5,6,7,8,11] 4 (by kernel_rfl) X.off (fun _ _ _ _ _ h=> h) ?_
 iterate 10 (refine tk rfl (by rfl) (by intro w X;have Q:=F.out _ X;go_simp;(try with_reducible rfl)) ?_;try simp only[N2])
 replace Q:=F.out _ X.off;refine O0 9 (by kernel_rfl) rfl rfl (fun K hK=> ?_)
 go_simp
 obtain⟨e,m⟩:=fd 25 Q.2.2 Q.1.2.i Q.1.2.i Q.1.1.1.hN;replace X:=X.trans e;replace Q:=F.out _ X.off;refine hK.out _ _ X.off (fun _=> ?_);clear hK K;refine O0 10 (by kernel_rfl) rfl rfl (fun K hK=> ?_)
 go_simp
 go_at_call 60
 refine(Qa 10 Q.1.1.1.hN m rfl).mono ?_;rintro e M ⟨I,k,rfl,hx,e⟩;replace X:=X.trans e;replace Q:=F.out _ X.off;refine hK.out _ _ X.off (fun _=> ?_);clear hK K;have R:=cbn (X.blk br);refine O0 12 (by kernel_rfl) rfl rfl (fun K hK=> ?_)
 go_simp
 refine hK.out _ _ (X.off.set3 _ _ _) (fun _=> ?_);clear hK K;refine O2 [13] 0 (by kernel_rfl) (X.off.set3 _ _ _) (fun _ _ _ _ _ h=> h) ?_;refine tk rfl (by rfl) (by intro w X;go_simp;(try with_reducible rfl)) ?_
 try simp only[N2]
 refine bP (by kernel_rfl) ?_ _;go_wp2_with fail;exact Va (by simp[aR,results169,go_sem,R]) (hx) (yr (U.out (by trivial))) (g.trans X) (aQ _) rfl
theorem jK{f:Nat}(w:a9 f){G:List Tr}{A:Option Addr}{ca:Nat}(c:aL)(N:Nat->Prop)(i:SJ c N A G ca)(k n:Int)(a:List Tr)(hk:k≠1/\k≠2/\k≠6/\k≠7/\k≠8/\k≠11)(g:a.length=1)(b:j0 D0 (.mk 15 0 [kd a 0])=true)(v:aT)(hT:InT c N (.mk k n a) v)(ty:Nat->An)(j:ty 0=Q0 f G (kd a 0))(r:Tr×Int)(h:jj ty k (kd a 0)=some r):aX prog 169 #[.slice A G.length ca,v] c (q8 N c r):=by
 have H:=hdq h;clear h;have s:=hdq b;clear b;have p:=hdq j;clear j;have o:=hdq g;clear g;have m:=hdq hT;obtain⟨At,ct,rfl,-⟩:=InT.mk_iff.1 hT;clear hT;have t1:(k==1)=false:=by simp[hk]
 have t2:(k==2)=false:=by simp[hk]
 have B:(k==6)=false:=by simp[hk]
 have z:(k==7)=false:=by simp[hk]
 have x:(k==8)=false:=by simp[hk]
 have q:(k==11)=false:=by simp[hk]
 clear hk;go_enter func169,ntmps169;go_wp2_with fail;generalize d:aO (aO c _) _=t;obtain⟨l,br,S⟩:=ie d.symm i;have F:=hdq (S);have X:=xr t;have Q:=F.out _ X.off;clear S i d;refine(YG w _ _ Q.1 k n a o.out s.out _ (m.out.keep (l.trans X) (aQ _)) ty p.out r H.out).mono ?_;rintro e y ⟨u,rfl,hT,e⟩;replace X:=X.trans e;replace Q:=F.out _ X.off;obtain⟨_,_,_,_,_,rfl⟩:=hT.three;have R:=cbn (X.blk br);go_wp2_with fail;exact R6 (by simp[aR,results169,go_sem,R]) (hT) (rfl) (l.trans X) (aQ _) rfl
theorem mH{f:Nat}{G:List Tr}{k n:Int}{a:List Tr}(hv:j0 D0 (.mk k n a)=true){i:Nat}{s:Tr}(hi:i < a.length)(h:da (S0 f) G k a i=some (s,0)):j0 D0 s=true:=by
 have hk:j0 D0 (kd a i)=true:=Vc (t:= .mk k n a) hv hi;unfold da at h
 split at h
 · exact oI hk h
 · split at h
   · simp at h
   · exact oI hk h
def iK(f:aL)(N:Nat->Prop)(G:List Tr)(k:Int)(g:List Tr)(i:Nat)(e:Ending)(b:aL):Prop:=
 ∃d a H c,e= .returned (.tuple #[.slice d (H:List Tr).length a,.int .i64 c])/\Ext f b/\((c=2/\H= []/\E4 k i≠0/\20<=G.length)\/(c=0/\H.length<=a/\a<=aV/\InK b N d H/\((E4 k i=0/\H=G)\/(E4 k i≠0/\G.length < 20/\H=G++ [kd g 0]))))
theorem fJ(G:List Tr)(k n:Int)(a:List Tr)(d:aL)(N:Nat->Prop)(hN: ∀b,d.heap.size<=b->N b)(A At:Option Addr)(ca ct:Nat)(hG:InK d N A G)(hK:InK d N At a)(I:a.length<=ct)(V:ct<=aV)(F:G.length<=ca)(r:ca<=aV)(i:Nat)(hi:i < a.length):
 aX prog 106 #[.slice A G.length ca,M0 k n At a.length ct,m0 i] d (iK d N G k a i):=by
 have c:=(xr d).alloc (H0 k n At a.length ct);have C:=heap_alloc_new d (H0 k n At a.length ct);obtain⟨g,f⟩: ∃x,x=d.alloc (H0 k n At a.length ct):=⟨_,rfl⟩;rw[<-f] at c C;obtain⟨b,o,rfl,B⟩:=InK.kid hK (by omega);obtain⟨T,X,Z,O,P,t,v,q,hT⟩:=B 0 (by omega);simp only[Nat.mul_zero,Nat.add_zero] at t v q;have y:=hdq hT;have z:=hdq hG;have K:=hdq hN;have j:=hdq (fun W=> nv k i W);unfold iK;have H:(0:Int) <(a.length:Int):=by omega
 have U:0 < a.length:=by omega
 clear B hT hG hK hN;have Y:=c.cell t;have R:=c.cell v;have jy:=c.cell q;clear t v q;obtain⟨M,Q,S,-,-,-⟩:=own3 C;obtain⟨u,D⟩: ∃u,u=E4 k i:=⟨_,rfl⟩;rw[<-D] at j⊢;clear D;by_cases h:u=0
 · have t1:(u==0)=true:=by simp[h]
   go_enter func106,ntmps106;go_wp2_with fail;rw[<-f];clear f;refine(j.out g).mono ?_;rintro e l ⟨rfl,rfl⟩;go_wp2_with fail;go_ret2;exact⟨A,ca,G,0,rfl,c,.inr ⟨rfl,F,r,z.out.later c,.inl ⟨h,rfl⟩⟩⟩
 · have t1:(u==0)=false:=by simp[h]
   by_cases E:20<=G.length
   · go_enter func106,ntmps106
     go_wp2_with fail;rw[<-f];clear f;refine(j.out g).mono ?_;rintro e l ⟨rfl,rfl⟩;go_wp2_with fail;refine(VH G (kd a 0) g N A ca _ (y.out.later c) E).mono ?_;rintro e l ⟨rfl,s⟩;go_wp2_with fail;go_ret2;exact⟨none,0, [],2,rfl,c.trans s,.inl ⟨rfl,rfl,h,E⟩⟩
   · go_enter func106,ntmps106
     go_wp2_with fail;rw[<-f];clear f;refine(j.out g).mono ?_;rintro e l ⟨rfl,rfl⟩;go_wp2_with fail;refine(XF G (kd a 0) g N (fun b hb=> K.out b (by have:=c.size;omega)) A ca _ (z.out.later c) (y.out.later c) (by omega)).mono ?_;rintro e l ⟨L,J,rfl,w,m,p,s⟩;go_wp2_with fail;go_ret2;exact⟨L,J,G++ [kd a 0],0,by simp,c.trans s,.inr ⟨rfl,by simpa using w,m,p,.inr ⟨h,by omega,rfl⟩⟩⟩
def Ti(f:Nat):Prop:= ∀(a:aL) (N:Nat->Prop) (A:Option Addr) (ca:Nat) (G:List Tr) (t:Tr) (v:aT) (r:Tr×Int),(∀b,a.heap.size<=b->N b)->G.length<=ca->ca<=aV->InK a N A G->(∀x∈G,j0 D0 x=true)->G.length<=20->InT a N t v->j0 D0 t=true->S0 f G t=some r->
 aX prog 64 #[.slice A G.length ca,v] a (q8 N a r)
theorem JF(f:Nat)(IH:Ti f)(Y:aL)(T y:Nat)(A At:Option Addr)(ca ct:Nat)(G:List Tr)(k n:Int)(a:List Tr)(dh:Y.heap[T]? =some (.cells #[.slice A G.length ca] 23 (0,0)))(si:Y.heap[y]? =some (H0 k n At a.length ct))(X:a.length<=ct)(l8:ct<=aV)(G0:G.length<=ca)(Z:ca<=aV)(jo: ∀x∈G,j0 D0 x=true)(hL:G.length<=20)(ol:j0 D0 (.mk k n a)=true):UJ Y T y A G At a (da (S0 f) G k a):=by
 intro l N hx hN hG hK i hi r hr;have di: ∀x∈a,j0 D0 x=true:=fun x hm=> ny ol hm
 have Ct:=hdq di;have ze:=hdq jo;have Fa:=hdq IH;have HN:=hdq hN;have HG:=hdq hG;have HK:=hdq hK;have HR:=hdq hr;obtain⟨b,o,rfl,J4⟩:=InK.kid hK (by omega);obtain⟨k1,k2,k3,k4,k5,I,E,D,hT⟩:=J4 i hi;rw[Nat.mul_comm 3 i] at I E D;have HT:=hdq hT;have z:=hx.blk dh;have j:=hx.blk si;have hpi:(i:Int) <(a.length:Int):=by omega
 clear J4 hT hG hK hN IH di jo hr ol dh si hx;obtain⟨B,R⟩: ∃x,x=(l.alloc (H0 0 0 none 0 0)):=⟨_,rfl⟩;obtain⟨J,s1,q⟩:=QB R;obtain⟨M,m⟩: ∃M,M=(fun b=> N b/\b≠l.heap.size):=⟨_,rfl⟩;have O3:=hdq (show∀b,B.heap.size<=b->M b from m▸Ia HN.out q.size (by omega));have zr:=hdq (show InK B M A G from m▸HG.out.keep q (aN _));have wo:=hdq (show InK B M _ a from m▸HK.out.keep q (aN _));have Gg:=hdq (show InT B M (kd a i) _ from m▸HT.out.keep q (aN _));have HM:=hdq m;clear m;have zA:l.cell? ⟨T,0,none⟩=some (.slice A G.length ca):=U1 z 0;have O:l.cell? ⟨y,0,none⟩=some (m0 k):=U1 j 0;have P:l.cell? ⟨y,1,none⟩=some (m0 n):=U1 j 1;have K:l.cell? ⟨y,2,none⟩=some (.slice (some ⟨b,o,none⟩) a.length ct):=U1 j 2;have lA:=O1 z;have lB:=O1 j;go_enter func105,ntmps105;go_wp2_with fail;rw[<-R];clear R;clear zA O P K lA lB;refine(fJ G k n a B M O3.out A _ ca ct zr.out wo.out X l8 G0 Z i hi).mono ?_;rintro e w2 ⟨A',c',H,c,rfl,C,hO⟩;have s2:=C.size;rcases hO with⟨rfl,rfl,w,fh⟩ |⟨rfl,U,V,s,hH⟩
 · obtain rfl:r=(j2,2):=by
    have:=HR.out;unfold da at this;rw[if_neg w,if_pos fh] at this
    simpa using this.symm
   clear I E D;have p:=C;have t:=m9 (p.blk J);have S:=q;have g:=S.trans C;have W:=sy (g.blk z);have L:=cb3 (g.blk j);go_wp2_with fail;refine aP (v:= .tuple #[M0 0 0 none 0 0,m0 2]) (by simp[aR,results105,go_sem,t]) rfl ⟨_,rfl,d5 _ _ 0 0,(g.set3 (by omega) _ _ _)⟩
 · have F:Hid (S0 f H (kd a i)=some r/\(∀x∈H,j0 D0 x=true)/\H.length<=20):=hdq (by
    have:=HR.out;unfold da at this;rcases hH with⟨w,rfl⟩ |⟨w,fh,rfl⟩
    · rw[if_pos w] at this
      exact⟨this,ze.out,hL⟩
    · rw[if_neg w,if_neg (by omega)] at this
      refine⟨this,fun x hx=> ?_,by simp;omega⟩;rcases List.mem_append.1 hx with hx|hx
      · exact ze.out x hx
      · rw[List.mem_singleton.1 hx]
        exact Ct.out _ (Xi (by omega)))
   have iq:=hdq s;clear hH s HR;have S:=q;have g:=S.trans C;have Lk:=g.cell I;have uh:=g.cell E;have jy:=g.cell D;clear I E D;have p:=C;have t:=m9 (p.blk J);have W:=sy (g.blk z);have L:=cb3 (g.blk j);go_wp2_with fail;clear t W L;refine(Fa.out w2 M A' c' H (kd a i) _ r (fun b hb=> O3.out b (by have:=p.size;omega)) U V iq.out F.out.2.1 F.out.2.2 (Gg.out.later p) (Ct.out _ (Xi hi)) F.out.1).mono ?_;rintro e w3 ⟨u,rfl,hT,e3⟩;have s3:=e3.size;obtain⟨⟨q1,q2,q3⟩,d⟩:=r;simp only at hT⊢;obtain⟨a2,b2,A2,l2,c2,rfl⟩:=hT.three;have T2:=hdq hT;clear hT F Lk uh jy;have j4:=p.trans e3;have t:=m9 (j4.blk J);have Q:=g.trans e3;have W:=sy (Q.blk z);have L:=cb3 (Q.blk j);go_wp2_with fail;refine aP (v:= .tuple #[M0 a2 b2 A2 l2 c2,m0 d]) (by simp[aR,results105,go_sem,t]) rfl ⟨_,rfl,InT.ret (HM.out▸T2.out) _ _ _,(Q.set3 (by omega) _ _ _)⟩
theorem RB: ∀f,Ti f
 |0=> fun j N A ca G t v r hN p c hG B F ht hv hr=> by cases hr
 |f+1=> fun j N A ca G t v r hN p c hG B F ht hv hr=> by
  obtain⟨k,n,a⟩:=t;have l:=hdq (show Ub G (S0 f G) (da (S0 f) G k a) k n a=some r from hr);obtain⟨At,ct,rfl,o,R,hK⟩:=InT.mk_iff.1 ht;have S:=hdq (RB f);have HN:=hdq hN;have X:=hdq hG;have HK:=hdq hK;have J:=hdq hv;have C:=hdq B;clear hN hG hK hv B ht hr;obtain⟨g,D⟩: ∃x,x=(((j.alloc (.cells #[.slice A G.length ca] 23)).alloc (H0 k n At a.length ct)).alloc (H0 0 0 none 0 0)):=⟨_,rfl⟩;obtain⟨H,K,O,s1,q⟩:=Tg D;obtain⟨M,m⟩: ∃M,M=(fun b=> N b/\b≠j.heap.size+1+1):=⟨_,rfl⟩;have O3:=hdq (show∀b,g.heap.size<=b->M b from m▸Ia HN.out q.size (by omega));have zr:=hdq (show InK g M A G from m▸X.out.keep q (by omega));have wo:=hdq (show InK g M At a from m▸HK.out.keep q (by omega));have HM:=hdq m;clear m;have y:=hdq (JF f S.out g _ _ A At ca ct G k n a H K o R p c C.out F J.out);have HJ:Hid (Mb g g M (j.heap.size) (j.heap.size+1) A G At a (da (S0 f) G k a)):=hdq ⟨y.out,xr _,O3.out,zr.out,wo.out⟩;have HI:Hid (ue g A ca G (S0 f G)):=hdq (fun W N' hx z V t' U Z w Y uy=> S.out W N' A ca G t' U Y z p c V C.out F Z w uy);have Ec:Hid (∀i s,i < a.length->da (S0 f) G k a i=some (s,0)->j0 D0 s=true):=hdq (fun i s hi hs=> mH J.out hi hs);go_enter func64,ntmps64;go_wp2_with fail;rw[<-D];clear D;have Q:=sy H;have P:=cb3 K;have E:=m9 O;go_wp2_with fail;clear Q P E;refine(ZE k n ca ct o R g M HJ.out (S0 f G) HI.out J.out C.out p c Ec.out r l.out).mono ?_;rintro e w2 ⟨u,rfl,hT,L⟩;have s2:=L.size;obtain⟨⟨q1,q2,q3⟩,d⟩:=r;simp only at hT⊢;obtain⟨T,b2,A2,l2,c2,rfl⟩:=hT.three;have T2:=hdq hT;clear hT l;have I:=L;have Q:=sy (I.blk H);have P:=cb3 (I.blk K);have E:=m9 (I.blk O);have j7:=q;have d6:=j7.trans L;go_wp2_with fail;refine aP (v:= .tuple #[M0 T b2 A2 l2 c2,m0 d]) (by simp[aR,results64,go_sem,E]) rfl ⟨_,rfl,InT.ret (HM.out▸T2.out) _ _ _,(d6.set3 (by omega) _ _ _)⟩

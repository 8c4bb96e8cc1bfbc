/-
  Lemmas towards the law, 2: MGood, MThm, MCtx.
-/
import Derived.Test.YtbnkbepgmenblaaGreatTAA
set_option linter.unusedVariables false
namespace Go.Proofs.YtbnkbepgmenblaaGreat.M
open Tm
inductive Wn:Tm->Prop where
 |var (n):Wn (.var n)
 |app {f} (a):Wn f->Wn (.app f a)
 |elim {a} (p z s):Wn a->Wn (.elim p z s a)
 |move {e} (p a):Wn e->Wn (.move p e a)
 |fst {a}:Wn a->Wn (.fst a)
 |snd {a}:Wn a->Wn (.snd a)
def Ne(t:Tm):Prop:= ∃n,HR t n/\Wn n
theorem Wn.hk{t:Tm}(h:Wn t):Go.Proofs.YtbnkbepgmenblaaGreat.M.hk t=0:=by cases h <;> rfl
theorem Wn.stuck{t u:Tm}(h:Wn t): ¬Hd t u:=by
 induction h generalizing u with
 |var n=> intro k;cases k
 |app a h ih=> intro k;cases k with
  |beta=> cases h
  |app _ k=> exact ih k
 |elim p z s h ih=> intro k;cases k with
  |ez=> cases h
  |es=> cases h
  |elim _ _ _ k=> exact ih k
 |move p a h ih=> intro k;cases k with
  |mr=> cases h
  |move _ _ k=> exact ih k
 |fst h ih=> intro k;cases k with
  |fp=> cases h
  |fst k=> exact ih k
 |snd h ih=> intro k;cases k with
  |sp=> cases h
  |snd k=> exact ih k
theorem Ne.not{t c:Tm}(h:Ne t)(k:HR t c)(hc:hk c≠0):False:=by
 obtain⟨n,h1,h2⟩:=h;have h3:=h1.after k hc;cases h3 with
 |refl=> exact hc h2.hk
 |step h4 _=> exact h2.stuck h4
theorem Ne.exp{t u:Tm}(h:HR t u)(k:Ne u):Ne t:=by
 obtain⟨n,h1,h2⟩:=k;exact⟨n,h.trans h1,h2⟩
theorem Ne.app{f:Tm}(h:Ne f)(a:Tm):Ne (.app f a):=by
 obtain⟨n,h1,h2⟩:=h;exact⟨_,h1.map (F:=fun x=> .app x a) fun h=> .app _ h,h2.app a⟩
theorem Ne.elim{a:Tm}(h:Ne a)(p z s:Tm):Ne (.elim p z s a):=by
 obtain⟨n,h1,h2⟩:=h;exact⟨_,h1.map (F:=fun x=> .elim p z s x) fun h=> .elim _ _ _ h,h2.elim p z s⟩
theorem Ne.move{e:Tm}(h:Ne e)(p a:Tm):Ne (.move p e a):=by
 obtain⟨n,h1,h2⟩:=h;exact⟨_,h1.map (F:=fun x=> .move p x a) fun h=> .move _ _ h,h2.move p a⟩
theorem Ne.fst{a:Tm}(h:Ne a):Ne (.fst a):=by
 obtain⟨n,h1,h2⟩:=h;exact⟨_,h1.map (F:=fun x=> .fst x) fun h=> .fst h,h2.fst⟩
theorem Ne.snd{a:Tm}(h:Ne a):Ne (.snd a):=by
 obtain⟨n,h1,h2⟩:=h;exact⟨_,h1.map (F:=fun x=> .snd x) fun h=> .snd h,h2.snd⟩
theorem Ne.var(n:Nat):Ne (.var n):=⟨_,.refl _,.var n⟩
section
variable (G : List Tm) (W : Tm → Prop)
def Gd(C:Tm)(Q P:Tm->Prop)(d:Tm):Prop:=W d/\(∃A,Ty G d A/\Cv A C/\Q A)/\P d
inductive NatP:Tm->Prop where
 |zero {a}:HR a .zero->NatP a
 |succ {a b A}:HR a (.succ b)->W b->Ty G b A->Cv A .nat->W A->NatP b->NatP a
 |ne {a}:Ne a->NatP a
inductive GT (k:Nat->Prop) (U: ∀j,k j->Tm->Prop):Tm->(Tm->Prop)->(Tm->Prop)->Prop where
 |nat {T Q P}:HR T .nat->(∀A,Q A↔W A/\HR A .nat)->(∀a,P a↔NatP G W a)->GT k U T Q P
 |sort {T Q P j} (h:k j):HR T (.sort j)->(∀A,Q A↔W A/\HR A (.sort j))->(∀a,P a↔U j h a)->GT k U T Q P
 |pi {T Q P C R QC PC} {Qd Pd:Tm->Tm->Prop}:HR T (.pi C R)->GT k U C QC PC->QC C->(∀d,Gd G W C QC PC d->GT k U (R.inst d) (Qd d) (Pd d))->(∀d,Gd G W C QC PC d->Qd d (R.inst d))->
  (∀A,Q A↔W A/\ ∃C' R',HR A (.pi C' R')/\Cv C' C/\QC C'/\ ∀d,Gd G W C QC PC d->Qd d (R'.inst d))->(∀f,P f↔ ∀d,Gd G W C QC PC d->Pd d (.app f d))->GT k U T Q P
 |sg {T Q P C R QC PC} {Qd Pd:Tm->Tm->Prop}:HR T (.sg C R)->GT k U C QC PC->QC C->(∀d,Gd G W C QC PC d->GT k U (R.inst d) (Qd d) (Pd d))->(∀d,Gd G W C QC PC d->Qd d (R.inst d))->
  (∀A,Q A↔W A/\ ∃C' R',HR A (.sg C' R')/\Cv C' C/\QC C'/\ ∀d,Gd G W C QC PC d->Qd d (R'.inst d))->(∀f,P f↔PC (.fst f)/\ ∀d,Gd G W C QC PC d->Cv d (.fst f)->Pd d (.snd f))->GT k U T Q P
 |id {T Q P X u v QX PX}:HR T (.id X u v)->GT k U X QX PX->QX X->Gd G W X QX PX u->Gd G W X QX PX v->
  (∀A,Q A↔W A/\ ∃X' u' v',HR A (.id X' u' v')/\Cv X' X/\Cv u' u/\Cv v' v/\QX X'/\Gd G W X QX PX u'/\Gd G W X QX PX v')->(∀e,P e↔(∃b,HR e (.refl b)/\Cv b u/\Cv b v)\/Ne e)->GT k U T Q P
 |ne {T Q P}:Ne T->(∀A,Q A↔W A/\Ne A)->(∀a,P a↔True)->GT k U T Q P
def Uv:Nat->Tm->Prop
 |k=> fun A=> ∃Q P,GT G W (fun j=> j < k) (fun j (h:j < k)=> Uv j) A Q P
termination_by k=> k
decreasing_by exact h
def GL(k:Nat->Prop):Tm->(Tm->Prop)->(Tm->Prop)->Prop:=GT G W k fun j _=> Uv G W j
theorem j87(k:Nat)(A:Tm):Uv G W k A↔ ∃Q P,GL G W (fun j=> j < k) A Q P:=by
 rw[Uv];rfl
end
variable {G : List Tm} {W : Tm → Prop}
theorem GT.up{k k':Nat->Prop}(hk: ∀j,k j->k' j){V:Nat->Tm->Prop}{T:Tm}{Q P:Tm->Prop}(h:GT G W k (fun j _=> V j) T Q P):GT G W k' (fun j _=> V j) T Q P:=by
 induction h with
 |nat h1 h2 h3=> exact .nat h1 h2 h3
 |sort h h1 h2 h3=> exact .sort (hk _ h) h1 h2 h3
 |pi h1 h2 h3 h4 h5 h6 h7 i1 i2=> exact .pi h1 i1 h3 i2 h5 h6 h7
 |sg h1 h2 h3 h4 h5 h6 h7 i1 i2=> exact .sg h1 i1 h3 i2 h5 h6 h7
 |id h1 h2 h3 h4 h5 h6 h7 i1=> exact .id h1 i1 h3 h4 h5 h6 h7
 |ne h1 h2 h3=> exact .ne h1 h2 h3
theorem GL.up{k k':Nat->Prop}(hk: ∀j,k j->k' j){T:Tm}{Q P:Tm->Prop}(h:GL G W k T Q P):GL G W k' T Q P:=GT.up hk h
theorem GT.exp{k:Nat->Prop}{U}{T T':Tm}{Q P:Tm->Prop}(hr:HR T' T)(h:GT G W k U T Q P):GT G W k U T' Q P:=by
 cases h with
 |nat h1 h2 h3=> exact .nat (hr.trans h1) h2 h3
 |sort h h1 h2 h3=> exact .sort h (hr.trans h1) h2 h3
 |pi h1 h2 h3 h4 h5 h6 h7=> exact .pi (hr.trans h1) h2 h3 h4 h5 h6 h7
 |sg h1 h2 h3 h4 h5 h6 h7=> exact .sg (hr.trans h1) h2 h3 h4 h5 h6 h7
 |id h1 h2 h3 h4 h5 h6 h7=> exact .id (hr.trans h1) h2 h3 h4 h5 h6 h7
 |ne h1 h2 h3=> exact .ne (h1.exp hr) h2 h3
theorem GT.w{k:Nat->Prop}{U}{T A:Tm}{Q P:Tm->Prop}(h:GT G W k U T Q P)(hA:Q A):W A:=by
 cases h with
 |nat h1 h2 h3=> exact((h2 A).1 hA).1
 |sort h h1 h2 h3=> exact((h2 A).1 hA).1
 |pi h1 h2 h3 h4 h5 h6 h7=> exact((h6 A).1 hA).1
 |sg h1 h2 h3 h4 h5 h6 h7=> exact((h6 A).1 hA).1
 |id h1 h2 h3 h4 h5 h6 h7=> exact((h6 A).1 hA).1
 |ne h1 h2 h3=> exact((h2 A).1 hA).1
theorem GT.q{k:Nat->Prop}{U}{T:Tm}{Q P:Tm->Prop}(h:GT G W k U T Q P)(hT:W T):Q T:=by
 cases h with
 |nat h1 h2 h3=> exact(h2 T).2 ⟨hT,h1⟩
 |sort h h1 h2 h3=> exact(h2 T).2 ⟨hT,h1⟩
 |pi h1 h2 h3 h4 h5 h6 h7=> exact(h6 T).2 ⟨hT,_,_,h1,Cv.rfl' _,h3,h5⟩
 |sg h1 h2 h3 h4 h5 h6 h7=> exact(h6 T).2 ⟨hT,_,_,h1,Cv.rfl' _,h3,h5⟩
 |id h1 h2 h3 h4 h5 h6 h7=> exact(h6 T).2 ⟨hT,_,_,_,h1,Cv.rfl' _,Cv.rfl' _,Cv.rfl' _,h3,h4,h5⟩
 |ne h1 h2 h3=> exact(h2 T).2 ⟨hT,h1⟩
theorem Gd.cv{C C':Tm}{Q P:Tm->Prop}(h:Cv C C'){d:Tm}:Gd G W C Q P d↔Gd G W C' Q P d:=by
 constructor
 · rintro⟨h1,⟨A,h2,h3,h4⟩,h5⟩;exact⟨h1,⟨A,h2,h3.trans h,h4⟩,h5⟩
 · rintro⟨h1,⟨A,h2,h3,h4⟩,h5⟩;exact⟨h1,⟨A,h2,h3.trans h.symm,h4⟩,h5⟩
theorem Gd.iff{C C':Tm}{Q P Q' P':Tm->Prop}(h:Cv C C')(hQ: ∀A,Q A↔Q' A)(hP: ∀a,P a↔P' a){d:Tm}:Gd G W C Q P d↔Gd G W C' Q' P' d:=by
 obtain rfl:Q=Q':=funext fun A=> propext (hQ A)
 obtain rfl:P=P':=funext fun A=> propext (hP A)
 exact Gd.cv h
theorem GT.re{k:Nat->Prop}{U}{T:Tm}{Q P:Tm->Prop}(h:GT G W k U T Q P): ∀{A:Tm},Q A->GT G W k U A Q P:=by
 induction h with
 |nat h1 h2 h3=> intro A hA;exact .nat ((h2 A).1 hA).2 h2 h3
 |sort h h1 h2 h3=> intro A hA;exact .sort h ((h2 A).1 hA).2 h2 h3
 |pi h1 h2 h3 h4 h5 h6 h7 i1 i2=>
  intro A hA;obtain⟨k0,C',R',k1,k2,k3,k4⟩:=(h6 A).1 hA;refine .pi k1 (i1 k3) k3 (fun d hd=> i2 d ((Gd.cv k2).1 hd) (k4 d ((Gd.cv k2).1 hd))) (fun d hd=> k4 d ((Gd.cv k2).1 hd)) (fun B=> ?_) (fun f=> ?_)
  · rw[h6 B]
    constructor
    · rintro⟨l0,C2,R2,l1,l2,l3,l4⟩;exact⟨l0,C2,R2,l1,l2.trans k2.symm,l3,fun d hd=> l4 d ((Gd.cv k2).1 hd)⟩
    · rintro⟨l0,C2,R2,l1,l2,l3,l4⟩;exact⟨l0,C2,R2,l1,l2.trans k2,l3,fun d hd=> l4 d ((Gd.cv k2).2 hd)⟩
  · rw[h7 f]
    exact⟨fun l d hd=> l d ((Gd.cv k2).1 hd),fun l d hd=> l d ((Gd.cv k2).2 hd)⟩
 |sg h1 h2 h3 h4 h5 h6 h7 i1 i2=>
  intro A hA;obtain⟨k0,C',R',k1,k2,k3,k4⟩:=(h6 A).1 hA;refine .sg k1 (i1 k3) k3 (fun d hd=> i2 d ((Gd.cv k2).1 hd) (k4 d ((Gd.cv k2).1 hd))) (fun d hd=> k4 d ((Gd.cv k2).1 hd)) (fun B=> ?_) (fun f=> ?_)
  · rw[h6 B]
    constructor
    · rintro⟨l0,C2,R2,l1,l2,l3,l4⟩;exact⟨l0,C2,R2,l1,l2.trans k2.symm,l3,fun d hd=> l4 d ((Gd.cv k2).1 hd)⟩
    · rintro⟨l0,C2,R2,l1,l2,l3,l4⟩;exact⟨l0,C2,R2,l1,l2.trans k2,l3,fun d hd=> l4 d ((Gd.cv k2).2 hd)⟩
  · rw[h7 f]
    exact⟨fun l=>⟨l.1,fun d hd=> l.2 d ((Gd.cv k2).1 hd)⟩,fun l=>⟨l.1,fun d hd=> l.2 d ((Gd.cv k2).2 hd)⟩⟩
 |id h1 h2 h3 h4 h5 h6 h7 i1=>
  intro A hA;obtain⟨k0,X',u',v',k1,k2,ku,kv,k3,k4,k5⟩:=(h6 A).1 hA;refine .id k1 (i1 k3) k3 ((Gd.cv k2).2 k4) ((Gd.cv k2).2 k5) (fun B=> ?_) (fun e=> ?_)
  · rw[h6 B]
    constructor
    · rintro⟨l0,X2,u2,v2,l1,l2,lu,lv,l3,l4,l5⟩;exact⟨l0,X2,u2,v2,l1,l2.trans k2.symm,lu.trans ku.symm,lv.trans kv.symm,l3,(Gd.cv k2).2 l4,(Gd.cv k2).2 l5⟩
    · rintro⟨l0,X2,u2,v2,l1,l2,lu,lv,l3,l4,l5⟩;exact⟨l0,X2,u2,v2,l1,l2.trans k2,lu.trans ku,lv.trans kv,l3,(Gd.cv k2).1 l4,(Gd.cv k2).1 l5⟩
  · rw[h7 e]
    constructor
    · rintro(⟨b,l1,l2,l3⟩ |l)
      · exact .inl ⟨b,l1,l2.trans ku.symm,l3.trans kv.symm⟩
      · exact .inr l
    · rintro(⟨b,l1,l2,l3⟩ |l)
      · exact .inl ⟨b,l1,l2.trans ku,l3.trans kv⟩
      · exact .inr l
 |ne h1 h2 h3=> intro A hA;exact .ne ((h2 A).1 hA).2 h2 h3
theorem j51{T T' c c':Tm}(h:Cv T T')(k:HR T c)(k':HR T' c')(hc:hk c≠0)(hc':hk c'≠0):hk c=hk c':=
 ((k.cv.symm.trans h).trans k'.cv).hk hc hc'
theorem j74{T T' c:Tm}(h:Cv T T')(k:HR T c)(hc:hk c≠0)(k':Ne T'):False:=by
 obtain⟨c0,h1,h2,-⟩:=(h.symm.trans k.cv).can hc;exact k'.not h1 (by rw[h2];exact hc)
theorem GT.eq{k k':Nat->Prop}{V:Nat->Tm->Prop}{T:Tm}{Q P:Tm->Prop}(h:GT G W k (fun j _=> V j) T Q P): ∀{T':Tm} {Q' P':Tm->Prop},GT G W k' (fun j _=> V j) T' Q' P'->Cv T T'->(∀A,Q A↔Q' A)/\(∀a,P a↔P' a):=by
 induction h with
 |nat h1 h2 h3=>
  intro T' Q' P' g e;cases g with
  |nat g1 g2 g3=> exact⟨fun A=> by rw[h2,g2],fun a=> by rw[h3,g3]⟩
  |ne g1 g2 g3=> exact(j74 e h1 (by simp[hk]) g1).elim
  |sort _ g1=> have:=j51 e h1 g1 (by simp[hk]) (by simp[hk]);simp[hk] at this
  |pi g1=> have:=j51 e h1 g1 (by simp[hk]) (by simp[hk]);simp[hk] at this
  |sg g1=> have:=j51 e h1 g1 (by simp[hk]) (by simp[hk]);simp[hk] at this
  |id g1=> have:=j51 e h1 g1 (by simp[hk]) (by simp[hk]);simp[hk] at this
 |sort hj h1 h2 h3=>
  intro T' Q' P' g e;cases g with
  |sort _ g1 g2 g3=>
   obtain rfl:=((h1.cv.symm.trans e).trans g1.cv).sort_inj;exact⟨fun A=> by rw[h2,g2],fun a=> by rw[h3,g3]⟩
  |ne g1 g2 g3=> exact(j74 e h1 (by simp[hk]) g1).elim
  |nat g1=> have:=j51 e h1 g1 (by simp[hk]) (by simp[hk]);simp[hk] at this
  |pi g1=> have:=j51 e h1 g1 (by simp[hk]) (by simp[hk]);simp[hk] at this
  |sg g1=> have:=j51 e h1 g1 (by simp[hk]) (by simp[hk]);simp[hk] at this
  |id g1=> have:=j51 e h1 g1 (by simp[hk]) (by simp[hk]);simp[hk] at this
 | @pi T Q P C R QC PC Qd Pd h1 h2 h3 h4 h5 h6 h7 i1 i2=>
  intro T' Q' P' g e;cases g with
  | @pi _ _ _ C' R' QC' PC' Qd' Pd' g1 g2 g3 g4 g5 g6 g7=>
   obtain⟨e1,e2⟩:=((h1.cv.symm.trans e).trans g1.cv).pi_inj;obtain⟨q1,q2⟩:=i1 g2 e1;have hg: ∀d,Gd G W C QC PC d↔Gd G W C' QC' PC' d:=fun d=> Gd.iff e1 q1 q2
   have hd: ∀d,Gd G W C QC PC d->(∀A,Qd d A↔Qd' d A)/\(∀a,Pd d a↔Pd' d a):=fun d hd=> i2 d hd (g4 d ((hg d).1 hd)) (e2.inst (Cv.rfl' _))
   refine⟨fun A=> ?_,fun a=> ?_⟩
   · rw[h6,g6]
     constructor
     · rintro⟨l0,C2,R2,l1,l2,l3,l4⟩;exact⟨l0,C2,R2,l1,l2.trans e1,(q1 _).1 l3,fun d h=>((hd d ((hg d).2 h)).1 _).1 (l4 d ((hg d).2 h))⟩
     · rintro⟨l0,C2,R2,l1,l2,l3,l4⟩;exact⟨l0,C2,R2,l1,l2.trans e1.symm,(q1 _).2 l3,fun d h=>((hd d h).1 _).2 (l4 d ((hg d).1 h))⟩
   · rw[h7,g7]
     exact⟨fun l d h=>((hd d ((hg d).2 h)).2 _).1 (l d ((hg d).2 h)),fun l d h=>((hd d h).2 _).2 (l d ((hg d).1 h))⟩
  |ne g1 g2 g3=> exact(j74 e h1 (by simp[hk]) g1).elim
  |nat g1=> have:=j51 e h1 g1 (by simp[hk]) (by simp[hk]);simp[hk] at this
  |sort _ g1=> have:=j51 e h1 g1 (by simp[hk]) (by simp[hk]);simp[hk] at this
  |sg g1=> have:=j51 e h1 g1 (by simp[hk]) (by simp[hk]);simp[hk] at this
  |id g1=> have:=j51 e h1 g1 (by simp[hk]) (by simp[hk]);simp[hk] at this
 | @sg T Q P C R QC PC Qd Pd h1 h2 h3 h4 h5 h6 h7 i1 i2=>
  intro T' Q' P' g e;cases g with
  | @sg _ _ _ C' R' QC' PC' Qd' Pd' g1 g2 g3 g4 g5 g6 g7=>
   obtain⟨e1,e2⟩:=((h1.cv.symm.trans e).trans g1.cv).sg_inj;obtain⟨q1,q2⟩:=i1 g2 e1;have hg: ∀d,Gd G W C QC PC d↔Gd G W C' QC' PC' d:=fun d=> Gd.iff e1 q1 q2
   have hd: ∀d,Gd G W C QC PC d->(∀A,Qd d A↔Qd' d A)/\(∀a,Pd d a↔Pd' d a):=fun d hd=> i2 d hd (g4 d ((hg d).1 hd)) (e2.inst (Cv.rfl' _))
   refine⟨fun A=> ?_,fun a=> ?_⟩
   · rw[h6,g6]
     constructor
     · rintro⟨l0,C2,R2,l1,l2,l3,l4⟩;exact⟨l0,C2,R2,l1,l2.trans e1,(q1 _).1 l3,fun d h=>((hd d ((hg d).2 h)).1 _).1 (l4 d ((hg d).2 h))⟩
     · rintro⟨l0,C2,R2,l1,l2,l3,l4⟩;exact⟨l0,C2,R2,l1,l2.trans e1.symm,(q1 _).2 l3,fun d h=>((hd d h).1 _).2 (l4 d ((hg d).1 h))⟩
   · rw[h7,g7,q2]
     exact⟨fun l=>⟨l.1,fun d h k=>((hd d ((hg d).2 h)).2 _).1 (l.2 d ((hg d).2 h) k)⟩,fun l=>⟨l.1,fun d h k=>((hd d h).2 _).2 (l.2 d ((hg d).1 h) k)⟩⟩
  |ne g1 g2 g3=> exact(j74 e h1 (by simp[hk]) g1).elim
  |nat g1=> have:=j51 e h1 g1 (by simp[hk]) (by simp[hk]);simp[hk] at this
  |sort _ g1=> have:=j51 e h1 g1 (by simp[hk]) (by simp[hk]);simp[hk] at this
  |pi g1=> have:=j51 e h1 g1 (by simp[hk]) (by simp[hk]);simp[hk] at this
  |id g1=> have:=j51 e h1 g1 (by simp[hk]) (by simp[hk]);simp[hk] at this
 | @id T Q P X u v QX PX h1 h2 h3 h4 h5 h6 h7 i1=>
  intro T' Q' P' g e;cases g with
  | @id _ _ _ X' u' v' QX' PX' g1 g2 g3 g4 g5 g6 g7=>
   obtain⟨e1,e2,e3⟩:=((h1.cv.symm.trans e).trans g1.cv).id_inj;obtain⟨q1,q2⟩:=i1 g2 e1;have hg: ∀d,Gd G W X QX PX d↔Gd G W X' QX' PX' d:=fun d=> Gd.iff e1 q1 q2
   refine⟨fun A=> ?_,fun a=> ?_⟩
   · rw[h6,g6]
     constructor
     · rintro⟨l0,X2,u2,v2,l1,l2,lu,lv,l3,l4,l5⟩;exact⟨l0,X2,u2,v2,l1,l2.trans e1,lu.trans e2,lv.trans e3,(q1 _).1 l3,(hg _).1 l4,(hg _).1 l5⟩
     · rintro⟨l0,X2,u2,v2,l1,l2,lu,lv,l3,l4,l5⟩;exact⟨l0,X2,u2,v2,l1,l2.trans e1.symm,lu.trans e2.symm,lv.trans e3.symm,(q1 _).2 l3,(hg _).2 l4,(hg _).2 l5⟩
   · rw[h7,g7]
     constructor
     · rintro(⟨b,l1,l2,l3⟩ |l)
       · exact .inl ⟨b,l1,l2.trans e2,l3.trans e3⟩
       · exact .inr l
     · rintro(⟨b,l1,l2,l3⟩ |l)
       · exact .inl ⟨b,l1,l2.trans e2.symm,l3.trans e3.symm⟩
       · exact .inr l
  |ne g1 g2 g3=> exact(j74 e h1 (by simp[hk]) g1).elim
  |nat g1=> have:=j51 e h1 g1 (by simp[hk]) (by simp[hk]);simp[hk] at this
  |sort _ g1=> have:=j51 e h1 g1 (by simp[hk]) (by simp[hk]);simp[hk] at this
  |pi g1=> have:=j51 e h1 g1 (by simp[hk]) (by simp[hk]);simp[hk] at this
  |sg g1=> have:=j51 e h1 g1 (by simp[hk]) (by simp[hk]);simp[hk] at this
 |ne h1 h2 h3=>
  intro T' Q' P' g e;cases g with
  |ne g1 g2 g3=> exact⟨fun A=> by rw[h2,g2],fun a=> by rw[h3,g3]⟩
  |nat g1=> exact(j74 e.symm g1 (by simp[hk]) h1).elim
  |sort _ g1=> exact(j74 e.symm g1 (by simp[hk]) h1).elim
  |pi g1=> exact(j74 e.symm g1 (by simp[hk]) h1).elim
  |sg g1=> exact(j74 e.symm g1 (by simp[hk]) h1).elim
  |id g1=> exact(j74 e.symm g1 (by simp[hk]) h1).elim
theorem NatP.exp{a b:Tm}(h:HR a b)(k:NatP G W b):NatP G W a:=by
 cases k with
 |zero k=> exact .zero (h.trans k)
 |succ k1 k2 k3 k4 k5 k6=> exact .succ (h.trans k1) k2 k3 k4 k5 k6
 |ne k=> exact .ne (k.exp h)
theorem GT.back{k:Nat->Prop}{U}(hU: ∀j h a b,HR a b->U j h b->U j h a){T:Tm}{Q P:Tm->Prop}(h:GT G W k U T Q P): ∀{a b:Tm},HR a b->P b->P a:=by
 induction h with
 |nat h1 h2 h3=> intro a b hr hb;rw[h3] at hb⊢;exact hb.exp hr
 |sort h h1 h2 h3=> intro a b hr hb;rw[h3] at hb⊢;exact hU _ _ _ _ hr hb
 |pi h1 h2 h3 h4 h5 h6 h7 i1 i2=>
  intro a b hr hb;rw[h7] at hb⊢;exact fun d hd=> i2 d hd (hr.map (F:=fun x=> .app x d) fun h=> .app _ h) (hb d hd)
 |sg h1 h2 h3 h4 h5 h6 h7 i1 i2=>
  intro a b hr hb;rw[h7] at hb⊢;exact⟨i1 (hr.map (F:=fun x=> .fst x) fun h=> .fst h) hb.1,fun d hd hc=> i2 d hd (hr.map (F:=fun x=> .snd x) fun h=> .snd h) (hb.2 d hd (hc.trans hr.cv.fst))⟩
 |id h1 h2 h3 h4 h5 h6 h7 i1=>
  intro a b hr hb;rw[h7] at hb⊢;rcases hb with⟨c,l1,l2,l3⟩ |l
  · exact .inl ⟨c,hr.trans l1,l2,l3⟩
  · exact .inr (l.exp hr)
 |ne h1 h2 h3=> intro a b hr hb;rw[h3];trivial
theorem GT.stuck{k:Nat->Prop}{U}(hU: ∀j h a,Ne a->U j h a){T:Tm}{Q P:Tm->Prop}(h:GT G W k U T Q P): ∀{a:Tm},Ne a->P a:=by
 induction h with
 |nat h1 h2 h3=> intro a ha;rw[h3];exact .ne ha
 |sort h h1 h2 h3=> intro a ha;rw[h3];exact hU _ _ _ ha
 |pi h1 h2 h3 h4 h5 h6 h7 i1 i2=>
  intro a ha;rw[h7];exact fun d hd=> i2 d hd (ha.app d)
 |sg h1 h2 h3 h4 h5 h6 h7 i1 i2=>
  intro a ha;rw[h7];exact⟨i1 ha.fst,fun d hd hc=> i2 d hd ha.snd⟩
 |id h1 h2 h3 h4 h5 h6 h7 i1=>
  intro a ha;rw[h7];exact .inr ha
 |ne h1 h2 h3=> intro a ha;rw[h3];trivial
theorem GL.back{k:Nat->Prop}{T:Tm}{Q P:Tm->Prop}(h:GL G W k T Q P){a b:Tm}(hr:HR a b)(hb:P b):P a:=
 GT.back (fun j _ a b hr hb=> by
  rw[j87] at hb⊢;obtain⟨Q,P,hb⟩:=hb;exact⟨Q,P,GT.exp hr hb⟩) h hr hb
theorem GL.stuck{k:Nat->Prop}{T:Tm}{Q P:Tm->Prop}(h:GL G W k T Q P){a:Tm}(ha:Ne a):P a:=
 GT.stuck (fun j _ a ha=> by
  rw[j87];exact⟨_,_,.ne ha (fun _=> Iff.rfl) (fun _=> Iff.rfl)⟩) h ha
theorem GL.eq{k k':Nat->Prop}{T T':Tm}{Q P Q' P':Tm->Prop}(h:GL G W k T Q P)(h':GL G W k' T' Q' P')(e:Cv T T'):(∀A,Q A↔Q' A)/\(∀a,P a↔P' a):=GT.eq h h' e
theorem GL.re{k:Nat->Prop}{T A:Tm}{Q P:Tm->Prop}(h:GL G W k T Q P)(hA:Q A):GL G W k A Q P:=GT.re h hA
theorem GL.w{k:Nat->Prop}{T A:Tm}{Q P:Tm->Prop}(h:GL G W k T Q P)(hA:Q A):W A:=GT.w h hA
theorem GL.q{k:Nat->Prop}{T:Tm}{Q P:Tm->Prop}(h:GL G W k T Q P)(hT:W T):Q T:=GT.q h hT
theorem GL.gd{k k':Nat->Prop}{T T':Tm}{Q P Q' P':Tm->Prop}(h:GL G W k T Q P)(h':GL G W k' T' Q' P')(e:Cv T T'){d:Tm}(hd:Gd G W T Q P d):Gd G W T' Q' P' d:=
 (Gd.iff e (h.eq h' e).1 (h.eq h' e).2).1 hd
theorem GL.nat_inv{k:Nat->Prop}{T:Tm}{Q P:Tm->Prop}(h:GL G W k T Q P)(e:Cv T .nat): ∀a,P a↔NatP G W a:=
 (h.eq (k':=k) (.nat (.refl _) (fun _=> Iff.rfl) (fun _=> Iff.rfl)) e).2
theorem GL.sort_inv{k:Nat->Prop}{T:Tm}{Q P:Tm->Prop}{j:Nat}(h:GL G W k T Q P)(e:HR T (.sort j)):k j/\ ∀a,P a↔Uv G W j a:=by
 cases h with
 |sort hj g1 g2 g3=> obtain rfl:=e.sort_det g1;exact⟨hj,g3⟩
 |ne g1 g2 g3=> exact(g1.not e (by simp[hk])).elim
 |nat g1=> have:=e.det g1 (by simp[hk]) (by simp[hk]);cases this
 |pi g1=> have:=e.det g1 (by simp[hk]) (by simp[hk]);cases this
 |sg g1=> have:=e.det g1 (by simp[hk]) (by simp[hk]);cases this
 |id g1=> have:=e.det g1 (by simp[hk]) (by simp[hk]);cases this
theorem GL.pi_inv{k:Nat->Prop}{T C R:Tm}{Q P:Tm->Prop}(h:GL G W k T Q P)(e:HR T (.pi C R)): ∃(QC PC:Tm->Prop) (Qd Pd:Tm->Tm->Prop),GL G W k C QC PC/\QC C/\(∀d,Gd G W C QC PC d->GL G W k (R.inst d) (Qd d) (Pd d))/\(∀d,Gd G W C QC PC d->Qd d (R.inst d))/\
 (∀A,Q A↔W A/\ ∃C' R',HR A (.pi C' R')/\Cv C' C/\QC C'/\ ∀d,Gd G W C QC PC d->Qd d (R'.inst d))/\(∀f,P f↔ ∀d,Gd G W C QC PC d->Pd d (.app f d)):=by
 cases h with
 |pi g1 g2 g3 g4 g5 g6 g7=> obtain⟨rfl,rfl⟩:=e.pi_det g1;exact⟨_,_,_,_,g2,g3,g4,g5,g6,g7⟩
 |ne g1 g2 g3=> exact(g1.not e (by simp[hk])).elim
 |nat g1=> have:=e.det g1 (by simp[hk]) (by simp[hk]);cases this
 |sort _ g1=> have:=e.det g1 (by simp[hk]) (by simp[hk]);cases this
 |sg g1=> have:=e.det g1 (by simp[hk]) (by simp[hk]);cases this
 |id g1=> have:=e.det g1 (by simp[hk]) (by simp[hk]);cases this
theorem GL.sg_inv{k:Nat->Prop}{T C R:Tm}{Q P:Tm->Prop}(h:GL G W k T Q P)(e:HR T (.sg C R)): ∃(QC PC:Tm->Prop) (Qd Pd:Tm->Tm->Prop),GL G W k C QC PC/\QC C/\(∀d,Gd G W C QC PC d->GL G W k (R.inst d) (Qd d) (Pd d))/\(∀d,Gd G W C QC PC d->Qd d (R.inst d))/\
 (∀A,Q A↔W A/\ ∃C' R',HR A (.sg C' R')/\Cv C' C/\QC C'/\ ∀d,Gd G W C QC PC d->Qd d (R'.inst d))/\(∀f,P f↔PC (.fst f)/\ ∀d,Gd G W C QC PC d->Cv d (.fst f)->Pd d (.snd f)):=by
 cases h with
 |sg g1 g2 g3 g4 g5 g6 g7=> obtain⟨rfl,rfl⟩:=e.sg_det g1;exact⟨_,_,_,_,g2,g3,g4,g5,g6,g7⟩
 |ne g1 g2 g3=> exact(g1.not e (by simp[hk])).elim
 |nat g1=> have:=e.det g1 (by simp[hk]) (by simp[hk]);cases this
 |sort _ g1=> have:=e.det g1 (by simp[hk]) (by simp[hk]);cases this
 |pi g1=> have:=e.det g1 (by simp[hk]) (by simp[hk]);cases this
 |id g1=> have:=e.det g1 (by simp[hk]) (by simp[hk]);cases this
theorem GL.id_inv{k:Nat->Prop}{T X u v:Tm}{Q P:Tm->Prop}(h:GL G W k T Q P)(e:HR T (.id X u v)): ∃QX PX:Tm->Prop,GL G W k X QX PX/\QX X/\Gd G W X QX PX u/\Gd G W X QX PX v/\(∀e,P e↔(∃b,HR e (.refl b)/\Cv b u/\Cv b v)\/Ne e):=by
 cases h with
 |id g1 g2 g3 g4 g5 g6 g7=> obtain⟨rfl,rfl,rfl⟩:=e.id_det g1;exact⟨_,_,g2,g3,g4,g5,g7⟩
 |ne g1 g2 g3=> exact(g1.not e (by simp[hk])).elim
 |nat g1=> have:=e.det g1 (by simp[hk]) (by simp[hk]);cases this
 |sort _ g1=> have:=e.det g1 (by simp[hk]) (by simp[hk]);cases this
 |pi g1=> have:=e.det g1 (by simp[hk]) (by simp[hk]);cases this
 |sg g1=> have:=e.det g1 (by simp[hk]) (by simp[hk]);cases this
def fvb(n:Nat):Tm->Prop
 | .var i=> i < n
 | .sort _=> True
 | .pi A B=> fvb n A/\fvb (n+1) B
 | .lam A t=> fvb n A/\fvb (n+1) t
 | .app f a=> fvb n f/\fvb n a
 | .nat=> True
 | .zero=> True
 | .succ a=> fvb n a
 | .elim p z s a=> fvb n p/\fvb n z/\fvb n s/\fvb n a
 | .id T a b=> fvb n T/\fvb n a/\fvb n b
 | .refl a=> fvb n a
 | .move p e a=> fvb n p/\fvb n e/\fvb n a
 | .sg A B=> fvb n A/\fvb (n+1) B
 | .pair T a b=> fvb n T/\fvb n a/\fvb n b
 | .fst a=> fvb n a
 | .snd a=> fvb n a
theorem lk_lt{G:List Tm}{n:Nat}{A:Tm}(h:lk G n=some A):n < G.length:=by
 unfold lk at h;obtain⟨B,h1,-⟩:=Option.map_eq_some_iff.1 h;exact(List.getElem?_eq_some_iff.1 h1).1
theorem Ty.fv{G:List Tm}{t A:Tm}(h:Ty G t A):fvb G.length t:=by
 induction h <;> simp only[fvb,List.length_cons] at* <;> first|exact lk_lt (by assumption) |(repeat' apply And.intro) <;> assumption
structure WOk (G:List Tm) (W:Tm->Prop):Prop where
 var: ∀n,W (.var n)
 sort: ∀n,W (.sort n)
 nat:W .nat
 zero:W .zero
 succ: ∀{a},W a->W (.succ a)
 pi: ∀{A} B,W A->W (.pi A B)
 sg: ∀{A} B,W A->W (.sg A B)
 lam: ∀{A} t,W A->W (.lam A t)
 app: ∀{f a},W f->W a->W (.app f a)
 elim: ∀{p z s a},W p->W z->W s->W a->W (.elim p z s a)
 id: ∀{T a b},W T->W a->W b->W (.id T a b)
 refl: ∀{a},W a->(∀A,Ty G a A->W A)->W (.refl a)
 move: ∀{p e a},W p->W e->W a->W (.move p e a)
 pair: ∀{T a b},W T->W a->W b->W (.pair T a b)
 fst: ∀{a},W a->W (.fst a)
 snd: ∀{a},W a->W (.snd a)
variable {G : List Tm} {W : Tm → Prop}
def Top:Nat->Prop:=fun _=> True
def Ok(G:List Tm)(W:Tm->Prop)(T a:Tm):Prop:= ∃Q P,GL G W Top T Q P/\Q T/\Gd G W T Q P a
theorem Ok.own{T a:Tm}(h:Ok G W T a): ∃A,Ty G a A/\Ok G W A a/\Cv A T:=by
 obtain⟨Q,P,h1,h2,h3,⟨A,h4,h5,h6⟩,h7⟩:=h;exact⟨A,h4,⟨Q,P,h1.re h6,h6,h3,⟨A,h4,Cv.rfl' _,h6⟩,h7⟩,h5⟩
theorem Ok.w{T a:Tm}(h:Ok G W T a):W a:=by
 obtain⟨Q,P,h1,h2,h3,h4,h5⟩:=h;exact h3
theorem Ok.wt{T a:Tm}(h:Ok G W T a):W T:=by
 obtain⟨Q,P,h1,h2,h3⟩:=h;exact h1.w h2
theorem Ok.gd{T T' a:Tm}(h:Ok G W T a){k:Nat->Prop}{Q P:Tm->Prop}(g:GL G W k T' Q P)(e:Cv T T'):Gd G W T' Q P a:=by
 obtain⟨Q0,P0,h1,h2,h3⟩:=h;exact h1.gd g e h3
theorem Ok.p{T T' a:Tm}(h:Ok G W T a){k:Nat->Prop}{Q P:Tm->Prop}(g:GL G W k T' Q P)(e:Cv T T'):P a:=(h.gd g e).2.2
theorem Ok.ty{T a:Tm}(h:Ok G W T a){j:Nat}(e:HR T (.sort j)): ∃Q P,GL G W (fun i=> i < j) a Q P/\Q a:=by
 obtain⟨Q,P,h1,h2,h3,h4,h5⟩:=h;obtain⟨k1,k2⟩:=h1.sort_inv e;rw[k2,j87] at h5;obtain⟨Q',P',h5⟩:=h5;exact⟨Q',P',h5,h5.q h3⟩
theorem GL.top{k:Nat->Prop}{T:Tm}{Q P:Tm->Prop}(h:GL G W k T Q P):GL G W Top T Q P:=h.up fun _ _=> trivial
theorem Ok.of{k:Nat->Prop}{T a:Tm}{Q P:Tm->Prop}(h:GL G W k T Q P)(hq:Q T)(hd:Gd G W T Q P a):Ok G W T a:=⟨Q,P,h.top,hq,hd⟩
def Vl(G:List Tm)(W:Tm->Prop)(n:Nat)(D:List Tm)(th s:Nat->Tm):Prop:= ∀x,x < n-> ∃X,Ty D (th x) X/\Ok G W (X.sub s) ((th x).sub s)
theorem Vl.now{n:Nat}{D:List Tm}{th s:Nat->Tm}(h:Vl G W n D th s):Vl G W n G (fun x=>(th x).sub s) Tm.var:=by
 intro x hx;obtain⟨X,h1,h2⟩:=h x hx;obtain⟨A,k1,k2,k3⟩:=h2.own;refine⟨A,k1, ?_⟩;rw[j19,j19];exact k2
theorem Vl.cns{n:Nat}{D:List Tm}{th s:Nat->Tm}(h:Vl G W n D th s){A d:Tm}(hd:Ok G W ((A.sub th).sub s) d):Vl G W (n+1) (A.sub th::D) (ups th) (Tm.cns d s):=by
 intro x hx;cases x with
 |zero=> exact⟨_,.var (j62 _ _),by rw[q83];exact hd⟩
 |succ x=>
  obtain⟨X,h1,h2⟩:=h x (by omega);refine⟨_,h1.wk _, ?_⟩
  show Ok G W _ ((Tm.wk (th x)).sub _)
  rw[q83,q83];exact h2
def S1(G:List Tm)(W:Tm->Prop)(t:Tm):Prop:= ∀(n:Nat) (D:List Tm) (th s:Nat->Tm) (T:Tm),fvb n t->Vl G W n D th s->j32 D G s->Ty D (t.sub th) T-> ∃Q P,GL G W Top (T.sub s) Q P/\Q (T.sub s)
def S3(G:List Tm)(W:Tm->Prop)(t:Tm):Prop:= ∀(n:Nat) (D:List Tm) (th s:Nat->Tm) (T:Tm),fvb n t->Vl G W n D th s->j32 D G s->Ty D (t.sub th) T->Ok G W (T.sub s) ((t.sub th).sub s)
theorem fin{t:Tm}(h1:S1 G W t)(h2: ∀(n:Nat) (D:List Tm) (th s:Nat->Tm) (T:Tm) (Q P:Tm->Prop),fvb n t->Vl G W n D th s->j32 D G s->Ty D (t.sub th) T->GL G W Top (T.sub s) Q P->Q (T.sub s)->
 (∃A,Ty G ((t.sub th).sub s) A/\Cv A (T.sub s)/\Q A)->W ((t.sub th).sub s)/\P ((t.sub th).sub s)):S3 G W t:=by
 intro n D th s T hf hv hs ht;obtain⟨Q,P,k1,k2⟩:=h1 n D th s T hf hv hs ht;obtain⟨A,l1,l2⟩:=ht.sub hs;have e:(t.sub th).sub s=t.sub (fun x=>(th x).sub s):=q119 t s th;obtain⟨Q2,P2,m1,m2⟩:=h1 n G _ Tm.var A hf hv.now (j32.var G) (by rw[<-e];exact l1);rw[j19] at m1 m2;have hA:Q A:=((m1.eq k1 l2).1 A).1 m2;obtain⟨n1,n2⟩:=h2 n D th s T Q P hf hv hs ht k1 k2 ⟨A,l1,l2,hA⟩;exact⟨Q,P,k1,k2,n1,⟨A,l1,l2,hA⟩,n2⟩
theorem Ok.papp{F f:Tm}(h:Ok G W F f){C R:Tm}(e:HR F (.pi C R)){T a:Tm}(ha:Ok G W T a)(k:Cv T C): ∃Q P,GL G W Top (R.inst a) Q P/\Q (R.inst a)/\P (.app f a)/\ ∀A,Ty G f A-> ∃C' R',HR A (.pi C' R')/\Cv C' C/\Q (R'.inst a):=by
 obtain⟨Q,P,h1,h2,h3,⟨A,h4,h5,h6⟩,h7⟩:=h;obtain⟨QC,PC,Qd,Pd,g1,g2,g3,g4,g5,g6⟩:=h1.pi_inv e;have hd:=ha.gd g1 k;refine⟨_,_,g3 a hd,g4 a hd,(g6 f).1 h7 a hd,fun A' hA'=> ?_⟩;obtain rfl:=h4.det hA';obtain⟨-,C',R',l1,l2,l3,l4⟩:=(g5 _).1 h6;exact⟨C',R',l1,l2,l4 a hd⟩
theorem Ok.fam{F f:Tm}(h:Ok G W F f){C D:Tm}{k:Nat}(e:HR F (.pi C D))(eD:HR D (.sort k)){T a:Tm}(ha:Ok G W T a)(c:Cv T C)(hw:W (.app f a)): ∃Q P,GL G W Top (.app f a) Q P/\Q (.app f a):=by
 obtain⟨Q,P,h1,h2,h3,-⟩:=h.papp e ha c;obtain⟨k1,k2⟩:=h1.sort_inv (j:=k) (by have:=eD.sub (Tm.cns a Tm.var);exact this);rw[k2,j87] at h3;obtain⟨Q',P',h4⟩:=h3;exact⟨Q',P',h4.top,GL.q h4 hw⟩
theorem y166{k:Nat->Prop}:GL G W k .nat (fun A=> W A/\HR A .nat) (NatP G W):= .nat (.refl _) (fun _=> Iff.rfl) (fun _=> Iff.rfl)
theorem q117{k:Nat->Prop}{j:Nat}(h:k j):GL G W k (.sort j) (fun A=> W A/\HR A (.sort j)) (Uv G W j):= .sort h (.refl _) (fun _=> Iff.rfl) (fun _=> Iff.rfl)
theorem Ok.nat(hW:WOk G W){b A:Tm}(h1:W b)(h2:Ty G b A)(h3:Cv A .nat)(h4:W A)(h5:NatP G W b):Ok G W .nat b:=⟨_,_,y166,⟨hW.nat,.refl _⟩,h1,⟨A,h2,h3,h4,h3.to_nat⟩,h5⟩
theorem elimP(hW:WOk G W){p z s F C D Z S:Tm}{k:Nat}(hp:Ok G W F p)(eF:HR F (.pi C D))(eC:Cv C .nat)(eD:HR D (.sort k))(hz:Ok G W Z z)(eZ:Cv Z (.app p .zero))(hs:Ok G W S s)(eS:Cv S (stepTy p)):
 ∀{a:Tm},NatP G W a->W a-> ∀{A:Tm},Ty G a A->Cv A .nat->W A-> ∀{Q P:Tm->Prop},GL G W Top (.app p a) Q P->P (.elim p z s a):=by
 intro a h
 induction h with
 | @zero a h=>
  intro hw A hA eA wA Q P g;refine g.back ((h.map (F:=fun x=> .elim p z s x) fun h=> .elim _ _ _ h).trans (.one (.ez p z s))) ?_;exact hz.p g (eZ.trans (.app (Cv.rfl' _) h.cv.symm))
 | @succ a b B h1 h2 h3 h4 h5 h6 ih=>
  intro hw A hA eA wA Q P g;refine g.back ((h1.map (F:=fun x=> .elim p z s x) fun h=> .elim _ _ _ h).trans (.one (.es p z s b))) ?_;have hb:=Ok.nat hW h2 h3 h4 h5 h6;obtain⟨C1,R1,r1,r2,r3⟩:=eS.to_pi;obtain⟨Q1,P1,s1,s2,s3,-⟩:=hs.papp r1 hb r2.symm;have e1:Cv (R1.inst b) (.pi (.app p b) (.app (Tm.wk p) (.succ (Tm.wk b)))):=by
   have:=r3.inst (Cv.rfl' b);have e2:(Tm.pi (.app (Tm.wk p) (.var 0)) (.app (p.ren (fun i=> i+2)) (.succ (.var 1)))).inst b= .pi (.app p b) (.app (Tm.wk p) (.succ (Tm.wk b))):=by
    unfold Tm.inst;simp only[Tm.sub,ups,Tm.cns];rw[q83,j19,j91]
    congr 2
    rw[Tm.wk,y66]
    rfl
   rwa [e2] at this
  obtain⟨Qb,Pb,f1,f2⟩:=hp.fam eF eD hb eC.symm (hW.app hp.w h2);have Hb:Ty G (.elim p z s b) (.app p b):=by
   obtain⟨Fp,p1,p2,p3⟩:=hp.own;obtain⟨Zz,z1,z2,z3⟩:=hz.own;obtain⟨Ss,s1,s2,s3⟩:=hs.own;obtain⟨C',D',q1,q2,q3⟩:=(p3.trans eF.cv).to_pi;exact .elim p1 q1 (q2.trans eC) (q3.trans eD.cv).to_sort z1 (z3.trans eZ) s1 (s3.trans eS) h3 h4
  have he:Ok G W (.app p b) (.elim p z s b):=⟨Qb,Pb,f1,f2,hW.elim hp.w hz.w hs.w h2,⟨_,Hb,Cv.rfl' _,f2⟩,ih h2 h3 h4 h5 f1⟩;obtain⟨C2,R2,t1,t2,t3⟩:=e1.to_pi;obtain⟨QC,PC,Qd,Pd,g1,g2,g3,g4,g5,g6⟩:=s1.pi_inv t1;have hd:=he.gd g1 t2.symm;have h7:=(g6 _).1 s3 _ hd;have h8:=g3 _ hd;have e3:Cv (R2.inst (.elim p z s b)) (.app p a):=by
   have:=t3.inst (Cv.rfl' (.elim p z s b));have e4:(Tm.app (Tm.wk p) (.succ (Tm.wk b))).inst (.elim p z s b)= .app p (.succ b):=by
    show Tm.app ((Tm.wk p).inst _) (.succ ((Tm.wk b).inst _))=_
    rw[y125,y125]
   rw[e4] at this;exact this.trans (.app (Cv.rfl' _) h1.cv.symm)
  exact((h8.eq g e3).2 _).1 h7
 |ne h=> intro hw A hA eA wA Q P g;exact g.stuck (h.elim p z s)
theorem mkpi(hW:WOk G W){L:Nat->Prop}{A B:Tm}{QA PA:Tm->Prop}(wA:W A)(gA:GL G W L A QA PA)(hB: ∀d,Gd G W A QA PA d-> ∃Q P,GL G W L (B.inst d) Q P/\Q (B.inst d)): ∃Q P,GL G W L (.pi A B) Q P/\Q (.pi A B):=by
 have h: ∀d,∃X:(Tm->Prop)×(Tm->Prop),Gd G W A QA PA d->GL G W L (B.inst d) X.1 X.2/\X.1 (B.inst d):=fun d=> by
  by_cases hd:Gd G W A QA PA d
  · obtain⟨Q,P,h1,h2⟩:=hB d hd
    exact⟨(Q,P),fun _=>⟨h1,h2⟩⟩
  · exact⟨(fun _=> True,fun _=> True),fun h=> absurd h hd⟩
 obtain⟨F,hF⟩:=Classical.axiomOfChoice h;have g:GL G W L (.pi A B) _ _:= .pi (Qd:=fun d=>(F d).1) (Pd:=fun d=>(F d).2) (.refl _) gA (gA.q wA) (fun d hd=>(hF d hd).1) (fun d hd=>(hF d hd).2) (fun _=> Iff.rfl) (fun _=> Iff.rfl);exact⟨_,_,g,g.q (hW.pi B wA)⟩
theorem mksg(hW:WOk G W){L:Nat->Prop}{A B:Tm}{QA PA:Tm->Prop}(wA:W A)(gA:GL G W L A QA PA)(hB: ∀d,Gd G W A QA PA d-> ∃Q P,GL G W L (B.inst d) Q P/\Q (B.inst d)): ∃Q P,GL G W L (.sg A B) Q P/\Q (.sg A B):=by
 have h: ∀d,∃X:(Tm->Prop)×(Tm->Prop),Gd G W A QA PA d->GL G W L (B.inst d) X.1 X.2/\X.1 (B.inst d):=fun d=> by
  by_cases hd:Gd G W A QA PA d
  · obtain⟨Q,P,h1,h2⟩:=hB d hd
    exact⟨(Q,P),fun _=>⟨h1,h2⟩⟩
  · exact⟨(fun _=> True,fun _=> True),fun h=> absurd h hd⟩
 obtain⟨F,hF⟩:=Classical.axiomOfChoice h;have g:GL G W L (.sg A B) _ _:= .sg (Qd:=fun d=>(F d).1) (Pd:=fun d=>(F d).2) (.refl _) gA (gA.q wA) (fun d hd=>(hF d hd).1) (fun d hd=>(hF d hd).2) (fun _=> Iff.rfl) (fun _=> Iff.rfl);exact⟨_,_,g,g.q (hW.sg B wA)⟩
theorem below{B:Tm}(iB:S3 G W B){n:Nat}{D:List Tm}{th s:Nat->Tm}{A T:Tm}(hf:fvb (n+1) B)(hv:Vl G W n D th s)(hs:j32 D G s)(ht:Ty (A.sub th::D) (B.sub (ups th)) T){L:Nat->Prop}{QA PA:Tm->Prop}(gA:GL G W L ((A.sub th).sub s) QA PA)(qA:QA ((A.sub th).sub s)){d:Tm}(hd:Gd G W ((A.sub th).sub s) QA PA d):
 Ok G W (T.sub (Tm.cns d s)) (((B.sub (ups th)).sub (ups s)).inst d):=by
 have S6:=Ok.of gA qA hd;obtain⟨A0,k1,k2,k3⟩:=S6.own;rw[j67];exact iB (n+1) _ _ _ T hf (hv.cns S6) (hs.cns k1 k3) ht
theorem Ok.sgp{A a:Tm}(h:Ok G W A a){C R:Tm}(e:HR A (.sg C R))(hW:WOk G W): ∃(QC PC:Tm->Prop) (Qd Pd:Tm->Tm->Prop),GL G W Top C QC PC/\QC C/\Gd G W C QC PC (.fst a)/\(∀d,Gd G W C QC PC d->GL G W Top (R.inst d) (Qd d) (Pd d))/\(∀d,Gd G W C QC PC d->Qd d (R.inst d))/\Pd (.fst a) (.snd a):=by
 obtain⟨Q,P,h1,h2,h3,⟨A0,h4,h5,h6⟩,h7⟩:=h;obtain⟨QC,PC,Qd,Pd,g1,g2,g3,g4,g5,g6⟩:=h1.sg_inv e;obtain⟨-,C',R',l1,l2,l3,l4⟩:=(g5 _).1 h6;obtain⟨p1,p2⟩:=(g6 _).1 h7;have hg:Gd G W C QC PC (.fst a):=⟨hW.fst h3,⟨C',.fst h4 l1,l2,l3⟩,p1⟩;exact⟨QC,PC,Qd,Pd,g1,g2,hg,g3,g4,p2 _ hg (Cv.rfl' _)⟩
theorem good(hW:WOk G W): ∀t:Tm,S3 G W t:=by
 intro t
 induction t with
 |var x=>
  intro n D th s T hf hv hs ht;obtain⟨X,h1,h2⟩:=hv x hf;obtain rfl:=h1.det ht;exact h2
 |sort i=>
  refine fin (fun n D th s T hf hv hs ht=> ?_) (fun n D th s T Q P hf hv hs ht g gq _=> ?_)
  · cases ht with
    |sort=> exact⟨_,_,q117 trivial,hW.sort _,.refl _⟩
  · cases ht with
    |sort=>
     refine⟨hW.sort _, ?_⟩;rw[(g.sort_inv (.refl _)).2,j87];exact⟨_,_,q117 (Nat.lt_succ_self _)⟩
 |nat=>
  refine fin (fun n D th s T hf hv hs ht=> ?_) (fun n D th s T Q P hf hv hs ht g gq _=> ?_)
  · cases ht with
    |nat=> exact⟨_,_,q117 trivial,hW.sort _,.refl _⟩
  · cases ht with
    |nat=>
     refine⟨hW.nat, ?_⟩;rw[(g.sort_inv (.refl _)).2,j87];exact⟨_,_,y166⟩
 |zero=>
  refine fin (fun n D th s T hf hv hs ht=> ?_) (fun n D th s T Q P hf hv hs ht g gq _=> ?_)
  · cases ht with
    |zero=> exact⟨_,_,y166,hW.nat,.refl _⟩
  · cases ht with
    |zero=>
     refine⟨hW.zero, ?_⟩;rw[g.nat_inv (Cv.rfl' _)];exact .zero (.refl _)
 |succ a ih=>
  refine fin (fun n D th s T hf hv hs ht=> ?_) (fun n D th s T Q P hf hv hs ht g gq _=> ?_)
  · cases ht with
    |succ=> exact⟨_,_,y166,hW.nat,.refl _⟩
  · cases ht with
    |succ h1 h2=>
     have ha:=ih n D th s _ hf hv hs h1;obtain⟨A,k1,k2,k3⟩:=ha.own;refine⟨hW.succ ha.w, ?_⟩;rw[g.nat_inv (Cv.rfl' _)];have e:=k3.trans (h2.sub s);exact .succ (.refl _) ha.w k1 e k2.wt (ha.p (y166 (k:=Top)) (h2.sub s))
 |pi A B iA iB=>
  refine fin (fun n D th s T hf hv hs ht=> ?_) (fun n D th s T Q P hf hv hs ht g gq _=> ?_)
  · cases ht with
    |pi=> exact⟨_,_,q117 trivial,hW.sort _,.refl _⟩
  · cases ht with
    | @pi _ _ _ S S' i k h1 h2 h3 h4=>
     have hA:=iA n D th s _ hf.1 hv hs h1;refine⟨hW.pi _ hA.w, ?_⟩;rw[(g.sort_inv (.refl _)).2,j87];obtain⟨QA,PA,gA,qA⟩:=hA.ty (h2.sub s);obtain⟨Q',P',g',-⟩:=mkpi (L:=fun j=> j < max i k) hW (B:=(B.sub (ups th)).sub (ups s)) hA.w (gA.up fun j hj=> by omega) (fun d hd=> by
      obtain⟨Q,P,k1,k2⟩:=(below iB hf.2 hv hs h3 gA qA hd).ty (h4.sub _);exact⟨Q,P,k1.up fun j hj=> by omega,k2⟩)
     exact⟨Q',P',g'⟩
 |sg A B iA iB=>
  refine fin (fun n D th s T hf hv hs ht=> ?_) (fun n D th s T Q P hf hv hs ht g gq _=> ?_)
  · cases ht with
    |sg=> exact⟨_,_,q117 trivial,hW.sort _,.refl _⟩
  · cases ht with
    | @sg _ _ _ S S' i k h1 h2 h3 h4=>
     have hA:=iA n D th s _ hf.1 hv hs h1;refine⟨hW.sg _ hA.w, ?_⟩;rw[(g.sort_inv (.refl _)).2,j87];obtain⟨QA,PA,gA,qA⟩:=hA.ty (h2.sub s);obtain⟨Q',P',g',-⟩:=mksg (L:=fun j=> j < max i k) hW (B:=(B.sub (ups th)).sub (ups s)) hA.w (gA.up fun j hj=> by omega) (fun d hd=> by
      obtain⟨Q,P,k1,k2⟩:=(below iB hf.2 hv hs h3 gA qA hd).ty (h4.sub _);exact⟨Q,P,k1.up fun j hj=> by omega,k2⟩)
     exact⟨Q',P',g'⟩
 |lam A t iA it=>
  refine fin (fun n D th s T hf hv hs ht=> ?_) (fun n D th s T Q P hf hv hs ht g gq _=> ?_)
  · cases ht with
    | @lam _ _ _ B S i h1 h2 h3=>
     have hA:=iA n D th s _ hf.1 hv hs h1;obtain⟨QA,PA,gA,qA⟩:=hA.ty (h2.sub s);exact mkpi hW (B:=B.sub (ups s)) hA.w gA.top (fun d hd=> by
      obtain⟨Q,P,k1,k2,-⟩:=below it hf.2 hv hs h3 gA qA hd;rw[<-j67] at k1 k2;exact⟨Q,P,k1,k2⟩)
  · cases ht with
    | @lam _ _ _ B S i h1 h2 h3=>
     have hA:=iA n D th s _ hf.1 hv hs h1;obtain⟨QC,PC,Qd,Pd,g1,g2,g3,g4,g5,g6⟩:=g.pi_inv (.refl _);refine⟨hW.lam _ hA.w,(g6 _).2 fun d hd=> ?_⟩;refine(g3 d hd).back (.one (.beta _ _ _)) ?_;have hb:=below it hf.2 hv hs h3 g1 g2 hd;rw[<-j67] at hb;exact hb.p (g3 d hd) (Cv.rfl' _)
 |app f a jf ja=>
  have key: ∀(n:Nat) (D:List Tm) (th s:Nat->Tm) (T:Tm),fvb n (.app f a)->Vl G W n D th s->j32 D G s->Ty D ((Tm.app f a).sub th) T->W (((Tm.app f a).sub th).sub s)/\ ∃Q P,GL G W Top (T.sub s) Q P/\Q (T.sub s)/\P (((Tm.app f a).sub th).sub s):=by
   intro n D th s T hf hv hs ht;cases ht with
   |app h1 h2 h3 h4=>
    have hF:=jf n D th s _ hf.1 hv hs h1;have hA:=ja n D th s _ hf.2 hv hs h3;obtain⟨Q,P,k1,k2,k3,-⟩:=hF.papp (h2.sub s) hA (h4.sub s);refine⟨hW.app hF.w hA.w,Q,P, ?_, ?_,k3⟩
    · rw[j36];exact k1
    · rw[j36];exact k2
  refine fin (fun n D th s T hf hv hs ht=> ?_) (fun n D th s T Q P hf hv hs ht g gq _=> ?_)
  · obtain⟨-,Q,P,k1,k2,-⟩:=key n D th s T hf hv hs ht
    exact⟨Q,P,k1,k2⟩
  · obtain⟨w,Q',P',k1,k2,k3⟩:=key n D th s T hf hv hs ht
    exact⟨w,((k1.eq g (Cv.rfl' _)).2 _).1 k3⟩
 |elim p z s' a jp jz js ja=>
  refine fin (fun n D th s T hf hv hs ht=> ?_) (fun n D th s T Q P hf hv hs ht g gq _=> ?_)
  · cases ht with
    |elim h1 h2 h3 h4 h5 h6 h7 h8 h9 h10=>
     have hp:=jp n D th s _ hf.1 hv hs h1;have ha:=ja n D th s _ hf.2.2.2 hv hs h9;exact hp.fam (h2.sub s) (h4.sub (ups s)) ha ((h10.trans h3.symm).sub s) (hW.app hp.w ha.w)
  · cases ht with
    |elim h1 h2 h3 h4 h5 h6 h7 h8 h9 h10=>
     have hp:=jp n D th s _ hf.1 hv hs h1;have hz:=jz n D th s _ hf.2.1 hv hs h5;have hS:=js n D th s _ hf.2.2.1 hv hs h7;have ha:=ja n D th s _ hf.2.2.2 hv hs h9;refine⟨hW.elim hp.w hz.w hS.w ha.w, ?_⟩;obtain⟨A,k1,k2,k3⟩:=ha.own;exact elimP hW hp (h2.sub s) (h3.sub s) (h4.sub (ups s)) hz (h6.sub s) hS (by have:=h8.sub s;rwa [j114] at this) (ha.p (y166 (k:=Top)) (h10.sub s)) ha.w k1 (k3.trans (h10.sub s)) k2.wt g
 |id T a b jT ja jb=>
  refine fin (fun n D th s T hf hv hs ht=> ?_) (fun n D th s T Q P hf hv hs ht g gq _=> ?_)
  · cases ht with
    |id=> exact⟨_,_,q117 trivial,hW.sort _,.refl _⟩
  · cases ht with
    |id h1 h2 h3 h4 h5 h6=>
     have hT:=jT n D th s _ hf.1 hv hs h1;have ha:=ja n D th s _ hf.2.1 hv hs h3;have hb:=jb n D th s _ hf.2.2 hv hs h5;refine⟨hW.id hT.w ha.w hb.w, ?_⟩;rw[(g.sort_inv (.refl _)).2,j87];obtain⟨QX,PX,gX,qX⟩:=hT.ty (h2.sub s);exact⟨_,_,.id (.refl _) gX qX (ha.gd gX (h4.sub s)) (hb.gd gX (h6.sub s)) (fun _=> Iff.rfl) (fun _=> Iff.rfl)⟩
 |refl a ja=>
  refine fin (fun n D th s T hf hv hs ht=> ?_) (fun n D th s T Q P hf hv hs ht g gq _=> ?_)
  · cases ht with
    | @refl _ _ A h1=>
     have ha:=ja n D th s _ hf hv hs h1;obtain⟨QX,PX,gX,qX,dX⟩:=ha;have g:GL G W Top (.id (A.sub s) ((a.sub th).sub s) ((a.sub th).sub s)) _ _:= .id (.refl _) gX qX dX dX (fun _=> Iff.rfl) (fun _=> Iff.rfl);exact⟨_,_,g,g.q (hW.id (gX.w qX) dX.1 dX.1)⟩
  · cases ht with
    | @refl _ _ A h1=>
     have ha:=ja n D th s _ hf hv hs h1;refine⟨hW.refl ha.w fun A0 kx=> ?_, ?_⟩
     · obtain⟨A1,k1,k2,k3⟩:=ha.own
       obtain rfl:=k1.det kx;exact k2.wt
     · obtain⟨QX,PX,-,-,-,-,l⟩:=g.id_inv (.refl _)
       exact(l _).2 (.inl ⟨_,.refl _,Cv.rfl' _,Cv.rfl' _⟩)
 |move p e a jp je ja=>
  have key: ∀(n:Nat) (D:List Tm) (th s:Nat->Tm) (T:Tm),fvb n (.move p e a)->Vl G W n D th s->j32 D G s->Ty D ((Tm.move p e a).sub th) T->W (((Tm.move p e a).sub th).sub s)/\ ∃Q P,GL G W Top (T.sub s) Q P/\Q (T.sub s)/\P (((Tm.move p e a).sub th).sub s):=by
   intro n D th s T hf hv hs ht;cases ht with
   |move h1 h2 h3 h4 h5 h6 h7 h8=>
    have he:=je n D th s _ hf.2.1 hv hs h1;have hp:=jp n D th s _ hf.1 hv hs h3;have ha:=ja n D th s _ hf.2.2 hv hs h7;obtain⟨Q,P,k1,k2,k3,k4,k5⟩:=he;obtain⟨QX,PX,gX,qX,d1,d2,l⟩:=k1.id_inv (h2.sub s);have hC:=Ok.of gX qX d2;obtain⟨QT,PT,gT,qT⟩:=hp.fam (h4.sub s) (h6.sub (ups s)) hC (h5.symm.sub s) (hW.app hp.w d2.1);refine⟨hW.move hp.w k3 ha.w,QT,PT,gT,qT, ?_⟩;rcases(l _).1 k5 with⟨b,m1,m2,m3⟩ |m
    · refine gT.back ((m1.map (F:=fun x=> .move _ x _) fun h=> .move _ _ h).trans (.one (.mr _ _ _))) ?_
      exact ha.p gT ((h8.sub s).trans (.app (Cv.rfl' _) (m2.symm.trans m3)))
    · exact gT.stuck (m.move _ _)
  refine fin (fun n D th s T hf hv hs ht=> ?_) (fun n D th s T Q P hf hv hs ht g gq _=> ?_)
  · obtain⟨-,Q,P,k1,k2,-⟩:=key n D th s T hf hv hs ht
    exact⟨Q,P,k1,k2⟩
  · obtain⟨w,Q',P',k1,k2,k3⟩:=key n D th s T hf hv hs ht
    exact⟨w,((k1.eq g (Cv.rfl' _)).2 _).1 k3⟩
 |pair T a b jT ja jb=>
  refine fin (fun n D th s T hf hv hs ht=> ?_) (fun n D th s T Q P hf hv hs ht g gq _=> ?_)
  · cases ht with
    |pair h1 h2 h3 h4 h5 h6 h7=>
     have hT:=jT n D th s _ hf.1 hv hs h1;obtain⟨Q,P,k1,k2⟩:=hT.ty (h2.sub s);exact⟨Q,P,k1.top,k2⟩
  · cases ht with
    |pair h1 h2 h3 h4 h5 h6 h7=>
     have hT:=jT n D th s _ hf.1 hv hs h1;have ha:=ja n D th s _ hf.2.1 hv hs h4;have hb:=jb n D th s _ hf.2.2 hv hs h6;refine⟨hW.pair hT.w ha.w hb.w, ?_⟩;obtain⟨QC,PC,Qd,Pd,g1,g2,g3,g4,g5,g6⟩:=g.sg_inv (h3.sub s);refine(g6 _).2 ⟨g1.back (.one (.fp _ _ _)) (ha.p g1 (h5.sub s)),fun d hd hc=>(g3 d hd).back (.one (.sp _ _ _)) (hb.p (g3 d hd) ?_)⟩;have e:=h7.sub s;rw[j36] at e;exact e.trans ((Cv.rfl' _).inst (hc.trans (HR.one (.fp _ _ _)).cv).symm)
 |fst a ja=>
  have key: ∀(n:Nat) (D:List Tm) (th s:Nat->Tm) (T:Tm),fvb n (.fst a)->Vl G W n D th s->j32 D G s->Ty D ((Tm.fst a).sub th) T->W (((Tm.fst a).sub th).sub s)/\ ∃Q P,GL G W Top (T.sub s) Q P/\Q (T.sub s)/\P (((Tm.fst a).sub th).sub s):=by
   intro n D th s T hf hv hs ht;cases ht with
   |fst h1 h2=>
    have ha:=ja n D th s _ hf hv hs h1;obtain⟨QC,PC,Qd,Pd,g1,g2,g3,-⟩:=ha.sgp (h2.sub s) hW;exact⟨hW.fst ha.w,QC,PC,g1,g2,g3.2.2⟩
  refine fin (fun n D th s T hf hv hs ht=> ?_) (fun n D th s T Q P hf hv hs ht g gq _=> ?_)
  · obtain⟨-,Q,P,k1,k2,-⟩:=key n D th s T hf hv hs ht
    exact⟨Q,P,k1,k2⟩
  · obtain⟨w,Q',P',k1,k2,k3⟩:=key n D th s T hf hv hs ht
    exact⟨w,((k1.eq g (Cv.rfl' _)).2 _).1 k3⟩
 |snd a ja=>
  have key: ∀(n:Nat) (D:List Tm) (th s:Nat->Tm) (T:Tm),fvb n (.snd a)->Vl G W n D th s->j32 D G s->Ty D ((Tm.snd a).sub th) T->W (((Tm.snd a).sub th).sub s)/\ ∃Q P,GL G W Top (T.sub s) Q P/\Q (T.sub s)/\P (((Tm.snd a).sub th).sub s):=by
   intro n D th s T hf hv hs ht;cases ht with
   |snd h1 h2=>
    have ha:=ja n D th s _ hf hv hs h1;obtain⟨QC,PC,Qd,Pd,g1,g2,g3,g4,g5,g6⟩:=ha.sgp (h2.sub s) hW;refine⟨hW.snd ha.w,Qd (.fst ((a.sub th).sub s)),Pd (.fst ((a.sub th).sub s)), ?_, ?_,g6⟩
    · rw[j36];exact g4 _ g3
    · rw[j36];exact g5 _ g3
  refine fin (fun n D th s T hf hv hs ht=> ?_) (fun n D th s T Q P hf hv hs ht g gq _=> ?_)
  · obtain⟨-,Q,P,k1,k2,-⟩:=key n D th s T hf hv hs ht
    exact⟨Q,P,k1,k2⟩
  · obtain⟨w,Q',P',k1,k2,k3⟩:=key n D th s T hf hv hs ht
    exact⟨w,((k1.eq g (Cv.rfl' _)).2 _).1 k3⟩
def Wf(G:List Tm):Prop:= ∀n A,G[n]? =some A-> ∃S i,Ty (G.drop (n+1)) A S/\HR S (.sort i)
theorem j58.drop(G:List Tm)(k:Nat):j58 (G.drop k) G (fun i=> i+k):=by
 intro n A h;unfold lk at h⊢;rw[List.getElem?_drop] at h;obtain⟨B,h1,rfl⟩:=Option.map_eq_some_iff.1 h
 show Option.map _ G[n+k]? =_
 rw[Nat.add_comm n k,h1,Option.map_some,ren_ren]
 congr 2
 funext i
 show i+(n+k+1)=i+(n+1)+k
 omega
variable {G : List Tm} {W : Tm → Prop}
theorem vars(hW:WOk G W)(hG:Wf G): ∀(m x:Nat),G.length<=x+m-> ∀A,lk G x=some A->Ok G W A (.var x):=by
 intro m
 induction m with
 |zero=> intro x hx A hA;have:=lk_lt hA;omega
 |succ m ih=>
  intro x hx A hA;have hlt:=lk_lt hA;have ey:=hA;unfold lk at ey;obtain⟨A0,h1,rfl⟩:=Option.map_eq_some_iff.1 ey;obtain⟨S,i,h2,h3⟩:=hG x A0 h1;have h4:=h2.ren (j58.drop G (x+1));have hf:=h2.fv;rw[List.length_drop] at hf;have hk:=good hW A0 (G.length -(x+1)) G (fun y=> .var (y+(x+1))) Tm.var (S.ren fun i=> i+(x+1)) hf (fun y hy=> by
   have hy2:y+(x+1) < G.length:=by omega
   obtain⟨X,hX⟩: ∃X,lk G (y+(x+1))=some X:=by
    unfold lk;rw[List.getElem?_eq_getElem hy2];exact⟨_,rfl⟩
   refine⟨X,.var hX, ?_⟩;rw[j19,j19];exact ih _ (by omega) X hX) (j32.var G) (by rw[<-y66];exact h4)
  rw[j19,j19,<-y66] at hk;obtain⟨Q,P,g,q⟩:=hk.ty (h3.ren _);exact Ok.of g q ⟨hW.var x,⟨_,.var hA,Cv.rfl' _,q⟩,g.stuck (Ne.var x)⟩
theorem typed(hW:WOk G W)(hG:Wf G){t T:Tm}(h:Ty G t T):Ok G W T t:=by
 have hk:=good hW t G.length G Tm.var Tm.var T h.fv (fun x hx=> by
  obtain⟨X,hX⟩: ∃X,lk G x=some X:=by
   unfold lk;rw[List.getElem?_eq_getElem hx];exact⟨_,rfl⟩
  refine⟨X,.var hX, ?_⟩;rw[j19,j19];exact vars hW hG G.length x (by omega) X hX) (j32.var G) (by rw[j19];exact h)
 rw[j19,j19,j19] at hk;exact hk
theorem typeW(hW:WOk G W)(hG:Wf G){t T:Tm}(h:Ty G t T):W T:=(typed hW hG h).wt
theorem allW(hW:WOk G W)(hG:Wf G): ∀t:Tm,W t:=by
 intro t
 induction t with
 |var n=> exact hW.var n
 |sort n=> exact hW.sort n
 |nat=> exact hW.nat
 |zero=> exact hW.zero
 |succ a i=> exact hW.succ i
 |pi A B i j=> exact hW.pi B i
 |sg A B i j=> exact hW.sg B i
 |lam A t i j=> exact hW.lam t i
 |app f a i j=> exact hW.app i j
 |elim p z s a i j k l=> exact hW.elim i j k l
 |id T a b i j k=> exact hW.id i j k
 |refl a i=> exact hW.refl i fun A h=> typeW hW hG h
 |move p e a i j k=> exact hW.move i j k
 |pair T a b i j k=> exact hW.pair i j k
 |fst a i=> exact hW.fst i
 |snd a i=> exact hW.snd i
end Go.Proofs.YtbnkbepgmenblaaGreat.M

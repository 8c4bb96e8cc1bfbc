/-
  Lemmas towards the law, 5: MThm.
-/
import Derived.Test.YtdkamgafpphdjaaEAD
namespace Go.Proofs.Ytdkamgafpphdjaa.M
set_option linter.unusedVariables false
open Tm

/-- All free variables are below n. -/
def fvb (n : Nat) : Tm → Prop
  | .var i => i < n
  | .sort _ => True
  | .pi A B => fvb n A ∧ fvb (n + 1) B
  | .lam A t => fvb n A ∧ fvb (n + 1) t
  | .app f a => fvb n f ∧ fvb n a
  | .nat => True
  | .zero => True
  | .succ a => fvb n a
  | .elim p z s a => fvb n p ∧ fvb n z ∧ fvb n s ∧ fvb n a
  | .id T a b => fvb n T ∧ fvb n a ∧ fvb n b
  | .refl a => fvb n a
  | .move p e a => fvb n p ∧ fvb n e ∧ fvb n a
  | .sg A B => fvb n A ∧ fvb (n + 1) B
  | .pair T a b => fvb n T ∧ fvb n a ∧ fvb n b
  | .fst a => fvb n a
  | .snd a => fvb n a
theorem lk_lt {G : List Tm} {n : Nat} {A : Tm} (h : lk G n = some A) : n < G.length := by
  unfold lk at h
  obtain ⟨B, h1, -⟩ := Option.map_eq_some_iff.1 h
  exact (List.getElem?_eq_some_iff.1 h1).1
theorem Ty.fv {G : List Tm} {t A : Tm} (h : Ty G t A) : fvb G.length t := by
  induction h <;> simp only [fvb, List.length_cons] at * <;> first | exact lk_lt (by assumption) | (repeat' apply And.intro) <;> assumption

/-- What is asked of W. -/
structure WOk (G : List Tm) (W : Tm → Prop) : Prop where
  var : ∀ n, W (.var n)
  sort : ∀ n, W (.sort n)
  nat : W .nat
  zero : W .zero
  succ : ∀ {a}, W a → W (.succ a)
  pi : ∀ {A} B, W A → W (.pi A B)
  sg : ∀ {A} B, W A → W (.sg A B)
  lam : ∀ {A} t, W A → W (.lam A t)
  app : ∀ {f a}, W f → W a → W (.app f a)
  elim : ∀ {p z s a}, W p → W z → W s → W a → W (.elim p z s a)
  id : ∀ {T a b}, W T → W a → W b → W (.id T a b)
  refl : ∀ {a}, W a → (∀ A, Ty G a A → W A) → W (.refl a)
  move : ∀ {p e a}, W p → W e → W a → W (.move p e a)
  pair : ∀ {T a b}, W T → W a → W b → W (.pair T a b)
  fst : ∀ {a}, W a → W (.fst a)
  snd : ∀ {a}, W a → W (.snd a)

variable {G : List Tm} {W : Tm → Prop}
/-- All universes. -/
def Top : Nat → Prop := fun _ => True
/-- a is good at T. -/
def Ok (G : List Tm) (W : Tm → Prop) (T a : Tm) : Prop := ∃ Q P, GL G W Top T Q P ∧ Q T ∧ Gd G W T Q P a
theorem Ok.own {T a : Tm} (h : Ok G W T a) : ∃ A, Ty G a A ∧ Ok G W A a ∧ Cv A T := by
  obtain ⟨Q, P, h1, h2, h3, ⟨A, h4, h5, h6⟩, h7⟩ := h
  exact ⟨A, h4, ⟨Q, P, h1.re h6, h6, h3, ⟨A, h4, Cv.rfl' _, h6⟩, h7⟩, h5⟩
theorem Ok.w {T a : Tm} (h : Ok G W T a) : W a := by
  obtain ⟨Q, P, h1, h2, h3, h4, h5⟩ := h
  exact h3
theorem Ok.wt {T a : Tm} (h : Ok G W T a) : W T := by
  obtain ⟨Q, P, h1, h2, h3⟩ := h
  exact h1.w h2
/-- Good at a convertible class. -/
theorem Ok.gd {T T' a : Tm} (h : Ok G W T a) {k : Nat → Prop} {Q P : Tm → Prop} (g : GL G W k T' Q P) (e : Cv T T') : Gd G W T' Q P a := by
  obtain ⟨Q0, P0, h1, h2, h3⟩ := h
  exact h1.gd g e h3
theorem Ok.p {T T' a : Tm} (h : Ok G W T a) {k : Nat → Prop} {Q P : Tm → Prop} (g : GL G W k T' Q P) (e : Cv T T') : P a := (h.gd g e).2.2
theorem Ok.ty {T a : Tm} (h : Ok G W T a) {j : Nat} (e : HR T (.sort j)) : ∃ Q P, GL G W (fun i => i < j) a Q P ∧ Q a := by
  obtain ⟨Q, P, h1, h2, h3, h4, h5⟩ := h
  obtain ⟨k1, k2⟩ := h1.sort_inv e
  rw [k2, Uv_iff] at h5
  obtain ⟨Q', P', h5⟩ := h5
  exact ⟨Q', P', h5, h5.q h3⟩
theorem GL.top {k : Nat → Prop} {T : Tm} {Q P : Tm → Prop} (h : GL G W k T Q P) : GL G W Top T Q P := h.up fun _ _ => trivial
theorem Ok.of {k : Nat → Prop} {T a : Tm} {Q P : Tm → Prop} (h : GL G W k T Q P) (hq : Q T) (hd : Gd G W T Q P a) : Ok G W T a := ⟨Q, P, h.top, hq, hd⟩
/-- The terms for the variables below n are good. -/
def Vl (G : List Tm) (W : Tm → Prop) (n : Nat) (D : List Tm) (th s : Nat → Tm) : Prop := ∀ x, x < n → ∃ X, Ty D (th x) X ∧ Ok G W (X.sub s) ((th x).sub s)
theorem Vl.now {n : Nat} {D : List Tm} {th s : Nat → Tm} (h : Vl G W n D th s) : Vl G W n G (fun x => (th x).sub s) Tm.var := by
  intro x hx
  obtain ⟨X, h1, h2⟩ := h x hx
  obtain ⟨A, k1, k2, k3⟩ := h2.own
  refine ⟨A, k1, ?_⟩
  rw [sub_var, sub_var]
  exact k2
theorem Vl.cns {n : Nat} {D : List Tm} {th s : Nat → Tm} (h : Vl G W n D th s) {A d : Tm} (hd : Ok G W ((A.sub th).sub s) d) : Vl G W (n + 1) (A.sub th :: D) (ups th) (Tm.cns d s) := by
  intro x hx
  cases x with
  | zero => exact ⟨_, .var (lk_zero _ _), by rw [wk_cns]; exact hd⟩
  | succ x =>
    obtain ⟨X, h1, h2⟩ := h x (by omega)
    refine ⟨_, h1.wk _, ?_⟩
    show Ok G W _ ((Tm.wk (th x)).sub _)
    rw [wk_cns, wk_cns]
    exact h2
/-- The types that come out are good. -/
def S1 (G : List Tm) (W : Tm → Prop) (t : Tm) : Prop := ∀ (n : Nat) (D : List Tm) (th s : Nat → Tm) (T : Tm), fvb n t → Vl G W n D th s → SubOk D G s → Ty D (t.sub th) T → ∃ Q P, GL G W Top (T.sub s) Q P ∧ Q (T.sub s)
def S3 (G : List Tm) (W : Tm → Prop) (t : Tm) : Prop := ∀ (n : Nat) (D : List Tm) (th s : Nat → Tm) (T : Tm), fvb n t → Vl G W n D th s → SubOk D G s → Ty D (t.sub th) T → Ok G W (T.sub s) ((t.sub th).sub s)
theorem fin {t : Tm} (h1 : S1 G W t) (h2 : ∀ (n : Nat) (D : List Tm) (th s : Nat → Tm) (T : Tm) (Q P : Tm → Prop), fvb n t → Vl G W n D th s → SubOk D G s → Ty D (t.sub th) T → GL G W Top (T.sub s) Q P → Q (T.sub s) →
    (∃ A, Ty G ((t.sub th).sub s) A ∧ Cv A (T.sub s) ∧ Q A) → W ((t.sub th).sub s) ∧ P ((t.sub th).sub s)) : S3 G W t := by
  intro n D th s T hf hv hs ht
  obtain ⟨Q, P, k1, k2⟩ := h1 n D th s T hf hv hs ht
  obtain ⟨A, l1, l2⟩ := ht.sub hs
  have e : (t.sub th).sub s = t.sub (fun x => (th x).sub s) := sub_sub t s th
  obtain ⟨Q2, P2, m1, m2⟩ := h1 n G _ Tm.var A hf hv.now (SubOk.var G) (by rw [← e]; exact l1)
  rw [sub_var] at m1 m2
  have hA : Q A := ((m1.eq k1 l2).1 A).1 m2
  obtain ⟨n1, n2⟩ := h2 n D th s T Q P hf hv hs ht k1 k2 ⟨A, l1, l2, hA⟩
  exact ⟨Q, P, k1, k2, n1, ⟨A, l1, l2, hA⟩, n2⟩

/-- An operator applied to a good argument. -/
theorem Ok.papp {F f : Tm} (h : Ok G W F f) {C R : Tm} (e : HR F (.pi C R)) {T a : Tm} (ha : Ok G W T a) (k : Cv T C) : ∃ Q P, GL G W Top (R.inst a) Q P ∧ Q (R.inst a) ∧ P (.app f a) ∧ ∀ A, Ty G f A → ∃ C' R', HR A (.pi C' R') ∧ Cv C' C ∧ Q (R'.inst a) := by
  obtain ⟨Q, P, h1, h2, h3, ⟨A, h4, h5, h6⟩, h7⟩ := h
  obtain ⟨QC, PC, Qd, Pd, g1, g2, g3, g4, g5, g6⟩ := h1.pi_inv e
  have hd := ha.gd g1 k
  refine ⟨_, _, g3 a hd, g4 a hd, (g6 f).1 h7 a hd, fun A' hA' => ?_⟩
  obtain rfl := h4.det hA'
  obtain ⟨-, C', R', l1, l2, l3, l4⟩ := (g5 _).1 h6
  exact ⟨C', R', l1, l2, l4 a hd⟩
/-- A family at a good argument is a good type. -/
theorem Ok.fam {F f : Tm} (h : Ok G W F f) {C D : Tm} {k : Nat} (e : HR F (.pi C D)) (eD : HR D (.sort k)) {T a : Tm} (ha : Ok G W T a) (c : Cv T C) (hw : W (.app f a)) : ∃ Q P, GL G W Top (.app f a) Q P ∧ Q (.app f a) := by
  obtain ⟨Q, P, h1, h2, h3, -⟩ := h.papp e ha c
  obtain ⟨k1, k2⟩ := h1.sort_inv (j := k) (by have := eD.sub (Tm.cns a Tm.var); exact this)
  rw [k2, Uv_iff] at h3
  obtain ⟨Q', P', h4⟩ := h3
  exact ⟨Q', P', h4.top, GL.q h4 hw⟩
theorem natOk {k : Nat → Prop} : GL G W k .nat (fun A => W A ∧ HR A .nat) (NatP G W) := .nat (.refl _) (fun _ => Iff.rfl) (fun _ => Iff.rfl)
theorem sortOk {k : Nat → Prop} {j : Nat} (h : k j) : GL G W k (.sort j) (fun A => W A ∧ HR A (.sort j)) (Uv G W j) := .sort h (.refl _) (fun _ => Iff.rfl) (fun _ => Iff.rfl)
theorem Ok.nat (hW : WOk G W) {b A : Tm} (h1 : W b) (h2 : Ty G b A) (h3 : Cv A .nat) (h4 : W A) (h5 : NatP G W b) : Ok G W .nat b := ⟨_, _, natOk, ⟨hW.nat, .refl _⟩, h1, ⟨A, h2, h3, h4, h3.to_nat⟩, h5⟩
/-- Recursion over good numbers. -/
theorem elimP (hW : WOk G W) {p z s F C D Z S : Tm} {k : Nat} (hp : Ok G W F p) (eF : HR F (.pi C D)) (eC : Cv C .nat) (eD : HR D (.sort k)) (hz : Ok G W Z z) (eZ : Cv Z (.app p .zero)) (hs : Ok G W S s) (eS : Cv S (stepTy p)) :
    ∀ {a : Tm}, NatP G W a → W a → ∀ {A : Tm}, Ty G a A → Cv A .nat → W A → ∀ {Q P : Tm → Prop}, GL G W Top (.app p a) Q P → P (.elim p z s a) := by
  intro a h
  induction h with
  | @zero a h =>
    intro hw A hA eA wA Q P g
    refine g.back ((h.map (F := fun x => .elim p z s x) fun h => .elim _ _ _ h).trans (.one (.ez p z s))) ?_
    exact hz.p g (eZ.trans (.app (Cv.rfl' _) h.cv.symm))
  | @succ a b B h1 h2 h3 h4 h5 h6 ih =>
    intro hw A hA eA wA Q P g
    refine g.back ((h1.map (F := fun x => .elim p z s x) fun h => .elim _ _ _ h).trans (.one (.es p z s b))) ?_
    have hb := Ok.nat hW h2 h3 h4 h5 h6
    obtain ⟨C1, R1, r1, r2, r3⟩ := eS.to_pi
    obtain ⟨Q1, P1, s1, s2, s3, -⟩ := hs.papp r1 hb r2.symm
    have e1 : Cv (R1.inst b) (.pi (.app p b) (.app (Tm.wk p) (.succ (Tm.wk b)))) := by
      have := r3.inst (Cv.rfl' b)
      have e2 : (Tm.pi (.app (Tm.wk p) (.var 0)) (.app (p.ren (fun i => i + 2)) (.succ (.var 1)))).inst b = .pi (.app p b) (.app (Tm.wk p) (.succ (Tm.wk b))) := by
        unfold Tm.inst
        simp only [Tm.sub, ups, Tm.cns]
        rw [wk_cns, sub_var, sub_ren]
        congr 2
        rw [Tm.wk, ren_eq]
        rfl
      rwa [e2] at this
    obtain ⟨Qb, Pb, f1, f2⟩ := hp.fam eF eD hb eC.symm (hW.app hp.w h2)
    have hel : Ty G (.elim p z s b) (.app p b) := by
      obtain ⟨Fp, p1, p2, p3⟩ := hp.own
      obtain ⟨Zz, z1, z2, z3⟩ := hz.own
      obtain ⟨Ss, s1, s2, s3⟩ := hs.own
      obtain ⟨C', D', q1, q2, q3⟩ := (p3.trans eF.cv).to_pi
      exact .elim p1 q1 (q2.trans eC) (q3.trans eD.cv).to_sort z1 (z3.trans eZ) s1 (s3.trans eS) h3 h4
    have he : Ok G W (.app p b) (.elim p z s b) := ⟨Qb, Pb, f1, f2, hW.elim hp.w hz.w hs.w h2, ⟨_, hel, Cv.rfl' _, f2⟩, ih h2 h3 h4 h5 f1⟩
    obtain ⟨C2, R2, t1, t2, t3⟩ := e1.to_pi
    obtain ⟨QC, PC, Qd, Pd, g1, g2, g3, g4, g5, g6⟩ := s1.pi_inv t1
    have hd := he.gd g1 t2.symm
    have h7 := (g6 _).1 s3 _ hd
    have h8 := g3 _ hd
    have e3 : Cv (R2.inst (.elim p z s b)) (.app p a) := by
      have := t3.inst (Cv.rfl' (.elim p z s b))
      have e4 : (Tm.app (Tm.wk p) (.succ (Tm.wk b))).inst (.elim p z s b) = .app p (.succ b) := by
        show Tm.app ((Tm.wk p).inst _) (.succ ((Tm.wk b).inst _)) = _
        rw [wk_inst, wk_inst]
      rw [e4] at this
      exact this.trans (.app (Cv.rfl' _) h1.cv.symm)
    exact ((h8.eq g e3).2 _).1 h7
  | ne h => intro hw A hA eA wA Q P g; exact g.stuck (h.elim p z s)

/-- Products of good types. -/
theorem mkpi (hW : WOk G W) {L : Nat → Prop} {A B : Tm} {QA PA : Tm → Prop} (wA : W A) (gA : GL G W L A QA PA) (hB : ∀ d, Gd G W A QA PA d → ∃ Q P, GL G W L (B.inst d) Q P ∧ Q (B.inst d)) : ∃ Q P, GL G W L (.pi A B) Q P ∧ Q (.pi A B) := by
  have h : ∀ d, ∃ X : (Tm → Prop) × (Tm → Prop), Gd G W A QA PA d → GL G W L (B.inst d) X.1 X.2 ∧ X.1 (B.inst d) := fun d => by
    by_cases hd : Gd G W A QA PA d
    · obtain ⟨Q, P, h1, h2⟩ := hB d hd
      exact ⟨(Q, P), fun _ => ⟨h1, h2⟩⟩
    · exact ⟨(fun _ => True, fun _ => True), fun h => absurd h hd⟩
  obtain ⟨F, hF⟩ := Classical.axiomOfChoice h
  have g : GL G W L (.pi A B) _ _ := .pi (Qd := fun d => (F d).1) (Pd := fun d => (F d).2) (.refl _) gA (gA.q wA) (fun d hd => (hF d hd).1) (fun d hd => (hF d hd).2) (fun _ => Iff.rfl) (fun _ => Iff.rfl)
  exact ⟨_, _, g, g.q (hW.pi B wA)⟩
theorem mksg (hW : WOk G W) {L : Nat → Prop} {A B : Tm} {QA PA : Tm → Prop} (wA : W A) (gA : GL G W L A QA PA) (hB : ∀ d, Gd G W A QA PA d → ∃ Q P, GL G W L (B.inst d) Q P ∧ Q (B.inst d)) : ∃ Q P, GL G W L (.sg A B) Q P ∧ Q (.sg A B) := by
  have h : ∀ d, ∃ X : (Tm → Prop) × (Tm → Prop), Gd G W A QA PA d → GL G W L (B.inst d) X.1 X.2 ∧ X.1 (B.inst d) := fun d => by
    by_cases hd : Gd G W A QA PA d
    · obtain ⟨Q, P, h1, h2⟩ := hB d hd
      exact ⟨(Q, P), fun _ => ⟨h1, h2⟩⟩
    · exact ⟨(fun _ => True, fun _ => True), fun h => absurd h hd⟩
  obtain ⟨F, hF⟩ := Classical.axiomOfChoice h
  have g : GL G W L (.sg A B) _ _ := .sg (Qd := fun d => (F d).1) (Pd := fun d => (F d).2) (.refl _) gA (gA.q wA) (fun d hd => (hF d hd).1) (fun d hd => (hF d hd).2) (fun _ => Iff.rfl) (fun _ => Iff.rfl)
  exact ⟨_, _, g, g.q (hW.sg B wA)⟩
/-- What stands below a binder. -/
theorem below {B : Tm} (iB : S3 G W B) {n : Nat} {D : List Tm} {th s : Nat → Tm} {A T : Tm} (hf : fvb (n + 1) B) (hv : Vl G W n D th s) (hs : SubOk D G s) (ht : Ty (A.sub th :: D) (B.sub (ups th)) T) {L : Nat → Prop} {QA PA : Tm → Prop} (gA : GL G W L ((A.sub th).sub s) QA PA) (qA : QA ((A.sub th).sub s)) {d : Tm} (hd : Gd G W ((A.sub th).sub s) QA PA d) :
    Ok G W (T.sub (Tm.cns d s)) (((B.sub (ups th)).sub (ups s)).inst d) := by
  have hok := Ok.of gA qA hd
  obtain ⟨A0, k1, k2, k3⟩ := hok.own
  rw [sub_ups_inst]
  exact iB (n + 1) _ _ _ T hf (hv.cns hok) (hs.cns k1 k3) ht
theorem Ok.sgp {A a : Tm} (h : Ok G W A a) {C R : Tm} (e : HR A (.sg C R)) (hW : WOk G W) : ∃ (QC PC : Tm → Prop) (Qd Pd : Tm → Tm → Prop), GL G W Top C QC PC ∧ QC C ∧ Gd G W C QC PC (.fst a) ∧ (∀ d, Gd G W C QC PC d → GL G W Top (R.inst d) (Qd d) (Pd d)) ∧ (∀ d, Gd G W C QC PC d → Qd d (R.inst d)) ∧ Pd (.fst a) (.snd a) := by
  obtain ⟨Q, P, h1, h2, h3, ⟨A0, h4, h5, h6⟩, h7⟩ := h
  obtain ⟨QC, PC, Qd, Pd, g1, g2, g3, g4, g5, g6⟩ := h1.sg_inv e
  obtain ⟨-, C', R', l1, l2, l3, l4⟩ := (g5 _).1 h6
  obtain ⟨p1, p2⟩ := (g6 _).1 h7
  have hg : Gd G W C QC PC (.fst a) := ⟨hW.fst h3, ⟨C', .fst h4 l1, l2, l3⟩, p1⟩
  exact ⟨QC, PC, Qd, Pd, g1, g2, hg, g3, g4, p2 _ hg (Cv.rfl' _)⟩

/-- Terms with types are good, below any good substitution. -/
theorem good (hW : WOk G W) : ∀ t : Tm, S3 G W t := by
  intro t
  induction t with
  | var x =>
    intro n D th s T hf hv hs ht
    obtain ⟨X, h1, h2⟩ := hv x hf
    obtain rfl := h1.det ht
    exact h2
  | sort i =>
    refine fin (fun n D th s T hf hv hs ht => ?_) (fun n D th s T Q P hf hv hs ht g gq _ => ?_)
    · cases ht with
      | sort => exact ⟨_, _, sortOk trivial, hW.sort _, .refl _⟩
    · cases ht with
      | sort =>
        refine ⟨hW.sort _, ?_⟩
        rw [(g.sort_inv (.refl _)).2, Uv_iff]
        exact ⟨_, _, sortOk (Nat.lt_succ_self _)⟩
  | nat =>
    refine fin (fun n D th s T hf hv hs ht => ?_) (fun n D th s T Q P hf hv hs ht g gq _ => ?_)
    · cases ht with
      | nat => exact ⟨_, _, sortOk trivial, hW.sort _, .refl _⟩
    · cases ht with
      | nat =>
        refine ⟨hW.nat, ?_⟩
        rw [(g.sort_inv (.refl _)).2, Uv_iff]
        exact ⟨_, _, natOk⟩
  | zero =>
    refine fin (fun n D th s T hf hv hs ht => ?_) (fun n D th s T Q P hf hv hs ht g gq _ => ?_)
    · cases ht with
      | zero => exact ⟨_, _, natOk, hW.nat, .refl _⟩
    · cases ht with
      | zero =>
        refine ⟨hW.zero, ?_⟩
        rw [g.nat_inv (Cv.rfl' _)]
        exact .zero (.refl _)
  | succ a ih =>
    refine fin (fun n D th s T hf hv hs ht => ?_) (fun n D th s T Q P hf hv hs ht g gq _ => ?_)
    · cases ht with
      | succ => exact ⟨_, _, natOk, hW.nat, .refl _⟩
    · cases ht with
      | succ h1 h2 =>
        have ha := ih n D th s _ hf hv hs h1
        obtain ⟨A, k1, k2, k3⟩ := ha.own
        refine ⟨hW.succ ha.w, ?_⟩
        rw [g.nat_inv (Cv.rfl' _)]
        have e := k3.trans (h2.sub s)
        exact .succ (.refl _) ha.w k1 e k2.wt (ha.p (natOk (k := Top)) (h2.sub s))
  | pi A B iA iB =>
    refine fin (fun n D th s T hf hv hs ht => ?_) (fun n D th s T Q P hf hv hs ht g gq _ => ?_)
    · cases ht with
      | pi => exact ⟨_, _, sortOk trivial, hW.sort _, .refl _⟩
    · cases ht with
      | @pi _ _ _ S S' i k h1 h2 h3 h4 =>
        have hA := iA n D th s _ hf.1 hv hs h1
        refine ⟨hW.pi _ hA.w, ?_⟩
        rw [(g.sort_inv (.refl _)).2, Uv_iff]
        obtain ⟨QA, PA, gA, qA⟩ := hA.ty (h2.sub s)
        obtain ⟨Q', P', g', -⟩ := mkpi (L := fun j => j < max i k) hW (B := (B.sub (ups th)).sub (ups s)) hA.w (gA.up fun j hj => by omega) (fun d hd => by
          obtain ⟨Q, P, k1, k2⟩ := (below iB hf.2 hv hs h3 gA qA hd).ty (h4.sub _)
          exact ⟨Q, P, k1.up fun j hj => by omega, k2⟩)
        exact ⟨Q', P', g'⟩
  | sg A B iA iB =>
    refine fin (fun n D th s T hf hv hs ht => ?_) (fun n D th s T Q P hf hv hs ht g gq _ => ?_)
    · cases ht with
      | sg => exact ⟨_, _, sortOk trivial, hW.sort _, .refl _⟩
    · cases ht with
      | @sg _ _ _ S S' i k h1 h2 h3 h4 =>
        have hA := iA n D th s _ hf.1 hv hs h1
        refine ⟨hW.sg _ hA.w, ?_⟩
        rw [(g.sort_inv (.refl _)).2, Uv_iff]
        obtain ⟨QA, PA, gA, qA⟩ := hA.ty (h2.sub s)
        obtain ⟨Q', P', g', -⟩ := mksg (L := fun j => j < max i k) hW (B := (B.sub (ups th)).sub (ups s)) hA.w (gA.up fun j hj => by omega) (fun d hd => by
          obtain ⟨Q, P, k1, k2⟩ := (below iB hf.2 hv hs h3 gA qA hd).ty (h4.sub _)
          exact ⟨Q, P, k1.up fun j hj => by omega, k2⟩)
        exact ⟨Q', P', g'⟩
  | lam A t iA it =>
    refine fin (fun n D th s T hf hv hs ht => ?_) (fun n D th s T Q P hf hv hs ht g gq _ => ?_)
    · cases ht with
      | @lam _ _ _ B S i h1 h2 h3 =>
        have hA := iA n D th s _ hf.1 hv hs h1
        obtain ⟨QA, PA, gA, qA⟩ := hA.ty (h2.sub s)
        exact mkpi hW (B := B.sub (ups s)) hA.w gA.top (fun d hd => by
          obtain ⟨Q, P, k1, k2, -⟩ := below it hf.2 hv hs h3 gA qA hd
          rw [← sub_ups_inst] at k1 k2
          exact ⟨Q, P, k1, k2⟩)
    · cases ht with
      | @lam _ _ _ B S i h1 h2 h3 =>
        have hA := iA n D th s _ hf.1 hv hs h1
        obtain ⟨QC, PC, Qd, Pd, g1, g2, g3, g4, g5, g6⟩ := g.pi_inv (.refl _)
        refine ⟨hW.lam _ hA.w, (g6 _).2 fun d hd => ?_⟩
        refine (g3 d hd).back (.one (.beta _ _ _)) ?_
        have hb := below it hf.2 hv hs h3 g1 g2 hd
        rw [← sub_ups_inst] at hb
        exact hb.p (g3 d hd) (Cv.rfl' _)
  | app f a jf ja =>
    have key : ∀ (n : Nat) (D : List Tm) (th s : Nat → Tm) (T : Tm), fvb n (.app f a) → Vl G W n D th s → SubOk D G s → Ty D ((Tm.app f a).sub th) T → W (((Tm.app f a).sub th).sub s) ∧ ∃ Q P, GL G W Top (T.sub s) Q P ∧ Q (T.sub s) ∧ P (((Tm.app f a).sub th).sub s) := by
      intro n D th s T hf hv hs ht
      cases ht with
      | app h1 h2 h3 h4 =>
        have hF := jf n D th s _ hf.1 hv hs h1
        have hA := ja n D th s _ hf.2 hv hs h3
        obtain ⟨Q, P, k1, k2, k3, -⟩ := hF.papp (h2.sub s) hA (h4.sub s)
        refine ⟨hW.app hF.w hA.w, Q, P, ?_, ?_, k3⟩
        · rw [inst_sub]; exact k1
        · rw [inst_sub]; exact k2
    refine fin (fun n D th s T hf hv hs ht => ?_) (fun n D th s T Q P hf hv hs ht g gq _ => ?_)
    · obtain ⟨-, Q, P, k1, k2, -⟩ := key n D th s T hf hv hs ht
      exact ⟨Q, P, k1, k2⟩
    · obtain ⟨w, Q', P', k1, k2, k3⟩ := key n D th s T hf hv hs ht
      exact ⟨w, ((k1.eq g (Cv.rfl' _)).2 _).1 k3⟩
  | elim p z s' a jp jz js ja =>
    refine fin (fun n D th s T hf hv hs ht => ?_) (fun n D th s T Q P hf hv hs ht g gq _ => ?_)
    · cases ht with
      | elim h1 h2 h3 h4 h5 h6 h7 h8 h9 h10 =>
        have hp := jp n D th s _ hf.1 hv hs h1
        have ha := ja n D th s _ hf.2.2.2 hv hs h9
        exact hp.fam (h2.sub s) (h4.sub (ups s)) ha ((h10.trans h3.symm).sub s) (hW.app hp.w ha.w)
    · cases ht with
      | elim h1 h2 h3 h4 h5 h6 h7 h8 h9 h10 =>
        have hp := jp n D th s _ hf.1 hv hs h1
        have hz := jz n D th s _ hf.2.1 hv hs h5
        have hS := js n D th s _ hf.2.2.1 hv hs h7
        have ha := ja n D th s _ hf.2.2.2 hv hs h9
        refine ⟨hW.elim hp.w hz.w hS.w ha.w, ?_⟩
        obtain ⟨A, k1, k2, k3⟩ := ha.own
        exact elimP hW hp (h2.sub s) (h3.sub s) (h4.sub (ups s)) hz (h6.sub s) hS (by have := h8.sub s; rwa [stepTy_sub] at this) (ha.p (natOk (k := Top)) (h10.sub s)) ha.w k1 (k3.trans (h10.sub s)) k2.wt g
  | id T a b jT ja jb =>
    refine fin (fun n D th s T hf hv hs ht => ?_) (fun n D th s T Q P hf hv hs ht g gq _ => ?_)
    · cases ht with
      | id => exact ⟨_, _, sortOk trivial, hW.sort _, .refl _⟩
    · cases ht with
      | id h1 h2 h3 h4 h5 h6 =>
        have hT := jT n D th s _ hf.1 hv hs h1
        have ha := ja n D th s _ hf.2.1 hv hs h3
        have hb := jb n D th s _ hf.2.2 hv hs h5
        refine ⟨hW.id hT.w ha.w hb.w, ?_⟩
        rw [(g.sort_inv (.refl _)).2, Uv_iff]
        obtain ⟨QX, PX, gX, qX⟩ := hT.ty (h2.sub s)
        exact ⟨_, _, .id (.refl _) gX qX (ha.gd gX (h4.sub s)) (hb.gd gX (h6.sub s)) (fun _ => Iff.rfl) (fun _ => Iff.rfl)⟩
  | refl a ja =>
    refine fin (fun n D th s T hf hv hs ht => ?_) (fun n D th s T Q P hf hv hs ht g gq _ => ?_)
    · cases ht with
      | @refl _ _ A h1 =>
        have ha := ja n D th s _ hf hv hs h1
        obtain ⟨QX, PX, gX, qX, dX⟩ := ha
        have g : GL G W Top (.id (A.sub s) ((a.sub th).sub s) ((a.sub th).sub s)) _ _ := .id (.refl _) gX qX dX dX (fun _ => Iff.rfl) (fun _ => Iff.rfl)
        exact ⟨_, _, g, g.q (hW.id (gX.w qX) dX.1 dX.1)⟩
    · cases ht with
      | @refl _ _ A h1 =>
        have ha := ja n D th s _ hf hv hs h1
        refine ⟨hW.refl ha.w fun A0 hA0 => ?_, ?_⟩
        · obtain ⟨A1, k1, k2, k3⟩ := ha.own
          obtain rfl := k1.det hA0
          exact k2.wt
        · obtain ⟨QX, PX, -, -, -, -, l⟩ := g.id_inv (.refl _)
          exact (l _).2 (.inl ⟨_, .refl _, Cv.rfl' _, Cv.rfl' _⟩)
  | move p e a jp je ja =>
    have key : ∀ (n : Nat) (D : List Tm) (th s : Nat → Tm) (T : Tm), fvb n (.move p e a) → Vl G W n D th s → SubOk D G s → Ty D ((Tm.move p e a).sub th) T → W (((Tm.move p e a).sub th).sub s) ∧ ∃ Q P, GL G W Top (T.sub s) Q P ∧ Q (T.sub s) ∧ P (((Tm.move p e a).sub th).sub s) := by
      intro n D th s T hf hv hs ht
      cases ht with
      | move h1 h2 h3 h4 h5 h6 h7 h8 =>
        have he := je n D th s _ hf.2.1 hv hs h1
        have hp := jp n D th s _ hf.1 hv hs h3
        have ha := ja n D th s _ hf.2.2 hv hs h7
        obtain ⟨Q, P, k1, k2, k3, k4, k5⟩ := he
        obtain ⟨QX, PX, gX, qX, d1, d2, l⟩ := k1.id_inv (h2.sub s)
        have hC := Ok.of gX qX d2
        obtain ⟨QT, PT, gT, qT⟩ := hp.fam (h4.sub s) (h6.sub (ups s)) hC (h5.symm.sub s) (hW.app hp.w d2.1)
        refine ⟨hW.move hp.w k3 ha.w, QT, PT, gT, qT, ?_⟩
        rcases (l _).1 k5 with ⟨b, m1, m2, m3⟩ | m
        · refine gT.back ((m1.map (F := fun x => .move _ x _) fun h => .move _ _ h).trans (.one (.mr _ _ _))) ?_
          exact ha.p gT ((h8.sub s).trans (.app (Cv.rfl' _) (m2.symm.trans m3)))
        · exact gT.stuck (m.move _ _)
    refine fin (fun n D th s T hf hv hs ht => ?_) (fun n D th s T Q P hf hv hs ht g gq _ => ?_)
    · obtain ⟨-, Q, P, k1, k2, -⟩ := key n D th s T hf hv hs ht
      exact ⟨Q, P, k1, k2⟩
    · obtain ⟨w, Q', P', k1, k2, k3⟩ := key n D th s T hf hv hs ht
      exact ⟨w, ((k1.eq g (Cv.rfl' _)).2 _).1 k3⟩
  | pair T a b jT ja jb =>
    refine fin (fun n D th s T hf hv hs ht => ?_) (fun n D th s T Q P hf hv hs ht g gq _ => ?_)
    · cases ht with
      | pair h1 h2 h3 h4 h5 h6 h7 =>
        have hT := jT n D th s _ hf.1 hv hs h1
        obtain ⟨Q, P, k1, k2⟩ := hT.ty (h2.sub s)
        exact ⟨Q, P, k1.top, k2⟩
    · cases ht with
      | pair h1 h2 h3 h4 h5 h6 h7 =>
        have hT := jT n D th s _ hf.1 hv hs h1
        have ha := ja n D th s _ hf.2.1 hv hs h4
        have hb := jb n D th s _ hf.2.2 hv hs h6
        refine ⟨hW.pair hT.w ha.w hb.w, ?_⟩
        obtain ⟨QC, PC, Qd, Pd, g1, g2, g3, g4, g5, g6⟩ := g.sg_inv (h3.sub s)
        refine (g6 _).2 ⟨g1.back (.one (.fp _ _ _)) (ha.p g1 (h5.sub s)), fun d hd hc => (g3 d hd).back (.one (.sp _ _ _)) (hb.p (g3 d hd) ?_)⟩
        have e := h7.sub s
        rw [inst_sub] at e
        exact e.trans ((Cv.rfl' _).inst (hc.trans (HR.one (.fp _ _ _)).cv).symm)
  | fst a ja =>
    have key : ∀ (n : Nat) (D : List Tm) (th s : Nat → Tm) (T : Tm), fvb n (.fst a) → Vl G W n D th s → SubOk D G s → Ty D ((Tm.fst a).sub th) T → W (((Tm.fst a).sub th).sub s) ∧ ∃ Q P, GL G W Top (T.sub s) Q P ∧ Q (T.sub s) ∧ P (((Tm.fst a).sub th).sub s) := by
      intro n D th s T hf hv hs ht
      cases ht with
      | fst h1 h2 =>
        have ha := ja n D th s _ hf hv hs h1
        obtain ⟨QC, PC, Qd, Pd, g1, g2, g3, -⟩ := ha.sgp (h2.sub s) hW
        exact ⟨hW.fst ha.w, QC, PC, g1, g2, g3.2.2⟩
    refine fin (fun n D th s T hf hv hs ht => ?_) (fun n D th s T Q P hf hv hs ht g gq _ => ?_)
    · obtain ⟨-, Q, P, k1, k2, -⟩ := key n D th s T hf hv hs ht
      exact ⟨Q, P, k1, k2⟩
    · obtain ⟨w, Q', P', k1, k2, k3⟩ := key n D th s T hf hv hs ht
      exact ⟨w, ((k1.eq g (Cv.rfl' _)).2 _).1 k3⟩
  | snd a ja =>
    have key : ∀ (n : Nat) (D : List Tm) (th s : Nat → Tm) (T : Tm), fvb n (.snd a) → Vl G W n D th s → SubOk D G s → Ty D ((Tm.snd a).sub th) T → W (((Tm.snd a).sub th).sub s) ∧ ∃ Q P, GL G W Top (T.sub s) Q P ∧ Q (T.sub s) ∧ P (((Tm.snd a).sub th).sub s) := by
      intro n D th s T hf hv hs ht
      cases ht with
      | snd h1 h2 =>
        have ha := ja n D th s _ hf hv hs h1
        obtain ⟨QC, PC, Qd, Pd, g1, g2, g3, g4, g5, g6⟩ := ha.sgp (h2.sub s) hW
        refine ⟨hW.snd ha.w, Qd (.fst ((a.sub th).sub s)), Pd (.fst ((a.sub th).sub s)), ?_, ?_, g6⟩
        · rw [inst_sub]; exact g4 _ g3
        · rw [inst_sub]; exact g5 _ g3
    refine fin (fun n D th s T hf hv hs ht => ?_) (fun n D th s T Q P hf hv hs ht g gq _ => ?_)
    · obtain ⟨-, Q, P, k1, k2, -⟩ := key n D th s T hf hv hs ht
      exact ⟨Q, P, k1, k2⟩
    · obtain ⟨w, Q', P', k1, k2, k3⟩ := key n D th s T hf hv hs ht
      exact ⟨w, ((k1.eq g (Cv.rfl' _)).2 _).1 k3⟩
end Go.Proofs.Ytdkamgafpphdjaa.M


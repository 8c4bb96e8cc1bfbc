/-
  Lemmas towards the law, 12: MPar.
-/
import Derived.Test.YtghmpdnlkldigaaGreatDoorFAK
namespace Go.Proofs.YtghmpdnlkldigaaGreatDoor.M
set_option linter.unusedVariables false
open Tm
inductive Par : Tm → Tm → Prop where
  | var (n) : Par (var n) (var n)
  | sort (n) : Par (sort n) (sort n)
  | pi {A A' B B'} : Par A A' → Par B B' → Par (pi A B) (pi A' B')
  | lam {A A' B B'} : Par A A' → Par B B' → Par (lam A B) (lam A' B')
  | app {A A' B B'} : Par A A' → Par B B' → Par (app A B) (app A' B')
  | nat : Par nat nat
  | zero : Par zero zero
  | succ {a a'} : Par a a' → Par (succ a) (succ a')
  | elim {p p' z z' s s' a a'} : Par p p' → Par z z' → Par s s' → Par a a' → Par (elim p z s a) (elim p' z' s' a')
  | id {T T' a a' b b'} : Par T T' → Par a a' → Par b b' → Par (Tm.id T a b) (Tm.id T' a' b')
  | refl {a a'} : Par a a' → Par (refl a) (refl a')
  | move {T T' a a' b b'} : Par T T' → Par a a' → Par b b' → Par (move T a b) (move T' a' b')
  | sg {A A' B B'} : Par A A' → Par B B' → Par (sg A B) (sg A' B')
  | pair {T T' a a' b b'} : Par T T' → Par a a' → Par b b' → Par (pair T a b) (pair T' a' b')
  | fst {a a'} : Par a a' → Par (fst a) (fst a')
  | snd {a a'} : Par a a' → Par (snd a) (snd a')
  | beta {A b b' a a'} : Par b b' → Par a a' → Par (app (lam A b) a) (b'.inst a')
  | ez {p z z' s} : Par z z' → Par (elim p z s zero) z'
  | es {p p' z z' s s' a a'} : Par p p' → Par z z' → Par s s' → Par a a' → Par (elim p z s (succ a)) (app (app s' a') (elim p' z' s' a'))
  | mr {p b a a'} : Par a a' → Par (move p (refl b) a) a'
  | fp {T a a' b} : Par a a' → Par (fst (pair T a b)) a'
  | sp {T a b b'} : Par b b' → Par (snd (pair T a b)) b'
theorem Par.rfl' : ∀ t : Tm, Par t t := by
  intro t; induction t <;> constructor <;> assumption
theorem Par.ren {t t' : Tm} (h : Par t t') : ∀ r, Par (t.ren r) (t'.ren r) := by
  induction h with
  | beta h1 h2 i1 i2 =>
    intro r
    rw [inst_ren]
    exact .beta (i1 _) (i2 _)
  | _ => intro r; simp only [Tm.ren]; constructor <;> solve_by_elim
theorem Par.ups {s s' : Nat → Tm} (h : ∀ n, Par (s n) (s' n)) : ∀ n, Par (ups s n) (ups s' n) := by
  intro n
  cases n with
  | zero => exact .var 0
  | succ n => exact (h n).ren _
theorem Par.sub {t t' : Tm} (h : Par t t') : ∀ {s s' : Nat → Tm}, (∀ n, Par (s n) (s' n)) → Par (t.sub s) (t'.sub s') := by
  induction h with
  | var n => intro s s' hs; exact hs n
  | beta h1 h2 i1 i2 =>
    intro s s' hs
    rw [inst_sub]
    exact .beta (i1 (Par.ups hs)) (i2 hs)
  | pi h1 h2 i1 i2 => intro s s' hs; exact .pi (i1 hs) (i2 (Par.ups hs))
  | lam h1 h2 i1 i2 => intro s s' hs; exact .lam (i1 hs) (i2 (Par.ups hs))
  | sg h1 h2 i1 i2 => intro s s' hs; exact .sg (i1 hs) (i2 (Par.ups hs))
  | _ => intro s s' hs; simp only [Tm.sub]; constructor <;> solve_by_elim
theorem Par.cns {u u' : Tm} (h : Par u u') : ∀ n, Par (Tm.cns u Tm.var n) (Tm.cns u' Tm.var n) := by
  intro n
  cases n with
  | zero => exact h
  | succ n => exact .var n
theorem Par.inst {t t' u u' : Tm} (h : Par t t') (k : Par u u') : Par (t.inst u) (t'.inst u') := h.sub (Par.cns k)
/-- All redexes contracted. -/
def dev : Tm → Tm
  | .app (.lam _ b) a => (dev b).inst (dev a)
  | .elim _ z _ .zero => dev z
  | .elim p z s (.succ a) => .app (.app (dev s) (dev a)) (.elim (dev p) (dev z) (dev s) (dev a))
  | .move _ (.refl _) a => dev a
  | .fst (.pair _ a _) => dev a
  | .snd (.pair _ _ b) => dev b
  | .var n => .var n
  | .sort n => .sort n
  | .pi A B => .pi (dev A) (dev B)
  | .lam A t => .lam (dev A) (dev t)
  | .app f a => .app (dev f) (dev a)
  | .nat => .nat
  | .zero => .zero
  | .succ a => .succ (dev a)
  | .elim p z s a => .elim (dev p) (dev z) (dev s) (dev a)
  | .id T a b => .id (dev T) (dev a) (dev b)
  | .refl a => .refl (dev a)
  | .move p e a => .move (dev p) (dev e) (dev a)
  | .sg A B => .sg (dev A) (dev B)
  | .pair T a b => .pair (dev T) (dev a) (dev b)
  | .fst a => .fst (dev a)
  | .snd a => .snd (dev a)
theorem Par.tri {t t' : Tm} (h : Par t t') : Par t' (dev t) := by
  induction h with
  | beta h1 h2 i1 i2 => exact i1.inst i2
  | ez h i => exact i
  | es h1 h2 h3 h4 i1 i2 i3 i4 => exact .app (.app i3 i4) (.elim i1 i2 i3 i4)
  | mr h i => exact i
  | fp h i => exact i
  | sp h i => exact i
  | @app A A' B B' h1 h2 i1 i2 =>
    cases A with
    | lam X b =>
      cases h1 with
      | lam k1 k2 =>
        simp only [dev] at i1 ⊢
        cases i1 with
        | lam j1 j2 => exact .beta j2 i2
    | _ => simp only [dev] at i1 ⊢; exact .app i1 i2
  | @elim p p' z z' s s' a a' h1 h2 h3 h4 i1 i2 i3 i4 =>
    cases a with
    | zero =>
      cases h4
      simp only [dev]
      exact .ez i2
    | succ b =>
      cases h4 with
      | succ k =>
        simp only [dev] at i4 ⊢
        cases i4 with
        | succ j => exact .es i1 i2 i3 j
    | _ => simp only [dev] at i4 ⊢; exact .elim i1 i2 i3 i4
  | @move p p' e e' a a' h1 h2 h3 i1 i2 i3 =>
    cases e with
    | refl b =>
      cases h2 with
      | refl k =>
        simp only [dev] at i2 ⊢
        exact .mr i3
    | _ => simp only [dev] at i2 ⊢; exact .move i1 i2 i3
  | @fst a a' h i =>
    cases a with
    | pair T x y =>
      cases h with
      | pair k1 k2 k3 =>
        simp only [dev] at i ⊢
        cases i with
        | pair j1 j2 j3 => exact .fp j2
    | _ => simp only [dev] at i ⊢; exact .fst i
  | @snd a a' h i =>
    cases a with
    | pair T x y =>
      cases h with
      | pair k1 k2 k3 =>
        simp only [dev] at i ⊢
        cases i with
        | pair j1 j2 j3 => exact .sp j3
    | _ => simp only [dev] at i ⊢; exact .snd i
  | _ => simp only [dev]; constructor <;> assumption
/-- Reduction. -/
inductive Red : Tm → Tm → Prop where
  | refl (t) : Red t t
  | step {a b c} : Par a b → Red b c → Red a c
theorem Red.one {a b : Tm} (h : Par a b) : Red a b := .step h (.refl b)
theorem Red.trans {a b c : Tm} (h : Red a b) (k : Red b c) : Red a c := by
  induction h with
  | refl => exact k
  | step h1 _ ih => exact .step h1 (ih k)
theorem Red.strip {a b : Tm} (h : Red a b) : ∀ {c : Tm}, Par a c → ∃ d, Par b d ∧ Red c d := by
  induction h with
  | refl t => intro c hc; exact ⟨c, hc, .refl c⟩
  | @step a b d h1 h2 ih =>
    intro c hc
    obtain ⟨e, he1, he2⟩ := ih (c := dev a) h1.tri
    exact ⟨e, he1, .step hc.tri he2⟩
theorem Red.meet {a b : Tm} (h : Red a b) : ∀ {c : Tm}, Red a c → ∃ d, Red b d ∧ Red c d := by
  induction h with
  | refl t => intro c hc; exact ⟨c, hc, .refl c⟩
  | @step a b d h1 h2 ih =>
    intro c hc
    obtain ⟨e, he1, he2⟩ := hc.strip h1
    obtain ⟨f, hf1, hf2⟩ := ih he2
    exact ⟨f, hf1, .step he1 hf2⟩
theorem Red.map {F : Tm → Tm} (hF : ∀ {a b}, Par a b → Par (F a) (F b)) {a b : Tm} (h : Red a b) : Red (F a) (F b) := by
  induction h with
  | refl => exact .refl _
  | step h1 _ ih => exact .step (hF h1) ih
theorem Red.sub {a b : Tm} (h : Red a b) (s : Nat → Tm) : Red (a.sub s) (b.sub s) := h.map (F := fun t => t.sub s) fun h => h.sub fun n => Par.rfl' _
theorem Red.ren {a b : Tm} (h : Red a b) (r : Nat → Nat) : Red (a.ren r) (b.ren r) := h.map (F := fun t => t.ren r) fun h => h.ren r
/-- Convertible terms. -/
def Cv (a b : Tm) : Prop := ∃ c, Red a c ∧ Red b c
theorem Cv.rfl' (a : Tm) : Cv a a := ⟨a, .refl a, .refl a⟩
theorem Cv.symm {a b : Tm} (h : Cv a b) : Cv b a := by obtain ⟨c, h1, h2⟩ := h; exact ⟨c, h2, h1⟩
theorem Cv.trans {a b c : Tm} (h : Cv a b) (k : Cv b c) : Cv a c := by
  obtain ⟨d, h1, h2⟩ := h
  obtain ⟨e, k1, k2⟩ := k
  obtain ⟨f, f1, f2⟩ := h2.meet k1
  exact ⟨f, h1.trans f1, k2.trans f2⟩
theorem Cv.map {F : Tm → Tm} (hF : ∀ {a b}, Par a b → Par (F a) (F b)) {a b : Tm} (h : Cv a b) : Cv (F a) (F b) := by
  obtain ⟨c, h1, h2⟩ := h
  exact ⟨F c, h1.map hF, h2.map hF⟩
theorem Cv.sub {a b : Tm} (h : Cv a b) (s : Nat → Tm) : Cv (a.sub s) (b.sub s) := h.map (F := fun t => t.sub s) fun h => h.sub fun n => Par.rfl' _
theorem Cv.ren {a b : Tm} (h : Cv a b) (r : Nat → Nat) : Cv (a.ren r) (b.ren r) := h.map (F := fun t => t.ren r) fun h => h.ren r
theorem Cv.pi {A A' B B' : Tm} (h : Cv A A') (k : Cv B B') : Cv (.pi A B) (.pi A' B') :=
  (h.map (F := fun x => .pi x B) fun h => .pi h (Par.rfl' _)).trans (k.map (F := fun x => .pi A' x) fun h => .pi (Par.rfl' _) h)
theorem Cv.sg {A A' B B' : Tm} (h : Cv A A') (k : Cv B B') : Cv (.sg A B) (.sg A' B') :=
  (h.map (F := fun x => .sg x B) fun h => .sg h (Par.rfl' _)).trans (k.map (F := fun x => .sg A' x) fun h => .sg (Par.rfl' _) h)
theorem Cv.lam {A A' B B' : Tm} (h : Cv A A') (k : Cv B B') : Cv (.lam A B) (.lam A' B') :=
  (h.map (F := fun x => .lam x B) fun h => .lam h (Par.rfl' _)).trans (k.map (F := fun x => .lam A' x) fun h => .lam (Par.rfl' _) h)
theorem Cv.app {A A' B B' : Tm} (h : Cv A A') (k : Cv B B') : Cv (.app A B) (.app A' B') :=
  (h.map (F := fun x => .app x B) fun h => .app h (Par.rfl' _)).trans (k.map (F := fun x => .app A' x) fun h => .app (Par.rfl' _) h)
theorem Cv.id {T T' a a' b b' : Tm} (h : Cv T T') (k : Cv a a') (l : Cv b b') : Cv (.id T a b) (.id T' a' b') :=
  ((h.map (F := fun x => .id x a b) fun h => .id h (Par.rfl' _) (Par.rfl' _)).trans (k.map (F := fun x => .id T' x b) fun h => .id (Par.rfl' _) h (Par.rfl' _))).trans (l.map (F := fun x => .id T' a' x) fun h => .id (Par.rfl' _) (Par.rfl' _) h)
theorem Cv.pair {T T' a a' b b' : Tm} (h : Cv T T') (k : Cv a a') (l : Cv b b') : Cv (.pair T a b) (.pair T' a' b') :=
  ((h.map (F := fun x => .pair x a b) fun h => .pair h (Par.rfl' _) (Par.rfl' _)).trans (k.map (F := fun x => .pair T' x b) fun h => .pair (Par.rfl' _) h (Par.rfl' _))).trans (l.map (F := fun x => .pair T' a' x) fun h => .pair (Par.rfl' _) (Par.rfl' _) h)
theorem Cv.move {T T' a a' b b' : Tm} (h : Cv T T') (k : Cv a a') (l : Cv b b') : Cv (.move T a b) (.move T' a' b') :=
  ((h.map (F := fun x => .move x a b) fun h => .move h (Par.rfl' _) (Par.rfl' _)).trans (k.map (F := fun x => .move T' x b) fun h => .move (Par.rfl' _) h (Par.rfl' _))).trans (l.map (F := fun x => .move T' a' x) fun h => .move (Par.rfl' _) (Par.rfl' _) h)
theorem Cv.elim {p p' z z' s s' a a' : Tm} (h1 : Cv p p') (h2 : Cv z z') (h3 : Cv s s') (h4 : Cv a a') : Cv (.elim p z s a) (.elim p' z' s' a') :=
  (((h1.map (F := fun x => .elim x z s a) fun h => .elim h (Par.rfl' _) (Par.rfl' _) (Par.rfl' _)).trans (h2.map (F := fun x => .elim p' x s a) fun h => .elim (Par.rfl' _) h (Par.rfl' _) (Par.rfl' _))).trans (h3.map (F := fun x => .elim p' z' x a) fun h => .elim (Par.rfl' _) (Par.rfl' _) h (Par.rfl' _))).trans (h4.map (F := fun x => .elim p' z' s' x) fun h => .elim (Par.rfl' _) (Par.rfl' _) (Par.rfl' _) h)
theorem Cv.succ {a a' : Tm} (h : Cv a a') : Cv (.succ a) (.succ a') := h.map (F := fun x => .succ x) fun h => .succ h
theorem Cv.refl {a a' : Tm} (h : Cv a a') : Cv (.refl a) (.refl a') := h.map (F := fun x => .refl x) fun h => .refl h
theorem Cv.fst {a a' : Tm} (h : Cv a a') : Cv (.fst a) (.fst a') := h.map (F := fun x => .fst x) fun h => .fst h
theorem Cv.snd {a a' : Tm} (h : Cv a a') : Cv (.snd a) (.snd a') := h.map (F := fun x => .snd x) fun h => .snd h
theorem Cv.subs {s s' : Nat → Tm} (h : ∀ n, Cv (s n) (s' n)) (t : Tm) : Cv (t.sub s) (t.sub s') := by
  have hu : ∀ {s s' : Nat → Tm}, (∀ n, Cv (s n) (s' n)) → ∀ n, Cv (ups s n) (ups s' n) := by
    intro s s' h n
    cases n with
    | zero => exact Cv.rfl' _
    | succ n => exact (h n).ren _
  induction t generalizing s s' with
  | var n => exact h n
  | sort n => exact Cv.rfl' _
  | nat => exact Cv.rfl' _
  | zero => exact Cv.rfl' _
  | pi A B i1 i2 => exact .pi (i1 h) (i2 (hu h))
  | sg A B i1 i2 => exact .sg (i1 h) (i2 (hu h))
  | lam A B i1 i2 => exact .lam (i1 h) (i2 (hu h))
  | app f a i1 i2 => exact .app (i1 h) (i2 h)
  | succ a i => exact .succ (i h)
  | elim p z s a i1 i2 i3 i4 => exact .elim (i1 h) (i2 h) (i3 h) (i4 h)
  | id T a b i1 i2 i3 => exact .id (i1 h) (i2 h) (i3 h)
  | refl a i => exact .refl (i h)
  | move T a b i1 i2 i3 => exact .move (i1 h) (i2 h) (i3 h)
  | pair T a b i1 i2 i3 => exact .pair (i1 h) (i2 h) (i3 h)
  | fst a i => exact .fst (i h)
  | snd a i => exact .snd (i h)
theorem Cv.cns {u u' : Tm} {s s' : Nat → Tm} (h : Cv u u') (k : ∀ n, Cv (s n) (s' n)) : ∀ n, Cv (cns u s n) (cns u' s' n) := by
  intro n
  cases n with
  | zero => exact h
  | succ n => exact k n
theorem Cv.inst {t t' u u' : Tm} (h : Cv t t') (k : Cv u u') : Cv (t.inst u) (t'.inst u') :=
  (h.sub _).trans (Cv.subs (Cv.cns k fun n => Cv.rfl' _) t')
end Go.Proofs.YtghmpdnlkldigaaGreatDoor.M

/-
  Lemmas towards the law, 3: MTy.
-/
import Derived.Test.YtdkamgafpphdjaaEAB
namespace Go.Proofs.Ytdkamgafpphdjaa.M
set_option linter.unusedVariables false
open Tm
/-- A type of the context, for the variable n. -/
def lk (G : List Tm) (n : Nat) : Option Tm := (G[n]?).map fun A => A.ren (fun i => i + (n + 1))
/-- The type of the function for successors. -/
def stepTy (p : Tm) : Tm := .pi .nat (.pi (.app (wk p) (.var 0)) (.app (p.ren (fun i => i + 2)) (.succ (.var 1))))
inductive Ty : List Tm → Tm → Tm → Prop where
  | var {G n A} : lk G n = some A → Ty G (.var n) A
  | sort {G n} : Ty G (.sort n) (.sort (n + 1))
  | nat {G} : Ty G .nat (.sort 0)
  | zero {G} : Ty G .zero .nat
  | succ {G a A} : Ty G a A → Cv A .nat → Ty G (.succ a) .nat
  | pi {G A B S S' i k} : Ty G A S → HR S (.sort i) → Ty (A :: G) B S' → HR S' (.sort k) → Ty G (.pi A B) (.sort (max i k))
  | sg {G A B S S' i k} : Ty G A S → HR S (.sort i) → Ty (A :: G) B S' → HR S' (.sort k) → Ty G (.sg A B) (.sort (max i k))
  | lam {G A t B S i} : Ty G A S → HR S (.sort i) → Ty (A :: G) t B → Ty G (.lam A t) (.pi A B)
  | app {G f a F A C R} : Ty G f F → HR F (.pi C R) → Ty G a A → Cv A C → Ty G (.app f a) (R.inst a)
  | elim {G p z s a F Z S A C D k} : Ty G p F → HR F (.pi C D) → Cv C .nat → HR D (.sort k) → Ty G z Z → Cv Z (.app p .zero) → Ty G s S → Cv S (stepTy p) → Ty G a A → Cv A .nat → Ty G (.elim p z s a) (.app p a)
  | id {G T a b S A B i} : Ty G T S → HR S (.sort i) → Ty G a A → Cv A T → Ty G b B → Cv B T → Ty G (.id T a b) (.sort i)
  | refl {G a A} : Ty G a A → Ty G (.refl a) (.id A a a)
  | move {G p e a E T B C F T' D k A} : Ty G e E → HR E (.id T B C) → Ty G p F → HR F (.pi T' D) → Cv T' T → HR D (.sort k) → Ty G a A → Cv A (.app p B) → Ty G (.move p e a) (.app p C)
  | pair {G T a b S i C D A B} : Ty G T S → HR S (.sort i) → HR T (.sg C D) → Ty G a A → Cv A C → Ty G b B → Cv B (D.inst a) → Ty G (.pair T a b) T
  | fst {G a A C D} : Ty G a A → HR A (.sg C D) → Ty G (.fst a) C
  | snd {G a A C D} : Ty G a A → HR A (.sg C D) → Ty G (.snd a) (D.inst (.fst a))
theorem HR.pi_det {T C R C' R' : Tm} (h : HR T (.pi C R)) (k : HR T (.pi C' R')) : C = C' ∧ R = R' := by
  have := h.det k (by simp [hk]) (by simp [hk])
  simpa using this
theorem HR.sg_det {T C R C' R' : Tm} (h : HR T (.sg C R)) (k : HR T (.sg C' R')) : C = C' ∧ R = R' := by
  have := h.det k (by simp [hk]) (by simp [hk])
  simpa using this
theorem HR.id_det {T X a b X' a' b' : Tm} (h : HR T (.id X a b)) (k : HR T (.id X' a' b')) : X = X' ∧ a = a' ∧ b = b' := by
  have := h.det k (by simp [hk]) (by simp [hk])
  simpa using this
theorem HR.sort_det {T : Tm} {i j : Nat} (h : HR T (.sort i)) (k : HR T (.sort j)) : i = j := by
  have := h.det k (by simp [hk]) (by simp [hk])
  simpa using this
theorem Ty.det {G : List Tm} {t A : Tm} (h : Ty G t A) : ∀ {B : Tm}, Ty G t B → A = B := by
  induction h with
  | var h => intro B k; cases k with | var k => rw [h] at k; exact Option.some.inj k
  | sort => intro B k; cases k; rfl
  | nat => intro B k; cases k; rfl
  | zero => intro B k; cases k; rfl
  | succ => intro B k; cases k; rfl
  | pi h1 h2 h3 h4 i1 i2 =>
    intro B k
    cases k with
    | pi k1 k2 k3 k4 =>
      obtain rfl := i1 k1
      obtain rfl := i2 k3
      rw [h2.sort_det k2, h4.sort_det k4]
  | sg h1 h2 h3 h4 i1 i2 =>
    intro B k
    cases k with
    | sg k1 k2 k3 k4 =>
      obtain rfl := i1 k1
      obtain rfl := i2 k3
      rw [h2.sort_det k2, h4.sort_det k4]
  | lam h1 h2 h3 i1 i2 =>
    intro B k
    cases k with
    | lam k1 k2 k3 => rw [i2 k3]
  | app h1 h2 h3 h4 i1 i2 =>
    intro B k
    cases k with
    | app k1 k2 k3 k4 =>
      obtain rfl := i1 k1
      obtain ⟨-, rfl⟩ := h2.pi_det k2
      rfl
  | elim => intro B k; cases k; rfl
  | id h1 h2 h3 h4 h5 h6 i1 i2 i3 =>
    intro B k
    cases k with
    | id k1 k2 =>
      obtain rfl := i1 k1
      rw [h2.sort_det k2]
  | refl h i => intro B k; cases k with | refl k => rw [i k]
  | move h1 h2 h3 h4 h5 h6 h7 h8 i1 i2 i3 =>
    intro B k
    cases k with
    | move k1 k2 =>
      obtain rfl := i1 k1
      obtain ⟨-, -, rfl⟩ := h2.id_det k2
      rfl
  | pair => intro B k; cases k; rfl
  | fst h1 h2 i1 =>
    intro B k
    cases k with
    | fst k1 k2 =>
      obtain rfl := i1 k1
      exact (h2.sg_det k2).1
  | snd h1 h2 i1 =>
    intro B k
    cases k with
    | snd k1 k2 =>
      obtain rfl := i1 k1
      rw [(h2.sg_det k2).2]
/-- A renaming from G to D. -/
def RenOk (G D : List Tm) (r : Nat → Nat) : Prop := ∀ n A, lk G n = some A → lk D (r n) = some (A.ren r)
theorem lk_zero (A : Tm) (G : List Tm) : lk (A :: G) 0 = some (wk A) := rfl
theorem lk_succ (A : Tm) (G : List Tm) (n : Nat) : lk (A :: G) (n + 1) = (lk G n).map wk := by
  unfold lk
  rw [List.getElem?_cons_succ, Option.map_map]
  congr 1
  funext B
  show _ = (B.ren _).ren _
  rw [ren_ren]
  rfl
theorem RenOk.up {G D : List Tm} {r : Nat → Nat} (h : RenOk G D r) (A : Tm) : RenOk (A :: G) (A.ren r :: D) (upr r) := by
  intro n B hB
  cases n with
  | zero =>
    rw [lk_zero] at hB
    obtain rfl := Option.some.inj hB
    show lk (A.ren r :: D) 0 = _
    rw [lk_zero, ren_wk]
  | succ n =>
    rw [lk_succ] at hB
    obtain ⟨X, h1, rfl⟩ := Option.map_eq_some_iff.1 hB
    show lk (A.ren r :: D) (r n + 1) = _
    rw [lk_succ, h n X h1, ren_wk]
    rfl
theorem RenOk.wk (A : Tm) (G : List Tm) : RenOk G (A :: G) Nat.succ := by
  intro n B hB
  show lk (A :: G) (n + 1) = _
  rw [lk_succ, hB]
  rfl
theorem stepTy_ren (p : Tm) (r : Nat → Nat) : (stepTy p).ren r = stepTy (p.ren r) := by
  unfold stepTy
  simp only [Tm.ren, upr]
  rw [ren_wk, ren_ren, ren_ren]
  rfl
theorem Ty.ren {G : List Tm} {t A : Tm} (h : Ty G t A) : ∀ {D : List Tm} {r : Nat → Nat}, RenOk G D r → Ty D (t.ren r) (A.ren r) := by
  induction h with
  | var h => intro D r hr; exact .var (hr _ _ h)
  | sort => intro D r hr; exact .sort
  | nat => intro D r hr; exact .nat
  | zero => intro D r hr; exact .zero
  | succ h1 h2 i1 => intro D r hr; exact .succ (i1 hr) (h2.ren r)
  | pi h1 h2 h3 h4 i1 i2 => intro D r hr; exact .pi (i1 hr) (h2.ren r) (i2 (hr.up _)) (h4.ren (upr r))
  | sg h1 h2 h3 h4 i1 i2 => intro D r hr; exact .sg (i1 hr) (h2.ren r) (i2 (hr.up _)) (h4.ren (upr r))
  | lam h1 h2 h3 i1 i2 => intro D r hr; exact .lam (i1 hr) (h2.ren r) (i2 (hr.up _))
  | app h1 h2 h3 h4 i1 i2 => intro D r hr; rw [inst_ren]; exact .app (i1 hr) (h2.ren r) (i2 hr) (h4.ren r)
  | elim h1 h2 h3 h4 h5 h6 h7 h8 h9 h10 i1 i2 i3 i4 =>
    intro D r hr
    exact .elim (i1 hr) (h2.ren r) (h3.ren r) (h4.ren (upr r)) (i2 hr) (h6.ren r) (i3 hr) (by rw [← stepTy_ren]; exact h8.ren r) (i4 hr) (h10.ren r)
  | id h1 h2 h3 h4 h5 h6 i1 i2 i3 => intro D r hr; exact .id (i1 hr) (h2.ren r) (i2 hr) (h4.ren r) (i3 hr) (h6.ren r)
  | refl h i => intro D r hr; exact .refl (i hr)
  | move h1 h2 h3 h4 h5 h6 h7 h8 i1 i2 i3 => intro D r hr; exact .move (i1 hr) (h2.ren r) (i2 hr) (h4.ren r) (h5.ren r) (h6.ren (upr r)) (i3 hr) (h8.ren r)
  | pair h1 h2 h3 h4 h5 h6 h7 i1 i2 i3 => intro D r hr; exact .pair (i1 hr) (h2.ren r) (h3.ren r) (i2 hr) (h5.ren r) (i3 hr) (by rw [← inst_ren]; exact h7.ren r)
  | fst h1 h2 i1 => intro D r hr; exact .fst (i1 hr) (h2.ren r)
  | snd h1 h2 i1 => intro D r hr; rw [inst_ren]; exact .snd (i1 hr) (h2.ren r)
theorem Ty.wk {G : List Tm} {t A : Tm} (h : Ty G t A) (X : Tm) : Ty (X :: G) (Tm.wk t) (Tm.wk A) := h.ren (RenOk.wk X G)
/-- A substitution from G to D whose terms have convertible types. -/
def SubOk (G D : List Tm) (s : Nat → Tm) : Prop := ∀ n A, lk G n = some A → ∃ X, Ty D (s n) X ∧ Cv X (A.sub s)
theorem SubOk.up {G D : List Tm} {s : Nat → Tm} (h : SubOk G D s) (A : Tm) : SubOk (A :: G) (A.sub s :: D) (ups s) := by
  intro n B hB
  cases n with
  | zero =>
    rw [lk_zero] at hB
    obtain rfl := Option.some.inj hB
    exact ⟨_, .var (lk_zero _ _), by rw [ups_sub]; exact Cv.rfl' _⟩
  | succ n =>
    rw [lk_succ] at hB
    obtain ⟨X, h1, rfl⟩ := Option.map_eq_some_iff.1 hB
    obtain ⟨Y, h2, h3⟩ := h n X h1
    exact ⟨_, h2.wk _, by rw [ups_sub]; exact h3.ren _⟩
theorem SubOk.cns {G D : List Tm} {s : Nat → Tm} (h : SubOk G D s) {A u X : Tm} (hu : Ty D u X) (hX : Cv X (A.sub s)) : SubOk (A :: G) D (Tm.cns u s) := by
  intro n B hB
  cases n with
  | zero =>
    rw [lk_zero] at hB
    obtain rfl := Option.some.inj hB
    exact ⟨X, hu, by rw [wk_cns]; exact hX⟩
  | succ n =>
    rw [lk_succ] at hB
    obtain ⟨Y, h1, rfl⟩ := Option.map_eq_some_iff.1 hB
    obtain ⟨Z, h2, h3⟩ := h n Y h1
    exact ⟨Z, h2, by rw [wk_cns]; exact h3⟩
theorem SubOk.var (G : List Tm) : SubOk G G Tm.var := by
  intro n A h
  exact ⟨A, .var h, by rw [sub_var]; exact Cv.rfl' _⟩
theorem stepTy_sub (p : Tm) (s : Nat → Tm) : (stepTy p).sub s = stepTy (p.sub s) := by
  unfold stepTy
  simp only [Tm.sub, ups]
  rw [ups_sub, sub_ren, ren_sub]
  congr 3
  · congr 1
    funext n
    exact ren_ren _ _ _
theorem Cv.stepTy {p q : Tm} (h : Cv p q) : Cv (Go.Proofs.Ytdkamgafpphdjaa.M.stepTy p) (Go.Proofs.Ytdkamgafpphdjaa.M.stepTy q) :=
  .pi (Cv.rfl' _) (.pi (.app (h.ren _) (Cv.rfl' _)) (.app (h.ren _) (Cv.rfl' _)))
theorem Ty.sub {G : List Tm} {t A : Tm} (h : Ty G t A) : ∀ {D : List Tm} {s : Nat → Tm}, SubOk G D s → ∃ A', Ty D (t.sub s) A' ∧ Cv A' (A.sub s) := by
  induction h with
  | var h => intro D s hs; exact hs _ _ h
  | sort => intro D s hs; exact ⟨_, .sort, Cv.rfl' _⟩
  | nat => intro D s hs; exact ⟨_, .nat, Cv.rfl' _⟩
  | zero => intro D s hs; exact ⟨_, .zero, Cv.rfl' _⟩
  | succ h1 h2 i1 =>
    intro D s hs
    obtain ⟨A', k1, k2⟩ := i1 hs
    exact ⟨_, .succ k1 (k2.trans (h2.sub s)), Cv.rfl' _⟩
  | pi h1 h2 h3 h4 i1 i2 =>
    intro D s hs
    obtain ⟨A', k1, k2⟩ := i1 hs
    obtain ⟨B', l1, l2⟩ := i2 (hs.up _)
    exact ⟨_, .pi k1 (k2.trans (h2.sub s).cv).to_sort l1 (l2.trans (h4.sub (ups s)).cv).to_sort, Cv.rfl' _⟩
  | sg h1 h2 h3 h4 i1 i2 =>
    intro D s hs
    obtain ⟨A', k1, k2⟩ := i1 hs
    obtain ⟨B', l1, l2⟩ := i2 (hs.up _)
    exact ⟨_, .sg k1 (k2.trans (h2.sub s).cv).to_sort l1 (l2.trans (h4.sub (ups s)).cv).to_sort, Cv.rfl' _⟩
  | lam h1 h2 h3 i1 i2 =>
    intro D s hs
    obtain ⟨A', k1, k2⟩ := i1 hs
    obtain ⟨B', l1, l2⟩ := i2 (hs.up _)
    exact ⟨_, .lam k1 (k2.trans (h2.sub s).cv).to_sort l1, .pi (Cv.rfl' _) l2⟩
  | @app G f a F A C R h1 h2 h3 h4 i1 i2 =>
    intro D s hs
    obtain ⟨F', k1, k2⟩ := i1 hs
    obtain ⟨A', l1, l2⟩ := i2 hs
    obtain ⟨C', R', m1, m2, m3⟩ := (k2.trans (h2.sub s).cv).to_pi
    exact ⟨_, .app k1 m1 l1 ((l2.trans (h4.sub s)).trans m2.symm), by rw [inst_sub]; exact m3.inst (Cv.rfl' _)⟩
  | @elim G p z s a F Z S A C D k h1 h2 h3 h4 h5 h6 h7 h8 h9 h10 i1 i2 i3 i4 =>
    intro D q hq
    obtain ⟨F', k1, k2⟩ := i1 hq
    obtain ⟨Z', l1, l2⟩ := i2 hq
    obtain ⟨S', m1, m2⟩ := i3 hq
    obtain ⟨A', n1, n2⟩ := i4 hq
    obtain ⟨C', D', o1, o2, o3⟩ := (k2.trans (h2.sub q).cv).to_pi
    exact ⟨_, .elim k1 o1 (o2.trans (h3.sub q)) (o3.trans (h4.sub (ups q)).cv).to_sort l1 (l2.trans (h6.sub q)) m1 (m2.trans (by rw [← stepTy_sub]; exact h8.sub q)) n1 (n2.trans (h10.sub q)), Cv.rfl' _⟩
  | id h1 h2 h3 h4 h5 h6 i1 i2 i3 =>
    intro D s hs
    obtain ⟨A', k1, k2⟩ := i1 hs
    obtain ⟨B', l1, l2⟩ := i2 hs
    obtain ⟨C', m1, m2⟩ := i3 hs
    exact ⟨_, .id k1 (k2.trans (h2.sub s).cv).to_sort l1 (l2.trans (h4.sub s)) m1 (m2.trans (h6.sub s)), Cv.rfl' _⟩
  | refl h i =>
    intro D s hs
    obtain ⟨A', k1, k2⟩ := i hs
    exact ⟨_, .refl k1, .id k2 (Cv.rfl' _) (Cv.rfl' _)⟩
  | @move G p e a E T B C F T' D k A h1 h2 h3 h4 h5 h6 h7 h8 i1 i2 i3 =>
    intro D q hq
    obtain ⟨E', k1, k2⟩ := i1 hq
    obtain ⟨F', l1, l2⟩ := i2 hq
    obtain ⟨A', m1, m2⟩ := i3 hq
    obtain ⟨X, Y, Z, n1, n2, n3, n4⟩ := (k2.trans (h2.sub q).cv).to_id
    obtain ⟨C', D', o1, o2, o3⟩ := (l2.trans (h4.sub q).cv).to_pi
    exact ⟨_, .move k1 n1 l1 o1 ((o2.trans (h5.sub q)).trans n2.symm) (o3.trans (h6.sub (ups q)).cv).to_sort m1 ((m2.trans (h8.sub q)).trans (.app (Cv.rfl' _) n3.symm)), .app (Cv.rfl' _) n4⟩
  | @pair G T a b S i C D A B h1 h2 h3 h4 h5 h6 h7 i1 i2 i3 =>
    intro X q hq
    obtain ⟨S', k1, k2⟩ := i1 hq
    obtain ⟨A', l1, l2⟩ := i2 hq
    obtain ⟨B', m1, m2⟩ := i3 hq
    exact ⟨_, .pair k1 (k2.trans (h2.sub q).cv).to_sort (h3.sub q) l1 (l2.trans (h5.sub q)) m1 (m2.trans (by have := h7.sub q; rwa [inst_sub] at this)), Cv.rfl' _⟩
  | fst h1 h2 i1 =>
    intro D s hs
    obtain ⟨A', k1, k2⟩ := i1 hs
    obtain ⟨C', R', m1, m2, m3⟩ := (k2.trans (h2.sub s).cv).to_sg
    exact ⟨_, .fst k1 m1, m2⟩
  | snd h1 h2 i1 =>
    intro D s hs
    obtain ⟨A', k1, k2⟩ := i1 hs
    obtain ⟨C', R', m1, m2, m3⟩ := (k2.trans (h2.sub s).cv).to_sg
    exact ⟨_, .snd k1 m1, by rw [inst_sub]; exact m3.inst (Cv.rfl' _)⟩
end Go.Proofs.Ytdkamgafpphdjaa.M

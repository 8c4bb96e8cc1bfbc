/-
  Lemmas towards the law, 24: RedP, ExShape.
-/
import Derived.Test.YtappakllopkfiaaKAD
import Derived.Test.YtappakllopkfiaaKAF
import Derived.Test.YtappakllopkfiaaKAG
import Derived.Test.YtappakllopkfiaaKAW
namespace Go.Proofs.Ytappakllopkfiaa
open Go.RowKit
set_option linter.unusedVariables false
/-- A tree after a contraction at a place. -/
def conA (t : Tr) (p : List Int) : Tr := match atT t p with
  | some u => putA t p (ctrT u)
  | none => dflt0
/-- Is there a redex at the place? -/
def rdxA (t : Tr) (p : List Int) : Bool := match atT t p with
  | some u => isRdx u
  | none => false
/-- What a contraction of a valid term at a place of a redex answers. -/
def conV (t : Tr) (p : List Int) : Tr × Bool := if valid sigT (conA t p) = true then (conA t p, true) else (dflt0, false)
/-- ContractAt's answer. -/
def conP (t : Tr) (p : List Int) : Tr × Bool := if (valid sigT t && rdxA t p) = true then conV t p else (dflt0, false)
/-- Steps of a valid term, at most so many. -/
def nrmC : Nat → Tr → Tr × Int
  | 0, t => match outT t with
    | none => (t, 0)
    | some _ => (dflt0, 1)
  | f + 1, t => match outT t with
    | none => (t, 0)
    | some p => if valid sigT (conA t p) = true then nrmC f (conA t p) else (dflt0, 2)
/-- Normalize's answer. -/
def normV (t : Tr) (f : Int) : Tr × Int := if (valid sigT t && inR f 0 200) = true then nrmC f.toNat t else (dflt0, 3)
theorem rdxA_some {t : Tr} {p : List Int} (h : rdxA t p = true) : ∃ u, atT t p = some u ∧ isRdx u = true := by
  unfold rdxA at h
  cases e : atT t p with
  | none => rw [e] at h; cases h
  | some u => rw [e] at h; exact ⟨u, rfl, h⟩
theorem isRdx_iff {k n : Int} {ks : List Tr} : isRdx (.mk k n ks) = true ↔ rdx k ks ≠ 0 := by simp [isRdx, rdxT]
theorem pars_set {ks : List Tr} : ∀ {i : Nat} {x : Tr}, Par (kd ks i) x → Pars ks (ks.set i x) := by
  induction ks with
  | nil => intro i x _; exact .nil
  | cons t ts ih =>
    intro i x h
    cases i with
    | zero => exact .cons h (Pars.refl ts)
    | succ i => exact .cons (Par.refl t) (ih h)
theorem par_put : ∀ (p : List Int) (t u u' : Tr), atT t p = some u → Par u u' → Par t (putA t p u')
  | [], t, u, u', h, hp => by
    have e : t = u := by cases t; simpa [atT] using h
    subst e
    rw [putA_nil]
    exact hp
  | i :: r, .mk k n ks, u, u', h, hp => by
    rw [atT] at h
    split at h
    · rw [putA]
      exact .node (pars_set (par_put r _ u u' h hp))
    · cases h
theorem par_ctr {u : Tr} (h : isRdx u = true) : Par u (ctrT u) := by
  obtain ⟨k, n, ks⟩ := u
  exact .red (isRdx_iff.1 h) (Pars.refl ks)
theorem con_par {t : Tr} {p : List Int} (h : rdxA t p = true) : Par t (conA t p) := by
  obtain ⟨u, h1, h2⟩ := rdxA_some h
  unfold conA
  rw [h1]
  exact par_put p t u _ h1 (par_ctr h2)
mutual
theorem outT_at : ∀ (t : Tr) (p : List Int), outT t = some p → rdxA t p = true
  | .mk k n ks, p, h => by
    rw [outT] at h
    split at h
    · obtain ⟨j, r, rfl, h1, h2⟩ := outTs_at ks 0 p h
      unfold rdxA at h2 ⊢
      rw [atT, if_pos ⟨by omega, by omega⟩]
      rw [show (((0 + j : Nat) : Int)).toNat = j by omega]
      exact h2
    · rename_i h0
      cases h
      unfold rdxA
      rw [show atT (.mk k n ks) [] = some (.mk k n ks) from rfl]
      exact isRdx_iff.2 h0
theorem outTs_at : ∀ (ks : List Tr) (i : Nat) (p : List Int), outTs i ks = some p → ∃ (j : Nat) (r : List Int), p = ((i + j : Nat) : Int) :: r ∧ j < ks.length ∧ rdxA (kd ks j) r = true
  | [], i, p, h => by rw [outTs] at h; cases h
  | t :: ts, i, p, h => by
    rw [outTs] at h
    cases e : outT t with
    | some q =>
      rw [e] at h
      cases h
      exact ⟨0, q, rfl, by simp, outT_at t q e⟩
    | none =>
      rw [e] at h
      obtain ⟨j, r, rfl, h1, h2⟩ := outTs_at ts (i + 1) p h
      exact ⟨j + 1, r, by rw [show i + 1 + j = i + (j + 1) by omega], by simpa using h1, h2⟩
end
theorem nrmC_reds : ∀ (f : Nat) (t x : Tr), valid sigT t = true → nrmC f t = (x, 0) → Reds t x ∧ nrm x = true ∧ valid sigT x = true
  | 0, t, x, hv, h => by
    unfold nrmC at h
    cases e : outT t with
    | none =>
      rw [e] at h
      cases h
      have := outT_nrm t
      rw [e] at this
      exact ⟨.refl _, by simpa using this.symm, hv⟩
    | some p => rw [e] at h; cases h
  | f + 1, t, x, hv, h => by
    unfold nrmC at h
    cases e : outT t with
    | none =>
      rw [e] at h
      cases h
      have := outT_nrm t
      rw [e] at this
      exact ⟨.refl _, by simpa using this.symm, hv⟩
    | some p =>
      rw [e] at h
      simp only at h
      split at h
      · rename_i hc
        obtain ⟨h1, h2⟩ := nrmC_reds f _ x hc h
        exact ⟨(Reds.one (con_par (outT_at t p e))).trans h1, h2⟩
      · cases h
theorem cnts_kd {ks : List Tr} {i : Nat} (h : i < ks.length) : cnt (kd ks i) ≤ cnts ks := cnt_mem (kd_mem h)
theorem valid_at {t u : Tr} {p : List Int} (h : valid sigT t = true) (e : atT t p = some u) : valid sigT u = true := by
  obtain ⟨h1, h2⟩ := valid_parts h
  have h3 := atT_cnt p t u e
  have h4 := atT_shape p t u 30 h1 e
  unfold valid
  rw [shape_mono h4 (by omega), Bool.true_and, decide_eq_true_eq]
  omega
theorem conA_part {t : Tr} {p : List Int} {u : Tr} (h : atT t p = some u) (hv : valid sigT (conA t p) = true) : valid sigT (ctrT u) = true := by
  unfold conA at hv
  rw [h] at hv
  exact valid_at hv (atT_putA p t (ctrT u) u h).1
end Go.Proofs.Ytappakllopkfiaa
namespace Go.Proofs.Ytappakllopkfiaa
open Go.RowKit
set_option linter.unusedVariables false
theorem shapes_of {g : Sig} : ∀ {ts : List Tr} {d : Int}, (∀ t ∈ ts, shape g t d = true) → shapes g ts d = true
  | [], _, _ => rfl
  | t :: ts, d, h => by
    simp only [shapes, Bool.and_eq_true]
    exact ⟨h t (by simp), shapes_of (fun x hx => h x (by simp [hx]))⟩
theorem shape_mk {g : Sig} {k n : Int} {ks : List Tr} {d : Int} (h1 : 1 ≤ d) (h2 : g.ops k = (ks.length : Int)) (h3 : 0 ≤ n) (h4 : n ≤ g.most k) (h5 : ∀ t ∈ ks, shape g t (d - 1) = true) : shape g (.mk k n ks) d = true := by
  simp only [shape, headOk, Bool.and_eq_true, decide_eq_true_eq]
  exact ⟨h1, ⟨h2, inR_iff.2 ⟨h3, h4⟩⟩, shapes_of h5⟩
theorem shape_pos {g : Sig} {t : Tr} {d : Int} (h : shape g t d = true) : 1 ≤ d := by
  obtain ⟨k, n, ks⟩ := t
  simp only [shape, Bool.and_eq_true, decide_eq_true_eq] at h
  exact h.1
theorem shape_up {g : Sig} : ∀ {t : Tr} {d e : Int}, shape g t d = true → d ≤ e → shape g t e = true := by
  intro t
  refine Tr.ind (P := fun t => ∀ {d e : Int}, shape g t d = true → d ≤ e → shape g t e = true) (fun k n ks ih => ?_) t
  intro d e h hd
  obtain ⟨h1, h2, h3, h4⟩ := shape_kids' h
  have := shape_pos h
  exact shape_mk (by omega) h1 h2 h3 (fun t ht => ih t ht (h4 t ht) (by omega))
end Go.Proofs.Ytappakllopkfiaa

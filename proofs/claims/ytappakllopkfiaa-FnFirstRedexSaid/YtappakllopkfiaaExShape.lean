/-
  The program of a valid term is valid. Plain.
-/
import Derived.Test.YtappakllopkfiaaExtract
import Derived.Test.YtappakllopkfiaaFree
namespace Go.Proofs.Ytappakllopkfiaa
open Go.RowKit
set_option linter.unusedVariables false

theorem shapes_of {g : Sig} : ∀ {ts : List Tr} {d : Int}, (∀ t ∈ ts, shape g t d = true) → shapes g ts d = true
  | [], _, _ => rfl
  | t :: ts, d, h => by
    simp only [shapes, Bool.and_eq_true]
    exact ⟨h t (by simp), shapes_of (fun x hx => h x (by simp [hx]))⟩
theorem shape_mk {g : Sig} {k n : Int} {ks : List Tr} {d : Int} (h1 : 1 ≤ d) (h2 : g.ops k = (ks.length : Int)) (h3 : 0 ≤ n) (h4 : n ≤ g.most k) (h5 : ∀ t ∈ ks, shape g t (d - 1) = true) : shape g (.mk k n ks) d = true := by
  simp only [shape, headOk, Bool.and_eq_true, decide_eq_true_eq]
  exact ⟨h1, ⟨h2, inR_iff.2 ⟨h3, h4⟩⟩, shapes_of h5⟩
theorem shape_pos {g : Sig} {t : Tr} {d : Int} (h : shape g t d = true) : 1 ≤ d := by
  obtain ⟨k, n, ks⟩ := t
  simp only [shape, Bool.and_eq_true, decide_eq_true_eq] at h
  exact h.1
theorem shape_up {g : Sig} : ∀ {t : Tr} {d e : Int}, shape g t d = true → d ≤ e → shape g t e = true := by
  intro t
  refine Tr.ind (P := fun t => ∀ {d e : Int}, shape g t d = true → d ≤ e → shape g t e = true) (fun k n ks ih => ?_) t
  intro d e h hd
  obtain ⟨h1, h2, h3, h4⟩ := shape_kids' h
  have := shape_pos h
  exact shape_mk (by omega) h1 h2 h3 (fun t ht => ih t ht (h4 t ht) (by omega))
theorem exS_len : ∀ ks : List Tr, (exS ks).length = ks.length
  | [] => rfl
  | t :: ts => by simp [exS, exS_len ts]
theorem exT_shape : ∀ (t : Tr) (d : Int), shape sigT t d = true → shape sigC (exT t) d = true := by
  intro t
  refine Tr.ind (P := fun t => ∀ d : Int, shape sigT t d = true → shape sigC (exT t) d = true) (fun k n ks ih => ?_) t
  intro d h
  obtain ⟨h1, h2, h3, h4⟩ := shape_kids' h
  have hp := shape_pos h
  have hk : ∀ j, j < ks.length → shape sigC ((exS ks).getD j dflt) (d - 1) = true := fun j hj => by
    rw [exS_get hj]
    exact ih _ (List.getElem_mem hj) _ (h4 _ (List.getElem_mem hj))
  have h1' : opsT k = (ks.length : Int) := h1
  have h3' : n ≤ mostT k := h3
  unfold exT exOf
  unfold opsT at h1'
  by_cases c1 : k = 1
  · subst c1
    exact shape_mk hp rfl h2 h3' (fun t ht => by cases ht)
  rw [if_neg c1]
  by_cases c4 : k = 4
  · subst c4
    have : (ks.length : Int) = 2 := by simpa using h1'.symm
    exact shape_mk hp rfl (by decide) (by decide) (fun t ht => by simp [sel] at ht; subst ht; exact hk 1 (by omega))
  rw [if_neg c4]
  by_cases c5 : k = 5
  · subst c5
    have : (ks.length : Int) = 2 := by simpa using h1'.symm
    exact shape_mk hp rfl (by decide) (by decide) (fun t ht => by simp [sel] at ht; rcases ht with rfl | rfl; exact hk 0 (by omega); exact hk 1 (by omega))
  rw [if_neg c5]
  by_cases c7 : k = 7
  · rw [if_pos c7]
    exact shape_mk hp rfl (by decide) (by decide) (fun t ht => by cases ht)
  rw [if_neg c7]
  by_cases c8 : k = 8
  · subst c8
    have : (ks.length : Int) = 1 := by simpa using h1'.symm
    exact shape_mk hp rfl (by decide) (by decide) (fun t ht => by simp [sel] at ht; subst ht; exact hk 0 (by omega))
  rw [if_neg c8]
  by_cases c9 : k = 9
  · subst c9
    have : (ks.length : Int) = 4 := by simpa using h1'.symm
    exact shape_mk hp rfl (by decide) (by decide) (fun t ht => by simp [sel] at ht; rcases ht with rfl | rfl | rfl; exact hk 1 (by omega); exact hk 2 (by omega); exact hk 3 (by omega))
  rw [if_neg c9]
  by_cases c14 : k = 14
  · subst c14
    have : (ks.length : Int) = 3 := by simpa using h1'.symm
    exact shape_mk hp rfl (by decide) (by decide) (fun t ht => by simp [sel] at ht; rcases ht with rfl | rfl; exact hk 1 (by omega); exact hk 2 (by omega))
  rw [if_neg c14]
  by_cases c15 : k = 15
  · subst c15
    have : (ks.length : Int) = 1 := by simpa using h1'.symm
    exact shape_mk hp rfl (by decide) (by decide) (fun t ht => by simp [sel] at ht; subst ht; exact hk 0 (by omega))
  rw [if_neg c15]
  by_cases c16 : k = 16
  · subst c16
    have : (ks.length : Int) = 1 := by simpa using h1'.symm
    exact shape_mk hp rfl (by decide) (by decide) (fun t ht => by simp [sel] at ht; subst ht; exact hk 0 (by omega))
  rw [if_neg c16]
  by_cases c12 : k = 12
  · subst c12
    have : (ks.length : Int) = 3 := by simpa using h1'.symm
    exact shape_up (hk 2 (by omega)) (by omega)
  rw [if_neg c12]
  exact shape_mk hp rfl (by decide) (by decide) (fun t ht => by cases ht)
end Go.Proofs.Ytappakllopkfiaa

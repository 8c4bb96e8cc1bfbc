/-
  Lemmas towards the law, 30: CntS.
-/
import Derived.Test.YtappakllopkfiaaKAX
namespace Go.Proofs.Ytappakllopkfiaa
open Go.RowKit
set_option linter.unusedVariables false
mutual
theorem sbs_cnt (u : Tr) : ∀ (t : Tr) (x d : Int), cnt (sbsT u t x d) ≤ cnt t * cnt u
  | .mk k n ks, x, d => by
    have hu := cnt_pos u
    rw [sbsT]
    split
    · rw [shfT_cnt, cnt]
      exact Nat.le_mul_of_pos_left _ (Nat.succ_pos _)
    · rw [cnt, cnt, Nat.add_mul, Nat.one_mul]
      have := sbss_cnt u k ks 0 x d
      omega
theorem sbss_cnt (u : Tr) : ∀ (k : Int) (ts : List Tr) (i : Nat) (x d : Int), cnts (sbsTs u k ts i x d) ≤ cnts ts * cnt u
  | _, [], _, _, _ => by simp [sbsTs, cnts]
  | k, t :: ts, i, x, d => by
    have h1 := sbs_cnt u t (x + und k i) (d + und k i)
    have h2 := sbss_cnt u k ts (i + 1) x d
    rw [sbsTs, cnts, cnts, Nat.add_mul]
    omega
end
/-- The contractum of a redex of at most 400 nodes. -/
theorem kd_cnt (ks : List Tr) (j : Nat) : cnt (kd ks j) ≤ cnts ks + 1 := by
  by_cases h : j < ks.length
  · have := cnts_kd h; omega
  · unfold kd
    rw [List.getD_eq_getElem?_getD, List.getElem?_eq_none (by omega)]
    simp [dflt0, cnt, cnts]
theorem kids_cnt (t : Tr) : cnts t.kids + 1 = cnt t := by cases t; rfl
theorem ctrT_cnt {t : Tr} (h : cnt t ≤ 400) : cnt (ctrT t) ≤ 1000000 := by
  obtain ⟨k, n, ks⟩ := t
  have h0 : ∀ j, cnt (kd ks j) ≤ 400 := fun j => by have := kd_cnt ks j; rw [cnt] at h; omega
  have h1 : ∀ i j, cnt (kd (kd ks i).kids j) ≤ 400 := fun i j => by have := kd_cnt (kd ks i).kids j; have := kids_cnt (kd ks i); have := h0 i; omega
  show cnt (ctr k ks) ≤ 1000000
  unfold ctr
  split
  · have h2 := sbs_cnt (kd ks 1) (kd (kd ks 0).kids 1) 0 0
    have h3 := Nat.mul_le_mul (h1 0 1) (h0 1)
    omega
  · split
    · split
      · have := h0 1; omega
      · have a0 := h0 0; have a1 := h0 1; have a2 := h0 2; have a3 := h1 3 0
        simp only [cnt, cnts]
        omega
    · split
      · have := h0 2; omega
      · split
        · have := h1 0 1; omega
        · have := h1 0 2; omega
end Go.Proofs.Ytappakllopkfiaa

/-
  Lemmas towards the law, 20: Fvs.
-/
import Derived.Test.YtolkohncmidpeaaGreatDoorGAH
namespace Go.Proofs.YtolkohncmidpeaaGreatDoor
open Go.RowKit
set_option linter.unusedVariables false
mutual
/-- The free variables below b binders, in the order of the text. -/
def fvs : Tr → Int → List Int
  | .mk k n ks, b => (if k = 1 ∧ b ≤ n then [n - b] else []) ++ fvss k ks 0 b
def fvss : Int → List Tr → Nat → Int → List Int
  | _, [], _, _ => []
  | k, t :: ts, i, b => fvs t (b + und k i) ++ fvss k ts (i + 1) b
end
mutual
theorem mxf_fold : ∀ (t : Tr) (b s : Int), 0 ≤ s → (fvs t b).foldl (fun s i => max s (i + 1)) s = max s (mxf t b)
  | .mk k n ks, b, s, hs => by
    unfold fvs mxf
    rw [List.foldl_append]
    by_cases h : k = 1 ∧ b ≤ n
    · rw [if_pos h, if_pos h]
      simp only [List.foldl_cons, List.foldl_nil]
      rw [mxfs_fold k ks 0 b _ (by omega), Int.max_assoc]
    · rw [if_neg h, if_neg h]
      simp only [List.foldl_nil]
      rw [mxfs_fold k ks 0 b s hs]
      have := mxfs_nonneg k ks 0 b
      omega
theorem mxfs_fold : ∀ (k : Int) (ts : List Tr) (i : Nat) (b s : Int), 0 ≤ s → (fvss k ts i b).foldl (fun s i => max s (i + 1)) s = max s (mxfs k ts i b)
  | _, [], _, _, s, hs => by simp only [fvss, mxfs, List.foldl_nil]; omega
  | k, t :: ts, i, b, s, hs => by
    unfold fvss mxfs
    rw [List.foldl_append, mxf_fold t _ s hs, mxfs_fold k ts (i + 1) b _ (by omega), Int.max_assoc]
end
theorem most_le (k : Int) : sigT.most k ≤ 20 := by
  show mostT k ≤ 20
  unfold mostT
  split
  · omega
  · split <;> omega
mutual
theorem fvs_mem : ∀ (t : Tr) (b d : Int) (i : Int), shape sigT t d = true → 0 ≤ b → i ∈ fvs t b → 0 ≤ i ∧ i ≤ 20 ∧ i < mxf t b
  | .mk k n ks, b, d, i, hs, hb, hm => by
    obtain ⟨-, h0, h1, hk⟩ := shape_kids' hs
    have h2 := most_le k
    unfold fvs at hm
    unfold mxf
    rcases List.mem_append.1 hm with hm | hm
    · by_cases h : k = 1 ∧ b ≤ n
      · rw [if_pos h] at hm ⊢
        simp only [List.mem_singleton] at hm
        omega
      · rw [if_neg h] at hm
        cases hm
    · have := fvss_mem k ks 0 b (d - 1) i hk hb hm
      omega
theorem fvss_mem : ∀ (k : Int) (ts : List Tr) (j : Nat) (b d : Int) (i : Int), (∀ t ∈ ts, shape sigT t d = true) → 0 ≤ b → i ∈ fvss k ts j b → 0 ≤ i ∧ i ≤ 20 ∧ i < mxfs k ts j b
  | _, [], _, _, _, _, _, _, hm => by unfold fvss at hm; cases hm
  | k, t :: ts, j, b, d, i, hs, hb, hm => by
    unfold fvss at hm
    unfold mxfs
    have hu := und_le k j
    rcases List.mem_append.1 hm with hm | hm
    · have := fvs_mem t _ d i (hs t (by simp)) (by omega) hm
      omega
    · have := fvss_mem k ts (j + 1) b d i (fun t ht => hs t (by simp [ht])) hb hm
      omega
end
end Go.Proofs.YtolkohncmidpeaaGreatDoor

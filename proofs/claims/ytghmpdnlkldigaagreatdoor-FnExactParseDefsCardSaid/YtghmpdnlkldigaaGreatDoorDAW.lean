/-
  Lemmas towards the law, 23: DrawFun, Draws, Fvs.
-/
import Derived.Test.YtghmpdnlkldigaaGreatDoorDAD
import Derived.Test.YtghmpdnlkldigaaGreatDoorDAK
import Derived.Test.YtghmpdnlkldigaaGreatDoorDAT
import Derived.Test.YtghmpdnlkldigaaGreatDoorDAV
import Derived.Deep.DrawnRows
import Derived.Deep.RegionLaw
namespace Go.Proofs.YtghmpdnlkldigaaGreatDoor
open Go.RowKit
set_option linter.unusedVariables false
theorem Rd.ext {w w' : World} {g m : Nat} (h : Rd w g m) (he : Ext w w') : Rd w' g m := by
  obtain ⟨A, cap, bs, p, hb, h1, h2, h3, h4, hB⟩ := h
  exact ⟨A, cap, bs, p, he.blk hb, h1, h2, h3, h4, hB.ext he⟩
theorem Rd.lt {w : World} {g m : Nat} (h : Rd w g m) : g < w.heap.size := by
  obtain ⟨A, cap, bs, p, hb, _⟩ := h
  exact lt_of_blk hb
theorem Rd.mono {w : World} {g m m' : Nat} (h : Rd w g m) (hm : m ≤ m') : Rd w g m' := by
  obtain ⟨A, cap, bs, p, hb, h1, h2, h3, h4, hB⟩ := h
  exact ⟨A, cap, bs, p, hb, h1, h2, h3, by omega, hB⟩
/-- A slice of ints that was built by append since W. -/
def GrowN (W w : World) (e : TypeId) (v : Value) (ns : List Int) : Prop := w.ownsRow W.heap.size e 1 v ns.length (ns.map (Value.int .i64))
theorem GrowN.only {W w w' : World} {e : TypeId} {v : Value} {ns : List Int} {L : List Nat} (h : GrowN W w e v ns) (ho : Only L w w') (hL : ∀ b, b ∈ L → b < W.heap.size) : GrowN W w' e v ns := by
  refine ⟨h.1, ?_⟩
  rcases h.2 with h | ⟨g, cap, cur, rfl, h1, h2, r⟩
  · exact .inl h
  · exact .inr ⟨g, cap, cur, rfl, h1, (ho.block g (lt_of_blk h2) (fun hm => by have := hL g hm; omega)).trans h2, r⟩
theorem Rd.grown {w w' : World} {g m : Nat} {row : Option Nat} (h : Rd w g m) (hg : w.grownBy w' row) (hr : ∀ k, row = some k → g < k) : Rd w' g m := by
  obtain ⟨A, cap, bs, p, hb, h1, h2, h3, h4, hB⟩ := h
  have hne : ∀ b, b ≤ g → some b ≠ row := fun b hb he => by have := hr b he.symm; omega
  exact ⟨A, cap, bs, p, (hg.block g (lt_of_blk hb) (hne g (Nat.le_refl _))).trans hb, h1, h2, h3, h4, hB.below hg.size (fun b hb hs => hg.block b hs (hne b (by omega)))⟩
theorem Only.grown {L : List Nat} {a w w' : World} {row : Option Nat} (h : Only L a w) (hg : w.grownBy w' row) (hr : ∀ k, row = some k → a.heap.size ≤ k) : Only L a w' :=
  ⟨hg.os.trans h.os, hg.tape.trans h.tape, hg.output.trans h.output, Nat.le_trans h.size hg.size, fun i hi hn => (hg.block i (Nat.lt_of_lt_of_le hi h.size) (fun he => by have := hr i he.symm; omega)).trans (h.block i hi hn)⟩
end Go.Proofs.YtghmpdnlkldigaaGreatDoor
namespace Go.Proofs.YtghmpdnlkldigaaGreatDoor
open Go.RowKit
set_option linter.unusedVariables false
attribute [local go_sem ↓] Go.wp_at_zero Go.wp_at_succ
theorem From.only {B : Nat} {w w' : World} {t : Tr} {v : Value} {L : List Nat} (h : From B w t v) (ho : Only L w w') (hL : ∀ b, b ∈ L → b < B) : From B w' t v :=
  h.mono (fun b hb => ⟨hb.1, Nat.lt_of_lt_of_le hb.2 ho.size⟩) (fun b hb => ho.block b hb.2 (fun hm => by have := hL b hm; omega))
theorem Rd.set {w : World} {g m : Nat} (h : Rd w g m) {p : Addr} (hp : g < p.block) (u : Value) : Rd (w.setCell p u) g m := by
  obtain ⟨A, cap, bs, q, hb, h1, h2, h3, h4, hB⟩ := h
  exact ⟨A, cap, bs, q, blk_setCell_ne hb (by omega) u, h1, h2, h3, h4, hB.below (by simp) (fun b hb _ => Below.heap_setCell w p u b (by omega))⟩
theorem Only.one (w : World) (g i : Nat) (u : Value) : Only [g] w (w.setCell ⟨g, i, none⟩ u) := (Only.refl [g] w).setCell (by simp) u
theorem Rd.under {w w' : World} {g m B : Nat} (h : Rd w g m) (hb : Below B w w') (hB : g < B) : Rd w' g m := by
  obtain ⟨A, cap, bs, q, hk, h1, h2, h3, h4, hy⟩ := h
  exact ⟨A, cap, bs, q, (hb.block g hB).trans hk, h1, h2, h3, h4, hy.below hb.size (fun b hlt _ => hb.block b (by omega))⟩
end Go.Proofs.YtghmpdnlkldigaaGreatDoor
namespace Go.Proofs.YtghmpdnlkldigaaGreatDoor
open Go.RowKit
set_option linter.unusedVariables false
mutual
/-- The free variables below b binders, in the order of the text. -/
def fvs : Tr → Int → List Int
  | .mk k n ks, b => (if k = 1 ∧ b ≤ n then [n - b] else []) ++ fvss k ks 0 b
def fvss : Int → List Tr → Nat → Int → List Int
  | _, [], _, _ => []
  | k, t :: ts, i, b => fvs t (b + und k i) ++ fvss k ts (i + 1) b
end
mutual
theorem mxf_fold : ∀ (t : Tr) (b s : Int), 0 ≤ s → (fvs t b).foldl (fun s i => max s (i + 1)) s = max s (mxf t b)
  | .mk k n ks, b, s, hs => by
    unfold fvs mxf
    rw [List.foldl_append]
    by_cases h : k = 1 ∧ b ≤ n
    · rw [if_pos h, if_pos h]
      simp only [List.foldl_cons, List.foldl_nil]
      rw [mxfs_fold k ks 0 b _ (by omega), Int.max_assoc]
    · rw [if_neg h, if_neg h]
      simp only [List.foldl_nil]
      rw [mxfs_fold k ks 0 b s hs]
      have := mxfs_nonneg k ks 0 b
      omega
theorem mxfs_fold : ∀ (k : Int) (ts : List Tr) (i : Nat) (b s : Int), 0 ≤ s → (fvss k ts i b).foldl (fun s i => max s (i + 1)) s = max s (mxfs k ts i b)
  | _, [], _, _, s, hs => by simp only [fvss, mxfs, List.foldl_nil]; omega
  | k, t :: ts, i, b, s, hs => by
    unfold fvss mxfs
    rw [List.foldl_append, mxf_fold t _ s hs, mxfs_fold k ts (i + 1) b _ (by omega), Int.max_assoc]
end
theorem most_le (k : Int) : sigT.most k ≤ 20 := by
  show mostT k ≤ 20
  unfold mostT
  split
  · omega
  · split <;> omega
mutual
theorem fvs_mem : ∀ (t : Tr) (b d : Int) (i : Int), shape sigT t d = true → 0 ≤ b → i ∈ fvs t b → 0 ≤ i ∧ i ≤ 20 ∧ i < mxf t b
  | .mk k n ks, b, d, i, hs, hb, hm => by
    obtain ⟨-, h0, h1, hk⟩ := shape_kids' hs
    have h2 := most_le k
    unfold fvs at hm
    unfold mxf
    rcases List.mem_append.1 hm with hm | hm
    · by_cases h : k = 1 ∧ b ≤ n
      · rw [if_pos h] at hm ⊢
        simp only [List.mem_singleton] at hm
        omega
      · rw [if_neg h] at hm
        cases hm
    · have := fvss_mem k ks 0 b (d - 1) i hk hb hm
      omega
theorem fvss_mem : ∀ (k : Int) (ts : List Tr) (j : Nat) (b d : Int) (i : Int), (∀ t ∈ ts, shape sigT t d = true) → 0 ≤ b → i ∈ fvss k ts j b → 0 ≤ i ∧ i ≤ 20 ∧ i < mxfs k ts j b
  | _, [], _, _, _, _, _, _, hm => by unfold fvss at hm; cases hm
  | k, t :: ts, j, b, d, i, hs, hb, hm => by
    unfold fvss at hm
    unfold mxfs
    have hu := und_le k j
    rcases List.mem_append.1 hm with hm | hm
    · have := fvs_mem t _ d i (hs t (by simp)) (by omega) hm
      omega
    · have := fvss_mem k ts (j + 1) b d i (fun t ht => hs t (by simp [ht])) hb hm
      omega
end
end Go.Proofs.YtghmpdnlkldigaaGreatDoor

/-
  UsedDefs' closures.
-/
import Derived.Test.YtpbmlpngafpoeaaTell
import Derived.Test.YtpbmlpngafpoeaaInts
namespace Go.Proofs.Ytpbmlpngafpoeaa
open Go.RowKit
set_option linter.unusedVariables false

/-- A slice of bools of the call's own, at block g. -/
def BoolsAt (w : World) (g n : Nat) (s : List Bool) : Prop := s.length = n ∧ w.heap[g]? = some (.cells (s.map Value.bool).toArray 4 (0, 0))
theorem BoolsAt.set {w : World} {g n : Nat} {s : List Bool} (h : BoolsAt w g n s) (i : Nat) (b : Bool) : BoolsAt (w.setCell ⟨g, i, none⟩ (.bool b)) g n (s.set i b) := by
  refine ⟨by simp [h.1], ?_⟩
  rw [blk_setCell h.2 i _]
  simp [List.map_set]
theorem BoolsAt.cell {w : World} {g n : Nat} {s : List Bool} (h : BoolsAt w g n s) {i : Nat} (hi : i < n) : w.cell? ⟨g, i, none⟩ = some (.bool (s[i]'(by rw [h.1]; exact hi))) := by
  rw [cell_of_blk h.2]
  have := h.1
  simp [List.getElem?_eq_getElem (show i < s.length by omega)]
def UsI (p1 p2 g n : Nat) (A : Option Addr) (cap : Nat) (w : World) (s : List Bool) : Prop := w.heap[p1]? = some (.cells #[.slice (some ⟨g, 0, none⟩) n n] 90 (0, 0)) ∧ w.heap[p2]? = some (.cells #[.slice A n cap] 25 (0, 0)) ∧ BoolsAt w g n s
theorem used1 (a : World) (p1 p2 g n cap : Nat) (A : Option Addr) (h1 : p1 ≠ g) (h2 : p2 ≠ g) (hn : n ≤ 1000000) : Told_u1 a p1 p2 [g] (UsI p1 p2 g n A cap) (fun s i => s.set ((n : Int) - 1 - i).toNat true) (fun i => 0 ≤ i ∧ i < n) := by
  intro w s i ha hI hi
  obtain ⟨i1, i2, i3⟩ := hI
  obtain ⟨q, hq⟩ : ∃ q : Nat, (n : Int) - 1 - i = q := ⟨((n : Int) - 1 - i).toNat, by omega⟩
  have c1 := cell_of_blk i1 0
  have c2 := cell_of_blk i2 0
  have hqn : q < n := by omega
  have c3 := i3.cell hqn
  generalize s[q]'_ = old at c3
  have f3 := frozen_of_blk i3.2 q
  have H1 := Lib.hid i1
  have H2 := Lib.hid i2
  have H3 := Lib.hid i3
  have hqz : (q : Int) < (n : Int) := by omega
  have e0 : ((n : Int) - 1 - i).toNat = q := by omega
  simp only [e0]
  clear i1 i2 i3 e0
  go_enter Try.func77, Try.ntmps77
  go_wp2_with fail
  go_end0
  refine ⟨rfl, (Only.refl _ _).setCell (by simp) _, ?_, ?_, H3.out.set q true⟩
  · rw [Below.heap_setCell _ _ _ _ h1]; exact H1.out
  · rw [Below.heap_setCell _ _ _ _ h2]; exact H2.out
def UtI (p1 p2 g n : Nat) (kk : Int) (w : World) (s : List Bool) : Prop := w.heap[p1]? = some (.cells #[.slice (some ⟨g, 0, none⟩) n n] 90 (0, 0)) ∧ w.heap[p2]? = some (.cells #[.int .i64 kk] 3 (0, 0)) ∧ BoolsAt w g n s
theorem used2 (a : World) (p1 p2 g n : Nat) (kk : Int) (h1 : p1 ≠ g) (h2 : p2 ≠ g) (hn : n ≤ 1000000) (hk0 : 0 ≤ kk) (hk1 : kk ≤ n) : Told_u2 a p1 p2 [g] (UtI p1 p2 g n kk) (fun s i => s.set (kk - 1 - i).toNat true) (fun i => 0 ≤ i ∧ i < kk) := by
  intro w s i ha hI hi
  obtain ⟨i1, i2, i3⟩ := hI
  obtain ⟨q, hq⟩ : ∃ q : Nat, kk - 1 - i = q := ⟨(kk - 1 - i).toNat, by omega⟩
  have c1 := cell_of_blk i1 0
  have c2 := cell_of_blk i2 0
  have hqn : q < n := by omega
  have c3 := i3.cell hqn
  generalize s[q]'_ = old at c3
  have f3 := frozen_of_blk i3.2 q
  have H1 := Lib.hid i1
  have H2 := Lib.hid i2
  have H3 := Lib.hid i3
  have hqz : (q : Int) < (n : Int) := by omega
  have e0 : (kk - 1 - i).toNat = q := by omega
  simp only [e0]
  clear i1 i2 i3 e0
  go_enter Try.func78, Try.ntmps78
  go_wp2_with fail
  go_end0
  refine ⟨rfl, (Only.refl _ _).setCell (by simp) _, ?_, ?_, H3.out.set q true⟩
  · rw [Below.heap_setCell _ _ _ _ h1]; exact H1.out
  · rw [Below.heap_setCell _ _ _ _ h2]; exact H2.out
end Go.Proofs.Ytpbmlpngafpoeaa

/-
  Lemmas towards the law, 28: DrawFun, Ints, Cut, Draws, Defs.
-/
import Derived.Test.YtghmpdnlkldigaaGreatDoorFAC
import Derived.Test.YtghmpdnlkldigaaGreatDoorFAG
import Derived.Test.YtghmpdnlkldigaaGreatDoorFAP
import Derived.Test.YtghmpdnlkldigaaGreatDoorFAS
import Derived.Test.YtghmpdnlkldigaaGreatDoorFAY
import Derived.Test.YtghmpdnlkldigaaGreatDoorFAZ
import Derived.Test.YtghmpdnlkldigaaGreatDoorFBA
import Derived.Deep.DrawnRows
import Derived.Deep.RegionHeld3
import Derived.Deep.RegionLaw
import Derived.StillTailTactics
namespace Go.Proofs.YtghmpdnlkldigaaGreatDoor
open Go.RowKit
set_option linter.unusedVariables false
theorem Rd.ext {w w' : World} {g m : Nat} (h : Rd w g m) (he : Ext w w') : Rd w' g m := by
  obtain ⟨A, cap, bs, p, hb, h1, h2, h3, h4, hB⟩ := h
  exact ⟨A, cap, bs, p, he.blk hb, h1, h2, h3, h4, hB.ext he⟩
theorem Rd.lt {w : World} {g m : Nat} (h : Rd w g m) : g < w.heap.size := by
  obtain ⟨A, cap, bs, p, hb, _⟩ := h
  exact lt_of_blk hb
theorem Rd.mono {w : World} {g m m' : Nat} (h : Rd w g m) (hm : m ≤ m') : Rd w g m' := by
  obtain ⟨A, cap, bs, p, hb, h1, h2, h3, h4, hB⟩ := h
  exact ⟨A, cap, bs, p, hb, h1, h2, h3, by omega, hB⟩
/-- A slice of ints that was built by append since W. -/
def GrowN (W w : World) (e : TypeId) (v : Value) (ns : List Int) : Prop := w.ownsRow W.heap.size e 1 v ns.length (ns.map (Value.int .i64))
theorem GrowN.only {W w w' : World} {e : TypeId} {v : Value} {ns : List Int} {L : List Nat} (h : GrowN W w e v ns) (ho : Only L w w') (hL : ∀ b, b ∈ L → b < W.heap.size) : GrowN W w' e v ns := by
  refine ⟨h.1, ?_⟩
  rcases h.2 with h | ⟨g, cap, cur, rfl, h1, h2, r⟩
  · exact .inl h
  · exact .inr ⟨g, cap, cur, rfl, h1, (ho.block g (lt_of_blk h2) (fun hm => by have := hL g hm; omega)).trans h2, r⟩
theorem Rd.grown {w w' : World} {g m : Nat} {row : Option Nat} (h : Rd w g m) (hg : w.grownBy w' row) (hr : ∀ k, row = some k → g < k) : Rd w' g m := by
  obtain ⟨A, cap, bs, p, hb, h1, h2, h3, h4, hB⟩ := h
  have hne : ∀ b, b ≤ g → some b ≠ row := fun b hb he => by have := hr b he.symm; omega
  exact ⟨A, cap, bs, p, (hg.block g (lt_of_blk hb) (hne g (Nat.le_refl _))).trans hb, h1, h2, h3, h4, hB.below hg.size (fun b hb hs => hg.block b hs (hne b (by omega)))⟩
theorem Only.grown {L : List Nat} {a w w' : World} {row : Option Nat} (h : Only L a w) (hg : w.grownBy w' row) (hr : ∀ k, row = some k → a.heap.size ≤ k) : Only L a w' :=
  ⟨hg.os.trans h.os, hg.tape.trans h.tape, hg.output.trans h.output, Nat.le_trans h.size hg.size, fun i hi hn => (hg.block i (Nat.lt_of_lt_of_le hi h.size) (fun he => by have := hr i he.symm; omega)).trans (h.block i hi hn)⟩
end Go.Proofs.YtghmpdnlkldigaaGreatDoor
namespace Go.Proofs.YtghmpdnlkldigaaGreatDoor
open Go.RowKit
set_option linter.unusedVariables false
/-- Numbers in a block of the call's own. -/
def OwnI (w : World) (e : TypeId) (A : Option Addr) (ns : List Int) (L : List Nat) : Prop :=
  (ns = [] ∧ L = []) ∨ ∃ b cs, A = some ⟨b, 0, none⟩ ∧ w.heap[b]? = some (.cells cs e (0, 0)) ∧ ns.length ≤ cs.size ∧ cs.toList.take ns.length = ns.map (Value.int .i64) ∧ L = [b]
theorem OwnI.mono {w w' : World} {e : TypeId} {A : Option Addr} {ns : List Int} {L : List Nat} (h : OwnI w e A ns L) (hw : ∀ b, b ∈ L → w'.heap[b]? = w.heap[b]?) : OwnI w' e A ns L := by
  rcases h with h | ⟨b, cs, rfl, hb, h1, h2, rfl⟩
  · exact .inl h
  · exact .inr ⟨b, cs, rfl, (hw b (by simp)).trans hb, h1, h2, rfl⟩
theorem GrowN.own {W w : World} {e : TypeId} {v : Value} {ns : List Int} (h : GrowN W w e v ns) : ∃ A cap L, v = .slice A ns.length cap ∧ ns.length ≤ cap ∧ cap ≤ maxLen ∧ OwnI w e A ns L ∧ Fresh W w L := by
  rcases h.2 with ⟨rfl, h0⟩ | ⟨g, cap, cur, rfl, hb, hg, hn, hm, hcs, ht⟩
  · obtain rfl : ns = [] := List.eq_nil_of_length_eq_zero h0
    exact ⟨none, 0, [], rfl, Nat.le_refl _, Nat.zero_le _, .inl ⟨rfl, rfl⟩, Fresh.nil _ _⟩
  · refine ⟨_, cap, [g], rfl, hn, hm, .inr ⟨g, cur, rfl, hg, by omega, by simpa using ht, rfl⟩, by simp, fun b hb' => ?_⟩
    obtain rfl := List.mem_singleton.1 hb'
    exact ⟨hb, lt_of_blk hg⟩
end Go.Proofs.YtghmpdnlkldigaaGreatDoor
namespace Go.Proofs.YtghmpdnlkldigaaGreatDoor
open Go.RowKit
set_option linter.unusedVariables false
/-- The pieces of a text between the bytes c; pre is the piece that is open. -/
def cutS (c : UInt8) : List UInt8 → List UInt8 → List (List UInt8)
  | pre, [] => [pre]
  | pre, x :: r => if x = c then pre :: cutS c [] r else cutS c (pre ++ [x]) r
def cutL (c : UInt8) (l : List UInt8) : List (List UInt8) := cutS c [] l
/-- The strings of a list of texts. -/
def strs (xs : List (List UInt8)) : List Value := xs.map fun l => .string (ofL l)
end Go.Proofs.YtghmpdnlkldigaaGreatDoor
namespace Go.Proofs.YtghmpdnlkldigaaGreatDoor
open Go.RowKit
set_option linter.unusedVariables false
attribute [local go_sem ↓] Go.wp_at_zero Go.wp_at_succ
theorem From.only {B : Nat} {w w' : World} {t : Tr} {v : Value} {L : List Nat} (h : From B w t v) (ho : Only L w w') (hL : ∀ b, b ∈ L → b < B) : From B w' t v :=
  h.mono (fun b hb => ⟨hb.1, Nat.lt_of_lt_of_le hb.2 ho.size⟩) (fun b hb => ho.block b hb.2 (fun hm => by have := hL b hm; omega))
theorem Rd.set {w : World} {g m : Nat} (h : Rd w g m) {p : Addr} (hp : g < p.block) (u : Value) : Rd (w.setCell p u) g m := by
  obtain ⟨A, cap, bs, q, hb, h1, h2, h3, h4, hB⟩ := h
  exact ⟨A, cap, bs, q, blk_setCell_ne hb (by omega) u, h1, h2, h3, h4, hB.below (by simp) (fun b hb _ => Below.heap_setCell w p u b (by omega))⟩
theorem Only.one (w : World) (g i : Nat) (u : Value) : Only [g] w (w.setCell ⟨g, i, none⟩ u) := (Only.refl [g] w).setCell (by simp) u
theorem Rd.under {w w' : World} {g m B : Nat} (h : Rd w g m) (hb : Below B w w') (hB : g < B) : Rd w' g m := by
  obtain ⟨A, cap, bs, q, hk, h1, h2, h3, h4, hy⟩ := h
  exact ⟨A, cap, bs, q, (hb.block g hB).trans hk, h1, h2, h3, h4, hy.below hb.size (fun b hlt _ => hb.block b (by omega))⟩
end Go.Proofs.YtghmpdnlkldigaaGreatDoor
namespace Go.Proofs.YtghmpdnlkldigaaGreatDoor
open Go.RowKit
set_option linter.unusedVariables false
/-- A definition's six cells, asked for in a later world. -/
theorem LiesK.getD {w w' : World} {A : Option Addr} {ks : List Tr} {j : Nat} (h : LiesK w A ks) (he : Ext w w') (hj : j * 2 + 1 < ks.length) :
    ∃ b o k1 n1 A1 p1 kids1 k2 n2 A2 p2 kids2, A = some ⟨b, o, none⟩ ∧ b < w.heap.size ∧ Hid (ks[j * 2] = .mk k1 n1 kids1) ∧ Hid (ks[j * 2 + 1] = .mk k2 n2 kids2) ∧
      (w'.cell? ⟨b, o + j * 6, none⟩ = some (.int .i64 k1) ∧ w'.cell? ⟨b, o + j * 6 + 1, none⟩ = some (.int .i64 n1) ∧ w'.cell? ⟨b, o + j * 6 + 2, none⟩ = some (.slice A1 kids1.length p1) ∧
      w'.cell? ⟨b, o + j * 6 + 3, none⟩ = some (.int .i64 k2) ∧ w'.cell? ⟨b, o + j * 6 + 4, none⟩ = some (.int .i64 n2) ∧ w'.cell? ⟨b, o + j * 6 + 5, none⟩ = some (.slice A2 kids2.length p2)) ∧
      (kids1.length ≤ p1 ∧ p1 ≤ maxLen ∧ LiesK w' A1 kids1 ∧ Lies w' (.mk k1 n1 kids1) (.agg #[.int .i64 k1, .int .i64 n1, .slice A1 kids1.length p1]) ∧ Tr.mk k1 n1 kids1 ∈ ks) ∧
      (kids2.length ≤ p2 ∧ p2 ≤ maxLen ∧ LiesK w' A2 kids2 ∧ Lies w' (.mk k2 n2 kids2) (.agg #[.int .i64 k2, .int .i64 n2, .slice A2 kids2.length p2]) ∧ Tr.mk k2 n2 kids2 ∈ ks) := by
  obtain ⟨b, o, k1, n1, A1, p1, kids1, rfl, HK1, c0, c1, c2, r1⟩ := h.get (j := j * 2) he (by omega)
  obtain ⟨b', o', k2, n2, A2, p2, kids2, e, HK2, d0, d1, d2, r2⟩ := h.get (j := j * 2 + 1) he hj
  obtain ⟨rfl, rfl⟩ : b = b' ∧ o = o' := by cases e; exact ⟨rfl, rfl⟩
  rw [show o + j * 2 * 3 = o + j * 6 by omega] at c0 c1 c2
  rw [show o + (j * 2 + 1) * 3 = o + j * 6 + 3 by omega] at d0 d1 d2
  have hb : b < w.heap.size := by
    rcases h with h | ⟨b', o', e, hb, -⟩
    · rw [h] at hj; simp at hj
    · cases e; exact hb
  exact ⟨b, o, k1, n1, A1, p1, kids1, k2, n2, A2, p2, kids2, rfl, hb, HK1, HK2, ⟨c0, c1, c2, d0, d1, d2⟩, r1, r2⟩
end Go.Proofs.YtghmpdnlkldigaaGreatDoor

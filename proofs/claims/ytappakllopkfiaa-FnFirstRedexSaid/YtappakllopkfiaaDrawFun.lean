/-
  l10Fun, DrawFunValue: some function, some numbers.
-/
import Derived.Test.YtappakllopkfiaaDraw
import Derived.Test.YtappakllopkfiaaGrow
namespace Go.Proofs.Ytappakllopkfiaa
open Go.RowKit
set_option linter.unusedVariables false

theorem nums_of_row {w : World} {g : Nat} {cs : Array Value} {e : TypeId} {ns : List Int} (hb : w.heap[g]? = some (.cells cs e (0, 0))) (hc : cs.toList = ns.map (Value.int .i64)) : Nums w (some ⟨g, 0, none⟩) ns := by
  refine .inr ⟨g, 0, rfl, lt_of_blk hb, fun j hj => ?_⟩
  rw [cell_of_blk hb, ← Array.getElem?_toList, hc, Nat.zero_add, List.getElem?_map, List.getElem?_eq_getElem hj]
  rfl
theorem Rd.ext {w w' : World} {g m : Nat} (h : Rd w g m) (he : Ext w w') : Rd w' g m := by
  obtain ⟨A, cap, bs, p, hb, h1, h2, h3, h4, hB⟩ := h
  exact ⟨A, cap, bs, p, he.blk hb, h1, h2, h3, h4, hB.ext he⟩
theorem Rd.lt {w : World} {g m : Nat} (h : Rd w g m) : g < w.heap.size := by
  obtain ⟨A, cap, bs, p, hb, _⟩ := h
  exact lt_of_blk hb
theorem Rd.mono {w : World} {g m m' : Nat} (h : Rd w g m) (hm : m ≤ m') : Rd w g m' := by
  obtain ⟨A, cap, bs, p, hb, h1, h2, h3, h4, hB⟩ := h
  exact ⟨A, cap, bs, p, hb, h1, h2, h3, by omega, hB⟩

/-- A slice of ints that was built by append since W. -/
def GrowN (W w : World) (e : TypeId) (v : Value) (ns : List Int) : Prop := w.ownsRow W.heap.size e 1 v ns.length (ns.map (Value.int .i64))
theorem GrowN.nums {W w : World} {e : TypeId} {v : Value} {ns : List Int} (h : GrowN W w e v ns) : ∃ A cap, v = .slice A ns.length cap ∧ ns.length ≤ cap ∧ cap ≤ maxLen ∧ Nums w A ns := by
  have hc := fun g hg => h.cells (g := g) hg
  have hlt := h.lt
  rcases h.2 with ⟨rfl, h0⟩ | ⟨g, cap, cur, rfl, hb, hg, hn, hm, _⟩
  · obtain rfl : ns = [] := List.eq_nil_of_length_eq_zero h0
    exact ⟨none, 0, rfl, Nat.le_refl _, Nat.zero_le _, .inl rfl⟩
  · refine ⟨_, cap, rfl, hn, hm, .inr ⟨g, 0, rfl, lt_of_blk hg, fun j hj => ?_⟩⟩
    have := hc g rfl j (.int .i64 ns[j]) (by rw [List.getElem?_map, List.getElem?_eq_getElem hj]; rfl)
    rwa [Addr.add_lit] at this
theorem GrowN.only {W w w' : World} {e : TypeId} {v : Value} {ns : List Int} {L : List Nat} (h : GrowN W w e v ns) (ho : Only L w w') (hL : ∀ b, b ∈ L → b < W.heap.size) : GrowN W w' e v ns := by
  refine ⟨h.1, ?_⟩
  rcases h.2 with h | ⟨g, cap, cur, rfl, h1, h2, r⟩
  · exact .inl h
  · exact .inr ⟨g, cap, cur, rfl, h1, (ho.block g (lt_of_blk h2) (fun hm => by have := hL g hm; omega)).trans h2, r⟩

theorem Rd.grown {w w' : World} {g m : Nat} {row : Option Nat} (h : Rd w g m) (hg : w.grownBy w' row) (hr : ∀ k, row = some k → g < k) : Rd w' g m := by
  obtain ⟨A, cap, bs, p, hb, h1, h2, h3, h4, hB⟩ := h
  have hne : ∀ b, b ≤ g → some b ≠ row := fun b hb he => by have := hr b he.symm; omega
  exact ⟨A, cap, bs, p, (hg.block g (lt_of_blk hb) (hne g (Nat.le_refl _))).trans hb, h1, h2, h3, h4, hB.below hg.size (fun b hb hs => hg.block b hs (hne b (by omega)))⟩
theorem Only.grown {L : List Nat} {a w w' : World} {row : Option Nat} (h : Only L a w) (hg : w.grownBy w' row) (hr : ∀ k, row = some k → a.heap.size ≤ k) : Only L a w' :=
  ⟨hg.os.trans h.os, hg.tape.trans h.tape, hg.output.trans h.output, Nat.le_trans h.size hg.size, fun i hi hn => (hg.block i (Nat.lt_of_lt_of_le hi h.size) (fun he => by have := hr i he.symm; omega)).trans (h.block i hi hn)⟩

theorem fits2 {f a b : Int} (hf : f = 1 ∨ f = 2 ∨ f = 4) (ha0 : 0 ≤ a) (ha1 : a ≤ 20) (hb0 : 0 ≤ b) (hb1 : b ≤ 20) : fits f [a, b] = true := by
  unfold fits arity
  rw [if_pos hf]
  simp [inR, ha0, ha1, hb0, hb1]
theorem fits1 {f a : Int} (hf : f = 3 ∨ f = 5 ∨ f = 6) (ha0 : 0 ≤ a) (ha1 : a ≤ 20) : fits f [a] = true := by
  unfold fits arity
  rw [if_neg (by omega), if_pos hf]
  simp [inR, ha0, ha1]
theorem funVal_plus {a b : Int} (ha0 : 0 ≤ a) (ha1 : a ≤ 20) (hb0 : 0 ≤ b) (hb1 : b ≤ 20) : funVal 1 [a, b] = (a + b, true) := by
  unfold funVal; rw [fits2 (.inl rfl) ha0 ha1 hb0 hb1]; rfl
theorem funVal_times {a b : Int} (ha0 : 0 ≤ a) (ha1 : a ≤ 20) (hb0 : 0 ≤ b) (hb1 : b ≤ 20) : funVal 2 [a, b] = (a * b, true) := by
  unfold funVal; rw [fits2 (.inr (.inl rfl)) ha0 ha1 hb0 hb1]; rfl
theorem funVal_minus {a b : Int} (ha0 : 0 ≤ a) (ha1 : a ≤ 20) (hb0 : 0 ≤ b) (hb1 : b ≤ 20) : funVal 4 [a, b] = (if a < b then 0 else a - b, true) := by
  unfold funVal; rw [fits2 (.inr (.inr rfl)) ha0 ha1 hb0 hb1]; rfl
theorem funVal_double {a : Int} (ha0 : 0 ≤ a) (ha1 : a ≤ 20) : funVal 6 [a] = (2 * a, true) := by
  unfold funVal; rw [fits1 (.inr (.inr rfl)) ha0 ha1]; rfl
theorem funVal_zero {a : Int} (ha0 : 0 ≤ a) (ha1 : a ≤ 20) : funVal 5 [a] = (if a = 0 then 1 else 0, true) := by
  unfold funVal; rw [fits1 (.inr (.inl rfl)) ha0 ha1]; rfl


theorem infoInt : (Try.prog.info? 3).map (fun i => (i.zero, i.size, i.bytes)) = some (some (.int .i64 0), 1, 8) := by kernel_rfl

end Go.Proofs.Ytappakllopkfiaa

/-
  laws.markIntS, heldIntS: a slice of numbers of the call's own is written, and looked at.
-/
import Derived.Test.YtappakllopkfiaaToInt
import Derived.Test.YtappakllopkfiaaDrawFun
import Derived.Test.YtappakllopkfiaaMem
namespace Go.Proofs.Ytappakllopkfiaa
open Go.RowKit
set_option linter.unusedVariables false

/-- Numbers in a block of the call's own. -/
def OwnI (w : World) (e : TypeId) (A : Option Addr) (ns : List Int) (L : List Nat) : Prop :=
  (ns = [] ∧ L = []) ∨ ∃ b cs, A = some ⟨b, 0, none⟩ ∧ w.heap[b]? = some (.cells cs e (0, 0)) ∧ ns.length ≤ cs.size ∧ cs.toList.take ns.length = ns.map (Value.int .i64) ∧ L = [b]
theorem OwnI.mono {w w' : World} {e : TypeId} {A : Option Addr} {ns : List Int} {L : List Nat} (h : OwnI w e A ns L) (hw : ∀ b, b ∈ L → w'.heap[b]? = w.heap[b]?) : OwnI w' e A ns L := by
  rcases h with h | ⟨b, cs, rfl, hb, h1, h2, rfl⟩
  · exact .inl h
  · exact .inr ⟨b, cs, rfl, (hw b (by simp)).trans hb, h1, h2, rfl⟩
theorem OwnI.nums {w : World} {e : TypeId} {A : Option Addr} {ns : List Int} {L : List Nat} (h : OwnI w e A ns L) : Nums w A ns := by
  rcases h with ⟨h, _⟩ | ⟨b, cs, rfl, hb, h1, h2, rfl⟩
  · exact .inl h
  · refine .inr ⟨b, 0, rfl, lt_of_blk hb, fun j hj => ?_⟩
    have h3 : (cs.toList.take ns.length)[j]? = some (.int .i64 ns[j]) := by rw [h2, List.getElem?_map, List.getElem?_eq_getElem hj]; rfl
    rw [List.getElem?_take, if_pos hj] at h3
    rw [cell_of_blk hb, ← Array.getElem?_toList, Nat.zero_add]
    exact h3
theorem GrowN.own {W w : World} {e : TypeId} {v : Value} {ns : List Int} (h : GrowN W w e v ns) : ∃ A cap L, v = .slice A ns.length cap ∧ ns.length ≤ cap ∧ cap ≤ maxLen ∧ OwnI w e A ns L ∧ Fresh W w L := by
  rcases h.2 with ⟨rfl, h0⟩ | ⟨g, cap, cur, rfl, hb, hg, hn, hm, hcs, ht⟩
  · obtain rfl : ns = [] := List.eq_nil_of_length_eq_zero h0
    exact ⟨none, 0, [], rfl, Nat.le_refl _, Nat.zero_le _, .inl ⟨rfl, rfl⟩, Fresh.nil _ _⟩
  · refine ⟨_, cap, [g], rfl, hn, hm, .inr ⟨g, cur, rfl, hg, by omega, by simpa using ht, rfl⟩, by simp, fun b hb' => ?_⟩
    obtain rfl := List.mem_singleton.1 hb'
    exact ⟨hb, lt_of_blk hg⟩
/-- What marking writes. -/
def mkI : Nat → Int → List Int
  | 0, _ => []
  | n + 1, k => k :: mkI n (k + 1)
theorem mkI_len : ∀ (n : Nat) (k : Int), (mkI n k).length = n
  | 0, _ => rfl
  | n + 1, k => by simp [mkI, mkI_len n]
theorem mkI_get : ∀ (n : Nat) (k : Int) (j : Nat) (h : j < n), (mkI n k)[j]'(by rw [mkI_len]; exact h) = k + j
  | n + 1, k, 0, h => by simp [mkI]
  | n + 1, k, j + 1, h => by
    simp only [mkI, List.getElem_cons_succ]
    rw [mkI_get n (k + 1) j (by omega)]
    omega
theorem mkI_snoc : ∀ (n : Nat) (k : Int), mkI (n + 1) k = mkI n k ++ [k + n]
  | 0, k => by simp [mkI]
  | n + 1, k => by
    rw [show mkI (n + 1 + 1) k = k :: mkI (n + 1) (k + 1) from rfl, mkI_snoc n (k + 1)]
    simp only [mkI, List.cons_append]
    congr 3
    omega
theorem takeSet1 (cs : Array Value) (j : Nat) (h : j < cs.size) (v : Value) : (cs.setIfInBounds j v).toList.take (j + 1) = cs.toList.take j ++ [v] := by
  have h2 : j < (cs.setIfInBounds j v).toList.length := by simpa using h
  rw [← List.take_append_getElem h2]
  simp only [Array.toList_setIfInBounds]
  rw [List.take_set_of_le (Nat.le_refl _)]
  simp
end Go.Proofs.Ytappakllopkfiaa

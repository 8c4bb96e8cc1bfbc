/-
  laws.markIntS, heldIntS: a slice of numbers of the call's own is written, and looked at.
-/
import Derived.Test.YtpbmlpngafpoeaaToInt
import Derived.Test.YtpbmlpngafpoeaaDrawFun
import Derived.Test.YtpbmlpngafpoeaaMem
namespace Go.Proofs.Ytpbmlpngafpoeaa
open Go.RowKit
set_option linter.unusedVariables false

/-- Numbers in a block of the call's own. -/
def OwnI (w : World) (e : TypeId) (A : Option Addr) (ns : List Int) (L : List Nat) : Prop :=
  (ns = [] ∧ L = []) ∨ ∃ b cs, A = some ⟨b, 0, none⟩ ∧ w.heap[b]? = some (.cells cs e (0, 0)) ∧ ns.length ≤ cs.size ∧ cs.toList.take ns.length = ns.map (Value.int .i64) ∧ L = [b]
theorem OwnI.mono {w w' : World} {e : TypeId} {A : Option Addr} {ns : List Int} {L : List Nat} (h : OwnI w e A ns L) (hw : ∀ b, b ∈ L → w'.heap[b]? = w.heap[b]?) : OwnI w' e A ns L := by
  rcases h with h | ⟨b, cs, rfl, hb, h1, h2, rfl⟩
  · exact .inl h
  · exact .inr ⟨b, cs, rfl, (hw b (by simp)).trans hb, h1, h2, rfl⟩
theorem OwnI.nums {w : World} {e : TypeId} {A : Option Addr} {ns : List Int} {L : List Nat} (h : OwnI w e A ns L) : Nums w A ns := by
  rcases h with ⟨h, _⟩ | ⟨b, cs, rfl, hb, h1, h2, rfl⟩
  · exact .inl h
  · refine .inr ⟨b, 0, rfl, lt_of_blk hb, fun j hj => ?_⟩
    have h3 : (cs.toList.take ns.length)[j]? = some (.int .i64 ns[j]) := by rw [h2, List.getElem?_map, List.getElem?_eq_getElem hj]; rfl
    rw [List.getElem?_take, if_pos hj] at h3
    rw [cell_of_blk hb, ← Array.getElem?_toList, Nat.zero_add]
    exact h3
theorem GrowN.own {W w : World} {e : TypeId} {v : Value} {ns : List Int} (h : GrowN W w e v ns) : ∃ A cap L, v = .slice A ns.length cap ∧ ns.length ≤ cap ∧ cap ≤ maxLen ∧ OwnI w e A ns L ∧ Fresh W w L := by
  rcases h.2 with ⟨rfl, h0⟩ | ⟨g, cap, cur, rfl, hb, hg, hn, hm, hcs, ht⟩
  · obtain rfl : ns = [] := List.eq_nil_of_length_eq_zero h0
    exact ⟨none, 0, [], rfl, Nat.le_refl _, Nat.zero_le _, .inl ⟨rfl, rfl⟩, Fresh.nil _ _⟩
  · refine ⟨_, cap, [g], rfl, hn, hm, .inr ⟨g, cur, rfl, hg, by omega, by simpa using ht, rfl⟩, by simp, fun b hb' => ?_⟩
    obtain rfl := List.mem_singleton.1 hb'
    exact ⟨hb, lt_of_blk hg⟩
/-- What marking writes. -/
def mkI : Nat → Int → List Int
  | 0, _ => []
  | n + 1, k => k :: mkI n (k + 1)
theorem mkI_len : ∀ (n : Nat) (k : Int), (mkI n k).length = n
  | 0, _ => rfl
  | n + 1, k => by simp [mkI, mkI_len n]
theorem mkI_get : ∀ (n : Nat) (k : Int) (j : Nat) (h : j < n), (mkI n k)[j]'(by rw [mkI_len]; exact h) = k + j
  | n + 1, k, 0, h => by simp [mkI]
  | n + 1, k, j + 1, h => by
    simp only [mkI, List.getElem_cons_succ]
    rw [mkI_get n (k + 1) j (by omega)]
    omega
theorem mkI_snoc : ∀ (n : Nat) (k : Int), mkI (n + 1) k = mkI n k ++ [k + n]
  | 0, k => by simp [mkI]
  | n + 1, k => by
    rw [show mkI (n + 1 + 1) k = k :: mkI (n + 1) (k + 1) from rfl, mkI_snoc n (k + 1)]
    simp only [mkI, List.cons_append]
    congr 3
    omega
theorem takeSet1 (cs : Array Value) (j : Nat) (h : j < cs.size) (v : Value) : (cs.setIfInBounds j v).toList.take (j + 1) = cs.toList.take j ++ [v] := by
  have h2 : j < (cs.setIfInBounds j v).toList.length := by simpa using h
  rw [← List.take_append_getElem h2]
  simp only [Array.toList_setIfInBounds]
  rw [List.take_set_of_le (Nat.le_refl _)]
  simp
set_option maxHeartbeats 400000 in
theorem markIntS_any (ns : List Int) (w : World) (A : Option Addr) (cap : Nat) (L : List Nat) (k : Int) (hO : OwnI w 3 A ns L) (hl : ns.length ≤ cap) (hc : cap ≤ maxLen) (hk0 : 0 ≤ k) (hk1 : k + ns.length ≤ 4611686018427387904) :
    Calls Try.prog 31 #[.slice A ns.length cap, .int .i64 k] w fun e w' => e = .returned (.int .i64 (k + ns.length)) ∧ OwnI w' 3 A (mkI ns.length k) L ∧ Only L w w' := by
  have hc' := hc
  unfold maxLen at hc'
  rcases hO with ⟨rfl, rfl⟩ | ⟨g, cs0, rfl, hb0, h1, h2, rfl⟩
  · go_enter Try.func31, Try.ntmps31
    go_wp2_with fail
    refine wp_loop_rounds 1 ?_
    rw [rounds_succ]
    go_wp2_with fail
    go_ret
    exact ⟨by simp, .inl ⟨rfl, rfl⟩, Only.refl _ _⟩
  · have HB := Lib.hid hb0
    have H1 := Lib.hid h1
    clear hb0 h2
    go_enter Try.func31, Try.ntmps31
    go_wp2_with fail
    go_loopw [1, 5] (fun q i wr => ∃ (j : Nat) (cs : Array Value), j ≤ ns.length ∧ i = .int .i64 j ∧ q = .int .i64 (k + j) ∧ wr.heap[g]? = some (.cells cs 3 (0, 0)) ∧ cs.size = cs0.size ∧ cs.toList.take j = (mkI j k).map (Value.int .i64) ∧ Only [g] w wr) (fun _ i _ => ns.length - (intOf i).toNat)
    case atStart => exact ⟨0, cs0, Nat.zero_le _, rfl, by simp, HB.out, rfl, by simp [mkI], Only.refl _ _⟩
    case round =>
      obtain ⟨j, cs, hj, rfl, rfl, hblk, hsz, htk, hon⟩ := hrel
      by_cases hlt : j < ns.length
      · have hj' : (j : Int) < (ns.length : Int) := by omega
        have g0 : wr.cell? ⟨g, j, none⟩ = some (cs[j]'(by omega)) := by rw [cell_of_blk hblk]; exact Array.getElem?_eq_getElem _
        have f0 := frozen_of_blk hblk j
        have hts := takeSet1 cs j (by omega) (.int .i64 (k + j))
        generalize cs[j]'_ = old at g0
        have HB2 := Lib.hid hblk
        have HS := Lib.hid hsz
        have HT := Lib.hid htk
        have HTS := Lib.hid hts
        clear hblk hsz htk hts
        go_wp2_with fail
        go_roundw
        case rel => exact ⟨j + 1, cs.setIfInBounds j (.int .i64 (k + j)), by omega, by go_num, by rw [show k + ((j + 1 : Nat) : Int) = k + j + 1 by omega], blk_setCell HB2.out j _, by rw [Array.size_setIfInBounds]; exact HS.out, by rw [HTS.out, HT.out, mkI_snoc, List.map_append]; rfl, hon.setCell (by simp) _⟩
        case measure => simp [intOf]; omega
      · go_wp2_with fail
        go_ret
        have hjk : j = ns.length := by omega
        subst hjk
        exact ⟨rfl, .inr ⟨g, cs, rfl, hblk, by rw [mkI_len]; omega, by rw [mkI_len]; exact htk, rfl⟩, hon⟩
theorem heldIntS_any (n : Nat) (w : World) (A : Option Addr) (cap : Nat) (k : Int) (h : Nums w A (mkI n k)) (hl : n ≤ cap) (hc : cap ≤ maxLen) (hk0 : 0 ≤ k) (hk1 : k + n ≤ 4611686018427387904) :
    Calls Try.prog 32 #[.slice A n cap, .int .i64 k] w fun e w' => e = .returned (.int .i64 (k + n)) ∧ Ext w w' := by
  have hc' := hc
  unfold maxLen at hc'
  go_enter Try.func32, Try.ntmps32
  go_wp2_with fail
  go_loopw [1, 5] (fun q i wr => ∃ (j : Nat), j ≤ n ∧ i = .int .i64 j ∧ q = .int .i64 (k + j) ∧ Ext w wr) (fun _ i _ => n - (intOf i).toNat)
  case atStart => exact ⟨0, Nat.zero_le _, rfl, by simp, Ext.refl _⟩
  case round =>
    obtain ⟨j, hj, rfl, rfl, hx⟩ := hrel
    by_cases hlt : j < n
    · obtain ⟨b, o, rfl, c0⟩ := h.get hx (j := j) (by rw [mkI_len]; exact hlt)
      rw [mkI_get n k j hlt] at c0
      have hj' : (j : Int) < (n : Int) := by omega
      have hb : (k + (j : Int) != k + (j : Int)) = false := by simp
      go_wp2_with fail
      go_roundw
      case rel => exact ⟨j + 1, by omega, by go_num, by rw [show k + ((j + 1 : Nat) : Int) = k + j + 1 by omega], hx⟩
      case measure => simp [intOf]; omega
    · go_wp2_with fail
      go_ret
      exact ⟨by rw [show (j : Int) = n by omega]; rfl, hx⟩
end Go.Proofs.Ytpbmlpngafpoeaa

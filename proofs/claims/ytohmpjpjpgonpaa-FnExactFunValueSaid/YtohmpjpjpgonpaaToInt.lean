/-
  laws.toIntS, laws.eqIntS.
-/
import Derived.Test.YtohmpjpjpgonpaaNums
import Derived.StillTailTactics
namespace Go.Proofs.Ytohmpjpjpgonpaa
open Go.RowKit
set_option linter.unusedVariables false

theorem infoInt : (Try.prog.info? 3).map (fun i => (i.zero, i.size, i.bytes)) = some (some (.int .i64 0), 1, 8) := by kernel_rfl

theorem take_set1 (cs : Array Value) (j : Nat) (h : j < cs.size) (v : Value) : (cs.setIfInBounds j v).toList.take (j + 1) = cs.toList.take j ++ [v] := by
  simp only [Array.toList_setIfInBounds]
  rw [List.take_succ_eq_append_getElem (by simpa using h)]
  congr 1
  · rw [List.take_set_of_le (Nat.le_refl _)]
  · simp

set_option maxHeartbeats 400000 in
theorem toIntS_any (ns : List Int) (w : World) (A : Option Addr) (cap : Nat) (h : Nums w A ns) (hl : ns.length ≤ cap) (hc : cap ≤ maxLen) (hn : ns.length ≤ 1048576) :
    Calls Try.prog 28 #[.slice A ns.length cap] w fun e w' => ∃ cs, e = .returned (.slice (some ⟨w.heap.size, 0, none⟩) ns.length ns.length) ∧ w'.heap[w.heap.size]? = some (.cells cs 3 (0, 0)) ∧ cs.toList = ns.map (Value.int .i64) ∧ Ext w w' := by
  have hc' := hc
  unfold maxLen at hc'
  obtain ⟨i0, hi, hz0, hz1, hz2⟩ := info_parts infoInt
  have hmk := fun W => run_make_rowN (P := Try.prog) 42 3 i0 _ Try.underlying42 hi hz0 .i64 .i64 ns.length ns.length (Nat.le_refl _) (by rw [hz2]; omega) (by omega) W
  rw [hz1, Nat.mul_one] at hmk
  go_enter Try.func28, Try.ntmps28
  go_wp2_with fail
  generalize hw2 : w.alloc _ = w2
  have he0 : Ext w w2 := hw2 ▸ (Ext.refl w).alloc _
  have hblk : w2.heap[w.heap.size]? = some (.cells (madeCells (Value.cells (.int .i64 0)) ns.length) 3 (0, 0)) := hw2 ▸ heap_alloc_new w _
  have hsz0 := size_madeCells (Value.cells (.int .i64 0)) ns.length
  generalize madeCells _ ns.length = cs0 at hblk hsz0
  have HB := Lib.hid hblk
  have HS := Lib.hid hsz0
  clear hblk hsz0 hmk hw2 hi hz0 hz1 hz2
  go_loopw [4] (fun i wr => ∃ (j : Nat) (cs : Array Value), j ≤ ns.length ∧ i = .int .i64 j ∧ wr.heap[w.heap.size]? = some (.cells cs 3 (0, 0)) ∧ cs.size = ns.length ∧ cs.toList.take j = (ns.take j).map (Value.int .i64) ∧ Ext w wr) (fun i _ => ns.length - (intOf i).toNat)
  case atStart => exact ⟨0, cs0, Nat.zero_le _, rfl, HB.out, HS.out, by simp, he0⟩
  case round =>
    obtain ⟨j, cs, hj, rfl, hblk, hsz, hO, he⟩ := hrel
    by_cases hlt : j < ns.length
    · obtain ⟨b, o, rfl, c0⟩ := h.get he hlt
      have hns : ns.take (j + 1) = ns.take j ++ [ns[j]] := (List.take_append_getElem hlt).symm
      generalize ns[j] = q at c0 hns
      have hts := take_set1 cs j (by omega) (.int .i64 q)
      have g0 : wr.cell? ⟨w.heap.size, j, none⟩ = some (cs[j]'(by omega)) := by rw [cell_of_blk hblk]; exact Array.getElem?_eq_getElem _
      have f0 := frozen_of_blk hblk j
      generalize cs[j]'_ = old at g0
      have HB := Lib.hid hblk
      have HS := Lib.hid hsz
      have HO := Lib.hid hO
      have HN := Lib.hid hns
      have HT := Lib.hid hts
      clear hblk hsz hO hns hts
      go_wp2_with fail
      go_roundw
      case rel => exact ⟨j + 1, cs.setIfInBounds j (.int .i64 q), by omega, by go_num, blk_setCell HB.out j _, by rw [Array.size_setIfInBounds]; exact HS.out, by rw [HT.out, HO.out, HN.out, List.map_append]; rfl, he.setCell (Nat.le_refl _) _⟩
      case measure => simp [intOf]; omega
    · go_wp2_with fail
      go_ret
      have hjk : j = ns.length := by omega
      subst hjk
      rw [List.take_of_length_le (by rw [Array.length_toList]; omega), List.take_of_length_le (Nat.le_refl _)] at hO
      exact ⟨cs, rfl, hblk, hO, he⟩
theorem nums_of_blk {w : World} {g : Nat} {cs : Array Value} {e : TypeId} {ns : List Int} (hb : w.heap[g]? = some (.cells cs e (0, 0))) (hc : cs.toList = ns.map (Value.int .i64)) : Nums w (some ⟨g, 0, none⟩) ns := by
  refine .inr ⟨g, 0, rfl, lt_of_blk hb, fun j hj => ?_⟩
  rw [cell_of_blk hb, ← Array.getElem?_toList, hc, Nat.zero_add, List.getElem?_map, List.getElem?_eq_getElem hj]
  rfl
set_option maxRecDepth 100000 in
set_option maxHeartbeats 400000 in
theorem eqIntS_any (ns ms : List Int) (w : World) (A A' : Option Addr) (cap cap' : Nat) (h : Nums w A ns) (hl : ns.length ≤ cap) (hc : cap ≤ maxLen) (h' : Nums w A' ms) (hl' : ms.length ≤ cap') (hc' : cap' ≤ maxLen) :
    Calls Try.prog 30 #[.slice A ns.length cap, .slice A' ms.length cap'] w fun e w' => e = .returned (.bool (decide (ns = ms))) ∧ Ext w w' := by
  unfold maxLen at hc hc'
  by_cases h0 : ns.length = ms.length
  · have hd : ((ns.length : Int) != (ms.length : Int)) = false := by rw [h0]; simp
    have H0 := Lib.hid h0
    clear h0
    go_enter Try.func30, Try.ntmps30
    go_wp2_with fail
    go_loopw [5] (fun i wr => ∃ j : Nat, j ≤ ns.length ∧ i = .int .i64 j ∧ (ns = ms ↔ ns.drop j = ms.drop j) ∧ Ext w wr) (fun i _ => ns.length - (intOf i).toNat)
    case atStart => exact ⟨0, Nat.zero_le _, rfl, Iff.rfl, Ext.refl _⟩
    case round =>
      obtain ⟨j, hj, rfl, heq, he⟩ := hrel
      by_cases hlt : j < ns.length
      · have hlt' : j < ms.length := by rw [← H0.out]; exact hlt
        obtain ⟨b, o, rfl, c0⟩ := h.get he hlt
        obtain ⟨b', o', rfl, c0'⟩ := h'.get he hlt'
        have hst : ns.drop j = ms.drop j ↔ ns[j] = ms[j] ∧ ns.drop (j + 1) = ms.drop (j + 1) := by
          rw [List.drop_eq_getElem_cons hlt, List.drop_eq_getElem_cons hlt', List.cons.injEq]
        generalize ns[j] = p at c0 hst
        generalize ms[j] = q at c0' hst
        have hj0 : (0 : Int) ≤ (j : Int) := Int.natCast_nonneg _
        have hj1 : (j : Int) < (ns.length : Int) := by omega
        have hj2 : (j : Int) < (ms.length : Int) := by omega
        by_cases hpq : p = q
        · have d1 : (p != q) = false := by simp [hpq]
          have hn := heq.trans (hst.trans ⟨fun x => x.2, fun x => ⟨hpq, x⟩⟩)
          have HN := Lib.hid hn
          clear heq hst hn hpq
          go_wp2_with fail
          go_quiet (fail)
          go_wp2_with fail
          go_roundw
          case rel => exact ⟨j + 1, by omega, by go_num, HN.out, he.drewN _⟩
          case measure => simp [intOf]; omega
        · have d1 : (p != q) = true := by rw [bne_iff_ne]; exact hpq
          have hn : decide (ns = ms) = false := decide_eq_false fun x => hpq (hst.1 (heq.1 x)).1
          have HN := Lib.hid hn
          clear heq hst hn hpq
          go_wp2_with fail
          go_quiet (fail)
          go_wp2_with fail
          go_ret
          exact ⟨by rw [HN.out]; rfl, he.drewN _⟩
      · have hn : decide (ns = ms) = true := decide_eq_true (heq.2 (by rw [List.drop_of_length_le (by omega), List.drop_of_length_le (by rw [← H0.out]; omega)]))
        have HN := Lib.hid hn
        clear heq hn
        go_wp2_with fail
        go_ret
        exact ⟨by rw [HN.out]; rfl, he⟩
  · have hd : ((ns.length : Int) != (ms.length : Int)) = true := by rw [bne_iff_ne]; omega
    have hn : decide (ns = ms) = false := decide_eq_false fun x => h0 (by rw [x])
    have HN := Lib.hid hn
    clear hn h0
    go_enter Try.func30, Try.ntmps30
    go_wp2_with fail
    go_ret
    exact ⟨by rw [HN.out]; rfl, Ext.refl _⟩
end Go.Proofs.Ytohmpjpjpgonpaa

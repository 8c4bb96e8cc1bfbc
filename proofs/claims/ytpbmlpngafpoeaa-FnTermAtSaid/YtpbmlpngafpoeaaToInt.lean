/-
  laws.toIntS, laws.eqIntS.
-/
import Derived.Test.YtpbmlpngafpoeaaNums
import Derived.StillTailTactics
namespace Go.Proofs.Ytpbmlpngafpoeaa
open Go.RowKit
set_option linter.unusedVariables false

set_option maxRecDepth 100000 in
set_option maxHeartbeats 400000 in
theorem eqIntS_any (ns ms : List Int) (w : World) (A A' : Option Addr) (cap cap' : Nat) (h : Nums w A ns) (hl : ns.length ≤ cap) (hc : cap ≤ maxLen) (h' : Nums w A' ms) (hl' : ms.length ≤ cap') (hc' : cap' ≤ maxLen) :
    Calls Try.prog 28 #[.slice A ns.length cap, .slice A' ms.length cap'] w fun e w' => e = .returned (.bool (decide (ns = ms))) ∧ Ext w w' := by
  unfold maxLen at hc hc'
  by_cases h0 : ns.length = ms.length
  · have hd : ((ns.length : Int) != (ms.length : Int)) = false := by rw [h0]; simp
    have H0 := Lib.hid h0
    clear h0
    go_enter Try.func28, Try.ntmps28
    go_wp2_with fail
    go_loopw [5] (fun i wr => ∃ j : Nat, j ≤ ns.length ∧ i = .int .i64 j ∧ (ns = ms ↔ ns.drop j = ms.drop j) ∧ Ext w wr) (fun i _ => ns.length - (intOf i).toNat)
    case atStart => exact ⟨0, Nat.zero_le _, rfl, Iff.rfl, Ext.refl _⟩
    case round =>
      obtain ⟨j, hj, rfl, heq, he⟩ := hrel
      by_cases hlt : j < ns.length
      · have hlt' : j < ms.length := by rw [← H0.out]; exact hlt
        obtain ⟨b, o, rfl, c0⟩ := h.get he hlt
        obtain ⟨b', o', rfl, c0'⟩ := h'.get he hlt'
        have hst : ns.drop j = ms.drop j ↔ ns[j] = ms[j] ∧ ns.drop (j + 1) = ms.drop (j + 1) := by
          rw [List.drop_eq_getElem_cons hlt, List.drop_eq_getElem_cons hlt', List.cons.injEq]
        generalize ns[j] = p at c0 hst
        generalize ms[j] = q at c0' hst
        have hj0 : (0 : Int) ≤ (j : Int) := Int.natCast_nonneg _
        have hj1 : (j : Int) < (ns.length : Int) := by omega
        have hj2 : (j : Int) < (ms.length : Int) := by omega
        by_cases hpq : p = q
        · have d1 : (p != q) = false := by simp [hpq]
          have hn := heq.trans (hst.trans ⟨fun x => x.2, fun x => ⟨hpq, x⟩⟩)
          have HN := Lib.hid hn
          clear heq hst hn hpq
          go_wp2_with fail
          go_quiet (fail)
          go_wp2_with fail
          go_roundw
          case rel => exact ⟨j + 1, by omega, by go_num, HN.out, he.drewN _⟩
          case measure => simp [intOf]; omega
        · have d1 : (p != q) = true := by rw [bne_iff_ne]; exact hpq
          have hn : decide (ns = ms) = false := decide_eq_false fun x => hpq (hst.1 (heq.1 x)).1
          have HN := Lib.hid hn
          clear heq hst hn hpq
          go_wp2_with fail
          go_quiet (fail)
          go_wp2_with fail
          go_ret
          exact ⟨by rw [HN.out]; rfl, he.drewN _⟩
      · have hn : decide (ns = ms) = true := decide_eq_true (heq.2 (by rw [List.drop_of_length_le (by omega), List.drop_of_length_le (by rw [← H0.out]; omega)]))
        have HN := Lib.hid hn
        clear heq hn
        go_wp2_with fail
        go_ret
        exact ⟨by rw [HN.out]; rfl, he⟩
  · have hd : ((ns.length : Int) != (ms.length : Int)) = true := by rw [bne_iff_ne]; omega
    have hn : decide (ns = ms) = false := decide_eq_false fun x => h0 (by rw [x])
    have HN := Lib.hid hn
    clear hn h0
    go_enter Try.func28, Try.ntmps28
    go_wp2_with fail
    go_ret
    exact ⟨by rw [HN.out]; rfl, Ext.refl _⟩
end Go.Proofs.Ytpbmlpngafpoeaa

/-
  Numeral: the program's and the reference's; DrawNumeral; what is extracted of a numeral.
-/
import Derived.Test.YtappakllopkfiaaRunValue
import Derived.Test.YtappakllopkfiaaSpExtract
import Derived.Test.YtappakllopkfiaaNum
namespace Go.Proofs.Ytappakllopkfiaa
open Go.RowKit
set_option linter.unusedVariables false

/-- The program of a number. -/
def codNum : Nat → Tr
  | 0 => .mk 4 0 []
  | n + 1 => .mk 5 0 [codNum n]
theorem numFacts : ∀ n : Fin 21, valid sigT (numTr n) = true ∧ exT (numTr n) = codNum n ∧ valid sigC (codNum n) = true ∧ opnC (codNum n) 0 = false ∧ isV (codNum n) = true ∧ numV sigC 5 4 (codNum n) = (((n : Nat) : Int), true) ∧ cntV sigC (codNum n) = ((n : Nat) : Int) + 1 := by
  decide +kernel

/-- What Numeral answers. -/
def numAns (n : Int) : Tr × Bool := if 0 ≤ n ∧ n ≤ 20 then (numTr n.toNat, true) else (.mk 0 0 [], false)
theorem numAns_bad {n : Int} (h : ¬ (0 ≤ n ∧ n ≤ 20)) : numAns n = (.mk 0 0 [], false) := if_neg h
theorem numAns_good {n : Nat} (h : n ≤ 20) : numAns n = (numTr n, true) := by
  unfold numAns
  rw [if_pos ⟨by omega, by omega⟩]
  simp

theorem numeralAns_any (n : Int) (w : World) : Calls Try.prog 27 #[.int .i64 n] w fun e w' => ∃ u, e = .returned (.tuple #[u, .bool (numAns n).2]) ∧ Made w w' 44 (numAns n).1 u ∧ Ext w w' := by
  by_cases hg : 0 ≤ n ∧ n ≤ 20
  · obtain ⟨m, rfl⟩ := Int.eq_ofNat_of_zero_le hg.1
    have hm : m ≤ 20 := by omega
    rw [numAns_good hm]
    have d : inR (m : Int) 0 20 = true := by unfold inR; simp; omega
    go_enter Try.func27, Try.ntmps27
    go_wp2_with (go_at_call 65; refine (within_any _ _ _ _).mono ?_; rw [d]; rintro e w3 ⟨rfl, rfl⟩)
    refine (numeral_any m (by omega) _).mono ?_
    rintro e w1 ⟨u, rfl, hM, hE⟩
    obtain ⟨a1, a2, a3, a4, a5, rfl⟩ := hM.three
    obtain ⟨s0, s1, s2, f0, f1, f2⟩ := own3 (blk1 hE).1
    go_wp2_with fail
    refine bodyPost_ret (v := .tuple #[.agg #[.int .i64 a1, .int .i64 a2, .slice a3 a4 a5], .bool true]) (by simp [results, Try.results27, go_sem, s0, s1, s2]) rfl ⟨_, rfl, ?_, ?_⟩
    · exact Made.since (hM.after ((((Above.refl _ _).setCell (by simp) _).setCell (by simp) _).setCell (by simp) _)) (by simp)
    · exact ((((hE.pre).setCell (by simp) _).setCell (by simp) _).setCell (by simp) _)
  · rw [numAns_bad hg]
    have d : inR n 0 20 = false := by unfold inR; simp; omega
    go_enter Try.func27, Try.ntmps27
    go_wp2_with (go_at_call 65; refine (within_any _ _ _ _).mono ?_; rw [d]; rintro e w3 ⟨rfl, rfl⟩)
    exact bodyPost_ret (v := .tuple #[.agg #[.int .i64 0, .int .i64 0, .slice none 0 0], .bool false]) (by simp [results, Try.results27, go_sem]) rfl ⟨_, rfl, Made.leaf _ _ _ _ _, (Ext.refl w).alloc _⟩
end Go.Proofs.Ytappakllopkfiaa

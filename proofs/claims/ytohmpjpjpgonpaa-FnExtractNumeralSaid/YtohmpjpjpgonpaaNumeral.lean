/-
  Numeral: the program's and the reference's; DrawNumeral; what is extracted of a numeral.
-/
import Derived.Test.YtohmpjpjpgonpaaRunValue
import Derived.Test.YtohmpjpjpgonpaaSpExtract
import Derived.Test.YtohmpjpjpgonpaaNum
namespace Go.Proofs.Ytohmpjpjpgonpaa
open Go.RowKit
set_option linter.unusedVariables false

/-- The program of a number. -/
def codNum : Nat → Tr
  | 0 => .mk 4 0 []
  | n + 1 => .mk 5 0 [codNum n]
theorem numFacts : ∀ n : Fin 21, valid sigT (numTr n) = true ∧ exT (numTr n) = codNum n ∧ valid sigC (codNum n) = true ∧ opn (codNum n) 0 = false ∧ isV (codNum n) = true ∧ numV sigC 5 4 (codNum n) = (((n : Nat) : Int), true) ∧ cntV sigC (codNum n) = ((n : Nat) : Int) + 1 := by
  decide +kernel

/-- What Numeral answers. -/
def numAns (n : Int) : Tr × Bool := if 0 ≤ n ∧ n ≤ 20 then (numTr n.toNat, true) else (.mk 0 0 [], false)
theorem numAns_bad {n : Int} (h : ¬ (0 ≤ n ∧ n ≤ 20)) : numAns n = (.mk 0 0 [], false) := if_neg h
theorem numAns_good {n : Nat} (h : n ≤ 20) : numAns n = (numTr n, true) := by
  unfold numAns
  rw [if_pos ⟨by omega, by omega⟩]
  simp

theorem numeralAns_any (n : Int) (w : World) : Calls Try.prog 50 #[.int .i64 n] w fun e w' => ∃ u, e = .returned (.tuple #[u, .bool (numAns n).2]) ∧ Made w w' 36 (numAns n).1 u ∧ Ext w w' := by
  by_cases hg : 0 ≤ n ∧ n ≤ 20
  · obtain ⟨m, rfl⟩ := Int.eq_ofNat_of_zero_le hg.1
    have hm : m ≤ 20 := by omega
    rw [numAns_good hm]
    have d : inR (m : Int) 0 20 = true := by unfold inR; simp; omega
    go_enter Try.func50, Try.ntmps50
    go_wp2_with (go_at_call 88; refine (within_any _ _ _ _).mono ?_; rw [d]; rintro e w3 ⟨rfl, rfl⟩)
    refine (numeral_any m (by omega) _).mono ?_
    rintro e w1 ⟨u, rfl, hM, hE⟩
    obtain ⟨a1, a2, a3, a4, a5, rfl⟩ := hM.three
    obtain ⟨s0, s1, s2, f0, f1, f2⟩ := own3 (blk1 hE).1
    go_wp2_with fail
    refine bodyPost_ret (v := .tuple #[.agg #[.int .i64 a1, .int .i64 a2, .slice a3 a4 a5], .bool true]) (by simp [results, Try.results50, go_sem, s0, s1, s2]) rfl ⟨_, rfl, ?_, ?_⟩
    · exact Made.since (hM.after ((((Above.refl _ _).setCell (by simp) _).setCell (by simp) _).setCell (by simp) _)) (by simp)
    · exact ((((hE.pre).setCell (by simp) _).setCell (by simp) _).setCell (by simp) _)
  · rw [numAns_bad hg]
    have d : inR n 0 20 = false := by unfold inR; simp; omega
    go_enter Try.func50, Try.ntmps50
    go_wp2_with (go_at_call 88; refine (within_any _ _ _ _).mono ?_; rw [d]; rintro e w3 ⟨rfl, rfl⟩)
    exact bodyPost_ret (v := .tuple #[.agg #[.int .i64 0, .int .i64 0, .slice none 0 0], .bool false]) (by simp [results, Try.results50, go_sem]) rfl ⟨_, rfl, Made.leaf _ _ _ _ _, (Ext.refl w).alloc _⟩
theorem specNumeralAns_any (n : Int) (w : World) : Calls Try.prog 51 #[.int .i64 n] w fun e w' => ∃ u, e = .returned (.tuple #[u, .bool (numAns n).2]) ∧ Lies w' (numAns n).1 u ∧ Ext w w' := by
  by_cases hg : 0 ≤ n ∧ n ≤ 20
  · obtain ⟨m, rfl⟩ := Int.eq_ofNat_of_zero_le hg.1
    have hm : m ≤ 20 := by omega
    rw [numAns_good hm]
    have d2 : decide ((m : Int) < 0) = false := by simp
    have d3 : decide ((20 : Int) < (m : Int)) = false := by simp; omega
    go_enter Try.func51, Try.ntmps51
    go_wp2_with fail
    refine (l1Numeral_any m (by omega) _).mono ?_
    rintro e w1 ⟨u, rfl, hM, hE⟩
    obtain ⟨a1, a2, a3, a4, a5, rfl⟩ := hM.three
    obtain ⟨s0, s1, s2, f0, f1, f2⟩ := own3 (blk1 hE).1
    go_wp2_with fail
    refine bodyPost_ret (v := .tuple #[.agg #[.int .i64 a1, .int .i64 a2, .slice a3 a4 a5], .bool true]) (by simp [results, Try.results51, go_sem, s0, s1, s2]) rfl ⟨_, rfl, ?_, ?_⟩
    · exact New.lies (hM.after ((((Above.refl _ _).setCell (by simp) _).setCell (by simp) _).setCell (by simp) _))
    · exact ((((hE.pre).setCell (by simp) _).setCell (by simp) _).setCell (by simp) _)
  · rw [numAns_bad hg]
    by_cases h0 : n < 0
    · have d2 : decide (n < 0) = true := decide_eq_true h0
      go_enter Try.func51, Try.ntmps51
      go_wp2_with fail
      exact bodyPost_ret (v := .tuple #[.agg #[.int .i64 0, .int .i64 0, .slice none 0 0], .bool false]) (by simp [results, Try.results51, go_sem]) rfl ⟨_, rfl, Lies.leaf _ _ _, (Ext.refl w).alloc _⟩
    · have d2 : decide (n < 0) = false := decide_eq_false h0
      have d3 : decide (20 < n) = true := decide_eq_true (by omega)
      go_enter Try.func51, Try.ntmps51
      go_wp2_with fail
      exact bodyPost_ret (v := .tuple #[.agg #[.int .i64 0, .int .i64 0, .slice none 0 0], .bool false]) (by simp [results, Try.results51, go_sem]) rfl ⟨_, rfl, Lies.leaf _ _ _, (Ext.refl w).alloc _⟩
theorem drawNumeral_any (w : World) (A : Option Addr) (cap : Nat) (bs : List Int) (hl : bs.length ≤ cap) (hc : cap ≤ maxLen) (hB : Bytes w w.heap.size A bs) : Calls Try.prog 49 #[.slice A bs.length cap] w fun e w' =>
    ∃ x : Int, e = .returned (.int .i64 x) ∧ Ext w w' := by
  go_enter Try.func49, Try.ntmps49
  go_wp2_with fail
  refine (l19Open_any w A cap bs hl hc hB).mono ?_
  rintro e w1 ⟨rfl, hR, h1⟩
  have hlt := hR.lt
  go_wp2_with fail
  refine (num_any _ _ 0 (hR.ext ((Ext.refl w1).alloc _)) (by omega) _ 8 [0, 1, 2, 3, 20, 21, -1, 9223372036854775807] (by simp) (by decide) (by simp) (nums_of_row (heap_alloc_new w1 _) rfl) (by intro b o hb; simp at hb; omega)).mono ?_
  rintro e w2 ⟨x, rfl, hx, hR2, ho⟩
  go_wp2_with fail
  go_ret
  exact ⟨x, rfl, (((Only.refl _ _).alloc _).trans ho).ext h1 (by intro b hb; simp at hb; omega)⟩
end Go.Proofs.Ytohmpjpjpgonpaa

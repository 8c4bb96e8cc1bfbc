/-
  FunValue: the program's and the reference's.
-/
import Derived.Test.YtohmpjpjpgonpaaNums
import Derived.Outline
namespace Go.Proofs.Ytohmpjpjpgonpaa
open Go.RowKit
set_option linter.unusedVariables false

set_option maxHeartbeats 2000000 in
theorem funValue_any (f : Int) (ns : List Int) (w : World) (A : Option Addr) (cap : Nat) (hl : ns.length ≤ cap) (hc : cap ≤ maxLen) (h : Nums w A ns) :
    Calls Try.prog 29 #[.int .i64 f, .slice A ns.length cap] w fun e w' => e = .returned (.tuple #[.int .i64 (funVal f ns).1, .bool (funVal f ns).2]) ∧ Ext w w' := by
  have HA := Lib.hid (areArgs_any f ns w A cap hl hc h)
  obtain ⟨z, hz⟩ : ∃ z, fits f ns = z := ⟨_, rfl⟩
  rw [hz] at HA
  cases z with
  | false =>
    have e : funVal f ns = (0, false) := by unfold funVal; rw [hz]; rfl
    have E := Lib.hid e
    clear e hz
    go_enter Try.func29, Try.ntmps29
    go_wp2_with fail
    refine HA.out.mono ?_
    rintro e w1 ⟨rfl, h1⟩
    go_wp2_with fail
    go_ret2
    exact ⟨by rw [E.out]; rfl, h1⟩
  | true =>
    rcases fits_true hz with ⟨a, b, rfl, ha0, ha1, hb0, hb1, hf⟩ | ⟨a, rfl, ha0, ha1, hf⟩
    · rcases hf with rfl | rfl | rfl
      · have e : funVal 1 [a, b] = (a + b, true) := by unfold funVal; rw [hz]; rfl
        have E := Lib.hid e
        clear e hz
        go_enter Try.func29, Try.ntmps29
        go_wp2_with fail
        refine HA.out.mono ?_
        rintro e w1 ⟨rfl, h1⟩
        obtain ⟨b1, o1, rfl, c0⟩ := h.get h1 (j := 0) (by simp)
        obtain ⟨b2, o2, e2, c1⟩ := h.get h1 (j := 1) (by simp)
        injection e2 with e2
        injection e2 with e3 e4
        subst e3 e4
        simp only [List.getElem_cons_zero, List.getElem_cons_succ, Nat.add_zero] at c0 c1
        clear HA
        go_wp2_with fail
        all_goals go_ret2
        all_goals exact ⟨by rw [E.out]; first | rfl | (simp; done) | (simp; omega) | omega, h1⟩
      · have hab0 : 0 ≤ a * b := Int.mul_nonneg ha0 hb0
        have hab1 : a * b ≤ 400 := Int.le_trans (Int.mul_le_mul ha1 hb1 hb0 (by omega)) (by omega)
        have e : funVal 2 [a, b] = (a * b, true) := by unfold funVal; rw [hz]; rfl
        have E := Lib.hid e
        clear e hz
        go_enter Try.func29, Try.ntmps29
        go_wp2_with fail
        refine HA.out.mono ?_
        rintro e w1 ⟨rfl, h1⟩
        obtain ⟨b1, o1, rfl, c0⟩ := h.get h1 (j := 0) (by simp)
        obtain ⟨b2, o2, e2, c1⟩ := h.get h1 (j := 1) (by simp)
        injection e2 with e2
        injection e2 with e3 e4
        subst e3 e4
        simp only [List.getElem_cons_zero, List.getElem_cons_succ, Nat.add_zero] at c0 c1
        clear HA
        go_wp2_with fail
        all_goals go_ret2
        all_goals exact ⟨by rw [E.out]; first | rfl | (simp; done) | (simp; omega) | omega, h1⟩
      · by_cases hlt : a < b
        · have d1 : decide (a < b) = true := decide_eq_true hlt
          have e : funVal 4 [a, b] = (0, true) := by unfold funVal; rw [hz]; show (if a < b then 0 else a - b, true) = _; rw [if_pos hlt]
          have E := Lib.hid e
          clear e hz
          go_enter Try.func29, Try.ntmps29
          go_wp2_with fail
          refine HA.out.mono ?_
          rintro e w1 ⟨rfl, h1⟩
          obtain ⟨b1, o1, rfl, c0⟩ := h.get h1 (j := 0) (by simp)
          obtain ⟨b2, o2, e2, c1⟩ := h.get h1 (j := 1) (by simp)
          injection e2 with e2
          injection e2 with e3 e4
          subst e3 e4
          simp only [List.getElem_cons_zero, List.getElem_cons_succ, Nat.add_zero] at c0 c1
          clear HA
          go_wp2_with fail
          all_goals go_ret2
          all_goals exact ⟨by rw [E.out]; first | rfl | (simp; done) | (simp; omega) | omega, h1⟩
        · have d1 : decide (a < b) = false := decide_eq_false hlt
          have e : funVal 4 [a, b] = (a - b, true) := by unfold funVal; rw [hz]; show (if a < b then 0 else a - b, true) = _; rw [if_neg hlt]
          have E := Lib.hid e
          clear e hz
          go_enter Try.func29, Try.ntmps29
          go_wp2_with fail
          refine HA.out.mono ?_
          rintro e w1 ⟨rfl, h1⟩
          obtain ⟨b1, o1, rfl, c0⟩ := h.get h1 (j := 0) (by simp)
          obtain ⟨b2, o2, e2, c1⟩ := h.get h1 (j := 1) (by simp)
          injection e2 with e2
          injection e2 with e3 e4
          subst e3 e4
          simp only [List.getElem_cons_zero, List.getElem_cons_succ, Nat.add_zero] at c0 c1
          clear HA
          go_wp2_with fail
          all_goals go_ret2
          all_goals exact ⟨by rw [E.out]; first | rfl | (simp; done) | (simp; omega) | omega, h1⟩
    · rcases hf with rfl | rfl | rfl
      · by_cases h0 : a = 0
        · subst h0
          have e : funVal 3 [0] = (0, true) := by unfold funVal; rw [hz]; rfl
          have E := Lib.hid e
          clear e hz
          go_enter Try.func29, Try.ntmps29
          go_wp2_with fail
          refine HA.out.mono ?_
          rintro e w1 ⟨rfl, h1⟩
          obtain ⟨b1, o1, rfl, c0⟩ := h.get h1 (j := 0) (by simp)
          simp only [List.getElem_cons_zero, Nat.add_zero] at c0
          clear HA
          go_wp2_with fail
          all_goals go_ret2
          all_goals exact ⟨by rw [E.out]; first | rfl | (simp; done) | (simp; omega) | omega, h1⟩
        · have d1 : (a == 0) = false := by rw [beq_eq_false_iff_ne]; exact h0
          have e : funVal 3 [a] = (a - 1, true) := by unfold funVal; rw [hz]; show (if a = 0 then 0 else a - 1, true) = _; rw [if_neg h0]
          have E := Lib.hid e
          clear e hz
          go_enter Try.func29, Try.ntmps29
          go_wp2_with fail
          refine HA.out.mono ?_
          rintro e w1 ⟨rfl, h1⟩
          obtain ⟨b1, o1, rfl, c0⟩ := h.get h1 (j := 0) (by simp)
          simp only [List.getElem_cons_zero, Nat.add_zero] at c0
          clear HA
          go_wp2_with fail
          all_goals go_ret2
          all_goals exact ⟨by rw [E.out]; first | rfl | (simp; done) | (simp; omega) | omega, h1⟩
      · by_cases h0 : a = 0
        · subst h0
          have e : funVal 5 [0] = (1, true) := by unfold funVal; rw [hz]; rfl
          have E := Lib.hid e
          clear e hz
          go_enter Try.func29, Try.ntmps29
          go_wp2_with fail
          refine HA.out.mono ?_
          rintro e w1 ⟨rfl, h1⟩
          obtain ⟨b1, o1, rfl, c0⟩ := h.get h1 (j := 0) (by simp)
          simp only [List.getElem_cons_zero, Nat.add_zero] at c0
          clear HA
          go_wp2_with fail
          all_goals go_ret2
          all_goals exact ⟨by rw [E.out]; first | rfl | (simp; done) | (simp; omega) | omega, h1⟩
        · have d1 : (a == 0) = false := by rw [beq_eq_false_iff_ne]; exact h0
          have e : funVal 5 [a] = (0, true) := by unfold funVal; rw [hz]; show (if a = 0 then 1 else 0, true) = _; rw [if_neg h0]
          have E := Lib.hid e
          clear e hz
          go_enter Try.func29, Try.ntmps29
          go_wp2_with fail
          refine HA.out.mono ?_
          rintro e w1 ⟨rfl, h1⟩
          obtain ⟨b1, o1, rfl, c0⟩ := h.get h1 (j := 0) (by simp)
          simp only [List.getElem_cons_zero, Nat.add_zero] at c0
          clear HA
          go_wp2_with fail
          all_goals go_ret2
          all_goals exact ⟨by rw [E.out]; first | rfl | (simp; done) | (simp; omega) | omega, h1⟩
      · have e : funVal 6 [a] = (2 * a, true) := by unfold funVal; rw [hz]; rfl
        have E := Lib.hid e
        clear e hz
        go_enter Try.func29, Try.ntmps29
        go_wp2_with fail
        refine HA.out.mono ?_
        rintro e w1 ⟨rfl, h1⟩
        obtain ⟨b1, o1, rfl, c0⟩ := h.get h1 (j := 0) (by simp)
        simp only [List.getElem_cons_zero, Nat.add_zero] at c0
        clear HA
        go_wp2_with fail
        all_goals go_ret2
        all_goals exact ⟨by rw [E.out]; first | rfl | (simp; done) | (simp; omega) | omega, h1⟩

set_option maxHeartbeats 400000 in
theorem specFits (f : Int) (ns : List Int) (w : World) (A : Option Addr) (cap : Nat) (hl : ns.length ≤ cap) (hc : cap ≤ maxLen) (h : Nums w A ns) :
    Calls Try.prog 66 #[.int .i64 f, .slice A ns.length cap] w fun e w' => e = .returned (.bool (fits f ns)) ∧ Ext w w' := by
  unfold maxLen at hc
  go_enter Try.func66, Try.ntmps66
  go_wp2_with fail
  go_loopw [5] (fun i wr => ∃ j : Nat, j ≤ ns.length ∧ i = .int .i64 j ∧ ns.all (fun n => inR n 0 20) = (ns.drop j).all (fun n => inR n 0 20) ∧ Ext w wr) (fun i _ => ns.length - (intOf i).toNat)
  case atStart => exact ⟨0, Nat.zero_le _, rfl, rfl, Ext.refl _⟩
  case round =>
    obtain ⟨j, hj, rfl, heq, hx⟩ := hrel
    by_cases hlt : j < ns.length
    · obtain ⟨b, o, rfl, c0⟩ := h.get hx hlt
      have hst : (ns.drop j).all (fun n => inR n 0 20) = (inR ns[j] 0 20 && (ns.drop (j + 1)).all (fun n => inR n 0 20)) := by
        rw [List.drop_eq_getElem_cons hlt, List.all_cons]
      rw [hst] at heq
      generalize ns[j] = q at heq c0
      have hf : inR q 0 20 = false → fits f ns = false := fun h => by
        unfold fits
        rw [heq, h]
        simp
      have hj0 : (0 : Int) ≤ (j : Int) := Int.natCast_nonneg _
      have hj1 : (j : Int) < (ns.length : Int) := by omega
      by_cases h1 : q < 0
      · have d1 : decide (q < 0) = true := decide_eq_true h1
        have HF := Lib.hid (hf (inR_false.2 (.inl h1)))
        clear heq hst hf
        go_wp2_with fail
        go_ret
        exact ⟨by rw [HF.out]; rfl, hx⟩
      · have d1 : decide (q < 0) = false := decide_eq_false h1
        by_cases h2 : 20 < q
        · have d2 : decide (20 < q) = true := decide_eq_true h2
          have HF := Lib.hid (hf (inR_false.2 (.inr h2)))
          clear heq hst hf
          go_wp2_with fail
          go_ret
          exact ⟨by rw [HF.out]; rfl, hx⟩
        · have d2 : decide (20 < q) = false := decide_eq_false h2
          rw [inR_iff.2 ⟨by omega, by omega⟩, Bool.true_and] at heq
          have HE := Lib.hid heq
          clear heq hst hf
          go_wp2_with fail
          go_roundw
          case rel => exact ⟨j + 1, by omega, by go_num, HE.out, hx⟩
          case measure => simp [intOf]; omega
    · rw [List.drop_of_length_le (by omega)] at heq
      have e : fits f ns = decide (arity f = (ns.length : Int)) := by unfold fits; rw [heq]; simp
      by_cases ha : arity f = (ns.length : Int)
      · rw [decide_eq_true ha] at e
        have E := Lib.hid e
        have d1 : (arity f == (ns.length : Int)) = true := by rw [ha]; simp
        clear e heq ha
        go_wp2_with fail
        refine (specArity _ _).mono ?_
        rintro e w1 ⟨rfl, rfl⟩
        go_wp2_with fail
        go_ret
        exact ⟨by rw [E.out]; rfl, hx⟩
      · rw [decide_eq_false ha] at e
        have E := Lib.hid e
        have d1 : (arity f == (ns.length : Int)) = false := by rw [beq_eq_false_iff_ne]; exact ha
        clear e heq ha
        go_wp2_with fail
        refine (specArity _ _).mono ?_
        rintro e w1 ⟨rfl, rfl⟩
        go_wp2_with fail
        go_ret
        exact ⟨by rw [E.out]; rfl, hx⟩

set_option maxHeartbeats 2000000 in
theorem specFunValue (f : Int) (ns : List Int) (w : World) (A : Option Addr) (cap : Nat) (hl : ns.length ≤ cap) (hc : cap ≤ maxLen) (h : Nums w A ns) :
    Calls Try.prog 27 #[.int .i64 f, .slice A ns.length cap] w fun e w' => e = .returned (.tuple #[.int .i64 (funVal f ns).1, .bool (funVal f ns).2]) ∧ Ext w w' := by
  have HA := Lib.hid (specFits f ns w A cap hl hc h)
  obtain ⟨z, hz⟩ : ∃ z, fits f ns = z := ⟨_, rfl⟩
  rw [hz] at HA
  cases z with
  | false =>
    have e : funVal f ns = (0, false) := by unfold funVal; rw [hz]; rfl
    have E := Lib.hid e
    clear e hz
    go_enter Try.func27, Try.ntmps27
    go_wp2_with fail
    refine HA.out.mono ?_
    rintro e w1 ⟨rfl, h1⟩
    go_wp2_with fail
    go_ret2
    exact ⟨by rw [E.out]; rfl, h1⟩
  | true =>
    rcases fits_true hz with ⟨a, b, rfl, ha0, ha1, hb0, hb1, hf⟩ | ⟨a, rfl, ha0, ha1, hf⟩
    · rcases hf with rfl | rfl | rfl
      · have e : funVal 1 [a, b] = (a + b, true) := by unfold funVal; rw [hz]; rfl
        have E := Lib.hid e
        clear e hz
        go_enter Try.func27, Try.ntmps27
        go_wp2_with fail
        refine HA.out.mono ?_
        rintro e w1 ⟨rfl, h1⟩
        obtain ⟨b1, o1, rfl, c0⟩ := h.get h1 (j := 0) (by simp)
        obtain ⟨b2, o2, e2, c1⟩ := h.get h1 (j := 1) (by simp)
        injection e2 with e2
        injection e2 with e3 e4
        subst e3 e4
        simp only [List.getElem_cons_zero, List.getElem_cons_succ, Nat.add_zero] at c0 c1
        clear HA
        go_wp2_with fail
        all_goals go_ret2
        all_goals exact ⟨by rw [E.out]; first | rfl | (simp; done) | (simp; omega) | omega, h1⟩
      · have hab0 : 0 ≤ a * b := Int.mul_nonneg ha0 hb0
        have hab1 : a * b ≤ 400 := Int.le_trans (Int.mul_le_mul ha1 hb1 hb0 (by omega)) (by omega)
        have e : funVal 2 [a, b] = (a * b, true) := by unfold funVal; rw [hz]; rfl
        have E := Lib.hid e
        clear e hz
        go_enter Try.func27, Try.ntmps27
        go_wp2_with fail
        refine HA.out.mono ?_
        rintro e w1 ⟨rfl, h1⟩
        obtain ⟨b1, o1, rfl, c0⟩ := h.get h1 (j := 0) (by simp)
        obtain ⟨b2, o2, e2, c1⟩ := h.get h1 (j := 1) (by simp)
        injection e2 with e2
        injection e2 with e3 e4
        subst e3 e4
        simp only [List.getElem_cons_zero, List.getElem_cons_succ, Nat.add_zero] at c0 c1
        clear HA
        go_wp2_with fail
        all_goals go_ret2
        all_goals exact ⟨by rw [E.out]; first | rfl | (simp; done) | (simp; omega) | omega, h1⟩
      · by_cases hlt : a < b
        · have d1 : decide (a < b) = true := decide_eq_true hlt
          have e : funVal 4 [a, b] = (0, true) := by unfold funVal; rw [hz]; show (if a < b then 0 else a - b, true) = _; rw [if_pos hlt]
          have E := Lib.hid e
          clear e hz
          go_enter Try.func27, Try.ntmps27
          go_wp2_with fail
          refine HA.out.mono ?_
          rintro e w1 ⟨rfl, h1⟩
          obtain ⟨b1, o1, rfl, c0⟩ := h.get h1 (j := 0) (by simp)
          obtain ⟨b2, o2, e2, c1⟩ := h.get h1 (j := 1) (by simp)
          injection e2 with e2
          injection e2 with e3 e4
          subst e3 e4
          simp only [List.getElem_cons_zero, List.getElem_cons_succ, Nat.add_zero] at c0 c1
          clear HA
          go_wp2_with fail
          all_goals go_ret2
          all_goals exact ⟨by rw [E.out]; first | rfl | (simp; done) | (simp; omega) | omega, h1⟩
        · have d1 : decide (a < b) = false := decide_eq_false hlt
          have e : funVal 4 [a, b] = (a - b, true) := by unfold funVal; rw [hz]; show (if a < b then 0 else a - b, true) = _; rw [if_neg hlt]
          have E := Lib.hid e
          clear e hz
          go_enter Try.func27, Try.ntmps27
          go_wp2_with fail
          refine HA.out.mono ?_
          rintro e w1 ⟨rfl, h1⟩
          obtain ⟨b1, o1, rfl, c0⟩ := h.get h1 (j := 0) (by simp)
          obtain ⟨b2, o2, e2, c1⟩ := h.get h1 (j := 1) (by simp)
          injection e2 with e2
          injection e2 with e3 e4
          subst e3 e4
          simp only [List.getElem_cons_zero, List.getElem_cons_succ, Nat.add_zero] at c0 c1
          clear HA
          go_wp2_with fail
          all_goals go_ret2
          all_goals exact ⟨by rw [E.out]; first | rfl | (simp; done) | (simp; omega) | omega, h1⟩
    · rcases hf with rfl | rfl | rfl
      · by_cases h0 : a = 0
        · subst h0
          have e : funVal 3 [0] = (0, true) := by unfold funVal; rw [hz]; rfl
          have E := Lib.hid e
          clear e hz
          go_enter Try.func27, Try.ntmps27
          go_wp2_with fail
          refine HA.out.mono ?_
          rintro e w1 ⟨rfl, h1⟩
          obtain ⟨b1, o1, rfl, c0⟩ := h.get h1 (j := 0) (by simp)
          simp only [List.getElem_cons_zero, Nat.add_zero] at c0
          clear HA
          go_wp2_with fail
          all_goals go_ret2
          all_goals exact ⟨by rw [E.out]; first | rfl | (simp; done) | (simp; omega) | omega, h1⟩
        · have d1 : (a == 0) = false := by rw [beq_eq_false_iff_ne]; exact h0
          have e : funVal 3 [a] = (a - 1, true) := by unfold funVal; rw [hz]; show (if a = 0 then 0 else a - 1, true) = _; rw [if_neg h0]
          have E := Lib.hid e
          clear e hz
          go_enter Try.func27, Try.ntmps27
          go_wp2_with fail
          refine HA.out.mono ?_
          rintro e w1 ⟨rfl, h1⟩
          obtain ⟨b1, o1, rfl, c0⟩ := h.get h1 (j := 0) (by simp)
          simp only [List.getElem_cons_zero, Nat.add_zero] at c0
          clear HA
          go_wp2_with fail
          all_goals go_ret2
          all_goals exact ⟨by rw [E.out]; first | rfl | (simp; done) | (simp; omega) | omega, h1⟩
      · by_cases h0 : a = 0
        · subst h0
          have e : funVal 5 [0] = (1, true) := by unfold funVal; rw [hz]; rfl
          have E := Lib.hid e
          clear e hz
          go_enter Try.func27, Try.ntmps27
          go_wp2_with fail
          refine HA.out.mono ?_
          rintro e w1 ⟨rfl, h1⟩
          obtain ⟨b1, o1, rfl, c0⟩ := h.get h1 (j := 0) (by simp)
          simp only [List.getElem_cons_zero, Nat.add_zero] at c0
          clear HA
          go_wp2_with fail
          all_goals go_ret2
          all_goals exact ⟨by rw [E.out]; first | rfl | (simp; done) | (simp; omega) | omega, h1⟩
        · have d1 : (a == 0) = false := by rw [beq_eq_false_iff_ne]; exact h0
          have e : funVal 5 [a] = (0, true) := by unfold funVal; rw [hz]; show (if a = 0 then 1 else 0, true) = _; rw [if_neg h0]
          have E := Lib.hid e
          clear e hz
          go_enter Try.func27, Try.ntmps27
          go_wp2_with fail
          refine HA.out.mono ?_
          rintro e w1 ⟨rfl, h1⟩
          obtain ⟨b1, o1, rfl, c0⟩ := h.get h1 (j := 0) (by simp)
          simp only [List.getElem_cons_zero, Nat.add_zero] at c0
          clear HA
          go_wp2_with fail
          all_goals go_ret2
          all_goals exact ⟨by rw [E.out]; first | rfl | (simp; done) | (simp; omega) | omega, h1⟩
      · have e : funVal 6 [a] = (2 * a, true) := by unfold funVal; rw [hz]; rfl
        have E := Lib.hid e
        clear e hz
        go_enter Try.func27, Try.ntmps27
        go_wp2_with fail
        refine HA.out.mono ?_
        rintro e w1 ⟨rfl, h1⟩
        obtain ⟨b1, o1, rfl, c0⟩ := h.get h1 (j := 0) (by simp)
        simp only [List.getElem_cons_zero, Nat.add_zero] at c0
        clear HA
        go_wp2_with fail
        all_goals go_ret2
        all_goals exact ⟨by rw [E.out]; first | rfl | (simp; done) | (simp; omega) | omega, h1⟩

end Go.Proofs.Ytohmpjpjpgonpaa

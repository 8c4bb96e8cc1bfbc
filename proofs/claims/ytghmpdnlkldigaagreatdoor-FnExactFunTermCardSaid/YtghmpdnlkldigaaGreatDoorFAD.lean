/-
  Lemmas towards the law, 4: Valid, WalkValid.
-/
import Derived.Test.YtghmpdnlkldigaaGreatDoorFAA
import Derived.Test.YtghmpdnlkldigaaGreatDoorFAC
import Derived.BigQuiet
import Derived.Deep.RegionHeld3
import Derived.Deep.RegionWith
import Derived.Outline
import Derived.StillTailTactics
import Derived.Test.YtghmpdnlkldigaaGreatDoorProg
namespace Go.Proofs.YtghmpdnlkldigaaGreatDoor
set_option linter.unusedVariables false
def inR (n lo hi : Int) : Bool := decide (lo ≤ n) && decide (n ≤ hi)
theorem inR_iff {n lo hi : Int} : inR n lo hi = true ↔ lo ≤ n ∧ n ≤ hi := by simp [inR]
theorem inR_false {n lo hi : Int} : inR n lo hi = false ↔ n < lo ∨ hi < n := by
  rw [Bool.eq_false_iff, Ne, inR_iff]
  omega
/-- The operands and the greatest N of a kind, for terms and for programs. -/
structure Sig where
  ops : Int → Int
  most : Int → Int
def opsT (k : Int) : Int := if k = 1 then 0 else if k = 2 then 0 else if k = 3 then 2 else if k = 4 then 2 else if k = 5 then 2 else if k = 6 then 0 else if k = 7 then 0 else if k = 8 then 1 else if k = 9 then 4 else if k = 10 then 3 else if k = 11 then 1 else if k = 12 then 3 else if k = 13 then 2 else if k = 14 then 3 else if k = 15 then 1 else if k = 16 then 1 else -1
def mostT (k : Int) : Int := if k = 1 then 20 else if k = 2 then 3 else 0
def sigT : Sig := ⟨opsT, mostT⟩
/-- The node by itself is in order. -/
def headOk (g : Sig) (k n : Int) (len : Nat) : Bool := decide (g.ops k = (len : Int)) && inR n 0 (g.most k)
mutual
def shape (g : Sig) : Tr → Int → Bool
  | .mk k n ks, depth => decide (1 ≤ depth) && (headOk g k n ks.length && shapes g ks (depth - 1))
def shapes (g : Sig) : List Tr → Int → Bool
  | [], _ => true
  | t :: ts, depth => shape g t depth && shapes g ts depth
end
def valid (g : Sig) (t : Tr) : Bool := shape g t 30 && decide (cnt t ≤ 400)
mutual
/-- Counting up to a number. -/
def cntM : Tr → Int → Int
  | .mk _ _ ks, most => cntMs ks most 1
def cntMs : List Tr → Int → Int → Int
  | [], _, n => n
  | t :: ts, most, n => if n ≤ most then cntMs ts most (n + cntM t (most - n)) else n
end
mutual
theorem cntM_le : ∀ (t : Tr) (most : Int), 0 ≤ most → 1 ≤ cntM t most ∧ cntM t most ≤ most + 1 ∧ (cntM t most ≤ most ↔ (cnt t : Int) ≤ most) ∧ (cntM t most ≤ most → cntM t most = cnt t)
  | .mk _ _ ks, most, h => by
    have := cntMs_le ks most 1 (by omega) (by omega)
    simp only [cntM, cnt]
    omega
theorem cntMs_le : ∀ (ts : List Tr) (most n : Int), 1 ≤ n → n ≤ most + 1 → n ≤ cntMs ts most n ∧ cntMs ts most n ≤ most + 1 ∧ (cntMs ts most n ≤ most ↔ n + cnts ts ≤ most) ∧ (cntMs ts most n ≤ most → cntMs ts most n = n + cnts ts)
  | [], most, n, h, h' => by simp only [cntMs, cnts]; omega
  | t :: ts, most, n, h, h' => by
    simp only [cntMs, cnts]
    by_cases hn : n ≤ most
    · rw [if_pos hn]
      have h1 := cntM_le t (most - n) (by omega)
      have h2 := cntMs_le ts most (n + cntM t (most - n)) (by omega) (by omega)
      have h3 := cnt_pos t
      omega
    · rw [if_neg hn]
      have h3 := cnt_pos t
      omega
end
theorem valid_iff {g : Sig} {t : Tr} : valid g t = (shape g t 30 && decide (cntM t 400 ≤ 400)) := by
  have := (cntM_le t 400 (by omega)).2.2.1
  unfold valid
  congr 1
  rw [Bool.eq_iff_iff, decide_eq_true_iff, decide_eq_true_iff]
  omega
mutual
/-- The other way of looking: a count that goes up, and stops. -/
def scanR (g : Sig) : Tr → Int → Int → Bool × Int
  | .mk k n ks, deep, c => if 400 < c + 1 then (false, c + 1) else if 30 < deep then (false, c + 1) else if g.ops k = (ks.length : Int) then (if inR n 0 (g.most k) = true then scanRs g ks (deep + 1) (c + 1) else (false, c + 1)) else (false, c + 1)
def scanRs (g : Sig) : List Tr → Int → Int → Bool × Int
  | [], _, c => (true, c)
  | t :: ts, deep, c => if (scanR g t deep c).1 = true then scanRs g ts deep (scanR g t deep c).2 else (false, (scanR g t deep c).2)
end
mutual
theorem scanR_spec (g : Sig) : ∀ (t : Tr) (deep c : Int), 0 ≤ c → c ≤ 400 → (scanR g t deep c).1 = (shape g t (31 - deep) && decide (c + cnt t ≤ 400)) ∧ ((scanR g t deep c).1 = true → (scanR g t deep c).2 = c + cnt t) ∧ c ≤ (scanR g t deep c).2 ∧ (scanR g t deep c).2 ≤ 401 ∧ ((scanR g t deep c).1 = true → (scanR g t deep c).2 ≤ 400)
  | .mk k n ks, deep, c, h, h' => by
    have hc : (cnt (.mk k n ks) : Int) = cnts ks + 1 := by simp [cnt]
    simp only [scanR, shape, headOk]
    by_cases h1 : 400 < c + 1
    · rw [if_pos h1]
      refine ⟨?_, by simp, by simp; omega, by simp; omega, by simp⟩
      symm
      rw [Bool.and_eq_false_iff]
      exact .inr (decide_eq_false (by omega))
    · rw [if_neg h1]
      by_cases h2 : 30 < deep
      · rw [if_pos h2]
        refine ⟨?_, by simp, by simp; omega, by simp; omega, by simp⟩
        symm
        rw [Bool.and_eq_false_iff, Bool.and_eq_false_iff]
        exact .inl (.inl (decide_eq_false (by omega)))
      · rw [if_neg h2]
        by_cases h3 : g.ops k = (ks.length : Int)
        · rw [if_pos h3]
          by_cases h4 : inR n 0 (g.most k) = true
          · rw [if_pos h4]
            obtain ⟨e1, e2, e3, e4, e5⟩ := scanRs_spec g ks (deep + 1) (c + 1) (by omega) (by omega)
            refine ⟨?_, fun hh => by rw [e2 hh]; omega, by omega, e4, e5⟩
            rw [e1, decide_eq_true h3, h4]
            have ed : 31 - (deep + 1) = 31 - deep - 1 := by omega
            have d1 : decide (1 ≤ 31 - deep) = true := decide_eq_true (by omega)
            rw [ed, d1]
            simp only [Bool.true_and]
            congr 1
            exact decide_eq_decide.2 (by omega)
          · rw [if_neg h4]
            refine ⟨?_, by simp, by simp; omega, by simp; omega, by simp⟩
            simp [h4]
        · rw [if_neg h3]
          refine ⟨?_, by simp, by simp; omega, by simp; omega, by simp⟩
          simp [h3]
theorem scanRs_spec (g : Sig) : ∀ (ts : List Tr) (deep c : Int), 0 ≤ c → c ≤ 400 → (scanRs g ts deep c).1 = (shapes g ts (31 - deep) && decide (c + cnts ts ≤ 400)) ∧ ((scanRs g ts deep c).1 = true → (scanRs g ts deep c).2 = c + cnts ts) ∧ c ≤ (scanRs g ts deep c).2 ∧ (scanRs g ts deep c).2 ≤ 401 ∧ ((scanRs g ts deep c).1 = true → (scanRs g ts deep c).2 ≤ 400)
  | [], deep, c, h, h' => by
    have hc : (cnts [] : Int) = 0 := by simp [cnts]
    have hd : decide (c + (cnts [] : Int) ≤ 400) = true := decide_eq_true (by omega)
    simp only [scanRs, shapes]
    refine ⟨by rw [hd]; rfl, by omega, by omega, by omega, by omega⟩
  | t :: ts, deep, c, h, h' => by
    have hc : (cnts (t :: ts) : Int) = cnt t + cnts ts := by simp [cnts]
    simp only [scanRs, shapes]
    obtain ⟨e1, e2, e3, e4, e5⟩ := scanR_spec g t deep c h h'
    by_cases hs : (scanR g t deep c).1 = true
    · rw [if_pos hs]
      have e2' := e2 hs
      have e5' := e5 hs
      obtain ⟨d1, d2, d3, d4, d5⟩ := scanRs_spec g ts deep (scanR g t deep c).2 (by omega) e5'
      refine ⟨?_, fun hh => by rw [d2 hh, e2']; omega, by omega, d4, d5⟩
      rw [d1]
      rw [hs] at e1
      have e1' := e1.symm
      rw [Bool.and_eq_true] at e1'
      rw [e1'.1]
      simp only [Bool.true_and]
      congr 1
      exact decide_eq_decide.2 (by omega)
    · rw [if_neg hs]
      refine ⟨?_, by simp, e3, e4, by simp⟩
      have hf : (scanR g t deep c).1 = false := by simpa using hs
      rw [hf] at e1
      have e1' := e1.symm
      rw [Bool.and_eq_false_iff] at e1'
      symm
      rw [Bool.and_eq_false_iff, Bool.and_eq_false_iff]
      rcases e1' with e1' | e1'
      · exact .inl (.inl e1')
      · have := of_decide_eq_false e1'
        exact .inr (decide_eq_false (by omega))
end
theorem scanR_valid (g : Sig) (t : Tr) : (scanR g t 1 0).1 = valid g t ∧ (valid g t = true → (scanR g t 1 0).2 = cnt t) := by
  obtain ⟨e1, e2, _⟩ := scanR_spec g t 1 0 (by omega) (by omega)
  have h : (scanR g t 1 0).1 = valid g t := by
    rw [e1]
    unfold valid
    have e : (31 : Int) - 1 = 30 := rfl
    rw [e]
    congr 1
    exact decide_eq_decide.2 (by omega)
  exact ⟨h, fun hv => by rw [e2 (h.trans hv)]; omega⟩
end Go.Proofs.YtghmpdnlkldigaaGreatDoor
namespace Go.Proofs.YtghmpdnlkldigaaGreatDoor
open Go.RowKit
set_option linter.unusedVariables false
theorem within_any (n lo hi : Int) (w : World) : Calls Tryz.prog 73 #[.int .i64 n, .int .i64 lo, .int .i64 hi] w fun e w' => e = .returned (.bool (inR n lo hi)) ∧ w = w' := by
  by_cases h1 : lo ≤ n
  · by_cases h2 : n ≤ hi
    · have e : inR n lo hi = true := inR_iff.2 ⟨h1, h2⟩
      have E := Lib.hid e
      have d1 : decide (lo ≤ n) = true := by simpa using h1
      have d2 : decide (n ≤ hi) = true := by simpa using h2
      clear e
      go_enter Tryz.func73, Tryz.ntmps73
      go_wp2_with fail
      go_ret
      exact ⟨by rw [E.out]; rfl, rfl⟩
    · have e : inR n lo hi = false := inR_false.2 (.inr (by omega))
      have E := Lib.hid e
      have d1 : decide (lo ≤ n) = true := by simpa using h1
      have d2 : decide (n ≤ hi) = false := by simpa using h2
      clear e
      go_enter Tryz.func73, Tryz.ntmps73
      go_wp2_with fail
      go_ret
      exact ⟨by rw [E.out]; rfl, rfl⟩
  · have e : inR n lo hi = false := inR_false.2 (.inl (by omega))
    have E := Lib.hid e
    have d1 : decide (lo ≤ n) = false := by simpa using h1
    clear e
    go_enter Tryz.func73, Tryz.ntmps73
    go_wp2_with fail
    go_ret
    exact ⟨by rw [E.out]; rfl, rfl⟩
theorem opsT_any (k : Int) (w : World) : Calls Tryz.prog 139 #[.int .i64 k] w fun e w' => e = .returned (.int .i64 (opsT k)) ∧ Ext w w' := by
  by_cases h1 : inR k 1 16 = true
  · have H1 := Lib.hid h1
    have h2 := inR_iff.1 h1
    clear h1
    have hcs : ∀ j : Nat, j < 16 → k = (j : Int) + 1 → Calls Tryz.prog 139 #[.int .i64 k] w fun e w' => e = .returned (.int .i64 (opsT k)) ∧ Ext w w' := by
      intro j hj hk
      subst hk
      have HX := H1
      go_enter Tryz.func139, Tryz.ntmps139
      go_wp2_with (go_at_call 73; refine (within_any _ _ _ _).mono ?_; rw [HX.out]; rintro e w1 ⟨rfl, rfl⟩)
      go_ret
      refine ⟨?_, (Ext.refl _).alloc _⟩
      rcases (by omega : j = 0 ∨ j = 1 ∨ j = 2 ∨ j = 3 ∨ j = 4 ∨ j = 5 ∨ j = 6 ∨ j = 7 ∨ j = 8 ∨ j = 9 ∨ j = 10 ∨ j = 11 ∨ j = 12 ∨ j = 13 ∨ j = 14 ∨ j = 15) with rfl | rfl | rfl | rfl | rfl | rfl | rfl | rfl | rfl | rfl | rfl | rfl | rfl | rfl | rfl | rfl <;> rfl
    exact hcs (k - 1).toNat (by omega) (by omega)
  · have h2 : inR k 1 16 = false := by simpa using h1
    have H2 := Lib.hid h2
    have h3 := inR_false.1 h2
    have e : opsT k = -1 := by
      unfold opsT
      repeat rw [if_neg (by omega)]
    have E := Lib.hid e
    clear h1 h2 e
    go_enter Tryz.func139, Tryz.ntmps139
    go_wp2_with (go_at_call 73; refine (within_any _ _ _ _).mono ?_; rw [H2.out]; rintro e w1 ⟨rfl, rfl⟩)
    go_ret
    exact ⟨by rw [E.out]; rfl, Ext.refl _⟩
theorem mostT_any (k : Int) (w : World) : Calls Tryz.prog 140 #[.int .i64 k] w fun e w' => e = .returned (.int .i64 (mostT k)) ∧ w = w' := by
  by_cases h1 : k = 1
  · have e : mostT k = 20 := by simp [mostT, h1]
    have E := Lib.hid e
    have d1 : (k == 1) = true := by simpa using h1
    clear e h1
    go_enter Tryz.func140, Tryz.ntmps140
    go_wp2_with fail
    go_ret
    exact ⟨by rw [E.out]; rfl, rfl⟩
  · have d1 : (k == 1) = false := by simpa using h1
    by_cases h2 : k = 2
    · have e : mostT k = 3 := by simp [mostT, h2]
      have E := Lib.hid e
      have d2 : (k == 2) = true := by simpa using h2
      clear e h1 h2
      go_enter Tryz.func140, Tryz.ntmps140
      go_wp2_with fail
      go_ret
      exact ⟨by rw [E.out]; rfl, rfl⟩
    · have e : mostT k = 0 := by simp [mostT, h1, h2]
      have E := Lib.hid e
      have d2 : (k == 2) = false := by simpa using h2
      clear e h1 h2
      go_enter Tryz.func140, Tryz.ntmps140
      go_wp2_with fail
      go_ret
      exact ⟨by rw [E.out]; rfl, rfl⟩
end Go.Proofs.YtghmpdnlkldigaaGreatDoor

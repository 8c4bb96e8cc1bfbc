/-
  Lemmas towards the law, 16: FmtP.
-/
import Derived.Test.YtenpknapajckbaaDoorQAJ
namespace Go.Proofs.YtenpknapajckbaaDoor
set_option linter.unusedVariables false
def opnP (k : Int) : List UInt8 := if k = 2 then [46] else if k = 3 then [40] else if k = 4 then [48] else if k = 5 then [43] else if k = 6 then [60] else if k = 7 then [124] else if k = 8 then [94] else if k = 9 then [95] else [63]
def sepP (k : Int) : List UInt8 := if k = 3 then [32] else [44]
def clsP (k : Int) : List UInt8 := if k = 3 then [41] else if k = 6 then [62] else if k = 7 then [124] else []
mutual
/-- The text of a program. -/
def fmtP : Tr → List UInt8
  | .mk k n ks => if k = 1 then 35 :: decL n else opnP k ++ fmtPK (sepP k) ks true ++ clsP k
/-- The texts of operands, with a sign between them. -/
def fmtPK : List UInt8 → List Tr → Bool → List UInt8
  | _, [], _ => []
  | s, t :: ts, f => (if f = true then [] else s) ++ fmtP t ++ fmtPK s ts false
end
theorem opnP_len (k : Int) : (opnP k).length ≤ 2 := by
  unfold opnP
  by_cases h2 : k = 2
  · rw [if_pos h2]; decide
  rw [if_neg h2]
  by_cases h3 : k = 3
  · rw [if_pos h3]; decide
  rw [if_neg h3]
  by_cases h4 : k = 4
  · rw [if_pos h4]; decide
  rw [if_neg h4]
  by_cases h5 : k = 5
  · rw [if_pos h5]; decide
  rw [if_neg h5]
  by_cases h6 : k = 6
  · rw [if_pos h6]; decide
  rw [if_neg h6]
  by_cases h7 : k = 7
  · rw [if_pos h7]; decide
  rw [if_neg h7]
  by_cases h8 : k = 8
  · rw [if_pos h8]; decide
  rw [if_neg h8]
  by_cases h9 : k = 9
  · rw [if_pos h9]; decide
  rw [if_neg h9]
  decide
theorem clsP_len (k : Int) : (clsP k).length ≤ 1 := by
  unfold clsP
  split
  · decide
  · split
    · decide
    · split <;> decide
theorem sepP_len (k : Int) : (sepP k).length = 1 := by
  unfold sepP
  split <;> rfl
mutual
theorem fmtP_len : ∀ t : Tr, (fmtP t).length + 1 ≤ 5 * cnt t
  | .mk k n ks => by
    have h1 := decL_len n
    have h2 := opnP_len k
    have h3 := clsP_len k
    have h4 := fmtPK_len (sepP k) (by rw [sepP_len k]; omega) ks true
    unfold fmtP
    simp only [cnt]
    split
    · simp; omega
    · simp; omega
theorem fmtPK_len (s : List UInt8) (hs : s.length ≤ 1) : ∀ (ts : List Tr) (f : Bool), (fmtPK s ts f).length ≤ 5 * cnts ts
  | [], _ => by simp [fmtPK]
  | t :: ts, f => by
    have h1 := fmtP_len t
    have h2 := fmtPK_len s hs ts false
    unfold fmtPK
    simp only [cnts]
    cases f <;> simp <;> omega
end
/-- FormatCode's answer. -/
def fmtPV (t : Tr) : List UInt8 := if valid sigC t = true then fmtP t else []
end Go.Proofs.YtenpknapajckbaaDoor

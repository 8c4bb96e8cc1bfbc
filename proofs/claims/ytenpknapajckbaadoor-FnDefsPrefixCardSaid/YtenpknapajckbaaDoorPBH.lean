/-
  Lemmas towards the law, 34: Sub, ReadP, ReadD.
-/
import Derived.Test.YtenpknapajckbaaDoorPAD
import Derived.Test.YtenpknapajckbaaDoorPAI
import Derived.Test.YtenpknapajckbaaDoorPAZ
import Derived.Test.YtenpknapajckbaaDoorPBG
import Derived.Lib.AtoiAll
import Derived.Lib.Split
import Derived.Lib.Strings
namespace Go.Proofs.YtenpknapajckbaaDoor
open Go.RowKit
set_option linter.unusedVariables false
def hsh (y c : Int) (n b : Int) : Bool := if c ≤ n - b then decide (c ≤ n + y - b) && decide (n + y ≤ 20) else true
end Go.Proofs.YtenpknapajckbaaDoor
namespace Go.Proofs.YtenpknapajckbaaDoor
set_option linter.unusedVariables false
/-- The pieces of a shape. -/
def prt (k : Int) : List (List UInt8) :=
  if k = 1 then [[35]] else if k = 2 then [[42]] else if k = 3 then [[40], [62], [41]] else if k = 4 then [[91], [93], []] else if k = 5 then [[40], [32], [41]] else if k = 6 then [[78]] else if k = 7 then [[48]] else if k = 8 then [[43], []] else if k = 9 then [[60], [44], [44], [44], [62]] else if k = 10 then [[123], [44], [44], [125]] else if k = 11 then [[33], []] else if k = 12 then [[64, 60], [44], [44], [62]] else if k = 13 then [[40], [42], [41]] else if k = 14 then [[124], [44], [44], [124]] else if k = 15 then [[94], []] else [[95], []]
theorem opsT_kind {k : Int} {n : Nat} (h : opsT k = (n : Int)) : k = 1 ∨ k = 2 ∨ k = 3 ∨ k = 4 ∨ k = 5 ∨ k = 6 ∨ k = 7 ∨ k = 8 ∨ k = 9 ∨ k = 10 ∨ k = 11 ∨ k = 12 ∨ k = 13 ∨ k = 14 ∨ k = 15 ∨ k = 16 := by
  by_cases hk : 1 ≤ k ∧ k ≤ 16
  · omega
  · exfalso
    unfold opsT at h
    repeat rw [if_neg (by omega)] at h
    omega
theorem fmt_3 {x y : Tr} (r : List UInt8) : fmtL (.mk 3 0 [x, y]) ++ r = 40 :: (fmtL x ++ (62 :: (fmtL y ++ (41 :: (r))))) := by
  simp [fmtL, fmtK, opn, sep, cls]
theorem fmt_4 {x y : Tr} (r : List UInt8) : fmtL (.mk 4 0 [x, y]) ++ r = 91 :: (fmtL x ++ (93 :: (fmtL y ++ (r)))) := by
  simp [fmtL, fmtK, opn, sep, cls]
theorem fmt_5 {x y : Tr} (r : List UInt8) : fmtL (.mk 5 0 [x, y]) ++ r = 40 :: (fmtL x ++ (32 :: (fmtL y ++ (41 :: (r))))) := by
  simp [fmtL, fmtK, opn, sep, cls]
theorem fmt_6 (r : List UInt8) : fmtL (.mk 6 0 []) ++ r = 78 :: (r) := by
  simp [fmtL, fmtK, opn, cls]
theorem fmt_7 (r : List UInt8) : fmtL (.mk 7 0 []) ++ r = 48 :: (r) := by
  simp [fmtL, fmtK, opn, cls]
theorem fmt_8 {x : Tr} (r : List UInt8) : fmtL (.mk 8 0 [x]) ++ r = 43 :: (fmtL x ++ (r)) := by
  simp [fmtL, fmtK, opn, cls]
theorem fmt_9 {x y z u : Tr} (r : List UInt8) : fmtL (.mk 9 0 [x, y, z, u]) ++ r = 60 :: (fmtL x ++ (44 :: (fmtL y ++ (44 :: (fmtL z ++ (44 :: (fmtL u ++ (62 :: (r))))))))) := by
  simp [fmtL, fmtK, opn, sep, cls]
theorem fmt_10 {x y z : Tr} (r : List UInt8) : fmtL (.mk 10 0 [x, y, z]) ++ r = 123 :: (fmtL x ++ (44 :: (fmtL y ++ (44 :: (fmtL z ++ (125 :: (r))))))) := by
  simp [fmtL, fmtK, opn, sep, cls]
theorem fmt_11 {x : Tr} (r : List UInt8) : fmtL (.mk 11 0 [x]) ++ r = 33 :: (fmtL x ++ (r)) := by
  simp [fmtL, fmtK, opn, cls]
theorem fmt_12 {x y z : Tr} (r : List UInt8) : fmtL (.mk 12 0 [x, y, z]) ++ r = 64 :: (60 :: (fmtL x ++ (44 :: (fmtL y ++ (44 :: (fmtL z ++ (62 :: (r)))))))) := by
  simp [fmtL, fmtK, opn, sep, cls]
theorem fmt_13 {x y : Tr} (r : List UInt8) : fmtL (.mk 13 0 [x, y]) ++ r = 40 :: (fmtL x ++ (42 :: (fmtL y ++ (41 :: (r))))) := by
  simp [fmtL, fmtK, opn, sep, cls]
theorem fmt_14 {x y z : Tr} (r : List UInt8) : fmtL (.mk 14 0 [x, y, z]) ++ r = 124 :: (fmtL x ++ (44 :: (fmtL y ++ (44 :: (fmtL z ++ (124 :: (r))))))) := by
  simp [fmtL, fmtK, opn, sep, cls]
theorem fmt_15 {x : Tr} (r : List UInt8) : fmtL (.mk 15 0 [x]) ++ r = 94 :: (fmtL x ++ (r)) := by
  simp [fmtL, fmtK, opn, cls]
theorem fmt_16 {x : Tr} (r : List UInt8) : fmtL (.mk 16 0 [x]) ++ r = 95 :: (fmtL x ++ (r)) := by
  simp [fmtL, fmtK, opn, cls]
end Go.Proofs.YtenpknapajckbaaDoor
namespace Go.Proofs.YtenpknapajckbaaDoor
set_option linter.unusedVariables false
theorem index_one (c b : UInt8) (l : List UInt8) : Lib.index (b :: l) [c] = if b = c then 0 else if Lib.index l [c] = -1 then -1 else Lib.index l [c] + 1 := by
  rw [Lib.index]
  by_cases h : b = c
  · subst h
    simp
  · have h2 : (c == b) = false := beq_eq_false_iff_ne.2 (fun e => h e.symm)
    simp [h]
    intro e
    exact absurd e.symm h
theorem index_ge (c : UInt8) : ∀ l : List UInt8, Lib.index l [c] = -1 ∨ 0 ≤ Lib.index l [c]
  | [] => .inl rfl
  | b :: l => by
    rw [index_one]
    have := index_ge c l
    split
    · exact .inr (by omega)
    · split
      · exact .inl rfl
      · exact .inr (by omega)
theorem cutS_index (c : UInt8) : ∀ (l pre : List UInt8), cutS c pre l = if Lib.index l [c] = -1 then [pre ++ l] else (pre ++ l.take (Lib.index l [c]).toNat) :: cutS c [] (l.drop ((Lib.index l [c]).toNat + 1))
  | [], pre => by simp [cutS, Lib.index]
  | b :: l, pre => by
    rw [cutS, index_one]
    by_cases h : b = c
    · rw [if_pos h, if_pos h]
      simp
    · rw [if_neg h, if_neg h, cutS_index c l (pre ++ [b])]
      rcases index_ge c l with h1 | h1
      · simp [h1]
      · rw [if_neg (show ¬ Lib.index l [c] = -1 by omega), if_neg (show ¬ Lib.index l [c] = -1 by omega), if_neg (show ¬ Lib.index l [c] + 1 = -1 by omega)]
        have e : (Lib.index l [c] + 1).toNat = (Lib.index l [c]).toNat + 1 := by omega
        rw [e]
        simp
theorem split_cut (c : UInt8) : ∀ (n : Nat) (l : List UInt8), l.length ≤ n → Lib.splitK [c] 0 (Lib.count l [c]) l = cutL c l
  | 0, l, h => by
    have : l = [] := List.eq_nil_of_length_eq_zero (by omega)
    subst this
    rw [Lib.count_miss (by rfl)]
    rfl
  | n + 1, l, h => by
    unfold cutL
    rw [cutS_index]
    rcases index_ge c l with h1 | h1
    · rw [if_pos h1, Lib.count_miss h1]
      rfl
    · rw [if_neg (by omega), Lib.count_hit (i := (Lib.index l [c]).toNat) (by simp) (by omega), Nat.add_comm 1, Lib.splitK, if_neg (by simp; omega)]
      have hl := Lib.index_room l [c] h1
      have ih := split_cut c n (l.drop ((Lib.index l [c]).toNat + 1)) (by rw [List.length_drop]; simp at hl; omega)
      unfold cutL at ih
      simp only [List.length_cons, List.length_nil, Nat.zero_add, Nat.add_zero, List.nil_append]
      rw [ih]
end Go.Proofs.YtenpknapajckbaaDoor

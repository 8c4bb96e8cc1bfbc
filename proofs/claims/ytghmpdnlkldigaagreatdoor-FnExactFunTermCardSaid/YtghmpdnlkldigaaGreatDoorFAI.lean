/-
  Lemmas towards the law, 9: Text.
-/
import Derived.Test.YtghmpdnlkldigaaGreatDoorFAD
namespace Go.Proofs.YtghmpdnlkldigaaGreatDoor
set_option linter.unusedVariables false
/-- A string of these bytes. -/
def ofL (l : List UInt8) : ByteArray := ⟨l.toArray⟩
theorem ofL_append (a b : List UInt8) : ofL a ++ ofL b = ofL (a ++ b) := by
  apply ByteArray.ext
  simp [ofL]
theorem ofL_size (l : List UInt8) : (ofL l).size = l.length := by simp [ofL, ByteArray.size]
theorem ofL_list (l : List UInt8) : (ofL l).data.toList = l := by simp [ofL]
theorem ofL_of (s : ByteArray) : ofL s.data.toList = s := by
  apply ByteArray.ext
  simp [ofL]
/-- Decimal digits of a number below 100. -/
def decL (n : Int) : List UInt8 := if n ≤ 9 then [UInt8.ofNat (48 + n.toNat)] else [UInt8.ofNat (48 + n.toNat / 10), UInt8.ofNat (48 + n.toNat % 10)]
def opn (k : Int) : List UInt8 :=
  if k = 3 then [40] else if k = 4 then [91] else if k = 5 then [40] else if k = 6 then [78] else if k = 7 then [48] else if k = 8 then [43] else if k = 9 then [60] else if k = 10 then [123] else if k = 11 then [33] else if k = 12 then [64, 60] else if k = 13 then [40] else if k = 14 then [124] else if k = 15 then [94] else if k = 16 then [95] else []
def sep (k : Int) : List UInt8 :=
  if k = 3 then [62] else if k = 4 then [93] else if k = 5 then [32] else if k = 13 then [42] else [44]
def cls (k : Int) : List UInt8 :=
  if k = 3 then [41] else if k = 5 then [41] else if k = 9 then [62] else if k = 10 then [125] else if k = 12 then [62] else if k = 13 then [41] else if k = 14 then [124] else []
mutual
/-- The text of a term. -/
def fmtL : Tr → List UInt8
  | .mk k n ks => if k = 1 then 35 :: decL n else if k = 2 then 42 :: decL n else opn k ++ fmtK (sep k) ks true ++ cls k
/-- The texts of operands, with a sign between them. -/
def fmtK : List UInt8 → List Tr → Bool → List UInt8
  | _, [], _ => []
  | s, t :: ts, f => (if f = true then [] else s) ++ fmtL t ++ fmtK s ts false
end
theorem decL_len (n : Int) : (decL n).length ≤ 2 := by unfold decL; split <;> simp
theorem opn_len (k : Int) : (opn k).length ≤ 2 := by
  unfold opn
  by_cases h3 : k = 3
  · rw [if_pos h3]; decide
  rw [if_neg h3]
  by_cases h4 : k = 4
  · rw [if_pos h4]; decide
  rw [if_neg h4]
  by_cases h5 : k = 5
  · rw [if_pos h5]; decide
  rw [if_neg h5]
  by_cases h6 : k = 6
  · rw [if_pos h6]; decide
  rw [if_neg h6]
  by_cases h7 : k = 7
  · rw [if_pos h7]; decide
  rw [if_neg h7]
  by_cases h8 : k = 8
  · rw [if_pos h8]; decide
  rw [if_neg h8]
  by_cases h9 : k = 9
  · rw [if_pos h9]; decide
  rw [if_neg h9]
  by_cases h10 : k = 10
  · rw [if_pos h10]; decide
  rw [if_neg h10]
  by_cases h11 : k = 11
  · rw [if_pos h11]; decide
  rw [if_neg h11]
  by_cases h12 : k = 12
  · rw [if_pos h12]; decide
  rw [if_neg h12]
  by_cases h13 : k = 13
  · rw [if_pos h13]; decide
  rw [if_neg h13]
  by_cases h14 : k = 14
  · rw [if_pos h14]; decide
  rw [if_neg h14]
  by_cases h15 : k = 15
  · rw [if_pos h15]; decide
  rw [if_neg h15]
  by_cases h16 : k = 16
  · rw [if_pos h16]; decide
  rw [if_neg h16]
  decide
theorem sep_len (k : Int) : (sep k).length = 1 := by
  unfold sep
  by_cases h3 : k = 3
  · rw [if_pos h3]; decide
  rw [if_neg h3]
  by_cases h4 : k = 4
  · rw [if_pos h4]; decide
  rw [if_neg h4]
  by_cases h5 : k = 5
  · rw [if_pos h5]; decide
  rw [if_neg h5]
  by_cases h13 : k = 13
  · rw [if_pos h13]; decide
  rw [if_neg h13]
  decide
theorem cls_len (k : Int) : (cls k).length ≤ 1 := by
  unfold cls
  by_cases h3 : k = 3
  · rw [if_pos h3]; decide
  rw [if_neg h3]
  by_cases h5 : k = 5
  · rw [if_pos h5]; decide
  rw [if_neg h5]
  by_cases h9 : k = 9
  · rw [if_pos h9]; decide
  rw [if_neg h9]
  by_cases h10 : k = 10
  · rw [if_pos h10]; decide
  rw [if_neg h10]
  by_cases h12 : k = 12
  · rw [if_pos h12]; decide
  rw [if_neg h12]
  by_cases h13 : k = 13
  · rw [if_pos h13]; decide
  rw [if_neg h13]
  by_cases h14 : k = 14
  · rw [if_pos h14]; decide
  rw [if_neg h14]
  decide
mutual
theorem fmtL_len : ∀ t : Tr, (fmtL t).length + 1 ≤ 5 * cnt t
  | .mk k n ks => by
    have h1 := decL_len n
    have h2 := opn_len k
    have h3 := cls_len k
    have h4 := fmtK_len (sep k) (by rw [sep_len k]; omega) ks true
    unfold fmtL
    simp only [cnt]
    split
    · simp; omega
    · split
      · simp; omega
      · simp; omega
theorem fmtK_len (s : List UInt8) (hs : s.length ≤ 1) : ∀ (ts : List Tr) (f : Bool), (fmtK s ts f).length ≤ 5 * cnts ts
  | [], _ => by simp [fmtK]
  | t :: ts, f => by
    have h1 := fmtL_len t
    have h2 := fmtK_len s hs ts false
    unfold fmtK
    simp only [cnts]
    cases f <;> simp <;> omega
end
/-- FormatTerm's answer. -/
def fmtV (t : Tr) : List UInt8 := if valid sigT t = true then fmtL t else []
def isDig (c : UInt8) : Bool := decide (48 ≤ c) && decide (c ≤ 57)
/-- One or two decimal digits from an offset on. -/
def numS (l : List UInt8) (a : Nat) (two : Bool) : Option (Int × Nat) :=
  match l[a]? with
  | none => none
  | some c => if isDig c = true then
      (if two = true then
        match l[a + 1]? with
        | none => some ((c.toNat : Int) - 48, a + 1)
        | some d => if isDig d = true then (if c = 48 then none else some (((c.toNat : Int) - 48) * 10 + ((d.toNat : Int) - 48), a + 2)) else some ((c.toNat : Int) - 48, a + 1)
      else some ((c.toNat : Int) - 48, a + 1))
    else none
/-- Some terms, separated by commas, and a closing sign. -/
def ser (p : Nat → Option (Tr × Nat)) (l : List UInt8) (last : UInt8) : Nat → Nat → Option (List Tr × Nat)
  | 0, a => some ([], a)
  | m + 1, a => match p a with
    | none => none
    | some (t, b) => if l[b]? = some (if m = 0 then last else 44) then (ser p l last m (b + 1)).map (fun x => (t :: x.1, x.2)) else none
def one (k : Int) (x : Option (Tr × Nat)) : Option (Tr × Nat) := x.map fun y => (.mk k 0 [y.1], y.2)
def rndK (c : Option UInt8) : Int := if c = some 62 then 3 else if c = some 42 then 13 else if c = some 32 then 5 else 0
/-- Behind a round bracket. -/
def rnd (p : Nat → Option (Tr × Nat)) (l : List UInt8) (a : Nat) : Option (Tr × Nat) :=
  match p a with
  | none => none
  | some (x, b) => if rndK l[b]? = 0 then none else
    match p (b + 1) with
    | none => none
    | some (y, c) => if l[c]? = some 41 then some (.mk (rndK l[b]?) 0 [x, y], c + 1) else none
/-- Behind a square bracket. -/
def sqr (p : Nat → Option (Tr × Nat)) (l : List UInt8) (a : Nat) : Option (Tr × Nat) :=
  match p a with
  | none => none
  | some (x, b) => if l[b]? = some 93 then (match p (b + 1) with | none => none | some (y, c) => some (.mk 4 0 [x, y], c)) else none
def blkK (c : UInt8) : Int := if c = 60 then 9 else if c = 123 then 10 else if c = 124 then 14 else if c = 64 then 12 else 0
def blkE (c : UInt8) : UInt8 := if c = 123 then 125 else if c = 124 then 124 else 62
/-- Three or four operands. -/
def blk (p : Nat → Option (Tr × Nat)) (l : List UInt8) (a : Nat) (c : UInt8) : Option (Tr × Nat) :=
  if blkK c = 0 then none
  else if c = 64 then (if l[a + 1]? = some 60 then (ser p l 62 3 (a + 2)).map (fun x => (.mk 12 0 x.1, x.2)) else none)
  else (ser p l (blkE c) (if c = 60 then 4 else 3) (a + 1)).map (fun x => (.mk (blkK c) 0 x.1, x.2))
/-- The term at an offset, and the offset behind it. -/
def prs : Nat → List UInt8 → Nat → Option (Tr × Nat)
  | 0, _, _ => none
  | d + 1, l, a =>
    match l[a]? with
    | none => none
    | some c =>
      if c = 35 then (numS l (a + 1) true).map (fun x => (.mk 1 x.1 [], x.2))
      else if c = 42 then (numS l (a + 1) false).map (fun x => (.mk 2 x.1 [], x.2))
      else if c = 78 then some (.mk 6 0 [], a + 1)
      else if c = 48 then some (.mk 7 0 [], a + 1)
      else if c = 43 then one 8 (prs d l (a + 1))
      else if c = 33 then one 11 (prs d l (a + 1))
      else if c = 94 then one 15 (prs d l (a + 1))
      else if c = 95 then one 16 (prs d l (a + 1))
      else if c = 40 then rnd (prs d l) l (a + 1)
      else if c = 91 then sqr (prs d l) l (a + 1)
      else blk (prs d l) l a c
/-- ParseTerm's answer. -/
def prsV (l : List UInt8) : Option Tr :=
  match prs 30 l 0 with
  | none => none
  | some (t, b) => if l ≠ [] ∧ b = l.length ∧ fmtV t = l then some t else none
theorem prsV_valid {l : List UInt8} {t : Tr} (h : prsV l = some t) : valid sigT t = true ∧ fmtL t = l := by
  unfold prsV at h
  split at h
  · cases h
  · rename_i t' b _
    split at h
    · rename_i hh
      cases h
      obtain ⟨h1, h2, h3⟩ := hh
      unfold fmtV at h3
      split at h3
      · rename_i hv
        exact ⟨hv, h3⟩
      · exact absurd h3.symm h1
    · cases h
end Go.Proofs.YtghmpdnlkldigaaGreatDoor

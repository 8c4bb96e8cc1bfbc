/-
  Lemmas towards the law, 4: Valid, Text, Later, WalkValid, Scan.
-/
import Derived.Test.YtolkohncmidpeaaGreatDoorHAA
import Derived.Test.YtolkohncmidpeaaGreatDoorHAC
import Derived.BigQuiet
import Derived.Deep.RegionHeld3
import Derived.Deep.RegionWith
import Derived.Outline
import Derived.StillTailTactics
import Derived.Test.YtolkohncmidpeaaGreatDoorProg
namespace Go.Proofs.YtolkohncmidpeaaGreatDoor
set_option linter.unusedVariables false
def inR (n lo hi : Int) : Bool := decide (lo ≤ n) && decide (n ≤ hi)
theorem inR_iff {n lo hi : Int} : inR n lo hi = true ↔ lo ≤ n ∧ n ≤ hi := by simp [inR]
theorem inR_false {n lo hi : Int} : inR n lo hi = false ↔ n < lo ∨ hi < n := by
  rw [Bool.eq_false_iff, Ne, inR_iff]
  omega
/-- The operands and the greatest N of a kind, for terms and for programs. -/
structure Sig where
  ops : Int → Int
  most : Int → Int
def opsT (k : Int) : Int := if k = 1 then 0 else if k = 2 then 0 else if k = 3 then 2 else if k = 4 then 2 else if k = 5 then 2 else if k = 6 then 0 else if k = 7 then 0 else if k = 8 then 1 else if k = 9 then 4 else if k = 10 then 3 else if k = 11 then 1 else if k = 12 then 3 else if k = 13 then 2 else if k = 14 then 3 else if k = 15 then 1 else if k = 16 then 1 else -1
def mostT (k : Int) : Int := if k = 1 then 20 else if k = 2 then 3 else 0
def sigT : Sig := ⟨opsT, mostT⟩
/-- The node by itself is in order. -/
def headOk (g : Sig) (k n : Int) (len : Nat) : Bool := decide (g.ops k = (len : Int)) && inR n 0 (g.most k)
mutual
def shape (g : Sig) : Tr → Int → Bool
  | .mk k n ks, depth => decide (1 ≤ depth) && (headOk g k n ks.length && shapes g ks (depth - 1))
def shapes (g : Sig) : List Tr → Int → Bool
  | [], _ => true
  | t :: ts, depth => shape g t depth && shapes g ts depth
end
def valid (g : Sig) (t : Tr) : Bool := shape g t 30 && decide (cnt t ≤ 400)
mutual
/-- Counting up to a number. -/
def cntM : Tr → Int → Int
  | .mk _ _ ks, most => cntMs ks most 1
def cntMs : List Tr → Int → Int → Int
  | [], _, n => n
  | t :: ts, most, n => if n ≤ most then cntMs ts most (n + cntM t (most - n)) else n
end
mutual
theorem cntM_le : ∀ (t : Tr) (most : Int), 0 ≤ most → 1 ≤ cntM t most ∧ cntM t most ≤ most + 1 ∧ (cntM t most ≤ most ↔ (cnt t : Int) ≤ most) ∧ (cntM t most ≤ most → cntM t most = cnt t)
  | .mk _ _ ks, most, h => by
    have := cntMs_le ks most 1 (by omega) (by omega)
    simp only [cntM, cnt]
    omega
theorem cntMs_le : ∀ (ts : List Tr) (most n : Int), 1 ≤ n → n ≤ most + 1 → n ≤ cntMs ts most n ∧ cntMs ts most n ≤ most + 1 ∧ (cntMs ts most n ≤ most ↔ n + cnts ts ≤ most) ∧ (cntMs ts most n ≤ most → cntMs ts most n = n + cnts ts)
  | [], most, n, h, h' => by simp only [cntMs, cnts]; omega
  | t :: ts, most, n, h, h' => by
    simp only [cntMs, cnts]
    by_cases hn : n ≤ most
    · rw [if_pos hn]
      have h1 := cntM_le t (most - n) (by omega)
      have h2 := cntMs_le ts most (n + cntM t (most - n)) (by omega) (by omega)
      have h3 := cnt_pos t
      omega
    · rw [if_neg hn]
      have h3 := cnt_pos t
      omega
end
theorem valid_iff {g : Sig} {t : Tr} : valid g t = (shape g t 30 && decide (cntM t 400 ≤ 400)) := by
  have := (cntM_le t 400 (by omega)).2.2.1
  unfold valid
  congr 1
  rw [Bool.eq_iff_iff, decide_eq_true_iff, decide_eq_true_iff]
  omega
mutual
/-- The other way of looking: a count that goes up, and stops. -/
def scanR (g : Sig) : Tr → Int → Int → Bool × Int
  | .mk k n ks, deep, c => if 400 < c + 1 then (false, c + 1) else if 30 < deep then (false, c + 1) else if g.ops k = (ks.length : Int) then (if inR n 0 (g.most k) = true then scanRs g ks (deep + 1) (c + 1) else (false, c + 1)) else (false, c + 1)
def scanRs (g : Sig) : List Tr → Int → Int → Bool × Int
  | [], _, c => (true, c)
  | t :: ts, deep, c => if (scanR g t deep c).1 = true then scanRs g ts deep (scanR g t deep c).2 else (false, (scanR g t deep c).2)
end
mutual
theorem scanR_spec (g : Sig) : ∀ (t : Tr) (deep c : Int), 0 ≤ c → c ≤ 400 → (scanR g t deep c).1 = (shape g t (31 - deep) && decide (c + cnt t ≤ 400)) ∧ ((scanR g t deep c).1 = true → (scanR g t deep c).2 = c + cnt t) ∧ c ≤ (scanR g t deep c).2 ∧ (scanR g t deep c).2 ≤ 401 ∧ ((scanR g t deep c).1 = true → (scanR g t deep c).2 ≤ 400)
  | .mk k n ks, deep, c, h, h' => by
    have hc : (cnt (.mk k n ks) : Int) = cnts ks + 1 := by simp [cnt]
    simp only [scanR, shape, headOk]
    by_cases h1 : 400 < c + 1
    · rw [if_pos h1]
      refine ⟨?_, by simp, by simp; omega, by simp; omega, by simp⟩
      symm
      rw [Bool.and_eq_false_iff]
      exact .inr (decide_eq_false (by omega))
    · rw [if_neg h1]
      by_cases h2 : 30 < deep
      · rw [if_pos h2]
        refine ⟨?_, by simp, by simp; omega, by simp; omega, by simp⟩
        symm
        rw [Bool.and_eq_false_iff, Bool.and_eq_false_iff]
        exact .inl (.inl (decide_eq_false (by omega)))
      · rw [if_neg h2]
        by_cases h3 : g.ops k = (ks.length : Int)
        · rw [if_pos h3]
          by_cases h4 : inR n 0 (g.most k) = true
          · rw [if_pos h4]
            obtain ⟨e1, e2, e3, e4, e5⟩ := scanRs_spec g ks (deep + 1) (c + 1) (by omega) (by omega)
            refine ⟨?_, fun hh => by rw [e2 hh]; omega, by omega, e4, e5⟩
            rw [e1, decide_eq_true h3, h4]
            have ed : 31 - (deep + 1) = 31 - deep - 1 := by omega
            have d1 : decide (1 ≤ 31 - deep) = true := decide_eq_true (by omega)
            rw [ed, d1]
            simp only [Bool.true_and]
            congr 1
            exact decide_eq_decide.2 (by omega)
          · rw [if_neg h4]
            refine ⟨?_, by simp, by simp; omega, by simp; omega, by simp⟩
            simp [h4]
        · rw [if_neg h3]
          refine ⟨?_, by simp, by simp; omega, by simp; omega, by simp⟩
          simp [h3]
theorem scanRs_spec (g : Sig) : ∀ (ts : List Tr) (deep c : Int), 0 ≤ c → c ≤ 400 → (scanRs g ts deep c).1 = (shapes g ts (31 - deep) && decide (c + cnts ts ≤ 400)) ∧ ((scanRs g ts deep c).1 = true → (scanRs g ts deep c).2 = c + cnts ts) ∧ c ≤ (scanRs g ts deep c).2 ∧ (scanRs g ts deep c).2 ≤ 401 ∧ ((scanRs g ts deep c).1 = true → (scanRs g ts deep c).2 ≤ 400)
  | [], deep, c, h, h' => by
    have hc : (cnts [] : Int) = 0 := by simp [cnts]
    have hd : decide (c + (cnts [] : Int) ≤ 400) = true := decide_eq_true (by omega)
    simp only [scanRs, shapes]
    refine ⟨by rw [hd]; rfl, by omega, by omega, by omega, by omega⟩
  | t :: ts, deep, c, h, h' => by
    have hc : (cnts (t :: ts) : Int) = cnt t + cnts ts := by simp [cnts]
    simp only [scanRs, shapes]
    obtain ⟨e1, e2, e3, e4, e5⟩ := scanR_spec g t deep c h h'
    by_cases hs : (scanR g t deep c).1 = true
    · rw [if_pos hs]
      have e2' := e2 hs
      have e5' := e5 hs
      obtain ⟨d1, d2, d3, d4, d5⟩ := scanRs_spec g ts deep (scanR g t deep c).2 (by omega) e5'
      refine ⟨?_, fun hh => by rw [d2 hh, e2']; omega, by omega, d4, d5⟩
      rw [d1]
      rw [hs] at e1
      have e1' := e1.symm
      rw [Bool.and_eq_true] at e1'
      rw [e1'.1]
      simp only [Bool.true_and]
      congr 1
      exact decide_eq_decide.2 (by omega)
    · rw [if_neg hs]
      refine ⟨?_, by simp, e3, e4, by simp⟩
      have hf : (scanR g t deep c).1 = false := by simpa using hs
      rw [hf] at e1
      have e1' := e1.symm
      rw [Bool.and_eq_false_iff] at e1'
      symm
      rw [Bool.and_eq_false_iff, Bool.and_eq_false_iff]
      rcases e1' with e1' | e1'
      · exact .inl (.inl e1')
      · have := of_decide_eq_false e1'
        exact .inr (decide_eq_false (by omega))
end
theorem scanR_valid (g : Sig) (t : Tr) : (scanR g t 1 0).1 = valid g t ∧ (valid g t = true → (scanR g t 1 0).2 = cnt t) := by
  obtain ⟨e1, e2, _⟩ := scanR_spec g t 1 0 (by omega) (by omega)
  have h : (scanR g t 1 0).1 = valid g t := by
    rw [e1]
    unfold valid
    have e : (31 : Int) - 1 = 30 := rfl
    rw [e]
    congr 1
    exact decide_eq_decide.2 (by omega)
  exact ⟨h, fun hv => by rw [e2 (h.trans hv)]; omega⟩
end Go.Proofs.YtolkohncmidpeaaGreatDoor
namespace Go.Proofs.YtolkohncmidpeaaGreatDoor
set_option linter.unusedVariables false
/-- A string of these bytes. -/
def ofL (l : List UInt8) : ByteArray := ⟨l.toArray⟩
theorem ofL_append (a b : List UInt8) : ofL a ++ ofL b = ofL (a ++ b) := by
  apply ByteArray.ext
  simp [ofL]
theorem ofL_size (l : List UInt8) : (ofL l).size = l.length := by simp [ofL, ByteArray.size]
theorem ofL_list (l : List UInt8) : (ofL l).data.toList = l := by simp [ofL]
theorem ofL_of (s : ByteArray) : ofL s.data.toList = s := by
  apply ByteArray.ext
  simp [ofL]
/-- Decimal digits of a number below 100. -/
def decL (n : Int) : List UInt8 := if n ≤ 9 then [UInt8.ofNat (48 + n.toNat)] else [UInt8.ofNat (48 + n.toNat / 10), UInt8.ofNat (48 + n.toNat % 10)]
def opn (k : Int) : List UInt8 :=
  if k = 3 then [40] else if k = 4 then [91] else if k = 5 then [40] else if k = 6 then [78] else if k = 7 then [48] else if k = 8 then [43] else if k = 9 then [60] else if k = 10 then [123] else if k = 11 then [33] else if k = 12 then [64, 60] else if k = 13 then [40] else if k = 14 then [124] else if k = 15 then [94] else if k = 16 then [95] else []
def sep (k : Int) : List UInt8 :=
  if k = 3 then [62] else if k = 4 then [93] else if k = 5 then [32] else if k = 13 then [42] else [44]
def cls (k : Int) : List UInt8 :=
  if k = 3 then [41] else if k = 5 then [41] else if k = 9 then [62] else if k = 10 then [125] else if k = 12 then [62] else if k = 13 then [41] else if k = 14 then [124] else []
mutual
/-- The text of a term. -/
def fmtL : Tr → List UInt8
  | .mk k n ks => if k = 1 then 35 :: decL n else if k = 2 then 42 :: decL n else opn k ++ fmtK (sep k) ks true ++ cls k
/-- The texts of operands, with a sign between them. -/
def fmtK : List UInt8 → List Tr → Bool → List UInt8
  | _, [], _ => []
  | s, t :: ts, f => (if f = true then [] else s) ++ fmtL t ++ fmtK s ts false
end
theorem decL_len (n : Int) : (decL n).length ≤ 2 := by unfold decL; split <;> simp
theorem opn_len (k : Int) : (opn k).length ≤ 2 := by
  unfold opn
  by_cases h3 : k = 3
  · rw [if_pos h3]; decide
  rw [if_neg h3]
  by_cases h4 : k = 4
  · rw [if_pos h4]; decide
  rw [if_neg h4]
  by_cases h5 : k = 5
  · rw [if_pos h5]; decide
  rw [if_neg h5]
  by_cases h6 : k = 6
  · rw [if_pos h6]; decide
  rw [if_neg h6]
  by_cases h7 : k = 7
  · rw [if_pos h7]; decide
  rw [if_neg h7]
  by_cases h8 : k = 8
  · rw [if_pos h8]; decide
  rw [if_neg h8]
  by_cases h9 : k = 9
  · rw [if_pos h9]; decide
  rw [if_neg h9]
  by_cases h10 : k = 10
  · rw [if_pos h10]; decide
  rw [if_neg h10]
  by_cases h11 : k = 11
  · rw [if_pos h11]; decide
  rw [if_neg h11]
  by_cases h12 : k = 12
  · rw [if_pos h12]; decide
  rw [if_neg h12]
  by_cases h13 : k = 13
  · rw [if_pos h13]; decide
  rw [if_neg h13]
  by_cases h14 : k = 14
  · rw [if_pos h14]; decide
  rw [if_neg h14]
  by_cases h15 : k = 15
  · rw [if_pos h15]; decide
  rw [if_neg h15]
  by_cases h16 : k = 16
  · rw [if_pos h16]; decide
  rw [if_neg h16]
  decide
theorem sep_len (k : Int) : (sep k).length = 1 := by
  unfold sep
  by_cases h3 : k = 3
  · rw [if_pos h3]; decide
  rw [if_neg h3]
  by_cases h4 : k = 4
  · rw [if_pos h4]; decide
  rw [if_neg h4]
  by_cases h5 : k = 5
  · rw [if_pos h5]; decide
  rw [if_neg h5]
  by_cases h13 : k = 13
  · rw [if_pos h13]; decide
  rw [if_neg h13]
  decide
theorem cls_len (k : Int) : (cls k).length ≤ 1 := by
  unfold cls
  by_cases h3 : k = 3
  · rw [if_pos h3]; decide
  rw [if_neg h3]
  by_cases h5 : k = 5
  · rw [if_pos h5]; decide
  rw [if_neg h5]
  by_cases h9 : k = 9
  · rw [if_pos h9]; decide
  rw [if_neg h9]
  by_cases h10 : k = 10
  · rw [if_pos h10]; decide
  rw [if_neg h10]
  by_cases h12 : k = 12
  · rw [if_pos h12]; decide
  rw [if_neg h12]
  by_cases h13 : k = 13
  · rw [if_pos h13]; decide
  rw [if_neg h13]
  by_cases h14 : k = 14
  · rw [if_pos h14]; decide
  rw [if_neg h14]
  decide
mutual
theorem fmtL_len : ∀ t : Tr, (fmtL t).length + 1 ≤ 5 * cnt t
  | .mk k n ks => by
    have h1 := decL_len n
    have h2 := opn_len k
    have h3 := cls_len k
    have h4 := fmtK_len (sep k) (by rw [sep_len k]; omega) ks true
    unfold fmtL
    simp only [cnt]
    split
    · simp; omega
    · split
      · simp; omega
      · simp; omega
theorem fmtK_len (s : List UInt8) (hs : s.length ≤ 1) : ∀ (ts : List Tr) (f : Bool), (fmtK s ts f).length ≤ 5 * cnts ts
  | [], _ => by simp [fmtK]
  | t :: ts, f => by
    have h1 := fmtL_len t
    have h2 := fmtK_len s hs ts false
    unfold fmtK
    simp only [cnts]
    cases f <;> simp <;> omega
end
/-- FormatTerm's answer. -/
def fmtV (t : Tr) : List UInt8 := if valid sigT t = true then fmtL t else []
def isDig (c : UInt8) : Bool := decide (48 ≤ c) && decide (c ≤ 57)
/-- One or two decimal digits from an offset on. -/
def numS (l : List UInt8) (a : Nat) (two : Bool) : Option (Int × Nat) :=
  match l[a]? with
  | none => none
  | some c => if isDig c = true then
      (if two = true then
        match l[a + 1]? with
        | none => some ((c.toNat : Int) - 48, a + 1)
        | some d => if isDig d = true then (if c = 48 then none else some (((c.toNat : Int) - 48) * 10 + ((d.toNat : Int) - 48), a + 2)) else some ((c.toNat : Int) - 48, a + 1)
      else some ((c.toNat : Int) - 48, a + 1))
    else none
/-- Some terms, separated by commas, and a closing sign. -/
def ser (p : Nat → Option (Tr × Nat)) (l : List UInt8) (last : UInt8) : Nat → Nat → Option (List Tr × Nat)
  | 0, a => some ([], a)
  | m + 1, a => match p a with
    | none => none
    | some (t, b) => if l[b]? = some (if m = 0 then last else 44) then (ser p l last m (b + 1)).map (fun x => (t :: x.1, x.2)) else none
def one (k : Int) (x : Option (Tr × Nat)) : Option (Tr × Nat) := x.map fun y => (.mk k 0 [y.1], y.2)
def rndK (c : Option UInt8) : Int := if c = some 62 then 3 else if c = some 42 then 13 else if c = some 32 then 5 else 0
/-- Behind a round bracket. -/
def rnd (p : Nat → Option (Tr × Nat)) (l : List UInt8) (a : Nat) : Option (Tr × Nat) :=
  match p a with
  | none => none
  | some (x, b) => if rndK l[b]? = 0 then none else
    match p (b + 1) with
    | none => none
    | some (y, c) => if l[c]? = some 41 then some (.mk (rndK l[b]?) 0 [x, y], c + 1) else none
/-- Behind a square bracket. -/
def sqr (p : Nat → Option (Tr × Nat)) (l : List UInt8) (a : Nat) : Option (Tr × Nat) :=
  match p a with
  | none => none
  | some (x, b) => if l[b]? = some 93 then (match p (b + 1) with | none => none | some (y, c) => some (.mk 4 0 [x, y], c)) else none
def blkK (c : UInt8) : Int := if c = 60 then 9 else if c = 123 then 10 else if c = 124 then 14 else if c = 64 then 12 else 0
def blkE (c : UInt8) : UInt8 := if c = 123 then 125 else if c = 124 then 124 else 62
/-- Three or four operands. -/
def blk (p : Nat → Option (Tr × Nat)) (l : List UInt8) (a : Nat) (c : UInt8) : Option (Tr × Nat) :=
  if blkK c = 0 then none
  else if c = 64 then (if l[a + 1]? = some 60 then (ser p l 62 3 (a + 2)).map (fun x => (.mk 12 0 x.1, x.2)) else none)
  else (ser p l (blkE c) (if c = 60 then 4 else 3) (a + 1)).map (fun x => (.mk (blkK c) 0 x.1, x.2))
/-- The term at an offset, and the offset behind it. -/
def prs : Nat → List UInt8 → Nat → Option (Tr × Nat)
  | 0, _, _ => none
  | d + 1, l, a =>
    match l[a]? with
    | none => none
    | some c =>
      if c = 35 then (numS l (a + 1) true).map (fun x => (.mk 1 x.1 [], x.2))
      else if c = 42 then (numS l (a + 1) false).map (fun x => (.mk 2 x.1 [], x.2))
      else if c = 78 then some (.mk 6 0 [], a + 1)
      else if c = 48 then some (.mk 7 0 [], a + 1)
      else if c = 43 then one 8 (prs d l (a + 1))
      else if c = 33 then one 11 (prs d l (a + 1))
      else if c = 94 then one 15 (prs d l (a + 1))
      else if c = 95 then one 16 (prs d l (a + 1))
      else if c = 40 then rnd (prs d l) l (a + 1)
      else if c = 91 then sqr (prs d l) l (a + 1)
      else blk (prs d l) l a c
/-- ParseTerm's answer. -/
def prsV (l : List UInt8) : Option Tr :=
  match prs 30 l 0 with
  | none => none
  | some (t, b) => if l ≠ [] ∧ b = l.length ∧ fmtV t = l then some t else none
theorem prsV_valid {l : List UInt8} {t : Tr} (h : prsV l = some t) : valid sigT t = true ∧ fmtL t = l := by
  unfold prsV at h
  split at h
  · cases h
  · rename_i t' b _
    split at h
    · rename_i hh
      cases h
      obtain ⟨h1, h2, h3⟩ := hh
      unfold fmtV at h3
      split at h3
      · rename_i hv
        exact ⟨hv, h3⟩
      · exact absurd h3.symm h1
    · cases h
end Go.Proofs.YtolkohncmidpeaaGreatDoor
namespace Go.Proofs.YtolkohncmidpeaaGreatDoor
open Go.RowKit
set_option linter.unusedVariables false
/-- What holds in w and in every later world. -/
def At (w : World) (p : World → Prop) : Prop := ∀ w', Ext w w' → p w'
theorem At.step {w w' : World} {p : World → Prop} (h : At w p) (he : Ext w w') : At w' p := fun x hx => h x (he.trans hx)
theorem At.lies {w : World} {t : Tr} {v : Value} (h : Lies w t v) : At w (fun w' => Lies w' t v) := fun _ hx => h.ext hx
theorem At.and {w : World} {p q : World → Prop} (h : At w p) (k : At w q) : At w (fun w' => p w' ∧ q w') := fun x hx => ⟨h x hx, k x hx⟩
/-- A world that has what W had, and more. -/
structure Later (W : World) where
  world : World
  ext : Ext W world
instance (W : World) : Nonempty (Later W) := ⟨⟨W, Ext.refl W⟩⟩
theorem wp_region_later {P : Program} {id : Nat} {Q : Exit → Act → World → Prop} {a : Act} {W : World} {l : List Oper} (hm : P.follows .mixedOrders = true) (hB : Region.lexB .any l.toArray = true)
    (h : wpQuiet P l.toArray (fun w' => ∃ x : Later W, w' = x.world) (fun a' => ∀ w', (∃ x : Later W, w' = x.world) → Q .normal a' w') l a) : (Code.region id l.toArray true).wp P Q a W :=
  wp_region_quiet (C := fun w' => ∃ x : Later W, w' = x.world) hm hB ⟨⟨_, (Ext.refl W).drew⟩, rfl⟩ (by simpa using h)
theorem later_of {P : Program} {f : FuncId} {args : Array Value} {W : World} {x : Later W} {v : Value} (h : Calls P f args x.world fun e w' => e = .returned v ∧ Ext x.world w') :
    Calls P f args x.world fun e w'' => e = .returned v ∧ ∃ y : Later W, w'' = y.world :=
  h.mono fun e w' ⟨he, hw⟩ => ⟨he, ⟨w', x.ext.trans hw⟩, rfl⟩
theorem later_of_same {P : Program} {f : FuncId} {args : Array Value} {W : World} {x : Later W} {v : Value} (h : Calls P f args x.world fun e w' => e = .returned v ∧ x.world = w') :
    Calls P f args x.world fun e w'' => e = .returned v ∧ ∃ y : Later W, w'' = y.world :=
  h.mono fun e w' ⟨he, hw⟩ => ⟨he, x, hw.symm⟩
/-- A struct's three cells, in every later world. -/
theorem Later.own3 {W : World} {g : Nat} {x0 x1 x2 : Value} {e : TypeId} (hb : W.heap[g]? = some (.cells #[x0, x1, x2] e (0, 0))) :
    (∀ y : Later W, y.world.cell? ⟨g, 0, none⟩ = some x0) ∧ (∀ y : Later W, y.world.cell? ⟨g, 1, none⟩ = some x1) ∧ (∀ y : Later W, y.world.cell? ⟨g, 2, none⟩ = some x2) :=
  ⟨fun y => y.ext.cell (cell_of_blk hb 0), fun y => y.ext.cell (cell_of_blk hb 1), fun y => y.ext.cell (cell_of_blk hb 2)⟩
theorem Later.cell {W : World} {b o : Nat} {v : Value} (h : W.cell? ⟨b, o, none⟩ = some v) (y : Later W) : y.world.cell? ⟨b, o, none⟩ = some v := y.ext.cell h
end Go.Proofs.YtolkohncmidpeaaGreatDoor
namespace Go.Proofs.YtolkohncmidpeaaGreatDoor
open Go.RowKit
set_option linter.unusedVariables false
theorem within_any (n lo hi : Int) (w : World) : Calls Tryz.prog 57 #[.int .i64 n, .int .i64 lo, .int .i64 hi] w fun e w' => e = .returned (.bool (inR n lo hi)) ∧ w = w' := by
  by_cases h1 : lo ≤ n
  · by_cases h2 : n ≤ hi
    · have e : inR n lo hi = true := inR_iff.2 ⟨h1, h2⟩
      have E := Lib.hid e
      have d1 : decide (lo ≤ n) = true := by simpa using h1
      have d2 : decide (n ≤ hi) = true := by simpa using h2
      clear e
      go_enter Tryz.func57, Tryz.ntmps57
      go_wp2_with fail
      go_ret
      exact ⟨by rw [E.out]; rfl, rfl⟩
    · have e : inR n lo hi = false := inR_false.2 (.inr (by omega))
      have E := Lib.hid e
      have d1 : decide (lo ≤ n) = true := by simpa using h1
      have d2 : decide (n ≤ hi) = false := by simpa using h2
      clear e
      go_enter Tryz.func57, Tryz.ntmps57
      go_wp2_with fail
      go_ret
      exact ⟨by rw [E.out]; rfl, rfl⟩
  · have e : inR n lo hi = false := inR_false.2 (.inl (by omega))
    have E := Lib.hid e
    have d1 : decide (lo ≤ n) = false := by simpa using h1
    clear e
    go_enter Tryz.func57, Tryz.ntmps57
    go_wp2_with fail
    go_ret
    exact ⟨by rw [E.out]; rfl, rfl⟩
theorem opsT_any (k : Int) (w : World) : Calls Tryz.prog 123 #[.int .i64 k] w fun e w' => e = .returned (.int .i64 (opsT k)) ∧ Ext w w' := by
  by_cases h1 : inR k 1 16 = true
  · have H1 := Lib.hid h1
    have h2 := inR_iff.1 h1
    clear h1
    have hcs : ∀ j : Nat, j < 16 → k = (j : Int) + 1 → Calls Tryz.prog 123 #[.int .i64 k] w fun e w' => e = .returned (.int .i64 (opsT k)) ∧ Ext w w' := by
      intro j hj hk
      subst hk
      have HX := H1
      go_enter Tryz.func123, Tryz.ntmps123
      go_wp2_with (go_at_call 57; refine (within_any _ _ _ _).mono ?_; rw [HX.out]; rintro e w1 ⟨rfl, rfl⟩)
      go_ret
      refine ⟨?_, (Ext.refl _).alloc _⟩
      rcases (by omega : j = 0 ∨ j = 1 ∨ j = 2 ∨ j = 3 ∨ j = 4 ∨ j = 5 ∨ j = 6 ∨ j = 7 ∨ j = 8 ∨ j = 9 ∨ j = 10 ∨ j = 11 ∨ j = 12 ∨ j = 13 ∨ j = 14 ∨ j = 15) with rfl | rfl | rfl | rfl | rfl | rfl | rfl | rfl | rfl | rfl | rfl | rfl | rfl | rfl | rfl | rfl <;> rfl
    exact hcs (k - 1).toNat (by omega) (by omega)
  · have h2 : inR k 1 16 = false := by simpa using h1
    have H2 := Lib.hid h2
    have h3 := inR_false.1 h2
    have e : opsT k = -1 := by
      unfold opsT
      repeat rw [if_neg (by omega)]
    have E := Lib.hid e
    clear h1 h2 e
    go_enter Tryz.func123, Tryz.ntmps123
    go_wp2_with (go_at_call 57; refine (within_any _ _ _ _).mono ?_; rw [H2.out]; rintro e w1 ⟨rfl, rfl⟩)
    go_ret
    exact ⟨by rw [E.out]; rfl, Ext.refl _⟩
theorem mostT_any (k : Int) (w : World) : Calls Tryz.prog 124 #[.int .i64 k] w fun e w' => e = .returned (.int .i64 (mostT k)) ∧ w = w' := by
  by_cases h1 : k = 1
  · have e : mostT k = 20 := by simp [mostT, h1]
    have E := Lib.hid e
    have d1 : (k == 1) = true := by simpa using h1
    clear e h1
    go_enter Tryz.func124, Tryz.ntmps124
    go_wp2_with fail
    go_ret
    exact ⟨by rw [E.out]; rfl, rfl⟩
  · have d1 : (k == 1) = false := by simpa using h1
    by_cases h2 : k = 2
    · have e : mostT k = 3 := by simp [mostT, h2]
      have E := Lib.hid e
      have d2 : (k == 2) = true := by simpa using h2
      clear e h1 h2
      go_enter Tryz.func124, Tryz.ntmps124
      go_wp2_with fail
      go_ret
      exact ⟨by rw [E.out]; rfl, rfl⟩
    · have e : mostT k = 0 := by simp [mostT, h1, h2]
      have E := Lib.hid e
      have d2 : (k == 2) = false := by simpa using h2
      clear e h1 h2
      go_enter Tryz.func124, Tryz.ntmps124
      go_wp2_with fail
      go_ret
      exact ⟨by rw [E.out]; rfl, rfl⟩
end Go.Proofs.YtolkohncmidpeaaGreatDoor
namespace Go.Proofs.YtolkohncmidpeaaGreatDoor
open Go.RowKit
set_option linter.unusedVariables false
def ScanTermC (t : Tr) : Prop := ∀ (w : World) (B g : Nat) (v : Value) (deep c : Int), InT w (fun b => b < B) t v → B ≤ g → w.heap[g]? = some (.cells #[.int .i64 c] 3 (0, 0)) → 0 ≤ c → c ≤ 400 → 0 ≤ deep → deep ≤ 40 →
  Calls Tryz.prog 84 #[v, .int .i64 deep, .pointer (some ⟨g, 0, none⟩)] w fun e w' => e = .returned (.bool (scanR sigT t deep c).1) ∧ w'.heap[g]? = some (.cells #[.int .i64 (scanR sigT t deep c).2] 3 (0, 0)) ∧ Below B w w'
set_option maxRecDepth 100000 in
set_option maxHeartbeats 1600000 in
theorem scanTerm_any : ∀ t : Tr, ScanTermC t := Tr.ind fun k n ks hk => by
  intro w B g v deep c hin hBg hblk hc0 hc1 hd0 hd1
  obtain ⟨A, cap, rfl, hl, hc, h⟩ := InT.mk_iff.1 hin
  clear hin
  have hc' := hc
  unfold maxLen at hc'
  have hgs := lt_of_blk hblk
  have q0 : w.cell? ⟨g, 0, none⟩ = some (.int .i64 c) := cell_of_blk hblk 0
  have q1 := frozen_of_blk hblk 0
  have e : scanR sigT (.mk k n ks) deep c = if 400 < c + 1 then (false, c + 1) else if 30 < deep then (false, c + 1) else if opsT k = (ks.length : Int) then (if inR n 0 (mostT k) = true then scanRs sigT ks (deep + 1) (c + 1) else (false, c + 1)) else (false, c + 1) := by
    unfold scanR; rfl
  have E := Lib.hid e
  have HB := Lib.hid hblk
  have hW : ∀ W, W = (w.setCell ⟨g, 0, none⟩ (.int .i64 (c + 1))).alloc (.cells #[.int .i64 k, .int .i64 n, .slice A ks.length cap] 45) → W.heap[g]? = some (.cells #[.int .i64 (c + 1)] 3 (0, 0)) ∧ W.heap[w.heap.size]? = some (.cells #[.int .i64 k, .int .i64 n, .slice A ks.length cap] 45 (0, 0)) ∧ Below B w W ∧ w.heap.size < W.heap.size := by
    rintro W rfl
    have e0 := heap_alloc_new (w.setCell ⟨g, 0, none⟩ (.int .i64 (c + 1))) (.cells #[.int .i64 k, .int .i64 n, .slice A ks.length cap] 45)
    rw [World.size_setCell] at e0
    exact ⟨blk_alloc (blk_setCell HB.out 0 _) _, e0, ((Below.refl B w).setCell hBg _).alloc (by simp; omega) _, by simp⟩
  have HW := Lib.hid hW
  clear hW e 
  by_cases a1 : 400 < c + 1
  · rw [if_pos a1] at E
    have d1 : decide (400 < c + 1) = true := decide_eq_true a1
    go_enter Tryz.func84, Tryz.ntmps84
    go_wp2_with fail
    have hb := HW.out _ rfl
    generalize (w.setCell _ _).alloc _ = W at hb
    obtain ⟨b1, b2, b3, b4⟩ := hb
    obtain ⟨y0, y1, y2⟩ := Later.own3 b2
    have y3 : ∀ y : Later W, y.world.cell? ⟨g, 0, none⟩ = some (.int .i64 (c + 1)) := fun y => Later.cell (cell_of_blk b1 0) y
    have B1 := Lib.hid b1
    have B2 := Lib.hid b2
    clear b2 b1 q0 q1 hblk
    refine wp_region_later (by kernel_rfl) (by kernel_rfl) ?_
    repeat (go_big_quiet_step (first | (go_at_call 123; exact later_of (opsT_any _ _)) | (go_at_call 57; exact later_of_same (within_any _ _ _ _)) | (go_at_call 124; exact later_of_same (mostT_any _ _))))
    refine wpQuiet_nil ?_
    intro w3 hw'
    obtain ⟨⟨_, h3⟩, rfl⟩ := hw'
    clear y0 y1 y2 y3
    go_wp2_with fail
    go_ret
    exact ⟨by rw [E.out]; rfl, by rw [E.out]; exact h3.blk B1.out, b3.trans (h3.mono (by omega))⟩
  rw [if_neg a1] at E
  have d1 : decide (400 < c + 1) = false := decide_eq_false a1
  by_cases a2 : 30 < deep
  · rw [if_pos a2] at E
    have d2 : decide (30 < deep) = true := decide_eq_true a2
    go_enter Tryz.func84, Tryz.ntmps84
    go_wp2_with fail
    have hb := HW.out _ rfl
    generalize (w.setCell _ _).alloc _ = W at hb
    obtain ⟨b1, b2, b3, b4⟩ := hb
    obtain ⟨y0, y1, y2⟩ := Later.own3 b2
    have y3 : ∀ y : Later W, y.world.cell? ⟨g, 0, none⟩ = some (.int .i64 (c + 1)) := fun y => Later.cell (cell_of_blk b1 0) y
    have B1 := Lib.hid b1
    have B2 := Lib.hid b2
    clear b2 b1 q0 q1 hblk
    refine wp_region_later (by kernel_rfl) (by kernel_rfl) ?_
    repeat (go_big_quiet_step (first | (go_at_call 123; exact later_of (opsT_any _ _)) | (go_at_call 57; exact later_of_same (within_any _ _ _ _)) | (go_at_call 124; exact later_of_same (mostT_any _ _))))
    refine wpQuiet_nil ?_
    intro w3 hw'
    obtain ⟨⟨_, h3⟩, rfl⟩ := hw'
    clear y0 y1 y2 y3
    go_wp2_with fail
    go_ret
    exact ⟨by rw [E.out]; rfl, by rw [E.out]; exact h3.blk B1.out, b3.trans (h3.mono (by omega))⟩
  rw [if_neg a2] at E
  have d2 : decide (30 < deep) = false := decide_eq_false a2
  by_cases a3 : opsT k = (ks.length : Int)
  · rw [if_pos a3] at E
    have d3 : (opsT k != (ks.length : Int)) = false := by rw [a3]; simp
    clear a3
    obtain ⟨z, hz⟩ : ∃ z, inR n 0 (mostT k) = z := ⟨_, rfl⟩
    cases z with
    | false =>
      rw [hz, if_neg (by decide)] at E
      go_enter Tryz.func84, Tryz.ntmps84
      go_wp2_with fail
      have hb := HW.out _ rfl
      generalize (w.setCell _ _).alloc _ = W at hb
      obtain ⟨b1, b2, b3, b4⟩ := hb
      obtain ⟨y0, y1, y2⟩ := Later.own3 b2
      have y3 : ∀ y : Later W, y.world.cell? ⟨g, 0, none⟩ = some (.int .i64 (c + 1)) := fun y => Later.cell (cell_of_blk b1 0) y
      have B1 := Lib.hid b1
      have B2 := Lib.hid b2
      clear b2 b1 q0 q1 hblk
      refine wp_region_later (by kernel_rfl) (by kernel_rfl) ?_
      repeat (go_big_quiet_step (first | (go_at_call 123; exact later_of (opsT_any _ _)) | (go_at_call 57; exact later_of_same (within_any _ _ _ _)) | (go_at_call 124; exact later_of_same (mostT_any _ _))))
      refine wpQuiet_nil ?_
      intro w3 hw'
      obtain ⟨⟨_, h3⟩, rfl⟩ := hw'
      clear y0 y1 y2 y3
      go_wp2_with fail
      go_ret
      exact ⟨by rw [E.out]; rfl, by rw [E.out]; exact h3.blk B1.out, b3.trans (h3.mono (by omega))⟩
    | true =>
      rw [hz, if_pos rfl] at E
      go_enter Tryz.func84, Tryz.ntmps84
      go_wp2_with fail
      have hb := HW.out _ rfl
      generalize (w.setCell _ _).alloc _ = W at hb
      obtain ⟨b1, b2, b3, b4⟩ := hb
      obtain ⟨y0, y1, y2⟩ := Later.own3 b2
      have y3 : ∀ y : Later W, y.world.cell? ⟨g, 0, none⟩ = some (.int .i64 (c + 1)) := fun y => Later.cell (cell_of_blk b1 0) y
      have B1 := Lib.hid b1
      have B2 := Lib.hid b2
      clear b2 b1 q0 q1 hblk
      refine wp_region_later (by kernel_rfl) (by kernel_rfl) ?_
      repeat (go_big_quiet_step (first | (go_at_call 123; exact later_of (opsT_any _ _)) | (go_at_call 57; exact later_of_same (within_any _ _ _ _)) | (go_at_call 124; exact later_of_same (mostT_any _ _))))
      refine wpQuiet_nil ?_
      intro w3 hw'
      obtain ⟨⟨_, h3⟩, rfl⟩ := hw'
      clear y0 y1 y2 y3
      clear hz
      obtain ⟨z0, z1, z2, -, -, -⟩ := own3 (h3.blk B2.out)
      have hg3 := h3.blk B1.out
      have hB3 : Below B w w3 := b3.trans (h3.mono (by omega))
      have B4 := Lib.hid hg3
      clear hg3
      go_wp2_with fail
      clear z0 z1 z2
      go_loopw [43] (fun i wr => ∃ (j : Nat) (q : Int), j ≤ ks.length ∧ i = .int .i64 j ∧ wr.heap[g]? = some (.cells #[.int .i64 q] 3 (0, 0)) ∧ 0 ≤ q ∧ q ≤ 400 ∧ Below B w wr ∧ scanRs sigT ks (deep + 1) (c + 1) = scanRs sigT (ks.drop j) (deep + 1) q) (fun i _ => ks.length - (intOf i).toNat)
      case atStart => exact ⟨0, c + 1, Nat.zero_le _, rfl, B4.out, by omega, by omega, hB3, rfl⟩
      case round =>
        obtain ⟨j, q, hj, rfl, hblk, hq0, hq1, hbel, heq⟩ := hrel
        have HE := Lib.hid heq
        clear heq
        by_cases hlt : j < ks.length
        · obtain ⟨b, o, k2, n2, A2, cap2, kids, rfl, HK, c0, c1, c2, hkl, hkc, hK, hin, hmem, hSb⟩ := h.get (fun x hx => hbel.block x hx) hlt
          have hks := List.drop_eq_getElem_cons hlt
          rw [HK.out] at hks
          have hst : scanRs sigT (ks.drop j) (deep + 1) q = if (scanR sigT (.mk k2 n2 kids) (deep + 1) q).1 = true then scanRs sigT (ks.drop (j + 1)) (deep + 1) (scanR sigT (.mk k2 n2 kids) (deep + 1) q).2 else (false, (scanR sigT (.mk k2 n2 kids) (deep + 1) q).2) := by rw [hks]; conv => lhs; unfold scanRs
          have hsp := scanR_spec sigT (.mk k2 n2 kids) (deep + 1) q hq0 hq1
          have HB2 := Lib.hid hblk
          have hgwr := lt_of_blk hblk
          clear hblk hks
          go_wp2_with fail
          have hE1 := (Ext.refl wr).alloc (.cells #[.int .i64 k2, .int .i64 n2, .slice A2 kids.length cap2] 45)
          have hbw : B ≤ wr.heap.size := by omega
          refine (hk _ hmem _ B g _ (deep + 1) q (hin.mono (fun _ h => h) (fun x hx => hE1.heap x (by omega))) hBg (hE1.blk HB2.out) hq0 hq1 (by omega) (by omega)).mono ?_
          rintro e w4 ⟨rfl, h4, h5⟩
          have hbel4 : Below B w w4 := hbel.trans ((Below.mono hE1 hbw).trans h5)
          generalize scanR sigT (.mk k2 n2 kids) (deep + 1) q = r at hst hsp h4
          obtain ⟨r1, r2⟩ := r
          dsimp only at hst hsp h4
          cases r1 with
          | false =>
            rw [if_neg (by decide)] at hst
            have HT := Lib.hid hst
            have H4 := Lib.hid h4
            clear hst h4 hsp
            go_wp2_with fail
            go_ret
            exact ⟨by rw [E.out, HE.out, HT.out]; rfl, by rw [E.out, HE.out, HT.out]; exact H4.out, hbel4⟩
          | true =>
            rw [if_pos rfl] at hst
            have HT := Lib.hid hst
            have H4 := Lib.hid h4
            have hr2 := hsp.2.2.2.2 rfl
            have hr3 := hsp.2.2.1
            clear hst h4 hsp
            go_wp2_with fail
            go_roundw
            case rel => exact ⟨j + 1, r2, by omega, by go_num, H4.out, by omega, hr2, hbel4, by rw [HE.out, HT.out]⟩
            case measure => simp [intOf]; omega
        · have HB2 := Lib.hid hblk
          clear hblk
          go_wp2_with fail
          go_ret
          have hjk : ks.drop j = [] := List.drop_of_length_le (by omega)
          exact ⟨by rw [E.out, HE.out, hjk]; rfl, by rw [E.out, HE.out, hjk]; exact HB2.out, hbel⟩
  · rw [if_neg a3] at E
    have d3 : (opsT k != (ks.length : Int)) = true := by rw [bne_iff_ne]; exact a3
    clear a3
    go_enter Tryz.func84, Tryz.ntmps84
    go_wp2_with fail
    have hb := HW.out _ rfl
    generalize (w.setCell _ _).alloc _ = W at hb
    obtain ⟨b1, b2, b3, b4⟩ := hb
    obtain ⟨y0, y1, y2⟩ := Later.own3 b2
    have y3 : ∀ y : Later W, y.world.cell? ⟨g, 0, none⟩ = some (.int .i64 (c + 1)) := fun y => Later.cell (cell_of_blk b1 0) y
    have B1 := Lib.hid b1
    have B2 := Lib.hid b2
    clear b2 b1 q0 q1 hblk
    refine wp_region_later (by kernel_rfl) (by kernel_rfl) ?_
    repeat (go_big_quiet_step (first | (go_at_call 123; exact later_of (opsT_any _ _)) | (go_at_call 57; exact later_of_same (within_any _ _ _ _)) | (go_at_call 124; exact later_of_same (mostT_any _ _))))
    refine wpQuiet_nil ?_
    intro w3 hw'
    obtain ⟨⟨_, h3⟩, rfl⟩ := hw'
    clear y0 y1 y2 y3
    go_wp2_with fail
    go_ret
    exact ⟨by rw [E.out]; rfl, by rw [E.out]; exact h3.blk B1.out, b3.trans (h3.mono (by omega))⟩
end Go.Proofs.YtolkohncmidpeaaGreatDoor

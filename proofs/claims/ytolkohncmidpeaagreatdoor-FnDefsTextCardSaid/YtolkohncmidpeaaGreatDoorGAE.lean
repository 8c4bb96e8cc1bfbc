/-
  Lemmas towards the law, 5: Valid, Text, Later.
-/
import Derived.Test.YtolkohncmidpeaaGreatDoorGAA
import Derived.Test.YtolkohncmidpeaaGreatDoorGAB
import Derived.BigQuiet
namespace Go.Proofs.YtolkohncmidpeaaGreatDoor
set_option linter.unusedVariables false
def inR (n lo hi : Int) : Bool := decide (lo ≤ n) && decide (n ≤ hi)
theorem inR_iff {n lo hi : Int} : inR n lo hi = true ↔ lo ≤ n ∧ n ≤ hi := by simp [inR]
theorem inR_false {n lo hi : Int} : inR n lo hi = false ↔ n < lo ∨ hi < n := by
  rw [Bool.eq_false_iff, Ne, inR_iff]
  omega
/-- The operands and the greatest N of a kind, for terms and for programs. -/
structure Sig where
  ops : Int → Int
  most : Int → Int
def opsT (k : Int) : Int := if k = 1 then 0 else if k = 2 then 0 else if k = 3 then 2 else if k = 4 then 2 else if k = 5 then 2 else if k = 6 then 0 else if k = 7 then 0 else if k = 8 then 1 else if k = 9 then 4 else if k = 10 then 3 else if k = 11 then 1 else if k = 12 then 3 else if k = 13 then 2 else if k = 14 then 3 else if k = 15 then 1 else if k = 16 then 1 else -1
def mostT (k : Int) : Int := if k = 1 then 20 else if k = 2 then 3 else 0
def sigT : Sig := ⟨opsT, mostT⟩
/-- The node by itself is in order. -/
def headOk (g : Sig) (k n : Int) (len : Nat) : Bool := decide (g.ops k = (len : Int)) && inR n 0 (g.most k)
mutual
def shape (g : Sig) : Tr → Int → Bool
  | .mk k n ks, depth => decide (1 ≤ depth) && (headOk g k n ks.length && shapes g ks (depth - 1))
def shapes (g : Sig) : List Tr → Int → Bool
  | [], _ => true
  | t :: ts, depth => shape g t depth && shapes g ts depth
end
def valid (g : Sig) (t : Tr) : Bool := shape g t 30 && decide (cnt t ≤ 400)
mutual
/-- Counting up to a number. -/
def cntM : Tr → Int → Int
  | .mk _ _ ks, most => cntMs ks most 1
def cntMs : List Tr → Int → Int → Int
  | [], _, n => n
  | t :: ts, most, n => if n ≤ most then cntMs ts most (n + cntM t (most - n)) else n
end
mutual
theorem cntM_le : ∀ (t : Tr) (most : Int), 0 ≤ most → 1 ≤ cntM t most ∧ cntM t most ≤ most + 1 ∧ (cntM t most ≤ most ↔ (cnt t : Int) ≤ most) ∧ (cntM t most ≤ most → cntM t most = cnt t)
  | .mk _ _ ks, most, h => by
    have := cntMs_le ks most 1 (by omega) (by omega)
    simp only [cntM, cnt]
    omega
theorem cntMs_le : ∀ (ts : List Tr) (most n : Int), 1 ≤ n → n ≤ most + 1 → n ≤ cntMs ts most n ∧ cntMs ts most n ≤ most + 1 ∧ (cntMs ts most n ≤ most ↔ n + cnts ts ≤ most) ∧ (cntMs ts most n ≤ most → cntMs ts most n = n + cnts ts)
  | [], most, n, h, h' => by simp only [cntMs, cnts]; omega
  | t :: ts, most, n, h, h' => by
    simp only [cntMs, cnts]
    by_cases hn : n ≤ most
    · rw [if_pos hn]
      have h1 := cntM_le t (most - n) (by omega)
      have h2 := cntMs_le ts most (n + cntM t (most - n)) (by omega) (by omega)
      have h3 := cnt_pos t
      omega
    · rw [if_neg hn]
      have h3 := cnt_pos t
      omega
end
theorem valid_iff {g : Sig} {t : Tr} : valid g t = (shape g t 30 && decide (cntM t 400 ≤ 400)) := by
  have := (cntM_le t 400 (by omega)).2.2.1
  unfold valid
  congr 1
  rw [Bool.eq_iff_iff, decide_eq_true_iff, decide_eq_true_iff]
  omega
mutual
/-- The other way of looking: a count that goes up, and stops. -/
def scanR (g : Sig) : Tr → Int → Int → Bool × Int
  | .mk k n ks, deep, c => if 400 < c + 1 then (false, c + 1) else if 30 < deep then (false, c + 1) else if g.ops k = (ks.length : Int) then (if inR n 0 (g.most k) = true then scanRs g ks (deep + 1) (c + 1) else (false, c + 1)) else (false, c + 1)
def scanRs (g : Sig) : List Tr → Int → Int → Bool × Int
  | [], _, c => (true, c)
  | t :: ts, deep, c => if (scanR g t deep c).1 = true then scanRs g ts deep (scanR g t deep c).2 else (false, (scanR g t deep c).2)
end
mutual
theorem scanR_spec (g : Sig) : ∀ (t : Tr) (deep c : Int), 0 ≤ c → c ≤ 400 → (scanR g t deep c).1 = (shape g t (31 - deep) && decide (c + cnt t ≤ 400)) ∧ ((scanR g t deep c).1 = true → (scanR g t deep c).2 = c + cnt t) ∧ c ≤ (scanR g t deep c).2 ∧ (scanR g t deep c).2 ≤ 401 ∧ ((scanR g t deep c).1 = true → (scanR g t deep c).2 ≤ 400)
  | .mk k n ks, deep, c, h, h' => by
    have hc : (cnt (.mk k n ks) : Int) = cnts ks + 1 := by simp [cnt]
    simp only [scanR, shape, headOk]
    by_cases h1 : 400 < c + 1
    · rw [if_pos h1]
      refine ⟨?_, by simp, by simp; omega, by simp; omega, by simp⟩
      symm
      rw [Bool.and_eq_false_iff]
      exact .inr (decide_eq_false (by omega))
    · rw [if_neg h1]
      by_cases h2 : 30 < deep
      · rw [if_pos h2]
        refine ⟨?_, by simp, by simp; omega, by simp; omega, by simp⟩
        symm
        rw [Bool.and_eq_false_iff, Bool.and_eq_false_iff]
        exact .inl (.inl (decide_eq_false (by omega)))
      · rw [if_neg h2]
        by_cases h3 : g.ops k = (ks.length : Int)
        · rw [if_pos h3]
          by_cases h4 : inR n 0 (g.most k) = true
          · rw [if_pos h4]
            obtain ⟨e1, e2, e3, e4, e5⟩ := scanRs_spec g ks (deep + 1) (c + 1) (by omega) (by omega)
            refine ⟨?_, fun hh => by rw [e2 hh]; omega, by omega, e4, e5⟩
            rw [e1, decide_eq_true h3, h4]
            have ed : 31 - (deep + 1) = 31 - deep - 1 := by omega
            have d1 : decide (1 ≤ 31 - deep) = true := decide_eq_true (by omega)
            rw [ed, d1]
            simp only [Bool.true_and]
            congr 1
            exact decide_eq_decide.2 (by omega)
          · rw [if_neg h4]
            refine ⟨?_, by simp, by simp; omega, by simp; omega, by simp⟩
            simp [h4]
        · rw [if_neg h3]
          refine ⟨?_, by simp, by simp; omega, by simp; omega, by simp⟩
          simp [h3]
theorem scanRs_spec (g : Sig) : ∀ (ts : List Tr) (deep c : Int), 0 ≤ c → c ≤ 400 → (scanRs g ts deep c).1 = (shapes g ts (31 - deep) && decide (c + cnts ts ≤ 400)) ∧ ((scanRs g ts deep c).1 = true → (scanRs g ts deep c).2 = c + cnts ts) ∧ c ≤ (scanRs g ts deep c).2 ∧ (scanRs g ts deep c).2 ≤ 401 ∧ ((scanRs g ts deep c).1 = true → (scanRs g ts deep c).2 ≤ 400)
  | [], deep, c, h, h' => by
    have hc : (cnts [] : Int) = 0 := by simp [cnts]
    have hd : decide (c + (cnts [] : Int) ≤ 400) = true := decide_eq_true (by omega)
    simp only [scanRs, shapes]
    refine ⟨by rw [hd]; rfl, by omega, by omega, by omega, by omega⟩
  | t :: ts, deep, c, h, h' => by
    have hc : (cnts (t :: ts) : Int) = cnt t + cnts ts := by simp [cnts]
    simp only [scanRs, shapes]
    obtain ⟨e1, e2, e3, e4, e5⟩ := scanR_spec g t deep c h h'
    by_cases hs : (scanR g t deep c).1 = true
    · rw [if_pos hs]
      have e2' := e2 hs
      have e5' := e5 hs
      obtain ⟨d1, d2, d3, d4, d5⟩ := scanRs_spec g ts deep (scanR g t deep c).2 (by omega) e5'
      refine ⟨?_, fun hh => by rw [d2 hh, e2']; omega, by omega, d4, d5⟩
      rw [d1]
      rw [hs] at e1
      have e1' := e1.symm
      rw [Bool.and_eq_true] at e1'
      rw [e1'.1]
      simp only [Bool.true_and]
      congr 1
      exact decide_eq_decide.2 (by omega)
    · rw [if_neg hs]
      refine ⟨?_, by simp, e3, e4, by simp⟩
      have hf : (scanR g t deep c).1 = false := by simpa using hs
      rw [hf] at e1
      have e1' := e1.symm
      rw [Bool.and_eq_false_iff] at e1'
      symm
      rw [Bool.and_eq_false_iff, Bool.and_eq_false_iff]
      rcases e1' with e1' | e1'
      · exact .inl (.inl e1')
      · have := of_decide_eq_false e1'
        exact .inr (decide_eq_false (by omega))
end
theorem scanR_valid (g : Sig) (t : Tr) : (scanR g t 1 0).1 = valid g t ∧ (valid g t = true → (scanR g t 1 0).2 = cnt t) := by
  obtain ⟨e1, e2, _⟩ := scanR_spec g t 1 0 (by omega) (by omega)
  have h : (scanR g t 1 0).1 = valid g t := by
    rw [e1]
    unfold valid
    have e : (31 : Int) - 1 = 30 := rfl
    rw [e]
    congr 1
    exact decide_eq_decide.2 (by omega)
  exact ⟨h, fun hv => by rw [e2 (h.trans hv)]; omega⟩
end Go.Proofs.YtolkohncmidpeaaGreatDoor
namespace Go.Proofs.YtolkohncmidpeaaGreatDoor
set_option linter.unusedVariables false
/-- A string of these bytes. -/
def ofL (l : List UInt8) : ByteArray := ⟨l.toArray⟩
theorem ofL_append (a b : List UInt8) : ofL a ++ ofL b = ofL (a ++ b) := by
  apply ByteArray.ext
  simp [ofL]
theorem ofL_size (l : List UInt8) : (ofL l).size = l.length := by simp [ofL, ByteArray.size]
theorem ofL_list (l : List UInt8) : (ofL l).data.toList = l := by simp [ofL]
theorem ofL_of (s : ByteArray) : ofL s.data.toList = s := by
  apply ByteArray.ext
  simp [ofL]
/-- Decimal digits of a number below 100. -/
def decL (n : Int) : List UInt8 := if n ≤ 9 then [UInt8.ofNat (48 + n.toNat)] else [UInt8.ofNat (48 + n.toNat / 10), UInt8.ofNat (48 + n.toNat % 10)]
def opn (k : Int) : List UInt8 :=
  if k = 3 then [40] else if k = 4 then [91] else if k = 5 then [40] else if k = 6 then [78] else if k = 7 then [48] else if k = 8 then [43] else if k = 9 then [60] else if k = 10 then [123] else if k = 11 then [33] else if k = 12 then [64, 60] else if k = 13 then [40] else if k = 14 then [124] else if k = 15 then [94] else if k = 16 then [95] else []
def sep (k : Int) : List UInt8 :=
  if k = 3 then [62] else if k = 4 then [93] else if k = 5 then [32] else if k = 13 then [42] else [44]
def cls (k : Int) : List UInt8 :=
  if k = 3 then [41] else if k = 5 then [41] else if k = 9 then [62] else if k = 10 then [125] else if k = 12 then [62] else if k = 13 then [41] else if k = 14 then [124] else []
mutual
/-- The text of a term. -/
def fmtL : Tr → List UInt8
  | .mk k n ks => if k = 1 then 35 :: decL n else if k = 2 then 42 :: decL n else opn k ++ fmtK (sep k) ks true ++ cls k
/-- The texts of operands, with a sign between them. -/
def fmtK : List UInt8 → List Tr → Bool → List UInt8
  | _, [], _ => []
  | s, t :: ts, f => (if f = true then [] else s) ++ fmtL t ++ fmtK s ts false
end
theorem decL_len (n : Int) : (decL n).length ≤ 2 := by unfold decL; split <;> simp
theorem opn_len (k : Int) : (opn k).length ≤ 2 := by
  unfold opn
  by_cases h3 : k = 3
  · rw [if_pos h3]; decide
  rw [if_neg h3]
  by_cases h4 : k = 4
  · rw [if_pos h4]; decide
  rw [if_neg h4]
  by_cases h5 : k = 5
  · rw [if_pos h5]; decide
  rw [if_neg h5]
  by_cases h6 : k = 6
  · rw [if_pos h6]; decide
  rw [if_neg h6]
  by_cases h7 : k = 7
  · rw [if_pos h7]; decide
  rw [if_neg h7]
  by_cases h8 : k = 8
  · rw [if_pos h8]; decide
  rw [if_neg h8]
  by_cases h9 : k = 9
  · rw [if_pos h9]; decide
  rw [if_neg h9]
  by_cases h10 : k = 10
  · rw [if_pos h10]; decide
  rw [if_neg h10]
  by_cases h11 : k = 11
  · rw [if_pos h11]; decide
  rw [if_neg h11]
  by_cases h12 : k = 12
  · rw [if_pos h12]; decide
  rw [if_neg h12]
  by_cases h13 : k = 13
  · rw [if_pos h13]; decide
  rw [if_neg h13]
  by_cases h14 : k = 14
  · rw [if_pos h14]; decide
  rw [if_neg h14]
  by_cases h15 : k = 15
  · rw [if_pos h15]; decide
  rw [if_neg h15]
  by_cases h16 : k = 16
  · rw [if_pos h16]; decide
  rw [if_neg h16]
  decide
theorem sep_len (k : Int) : (sep k).length = 1 := by
  unfold sep
  by_cases h3 : k = 3
  · rw [if_pos h3]; decide
  rw [if_neg h3]
  by_cases h4 : k = 4
  · rw [if_pos h4]; decide
  rw [if_neg h4]
  by_cases h5 : k = 5
  · rw [if_pos h5]; decide
  rw [if_neg h5]
  by_cases h13 : k = 13
  · rw [if_pos h13]; decide
  rw [if_neg h13]
  decide
theorem cls_len (k : Int) : (cls k).length ≤ 1 := by
  unfold cls
  by_cases h3 : k = 3
  · rw [if_pos h3]; decide
  rw [if_neg h3]
  by_cases h5 : k = 5
  · rw [if_pos h5]; decide
  rw [if_neg h5]
  by_cases h9 : k = 9
  · rw [if_pos h9]; decide
  rw [if_neg h9]
  by_cases h10 : k = 10
  · rw [if_pos h10]; decide
  rw [if_neg h10]
  by_cases h12 : k = 12
  · rw [if_pos h12]; decide
  rw [if_neg h12]
  by_cases h13 : k = 13
  · rw [if_pos h13]; decide
  rw [if_neg h13]
  by_cases h14 : k = 14
  · rw [if_pos h14]; decide
  rw [if_neg h14]
  decide
mutual
theorem fmtL_len : ∀ t : Tr, (fmtL t).length + 1 ≤ 5 * cnt t
  | .mk k n ks => by
    have h1 := decL_len n
    have h2 := opn_len k
    have h3 := cls_len k
    have h4 := fmtK_len (sep k) (by rw [sep_len k]; omega) ks true
    unfold fmtL
    simp only [cnt]
    split
    · simp; omega
    · split
      · simp; omega
      · simp; omega
theorem fmtK_len (s : List UInt8) (hs : s.length ≤ 1) : ∀ (ts : List Tr) (f : Bool), (fmtK s ts f).length ≤ 5 * cnts ts
  | [], _ => by simp [fmtK]
  | t :: ts, f => by
    have h1 := fmtL_len t
    have h2 := fmtK_len s hs ts false
    unfold fmtK
    simp only [cnts]
    cases f <;> simp <;> omega
end
/-- FormatTerm's answer. -/
def fmtV (t : Tr) : List UInt8 := if valid sigT t = true then fmtL t else []
def isDig (c : UInt8) : Bool := decide (48 ≤ c) && decide (c ≤ 57)
/-- One or two decimal digits from an offset on. -/
def numS (l : List UInt8) (a : Nat) (two : Bool) : Option (Int × Nat) :=
  match l[a]? with
  | none => none
  | some c => if isDig c = true then
      (if two = true then
        match l[a + 1]? with
        | none => some ((c.toNat : Int) - 48, a + 1)
        | some d => if isDig d = true then (if c = 48 then none else some (((c.toNat : Int) - 48) * 10 + ((d.toNat : Int) - 48), a + 2)) else some ((c.toNat : Int) - 48, a + 1)
      else some ((c.toNat : Int) - 48, a + 1))
    else none
/-- Some terms, separated by commas, and a closing sign. -/
def ser (p : Nat → Option (Tr × Nat)) (l : List UInt8) (last : UInt8) : Nat → Nat → Option (List Tr × Nat)
  | 0, a => some ([], a)
  | m + 1, a => match p a with
    | none => none
    | some (t, b) => if l[b]? = some (if m = 0 then last else 44) then (ser p l last m (b + 1)).map (fun x => (t :: x.1, x.2)) else none
def one (k : Int) (x : Option (Tr × Nat)) : Option (Tr × Nat) := x.map fun y => (.mk k 0 [y.1], y.2)
def rndK (c : Option UInt8) : Int := if c = some 62 then 3 else if c = some 42 then 13 else if c = some 32 then 5 else 0
/-- Behind a round bracket. -/
def rnd (p : Nat → Option (Tr × Nat)) (l : List UInt8) (a : Nat) : Option (Tr × Nat) :=
  match p a with
  | none => none
  | some (x, b) => if rndK l[b]? = 0 then none else
    match p (b + 1) with
    | none => none
    | some (y, c) => if l[c]? = some 41 then some (.mk (rndK l[b]?) 0 [x, y], c + 1) else none
/-- Behind a square bracket. -/
def sqr (p : Nat → Option (Tr × Nat)) (l : List UInt8) (a : Nat) : Option (Tr × Nat) :=
  match p a with
  | none => none
  | some (x, b) => if l[b]? = some 93 then (match p (b + 1) with | none => none | some (y, c) => some (.mk 4 0 [x, y], c)) else none
def blkK (c : UInt8) : Int := if c = 60 then 9 else if c = 123 then 10 else if c = 124 then 14 else if c = 64 then 12 else 0
def blkE (c : UInt8) : UInt8 := if c = 123 then 125 else if c = 124 then 124 else 62
/-- Three or four operands. -/
def blk (p : Nat → Option (Tr × Nat)) (l : List UInt8) (a : Nat) (c : UInt8) : Option (Tr × Nat) :=
  if blkK c = 0 then none
  else if c = 64 then (if l[a + 1]? = some 60 then (ser p l 62 3 (a + 2)).map (fun x => (.mk 12 0 x.1, x.2)) else none)
  else (ser p l (blkE c) (if c = 60 then 4 else 3) (a + 1)).map (fun x => (.mk (blkK c) 0 x.1, x.2))
/-- The term at an offset, and the offset behind it. -/
def prs : Nat → List UInt8 → Nat → Option (Tr × Nat)
  | 0, _, _ => none
  | d + 1, l, a =>
    match l[a]? with
    | none => none
    | some c =>
      if c = 35 then (numS l (a + 1) true).map (fun x => (.mk 1 x.1 [], x.2))
      else if c = 42 then (numS l (a + 1) false).map (fun x => (.mk 2 x.1 [], x.2))
      else if c = 78 then some (.mk 6 0 [], a + 1)
      else if c = 48 then some (.mk 7 0 [], a + 1)
      else if c = 43 then one 8 (prs d l (a + 1))
      else if c = 33 then one 11 (prs d l (a + 1))
      else if c = 94 then one 15 (prs d l (a + 1))
      else if c = 95 then one 16 (prs d l (a + 1))
      else if c = 40 then rnd (prs d l) l (a + 1)
      else if c = 91 then sqr (prs d l) l (a + 1)
      else blk (prs d l) l a c
/-- ParseTerm's answer. -/
def prsV (l : List UInt8) : Option Tr :=
  match prs 30 l 0 with
  | none => none
  | some (t, b) => if l ≠ [] ∧ b = l.length ∧ fmtV t = l then some t else none
theorem prsV_valid {l : List UInt8} {t : Tr} (h : prsV l = some t) : valid sigT t = true ∧ fmtL t = l := by
  unfold prsV at h
  split at h
  · cases h
  · rename_i t' b _
    split at h
    · rename_i hh
      cases h
      obtain ⟨h1, h2, h3⟩ := hh
      unfold fmtV at h3
      split at h3
      · rename_i hv
        exact ⟨hv, h3⟩
      · exact absurd h3.symm h1
    · cases h
end Go.Proofs.YtolkohncmidpeaaGreatDoor
namespace Go.Proofs.YtolkohncmidpeaaGreatDoor
open Go.RowKit
set_option linter.unusedVariables false
/-- What holds in w and in every later world. -/
def At (w : World) (p : World → Prop) : Prop := ∀ w', Ext w w' → p w'
theorem At.step {w w' : World} {p : World → Prop} (h : At w p) (he : Ext w w') : At w' p := fun x hx => h x (he.trans hx)
theorem At.lies {w : World} {t : Tr} {v : Value} (h : Lies w t v) : At w (fun w' => Lies w' t v) := fun _ hx => h.ext hx
theorem At.and {w : World} {p q : World → Prop} (h : At w p) (k : At w q) : At w (fun w' => p w' ∧ q w') := fun x hx => ⟨h x hx, k x hx⟩
/-- A world that has what W had, and more. -/
structure Later (W : World) where
  world : World
  ext : Ext W world
instance (W : World) : Nonempty (Later W) := ⟨⟨W, Ext.refl W⟩⟩
theorem wp_region_later {P : Program} {id : Nat} {Q : Exit → Act → World → Prop} {a : Act} {W : World} {l : List Oper} (hm : P.follows .mixedOrders = true) (hB : Region.lexB .any l.toArray = true)
    (h : wpQuiet P l.toArray (fun w' => ∃ x : Later W, w' = x.world) (fun a' => ∀ w', (∃ x : Later W, w' = x.world) → Q .normal a' w') l a) : (Code.region id l.toArray true).wp P Q a W :=
  wp_region_quiet (C := fun w' => ∃ x : Later W, w' = x.world) hm hB ⟨⟨_, (Ext.refl W).drew⟩, rfl⟩ (by simpa using h)
theorem later_of {P : Program} {f : FuncId} {args : Array Value} {W : World} {x : Later W} {v : Value} (h : Calls P f args x.world fun e w' => e = .returned v ∧ Ext x.world w') :
    Calls P f args x.world fun e w'' => e = .returned v ∧ ∃ y : Later W, w'' = y.world :=
  h.mono fun e w' ⟨he, hw⟩ => ⟨he, ⟨w', x.ext.trans hw⟩, rfl⟩
theorem later_of_same {P : Program} {f : FuncId} {args : Array Value} {W : World} {x : Later W} {v : Value} (h : Calls P f args x.world fun e w' => e = .returned v ∧ x.world = w') :
    Calls P f args x.world fun e w'' => e = .returned v ∧ ∃ y : Later W, w'' = y.world :=
  h.mono fun e w' ⟨he, hw⟩ => ⟨he, x, hw.symm⟩
/-- A struct's three cells, in every later world. -/
theorem Later.own3 {W : World} {g : Nat} {x0 x1 x2 : Value} {e : TypeId} (hb : W.heap[g]? = some (.cells #[x0, x1, x2] e (0, 0))) :
    (∀ y : Later W, y.world.cell? ⟨g, 0, none⟩ = some x0) ∧ (∀ y : Later W, y.world.cell? ⟨g, 1, none⟩ = some x1) ∧ (∀ y : Later W, y.world.cell? ⟨g, 2, none⟩ = some x2) :=
  ⟨fun y => y.ext.cell (cell_of_blk hb 0), fun y => y.ext.cell (cell_of_blk hb 1), fun y => y.ext.cell (cell_of_blk hb 2)⟩
theorem Later.cell {W : World} {b o : Nat} {v : Value} (h : W.cell? ⟨b, o, none⟩ = some v) (y : Later W) : y.world.cell? ⟨b, o, none⟩ = some v := y.ext.cell h
end Go.Proofs.YtolkohncmidpeaaGreatDoor

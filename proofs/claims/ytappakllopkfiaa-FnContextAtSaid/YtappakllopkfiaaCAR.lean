/-
  Lemmas towards the law, 18: Node, SpExtract, Text.
-/
import Derived.Test.YtappakllopkfiaaCAC
import Derived.Test.YtappakllopkfiaaCAE
import Derived.Test.YtappakllopkfiaaCAH
import Derived.Test.YtappakllopkfiaaCAI
import Derived.Test.YtappakllopkfiaaCAL
import Derived.Deep.RegionHeld3
import Derived.Outline
import Derived.Test.YtappakllopkfiaaProg
namespace Go.Proofs.Ytappakllopkfiaa
open Go.RowKit
set_option linter.unusedVariables false
/-- The blocks of S, and those that came into being between w and w'. -/
def Plus (S : Nat → Prop) (w w' : World) (b : Nat) : Prop := S b ∨ w.heap.size ≤ b ∧ b < w'.heap.size
/-- A tree all whose rows came into being between w and w'. -/
def New (w w' : World) (t : Tr) (v : Value) : Prop := InT w' (fun b => w.heap.size ≤ b ∧ b < w'.heap.size) t v
theorem New.lies {w w' : World} {t : Tr} {v : Value} (h : New w w' t v) : Lies w' t v := h.mono (fun _ hb => hb.2) (fun _ _ => rfl)
theorem New.ext {w w' w2 : World} {t : Tr} {v : Value} (h : New w w' t v) (he : Ext w' w2) : New w w2 t v := h.mono (fun b hb => ⟨hb.1, Nat.lt_of_lt_of_le hb.2 he.size⟩) (fun b hb => he.heap b hb.2)
theorem New.since {a w w' : World} {t : Tr} {v : Value} (h : New w w' t v) (ha : a.heap.size ≤ w.heap.size) : New a w' t v := h.mono (fun b hb => ⟨Nat.le_trans ha hb.1, hb.2⟩) (fun _ _ => rfl)
theorem New.after {w w1 w2 : World} {t : Tr} {v : Value} (h : New w w1 t v) (ha : Above w.heap.size w1 w2) : New w w2 t v := h.mono (fun b hb => ⟨hb.1, Nat.lt_of_lt_of_le hb.2 ha.2⟩) (fun b hb => ha.1 b hb.1)
theorem New.leaf (w w' : World) (k n : Int) : New w w' (.mk k n []) (.agg #[.int .i64 k, .int .i64 n, .slice none 0 0]) := InT.mk_iff.2 ⟨none, 0, rfl, Nat.le_refl _, Nat.zero_le _, .inl rfl⟩
theorem InK.one {w : World} {S : Nat → Prop} {e : TypeId} {t : Tr} {v0 v1 v2 : Value} {g : Nat} (h : InT w S t (.agg #[v0, v1, v2])) (hg : w.heap[g]? = some (.cells #[v0, v1, v2] e (0, 0))) (hS : S g) : InK w S (some ⟨g, 0, none⟩) [t] := by
  refine .inr ⟨g, 0, rfl, hS, ?_⟩
  unfold InL
  refine ⟨⟨v0, v1, v2, cell_of_blk hg 0, cell_of_blk hg 1, cell_of_blk hg 2, h⟩, ?_⟩
  unfold InL
  trivial
/-- One tree made: a row of its own. -/
theorem MadeK.one {W wr w1 w : World} {e : TypeId} {t : Tr} {v0 v1 v2 : Value} {g : Nat} (hM : Made wr w1 e t (.agg #[v0, v1, v2])) (hE1 : wr.heap.size ≤ w1.heap.size) (hE : Ext w1 w) (hg : w.heap[g]? = some (.cells #[v0, v1, v2] e (0, 0))) (hgs : w1.heap.size ≤ g) (hW : W.heap.size ≤ wr.heap.size) : MadeK W w e (some ⟨g, 0, none⟩) [t] := by
  obtain ⟨L, h, hf⟩ := hM
  refine ⟨g :: L, .inr ⟨g, _, L, rfl, hg, rfl, OwnL.cons_iff.2 ⟨v0, v1, v2, [], L, [], rfl, h.mono fun b hb => hE.heap b (hf.2 b hb).2, OwnL.nil, by simp⟩⟩, List.nodup_cons.2 ⟨fun hm => ?_, hf.1⟩, fun b hm => ?_⟩
  · have := (hf.2 g hm).2
    omega
  · have := hE.size
    rcases List.mem_cons.1 hm with rfl | hm
    · exact ⟨by omega, lt_of_blk hg⟩
    · have := hf.2 b hm
      omega
theorem l1Leaf_any (w : World) (k n : Int) : Calls Try.prog 144 #[.int .i64 k, .int .i64 n] w fun e w' => e = .returned (.agg #[.int .i64 k, .int .i64 n, .slice none 0 0]) ∧ Ext w w' := by
  go_enter Try.func144, Try.ntmps144
  go_wp2_with fail
  exact bodyPost_ret (v := .agg #[.int .i64 k, .int .i64 n, .slice none 0 0]) (by simp [results, Try.results144, go_sem]) rfl ⟨rfl, (Ext.refl w).alloc _⟩
theorem infoNTerm : (Try.prog.info? 44).map (fun i => (i.zero, i.size, i.bytes)) = some (some (.agg #[.int .i64 0, .int .i64 0, .slice none 0 0]), 3, 40) := by kernel_rfl
theorem l1Node_any (w : World) (k : Int) (A : Option Addr) (cap : Nat) (ks : List Tr) (hA : A = none → cap = 0) (S : Nat → Prop) (hS : ∀ b, S b → b < w.heap.size) (hK : InK w S A ks) (hn : ks.length ≤ 1099511627776) :
    Calls Try.prog 126 #[.int .i64 k, .slice A ks.length cap] w fun e w' => ∃ u, e = .returned u ∧ InT w' (Plus S w w') (.mk k 0 ks) u ∧ Ext w w' := by
  obtain ⟨i0, hi, hz0, hz1, hz2⟩ := info_parts infoNTerm
  have hK' : InK (w.alloc (.cells #[.int .i64 0, .int .i64 0, .slice none 0 0] 44)) S A ks := InK.mono (fun _ h => h) (fun b hb => Below.heap_alloc w _ b (hS b hb)) hK
  go_enter Try.func126, Try.ntmps126
  go_wp2_with (at_builtin; refine wpList_append_copy _ rfl (.tmp 6) (.tmp 7) 42 rfl 44 i0 _ Try.underlying42 hi hz0 hz1 hz2 rfl (W := w.alloc (.cells #[.int .i64 0, .int .i64 0, .slice none 0 0] 44)) (v := .slice (some ⟨w.heap.size + 1, 0, none⟩) 0 0) (A := A) (cap := cap) (ks := ks) rfl ?ow ((Ext.refl _).alloc _) rfl hA ?hS hK' hn ?_)
  case ow => simpa using World.ownsRow_lit (base := w.heap.size + 1) (e := 44) (size := 3) (w.alloc (.cells #[.int .i64 0, .int .i64 0, .slice none 0 0] 44)) #[] 0 (by simp) (Nat.zero_le _) rfl
  case hS => intro b hb; have := hS b hb; simp; omega
  intro B c' w2 hB hc1 hc2 hE _
  have hb := blk1 hE
  obtain ⟨r0, r1, r2, p0, p1, p2⟩ := own3 hb.1
  have hEs := hE.pre
  have hlt := hb.2
  clear hi hz0 hz1 hz2 hK' hb
  go_wp2_with fail
  refine bodyPost_ret (v := .agg #[.int .i64 k, .int .i64 0, .slice B ks.length c']) (by simp [results, Try.results126, go_sem, r0, r1, r2]) rfl ⟨_, rfl, InT.mk_iff.2 ⟨_, _, rfl, hc1, hc2, hB.mono ?_ ?_⟩, ?_⟩
  · intro b hb
    unfold Plus
    rw [World.size_setCell, World.size_setCell, World.size_setCell]
    rcases hb with hb | hb
    · exact .inl hb
    · have := hb.1
      exact .inr ⟨by omega, hb.2⟩
  · intro b hb
    have hne : b ≠ w.heap.size := by
      rcases hb with hb | hb
      · have := hS b hb
        omega
      · have := hb.1
        omega
    rw [Below.heap_setCell _ _ _ _ hne, Below.heap_setCell _ _ _ _ hne, Below.heap_setCell _ _ _ _ hne]
  · exact ((hEs.setCell (Nat.le_refl _) _).setCell (Nat.le_refl _) _).setCell (Nat.le_refl _) _
/-- The three cells of a made tree. -/
theorem Made.three {w w' : World} {e : TypeId} {t : Tr} {u : Value} (h : Made w w' e t u) : ∃ k n A l c, u = .agg #[.int .i64 k, .int .i64 n, .slice A l c] := by
  obtain ⟨k, n, ks⟩ := t
  obtain ⟨A, cap, rfl, _⟩ := Made.mk_iff.1 h
  exact ⟨k, n, A, _, cap, rfl⟩
theorem Lies.three {w : World} {t : Tr} {u : Value} (h : Lies w t u) : ∃ k n A l c, u = .agg #[.int .i64 k, .int .i64 n, .slice A l c] := by
  obtain ⟨k, n, ks⟩ := t
  obtain ⟨A, cap, rfl, _⟩ := Lies.mk_iff.1 h
  exact ⟨k, n, A, _, cap, rfl⟩
end Go.Proofs.Ytappakllopkfiaa
namespace Go.Proofs.Ytappakllopkfiaa
open Go.RowKit
set_option linter.unusedVariables false
theorem InK.two {w : World} {S : Nat → Prop} {e : TypeId} {t t' : Tr} {v0 v1 v2 u0 u1 u2 : Value} {g : Nat} (h : InT w S t (.agg #[v0, v1, v2])) (h' : InT w S t' (.agg #[u0, u1, u2])) (hg : w.heap[g]? = some (.cells #[v0, v1, v2, u0, u1, u2] e (0, 0))) (hS : S g) : InK w S (some ⟨g, 0, none⟩) [t, t'] := by
  refine .inr ⟨g, 0, rfl, hS, ?_⟩
  unfold InL
  refine ⟨⟨v0, v1, v2, cell_of_blk hg 0, cell_of_blk hg 1, cell_of_blk hg 2, h⟩, ?_⟩
  unfold InL
  refine ⟨⟨u0, u1, u2, cell_of_blk hg 3, cell_of_blk hg 4, cell_of_blk hg 5, h'⟩, ?_⟩
  unfold InL
  trivial
theorem InK.three {w : World} {S : Nat → Prop} {e : TypeId} {t t' t2 : Tr} {v0 v1 v2 u0 u1 u2 x0 x1 x2 : Value} {g : Nat} (h : InT w S t (.agg #[v0, v1, v2])) (h' : InT w S t' (.agg #[u0, u1, u2])) (h2 : InT w S t2 (.agg #[x0, x1, x2])) (hg : w.heap[g]? = some (.cells #[v0, v1, v2, u0, u1, u2, x0, x1, x2] e (0, 0))) (hS : S g) : InK w S (some ⟨g, 0, none⟩) [t, t', t2] := by
  refine .inr ⟨g, 0, rfl, hS, ?_⟩
  unfold InL
  refine ⟨⟨v0, v1, v2, cell_of_blk hg 0, cell_of_blk hg 1, cell_of_blk hg 2, h⟩, ?_⟩
  unfold InL
  refine ⟨⟨u0, u1, u2, cell_of_blk hg 3, cell_of_blk hg 4, cell_of_blk hg 5, h'⟩, ?_⟩
  unfold InL
  refine ⟨⟨x0, x1, x2, cell_of_blk hg 6, cell_of_blk hg 7, cell_of_blk hg 8, h2⟩, ?_⟩
  unfold InL
  trivial
theorem InT.three {w : World} {S : Nat → Prop} {t : Tr} {u : Value} (h : InT w S t u) : ∃ k n A l c, u = .agg #[.int .i64 k, .int .i64 n, .slice A l c] := by
  obtain ⟨k, n, ks⟩ := t
  obtain ⟨A, cap, rfl, _⟩ := InT.mk_iff.1 h
  exact ⟨k, n, A, _, cap, rfl⟩
/-- What came into being since W, in a later world. -/
theorem New.to {W w w1 w2 : World} {t : Tr} {v : Value} (h : New w w1 t v) (he : Ext w1 w2) (hW : W.heap.size ≤ w.heap.size) {S : Nat → Prop} (hS : ∀ b, W.heap.size ≤ b → b < w1.heap.size → S b) : InT w2 S t v :=
  h.mono (fun b hb => hS b (Nat.le_trans hW hb.1) hb.2) (fun b hb => he.heap b hb.2)
end Go.Proofs.Ytappakllopkfiaa
namespace Go.Proofs.Ytappakllopkfiaa
set_option linter.unusedVariables false
/-- A string of these bytes. -/
def ofL (l : List UInt8) : ByteArray := ⟨l.toArray⟩
theorem ofL_append (a b : List UInt8) : ofL a ++ ofL b = ofL (a ++ b) := by
  apply ByteArray.ext
  simp [ofL]
theorem ofL_size (l : List UInt8) : (ofL l).size = l.length := by simp [ofL, ByteArray.size]
theorem ofL_list (l : List UInt8) : (ofL l).data.toList = l := by simp [ofL]
/-- Decimal digits of a number below 100. -/
def decL (n : Int) : List UInt8 := if n ≤ 9 then [UInt8.ofNat (48 + n.toNat)] else [UInt8.ofNat (48 + n.toNat / 10), UInt8.ofNat (48 + n.toNat % 10)]
def opn (k : Int) : List UInt8 :=
  if k = 3 then [40] else if k = 4 then [91] else if k = 5 then [40] else if k = 6 then [78] else if k = 7 then [48] else if k = 8 then [43] else if k = 9 then [60] else if k = 10 then [123] else if k = 11 then [33] else if k = 12 then [64, 60] else if k = 13 then [40] else if k = 14 then [124] else if k = 15 then [94] else if k = 16 then [95] else []
def sep (k : Int) : List UInt8 :=
  if k = 3 then [62] else if k = 4 then [93] else if k = 5 then [32] else if k = 13 then [42] else [44]
def cls (k : Int) : List UInt8 :=
  if k = 3 then [41] else if k = 5 then [41] else if k = 9 then [62] else if k = 10 then [125] else if k = 12 then [62] else if k = 13 then [41] else if k = 14 then [124] else []
mutual
/-- The text of a term. -/
def fmtL : Tr → List UInt8
  | .mk k n ks => if k = 1 then 35 :: decL n else if k = 2 then 42 :: decL n else opn k ++ fmtK (sep k) ks true ++ cls k
/-- The texts of operands, with a sign between them. -/
def fmtK : List UInt8 → List Tr → Bool → List UInt8
  | _, [], _ => []
  | s, t :: ts, f => (if f = true then [] else s) ++ fmtL t ++ fmtK s ts false
end
theorem decL_len (n : Int) : (decL n).length ≤ 2 := by unfold decL; split <;> simp
theorem opn_len (k : Int) : (opn k).length ≤ 2 := by
  unfold opn
  by_cases h3 : k = 3
  · rw [if_pos h3]; decide
  rw [if_neg h3]
  by_cases h4 : k = 4
  · rw [if_pos h4]; decide
  rw [if_neg h4]
  by_cases h5 : k = 5
  · rw [if_pos h5]; decide
  rw [if_neg h5]
  by_cases h6 : k = 6
  · rw [if_pos h6]; decide
  rw [if_neg h6]
  by_cases h7 : k = 7
  · rw [if_pos h7]; decide
  rw [if_neg h7]
  by_cases h8 : k = 8
  · rw [if_pos h8]; decide
  rw [if_neg h8]
  by_cases h9 : k = 9
  · rw [if_pos h9]; decide
  rw [if_neg h9]
  by_cases h10 : k = 10
  · rw [if_pos h10]; decide
  rw [if_neg h10]
  by_cases h11 : k = 11
  · rw [if_pos h11]; decide
  rw [if_neg h11]
  by_cases h12 : k = 12
  · rw [if_pos h12]; decide
  rw [if_neg h12]
  by_cases h13 : k = 13
  · rw [if_pos h13]; decide
  rw [if_neg h13]
  by_cases h14 : k = 14
  · rw [if_pos h14]; decide
  rw [if_neg h14]
  by_cases h15 : k = 15
  · rw [if_pos h15]; decide
  rw [if_neg h15]
  by_cases h16 : k = 16
  · rw [if_pos h16]; decide
  rw [if_neg h16]
  decide
theorem sep_len (k : Int) : (sep k).length = 1 := by
  unfold sep
  by_cases h3 : k = 3
  · rw [if_pos h3]; decide
  rw [if_neg h3]
  by_cases h4 : k = 4
  · rw [if_pos h4]; decide
  rw [if_neg h4]
  by_cases h5 : k = 5
  · rw [if_pos h5]; decide
  rw [if_neg h5]
  by_cases h13 : k = 13
  · rw [if_pos h13]; decide
  rw [if_neg h13]
  decide
theorem cls_len (k : Int) : (cls k).length ≤ 1 := by
  unfold cls
  by_cases h3 : k = 3
  · rw [if_pos h3]; decide
  rw [if_neg h3]
  by_cases h5 : k = 5
  · rw [if_pos h5]; decide
  rw [if_neg h5]
  by_cases h9 : k = 9
  · rw [if_pos h9]; decide
  rw [if_neg h9]
  by_cases h10 : k = 10
  · rw [if_pos h10]; decide
  rw [if_neg h10]
  by_cases h12 : k = 12
  · rw [if_pos h12]; decide
  rw [if_neg h12]
  by_cases h13 : k = 13
  · rw [if_pos h13]; decide
  rw [if_neg h13]
  by_cases h14 : k = 14
  · rw [if_pos h14]; decide
  rw [if_neg h14]
  decide
mutual
theorem fmtL_len : ∀ t : Tr, (fmtL t).length + 1 ≤ 5 * cnt t
  | .mk k n ks => by
    have h1 := decL_len n
    have h2 := opn_len k
    have h3 := cls_len k
    have h4 := fmtK_len (sep k) (by rw [sep_len k]; omega) ks true
    unfold fmtL
    simp only [cnt]
    split
    · simp; omega
    · split
      · simp; omega
      · simp; omega
theorem fmtK_len (s : List UInt8) (hs : s.length ≤ 1) : ∀ (ts : List Tr) (f : Bool), (fmtK s ts f).length ≤ 5 * cnts ts
  | [], _ => by simp [fmtK]
  | t :: ts, f => by
    have h1 := fmtL_len t
    have h2 := fmtK_len s hs ts false
    unfold fmtK
    simp only [cnts]
    cases f <;> simp <;> omega
end
/-- FormatTerm's answer. -/
def fmtV (t : Tr) : List UInt8 := if valid sigT t = true then fmtL t else []
def isDig (c : UInt8) : Bool := decide (48 ≤ c) && decide (c ≤ 57)
/-- One or two decimal digits from an offset on. -/
def numS (l : List UInt8) (a : Nat) (two : Bool) : Option (Int × Nat) :=
  match l[a]? with
  | none => none
  | some c => if isDig c = true then
      (if two = true then
        match l[a + 1]? with
        | none => some ((c.toNat : Int) - 48, a + 1)
        | some d => if isDig d = true then (if c = 48 then none else some (((c.toNat : Int) - 48) * 10 + ((d.toNat : Int) - 48), a + 2)) else some ((c.toNat : Int) - 48, a + 1)
      else some ((c.toNat : Int) - 48, a + 1))
    else none
/-- Some terms, separated by commas, and a closing sign. -/
def ser (p : Nat → Option (Tr × Nat)) (l : List UInt8) (last : UInt8) : Nat → Nat → Option (List Tr × Nat)
  | 0, a => some ([], a)
  | m + 1, a => match p a with
    | none => none
    | some (t, b) => if l[b]? = some (if m = 0 then last else 44) then (ser p l last m (b + 1)).map (fun x => (t :: x.1, x.2)) else none
def one (k : Int) (x : Option (Tr × Nat)) : Option (Tr × Nat) := x.map fun y => (.mk k 0 [y.1], y.2)
def rndK (c : Option UInt8) : Int := if c = some 62 then 3 else if c = some 42 then 13 else if c = some 32 then 5 else 0
/-- Behind a round bracket. -/
def rnd (p : Nat → Option (Tr × Nat)) (l : List UInt8) (a : Nat) : Option (Tr × Nat) :=
  match p a with
  | none => none
  | some (x, b) => if rndK l[b]? = 0 then none else
    match p (b + 1) with
    | none => none
    | some (y, c) => if l[c]? = some 41 then some (.mk (rndK l[b]?) 0 [x, y], c + 1) else none
/-- Behind a square bracket. -/
def sqr (p : Nat → Option (Tr × Nat)) (l : List UInt8) (a : Nat) : Option (Tr × Nat) :=
  match p a with
  | none => none
  | some (x, b) => if l[b]? = some 93 then (match p (b + 1) with | none => none | some (y, c) => some (.mk 4 0 [x, y], c)) else none
def blkK (c : UInt8) : Int := if c = 60 then 9 else if c = 123 then 10 else if c = 124 then 14 else if c = 64 then 12 else 0
def blkE (c : UInt8) : UInt8 := if c = 123 then 125 else if c = 124 then 124 else 62
/-- Three or four operands. -/
def blk (p : Nat → Option (Tr × Nat)) (l : List UInt8) (a : Nat) (c : UInt8) : Option (Tr × Nat) :=
  if blkK c = 0 then none
  else if c = 64 then (if l[a + 1]? = some 60 then (ser p l 62 3 (a + 2)).map (fun x => (.mk 12 0 x.1, x.2)) else none)
  else (ser p l (blkE c) (if c = 60 then 4 else 3) (a + 1)).map (fun x => (.mk (blkK c) 0 x.1, x.2))
/-- The term at an offset, and the offset behind it. -/
def prs : Nat → List UInt8 → Nat → Option (Tr × Nat)
  | 0, _, _ => none
  | d + 1, l, a =>
    match l[a]? with
    | none => none
    | some c =>
      if c = 35 then (numS l (a + 1) true).map (fun x => (.mk 1 x.1 [], x.2))
      else if c = 42 then (numS l (a + 1) false).map (fun x => (.mk 2 x.1 [], x.2))
      else if c = 78 then some (.mk 6 0 [], a + 1)
      else if c = 48 then some (.mk 7 0 [], a + 1)
      else if c = 43 then one 8 (prs d l (a + 1))
      else if c = 33 then one 11 (prs d l (a + 1))
      else if c = 94 then one 15 (prs d l (a + 1))
      else if c = 95 then one 16 (prs d l (a + 1))
      else if c = 40 then rnd (prs d l) l (a + 1)
      else if c = 91 then sqr (prs d l) l (a + 1)
      else blk (prs d l) l a c
/-- ParseTerm's answer. -/
def prsV (l : List UInt8) : Option Tr :=
  match prs 30 l 0 with
  | none => none
  | some (t, b) => if l ≠ [] ∧ b = l.length ∧ fmtV t = l then some t else none
theorem prsV_valid {l : List UInt8} {t : Tr} (h : prsV l = some t) : valid sigT t = true ∧ fmtL t = l := by
  unfold prsV at h
  split at h
  · cases h
  · rename_i t' b _
    split at h
    · rename_i hh
      cases h
      obtain ⟨h1, h2, h3⟩ := hh
      unfold fmtV at h3
      split at h3
      · rename_i hv
        exact ⟨hv, h3⟩
      · exact absurd h3.symm h1
    · cases h
end Go.Proofs.Ytappakllopkfiaa

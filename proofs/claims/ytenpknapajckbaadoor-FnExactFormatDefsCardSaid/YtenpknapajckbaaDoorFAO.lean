/-
  Lemmas towards the law, 15: LiftD, Text.
-/
import Derived.Test.YtenpknapajckbaaDoorFAB
import Derived.Test.YtenpknapajckbaaDoorFAD
import Derived.Test.YtenpknapajckbaaDoorFAK
namespace Go.Proofs.YtenpknapajckbaaDoor
open Go.RowKit Go.ChangeShapes Go.WideShapes Go.ChangeAt
set_option linter.unusedVariables false
section
variable {H : Type} {enc : TypeId × Value → H} {P : Program} {w : World} {spare : Nat → Bool} {held : Bool}
/-- The types of a definition: the struct of two trees, its slice. -/
structure DefTy (P : Program) (d sd t : TypeId) (g0 g1 : Field) : Prop where
  hd : P.underlying d = some (.struct #[g0, g1])
  hsd : P.underlying sd = some (.slice d)
  t0 : g0.type = t
  t1 : g1.type = t
  o0 : g0.offset = 0
  o1 : g1.offset = 3
  cd : P.cellsOf d = 6
def flat2 : List (Tr × Tr) → List Tr
  | [] => []
  | p :: ps => p.1 :: p.2 :: flat2 ps
theorem flat2_len : ∀ ps : List (Tr × Tr), (flat2 ps).length = ps.length * 2
  | [] => rfl
  | p :: ps => by simp [flat2, flat2_len ps]; omega
theorem InL.build6 {S : Nat → Prop} {b : Nat} : ∀ {ps : List (Tr × Tr)} {o : Nat}, (∀ j (h : j < ps.length), ∃ v0 v1 v2 v3 v4 v5, w.cell? ⟨b, o + j * 6, none⟩ = some v0 ∧ w.cell? ⟨b, o + j * 6 + 1, none⟩ = some v1 ∧ w.cell? ⟨b, o + j * 6 + 2, none⟩ = some v2 ∧ w.cell? ⟨b, o + j * 6 + 3, none⟩ = some v3 ∧ w.cell? ⟨b, o + j * 6 + 4, none⟩ = some v4 ∧ w.cell? ⟨b, o + j * 6 + 5, none⟩ = some v5 ∧ InT w S ps[j].1 (.agg #[v0, v1, v2]) ∧ InT w S ps[j].2 (.agg #[v3, v4, v5])) → InL w S b o (flat2 ps)
  | [], _, _ => by unfold flat2 InL; trivial
  | p :: ps, o, h => by
    obtain ⟨v0, v1, v2, v3, v4, v5, c0, c1, c2, c3, c4, c5, i1, i2⟩ := h 0 (by simp)
    simp only [List.getElem_cons_zero, Nat.zero_mul, Nat.add_zero] at c0 c1 c2 c3 c4 c5 i1 i2
    have hr : InL w S b (o + 6) (flat2 ps) := InL.build6 fun j hj => by
      have := h (j + 1) (by simpa using hj)
      rw [show o + (j + 1) * 6 = o + 6 + j * 6 by omega] at this
      simpa using this
    unfold flat2
    unfold InL
    refine ⟨⟨v0, v1, v2, c0, c1, c2, i1⟩, ?_⟩
    unfold InL
    exact ⟨⟨v3, v4, v5, c3, c4, c5, i2⟩, hr⟩
theorem open_def_cells {d sd t s i : TypeId} {g0 g1 f0 f1 f2 : Field} (D : DefTy P d sd t g0 g1) (T : TreeTy P t s i f0 f1 f2) (fuel : Nat) (cs : List Value) (x : DataW H × List MemPlace) (h : DataW.trod enc P w 0 spare held fuel d cs = some x) :
    ∃ (t1 t2 : Tr) (v0 v1 v2 v3 v4 v5 : Value), cs = [v0, v1, v2, v3, v4, v5] ∧ Lies w t1 (.agg #[v0, v1, v2]) ∧ Lies w t2 (.agg #[v3, v4, v5]) := by
  obtain ⟨xs, n, rfl, _, hcl, hlen, hg⟩ := DataW.trod_struct D.hd h
  rw [D.cd] at hcl
  match cs, hcl, xs, hlen with
  | [v0, v1, v2, v3, v4, v5], _, [y0, y1], _ =>
    have q0 := hg 0 g0 rfl
    have q1 := hg 1 g1 rfl
    simp [D.o0, D.o1, D.t0, D.t1, T.ct] at q0 q1
    obtain ⟨t1, a0, a1, a2, e1, l1⟩ := open_tree_cells T _ _ _ q0
    obtain ⟨t2, b0, b1, b2, e2, l2⟩ := open_tree_cells T _ _ _ q1
    simp at e1 e2
    obtain ⟨rfl, rfl, rfl⟩ := e1
    obtain ⟨rfl, rfl, rfl⟩ := e2
    exact ⟨t1, t2, _, _, _, _, _, _, rfl, l1, l2⟩
/-- An argument that is a list of definitions. -/
theorem open_defs {d sd t s i : TypeId} {g0 g1 f0 f1 f2 : Field} (D : DefTy P d sd t g0 g1) (T : TreeTy P t s i f0 f1 f2) {r : Reach} {b0 : Nat} {v : Value} {dd : DataW H} {p : List MemPlace} (hv : Value.okWide P w r b0 sd v) (h : DataW.Trod enc P w 0 spare held sd v dd p) :
    ∃ (A : Option Addr) (n cap : Nat) (ks : List Tr), v = .slice A n cap ∧ ks.length = n * 2 ∧ n ≤ cap ∧ cap ≤ maxLen ∧ LiesK w A ks := by
  obtain ⟨a0, len0, cap0, rfl⟩ := okWide_slice D.hsd hv
  obtain ⟨fuel, hf⟩ := h
  rcases DataW.trod_slice D.hsd hf with ⟨he, _⟩ | ⟨a, len, cap, elems, rest, n, rfl, he, _, _, hl, hm, hlen, hel, _, _⟩
  · simp only [Value.cells, List.cons.injEq, and_true, Value.slice.injEq] at he
    obtain ⟨rfl, rfl, rfl⟩ := he
    exact ⟨none, 0, 0, [], rfl, rfl, Nat.le_refl _, Nat.zero_le _, .inl rfl⟩
  · simp only [Value.cells, List.cons.injEq, and_true, Value.slice.injEq] at he
    obtain ⟨rfl, rfl, rfl⟩ := he
    have hel' : ∀ j, j < len0 → ∃ pp : Tr × Tr, ∃ v0 v1 v2 v3 v4 v5, w.cell? (a.add (j * 6)) = some v0 ∧ w.cell? ((a.add (j * 6)).add 1) = some v1 ∧ w.cell? ((a.add (j * 6)).add 2) = some v2 ∧ w.cell? ((a.add (j * 6)).add 3) = some v3 ∧ w.cell? ((a.add (j * 6)).add 4) = some v4 ∧ w.cell? ((a.add (j * 6)).add 5) = some v5 ∧ Lies w pp.1 (.agg #[v0, v1, v2]) ∧ Lies w pp.2 (.agg #[v3, v4, v5]) := by
      intro j hj
      have hj' := hel j hj
      rw [List.getElem?_eq_getElem (by omega)] at hj'
      obtain ⟨cs', h1, h2⟩ := Option.bind_eq_some_iff.1 hj'
      obtain ⟨t1, t2, v0, v1, v2, v3, v4, v5, rfl, l1, l2⟩ := open_def_cells D T _ _ _ h2
      obtain ⟨_, _, hcell⟩ := World.cells?_some h1
      rw [D.cd] at hcell
      have q0 := hcell 0 (by omega)
      have q1 := hcell 1 (by omega)
      have q2 := hcell 2 (by omega)
      have q3 := hcell 3 (by omega)
      have q4 := hcell 4 (by omega)
      have q5 := hcell 5 (by omega)
      have e0 : ∀ y : Addr, y.add 0 = y := fun y => by simp [Addr.add]
      rw [e0] at q0
      exact ⟨(t1, t2), v0, v1, v2, v3, v4, v5, q0, q1, q2, q3, q4, q5, l1, l2⟩
    obtain ⟨ps, hks, hp⟩ := choose_list len0 hel'
    subst hks
    refine ⟨some a, ps.length, cap0, flat2 ps, rfl, flat2_len ps, hl, hm, ?_⟩
    cases ps with
    | nil => exact .inl rfl
    | cons t0 ts =>
      obtain ⟨b, o, spot⟩ := a
      have hlt : b < w.heap.size ∧ spot = none := by
        obtain ⟨v0, v1, v2, v3, v4, v5, q0, _⟩ := hp 0 (by simp)
        simp only [Nat.zero_mul] at q0
        have e0 : (⟨b, o, spot⟩ : Addr).add 0 = ⟨b, o, spot⟩ := by simp [Addr.add]
        rw [e0] at q0
        exact ⟨World.block_lt_of_cell? _ _ q0, by simpa using World.cell?_spot q0⟩
      obtain ⟨hlt, rfl⟩ := hlt
      refine .inr ⟨b, o, rfl, hlt, InL.build6 fun j hj => ?_⟩
      obtain ⟨v0, v1, v2, v3, v4, v5, q0, q1, q2, q3, q4, q5, l1, l2⟩ := hp j hj
      simp only [add_plain'] at q0 q1 q2 q3 q4 q5
      exact ⟨v0, v1, v2, v3, v4, v5, q0, q1, q2, q3, q4, q5, l1, l2⟩
end
end Go.Proofs.YtenpknapajckbaaDoor

namespace Go.Proofs.YtenpknapajckbaaDoor
set_option linter.unusedVariables false
/-- A string of these bytes. -/
def ofL (l : List UInt8) : ByteArray := ⟨l.toArray⟩
theorem ofL_append (a b : List UInt8) : ofL a ++ ofL b = ofL (a ++ b) := by
  apply ByteArray.ext
  simp [ofL]
theorem ofL_size (l : List UInt8) : (ofL l).size = l.length := by simp [ofL, ByteArray.size]
theorem ofL_list (l : List UInt8) : (ofL l).data.toList = l := by simp [ofL]
theorem ofL_of (s : ByteArray) : ofL s.data.toList = s := by
  apply ByteArray.ext
  simp [ofL]
/-- Decimal digits of a number below 100. -/
def decL (n : Int) : List UInt8 := if n ≤ 9 then [UInt8.ofNat (48 + n.toNat)] else [UInt8.ofNat (48 + n.toNat / 10), UInt8.ofNat (48 + n.toNat % 10)]
def opn (k : Int) : List UInt8 :=
  if k = 3 then [40] else if k = 4 then [91] else if k = 5 then [40] else if k = 6 then [78] else if k = 7 then [48] else if k = 8 then [43] else if k = 9 then [60] else if k = 10 then [123] else if k = 11 then [33] else if k = 12 then [64, 60] else if k = 13 then [40] else if k = 14 then [124] else if k = 15 then [94] else if k = 16 then [95] else []
def sep (k : Int) : List UInt8 :=
  if k = 3 then [62] else if k = 4 then [93] else if k = 5 then [32] else if k = 13 then [42] else [44]
def cls (k : Int) : List UInt8 :=
  if k = 3 then [41] else if k = 5 then [41] else if k = 9 then [62] else if k = 10 then [125] else if k = 12 then [62] else if k = 13 then [41] else if k = 14 then [124] else []
mutual
/-- The text of a term. -/
def fmtL : Tr → List UInt8
  | .mk k n ks => if k = 1 then 35 :: decL n else if k = 2 then 42 :: decL n else opn k ++ fmtK (sep k) ks true ++ cls k
/-- The texts of operands, with a sign between them. -/
def fmtK : List UInt8 → List Tr → Bool → List UInt8
  | _, [], _ => []
  | s, t :: ts, f => (if f = true then [] else s) ++ fmtL t ++ fmtK s ts false
end
theorem decL_len (n : Int) : (decL n).length ≤ 2 := by unfold decL; split <;> simp
theorem opn_len (k : Int) : (opn k).length ≤ 2 := by
  unfold opn
  by_cases h3 : k = 3
  · rw [if_pos h3]; decide
  rw [if_neg h3]
  by_cases h4 : k = 4
  · rw [if_pos h4]; decide
  rw [if_neg h4]
  by_cases h5 : k = 5
  · rw [if_pos h5]; decide
  rw [if_neg h5]
  by_cases h6 : k = 6
  · rw [if_pos h6]; decide
  rw [if_neg h6]
  by_cases h7 : k = 7
  · rw [if_pos h7]; decide
  rw [if_neg h7]
  by_cases h8 : k = 8
  · rw [if_pos h8]; decide
  rw [if_neg h8]
  by_cases h9 : k = 9
  · rw [if_pos h9]; decide
  rw [if_neg h9]
  by_cases h10 : k = 10
  · rw [if_pos h10]; decide
  rw [if_neg h10]
  by_cases h11 : k = 11
  · rw [if_pos h11]; decide
  rw [if_neg h11]
  by_cases h12 : k = 12
  · rw [if_pos h12]; decide
  rw [if_neg h12]
  by_cases h13 : k = 13
  · rw [if_pos h13]; decide
  rw [if_neg h13]
  by_cases h14 : k = 14
  · rw [if_pos h14]; decide
  rw [if_neg h14]
  by_cases h15 : k = 15
  · rw [if_pos h15]; decide
  rw [if_neg h15]
  by_cases h16 : k = 16
  · rw [if_pos h16]; decide
  rw [if_neg h16]
  decide
theorem sep_len (k : Int) : (sep k).length = 1 := by
  unfold sep
  by_cases h3 : k = 3
  · rw [if_pos h3]; decide
  rw [if_neg h3]
  by_cases h4 : k = 4
  · rw [if_pos h4]; decide
  rw [if_neg h4]
  by_cases h5 : k = 5
  · rw [if_pos h5]; decide
  rw [if_neg h5]
  by_cases h13 : k = 13
  · rw [if_pos h13]; decide
  rw [if_neg h13]
  decide
theorem cls_len (k : Int) : (cls k).length ≤ 1 := by
  unfold cls
  by_cases h3 : k = 3
  · rw [if_pos h3]; decide
  rw [if_neg h3]
  by_cases h5 : k = 5
  · rw [if_pos h5]; decide
  rw [if_neg h5]
  by_cases h9 : k = 9
  · rw [if_pos h9]; decide
  rw [if_neg h9]
  by_cases h10 : k = 10
  · rw [if_pos h10]; decide
  rw [if_neg h10]
  by_cases h12 : k = 12
  · rw [if_pos h12]; decide
  rw [if_neg h12]
  by_cases h13 : k = 13
  · rw [if_pos h13]; decide
  rw [if_neg h13]
  by_cases h14 : k = 14
  · rw [if_pos h14]; decide
  rw [if_neg h14]
  decide
mutual
theorem fmtL_len : ∀ t : Tr, (fmtL t).length + 1 ≤ 5 * cnt t
  | .mk k n ks => by
    have h1 := decL_len n
    have h2 := opn_len k
    have h3 := cls_len k
    have h4 := fmtK_len (sep k) (by rw [sep_len k]; omega) ks true
    unfold fmtL
    simp only [cnt]
    split
    · simp; omega
    · split
      · simp; omega
      · simp; omega
theorem fmtK_len (s : List UInt8) (hs : s.length ≤ 1) : ∀ (ts : List Tr) (f : Bool), (fmtK s ts f).length ≤ 5 * cnts ts
  | [], _ => by simp [fmtK]
  | t :: ts, f => by
    have h1 := fmtL_len t
    have h2 := fmtK_len s hs ts false
    unfold fmtK
    simp only [cnts]
    cases f <;> simp <;> omega
end
/-- Some terms, separated by commas, and a closing sign. -/
def ser (p : Nat → Option (Tr × Nat)) (l : List UInt8) (last : UInt8) : Nat → Nat → Option (List Tr × Nat)
  | 0, a => some ([], a)
  | m + 1, a => match p a with
    | none => none
    | some (t, b) => if l[b]? = some (if m = 0 then last else 44) then (ser p l last m (b + 1)).map (fun x => (t :: x.1, x.2)) else none
def one (k : Int) (x : Option (Tr × Nat)) : Option (Tr × Nat) := x.map fun y => (.mk k 0 [y.1], y.2)
def blkK (c : UInt8) : Int := if c = 60 then 9 else if c = 123 then 10 else if c = 124 then 14 else if c = 64 then 12 else 0
def blkE (c : UInt8) : UInt8 := if c = 123 then 125 else if c = 124 then 124 else 62
/-- Three or four operands. -/
def blk (p : Nat → Option (Tr × Nat)) (l : List UInt8) (a : Nat) (c : UInt8) : Option (Tr × Nat) :=
  if blkK c = 0 then none
  else if c = 64 then (if l[a + 1]? = some 60 then (ser p l 62 3 (a + 2)).map (fun x => (.mk 12 0 x.1, x.2)) else none)
  else (ser p l (blkE c) (if c = 60 then 4 else 3) (a + 1)).map (fun x => (.mk (blkK c) 0 x.1, x.2))
end Go.Proofs.YtenpknapajckbaaDoor

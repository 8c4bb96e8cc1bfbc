/-
  Arguments that are lists of definitions.
-/
import Derived.Test.YtpbmlpngafpoeaaLift
import Derived.Test.YtpbmlpngafpoeaaDefs
namespace Go.Proofs.Ytpbmlpngafpoeaa
open Go.RowKit Go.ChangeShapes Go.WideShapes Go.ChangeAt
set_option linter.unusedVariables false
section
variable {H : Type} {enc : TypeId × Value → H} {P : Program} {w : World} {spare : Nat → Bool} {held : Bool}
/-- The types of a definition: the struct of two trees, its slice. -/
structure DefTy (P : Program) (d sd t : TypeId) (g0 g1 : Field) : Prop where
  hd : P.underlying d = some (.struct #[g0, g1])
  hsd : P.underlying sd = some (.slice d)
  t0 : g0.type = t
  t1 : g1.type = t
  o0 : g0.offset = 0
  o1 : g1.offset = 3
  cd : P.cellsOf d = 6
def flat2 : List (Tr × Tr) → List Tr
  | [] => []
  | p :: ps => p.1 :: p.2 :: flat2 ps
theorem flat2_len : ∀ ps : List (Tr × Tr), (flat2 ps).length = ps.length * 2
  | [] => rfl
  | p :: ps => by simp [flat2, flat2_len ps]; omega
theorem InL.build6 {S : Nat → Prop} {b : Nat} : ∀ {ps : List (Tr × Tr)} {o : Nat}, (∀ j (h : j < ps.length), ∃ v0 v1 v2 v3 v4 v5, w.cell? ⟨b, o + j * 6, none⟩ = some v0 ∧ w.cell? ⟨b, o + j * 6 + 1, none⟩ = some v1 ∧ w.cell? ⟨b, o + j * 6 + 2, none⟩ = some v2 ∧ w.cell? ⟨b, o + j * 6 + 3, none⟩ = some v3 ∧ w.cell? ⟨b, o + j * 6 + 4, none⟩ = some v4 ∧ w.cell? ⟨b, o + j * 6 + 5, none⟩ = some v5 ∧ InT w S ps[j].1 (.agg #[v0, v1, v2]) ∧ InT w S ps[j].2 (.agg #[v3, v4, v5])) → InL w S b o (flat2 ps)
  | [], _, _ => by unfold flat2 InL; trivial
  | p :: ps, o, h => by
    obtain ⟨v0, v1, v2, v3, v4, v5, c0, c1, c2, c3, c4, c5, i1, i2⟩ := h 0 (by simp)
    simp only [List.getElem_cons_zero, Nat.zero_mul, Nat.add_zero] at c0 c1 c2 c3 c4 c5 i1 i2
    have hr : InL w S b (o + 6) (flat2 ps) := InL.build6 fun j hj => by
      have := h (j + 1) (by simpa using hj)
      rw [show o + (j + 1) * 6 = o + 6 + j * 6 by omega] at this
      simpa using this
    unfold flat2
    unfold InL
    refine ⟨⟨v0, v1, v2, c0, c1, c2, i1⟩, ?_⟩
    unfold InL
    exact ⟨⟨v3, v4, v5, c3, c4, c5, i2⟩, hr⟩
theorem open_def_cells {d sd t s i : TypeId} {g0 g1 f0 f1 f2 : Field} (D : DefTy P d sd t g0 g1) (T : TreeTy P t s i f0 f1 f2) (fuel : Nat) (cs : List Value) (x : DataW H × List MemPlace) (h : DataW.trod enc P w 0 spare held fuel d cs = some x) :
    ∃ (t1 t2 : Tr) (v0 v1 v2 v3 v4 v5 : Value), cs = [v0, v1, v2, v3, v4, v5] ∧ Lies w t1 (.agg #[v0, v1, v2]) ∧ Lies w t2 (.agg #[v3, v4, v5]) := by
  obtain ⟨xs, n, rfl, _, hcl, hlen, hg⟩ := DataW.trod_struct D.hd h
  rw [D.cd] at hcl
  match cs, hcl, xs, hlen with
  | [v0, v1, v2, v3, v4, v5], _, [y0, y1], _ =>
    have q0 := hg 0 g0 rfl
    have q1 := hg 1 g1 rfl
    simp [D.o0, D.o1, D.t0, D.t1, T.ct] at q0 q1
    obtain ⟨t1, a0, a1, a2, e1, l1⟩ := open_tree_cells T _ _ _ q0
    obtain ⟨t2, b0, b1, b2, e2, l2⟩ := open_tree_cells T _ _ _ q1
    simp at e1 e2
    obtain ⟨rfl, rfl, rfl⟩ := e1
    obtain ⟨rfl, rfl, rfl⟩ := e2
    exact ⟨t1, t2, _, _, _, _, _, _, rfl, l1, l2⟩
/-- An argument that is a list of definitions. -/
theorem open_defs {d sd t s i : TypeId} {g0 g1 f0 f1 f2 : Field} (D : DefTy P d sd t g0 g1) (T : TreeTy P t s i f0 f1 f2) {r : Reach} {b0 : Nat} {v : Value} {dd : DataW H} {p : List MemPlace} (hv : Value.okWide P w r b0 sd v) (h : DataW.Trod enc P w 0 spare held sd v dd p) :
    ∃ (A : Option Addr) (n cap : Nat) (ks : List Tr), v = .slice A n cap ∧ ks.length = n * 2 ∧ n ≤ cap ∧ cap ≤ maxLen ∧ LiesK w A ks := by
  obtain ⟨a0, len0, cap0, rfl⟩ := okWide_slice D.hsd hv
  obtain ⟨fuel, hf⟩ := h
  rcases DataW.trod_slice D.hsd hf with ⟨he, _⟩ | ⟨a, len, cap, elems, rest, n, rfl, he, _, _, hl, hm, hlen, hel, _, _⟩
  · simp only [Value.cells, List.cons.injEq, and_true, Value.slice.injEq] at he
    obtain ⟨rfl, rfl, rfl⟩ := he
    exact ⟨none, 0, 0, [], rfl, rfl, Nat.le_refl _, Nat.zero_le _, .inl rfl⟩
  · simp only [Value.cells, List.cons.injEq, and_true, Value.slice.injEq] at he
    obtain ⟨rfl, rfl, rfl⟩ := he
    have hel' : ∀ j, j < len0 → ∃ pp : Tr × Tr, ∃ v0 v1 v2 v3 v4 v5, w.cell? (a.add (j * 6)) = some v0 ∧ w.cell? ((a.add (j * 6)).add 1) = some v1 ∧ w.cell? ((a.add (j * 6)).add 2) = some v2 ∧ w.cell? ((a.add (j * 6)).add 3) = some v3 ∧ w.cell? ((a.add (j * 6)).add 4) = some v4 ∧ w.cell? ((a.add (j * 6)).add 5) = some v5 ∧ Lies w pp.1 (.agg #[v0, v1, v2]) ∧ Lies w pp.2 (.agg #[v3, v4, v5]) := by
      intro j hj
      have hj' := hel j hj
      rw [List.getElem?_eq_getElem (by omega)] at hj'
      obtain ⟨cs', h1, h2⟩ := Option.bind_eq_some_iff.1 hj'
      obtain ⟨t1, t2, v0, v1, v2, v3, v4, v5, rfl, l1, l2⟩ := open_def_cells D T _ _ _ h2
      obtain ⟨_, _, hcell⟩ := World.cells?_some h1
      rw [D.cd] at hcell
      have q0 := hcell 0 (by omega)
      have q1 := hcell 1 (by omega)
      have q2 := hcell 2 (by omega)
      have q3 := hcell 3 (by omega)
      have q4 := hcell 4 (by omega)
      have q5 := hcell 5 (by omega)
      have e0 : ∀ y : Addr, y.add 0 = y := fun y => by simp [Addr.add]
      rw [e0] at q0
      exact ⟨(t1, t2), v0, v1, v2, v3, v4, v5, q0, q1, q2, q3, q4, q5, l1, l2⟩
    obtain ⟨ps, hks, hp⟩ := choose_list len0 hel'
    subst hks
    refine ⟨some a, ps.length, cap0, flat2 ps, rfl, flat2_len ps, hl, hm, ?_⟩
    cases ps with
    | nil => exact .inl rfl
    | cons t0 ts =>
      obtain ⟨b, o, spot⟩ := a
      have hlt : b < w.heap.size ∧ spot = none := by
        obtain ⟨v0, v1, v2, v3, v4, v5, q0, _⟩ := hp 0 (by simp)
        simp only [Nat.zero_mul] at q0
        have e0 : (⟨b, o, spot⟩ : Addr).add 0 = ⟨b, o, spot⟩ := by simp [Addr.add]
        rw [e0] at q0
        exact ⟨World.block_lt_of_cell? _ _ q0, by simpa using World.cell?_spot q0⟩
      obtain ⟨hlt, rfl⟩ := hlt
      refine .inr ⟨b, o, rfl, hlt, InL.build6 fun j hj => ?_⟩
      obtain ⟨v0, v1, v2, v3, v4, v5, q0, q1, q2, q3, q4, q5, l1, l2⟩ := hp j hj
      simp only [add_plain'] at q0 q1 q2 q3 q4 q5
      exact ⟨v0, v1, v2, v3, v4, v5, q0, q1, q2, q3, q4, q5, l1, l2⟩
end
end Go.Proofs.Ytpbmlpngafpoeaa

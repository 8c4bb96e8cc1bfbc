/-
  A slice of trees that grows by append while some older blocks turn.
-/
import Derived.Test.YtappakllopkfiaaGrow
namespace Go.Proofs.Ytappakllopkfiaa
open Go.RowKit
set_option linter.unusedVariables false

theorem Grow.only {W w w' : World} {e : TypeId} {v : Value} {ks : List Tr} {L : List Nat} (h : Grow W w e v ks) (ho : Only L w w') (hL : ∀ b, b ∈ L → b < W.heap.size) : Grow W w' e v ks :=
  h.same ho.size (fun b hb hlt => ho.block b hlt (fun hm => by have := hL b hm; omega))
theorem Only.below {L : List Nat} {a w w' : World} {B : Nat} (h : Only L a w) (hb : Below B w w') (hB : a.heap.size ≤ B) : Only L a w' :=
  ⟨hb.os.trans h.os, hb.tape.trans h.tape, hb.output.trans h.output, Nat.le_trans h.size hb.size, fun i hi hn => (hb.block i (by omega)).trans (h.block i hi hn)⟩
theorem Grow.step2 {W wr w1 w w' : World} {e : TypeId} {v v' : Value} {ks : List Tr} {t : Tr} {v0 v1 v2 : Value} {xs : List Value} {L : List Nat}
    (hL : OwnL wr e xs ks L) (hF : Fresh W wr L) (hv : ∀ g, v.ownBlock = some g → ¬ g ∈ L ∧ g < wr.heap.size ∧ W.heap.size ≤ g) (hx : xs.length = ks.length * 3) (hW : W.heap.size ≤ wr.heap.size) (hs1 : wr.heap.size ≤ w1.heap.size) (hA1 : ∀ b, W.heap.size ≤ b → b < wr.heap.size → w1.heap[b]? = wr.heap[b]?) (hM : Made wr w1 e t (.agg #[v0, v1, v2])) (hE2 : Ext w1 w)
    (h2 : w'.ownsRow W.heap.size e 3 v' (ks.length + 1) (xs ++ [v0, v1, v2])) (h3 : w.grownBy w' v.ownBlock) (h4 : ∀ g, v'.ownBlock = some g → v.ownBlock = some g ∨ w.heap.size ≤ g) : Grow W w' e v' (ks ++ [t]) ∧ Below W.heap.size w1 w' ∧ (∀ b, wr.heap.size ≤ b → b < w1.heap.size → w'.heap[b]? = w1.heap[b]?) := by
  obtain ⟨M, hM, hFM⟩ := hM
  have s1 := hs1
  have s2 := hE2.size
  have keep : ∀ b, b < w1.heap.size → (v.ownBlock ≠ some b) → w'.heap[b]? = w1.heap[b]? := fun b hb hne => (h3.block b (by omega) (fun h => hne h.symm)).trans (hE2.heap b hb)
  refine ⟨⟨_, L ++ M, by simpa using h2, OwnL.snoc (hM.mono fun b hb => keep b (hFM.2 b hb).2 fun he => ?_) [] hx (hL.mono fun b hb => (keep b (by have := (hF.2 b hb).2; omega) fun he => ?_).trans (hA1 b (hF.2 b hb).1 (hF.2 b hb).2)), ?_, fun g hg hm => ?_⟩, ?_⟩
  · have := (hv b he).2.1
    have := (hFM.2 b hb).1
    omega
  · exact (hv b he).1 hb
  · have h5 := hF.append (d := w1) hFM (Nat.le_refl _) hW hs1
    exact h5.mono (Nat.le_refl _) (by have := h3.size; omega)
  · rcases h4 g hg with h | h
    · rcases List.mem_append.1 hm with hm | hm
      · exact (hv g h).1 hm
      · have := (hv g h).2.1
        have := (hFM.2 g hm).1
        omega
    · rcases List.mem_append.1 hm with hm | hm
      · have := (hF.2 g hm).2
        omega
      · have := (hFM.2 g hm).2
        omega
  · refine ⟨⟨h3.os.trans hE2.os, h3.tape.trans hE2.tape, h3.output.trans hE2.output, by have := h3.size; omega, fun b hb => ?_⟩, fun b h0 h1 => keep b h1 (fun he => by have := (hv b he).2.1; omega)⟩
    exact keep b (by omega) (fun he => by have := (hv b he).2.2; omega)

theorem wp_append_tree2 {P : Program} (w : World) {o : Oper} {a : Act} {K : Act → World → Prop} {Q : Exit → Act → World → Prop} (s x : Operand) (t : TypeId)
    (ho : o.op = .call { callee := .builtin .append, args := #[s, x], argTypes := #[t, t] })
    (e : TypeId) (i : TypeInfo) (z : Value) (ht : P.underlying t = some (.slice e)) (hi : P.info? e = some i) (hz : i.zero = some z) (hsize : i.size = 3) (hby : i.bytes = 40) (hzs : z.cells.size = 3)
    {W wr w1 : World} {v : Value} {ks : List Tr} {tr : Tr} {v0 v1 v2 : Value} {gx : Nat} (hs : a.eval s = v) (hG : Grow W wr e v ks) (hW : W.heap.size ≤ wr.heap.size) (hs1 : wr.heap.size ≤ w1.heap.size) (hA1 : ∀ b, W.heap.size ≤ b → b < wr.heap.size → w1.heap[b]? = wr.heap[b]?) (hM : Made wr w1 e tr (.agg #[v0, v1, v2])) (hE2 : Ext w1 w)
    (hx : a.eval x = .slice (some ⟨gx, 0, none⟩) 1 1) (hgx : w.heap[gx]? = some (.cells #[v0, v1, v2] e (0, 0))) (hn : ks.length < 1099511627776)
    (h : ∀ v' w', Grow W w' e v' (ks ++ [tr]) → Below W.heap.size w1 w' → (∀ b, wr.heap.size ≤ b → b < w1.heap.size → w'.heap[b]? = w1.heap[b]?) → K (a.put o.dst v') w') : o.wp P a w K Q := by
  obtain ⟨xs, L, h1, h2, h3, h4⟩ := hG
  have s1 := hs1
  have s2 := hE2.size
  have hown : w.ownsRow W.heap.size e 3 v ks.length xs := ownsRow_same h1 (fun g hg => (hE2.heap g (by have := (h1.lt g hg).2; omega)).trans (hA1 g (h1.lt g hg).1 (h1.lt g hg).2))
  obtain ⟨v', w', hr, r1, r2, r3⟩ := run_append_own' (P := P) w W.heap.size t o.type e i z 3 40 ht hi hz hsize hby hzs (by decide) v ks.length xs hown ⟨gx, 0, none⟩ 1 1 [v0, v1, v2] rfl (row3_cells hgx) (made_oneCell hM) (by unfold maxLen; omega) (by omega) (by omega)
  obtain ⟨g1, g2, g3⟩ := Grow.step2 h2 h3 (fun g hg => ⟨h4 g hg, (h1.lt g hg).2, (h1.lt g hg).1⟩) h1.1 hW hs1 hA1 hM hE2 r1 r2 r3
  unfold Oper.wp execOp
  simp only [ho, resolve, invoke, builtin, Sem.run_bind, Sem.run_pure, Result.andThen_ok, List.map_toArray, List.map_cons, List.map_nil, hs, hx, hr]
  exact h v' w' g1 g2 g3
/-- At a step of a region that draws its order. -/
theorem step_append_tree2 {P : Program} (w : World) {ops : Array Oper} {o : Oper} {a : Act} {K : Act → World → Prop} {Q : Exit → Act → World → Prop} {E : Prop} (hgd : o.guard = none) (s x : Operand) (t : TypeId)
    (ho : o.op = .call { callee := .builtin .append, args := #[s, x], argTypes := #[t, t] })
    (e : TypeId) (i : TypeInfo) (z : Value) (ht : P.underlying t = some (.slice e)) (hi : P.info? e = some i) (hz : i.zero = some z) (hsize : i.size = 3) (hby : i.bytes = 40) (hzs : z.cells.size = 3)
    {W wr w1 : World} {v : Value} {ks : List Tr} {tr : Tr} {v0 v1 v2 : Value} {gx : Nat} (hs : a.eval s = v) (hG : Grow W wr e v ks) (hW : W.heap.size ≤ wr.heap.size) (hs1 : wr.heap.size ≤ w1.heap.size) (hA1 : ∀ b, W.heap.size ≤ b → b < wr.heap.size → w1.heap[b]? = wr.heap[b]?) (hM : Made wr w1 e tr (.agg #[v0, v1, v2])) (hE2 : Ext w1 w)
    (hx : a.eval x = .slice (some ⟨gx, 0, none⟩) 1 1) (hgx : w.heap[gx]? = some (.cells #[v0, v1, v2] e (0, 0))) (hn : ks.length < 1099511627776)
    (h : ∀ v' w', Grow W w' e v' (ks ++ [tr]) → Below W.heap.size w1 w' → (∀ b, wr.heap.size ≤ b → b < w1.heap.size → w'.heap[b]? = w1.heap[b]?) → K (a.put o.dst v') w') :
    if Region.wanted o (yielded ops a.tmps) = true then Oper.wp P o a w K Q else E := by
  have hw : Region.wanted o (yielded ops a.tmps) = true := by simp [Region.wanted, hgd]
  rw [if_pos hw]
  exact wp_append_tree2 w s x t ho e i z ht hi hz hsize hby hzs hs hG hW hs1 hA1 hM hE2 hx hgx hn h

end Go.Proofs.Ytappakllopkfiaa

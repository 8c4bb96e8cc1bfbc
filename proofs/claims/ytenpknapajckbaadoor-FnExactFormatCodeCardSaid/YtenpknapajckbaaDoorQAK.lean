/-
  Lemmas towards the law, 11: Node, Grow2, Row.
-/
import Derived.Test.YtenpknapajckbaaDoorQAE
import Derived.Test.YtenpknapajckbaaDoorQAJ
namespace Go.Proofs.YtenpknapajckbaaDoor
open Go.RowKit
set_option linter.unusedVariables false
/-- A tree all whose rows came into being between w and w'. -/
def New (w w' : World) (t : Tr) (v : Value) : Prop := InT w' (fun b => w.heap.size ≤ b ∧ b < w'.heap.size) t v
theorem New.lies {w w' : World} {t : Tr} {v : Value} (h : New w w' t v) : Lies w' t v := h.mono (fun _ hb => hb.2) (fun _ _ => rfl)
theorem New.ext {w w' w2 : World} {t : Tr} {v : Value} (h : New w w' t v) (he : Ext w' w2) : New w w2 t v := h.mono (fun b hb => ⟨hb.1, Nat.lt_of_lt_of_le hb.2 he.size⟩) (fun b hb => he.heap b hb.2)
theorem New.since {a w w' : World} {t : Tr} {v : Value} (h : New w w' t v) (ha : a.heap.size ≤ w.heap.size) : New a w' t v := h.mono (fun b hb => ⟨Nat.le_trans ha hb.1, hb.2⟩) (fun _ _ => rfl)
theorem New.after {w w1 w2 : World} {t : Tr} {v : Value} (h : New w w1 t v) (ha : Above w.heap.size w1 w2) : New w w2 t v := h.mono (fun b hb => ⟨hb.1, Nat.lt_of_lt_of_le hb.2 ha.2⟩) (fun b hb => ha.1 b hb.1)
theorem InK.one {w : World} {S : Nat → Prop} {e : TypeId} {t : Tr} {v0 v1 v2 : Value} {g : Nat} (h : InT w S t (.agg #[v0, v1, v2])) (hg : w.heap[g]? = some (.cells #[v0, v1, v2] e (0, 0))) (hS : S g) : InK w S (some ⟨g, 0, none⟩) [t] := by
  refine .inr ⟨g, 0, rfl, hS, ?_⟩
  unfold InL
  refine ⟨⟨v0, v1, v2, cell_of_blk hg 0, cell_of_blk hg 1, cell_of_blk hg 2, h⟩, ?_⟩
  unfold InL
  trivial
/-- One tree made: a row of its own. -/
theorem MadeK.one {W wr w1 w : World} {e : TypeId} {t : Tr} {v0 v1 v2 : Value} {g : Nat} (hM : Made wr w1 e t (.agg #[v0, v1, v2])) (hE1 : wr.heap.size ≤ w1.heap.size) (hE : Ext w1 w) (hg : w.heap[g]? = some (.cells #[v0, v1, v2] e (0, 0))) (hgs : w1.heap.size ≤ g) (hW : W.heap.size ≤ wr.heap.size) : MadeK W w e (some ⟨g, 0, none⟩) [t] := by
  obtain ⟨L, h, hf⟩ := hM
  refine ⟨g :: L, .inr ⟨g, _, L, rfl, hg, rfl, OwnL.cons_iff.2 ⟨v0, v1, v2, [], L, [], rfl, h.mono fun b hb => hE.heap b (hf.2 b hb).2, OwnL.nil, by simp⟩⟩, List.nodup_cons.2 ⟨fun hm => ?_, hf.1⟩, fun b hm => ?_⟩
  · have := (hf.2 g hm).2
    omega
  · have := hE.size
    rcases List.mem_cons.1 hm with rfl | hm
    · exact ⟨by omega, lt_of_blk hg⟩
    · have := hf.2 b hm
      omega
/-- The three cells of a made tree. -/
theorem Made.three {w w' : World} {e : TypeId} {t : Tr} {u : Value} (h : Made w w' e t u) : ∃ k n A l c, u = .agg #[.int .i64 k, .int .i64 n, .slice A l c] := by
  obtain ⟨k, n, ks⟩ := t
  obtain ⟨A, cap, rfl, _⟩ := Made.mk_iff.1 h
  exact ⟨k, n, A, _, cap, rfl⟩
theorem Lies.three {w : World} {t : Tr} {u : Value} (h : Lies w t u) : ∃ k n A l c, u = .agg #[.int .i64 k, .int .i64 n, .slice A l c] := by
  obtain ⟨k, n, ks⟩ := t
  obtain ⟨A, cap, rfl, _⟩ := Lies.mk_iff.1 h
  exact ⟨k, n, A, _, cap, rfl⟩
end Go.Proofs.YtenpknapajckbaaDoor
namespace Go.Proofs.YtenpknapajckbaaDoor
open Go.RowKit
set_option linter.unusedVariables false
theorem Grow.only {W w w' : World} {e : TypeId} {v : Value} {ks : List Tr} {L : List Nat} (h : Grow W w e v ks) (ho : Only L w w') (hL : ∀ b, b ∈ L → b < W.heap.size) : Grow W w' e v ks :=
  h.same ho.size (fun b hb hlt => ho.block b hlt (fun hm => by have := hL b hm; omega))
theorem Only.below {L : List Nat} {a w w' : World} {B : Nat} (h : Only L a w) (hb : Below B w w') (hB : a.heap.size ≤ B) : Only L a w' :=
  ⟨hb.os.trans h.os, hb.tape.trans h.tape, hb.output.trans h.output, Nat.le_trans h.size hb.size, fun i hi hn => (hb.block i (by omega)).trans (h.block i hi hn)⟩
end Go.Proofs.YtenpknapajckbaaDoor
namespace Go.Proofs.YtenpknapajckbaaDoor
open Go.RowKit
set_option linter.unusedVariables false
/-- The cells are those of the trees, one behind the other. -/
def RowL (w : World) (S : Nat → Prop) : List Value → List Tr → Prop
  | _, [] => True
  | xs, t :: ts => ∃ v0 v1 v2 rest, xs = v0 :: v1 :: v2 :: rest ∧ InT w S t (.agg #[v0, v1, v2]) ∧ RowL w S rest ts
theorem RowL.cons_iff {w : World} {S : Nat → Prop} {xs : List Value} {t : Tr} {ts : List Tr} : RowL w S xs (t :: ts) ↔ ∃ v0 v1 v2 rest, xs = v0 :: v1 :: v2 :: rest ∧ InT w S t (.agg #[v0, v1, v2]) ∧ RowL w S rest ts := by
  conv => lhs; unfold RowL
theorem RowL.nil {w : World} {S : Nat → Prop} {xs : List Value} : RowL w S xs [] := by unfold RowL; trivial
theorem RowL.mono {w w' : World} {S S' : Nat → Prop} (hS : ∀ b, S b → S' b) (hw : ∀ b, S b → w'.heap[b]? = w.heap[b]?) : ∀ {xs : List Value} {ks : List Tr}, RowL w S xs ks → RowL w' S' xs ks
  | _, [], _ => RowL.nil
  | xs, t :: ts, h => by
    obtain ⟨v0, v1, v2, rest, rfl, h1, h2⟩ := RowL.cons_iff.1 h
    exact RowL.cons_iff.2 ⟨v0, v1, v2, rest, rfl, h1.mono hS hw, RowL.mono hS hw h2⟩
theorem RowL.inL {w : World} {S : Nat → Prop} {b : Nat} {cs : Array Value} {e : TypeId} (hb : w.heap[b]? = some (.cells cs e (0, 0))) : ∀ {xs pre : List Value} {ks : List Tr}, RowL w S xs ks → cs.toList = pre ++ xs → InL w S b pre.length ks
  | _, _, [], _, _ => by unfold InL; trivial
  | xs, pre, t :: ts, h, he => by
    obtain ⟨v0, v1, v2, rest, rfl, h1, h2⟩ := RowL.cons_iff.1 h
    unfold InL
    have hc : ∀ i, w.cell? ⟨b, i, none⟩ = cs.toList[i]? := fun i => by rw [cell_of_blk hb]; simp
    refine ⟨⟨v0, v1, v2, ?_, ?_, ?_, h1⟩, ?_⟩
    · rw [hc, he, List.getElem?_append_right (Nat.le_refl _)]; simp
    · rw [hc, he, List.getElem?_append_right (by omega)]; simp
    · rw [hc, he, List.getElem?_append_right (by omega)]; simp
    · have := RowL.inL hb (pre := pre ++ [v0, v1, v2]) h2 (by simp [he])
      simpa using this
theorem RowL.snoc {w : World} {S : Nat → Prop} {t : Tr} {v0 v1 v2 : Value} (ht : InT w S t (.agg #[v0, v1, v2])) (tail : List Value) : ∀ {xs : List Value} {ks : List Tr}, xs.length = ks.length * 3 → RowL w S xs ks → RowL w S (xs ++ v0 :: v1 :: v2 :: tail) (ks ++ [t])
  | xs, [], hx, h => by
    have hx0 : xs = [] := List.eq_nil_of_length_eq_zero (by simpa using hx)
    subst hx0
    exact RowL.cons_iff.2 ⟨v0, v1, v2, tail, rfl, ht, RowL.nil⟩
  | xs, x :: ks, hx, h => by
    obtain ⟨u0, u1, u2, rest, rfl, h1, h2⟩ := RowL.cons_iff.1 h
    exact RowL.cons_iff.2 ⟨u0, u1, u2, _, rfl, h1, RowL.snoc ht tail (by simp only [List.length_cons] at hx; omega) h2⟩
theorem RowL.tail {w : World} {S : Nat → Prop} (tail : List Value) : ∀ {xs : List Value} {ks : List Tr}, RowL w S xs ks → RowL w S (xs ++ tail) ks
  | xs, [], h => RowL.nil
  | xs, x :: ks, h => by
    obtain ⟨u0, u1, u2, rest, rfl, h1, h2⟩ := RowL.cons_iff.1 h
    exact RowL.cons_iff.2 ⟨u0, u1, u2, _, rfl, h1, RowL.tail tail h2⟩
/-- v is a slice of trees that was built by append since W; the trees may be shared, but lie in no block of X. -/
def GrowS (X : Nat → Prop) (W w : World) (e : TypeId) (v : Value) (ks : List Tr) : Prop :=
  ∃ xs, w.ownsRow W.heap.size e 3 v ks.length xs ∧ RowL w (fun b => b < w.heap.size ∧ v.ownBlock ≠ some b ∧ ¬ X b) xs ks
theorem GrowS.nil (X : Nat → Prop) (W w : World) (e : TypeId) : GrowS X W w e (.slice none 0 0) [] := ⟨[], World.ownsRow_nil _ _ _ _, RowL.nil⟩
theorem GrowS.only {X : Nat → Prop} {W w w' : World} {e : TypeId} {v : Value} {ks : List Tr} {L : List Nat} (h : GrowS X W w e v ks) (ho : Only L w w') (hX : ∀ b, b ∈ L → X b) (hL : ∀ b, X b → b < W.heap.size) : GrowS X W w' e v ks := by
  obtain ⟨xs, h1, h2⟩ := h
  refine ⟨xs, ownsRow_same h1 (fun g hg => ho.block g (h1.lt g hg).2 (fun hm => by have := hL g (hX g hm); have := (h1.lt g hg).1; omega)), h2.mono (fun b hb => ⟨Nat.lt_of_lt_of_le hb.1 ho.size, hb.2.1, hb.2.2⟩) (fun b hb => ho.block b hb.1 (fun hm => hb.2.2 (hX b hm)))⟩
theorem GrowS.ext {X : Nat → Prop} {W w w' : World} {e : TypeId} {v : Value} {ks : List Tr} (h : GrowS X W w e v ks) (he : Ext w w') : GrowS X W w' e v ks := by
  obtain ⟨xs, h1, h2⟩ := h
  exact ⟨xs, ownsRow_same h1 (fun g hg => he.heap g (h1.lt g hg).2), h2.mono (fun b hb => ⟨Nat.lt_of_lt_of_le hb.1 he.size, hb.2.1, hb.2.2⟩) (fun b hb => he.heap b hb.1)⟩
theorem GrowS.lies {X : Nat → Prop} {W w : World} {e : TypeId} {v : Value} {ks : List Tr} (h : GrowS X W w e v ks) (hL : ∀ b, X b → b < W.heap.size) : ∃ A cap, v = .slice A ks.length cap ∧ ks.length ≤ cap ∧ cap ≤ maxLen ∧ InK w (fun b => b < w.heap.size ∧ ¬ X b) A ks ∧ (ks = [] ∨ ∃ g, A = some ⟨g, 0, none⟩ ∧ W.heap.size ≤ g) := by
  obtain ⟨xs, h1, h2⟩ := h
  rcases h1.2 with ⟨rfl, h0⟩ | ⟨g, cap, cur, rfl, hb, hg, hnc, hcm, hcs, ht⟩
  · have : ks = [] := List.eq_nil_of_length_eq_zero h0
    subst this
    exact ⟨none, 0, rfl, Nat.le_refl _, Nat.zero_le _, .inl rfl, .inl rfl⟩
  · refine ⟨_, cap, rfl, hnc, hcm, .inr ⟨g, 0, rfl, ⟨lt_of_blk hg, fun hm => by have := hL g hm; omega⟩, ?_⟩, .inr ⟨g, rfl, hb⟩⟩
    have h3 := RowL.tail (cur.toList.drop (ks.length * 3)) (h2.mono (S' := fun b => b < w.heap.size ∧ ¬ X b) (fun b hb => ⟨hb.1, hb.2.2⟩) (fun _ _ => rfl))
    rw [← ht, List.take_append_drop] at h3
    exact RowL.inL hg (pre := []) h3 (by simp)
theorem Made.inT {w w' : World} {e : TypeId} {t : Tr} {v : Value} (h : Made w w' e t v) : InT w' (fun b => w.heap.size ≤ b ∧ b < w'.heap.size) t v := by
  obtain ⟨L, h, hf⟩ := h
  exact InT.mono (fun b hb => hf.2 b hb) (fun _ _ => rfl) h.inT
end Go.Proofs.YtenpknapajckbaaDoor

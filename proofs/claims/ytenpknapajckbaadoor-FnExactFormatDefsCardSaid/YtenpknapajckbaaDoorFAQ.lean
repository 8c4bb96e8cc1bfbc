/-
  Lemmas towards the law, 17: Grow, Node, Grow2.
-/
import Derived.Test.YtenpknapajckbaaDoorFAC
import Derived.Test.YtenpknapajckbaaDoorFAM
import Derived.Laws.AppendOwn
import Derived.OwnWalk
namespace Go.Proofs.YtenpknapajckbaaDoor
open Go.RowKit
set_option linter.unusedVariables false
/-- v is a slice of trees that was built by append since W; its rows are of type e. -/
def Grow (W w : World) (e : TypeId) (v : Value) (ks : List Tr) : Prop :=
  ∃ xs L, w.ownsRow W.heap.size e 3 v ks.length xs ∧ OwnL w e xs ks L ∧ Fresh W w L ∧ ∀ g, v.ownBlock = some g → ¬ g ∈ L
theorem Grow.nil (W w : World) (e : TypeId) : Grow W w e (.slice none 0 0) [] :=
  ⟨[], [], World.ownsRow_nil _ _ _ _, OwnL.nil, Fresh.nil _ _, fun _ _ h => by cases h⟩
theorem ownsRow_same {w w' : World} {base : Nat} {e : TypeId} {v : Value} {n : Nat} {xs : List Value} (h : w.ownsRow base e 3 v n xs) (hb : ∀ g, v.ownBlock = some g → w'.heap[g]? = w.heap[g]?) : w'.ownsRow base e 3 v n xs := by
  refine ⟨h.1, ?_⟩
  rcases h.2 with h | ⟨g, cap, cur, rfl, h1, h2, r⟩
  · exact .inl h
  · exact .inr ⟨g, cap, cur, rfl, h1, (hb g rfl).trans h2, r⟩
theorem Grow.same {W w w' : World} {e : TypeId} {v : Value} {ks : List Tr} (h : Grow W w e v ks) (hs : w.heap.size ≤ w'.heap.size) (hb : ∀ b, W.heap.size ≤ b → b < w.heap.size → w'.heap[b]? = w.heap[b]?) : Grow W w' e v ks := by
  obtain ⟨xs, L, h1, h2, h3, h4⟩ := h
  exact ⟨xs, L, ownsRow_same h1 (fun g hg => hb g (h1.lt g hg).1 (h1.lt g hg).2), h2.mono (fun b hm => hb b (h3.2 b hm).1 (h3.2 b hm).2), h3.mono (Nat.le_refl _) hs, h4⟩
theorem Grow.ext {W w w' : World} {e : TypeId} {v : Value} {ks : List Tr} (h : Grow W w e v ks) (he : Ext w w') : Grow W w' e v ks := h.same he.size (fun b _ hb => he.heap b hb)
theorem Grow.after {W w w' : World} {e : TypeId} {v : Value} {ks : List Tr} (h : Grow W w e v ks) (ha : Above W.heap.size w w') : Grow W w' e v ks := h.same ha.2 (fun b hb _ => ha.1 b hb)
theorem Grow.made {W w : World} {e : TypeId} {v : Value} {ks : List Tr} (h : Grow W w e v ks) : ∃ A cap, v = .slice A ks.length cap ∧ ks.length ≤ cap ∧ cap ≤ maxLen ∧ MadeK W w e A ks := by
  obtain ⟨xs, L, h1, h2, h3, h4⟩ := h
  rcases h1.2 with ⟨rfl, h0⟩ | ⟨g, cap, cur, rfl, hb, hg, hnc, hcm, hcs, ht⟩
  · have : ks = [] := List.eq_nil_of_length_eq_zero h0
    subst this
    exact ⟨none, 0, rfl, Nat.le_refl _, Nat.zero_le _, MadeK.nil _ _ _ _⟩
  · refine ⟨_, cap, rfl, hnc, hcm, g :: L, .inr ⟨g, cur, L, rfl, hg, rfl, ?_⟩, List.nodup_cons.2 ⟨h4 g rfl, h3.1⟩, fun b hm => ?_⟩
    · have := OwnL.tail (cur.toList.drop (ks.length * 3)) h2
      rw [← ht, List.take_append_drop] at this
      exact this
    · rcases List.mem_cons.1 hm with rfl | hm
      · exact ⟨hb, lt_of_blk hg⟩
      · exact h3.2 b hm
end Go.Proofs.YtenpknapajckbaaDoor
namespace Go.Proofs.YtenpknapajckbaaDoor
open Go.RowKit
set_option linter.unusedVariables false
/-- A tree all whose rows came into being between w and w'. -/
def New (w w' : World) (t : Tr) (v : Value) : Prop := InT w' (fun b => w.heap.size ≤ b ∧ b < w'.heap.size) t v
theorem New.lies {w w' : World} {t : Tr} {v : Value} (h : New w w' t v) : Lies w' t v := h.mono (fun _ hb => hb.2) (fun _ _ => rfl)
theorem New.ext {w w' w2 : World} {t : Tr} {v : Value} (h : New w w' t v) (he : Ext w' w2) : New w w2 t v := h.mono (fun b hb => ⟨hb.1, Nat.lt_of_lt_of_le hb.2 he.size⟩) (fun b hb => he.heap b hb.2)
theorem New.since {a w w' : World} {t : Tr} {v : Value} (h : New w w' t v) (ha : a.heap.size ≤ w.heap.size) : New a w' t v := h.mono (fun b hb => ⟨Nat.le_trans ha hb.1, hb.2⟩) (fun _ _ => rfl)
theorem New.after {w w1 w2 : World} {t : Tr} {v : Value} (h : New w w1 t v) (ha : Above w.heap.size w1 w2) : New w w2 t v := h.mono (fun b hb => ⟨hb.1, Nat.lt_of_lt_of_le hb.2 ha.2⟩) (fun b hb => ha.1 b hb.1)
theorem InK.one {w : World} {S : Nat → Prop} {e : TypeId} {t : Tr} {v0 v1 v2 : Value} {g : Nat} (h : InT w S t (.agg #[v0, v1, v2])) (hg : w.heap[g]? = some (.cells #[v0, v1, v2] e (0, 0))) (hS : S g) : InK w S (some ⟨g, 0, none⟩) [t] := by
  refine .inr ⟨g, 0, rfl, hS, ?_⟩
  unfold InL
  refine ⟨⟨v0, v1, v2, cell_of_blk hg 0, cell_of_blk hg 1, cell_of_blk hg 2, h⟩, ?_⟩
  unfold InL
  trivial
/-- One tree made: a row of its own. -/
theorem MadeK.one {W wr w1 w : World} {e : TypeId} {t : Tr} {v0 v1 v2 : Value} {g : Nat} (hM : Made wr w1 e t (.agg #[v0, v1, v2])) (hE1 : wr.heap.size ≤ w1.heap.size) (hE : Ext w1 w) (hg : w.heap[g]? = some (.cells #[v0, v1, v2] e (0, 0))) (hgs : w1.heap.size ≤ g) (hW : W.heap.size ≤ wr.heap.size) : MadeK W w e (some ⟨g, 0, none⟩) [t] := by
  obtain ⟨L, h, hf⟩ := hM
  refine ⟨g :: L, .inr ⟨g, _, L, rfl, hg, rfl, OwnL.cons_iff.2 ⟨v0, v1, v2, [], L, [], rfl, h.mono fun b hb => hE.heap b (hf.2 b hb).2, OwnL.nil, by simp⟩⟩, List.nodup_cons.2 ⟨fun hm => ?_, hf.1⟩, fun b hm => ?_⟩
  · have := (hf.2 g hm).2
    omega
  · have := hE.size
    rcases List.mem_cons.1 hm with rfl | hm
    · exact ⟨by omega, lt_of_blk hg⟩
    · have := hf.2 b hm
      omega
/-- The three cells of a made tree. -/
theorem Made.three {w w' : World} {e : TypeId} {t : Tr} {u : Value} (h : Made w w' e t u) : ∃ k n A l c, u = .agg #[.int .i64 k, .int .i64 n, .slice A l c] := by
  obtain ⟨k, n, ks⟩ := t
  obtain ⟨A, cap, rfl, _⟩ := Made.mk_iff.1 h
  exact ⟨k, n, A, _, cap, rfl⟩
theorem Lies.three {w : World} {t : Tr} {u : Value} (h : Lies w t u) : ∃ k n A l c, u = .agg #[.int .i64 k, .int .i64 n, .slice A l c] := by
  obtain ⟨k, n, ks⟩ := t
  obtain ⟨A, cap, rfl, _⟩ := Lies.mk_iff.1 h
  exact ⟨k, n, A, _, cap, rfl⟩
end Go.Proofs.YtenpknapajckbaaDoor
namespace Go.Proofs.YtenpknapajckbaaDoor
open Go.RowKit
set_option linter.unusedVariables false
theorem Grow.only {W w w' : World} {e : TypeId} {v : Value} {ks : List Tr} {L : List Nat} (h : Grow W w e v ks) (ho : Only L w w') (hL : ∀ b, b ∈ L → b < W.heap.size) : Grow W w' e v ks :=
  h.same ho.size (fun b hb hlt => ho.block b hlt (fun hm => by have := hL b hm; omega))
theorem Only.below {L : List Nat} {a w w' : World} {B : Nat} (h : Only L a w) (hb : Below B w w') (hB : a.heap.size ≤ B) : Only L a w' :=
  ⟨hb.os.trans h.os, hb.tape.trans h.tape, hb.output.trans h.output, Nat.le_trans h.size hb.size, fun i hi hn => (hb.block i (by omega)).trans (h.block i hi hn)⟩
end Go.Proofs.YtenpknapajckbaaDoor

/-
  Lemmas towards the law, 23: DefKit.
-/
import Derived.Test.YtolkohncmidpeaaGreatDoorGAB
import Derived.Test.YtolkohncmidpeaaGreatDoorGAV
import Derived.Outline
import Derived.StillTailTactics
import Derived.Test.YtolkohncmidpeaaGreatDoorProg
namespace Go.Proofs.YtolkohncmidpeaaGreatDoor
open Go.RowKit
set_option linter.unusedVariables false
theorem OwnL.append {w : World} {e : TypeId} {ys : List Value} {ts : List Tr} {M : List Nat} (ht : OwnL w e ys ts M) : ∀ {xs : List Value} {ks : List Tr} {L : List Nat}, xs.length = ks.length * 3 → OwnL w e xs ks L → OwnL w e (xs ++ ys) (ks ++ ts) (L ++ M)
  | xs, [], L, hx, h => by
    have hx0 : xs = [] := List.eq_nil_of_length_eq_zero (by simpa using hx)
    subst hx0
    unfold OwnL at h
    subst h
    simpa using ht
  | xs, x :: ks, L, hx, h => by
    obtain ⟨u0, u1, u2, rest, L1, L2, rfl, h1, h2, rfl⟩ := OwnL.cons_iff.1 h
    exact OwnL.cons_iff.2 ⟨u0, u1, u2, _, L1, L2 ++ M, rfl, h1, OwnL.append ht (by simp only [List.length_cons] at hx; omega) h2, by simp⟩
/-- The cells of some trees, in a row or not, made between two worlds. -/
def MadeL (w w' : World) (e : TypeId) (xs : List Value) (ks : List Tr) : Prop := ∃ L, OwnL w' e xs ks L ∧ Fresh w w' L
theorem MadeL.two {a b c d : World} {e : TypeId} {t1 t2 : Tr} {x0 x1 x2 y0 y1 y2 : Value} (h1 : Made a b e t1 (.agg #[x0, x1, x2])) (h2 : Made c d e t2 (.agg #[y0, y1, y2])) (hbc : Ext b c) (hab : a.heap.size ≤ b.heap.size) (hcd : Ext c d) : MadeL a d e [x0, x1, x2, y0, y1, y2] [t1, t2] := by
  obtain ⟨L, h1, f1⟩ := h1
  obtain ⟨M, h2, f2⟩ := h2
  exact ⟨L ++ (M ++ []), OwnL.cons_iff.2 ⟨x0, x1, x2, [y0, y1, y2], L, M ++ [], rfl, h1.mono (fun b hb => (hbc.trans hcd).heap b (f1.2 b hb).2), OwnL.cons_iff.2 ⟨y0, y1, y2, [], M, [], rfl, h2, OwnL.nil, rfl⟩, rfl⟩, by simpa using f1.append f2 hbc.size hab hcd.size⟩
theorem MadeL.after {W w1 w3 : World} {e : TypeId} {xs : List Value} {ks : List Tr} (h : MadeL W w1 e xs ks) (ha : Above W.heap.size w1 w3) : MadeL W w3 e xs ks := by
  obtain ⟨L, h, hf⟩ := h
  exact ⟨L, h.mono fun b hb => ha.1 b (hf.2 b hb).1, hf.mono (Nat.le_refl _) ha.2⟩
theorem MadeL.since {a w w' : World} {e : TypeId} {xs : List Value} {ks : List Tr} (h : MadeL w w' e xs ks) (ha : a.heap.size ≤ w.heap.size) : MadeL a w' e xs ks := by
  obtain ⟨L, h, hf⟩ := h
  exact ⟨L, h, hf.mono ha (Nat.le_refl _)⟩
def OwnD (w : World) (e eT : TypeId) (A : Option Addr) (ks : List Tr) (L : List Nat) : Prop :=
  (ks = [] ∧ L = []) ∨ ∃ b cs L', A = some ⟨b, 0, none⟩ ∧ w.heap[b]? = some (.cells cs e (0, 0)) ∧ L = b :: L' ∧ OwnL w eT cs.toList ks L'
/-- A slice of definitions that was made between w and w'. -/
def MadeD (w w' : World) (e eT : TypeId) (A : Option Addr) (ks : List Tr) : Prop := ∃ L, OwnD w' e eT A ks L ∧ Fresh w w' L
theorem OwnL.inL' {w : World} {e e' : TypeId} {b : Nat} {cs : Array Value} {S : Nat → Prop} (hb : w.heap[b]? = some (.cells cs e' (0, 0))) : ∀ {xs pre : List Value} {ks : List Tr} {L : List Nat}, OwnL w e xs ks L → cs.toList = pre ++ xs → (∀ x, x ∈ L → S x) → InL w S b pre.length ks
  | _, _, [], _, _, _, _ => by unfold InL; trivial
  | xs, pre, t :: ts, L, h, he, hS => by
    obtain ⟨v0, v1, v2, rest, L1, L2, rfl, h1, h2, rfl⟩ := OwnL.cons_iff.1 h
    unfold InL
    have hc : ∀ i, w.cell? ⟨b, i, none⟩ = cs.toList[i]? := fun i => by rw [cell_of_blk hb]; simp
    refine ⟨⟨v0, v1, v2, ?_, ?_, ?_, InT.mono (fun x hx => hS x (by simp [hx])) (fun _ _ => rfl) (OwnT.inT h1)⟩, ?_⟩
    · rw [hc, he, List.getElem?_append_right (Nat.le_refl _)]; simp
    · rw [hc, he, List.getElem?_append_right (by omega)]; simp
    · rw [hc, he, List.getElem?_append_right (by omega)]; simp
    · have := OwnL.inL' hb (pre := pre ++ [v0, v1, v2]) h2 (by simp [he]) (fun x hx => hS x (by simp [hx]))
      simpa using this
theorem MadeD.lies {w w' : World} {e eT : TypeId} {A : Option Addr} {ks : List Tr} (h : MadeD w w' e eT A ks) : LiesK w' A ks := by
  obtain ⟨L, h, hf⟩ := h
  rcases h with ⟨rfl, _⟩ | ⟨b, cs, L', rfl, hb, rfl, hl⟩
  · exact .inl rfl
  · exact .inr ⟨b, 0, rfl, (hf.2 b (by simp)).2, OwnL.inL' hb (pre := []) hl rfl (fun x hx => (hf.2 x (by simp [hx])).2)⟩
theorem OwnD.mono {w w' : World} {e eT : TypeId} {A : Option Addr} {ks : List Tr} {L : List Nat} (h : OwnD w e eT A ks L) (hw : ∀ b, b ∈ L → w'.heap[b]? = w.heap[b]?) : OwnD w' e eT A ks L := by
  rcases h with h | ⟨b, cs, L', rfl, hb, rfl, hl⟩
  · exact .inl h
  · exact .inr ⟨b, cs, L', rfl, (hw b (by simp)).trans hb, rfl, hl.mono (fun x hx => hw x (by simp [hx]))⟩
theorem MadeD.ext {w w' w2 : World} {e eT : TypeId} {A : Option Addr} {ks : List Tr} (h : MadeD w w' e eT A ks) (he : Ext w' w2) : MadeD w w2 e eT A ks := by
  obtain ⟨L, h, hf⟩ := h
  refine ⟨L, ?_, hf.mono (Nat.le_refl _) he.size⟩
  rcases h with h | ⟨b, cs, L', rfl, hb, rfl, hl⟩
  · exact .inl h
  · exact .inr ⟨b, cs, L', rfl, he.blk hb, rfl, hl.mono (fun x hx => he.heap x (hf.2 x (by simp [hx])).2)⟩
theorem MadeD.row {w w1 w' : World} {e eT : TypeId} {g : Nat} {cs : Array Value} {ks : List Tr} {L : List Nat} (hb : w'.heap[g]? = some (.cells cs e (0, 0))) (hl : OwnL w' eT cs.toList ks L) (hf : Fresh w1 w' L) (hg : w.heap.size ≤ g) (hg1 : g < w1.heap.size) : MadeD w w' e eT (some ⟨g, 0, none⟩) ks := by
  refine ⟨g :: L, .inr ⟨g, cs, L, rfl, hb, rfl, hl⟩, List.nodup_cons.2 ⟨fun hm => ?_, hf.1⟩, fun b hm => ?_⟩
  · have := hf.2 g hm
    omega
  · rcases List.mem_cons.1 hm with rfl | hm
    · exact ⟨hg, lt_of_blk hb⟩
    · have := hf.2 b hm
      omega
theorem own6 {w : World} {g : Nat} {x0 x1 x2 x3 x4 x5 : Value} {e : TypeId} (hb : w.heap[g]? = some (.cells #[x0, x1, x2, x3, x4, x5] e (0, 0))) :
    (w.cell? ⟨g, 0, none⟩ = some x0 ∧ w.cell? ⟨g, 1, none⟩ = some x1 ∧ w.cell? ⟨g, 2, none⟩ = some x2 ∧ w.cell? ⟨g, 3, none⟩ = some x3 ∧ w.cell? ⟨g, 4, none⟩ = some x4 ∧ w.cell? ⟨g, 5, none⟩ = some x5) ∧
    w.frozen? ⟨g, 0, none⟩ = false ∧ w.frozen? ⟨g, 1, none⟩ = false ∧ w.frozen? ⟨g, 2, none⟩ = false ∧ w.frozen? ⟨g, 3, none⟩ = false ∧ w.frozen? ⟨g, 4, none⟩ = false ∧ w.frozen? ⟨g, 5, none⟩ = false :=
  ⟨⟨cell_of_blk hb 0, cell_of_blk hb 1, cell_of_blk hb 2, cell_of_blk hb 3, cell_of_blk hb 4, cell_of_blk hb 5⟩, frozen_of_blk hb 0, frozen_of_blk hb 1, frozen_of_blk hb 2, frozen_of_blk hb 3, frozen_of_blk hb 4, frozen_of_blk hb 5⟩
end Go.Proofs.YtolkohncmidpeaaGreatDoor

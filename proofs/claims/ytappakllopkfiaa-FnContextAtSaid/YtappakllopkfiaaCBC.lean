/-
  Lemmas towards the law, 29: Defs, DefKit, DefG.
-/
import Derived.Test.YtappakllopkfiaaCAC
import Derived.Test.YtappakllopkfiaaCAF
import Derived.Test.YtappakllopkfiaaCAK
import Derived.Test.YtappakllopkfiaaCBB
import Derived.Deep.RegionHeld3
import Derived.Outline
import Derived.StillTailTactics
import Derived.Test.YtappakllopkfiaaProg
namespace Go.Proofs.Ytappakllopkfiaa
open Go.RowKit
set_option linter.unusedVariables false
/-- A definition's six cells, asked for in a later world. -/
theorem LiesK.getD {w w' : World} {A : Option Addr} {ks : List Tr} {j : Nat} (h : LiesK w A ks) (he : Ext w w') (hj : j * 2 + 1 < ks.length) :
    ∃ b o k1 n1 A1 p1 kids1 k2 n2 A2 p2 kids2, A = some ⟨b, o, none⟩ ∧ b < w.heap.size ∧ Hid (ks[j * 2] = .mk k1 n1 kids1) ∧ Hid (ks[j * 2 + 1] = .mk k2 n2 kids2) ∧
      (w'.cell? ⟨b, o + j * 6, none⟩ = some (.int .i64 k1) ∧ w'.cell? ⟨b, o + j * 6 + 1, none⟩ = some (.int .i64 n1) ∧ w'.cell? ⟨b, o + j * 6 + 2, none⟩ = some (.slice A1 kids1.length p1) ∧
      w'.cell? ⟨b, o + j * 6 + 3, none⟩ = some (.int .i64 k2) ∧ w'.cell? ⟨b, o + j * 6 + 4, none⟩ = some (.int .i64 n2) ∧ w'.cell? ⟨b, o + j * 6 + 5, none⟩ = some (.slice A2 kids2.length p2)) ∧
      (kids1.length ≤ p1 ∧ p1 ≤ maxLen ∧ LiesK w' A1 kids1 ∧ Lies w' (.mk k1 n1 kids1) (.agg #[.int .i64 k1, .int .i64 n1, .slice A1 kids1.length p1]) ∧ Tr.mk k1 n1 kids1 ∈ ks) ∧
      (kids2.length ≤ p2 ∧ p2 ≤ maxLen ∧ LiesK w' A2 kids2 ∧ Lies w' (.mk k2 n2 kids2) (.agg #[.int .i64 k2, .int .i64 n2, .slice A2 kids2.length p2]) ∧ Tr.mk k2 n2 kids2 ∈ ks) := by
  obtain ⟨b, o, k1, n1, A1, p1, kids1, rfl, HK1, c0, c1, c2, r1⟩ := h.get (j := j * 2) he (by omega)
  obtain ⟨b', o', k2, n2, A2, p2, kids2, e, HK2, d0, d1, d2, r2⟩ := h.get (j := j * 2 + 1) he hj
  obtain ⟨rfl, rfl⟩ : b = b' ∧ o = o' := by cases e; exact ⟨rfl, rfl⟩
  rw [show o + j * 2 * 3 = o + j * 6 by omega] at c0 c1 c2
  rw [show o + (j * 2 + 1) * 3 = o + j * 6 + 3 by omega] at d0 d1 d2
  have hb : b < w.heap.size := by
    rcases h with h | ⟨b', o', e, hb, -⟩
    · rw [h] at hj; simp at hj
    · cases e; exact hb
  exact ⟨b, o, k1, n1, A1, p1, kids1, k2, n2, A2, p2, kids2, rfl, hb, HK1, HK2, ⟨c0, c1, c2, d0, d1, d2⟩, r1, r2⟩
end Go.Proofs.Ytappakllopkfiaa
namespace Go.Proofs.Ytappakllopkfiaa
open Go.RowKit
set_option linter.unusedVariables false
theorem OwnL.append {w : World} {e : TypeId} {ys : List Value} {ts : List Tr} {M : List Nat} (ht : OwnL w e ys ts M) : ∀ {xs : List Value} {ks : List Tr} {L : List Nat}, xs.length = ks.length * 3 → OwnL w e xs ks L → OwnL w e (xs ++ ys) (ks ++ ts) (L ++ M)
  | xs, [], L, hx, h => by
    have hx0 : xs = [] := List.eq_nil_of_length_eq_zero (by simpa using hx)
    subst hx0
    unfold OwnL at h
    subst h
    simpa using ht
  | xs, x :: ks, L, hx, h => by
    obtain ⟨u0, u1, u2, rest, L1, L2, rfl, h1, h2, rfl⟩ := OwnL.cons_iff.1 h
    exact OwnL.cons_iff.2 ⟨u0, u1, u2, _, L1, L2 ++ M, rfl, h1, OwnL.append ht (by simp only [List.length_cons] at hx; omega) h2, by simp⟩
/-- The cells of some trees, in a row or not, made between two worlds. -/
def MadeL (w w' : World) (e : TypeId) (xs : List Value) (ks : List Tr) : Prop := ∃ L, OwnL w' e xs ks L ∧ Fresh w w' L
theorem MadeL.two {a b c d : World} {e : TypeId} {t1 t2 : Tr} {x0 x1 x2 y0 y1 y2 : Value} (h1 : Made a b e t1 (.agg #[x0, x1, x2])) (h2 : Made c d e t2 (.agg #[y0, y1, y2])) (hbc : Ext b c) (hab : a.heap.size ≤ b.heap.size) (hcd : Ext c d) : MadeL a d e [x0, x1, x2, y0, y1, y2] [t1, t2] := by
  obtain ⟨L, h1, f1⟩ := h1
  obtain ⟨M, h2, f2⟩ := h2
  exact ⟨L ++ (M ++ []), OwnL.cons_iff.2 ⟨x0, x1, x2, [y0, y1, y2], L, M ++ [], rfl, h1.mono (fun b hb => (hbc.trans hcd).heap b (f1.2 b hb).2), OwnL.cons_iff.2 ⟨y0, y1, y2, [], M, [], rfl, h2, OwnL.nil, rfl⟩, rfl⟩, by simpa using f1.append f2 hbc.size hab hcd.size⟩
theorem MadeL.after {W w1 w3 : World} {e : TypeId} {xs : List Value} {ks : List Tr} (h : MadeL W w1 e xs ks) (ha : Above W.heap.size w1 w3) : MadeL W w3 e xs ks := by
  obtain ⟨L, h, hf⟩ := h
  exact ⟨L, h.mono fun b hb => ha.1 b (hf.2 b hb).1, hf.mono (Nat.le_refl _) ha.2⟩
theorem MadeL.since {a w w' : World} {e : TypeId} {xs : List Value} {ks : List Tr} (h : MadeL w w' e xs ks) (ha : a.heap.size ≤ w.heap.size) : MadeL a w' e xs ks := by
  obtain ⟨L, h, hf⟩ := h
  exact ⟨L, h, hf.mono ha (Nat.le_refl _)⟩
def OwnD (w : World) (e eT : TypeId) (A : Option Addr) (ks : List Tr) (L : List Nat) : Prop :=
  (ks = [] ∧ L = []) ∨ ∃ b cs L', A = some ⟨b, 0, none⟩ ∧ w.heap[b]? = some (.cells cs e (0, 0)) ∧ L = b :: L' ∧ OwnL w eT cs.toList ks L'
/-- A slice of definitions that was made between w and w'. -/
def MadeD (w w' : World) (e eT : TypeId) (A : Option Addr) (ks : List Tr) : Prop := ∃ L, OwnD w' e eT A ks L ∧ Fresh w w' L
theorem OwnL.inL' {w : World} {e e' : TypeId} {b : Nat} {cs : Array Value} {S : Nat → Prop} (hb : w.heap[b]? = some (.cells cs e' (0, 0))) : ∀ {xs pre : List Value} {ks : List Tr} {L : List Nat}, OwnL w e xs ks L → cs.toList = pre ++ xs → (∀ x, x ∈ L → S x) → InL w S b pre.length ks
  | _, _, [], _, _, _, _ => by unfold InL; trivial
  | xs, pre, t :: ts, L, h, he, hS => by
    obtain ⟨v0, v1, v2, rest, L1, L2, rfl, h1, h2, rfl⟩ := OwnL.cons_iff.1 h
    unfold InL
    have hc : ∀ i, w.cell? ⟨b, i, none⟩ = cs.toList[i]? := fun i => by rw [cell_of_blk hb]; simp
    refine ⟨⟨v0, v1, v2, ?_, ?_, ?_, InT.mono (fun x hx => hS x (by simp [hx])) (fun _ _ => rfl) (OwnT.inT h1)⟩, ?_⟩
    · rw [hc, he, List.getElem?_append_right (Nat.le_refl _)]; simp
    · rw [hc, he, List.getElem?_append_right (by omega)]; simp
    · rw [hc, he, List.getElem?_append_right (by omega)]; simp
    · have := OwnL.inL' hb (pre := pre ++ [v0, v1, v2]) h2 (by simp [he]) (fun x hx => hS x (by simp [hx]))
      simpa using this
theorem MadeD.lies {w w' : World} {e eT : TypeId} {A : Option Addr} {ks : List Tr} (h : MadeD w w' e eT A ks) : LiesK w' A ks := by
  obtain ⟨L, h, hf⟩ := h
  rcases h with ⟨rfl, _⟩ | ⟨b, cs, L', rfl, hb, rfl, hl⟩
  · exact .inl rfl
  · exact .inr ⟨b, 0, rfl, (hf.2 b (by simp)).2, OwnL.inL' hb (pre := []) hl rfl (fun x hx => (hf.2 x (by simp [hx])).2)⟩
theorem OwnD.mono {w w' : World} {e eT : TypeId} {A : Option Addr} {ks : List Tr} {L : List Nat} (h : OwnD w e eT A ks L) (hw : ∀ b, b ∈ L → w'.heap[b]? = w.heap[b]?) : OwnD w' e eT A ks L := by
  rcases h with h | ⟨b, cs, L', rfl, hb, rfl, hl⟩
  · exact .inl h
  · exact .inr ⟨b, cs, L', rfl, (hw b (by simp)).trans hb, rfl, hl.mono (fun x hx => hw x (by simp [hx]))⟩
theorem MadeD.ext {w w' w2 : World} {e eT : TypeId} {A : Option Addr} {ks : List Tr} (h : MadeD w w' e eT A ks) (he : Ext w' w2) : MadeD w w2 e eT A ks := by
  obtain ⟨L, h, hf⟩ := h
  refine ⟨L, ?_, hf.mono (Nat.le_refl _) he.size⟩
  rcases h with h | ⟨b, cs, L', rfl, hb, rfl, hl⟩
  · exact .inl h
  · exact .inr ⟨b, cs, L', rfl, he.blk hb, rfl, hl.mono (fun x hx => he.heap x (hf.2 x (by simp [hx])).2)⟩
theorem MadeD.row {w w1 w' : World} {e eT : TypeId} {g : Nat} {cs : Array Value} {ks : List Tr} {L : List Nat} (hb : w'.heap[g]? = some (.cells cs e (0, 0))) (hl : OwnL w' eT cs.toList ks L) (hf : Fresh w1 w' L) (hg : w.heap.size ≤ g) (hg1 : g < w1.heap.size) : MadeD w w' e eT (some ⟨g, 0, none⟩) ks := by
  refine ⟨g :: L, .inr ⟨g, cs, L, rfl, hb, rfl, hl⟩, List.nodup_cons.2 ⟨fun hm => ?_, hf.1⟩, fun b hm => ?_⟩
  · have := hf.2 g hm
    omega
  · rcases List.mem_cons.1 hm with rfl | hm
    · exact ⟨hg, lt_of_blk hb⟩
    · have := hf.2 b hm
      omega
end Go.Proofs.Ytappakllopkfiaa
namespace Go.Proofs.Ytappakllopkfiaa
open Go.RowKit
set_option linter.unusedVariables false
/-- v is a slice of n definitions (2n trees) that was built by append since W; all trees are newer than W. -/
def GrowD (W w : World) (e : TypeId) (v : Value) (ks : List Tr) (n : Nat) : Prop :=
  ks.length = n * 2 ∧ ∃ xs, w.ownsRow W.heap.size e 6 v n xs ∧ RowL w (fun b => W.heap.size ≤ b ∧ b < w.heap.size ∧ v.ownBlock ≠ some b) xs ks
theorem ownsRow_same6 {w w' : World} {base : Nat} {e : TypeId} {v : Value} {n : Nat} {xs : List Value} (h : w.ownsRow base e 6 v n xs) (hb : ∀ g, v.ownBlock = some g → w'.heap[g]? = w.heap[g]?) : w'.ownsRow base e 6 v n xs := by
  refine ⟨h.1, ?_⟩
  rcases h.2 with h | ⟨g, cap, cur, rfl, h1, h2, r⟩
  · exact .inl h
  · exact .inr ⟨g, cap, cur, rfl, h1, (hb g rfl).trans h2, r⟩
theorem GrowD.nil (W w : World) (e : TypeId) : GrowD W w e (.slice none 0 0) [] 0 := ⟨rfl, [], World.ownsRow_nil _ _ _ _, RowL.nil⟩
theorem GrowD.lit {W w : World} {e : TypeId} {g : Nat} (hg : w.heap[g]? = some (.cells #[] e (0, 0))) (hW : W.heap.size ≤ g) : GrowD W w e (.slice (some ⟨g, 0, none⟩) 0 0) [] 0 :=
  ⟨rfl, [], ⟨rfl, .inr ⟨g, 0, #[], rfl, hW, hg, Nat.le_refl _, Nat.zero_le _, rfl, rfl⟩⟩, RowL.nil⟩
theorem GrowD.same {W w w' : World} {e : TypeId} {v : Value} {ks : List Tr} {n : Nat} (h : GrowD W w e v ks n) (hs : w.heap.size ≤ w'.heap.size) (hb : ∀ b, W.heap.size ≤ b → b < w.heap.size → w'.heap[b]? = w.heap[b]?) : GrowD W w' e v ks n := by
  obtain ⟨h0, xs, h1, h2⟩ := h
  exact ⟨h0, xs, ownsRow_same6 h1 (fun g hg => hb g (h1.lt g hg).1 (h1.lt g hg).2), h2.mono (fun b hb => ⟨hb.1, Nat.lt_of_lt_of_le hb.2.1 hs, hb.2.2⟩) (fun b hm => hb b hm.1 hm.2.1)⟩
theorem GrowD.ext {W w w' : World} {e : TypeId} {v : Value} {ks : List Tr} {n : Nat} (h : GrowD W w e v ks n) (he : Ext w w') : GrowD W w' e v ks n := h.same he.size (fun b _ hb => he.heap b hb)
theorem GrowD.only {W w w' : World} {e : TypeId} {v : Value} {ks : List Tr} {n : Nat} {L : List Nat} (h : GrowD W w e v ks n) (ho : Only L w w') (hL : ∀ b, b ∈ L → b < W.heap.size) : GrowD W w' e v ks n :=
  h.same ho.size (fun b hW hb => ho.block b hb (fun hm => by have := hL b hm; omega))
theorem GrowD.slice {W w : World} {e : TypeId} {v : Value} {ks : List Tr} {n : Nat} (h : GrowD W w e v ks n) : ∃ A cap, v = .slice A n cap ∧ n ≤ cap ∧ cap ≤ maxLen ∧ FromK W.heap.size w A ks := by
  obtain ⟨h0, xs, h1, h2⟩ := h
  rcases h1.2 with ⟨rfl, h3⟩ | ⟨g, cap, cur, rfl, hb, hg, hnc, hcm, hcs, ht⟩
  · have : ks = [] := List.eq_nil_of_length_eq_zero (by omega)
    subst this
    exact ⟨none, 0, by rw [h3], by omega, Nat.zero_le _, .inl rfl⟩
  · refine ⟨_, cap, rfl, hnc, hcm, .inr ⟨g, 0, rfl, ⟨hb, lt_of_blk hg⟩, ?_⟩⟩
    have h3 := RowL.tail (cur.toList.drop (n * 6)) (h2.mono (S' := fun b => W.heap.size ≤ b ∧ b < w.heap.size) (fun b hb => ⟨hb.1, hb.2.1⟩) (fun _ _ => rfl))
    rw [← ht, List.take_append_drop] at h3
    exact RowL.inL hg (pre := []) h3 (by simp)
theorem GrowD.cap {W w : World} {e : TypeId} {A : Option Addr} {n cap n' : Nat} {ks : List Tr} (h : GrowD W w e (.slice A n cap) ks n') : A = none → cap = 0 := by
  obtain ⟨h0, xs, h1, h2⟩ := h
  intro hA
  rcases h1.2 with ⟨h3, -⟩ | ⟨g, c, cur, h3, -⟩
  · simp only [Value.slice.injEq] at h3
    exact h3.2.2
  · simp only [Value.slice.injEq] at h3
    rw [hA] at h3
    cases h3.1
theorem RowL.append {w : World} {S : Nat → Prop} {ys : List Value} {ts : List Tr} (ht : RowL w S ys ts) : ∀ {xs : List Value} {ks : List Tr}, xs.length = ks.length * 3 → RowL w S xs ks → RowL w S (xs ++ ys) (ks ++ ts)
  | xs, [], hx, h => by
    have hx0 : xs = [] := List.eq_nil_of_length_eq_zero (by simpa using hx)
    subst hx0
    exact ht
  | xs, x :: ks, hx, h => by
    obtain ⟨u0, u1, u2, rest, rfl, h1, h2⟩ := RowL.cons_iff.1 h
    exact RowL.cons_iff.2 ⟨u0, u1, u2, _, rfl, h1, RowL.append ht (by simp only [List.length_cons] at hx; omega) h2⟩
theorem RowL.two {w : World} {S : Nat → Prop} {t u : Tr} {v0 v1 v2 v3 v4 v5 : Value} (h1 : InT w S t (.agg #[v0, v1, v2])) (h2 : InT w S u (.agg #[v3, v4, v5])) : RowL w S [v0, v1, v2, v3, v4, v5] [t, u] :=
  RowL.cons_iff.2 ⟨v0, v1, v2, _, rfl, h1, RowL.cons_iff.2 ⟨v3, v4, v5, _, rfl, h2, RowL.nil⟩⟩
/-- A tree newer than a world in which the row lay stands outside of the row. -/
theorem GrowD.off {W w w1 : World} {e : TypeId} {v : Value} {ks : List Tr} {n : Nat} {t : Tr} {u : Value} (h : GrowD W w e v ks n) (hW : W.heap.size ≤ w.heap.size) (ht : From w.heap.size w1 t u) : InT w1 (fun b => W.heap.size ≤ b ∧ b < w1.heap.size ∧ v.ownBlock ≠ some b) t u := by
  obtain ⟨h0, xs, h1, h2⟩ := h
  exact InT.mono (fun b hb => ⟨by have := hb.1; omega, hb.2, fun he => by have := (h1.lt b he).2; have := hb.1; omega⟩) (fun _ _ => rfl) ht
/-- The row of a slice that is not empty. -/
theorem GrowD.row {W w : World} {e : TypeId} {v : Value} {ks : List Tr} {n : Nat} (h : GrowD W w e v ks n) (hn : 0 < n) : ∃ g cap, v = .slice (some ⟨g, 0, none⟩) n cap ∧ W.heap.size ≤ g ∧ g < w.heap.size ∧ n ≤ cap ∧ cap ≤ maxLen ∧
    ∀ j, j < n * 6 → ∃ x, w.cell? ⟨g, j, none⟩ = some x ∧ w.frozen? ⟨g, j, none⟩ = false := by
  obtain ⟨h0, xs, h1, h2⟩ := h
  rcases h1.2 with ⟨rfl, h3⟩ | ⟨g, cap, cur, rfl, hb, hg, hnc, hcm, hcs, ht⟩
  · omega
  · exact ⟨g, cap, rfl, hb, lt_of_blk hg, hnc, hcm, fun j hj => ⟨cur[j]'(by rw [hcs]; omega), by rw [cell_of_blk hg]; exact Array.getElem?_eq_getElem _, frozen_of_blk hg _⟩⟩
/-- A tree stored into the row. -/
theorem GrowD.set {W w : World} {e : TypeId} {g cap n j : Nat} {ks : List Tr} {t : Tr} {v0 v1 v2 : Value} (h : GrowD W w e (.slice (some ⟨g, 0, none⟩) n cap) ks n) (hj : j < ks.length)
    (ht : InT w (fun b => W.heap.size ≤ b ∧ b < w.heap.size ∧ b ≠ g) t (.agg #[v0, v1, v2])) :
    GrowD W (((w.setCell ⟨g, j * 3, none⟩ v0).setCell ⟨g, j * 3 + 1, none⟩ v1).setCell ⟨g, j * 3 + 2, none⟩ v2) e (.slice (some ⟨g, 0, none⟩) n cap) (ks.set j t) n := by
  obtain ⟨h0, xs, h1, h2⟩ := h
  rcases h1.2 with ⟨h3, h4⟩ | ⟨g', cap', cur, he, hb, hg, hnc, hcm, hcs, htk⟩
  · rw [h4] at h0; omega
  · simp only [Value.slice.injEq, Option.some.injEq, Addr.mk.injEq, and_true, true_and] at he
    obtain ⟨rfl, rfl⟩ := he
    have q1 := blk_setCell (blk_setCell (blk_setCell hg (j * 3) v0) (j * 3 + 1) v1) (j * 3 + 2) v2
    have q2 : ∀ b, b ≠ g → (((w.setCell ⟨g, j * 3, none⟩ v0).setCell ⟨g, j * 3 + 1, none⟩ v1).setCell ⟨g, j * 3 + 2, none⟩ v2).heap[b]? = w.heap[b]? := fun b hne => by
      rw [Below.heap_setCell _ _ _ _ hne, Below.heap_setCell _ _ _ _ hne, Below.heap_setCell _ _ _ _ hne]
    have hlx : xs.length = ks.length * 3 := by rw [h1.1, h0]; omega
    refine ⟨by simpa using h0, ((xs.set (j * 3) v0).set (j * 3 + 1) v1).set (j * 3 + 2) v2, ⟨by simpa using h1.1, .inr ⟨g, cap, _, rfl, hb, q1, hnc, hcm, by simpa using hcs, ?_⟩⟩, ?_⟩
    · simp only [Array.toList_setIfInBounds, List.take_set, htk]
    · have hmn : RowL (((w.setCell ⟨g, j * 3, none⟩ v0).setCell ⟨g, j * 3 + 1, none⟩ v1).setCell ⟨g, j * 3 + 2, none⟩ v2) (fun b => W.heap.size ≤ b ∧ b < (((w.setCell ⟨g, j * 3, none⟩ v0).setCell ⟨g, j * 3 + 1, none⟩ v1).setCell ⟨g, j * 3 + 2, none⟩ v2).heap.size ∧ (Value.slice (some ⟨g, 0, none⟩) n cap).ownBlock ≠ some b) xs ks :=
        h2.mono (fun b hb => ⟨hb.1, by simpa using hb.2.1, hb.2.2⟩) (fun b hb => q2 b (fun he => hb.2.2 (by rw [he]; rfl)))
      refine RowL.set (InT.mono (fun b hb => ⟨hb.1, by simpa using hb.2.1, fun he => hb.2.2 (by simpa [Value.ownBlock] using he.symm)⟩) (fun b hb => q2 b hb.2.2) ht) j hmn
end Go.Proofs.Ytappakllopkfiaa

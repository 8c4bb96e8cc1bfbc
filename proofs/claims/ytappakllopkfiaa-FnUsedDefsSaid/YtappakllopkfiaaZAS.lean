/-
  Lemmas towards the law, 19: DefG, Line.
-/
import Derived.Test.YtappakllopkfiaaZAG
import Derived.Test.YtappakllopkfiaaZAL
import Derived.Test.YtappakllopkfiaaZAN
import Derived.Test.YtappakllopkfiaaZAO
import Derived.Test.YtappakllopkfiaaZAR
namespace Go.Proofs.Ytappakllopkfiaa
open Go.RowKit
set_option linter.unusedVariables false
/-- v is a slice of n definitions (2n trees) that was built by append since W; all trees are newer than W. -/
def GrowD (W w : World) (e : TypeId) (v : Value) (ks : List Tr) (n : Nat) : Prop :=
  ks.length = n * 2 ∧ ∃ xs, w.ownsRow W.heap.size e 6 v n xs ∧ RowL w (fun b => W.heap.size ≤ b ∧ b < w.heap.size ∧ v.ownBlock ≠ some b) xs ks
theorem ownsRow_same6 {w w' : World} {base : Nat} {e : TypeId} {v : Value} {n : Nat} {xs : List Value} (h : w.ownsRow base e 6 v n xs) (hb : ∀ g, v.ownBlock = some g → w'.heap[g]? = w.heap[g]?) : w'.ownsRow base e 6 v n xs := by
  refine ⟨h.1, ?_⟩
  rcases h.2 with h | ⟨g, cap, cur, rfl, h1, h2, r⟩
  · exact .inl h
  · exact .inr ⟨g, cap, cur, rfl, h1, (hb g rfl).trans h2, r⟩
theorem GrowD.nil (W w : World) (e : TypeId) : GrowD W w e (.slice none 0 0) [] 0 := ⟨rfl, [], World.ownsRow_nil _ _ _ _, RowL.nil⟩
theorem GrowD.lit {W w : World} {e : TypeId} {g : Nat} (hg : w.heap[g]? = some (.cells #[] e (0, 0))) (hW : W.heap.size ≤ g) : GrowD W w e (.slice (some ⟨g, 0, none⟩) 0 0) [] 0 :=
  ⟨rfl, [], ⟨rfl, .inr ⟨g, 0, #[], rfl, hW, hg, Nat.le_refl _, Nat.zero_le _, rfl, rfl⟩⟩, RowL.nil⟩
theorem GrowD.same {W w w' : World} {e : TypeId} {v : Value} {ks : List Tr} {n : Nat} (h : GrowD W w e v ks n) (hs : w.heap.size ≤ w'.heap.size) (hb : ∀ b, W.heap.size ≤ b → b < w.heap.size → w'.heap[b]? = w.heap[b]?) : GrowD W w' e v ks n := by
  obtain ⟨h0, xs, h1, h2⟩ := h
  exact ⟨h0, xs, ownsRow_same6 h1 (fun g hg => hb g (h1.lt g hg).1 (h1.lt g hg).2), h2.mono (fun b hb => ⟨hb.1, Nat.lt_of_lt_of_le hb.2.1 hs, hb.2.2⟩) (fun b hm => hb b hm.1 hm.2.1)⟩
theorem GrowD.ext {W w w' : World} {e : TypeId} {v : Value} {ks : List Tr} {n : Nat} (h : GrowD W w e v ks n) (he : Ext w w') : GrowD W w' e v ks n := h.same he.size (fun b _ hb => he.heap b hb)
theorem GrowD.only {W w w' : World} {e : TypeId} {v : Value} {ks : List Tr} {n : Nat} {L : List Nat} (h : GrowD W w e v ks n) (ho : Only L w w') (hL : ∀ b, b ∈ L → b < W.heap.size) : GrowD W w' e v ks n :=
  h.same ho.size (fun b hW hb => ho.block b hb (fun hm => by have := hL b hm; omega))
theorem GrowD.slice {W w : World} {e : TypeId} {v : Value} {ks : List Tr} {n : Nat} (h : GrowD W w e v ks n) : ∃ A cap, v = .slice A n cap ∧ n ≤ cap ∧ cap ≤ maxLen ∧ FromK W.heap.size w A ks := by
  obtain ⟨h0, xs, h1, h2⟩ := h
  rcases h1.2 with ⟨rfl, h3⟩ | ⟨g, cap, cur, rfl, hb, hg, hnc, hcm, hcs, ht⟩
  · have : ks = [] := List.eq_nil_of_length_eq_zero (by omega)
    subst this
    exact ⟨none, 0, by rw [h3], by omega, Nat.zero_le _, .inl rfl⟩
  · refine ⟨_, cap, rfl, hnc, hcm, .inr ⟨g, 0, rfl, ⟨hb, lt_of_blk hg⟩, ?_⟩⟩
    have h3 := RowL.tail (cur.toList.drop (n * 6)) (h2.mono (S' := fun b => W.heap.size ≤ b ∧ b < w.heap.size) (fun b hb => ⟨hb.1, hb.2.1⟩) (fun _ _ => rfl))
    rw [← ht, List.take_append_drop] at h3
    exact RowL.inL hg (pre := []) h3 (by simp)
theorem GrowD.cap {W w : World} {e : TypeId} {A : Option Addr} {n cap n' : Nat} {ks : List Tr} (h : GrowD W w e (.slice A n cap) ks n') : A = none → cap = 0 := by
  obtain ⟨h0, xs, h1, h2⟩ := h
  intro hA
  rcases h1.2 with ⟨h3, -⟩ | ⟨g, c, cur, h3, -⟩
  · simp only [Value.slice.injEq] at h3
    exact h3.2.2
  · simp only [Value.slice.injEq] at h3
    rw [hA] at h3
    cases h3.1
theorem row6_cells {w : World} {g : Nat} {v0 v1 v2 v3 v4 v5 : Value} {e : TypeId} (h : w.heap[g]? = some (.cells #[v0, v1, v2, v3, v4, v5] e (0, 0))) : ∀ j u, [v0, v1, v2, v3, v4, v5][j]? = some u → w.cell? ((⟨g, 0, none⟩ : Addr).add j) = some u := by
  intro j u hu
  rw [Addr.add_lit, Nat.zero_add, cell_of_blk h]
  simpa using hu
theorem RowL.append {w : World} {S : Nat → Prop} {ys : List Value} {ts : List Tr} (ht : RowL w S ys ts) : ∀ {xs : List Value} {ks : List Tr}, xs.length = ks.length * 3 → RowL w S xs ks → RowL w S (xs ++ ys) (ks ++ ts)
  | xs, [], hx, h => by
    have hx0 : xs = [] := List.eq_nil_of_length_eq_zero (by simpa using hx)
    subst hx0
    exact ht
  | xs, x :: ks, hx, h => by
    obtain ⟨u0, u1, u2, rest, rfl, h1, h2⟩ := RowL.cons_iff.1 h
    exact RowL.cons_iff.2 ⟨u0, u1, u2, _, rfl, h1, RowL.append ht (by simp only [List.length_cons] at hx; omega) h2⟩
theorem RowL.two {w : World} {S : Nat → Prop} {t u : Tr} {v0 v1 v2 v3 v4 v5 : Value} (h1 : InT w S t (.agg #[v0, v1, v2])) (h2 : InT w S u (.agg #[v3, v4, v5])) : RowL w S [v0, v1, v2, v3, v4, v5] [t, u] :=
  RowL.cons_iff.2 ⟨v0, v1, v2, _, rfl, h1, RowL.cons_iff.2 ⟨v3, v4, v5, _, rfl, h2, RowL.nil⟩⟩
theorem wp_append_def {P : Program} (w : World) {o : Oper} {a : Act} {K : Act → World → Prop} {Q : Exit → Act → World → Prop} (s x : Operand) (t : TypeId)
    (ho : o.op = .call { callee := .builtin .append, args := #[s, x], argTypes := #[t, t] })
    (e : TypeId) (i : TypeInfo) (z : Value) (ht : P.underlying t = some (.slice e)) (hi : P.info? e = some i) (hz : i.zero = some z) (hsize : i.size = 6) (hby : i.bytes = 80) (hzs : z.cells.size = 6)
    {W : World} {v : Value} {ks : List Tr} {n : Nat} {t1 t2 : Tr} {v0 v1 v2 v3 v4 v5 : Value} {gx : Nat} (hs : a.eval s = v) (hG : GrowD W w e v ks n) (hW : W.heap.size ≤ w.heap.size)
    (hT1 : InT w (fun b => W.heap.size ≤ b ∧ b < w.heap.size ∧ v.ownBlock ≠ some b) t1 (.agg #[v0, v1, v2])) (hT2 : InT w (fun b => W.heap.size ≤ b ∧ b < w.heap.size ∧ v.ownBlock ≠ some b) t2 (.agg #[v3, v4, v5]))
    (hx : a.eval x = .slice (some ⟨gx, 0, none⟩) 1 1) (hgx : w.heap[gx]? = some (.cells #[v0, v1, v2, v3, v4, v5] e (0, 0))) (hn : n < 1099511627776)
    (h : ∀ v' w', GrowD W w' e v' (ks ++ [t1, t2]) (n + 1) → Below W.heap.size w w' → w.grownBy w' v.ownBlock → (∀ g, v'.ownBlock = some g → v.ownBlock = some g ∨ w.heap.size ≤ g) → K (a.put o.dst v') w') : o.wp P a w K Q := by
  obtain ⟨h0, xs, h1, h2⟩ := hG
  have hone : ∀ u ∈ [v0, v1, v2, v3, v4, v5], u.oneCell' = true := by
    have q1 := inT_oneCell hT1
    have q2 := inT_oneCell hT2
    intro u hu
    simp only [List.mem_cons, List.not_mem_nil, or_false] at hu q1 q2
    rcases hu with hu | hu | hu | hu | hu | hu
    · exact q1 u (.inl hu)
    · exact q1 u (.inr (.inl hu))
    · exact q1 u (.inr (.inr hu))
    · exact q2 u (.inl hu)
    · exact q2 u (.inr (.inl hu))
    · exact q2 u (.inr (.inr hu))
  obtain ⟨v', w', hr, r1, r2, r3⟩ := run_append_own' (P := P) w W.heap.size t o.type e i z 6 80 ht hi hz hsize hby hzs (by decide) v n xs h1 ⟨gx, 0, none⟩ 1 1 [v0, v1, v2, v3, v4, v5] rfl (row6_cells hgx) hone (by unfold maxLen; omega) (by omega) hW
  have hB : Below W.heap.size w w' := ⟨r2.os, r2.tape, r2.output, r2.size, fun b hb => r2.block b (by omega) (fun he => by have := (h1.lt b he.symm).1; omega)⟩
  have hS : ∀ b, W.heap.size ≤ b ∧ b < w.heap.size ∧ v.ownBlock ≠ some b → W.heap.size ≤ b ∧ b < w'.heap.size ∧ v'.ownBlock ≠ some b := fun b hb => by
    refine ⟨hb.1, Nat.lt_of_lt_of_le hb.2.1 r2.size, fun he => ?_⟩
    rcases r3 b he with h4 | h4
    · exact hb.2.2 h4
    · have := hb.2.1
      omega
  have hw : ∀ b, W.heap.size ≤ b ∧ b < w.heap.size ∧ v.ownBlock ≠ some b → w'.heap[b]? = w.heap[b]? := fun b hb => r2.block b hb.2.1 (fun he => hb.2.2 he.symm)
  have hG' : GrowD W w' e v' (ks ++ [t1, t2]) (n + 1) := ⟨by simp [h0]; omega, _, r1, RowL.append (RowL.two (hT1.mono hS hw) (hT2.mono hS hw)) (by rw [h1.1, h0]; omega) (h2.mono hS hw)⟩
  unfold Oper.wp execOp
  simp only [ho, resolve, invoke, builtin, Sem.run_bind, Sem.run_pure, Result.andThen_ok, List.map_toArray, List.map_cons, List.map_nil, hs, hx, hr]
  exact h v' w' hG' hB r2 r3
theorem wpList_append_def {P : Program} (w : World) {ops : Array Oper} {rest : List Oper} {o : Oper} {a : Act} {Q : Exit → Act → World → Prop} (hgd : o.guard = none) (s x : Operand) (t : TypeId)
    (ho : o.op = .call { callee := .builtin .append, args := #[s, x], argTypes := #[t, t] })
    (e : TypeId) (i : TypeInfo) (z : Value) (ht : P.underlying t = some (.slice e)) (hi : P.info? e = some i) (hz : i.zero = some z) (hsize : i.size = 6) (hby : i.bytes = 80) (hzs : z.cells.size = 6)
    {W : World} {v : Value} {ks : List Tr} {n : Nat} {t1 t2 : Tr} {v0 v1 v2 v3 v4 v5 : Value} {gx : Nat} (hs : a.eval s = v) (hG : GrowD W w e v ks n) (hW : W.heap.size ≤ w.heap.size)
    (hT1 : InT w (fun b => W.heap.size ≤ b ∧ b < w.heap.size ∧ v.ownBlock ≠ some b) t1 (.agg #[v0, v1, v2])) (hT2 : InT w (fun b => W.heap.size ≤ b ∧ b < w.heap.size ∧ v.ownBlock ≠ some b) t2 (.agg #[v3, v4, v5]))
    (hx : a.eval x = .slice (some ⟨gx, 0, none⟩) 1 1) (hgx : w.heap[gx]? = some (.cells #[v0, v1, v2, v3, v4, v5] e (0, 0))) (hn : n < 1099511627776)
    (h : ∀ v' w', GrowD W w' e v' (ks ++ [t1, t2]) (n + 1) → Below W.heap.size w w' → w.grownBy w' v.ownBlock → (∀ g, v'.ownBlock = some g → v.ownBlock = some g ∨ w.heap.size ≤ g) → wpList P ops Q rest (a.put o.dst v') w') : wpList P ops Q (o :: rest) a w :=
  wpList_plain hgd fun K hK => wp_append_def w s x t ho e i z ht hi hz hsize hby hzs hs hG hW hT1 hT2 hx hgx hn (fun v' w' h1 h2 h3 h4 => hK _ _ (h v' w' h1 h2 h3 h4))
theorem step_append_def {P : Program} (w : World) {ops : Array Oper} {o : Oper} {a : Act} {K : Act → World → Prop} {Q : Exit → Act → World → Prop} {E : Prop} (hgd : o.guard = none) (s x : Operand) (t : TypeId)
    (ho : o.op = .call { callee := .builtin .append, args := #[s, x], argTypes := #[t, t] })
    (e : TypeId) (i : TypeInfo) (z : Value) (ht : P.underlying t = some (.slice e)) (hi : P.info? e = some i) (hz : i.zero = some z) (hsize : i.size = 6) (hby : i.bytes = 80) (hzs : z.cells.size = 6)
    {W : World} {v : Value} {ks : List Tr} {n : Nat} {t1 t2 : Tr} {v0 v1 v2 v3 v4 v5 : Value} {gx : Nat} (hs : a.eval s = v) (hG : GrowD W w e v ks n) (hW : W.heap.size ≤ w.heap.size)
    (hT1 : InT w (fun b => W.heap.size ≤ b ∧ b < w.heap.size ∧ v.ownBlock ≠ some b) t1 (.agg #[v0, v1, v2])) (hT2 : InT w (fun b => W.heap.size ≤ b ∧ b < w.heap.size ∧ v.ownBlock ≠ some b) t2 (.agg #[v3, v4, v5]))
    (hx : a.eval x = .slice (some ⟨gx, 0, none⟩) 1 1) (hgx : w.heap[gx]? = some (.cells #[v0, v1, v2, v3, v4, v5] e (0, 0))) (hn : n < 1099511627776)
    (h : ∀ v' w', GrowD W w' e v' (ks ++ [t1, t2]) (n + 1) → Below W.heap.size w w' → w.grownBy w' v.ownBlock → (∀ g, v'.ownBlock = some g → v.ownBlock = some g ∨ w.heap.size ≤ g) → K (a.put o.dst v') w') :
    if Region.wanted o (yielded ops a.tmps) = true then Oper.wp P o a w K Q else E := by
  have hw : Region.wanted o (yielded ops a.tmps) = true := by simp [Region.wanted, hgd]
  rw [if_pos hw]
  exact wp_append_def w s x t ho e i z ht hi hz hsize hby hzs hs hG hW hT1 hT2 hx hgx hn h
/-- A tree newer than a world in which the row lay stands outside of the row. -/
theorem GrowD.off {W w w1 : World} {e : TypeId} {v : Value} {ks : List Tr} {n : Nat} {t : Tr} {u : Value} (h : GrowD W w e v ks n) (hW : W.heap.size ≤ w.heap.size) (ht : From w.heap.size w1 t u) : InT w1 (fun b => W.heap.size ≤ b ∧ b < w1.heap.size ∧ v.ownBlock ≠ some b) t u := by
  obtain ⟨h0, xs, h1, h2⟩ := h
  exact InT.mono (fun b hb => ⟨by have := hb.1; omega, hb.2, fun he => by have := (h1.lt b he).2; have := hb.1; omega⟩) (fun _ _ => rfl) ht
/-- The row of a slice that is not empty. -/
theorem GrowD.row {W w : World} {e : TypeId} {v : Value} {ks : List Tr} {n : Nat} (h : GrowD W w e v ks n) (hn : 0 < n) : ∃ g cap, v = .slice (some ⟨g, 0, none⟩) n cap ∧ W.heap.size ≤ g ∧ g < w.heap.size ∧ n ≤ cap ∧ cap ≤ maxLen ∧
    ∀ j, j < n * 6 → ∃ x, w.cell? ⟨g, j, none⟩ = some x ∧ w.frozen? ⟨g, j, none⟩ = false := by
  obtain ⟨h0, xs, h1, h2⟩ := h
  rcases h1.2 with ⟨rfl, h3⟩ | ⟨g, cap, cur, rfl, hb, hg, hnc, hcm, hcs, ht⟩
  · omega
  · exact ⟨g, cap, rfl, hb, lt_of_blk hg, hnc, hcm, fun j hj => ⟨cur[j]'(by rw [hcs]; omega), by rw [cell_of_blk hg]; exact Array.getElem?_eq_getElem _, frozen_of_blk hg _⟩⟩
/-- A tree stored into the row. -/
theorem GrowD.set {W w : World} {e : TypeId} {g cap n j : Nat} {ks : List Tr} {t : Tr} {v0 v1 v2 : Value} (h : GrowD W w e (.slice (some ⟨g, 0, none⟩) n cap) ks n) (hj : j < ks.length)
    (ht : InT w (fun b => W.heap.size ≤ b ∧ b < w.heap.size ∧ b ≠ g) t (.agg #[v0, v1, v2])) :
    GrowD W (((w.setCell ⟨g, j * 3, none⟩ v0).setCell ⟨g, j * 3 + 1, none⟩ v1).setCell ⟨g, j * 3 + 2, none⟩ v2) e (.slice (some ⟨g, 0, none⟩) n cap) (ks.set j t) n := by
  obtain ⟨h0, xs, h1, h2⟩ := h
  rcases h1.2 with ⟨h3, h4⟩ | ⟨g', cap', cur, he, hb, hg, hnc, hcm, hcs, htk⟩
  · rw [h4] at h0; omega
  · simp only [Value.slice.injEq, Option.some.injEq, Addr.mk.injEq, and_true, true_and] at he
    obtain ⟨rfl, rfl⟩ := he
    have q1 := blk_setCell (blk_setCell (blk_setCell hg (j * 3) v0) (j * 3 + 1) v1) (j * 3 + 2) v2
    have q2 : ∀ b, b ≠ g → (((w.setCell ⟨g, j * 3, none⟩ v0).setCell ⟨g, j * 3 + 1, none⟩ v1).setCell ⟨g, j * 3 + 2, none⟩ v2).heap[b]? = w.heap[b]? := fun b hne => by
      rw [Below.heap_setCell _ _ _ _ hne, Below.heap_setCell _ _ _ _ hne, Below.heap_setCell _ _ _ _ hne]
    have hlx : xs.length = ks.length * 3 := by rw [h1.1, h0]; omega
    refine ⟨by simpa using h0, ((xs.set (j * 3) v0).set (j * 3 + 1) v1).set (j * 3 + 2) v2, ⟨by simpa using h1.1, .inr ⟨g, cap, _, rfl, hb, q1, hnc, hcm, by simpa using hcs, ?_⟩⟩, ?_⟩
    · simp only [Array.toList_setIfInBounds, List.take_set, htk]
    · have hmn : RowL (((w.setCell ⟨g, j * 3, none⟩ v0).setCell ⟨g, j * 3 + 1, none⟩ v1).setCell ⟨g, j * 3 + 2, none⟩ v2) (fun b => W.heap.size ≤ b ∧ b < (((w.setCell ⟨g, j * 3, none⟩ v0).setCell ⟨g, j * 3 + 1, none⟩ v1).setCell ⟨g, j * 3 + 2, none⟩ v2).heap.size ∧ (Value.slice (some ⟨g, 0, none⟩) n cap).ownBlock ≠ some b) xs ks :=
        h2.mono (fun b hb => ⟨hb.1, by simpa using hb.2.1, hb.2.2⟩) (fun b hb => q2 b (fun he => hb.2.2 (by rw [he]; rfl)))
      refine RowL.set (InT.mono (fun b hb => ⟨hb.1, by simpa using hb.2.1, fun he => hb.2.2 (by simpa [Value.ownBlock] using he.symm)⟩) (fun b hb => q2 b hb.2.2) ht) j hmn
theorem FromK.tailD {B : Nat} {w : World} {b o : Nat} {ks : List Tr} (h : FromK B w (some ⟨b, o, none⟩) ks) (h2 : ks ≠ []) : FromK B w (some ⟨b, o + 6, none⟩) (ks.drop 2) := by
  rcases h with h | ⟨b', o', he, hb, hl⟩
  · exact absurd h h2
  · simp only [Option.some.injEq, Addr.mk.injEq, and_true] at he
    obtain ⟨rfl, rfl⟩ := he
    exact .inr ⟨b, o + 6, rfl, hb, InL.drop 2 hl⟩
end Go.Proofs.Ytappakllopkfiaa
namespace Go.Proofs.Ytappakllopkfiaa
open Go.RowKit
set_option linter.unusedVariables false
/-- What stands in a line of definitions. -/
def lineP (l : List UInt8) : Option (Tr × Tr) := match prs 30 l 0 with
  | none => none
  | some (t, a) => if l[a]? = some 61 then (match prs 30 l (a + 1) with
    | none => none
    | some (b, e) => if e = l.length then some (t, b) else none) else none
theorem lineP_none {l : List UInt8} (h : prs 30 l 0 = none) : lineP l = none := by unfold lineP; rw [h]
theorem lineP_no {l : List UInt8} {t : Tr} {a : Nat} (h : prs 30 l 0 = some (t, a)) (h1 : l[a]? ≠ some 61) : lineP l = none := by unfold lineP; rw [h]; simp only; rw [if_neg h1]
theorem lineP_half {l : List UInt8} {t : Tr} {a : Nat} (h : prs 30 l 0 = some (t, a)) (h1 : l[a]? = some 61) (h2 : prs 30 l (a + 1) = none) : lineP l = none := by unfold lineP; rw [h]; simp only; rw [if_pos h1, h2]
theorem lineP_two {l : List UInt8} {t b : Tr} {a e : Nat} (h : prs 30 l 0 = some (t, a)) (h1 : l[a]? = some 61) (h2 : prs 30 l (a + 1) = some (b, e)) : lineP l = if e = l.length then some (t, b) else none := by unfold lineP; rw [h]; simp only; rw [if_pos h1, h2]
/-- What l9Line hands back. -/
def LineQ (w : World) (o : Option (Tr × Tr)) (e : Ending) (w' : World) : Prop :=
  ∃ (k1 n1 k2 n2 : Int) (A1 A2 : Option Addr) (l1 c1 l2 c2 : Nat), e = .returned (.tuple #[.agg #[.int .i64 k1, .int .i64 n1, .slice A1 l1 c1, .int .i64 k2, .int .i64 n2, .slice A2 l2 c2], .bool o.isSome]) ∧
    (∀ x, o = some x → From w.heap.size w' x.1 (.agg #[.int .i64 k1, .int .i64 n1, .slice A1 l1 c1]) ∧ From w.heap.size w' x.2 (.agg #[.int .i64 k2, .int .i64 n2, .slice A2 l2 c2])) ∧ Ext w w'
set_option maxRecDepth 100000 in
set_option maxHeartbeats 1000000 in
theorem l9Line_any (s : ByteArray) (w : World) (hs : s.size ≤ 1000000000) : Calls Try.prog 192 #[.string s] w (LineQ w (lineP s.data.toList)) := by
  have HP := Lib.hid (fun W => (show Calls Try.prog 202 #[.string s, .int .i64 0, .int .i64 30] W (ParseQ W.heap.size W s.size (prs 30 s.data.toList 0)) from parse_any 30 (by omega) s 0 W hs (by omega)))
  have hln : s.data.toList.length = s.size := by rw [Array.length_toList]; rfl
  obtain ⟨l, hl⟩ : ∃ l, s.data.toList = l := ⟨_, rfl⟩
  have HAT := Lib.hid (fun (a : Nat) (h : a < s.size) => (show l[a]? = some s[a] from hl ▸ at_list s h))
  have HAN := Lib.hid (fun (a : Nat) (h : s.size ≤ a) => (show l[a]? = none from hl ▸ at_none s h))
  have HP2 := Lib.hid (fun W (a : Nat) (ha : a + 1 ≤ s.size + 2) => (show Calls Try.prog 202 #[.string s, .int .i64 ((a : Int) + 1), .int .i64 30] W (ParseQ W.heap.size W s.size (prs 30 l (a + 1))) from hl ▸ parse_any 30 (by omega) s (a + 1) W hs ha))
  rw [hl] at hln HP ⊢
  clear hl
  obtain ⟨O, hO⟩ : ∃ O, lineP l = O := ⟨_, rfl⟩
  rw [hO]
  have HO := Lib.hid hO
  clear hO
  have hx0 := (Ext.refl w).alloc (.cells #[.int .i64 0, .int .i64 0, .slice none 0 0, .int .i64 0, .int .i64 0, .slice none 0 0] 74)
  have hb0 := heap_alloc_new w (.cells #[.int .i64 0, .int .i64 0, .slice none 0 0, .int .i64 0, .int .i64 0, .slice none 0 0] 74)
  obtain ⟨F, hF⟩ : ∃ F, prs 30 l 0 = F := ⟨_, rfl⟩
  rw [hF] at HP
  go_enter Try.func192, Try.ntmps192
  go_wp2_with fail
  generalize hw0 : w.alloc _ = w0 at hx0 hb0 ⊢
  have hs0 : w.heap.size < w0.heap.size := lt_of_blk hb0
  clear hw0
  refine (HP.out _).mono ?_
  rintro e w1 ⟨t, u, nx, rfl, hFt, e1, q1, q2⟩
  obtain ⟨k0, n0, A0, l0, c0, rfl⟩ := hFt.three
  have e2 := (Ext.refl w1).alloc (.cells #[.int .i64 k0, .int .i64 n0, .slice A0 l0 c0] 44)
  have hb1 := heap_alloc_new w1 (.cells #[.int .i64 k0, .int .i64 n0, .slice A0 l0 c0] 44)
  have hb2 := e2.blk (e1.blk hb0)
  have hF2 := hFt.ext e2
  have hx2 := (hx0.trans e1).trans e2
  have hs1 := e1.size
  clear hb0 hFt
  obtain ⟨⟨s0, s1, s2, s3, s4, s5⟩, f0, f1, f2, f3, f4, f5⟩ := own6 hb2
  have hout : ∀ w', O = none → Ext w w' → LineQ w O (.returned (.tuple #[.agg #[.int .i64 0, .int .i64 0, .slice none 0 0, .int .i64 0, .int .i64 0, .slice none 0 0], .bool false])) w' := fun w' ho h => by subst ho; exact ⟨_, _, _, _, _, _, _, _, _, _, rfl, (fun x h => by cases h), h⟩
  have HOUT := Lib.hid hout
  clear hout
  cases F with
  | none =>
    obtain rfl := q2 rfl
    have hon : O = none := HO.out ▸ lineP_none hF
    have HON := Lib.hid hon
    clear q1 q2 hF hon
    go_wp2_with fail
    refine bodyPost_ret (v := .tuple #[.agg #[.int .i64 0, .int .i64 0, .slice none 0 0, .int .i64 0, .int .i64 0, .slice none 0 0], .bool false]) (by simp [results, Try.results192, go_sem, s0, s1, s2, s3, s4, s5]) rfl (HOUT.out _ HON.out ?_)
    exact (((((hx2.setCell (by simp) _).setCell (by simp) _).setCell (by simp) _).setCell (by simp) _).setCell (by simp) _).setCell (by simp) _
  | some y =>
    obtain ⟨ty, a⟩ := y
    obtain ⟨rfl, rfl, ha⟩ := q1 _ rfl
    dsimp only at ha
    clear q1 q2
    have d0 : decide ((a : Int) < 0) = false := decide_eq_false (by omega)
    by_cases hae : a = s.size
    · have d1 : decide ((s.size : Int) ≤ (a : Int)) = true := decide_eq_true (by omega)
      have hon : O = none := HO.out ▸ lineP_no hF (by rw [HAN.out a (by omega)]; simp)
      have HON := Lib.hid hon
      have d2 : s.size ≤ a := by omega
      clear hF hae hon
      go_wp2_with fail
      refine bodyPost_ret (v := .tuple #[.agg #[.int .i64 0, .int .i64 0, .slice none 0 0, .int .i64 0, .int .i64 0, .slice none 0 0], .bool false]) (by simp [results, Try.results192, go_sem, s0, s1, s2, s3, s4, s5]) rfl (HOUT.out _ HON.out ?_)
      exact (((((hx2.setCell (by simp) _).setCell (by simp) _).setCell (by simp) _).setCell (by simp) _).setCell (by simp) _).setCell (by simp) _
    · have hlt : a < s.size := by omega
      have d1 : decide ((s.size : Int) ≤ (a : Int)) = false := decide_eq_false (by omega)
      obtain ⟨x, hx⟩ : ∃ x, s[a] = x := ⟨_, rfl⟩
      have hla := HAT.out a hlt
      rw [hx] at hla
      by_cases hx61 : x = 61
      · subst hx61
        obtain ⟨G, hG⟩ : ∃ G, prs 30 l (a + 1) = G := ⟨_, rfl⟩
        have HF := Lib.hid hF
        have HG := Lib.hid hG
        have HLA := Lib.hid hla
        have HP3 := Lib.hid (fun W => HP2.out W a (by omega))
        rw [hG] at HP3
        have hb1s : w1.heap.size < (w1.alloc (.cells #[.int .i64 k0, .int .i64 n0, .slice A0 l0 c0] 44)).heap.size := lt_of_blk hb1
        clear hF hla hG s0 s1 s2 s3 s4 s5 f0 f1 f2 f3 f4 f5
        go_wp2_with fail
        generalize hw2 : w1.alloc _ = w2 at hb1 hb2 hF2 hx2 e2 hb1s ⊢
        clear hw2
        refine (HP3.out _).mono ?_
        rintro e w3 ⟨b, u, nx, rfl, hFb, e3, q1, q2⟩
        obtain ⟨k4, n4, A4, l4, c4, rfl⟩ := hFb.three
        have e4 := (Ext.refl w3).alloc (.cells #[.int .i64 k4, .int .i64 n4, .slice A4 l4 c4] 44)
        have hb4 := heap_alloc_new w3 (.cells #[.int .i64 k4, .int .i64 n4, .slice A4 l4 c4] 44)
        have hb24 := e4.blk (e3.blk hb2)
        have hb14 := e4.blk (e3.blk hb1)
        have hFb4 := hFb.ext e4
        have hF4 := (hF2.ext e3).ext e4
        have hx4 := (hx2.trans e3).trans e4
        have hs3 := e3.size
        clear hb1 hb2 hFb hF2
        obtain ⟨⟨s0, s1, s2, s3, s4, s5⟩, f0, f1, f2, f3, f4, f5⟩ := own6 hb24
        obtain ⟨y0, y1, y2, -, -, -⟩ := own3 hb14
        obtain ⟨z0, z1, z2, -, -, -⟩ := own3 hb4
        have hne1 : w1.heap.size ≠ w.heap.size := by omega
        have hne3 : w3.heap.size ≠ w.heap.size := by omega
        cases G with
        | none =>
          obtain rfl := q2 rfl
          have hon : O = none := HO.out ▸ lineP_half HF.out HLA.out HG.out
          subst hon
          have t1 : ((-1 : Int) == (s.size : Int)) = false := by rw [beq_eq_false_iff_ne]; omega
          clear q1 q2
          go_wp2_with fail
          refine bodyPost_ret (v := .tuple #[.agg #[.int .i64 k0, .int .i64 n0, .slice A0 l0 c0, .int .i64 k4, .int .i64 n4, .slice A4 l4 c4], .bool false]) (by simp [results, Try.results192, go_sem, s0, s1, s2, s3, s4, s5]) rfl ⟨_, _, _, _, _, _, _, _, _, _, rfl, (fun x h => by cases h), ?_⟩
          exact (((((hx4.setCell (by simp) _).setCell (by simp) _).setCell (by simp) _).setCell (by simp) _).setCell (by simp) _).setCell (by simp) _
        | some y =>
          obtain ⟨tb, ee⟩ := y
          obtain ⟨rfl, rfl, hee⟩ := q1 _ rfl
          dsimp only at hee
          have hr := lineP_two HF.out HLA.out HG.out
          rw [hln] at hr
          have hor := HO.out.symm.trans hr
          clear q1 q2 hr HO
          have hset : From w.heap.size ((((((w3.alloc (.cells #[.int .i64 k4, .int .i64 n4, .slice A4 l4 c4] 44)).setCell ⟨w.heap.size, 0, none⟩ (.int .i64 k0)).setCell ⟨w.heap.size, 1, none⟩ (.int .i64 n0)).setCell ⟨w.heap.size, 2, none⟩ (.slice A0 l0 c0)).setCell ⟨w.heap.size, 3, none⟩ (.int .i64 k4)).setCell ⟨w.heap.size, 4, none⟩ (.int .i64 n4) |>.setCell ⟨w.heap.size, 5, none⟩ (.slice A4 l4 c4)) t (.agg #[.int .i64 k0, .int .i64 n0, .slice A0 l0 c0]) :=
            ((((((hF4.set (by simp; omega) _).set (by simp; omega) _).set (by simp; omega) _).set (by simp; omega) _).set (by simp; omega) _).set (by simp; omega) _).since (by omega)
          have hset2 : From w.heap.size ((((((w3.alloc (.cells #[.int .i64 k4, .int .i64 n4, .slice A4 l4 c4] 44)).setCell ⟨w.heap.size, 0, none⟩ (.int .i64 k0)).setCell ⟨w.heap.size, 1, none⟩ (.int .i64 n0)).setCell ⟨w.heap.size, 2, none⟩ (.slice A0 l0 c0)).setCell ⟨w.heap.size, 3, none⟩ (.int .i64 k4)).setCell ⟨w.heap.size, 4, none⟩ (.int .i64 n4) |>.setCell ⟨w.heap.size, 5, none⟩ (.slice A4 l4 c4)) b (.agg #[.int .i64 k4, .int .i64 n4, .slice A4 l4 c4]) :=
            ((((((hFb4.set (by simp; omega) _).set (by simp; omega) _).set (by simp; omega) _).set (by simp; omega) _).set (by simp; omega) _).set (by simp; omega) _).since (by omega)
          have HS1 := Lib.hid hset
          have HS2 := Lib.hid hset2
          clear hset hset2
          by_cases hes : ee = s.size
          · have t1 : ((ee : Int) == (s.size : Int)) = true := by simp [hes]
            rw [if_pos hes] at hor
            subst hor
            clear hes
            go_wp2_with fail
            refine bodyPost_ret (v := .tuple #[.agg #[.int .i64 k0, .int .i64 n0, .slice A0 l0 c0, .int .i64 k4, .int .i64 n4, .slice A4 l4 c4], .bool true]) (by simp [results, Try.results192, go_sem, s0, s1, s2, s3, s4, s5]) rfl ⟨_, _, _, _, _, _, _, _, _, _, rfl, fun x h => by cases h; exact ⟨HS1.out, HS2.out⟩, ?_⟩
            exact (((((hx4.setCell (by simp) _).setCell (by simp) _).setCell (by simp) _).setCell (by simp) _).setCell (by simp) _).setCell (by simp) _
          · have t1 : ((ee : Int) == (s.size : Int)) = false := by rw [beq_eq_false_iff_ne]; omega
            rw [if_neg hes] at hor
            subst hor
            clear hes
            go_wp2_with fail
            refine bodyPost_ret (v := .tuple #[.agg #[.int .i64 k0, .int .i64 n0, .slice A0 l0 c0, .int .i64 k4, .int .i64 n4, .slice A4 l4 c4], .bool false]) (by simp [results, Try.results192, go_sem, s0, s1, s2, s3, s4, s5]) rfl ⟨_, _, _, _, _, _, _, _, _, _, rfl, (fun x h => by cases h), ?_⟩
            exact (((((hx4.setCell (by simp) _).setCell (by simp) _).setCell (by simp) _).setCell (by simp) _).setCell (by simp) _).setCell (by simp) _
      · have hxn : ((x.toNat : Int) != 61) = true := by
          rw [bne_iff_ne]
          intro h
          exact hx61 (UInt8.toNat_inj.1 (by have : x.toNat = 61 := by omega
                                            rw [this]; rfl))
        have hon : O = none := HO.out ▸ lineP_no hF (by rw [hla]; intro h; exact hx61 (Option.some.inj h))
        have HON := Lib.hid hon
        clear hF hla hx61 hon
        go_wp2_with fail
        refine bodyPost_ret (v := .tuple #[.agg #[.int .i64 0, .int .i64 0, .slice none 0 0, .int .i64 0, .int .i64 0, .slice none 0 0], .bool false]) (by simp [results, Try.results192, go_sem, s0, s1, s2, s3, s4, s5]) rfl (HOUT.out _ HON.out ?_)
        exact (((((hx2.setCell (by simp) _).setCell (by simp) _).setCell (by simp) _).setCell (by simp) _).setCell (by simp) _).setCell (by simp) _
end Go.Proofs.Ytappakllopkfiaa

/-
  Lemmas towards the law, 24: DefG, Ints, Ints2.
-/
import Derived.Test.YtolkohncmidpeaaGreatDoorGAB
import Derived.Test.YtolkohncmidpeaaGreatDoorGAD
import Derived.Test.YtolkohncmidpeaaGreatDoorGAQ
import Derived.Test.YtolkohncmidpeaaGreatDoorGAR
import Derived.Test.YtolkohncmidpeaaGreatDoorGAS
import Derived.Test.YtolkohncmidpeaaGreatDoorGAW
import Derived.StillTailTactics
namespace Go.Proofs.YtolkohncmidpeaaGreatDoor
open Go.RowKit
set_option linter.unusedVariables false
/-- v is a slice of n definitions (2n trees) that was built by append since W; all trees are newer than W. -/
def GrowD (W w : World) (e : TypeId) (v : Value) (ks : List Tr) (n : Nat) : Prop :=
  ks.length = n * 2 ∧ ∃ xs, w.ownsRow W.heap.size e 6 v n xs ∧ RowL w (fun b => W.heap.size ≤ b ∧ b < w.heap.size ∧ v.ownBlock ≠ some b) xs ks
theorem ownsRow_same6 {w w' : World} {base : Nat} {e : TypeId} {v : Value} {n : Nat} {xs : List Value} (h : w.ownsRow base e 6 v n xs) (hb : ∀ g, v.ownBlock = some g → w'.heap[g]? = w.heap[g]?) : w'.ownsRow base e 6 v n xs := by
  refine ⟨h.1, ?_⟩
  rcases h.2 with h | ⟨g, cap, cur, rfl, h1, h2, r⟩
  · exact .inl h
  · exact .inr ⟨g, cap, cur, rfl, h1, (hb g rfl).trans h2, r⟩
theorem GrowD.nil (W w : World) (e : TypeId) : GrowD W w e (.slice none 0 0) [] 0 := ⟨rfl, [], World.ownsRow_nil _ _ _ _, RowL.nil⟩
theorem GrowD.lit {W w : World} {e : TypeId} {g : Nat} (hg : w.heap[g]? = some (.cells #[] e (0, 0))) (hW : W.heap.size ≤ g) : GrowD W w e (.slice (some ⟨g, 0, none⟩) 0 0) [] 0 :=
  ⟨rfl, [], ⟨rfl, .inr ⟨g, 0, #[], rfl, hW, hg, Nat.le_refl _, Nat.zero_le _, rfl, rfl⟩⟩, RowL.nil⟩
theorem GrowD.same {W w w' : World} {e : TypeId} {v : Value} {ks : List Tr} {n : Nat} (h : GrowD W w e v ks n) (hs : w.heap.size ≤ w'.heap.size) (hb : ∀ b, W.heap.size ≤ b → b < w.heap.size → w'.heap[b]? = w.heap[b]?) : GrowD W w' e v ks n := by
  obtain ⟨h0, xs, h1, h2⟩ := h
  exact ⟨h0, xs, ownsRow_same6 h1 (fun g hg => hb g (h1.lt g hg).1 (h1.lt g hg).2), h2.mono (fun b hb => ⟨hb.1, Nat.lt_of_lt_of_le hb.2.1 hs, hb.2.2⟩) (fun b hm => hb b hm.1 hm.2.1)⟩
theorem GrowD.ext {W w w' : World} {e : TypeId} {v : Value} {ks : List Tr} {n : Nat} (h : GrowD W w e v ks n) (he : Ext w w') : GrowD W w' e v ks n := h.same he.size (fun b _ hb => he.heap b hb)
theorem GrowD.only {W w w' : World} {e : TypeId} {v : Value} {ks : List Tr} {n : Nat} {L : List Nat} (h : GrowD W w e v ks n) (ho : Only L w w') (hL : ∀ b, b ∈ L → b < W.heap.size) : GrowD W w' e v ks n :=
  h.same ho.size (fun b hW hb => ho.block b hb (fun hm => by have := hL b hm; omega))
theorem GrowD.slice {W w : World} {e : TypeId} {v : Value} {ks : List Tr} {n : Nat} (h : GrowD W w e v ks n) : ∃ A cap, v = .slice A n cap ∧ n ≤ cap ∧ cap ≤ maxLen ∧ FromK W.heap.size w A ks := by
  obtain ⟨h0, xs, h1, h2⟩ := h
  rcases h1.2 with ⟨rfl, h3⟩ | ⟨g, cap, cur, rfl, hb, hg, hnc, hcm, hcs, ht⟩
  · have : ks = [] := List.eq_nil_of_length_eq_zero (by omega)
    subst this
    exact ⟨none, 0, by rw [h3], by omega, Nat.zero_le _, .inl rfl⟩
  · refine ⟨_, cap, rfl, hnc, hcm, .inr ⟨g, 0, rfl, ⟨hb, lt_of_blk hg⟩, ?_⟩⟩
    have h3 := RowL.tail (cur.toList.drop (n * 6)) (h2.mono (S' := fun b => W.heap.size ≤ b ∧ b < w.heap.size) (fun b hb => ⟨hb.1, hb.2.1⟩) (fun _ _ => rfl))
    rw [← ht, List.take_append_drop] at h3
    exact RowL.inL hg (pre := []) h3 (by simp)
theorem GrowD.cap {W w : World} {e : TypeId} {A : Option Addr} {n cap n' : Nat} {ks : List Tr} (h : GrowD W w e (.slice A n cap) ks n') : A = none → cap = 0 := by
  obtain ⟨h0, xs, h1, h2⟩ := h
  intro hA
  rcases h1.2 with ⟨h3, -⟩ | ⟨g, c, cur, h3, -⟩
  · simp only [Value.slice.injEq] at h3
    exact h3.2.2
  · simp only [Value.slice.injEq] at h3
    rw [hA] at h3
    cases h3.1
theorem row6_cells {w : World} {g : Nat} {v0 v1 v2 v3 v4 v5 : Value} {e : TypeId} (h : w.heap[g]? = some (.cells #[v0, v1, v2, v3, v4, v5] e (0, 0))) : ∀ j u, [v0, v1, v2, v3, v4, v5][j]? = some u → w.cell? ((⟨g, 0, none⟩ : Addr).add j) = some u := by
  intro j u hu
  rw [Addr.add_lit, Nat.zero_add, cell_of_blk h]
  simpa using hu
theorem RowL.append {w : World} {S : Nat → Prop} {ys : List Value} {ts : List Tr} (ht : RowL w S ys ts) : ∀ {xs : List Value} {ks : List Tr}, xs.length = ks.length * 3 → RowL w S xs ks → RowL w S (xs ++ ys) (ks ++ ts)
  | xs, [], hx, h => by
    have hx0 : xs = [] := List.eq_nil_of_length_eq_zero (by simpa using hx)
    subst hx0
    exact ht
  | xs, x :: ks, hx, h => by
    obtain ⟨u0, u1, u2, rest, rfl, h1, h2⟩ := RowL.cons_iff.1 h
    exact RowL.cons_iff.2 ⟨u0, u1, u2, _, rfl, h1, RowL.append ht (by simp only [List.length_cons] at hx; omega) h2⟩
theorem RowL.two {w : World} {S : Nat → Prop} {t u : Tr} {v0 v1 v2 v3 v4 v5 : Value} (h1 : InT w S t (.agg #[v0, v1, v2])) (h2 : InT w S u (.agg #[v3, v4, v5])) : RowL w S [v0, v1, v2, v3, v4, v5] [t, u] :=
  RowL.cons_iff.2 ⟨v0, v1, v2, _, rfl, h1, RowL.cons_iff.2 ⟨v3, v4, v5, _, rfl, h2, RowL.nil⟩⟩
theorem wp_append_def {P : Program} (w : World) {o : Oper} {a : Act} {K : Act → World → Prop} {Q : Exit → Act → World → Prop} (s x : Operand) (t : TypeId)
    (ho : o.op = .call { callee := .builtin .append, args := #[s, x], argTypes := #[t, t] })
    (e : TypeId) (i : TypeInfo) (z : Value) (ht : P.underlying t = some (.slice e)) (hi : P.info? e = some i) (hz : i.zero = some z) (hsize : i.size = 6) (hby : i.bytes = 80) (hzs : z.cells.size = 6)
    {W : World} {v : Value} {ks : List Tr} {n : Nat} {t1 t2 : Tr} {v0 v1 v2 v3 v4 v5 : Value} {gx : Nat} (hs : a.eval s = v) (hG : GrowD W w e v ks n) (hW : W.heap.size ≤ w.heap.size)
    (hT1 : InT w (fun b => W.heap.size ≤ b ∧ b < w.heap.size ∧ v.ownBlock ≠ some b) t1 (.agg #[v0, v1, v2])) (hT2 : InT w (fun b => W.heap.size ≤ b ∧ b < w.heap.size ∧ v.ownBlock ≠ some b) t2 (.agg #[v3, v4, v5]))
    (hx : a.eval x = .slice (some ⟨gx, 0, none⟩) 1 1) (hgx : w.heap[gx]? = some (.cells #[v0, v1, v2, v3, v4, v5] e (0, 0))) (hn : n < 1099511627776)
    (h : ∀ v' w', GrowD W w' e v' (ks ++ [t1, t2]) (n + 1) → Below W.heap.size w w' → w.grownBy w' v.ownBlock → (∀ g, v'.ownBlock = some g → v.ownBlock = some g ∨ w.heap.size ≤ g) → K (a.put o.dst v') w') : o.wp P a w K Q := by
  obtain ⟨h0, xs, h1, h2⟩ := hG
  have hone : ∀ u ∈ [v0, v1, v2, v3, v4, v5], u.oneCell' = true := by
    have q1 := inT_oneCell hT1
    have q2 := inT_oneCell hT2
    intro u hu
    simp only [List.mem_cons, List.not_mem_nil, or_false] at hu q1 q2
    rcases hu with hu | hu | hu | hu | hu | hu
    · exact q1 u (.inl hu)
    · exact q1 u (.inr (.inl hu))
    · exact q1 u (.inr (.inr hu))
    · exact q2 u (.inl hu)
    · exact q2 u (.inr (.inl hu))
    · exact q2 u (.inr (.inr hu))
  obtain ⟨v', w', hr, r1, r2, r3⟩ := run_append_own' (P := P) w W.heap.size t o.type e i z 6 80 ht hi hz hsize hby hzs (by decide) v n xs h1 ⟨gx, 0, none⟩ 1 1 [v0, v1, v2, v3, v4, v5] rfl (row6_cells hgx) hone (by unfold maxLen; omega) (by omega) hW
  have hB : Below W.heap.size w w' := ⟨r2.os, r2.tape, r2.output, r2.size, fun b hb => r2.block b (by omega) (fun he => by have := (h1.lt b he.symm).1; omega)⟩
  have hS : ∀ b, W.heap.size ≤ b ∧ b < w.heap.size ∧ v.ownBlock ≠ some b → W.heap.size ≤ b ∧ b < w'.heap.size ∧ v'.ownBlock ≠ some b := fun b hb => by
    refine ⟨hb.1, Nat.lt_of_lt_of_le hb.2.1 r2.size, fun he => ?_⟩
    rcases r3 b he with h4 | h4
    · exact hb.2.2 h4
    · have := hb.2.1
      omega
  have hw : ∀ b, W.heap.size ≤ b ∧ b < w.heap.size ∧ v.ownBlock ≠ some b → w'.heap[b]? = w.heap[b]? := fun b hb => r2.block b hb.2.1 (fun he => hb.2.2 he.symm)
  have hG' : GrowD W w' e v' (ks ++ [t1, t2]) (n + 1) := ⟨by simp [h0]; omega, _, r1, RowL.append (RowL.two (hT1.mono hS hw) (hT2.mono hS hw)) (by rw [h1.1, h0]; omega) (h2.mono hS hw)⟩
  unfold Oper.wp execOp
  simp only [ho, resolve, invoke, builtin, Sem.run_bind, Sem.run_pure, Result.andThen_ok, List.map_toArray, List.map_cons, List.map_nil, hs, hx, hr]
  exact h v' w' hG' hB r2 r3
theorem wpList_append_def {P : Program} (w : World) {ops : Array Oper} {rest : List Oper} {o : Oper} {a : Act} {Q : Exit → Act → World → Prop} (hgd : o.guard = none) (s x : Operand) (t : TypeId)
    (ho : o.op = .call { callee := .builtin .append, args := #[s, x], argTypes := #[t, t] })
    (e : TypeId) (i : TypeInfo) (z : Value) (ht : P.underlying t = some (.slice e)) (hi : P.info? e = some i) (hz : i.zero = some z) (hsize : i.size = 6) (hby : i.bytes = 80) (hzs : z.cells.size = 6)
    {W : World} {v : Value} {ks : List Tr} {n : Nat} {t1 t2 : Tr} {v0 v1 v2 v3 v4 v5 : Value} {gx : Nat} (hs : a.eval s = v) (hG : GrowD W w e v ks n) (hW : W.heap.size ≤ w.heap.size)
    (hT1 : InT w (fun b => W.heap.size ≤ b ∧ b < w.heap.size ∧ v.ownBlock ≠ some b) t1 (.agg #[v0, v1, v2])) (hT2 : InT w (fun b => W.heap.size ≤ b ∧ b < w.heap.size ∧ v.ownBlock ≠ some b) t2 (.agg #[v3, v4, v5]))
    (hx : a.eval x = .slice (some ⟨gx, 0, none⟩) 1 1) (hgx : w.heap[gx]? = some (.cells #[v0, v1, v2, v3, v4, v5] e (0, 0))) (hn : n < 1099511627776)
    (h : ∀ v' w', GrowD W w' e v' (ks ++ [t1, t2]) (n + 1) → Below W.heap.size w w' → w.grownBy w' v.ownBlock → (∀ g, v'.ownBlock = some g → v.ownBlock = some g ∨ w.heap.size ≤ g) → wpList P ops Q rest (a.put o.dst v') w') : wpList P ops Q (o :: rest) a w :=
  wpList_plain hgd fun K hK => wp_append_def w s x t ho e i z ht hi hz hsize hby hzs hs hG hW hT1 hT2 hx hgx hn (fun v' w' h1 h2 h3 h4 => hK _ _ (h v' w' h1 h2 h3 h4))
theorem step_append_def {P : Program} (w : World) {ops : Array Oper} {o : Oper} {a : Act} {K : Act → World → Prop} {Q : Exit → Act → World → Prop} {E : Prop} (hgd : o.guard = none) (s x : Operand) (t : TypeId)
    (ho : o.op = .call { callee := .builtin .append, args := #[s, x], argTypes := #[t, t] })
    (e : TypeId) (i : TypeInfo) (z : Value) (ht : P.underlying t = some (.slice e)) (hi : P.info? e = some i) (hz : i.zero = some z) (hsize : i.size = 6) (hby : i.bytes = 80) (hzs : z.cells.size = 6)
    {W : World} {v : Value} {ks : List Tr} {n : Nat} {t1 t2 : Tr} {v0 v1 v2 v3 v4 v5 : Value} {gx : Nat} (hs : a.eval s = v) (hG : GrowD W w e v ks n) (hW : W.heap.size ≤ w.heap.size)
    (hT1 : InT w (fun b => W.heap.size ≤ b ∧ b < w.heap.size ∧ v.ownBlock ≠ some b) t1 (.agg #[v0, v1, v2])) (hT2 : InT w (fun b => W.heap.size ≤ b ∧ b < w.heap.size ∧ v.ownBlock ≠ some b) t2 (.agg #[v3, v4, v5]))
    (hx : a.eval x = .slice (some ⟨gx, 0, none⟩) 1 1) (hgx : w.heap[gx]? = some (.cells #[v0, v1, v2, v3, v4, v5] e (0, 0))) (hn : n < 1099511627776)
    (h : ∀ v' w', GrowD W w' e v' (ks ++ [t1, t2]) (n + 1) → Below W.heap.size w w' → w.grownBy w' v.ownBlock → (∀ g, v'.ownBlock = some g → v.ownBlock = some g ∨ w.heap.size ≤ g) → K (a.put o.dst v') w') :
    if Region.wanted o (yielded ops a.tmps) = true then Oper.wp P o a w K Q else E := by
  have hw : Region.wanted o (yielded ops a.tmps) = true := by simp [Region.wanted, hgd]
  rw [if_pos hw]
  exact wp_append_def w s x t ho e i z ht hi hz hsize hby hzs hs hG hW hT1 hT2 hx hgx hn h
/-- A tree newer than a world in which the row lay stands outside of the row. -/
theorem GrowD.off {W w w1 : World} {e : TypeId} {v : Value} {ks : List Tr} {n : Nat} {t : Tr} {u : Value} (h : GrowD W w e v ks n) (hW : W.heap.size ≤ w.heap.size) (ht : From w.heap.size w1 t u) : InT w1 (fun b => W.heap.size ≤ b ∧ b < w1.heap.size ∧ v.ownBlock ≠ some b) t u := by
  obtain ⟨h0, xs, h1, h2⟩ := h
  exact InT.mono (fun b hb => ⟨by have := hb.1; omega, hb.2, fun he => by have := (h1.lt b he).2; have := hb.1; omega⟩) (fun _ _ => rfl) ht
/-- The row of a slice that is not empty. -/
theorem GrowD.row {W w : World} {e : TypeId} {v : Value} {ks : List Tr} {n : Nat} (h : GrowD W w e v ks n) (hn : 0 < n) : ∃ g cap, v = .slice (some ⟨g, 0, none⟩) n cap ∧ W.heap.size ≤ g ∧ g < w.heap.size ∧ n ≤ cap ∧ cap ≤ maxLen ∧
    ∀ j, j < n * 6 → ∃ x, w.cell? ⟨g, j, none⟩ = some x ∧ w.frozen? ⟨g, j, none⟩ = false := by
  obtain ⟨h0, xs, h1, h2⟩ := h
  rcases h1.2 with ⟨rfl, h3⟩ | ⟨g, cap, cur, rfl, hb, hg, hnc, hcm, hcs, ht⟩
  · omega
  · exact ⟨g, cap, rfl, hb, lt_of_blk hg, hnc, hcm, fun j hj => ⟨cur[j]'(by rw [hcs]; omega), by rw [cell_of_blk hg]; exact Array.getElem?_eq_getElem _, frozen_of_blk hg _⟩⟩
/-- A tree stored into the row. -/
theorem GrowD.set {W w : World} {e : TypeId} {g cap n j : Nat} {ks : List Tr} {t : Tr} {v0 v1 v2 : Value} (h : GrowD W w e (.slice (some ⟨g, 0, none⟩) n cap) ks n) (hj : j < ks.length)
    (ht : InT w (fun b => W.heap.size ≤ b ∧ b < w.heap.size ∧ b ≠ g) t (.agg #[v0, v1, v2])) :
    GrowD W (((w.setCell ⟨g, j * 3, none⟩ v0).setCell ⟨g, j * 3 + 1, none⟩ v1).setCell ⟨g, j * 3 + 2, none⟩ v2) e (.slice (some ⟨g, 0, none⟩) n cap) (ks.set j t) n := by
  obtain ⟨h0, xs, h1, h2⟩ := h
  rcases h1.2 with ⟨h3, h4⟩ | ⟨g', cap', cur, he, hb, hg, hnc, hcm, hcs, htk⟩
  · rw [h4] at h0; omega
  · simp only [Value.slice.injEq, Option.some.injEq, Addr.mk.injEq, and_true, true_and] at he
    obtain ⟨rfl, rfl⟩ := he
    have q1 := blk_setCell (blk_setCell (blk_setCell hg (j * 3) v0) (j * 3 + 1) v1) (j * 3 + 2) v2
    have q2 : ∀ b, b ≠ g → (((w.setCell ⟨g, j * 3, none⟩ v0).setCell ⟨g, j * 3 + 1, none⟩ v1).setCell ⟨g, j * 3 + 2, none⟩ v2).heap[b]? = w.heap[b]? := fun b hne => by
      rw [Below.heap_setCell _ _ _ _ hne, Below.heap_setCell _ _ _ _ hne, Below.heap_setCell _ _ _ _ hne]
    have hlx : xs.length = ks.length * 3 := by rw [h1.1, h0]; omega
    refine ⟨by simpa using h0, ((xs.set (j * 3) v0).set (j * 3 + 1) v1).set (j * 3 + 2) v2, ⟨by simpa using h1.1, .inr ⟨g, cap, _, rfl, hb, q1, hnc, hcm, by simpa using hcs, ?_⟩⟩, ?_⟩
    · simp only [Array.toList_setIfInBounds, List.take_set, htk]
    · have hmn : RowL (((w.setCell ⟨g, j * 3, none⟩ v0).setCell ⟨g, j * 3 + 1, none⟩ v1).setCell ⟨g, j * 3 + 2, none⟩ v2) (fun b => W.heap.size ≤ b ∧ b < (((w.setCell ⟨g, j * 3, none⟩ v0).setCell ⟨g, j * 3 + 1, none⟩ v1).setCell ⟨g, j * 3 + 2, none⟩ v2).heap.size ∧ (Value.slice (some ⟨g, 0, none⟩) n cap).ownBlock ≠ some b) xs ks :=
        h2.mono (fun b hb => ⟨hb.1, by simpa using hb.2.1, hb.2.2⟩) (fun b hb => q2 b (fun he => hb.2.2 (by rw [he]; rfl)))
      refine RowL.set (InT.mono (fun b hb => ⟨hb.1, by simpa using hb.2.1, fun he => hb.2.2 (by simpa [Value.ownBlock] using he.symm)⟩) (fun b hb => q2 b hb.2.2) ht) j hmn
theorem FromK.tailD {B : Nat} {w : World} {b o : Nat} {ks : List Tr} (h : FromK B w (some ⟨b, o, none⟩) ks) (h2 : ks ≠ []) : FromK B w (some ⟨b, o + 6, none⟩) (ks.drop 2) := by
  rcases h with h | ⟨b', o', he, hb, hl⟩
  · exact absurd h h2
  · simp only [Option.some.injEq, Addr.mk.injEq, and_true] at he
    obtain ⟨rfl, rfl⟩ := he
    exact .inr ⟨b, o + 6, rfl, hb, InL.drop 2 hl⟩
end Go.Proofs.YtolkohncmidpeaaGreatDoor
namespace Go.Proofs.YtolkohncmidpeaaGreatDoor
open Go.RowKit
set_option linter.unusedVariables false
/-- Numbers in a block of the call's own. -/
def OwnI (w : World) (e : TypeId) (A : Option Addr) (ns : List Int) (L : List Nat) : Prop :=
  (ns = [] ∧ L = []) ∨ ∃ b cs, A = some ⟨b, 0, none⟩ ∧ w.heap[b]? = some (.cells cs e (0, 0)) ∧ ns.length ≤ cs.size ∧ cs.toList.take ns.length = ns.map (Value.int .i64) ∧ L = [b]
theorem OwnI.mono {w w' : World} {e : TypeId} {A : Option Addr} {ns : List Int} {L : List Nat} (h : OwnI w e A ns L) (hw : ∀ b, b ∈ L → w'.heap[b]? = w.heap[b]?) : OwnI w' e A ns L := by
  rcases h with h | ⟨b, cs, rfl, hb, h1, h2, rfl⟩
  · exact .inl h
  · exact .inr ⟨b, cs, rfl, (hw b (by simp)).trans hb, h1, h2, rfl⟩
theorem GrowN.own {W w : World} {e : TypeId} {v : Value} {ns : List Int} (h : GrowN W w e v ns) : ∃ A cap L, v = .slice A ns.length cap ∧ ns.length ≤ cap ∧ cap ≤ maxLen ∧ OwnI w e A ns L ∧ Fresh W w L := by
  rcases h.2 with ⟨rfl, h0⟩ | ⟨g, cap, cur, rfl, hb, hg, hn, hm, hcs, ht⟩
  · obtain rfl : ns = [] := List.eq_nil_of_length_eq_zero h0
    exact ⟨none, 0, [], rfl, Nat.le_refl _, Nat.zero_le _, .inl ⟨rfl, rfl⟩, Fresh.nil _ _⟩
  · refine ⟨_, cap, [g], rfl, hn, hm, .inr ⟨g, cur, rfl, hg, by omega, by simpa using ht, rfl⟩, by simp, fun b hb' => ?_⟩
    obtain rfl := List.mem_singleton.1 hb'
    exact ⟨hb, lt_of_blk hg⟩
end Go.Proofs.YtolkohncmidpeaaGreatDoor
namespace Go.Proofs.YtolkohncmidpeaaGreatDoor
open Go.RowKit
set_option linter.unusedVariables false
/-- 'out = append(out, x)' on a row of one-cell elements. -/
theorem wpList_append_one {P : Program} (w : World) {ops : Array Oper} {rest : List Oper} {o : Oper} {a : Act} {Q : Exit → Act → World → Prop} (hgd : o.guard = none) (s x : Operand) (t : TypeId)
    (ho : o.op = .call { callee := .builtin .append, args := #[s, x], argTypes := #[t, t] })
    (base : Nat) (e e' : TypeId) (i : TypeInfo) (z : Value) (bytes : Nat) (ht : P.underlying t = some (.slice e)) (hi : P.info? e = some i) (hz : i.zero = some z) (hsize : i.size = 1) (hby : i.bytes = bytes) (hb8 : bytes ≤ 64) (hzs : z.cells.size = 1)
    {v : Value} {n : Nat} {xs : List Value} {y : Value} {gx : Nat} (hy : y.oneCell' = true) (hs : a.eval s = v) (hown : w.ownsRow base e 1 v n xs)
    (hx : a.eval x = .slice (some ⟨gx, 0, none⟩) 1 1) (hgx : w.heap[gx]? = some (.cells #[y] e' (0, 0))) (hn : n < 1099511627776) (hbase : base ≤ w.heap.size)
    (h : ∀ v' w', w'.ownsRow base e 1 v' (n + 1) (xs ++ [y]) → w.grownBy w' v.ownBlock → (∀ g, v'.ownBlock = some g → v.ownBlock = some g ∨ w.heap.size ≤ g) → wpList P ops Q rest (a.put o.dst v') w') : wpList P ops Q (o :: rest) a w := by
  refine wpList_plain hgd fun K hK => ?_
  have hc : ∀ j u, [y][j]? = some u → w.cell? ((⟨gx, 0, none⟩ : Addr).add j) = some u := by
    intro j u hu
    rw [Addr.add_lit, Nat.zero_add, cell_of_blk hgx]
    simpa using hu
  have h1 : ∀ u ∈ [y], u.oneCell' = true := by intro u hu; rw [List.mem_singleton.1 hu]; exact hy
  have hb : (n + 1) * bytes ≤ 140737488355328 := Nat.le_trans (Nat.mul_le_mul (show n + 1 ≤ 1099511627776 by omega) hb8) (by decide)
  obtain ⟨v', w', hr, r1, r2, r3⟩ := run_append_own' (P := P) w base t o.type e i z 1 bytes ht hi hz hsize hby hzs (by decide) v n xs hown ⟨gx, 0, none⟩ 1 1 [y] rfl hc h1 (by unfold maxLen; omega) hb hbase
  unfold Oper.wp execOp
  simp only [ho, resolve, invoke, builtin, Sem.run_bind, Sem.run_pure, Result.andThen_ok, List.map_toArray, List.map_cons, List.map_nil, hs, hx, hr]
  exact hK _ _ (h v' w' r1 r2 r3)
end Go.Proofs.YtolkohncmidpeaaGreatDoor

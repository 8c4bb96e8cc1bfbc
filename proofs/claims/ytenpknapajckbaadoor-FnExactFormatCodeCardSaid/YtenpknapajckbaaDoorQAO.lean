/-
  Lemmas towards the law, 15: DefG, Sub, ReadD, TxtP, StrS.
-/
import Derived.Test.YtenpknapajckbaaDoorQAJ
import Derived.Test.YtenpknapajckbaaDoorQAK
import Derived.Test.YtenpknapajckbaaDoorQAL
import Derived.Test.YtenpknapajckbaaDoorQAN
import Derived.Lib.AtoiAll
import Derived.Lib.Split
import Derived.Lib.Strings
import Derived.Test.YtenpknapajckbaaDoorShelf
namespace Go.Proofs.YtenpknapajckbaaDoor
open Go.RowKit
set_option linter.unusedVariables false
/-- v is a slice of n definitions (2n trees) that was built by append since W; all trees are newer than W. -/
def GrowD (W w : World) (e : TypeId) (v : Value) (ks : List Tr) (n : Nat) : Prop :=
  ks.length = n * 2 ∧ ∃ xs, w.ownsRow W.heap.size e 6 v n xs ∧ RowL w (fun b => W.heap.size ≤ b ∧ b < w.heap.size ∧ v.ownBlock ≠ some b) xs ks
theorem ownsRow_same6 {w w' : World} {base : Nat} {e : TypeId} {v : Value} {n : Nat} {xs : List Value} (h : w.ownsRow base e 6 v n xs) (hb : ∀ g, v.ownBlock = some g → w'.heap[g]? = w.heap[g]?) : w'.ownsRow base e 6 v n xs := by
  refine ⟨h.1, ?_⟩
  rcases h.2 with h | ⟨g, cap, cur, rfl, h1, h2, r⟩
  · exact .inl h
  · exact .inr ⟨g, cap, cur, rfl, h1, (hb g rfl).trans h2, r⟩
theorem GrowD.nil (W w : World) (e : TypeId) : GrowD W w e (.slice none 0 0) [] 0 := ⟨rfl, [], World.ownsRow_nil _ _ _ _, RowL.nil⟩
theorem GrowD.same {W w w' : World} {e : TypeId} {v : Value} {ks : List Tr} {n : Nat} (h : GrowD W w e v ks n) (hs : w.heap.size ≤ w'.heap.size) (hb : ∀ b, W.heap.size ≤ b → b < w.heap.size → w'.heap[b]? = w.heap[b]?) : GrowD W w' e v ks n := by
  obtain ⟨h0, xs, h1, h2⟩ := h
  exact ⟨h0, xs, ownsRow_same6 h1 (fun g hg => hb g (h1.lt g hg).1 (h1.lt g hg).2), h2.mono (fun b hb => ⟨hb.1, Nat.lt_of_lt_of_le hb.2.1 hs, hb.2.2⟩) (fun b hm => hb b hm.1 hm.2.1)⟩
theorem GrowD.ext {W w w' : World} {e : TypeId} {v : Value} {ks : List Tr} {n : Nat} (h : GrowD W w e v ks n) (he : Ext w w') : GrowD W w' e v ks n := h.same he.size (fun b _ hb => he.heap b hb)
theorem GrowD.only {W w w' : World} {e : TypeId} {v : Value} {ks : List Tr} {n : Nat} {L : List Nat} (h : GrowD W w e v ks n) (ho : Only L w w') (hL : ∀ b, b ∈ L → b < W.heap.size) : GrowD W w' e v ks n :=
  h.same ho.size (fun b hW hb => ho.block b hb (fun hm => by have := hL b hm; omega))
theorem GrowD.slice {W w : World} {e : TypeId} {v : Value} {ks : List Tr} {n : Nat} (h : GrowD W w e v ks n) : ∃ A cap, v = .slice A n cap ∧ n ≤ cap ∧ cap ≤ maxLen ∧ FromK W.heap.size w A ks := by
  obtain ⟨h0, xs, h1, h2⟩ := h
  rcases h1.2 with ⟨rfl, h3⟩ | ⟨g, cap, cur, rfl, hb, hg, hnc, hcm, hcs, ht⟩
  · have : ks = [] := List.eq_nil_of_length_eq_zero (by omega)
    subst this
    exact ⟨none, 0, by rw [h3], by omega, Nat.zero_le _, .inl rfl⟩
  · refine ⟨_, cap, rfl, hnc, hcm, .inr ⟨g, 0, rfl, ⟨hb, lt_of_blk hg⟩, ?_⟩⟩
    have h3 := RowL.tail (cur.toList.drop (n * 6)) (h2.mono (S' := fun b => W.heap.size ≤ b ∧ b < w.heap.size) (fun b hb => ⟨hb.1, hb.2.1⟩) (fun _ _ => rfl))
    rw [← ht, List.take_append_drop] at h3
    exact RowL.inL hg (pre := []) h3 (by simp)
theorem GrowD.cap {W w : World} {e : TypeId} {A : Option Addr} {n cap n' : Nat} {ks : List Tr} (h : GrowD W w e (.slice A n cap) ks n') : A = none → cap = 0 := by
  obtain ⟨h0, xs, h1, h2⟩ := h
  intro hA
  rcases h1.2 with ⟨h3, -⟩ | ⟨g, c, cur, h3, -⟩
  · simp only [Value.slice.injEq] at h3
    exact h3.2.2
  · simp only [Value.slice.injEq] at h3
    rw [hA] at h3
    cases h3.1
theorem RowL.append {w : World} {S : Nat → Prop} {ys : List Value} {ts : List Tr} (ht : RowL w S ys ts) : ∀ {xs : List Value} {ks : List Tr}, xs.length = ks.length * 3 → RowL w S xs ks → RowL w S (xs ++ ys) (ks ++ ts)
  | xs, [], hx, h => by
    have hx0 : xs = [] := List.eq_nil_of_length_eq_zero (by simpa using hx)
    subst hx0
    exact ht
  | xs, x :: ks, hx, h => by
    obtain ⟨u0, u1, u2, rest, rfl, h1, h2⟩ := RowL.cons_iff.1 h
    exact RowL.cons_iff.2 ⟨u0, u1, u2, _, rfl, h1, RowL.append ht (by simp only [List.length_cons] at hx; omega) h2⟩
theorem RowL.two {w : World} {S : Nat → Prop} {t u : Tr} {v0 v1 v2 v3 v4 v5 : Value} (h1 : InT w S t (.agg #[v0, v1, v2])) (h2 : InT w S u (.agg #[v3, v4, v5])) : RowL w S [v0, v1, v2, v3, v4, v5] [t, u] :=
  RowL.cons_iff.2 ⟨v0, v1, v2, _, rfl, h1, RowL.cons_iff.2 ⟨v3, v4, v5, _, rfl, h2, RowL.nil⟩⟩
/-- The row of a slice that is not empty. -/
theorem GrowD.row {W w : World} {e : TypeId} {v : Value} {ks : List Tr} {n : Nat} (h : GrowD W w e v ks n) (hn : 0 < n) : ∃ g cap, v = .slice (some ⟨g, 0, none⟩) n cap ∧ W.heap.size ≤ g ∧ g < w.heap.size ∧ n ≤ cap ∧ cap ≤ maxLen ∧
    ∀ j, j < n * 6 → ∃ x, w.cell? ⟨g, j, none⟩ = some x ∧ w.frozen? ⟨g, j, none⟩ = false := by
  obtain ⟨h0, xs, h1, h2⟩ := h
  rcases h1.2 with ⟨rfl, h3⟩ | ⟨g, cap, cur, rfl, hb, hg, hnc, hcm, hcs, ht⟩
  · omega
  · exact ⟨g, cap, rfl, hb, lt_of_blk hg, hnc, hcm, fun j hj => ⟨cur[j]'(by rw [hcs]; omega), by rw [cell_of_blk hg]; exact Array.getElem?_eq_getElem _, frozen_of_blk hg _⟩⟩
end Go.Proofs.YtenpknapajckbaaDoor
namespace Go.Proofs.YtenpknapajckbaaDoor
open Go.RowKit
set_option linter.unusedVariables false
def hsh (y c : Int) (n b : Int) : Bool := if c ≤ n - b then decide (c ≤ n + y - b) && decide (n + y ≤ 20) else true
end Go.Proofs.YtenpknapajckbaaDoor
namespace Go.Proofs.YtenpknapajckbaaDoor
set_option linter.unusedVariables false
theorem index_one (c b : UInt8) (l : List UInt8) : Lib.index (b :: l) [c] = if b = c then 0 else if Lib.index l [c] = -1 then -1 else Lib.index l [c] + 1 := by
  rw [Lib.index]
  by_cases h : b = c
  · subst h
    simp
  · have h2 : (c == b) = false := beq_eq_false_iff_ne.2 (fun e => h e.symm)
    simp [h]
    intro e
    exact absurd e.symm h
theorem index_ge (c : UInt8) : ∀ l : List UInt8, Lib.index l [c] = -1 ∨ 0 ≤ Lib.index l [c]
  | [] => .inl rfl
  | b :: l => by
    rw [index_one]
    have := index_ge c l
    split
    · exact .inr (by omega)
    · split
      · exact .inl rfl
      · exact .inr (by omega)
theorem cutS_index (c : UInt8) : ∀ (l pre : List UInt8), cutS c pre l = if Lib.index l [c] = -1 then [pre ++ l] else (pre ++ l.take (Lib.index l [c]).toNat) :: cutS c [] (l.drop ((Lib.index l [c]).toNat + 1))
  | [], pre => by simp [cutS, Lib.index]
  | b :: l, pre => by
    rw [cutS, index_one]
    by_cases h : b = c
    · rw [if_pos h, if_pos h]
      simp
    · rw [if_neg h, if_neg h, cutS_index c l (pre ++ [b])]
      rcases index_ge c l with h1 | h1
      · simp [h1]
      · rw [if_neg (show ¬ Lib.index l [c] = -1 by omega), if_neg (show ¬ Lib.index l [c] = -1 by omega), if_neg (show ¬ Lib.index l [c] + 1 = -1 by omega)]
        have e : (Lib.index l [c] + 1).toNat = (Lib.index l [c]).toNat + 1 := by omega
        rw [e]
        simp
theorem split_cut (c : UInt8) : ∀ (n : Nat) (l : List UInt8), l.length ≤ n → Lib.splitK [c] 0 (Lib.count l [c]) l = cutL c l
  | 0, l, h => by
    have : l = [] := List.eq_nil_of_length_eq_zero (by omega)
    subst this
    rw [Lib.count_miss (by rfl)]
    rfl
  | n + 1, l, h => by
    unfold cutL
    rw [cutS_index]
    rcases index_ge c l with h1 | h1
    · rw [if_pos h1, Lib.count_miss h1]
      rfl
    · rw [if_neg (by omega), Lib.count_hit (i := (Lib.index l [c]).toNat) (by simp) (by omega), Nat.add_comm 1, Lib.splitK, if_neg (by simp; omega)]
      have hl := Lib.index_room l [c] h1
      have ih := split_cut c n (l.drop ((Lib.index l [c]).toNat + 1)) (by rw [List.length_drop]; simp at hl; omega)
      unfold cutL at ih
      simp only [List.length_cons, List.length_nil, Nat.zero_add, Nat.add_zero, List.nil_append]
      rw [ih]
end Go.Proofs.YtenpknapajckbaaDoor
namespace Go.Proofs.YtenpknapajckbaaDoor
set_option linter.unusedVariables false
/-- The operands' texts, each with the piece behind it. -/
def catP (f : Tr → List UInt8) : List (List UInt8) → List Tr → List UInt8
  | p :: ps, t :: ts => f t ++ p ++ catP f ps ts
  | _, _ => []
theorem catP_step {f : Tr → List UInt8} {ps : List (List UInt8)} {ks : List Tr} {j : Nat} (h1 : j < ks.length) (h2 : j < ps.length) : catP f (ps.drop j) (ks.drop j) = f ks[j] ++ ps[j] ++ catP f (ps.drop (j + 1)) (ks.drop (j + 1)) := by
  rw [List.drop_eq_getElem_cons h1, List.drop_eq_getElem_cons h2, catP]
theorem catP_end {f : Tr → List UInt8} {ps : List (List UInt8)} {ks : List Tr} {j : Nat} (h1 : ks.length ≤ j) : catP f (ps.drop j) (ks.drop j) = [] := by
  rw [List.drop_of_length_le h1]
  cases ps.drop j <;> rfl
end Go.Proofs.YtenpknapajckbaaDoor
namespace Go.Proofs.YtenpknapajckbaaDoor
open Go.RowKit
set_option linter.unusedVariables false
attribute [local go_sem ↓] Go.wp_at_zero Go.wp_at_succ
/-- bytealg's bound is some int. -/
def EnvM (w : World) : Prop := ∃ m, w.cell? ⟨1, 0, none⟩ = some (.int .i64 m)
theorem EnvM.ext {w w' : World} (h : EnvM w) (he : Ext w w') : EnvM w' := by
  obtain ⟨m, h1⟩ := h
  exact ⟨m, he.cell h1⟩
theorem envM_of {w : World} (h : w.ShapedOpen Tryd.prog) : EnvM w := Tryd.laysM146.s1_3 w h
theorem map_ofL {xs : List ByteArray} {ys : List (List UInt8)} (h : xs.map (·.data.toList) = ys) : xs.map Value.string = strs ys := by
  subst h
  unfold strs
  rw [List.map_map]
  apply List.map_congr_left
  intro a _
  show Value.string a = Value.string (ofL a.data.toList)
  rw [ofL_of]
theorem strs_get {xs : List (List UInt8)} {j : Nat} (h : j < xs.length) : (strs xs).toArray[j]? = some (.string (ofL xs[j])) := by
  unfold strs
  simp [h]
theorem split_any (l : List UInt8) (c : UInt8) (w : World) (hw : EnvM w) (hl : l.length ≤ 1000000000) : Calls Tryd.prog 42 #[.string (ofL l), .string (ofL [c])] w fun e w' => e = .returned (.slice (some ⟨w.heap.size, 0, none⟩) (cutL c l).length (cutL c l).length) ∧ w' = w.alloc (.cells (strs (cutL c l)).toArray 9) := by
  obtain ⟨m, hm⟩ := hw
  have h1 : 1 ≤ (ofL [c]).size := by rw [ofL_size]; exact Nat.le_refl 1
  have h := Tryd.strings_Split (ofL l) (ofL [c]) m w (by rw [ofL_size]; omega) hm h1
  have hd := Lib.splitB_data (ofL [c]) 0 (Lib.countB (ofL l) (ofL [c])) (ofL l)
  have hc : Lib.countB (ofL l) (ofL [c]) = Lib.count l [c] := by
    show Lib.count (ofL l).data.toList (ofL [c]).data.toList = _
    rw [ofL_list, ofL_list]
  rw [hc, ofL_list, ofL_list, split_cut c l.length l (Nat.le_refl _)] at hd
  have hlen := Lib.splitB_all (ofL [c]) h1 0 (Lib.countB (ofL l) (ofL [c])) (ofL l) rfl
  rw [hc] at h hlen
  have hn : (cutL c l).length = Lib.count l [c] + 1 := by rw [← hd, List.length_map, hlen]
  rw [map_ofL hd] at h
  rw [hn]
  exact h
/-- The pieces lie in a new block. -/
theorem split_at (l : List UInt8) (c : UInt8) (xs : List (List UInt8)) (hxs : cutL c l = xs) (w : World) (hw : EnvM w) (hl : l.length ≤ 1000000000) : Calls Tryd.prog 42 #[.string (ofL l), .string (ofL [c])] w fun e w' => ∃ b, e = .returned (.slice (some ⟨b, 0, none⟩) xs.length xs.length) ∧ (∀ j (hj : j < xs.length), w'.cell? ⟨b, j, none⟩ = some (.string (ofL xs[j]))) ∧ w.heap.size ≤ b ∧ b < w'.heap.size ∧ Ext w w' := by
  subst hxs
  refine (split_any l c w hw hl).mono ?_
  rintro e w' ⟨rfl, rfl⟩
  refine ⟨_, rfl, fun j hj => ?_, Nat.le_refl _, by simp, (Ext.refl w).alloc _⟩
  rw [cell_of_blk (heap_alloc_new w _)]
  exact strs_get hj
theorem decDigits_decL {n : Nat} (h : n < 100) : Lib.decDigits n = decL n := by
  by_cases h9 : n ≤ 9
  · rw [Lib.decDigits, dif_pos (by omega)]
    unfold decL
    rw [if_pos (by omega)]
    simp
  · rw [Lib.decDigits, dif_neg (by omega), Lib.decDigits, dif_pos (by omega)]
    unfold decL
    rw [if_neg (by omega)]
    simp
theorem itoa_any (n : Nat) (hn : n < 100) (w : World) : Calls Tryd.prog 41 #[.int .i64 n] w fun e w' => e = .returned (.string (ofL (decL n))) ∧ w' = w := by
  have h := Tryd.strconv_Itoa_small n hn w
  rw [decDigits_decL hn] at h
  exact h
end Go.Proofs.YtenpknapajckbaaDoor

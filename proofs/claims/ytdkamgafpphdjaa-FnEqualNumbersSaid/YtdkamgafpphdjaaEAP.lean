/-
  Lemmas towards the law, 16: Row, Any, EqNum, SpecValid.
-/
import Derived.Test.YtdkamgafpphdjaaEAO
namespace Go.Proofs.Ytdkamgafpphdjaa
open Go.RowKit
set_option linter.unusedVariables false
/-- The cells are those of the trees, one behind the other. -/
def RowL (w : World) (S : Nat → Prop) : List Value → List Tr → Prop
  | _, [] => True
  | xs, t :: ts => ∃ v0 v1 v2 rest, xs = v0 :: v1 :: v2 :: rest ∧ InT w S t (.agg #[v0, v1, v2]) ∧ RowL w S rest ts
theorem RowL.cons_iff {w : World} {S : Nat → Prop} {xs : List Value} {t : Tr} {ts : List Tr} : RowL w S xs (t :: ts) ↔ ∃ v0 v1 v2 rest, xs = v0 :: v1 :: v2 :: rest ∧ InT w S t (.agg #[v0, v1, v2]) ∧ RowL w S rest ts := by
  conv => lhs; unfold RowL
theorem RowL.nil {w : World} {S : Nat → Prop} {xs : List Value} : RowL w S xs [] := by unfold RowL; trivial
theorem RowL.mono {w w' : World} {S S' : Nat → Prop} (hS : ∀ b, S b → S' b) (hw : ∀ b, S b → w'.heap[b]? = w.heap[b]?) : ∀ {xs : List Value} {ks : List Tr}, RowL w S xs ks → RowL w' S' xs ks
  | _, [], _ => RowL.nil
  | xs, t :: ts, h => by
    obtain ⟨v0, v1, v2, rest, rfl, h1, h2⟩ := RowL.cons_iff.1 h
    exact RowL.cons_iff.2 ⟨v0, v1, v2, rest, rfl, h1.mono hS hw, RowL.mono hS hw h2⟩
theorem RowL.inL {w : World} {S : Nat → Prop} {b : Nat} {cs : Array Value} {e : TypeId} (hb : w.heap[b]? = some (.cells cs e (0, 0))) : ∀ {xs pre : List Value} {ks : List Tr}, RowL w S xs ks → cs.toList = pre ++ xs → InL w S b pre.length ks
  | _, _, [], _, _ => by unfold InL; trivial
  | xs, pre, t :: ts, h, he => by
    obtain ⟨v0, v1, v2, rest, rfl, h1, h2⟩ := RowL.cons_iff.1 h
    unfold InL
    have hc : ∀ i, w.cell? ⟨b, i, none⟩ = cs.toList[i]? := fun i => by rw [cell_of_blk hb]; simp
    refine ⟨⟨v0, v1, v2, ?_, ?_, ?_, h1⟩, ?_⟩
    · rw [hc, he, List.getElem?_append_right (Nat.le_refl _)]; simp
    · rw [hc, he, List.getElem?_append_right (by omega)]; simp
    · rw [hc, he, List.getElem?_append_right (by omega)]; simp
    · have := RowL.inL hb (pre := pre ++ [v0, v1, v2]) h2 (by simp [he])
      simpa using this
theorem InL.rowL {w : World} {S : Nat → Prop} {b : Nat} : ∀ {o : Nat} {ks : List Tr}, InL w S b o ks → ∃ xs : List Value, xs.length = ks.length * 3 ∧ (∀ j u, xs[j]? = some u → w.cell? ⟨b, o + j, none⟩ = some u) ∧ (∀ u ∈ xs, u.oneCell' = true) ∧ RowL w S xs ks
  | o, [], _ => ⟨[], rfl, (fun j u h => by simp at h), (fun u h => by simp at h), RowL.nil⟩
  | o, t :: ts, h => by
    unfold InL at h
    obtain ⟨⟨v0, v1, v2, c0, c1, c2, ht⟩, hts⟩ := h
    obtain ⟨xs, n1, n2, n3, n4⟩ := InL.rowL hts
    refine ⟨v0 :: v1 :: v2 :: xs, by simp [n1]; omega, fun j u hu => ?_, fun u hu => ?_, RowL.cons_iff.2 ⟨v0, v1, v2, xs, rfl, ht, n4⟩⟩
    · match j, hu with
      | 0, hu => simpa using (by simpa using hu : v0 = u) ▸ c0
      | 1, hu => simpa using (by simpa using hu : v1 = u) ▸ c1
      | 2, hu => simpa using (by simpa using hu : v2 = u) ▸ c2
      | j + 3, hu =>
        have := n2 j u (by simpa using hu)
        rwa [show o + 3 + j = o + (j + 3) by omega] at this
    · obtain ⟨k, n, kids⟩ := t
      obtain ⟨A, cap, hv, _⟩ := InT.mk_iff.1 ht
      simp only [Value.agg.injEq, Array.mk.injEq, List.cons.injEq, and_true] at hv
      obtain ⟨rfl, rfl, rfl⟩ := hv
      simp only [List.mem_cons] at hu
      rcases hu with rfl | rfl | rfl | hu
      · rfl
      · rfl
      · rfl
      · exact n3 u hu
theorem RowL.snoc {w : World} {S : Nat → Prop} {t : Tr} {v0 v1 v2 : Value} (ht : InT w S t (.agg #[v0, v1, v2])) (tail : List Value) : ∀ {xs : List Value} {ks : List Tr}, xs.length = ks.length * 3 → RowL w S xs ks → RowL w S (xs ++ v0 :: v1 :: v2 :: tail) (ks ++ [t])
  | xs, [], hx, h => by
    have hx0 : xs = [] := List.eq_nil_of_length_eq_zero (by simpa using hx)
    subst hx0
    exact RowL.cons_iff.2 ⟨v0, v1, v2, tail, rfl, ht, RowL.nil⟩
  | xs, x :: ks, hx, h => by
    obtain ⟨u0, u1, u2, rest, rfl, h1, h2⟩ := RowL.cons_iff.1 h
    exact RowL.cons_iff.2 ⟨u0, u1, u2, _, rfl, h1, RowL.snoc ht tail (by simp only [List.length_cons] at hx; omega) h2⟩
theorem RowL.tail {w : World} {S : Nat → Prop} (tail : List Value) : ∀ {xs : List Value} {ks : List Tr}, RowL w S xs ks → RowL w S (xs ++ tail) ks
  | xs, [], h => RowL.nil
  | xs, x :: ks, h => by
    obtain ⟨u0, u1, u2, rest, rfl, h1, h2⟩ := RowL.cons_iff.1 h
    exact RowL.cons_iff.2 ⟨u0, u1, u2, _, rfl, h1, RowL.tail tail h2⟩
theorem RowL.set {w : World} {S : Nat → Prop} {t : Tr} {v0 v1 v2 : Value} (ht : InT w S t (.agg #[v0, v1, v2])) : ∀ {xs : List Value} {ks : List Tr} (i : Nat), RowL w S xs ks → RowL w S (((xs.set (i * 3) v0).set (i * 3 + 1) v1).set (i * 3 + 2) v2) (ks.set i t)
  | xs, [], i, h => by simpa using RowL.nil
  | xs, x :: ks, 0, h => by
    obtain ⟨u0, u1, u2, rest, rfl, h1, h2⟩ := RowL.cons_iff.1 h
    exact RowL.cons_iff.2 ⟨v0, v1, v2, rest, by simp, ht, h2⟩
  | xs, x :: ks, i + 1, h => by
    obtain ⟨u0, u1, u2, rest, rfl, h1, h2⟩ := RowL.cons_iff.1 h
    refine RowL.cons_iff.2 ⟨u0, u1, u2, _, ?_, h1, RowL.set ht i h2⟩
    rw [show (i + 1) * 3 = i * 3 + 1 + 1 + 1 by omega, show i * 3 + 1 + 1 + 1 + 1 = i * 3 + 1 + 1 + 1 + 1 from rfl, show i * 3 + 1 + 1 + 1 + 2 = i * 3 + 2 + 1 + 1 + 1 by omega]
    simp
/-- v is a slice of trees that was built by append since W; the trees may be shared, but lie in no block of X. -/
def GrowS (X : Nat → Prop) (W w : World) (e : TypeId) (v : Value) (ks : List Tr) : Prop :=
  ∃ xs, w.ownsRow W.heap.size e 3 v ks.length xs ∧ RowL w (fun b => b < w.heap.size ∧ v.ownBlock ≠ some b ∧ ¬ X b) xs ks
theorem GrowS.nil (X : Nat → Prop) (W w : World) (e : TypeId) : GrowS X W w e (.slice none 0 0) [] := ⟨[], World.ownsRow_nil _ _ _ _, RowL.nil⟩
theorem GrowS.only {X : Nat → Prop} {W w w' : World} {e : TypeId} {v : Value} {ks : List Tr} {L : List Nat} (h : GrowS X W w e v ks) (ho : Only L w w') (hX : ∀ b, b ∈ L → X b) (hL : ∀ b, X b → b < W.heap.size) : GrowS X W w' e v ks := by
  obtain ⟨xs, h1, h2⟩ := h
  refine ⟨xs, ownsRow_same h1 (fun g hg => ho.block g (h1.lt g hg).2 (fun hm => by have := hL g (hX g hm); have := (h1.lt g hg).1; omega)), h2.mono (fun b hb => ⟨Nat.lt_of_lt_of_le hb.1 ho.size, hb.2.1, hb.2.2⟩) (fun b hb => ho.block b hb.1 (fun hm => hb.2.2 (hX b hm)))⟩
theorem GrowS.ext {X : Nat → Prop} {W w w' : World} {e : TypeId} {v : Value} {ks : List Tr} (h : GrowS X W w e v ks) (he : Ext w w') : GrowS X W w' e v ks := by
  obtain ⟨xs, h1, h2⟩ := h
  exact ⟨xs, ownsRow_same h1 (fun g hg => he.heap g (h1.lt g hg).2), h2.mono (fun b hb => ⟨Nat.lt_of_lt_of_le hb.1 he.size, hb.2.1, hb.2.2⟩) (fun b hb => he.heap b hb.1)⟩
theorem GrowS.lies {X : Nat → Prop} {W w : World} {e : TypeId} {v : Value} {ks : List Tr} (h : GrowS X W w e v ks) (hL : ∀ b, X b → b < W.heap.size) : ∃ A cap, v = .slice A ks.length cap ∧ ks.length ≤ cap ∧ cap ≤ maxLen ∧ InK w (fun b => b < w.heap.size ∧ ¬ X b) A ks ∧ (ks = [] ∨ ∃ g, A = some ⟨g, 0, none⟩ ∧ W.heap.size ≤ g) := by
  obtain ⟨xs, h1, h2⟩ := h
  rcases h1.2 with ⟨rfl, h0⟩ | ⟨g, cap, cur, rfl, hb, hg, hnc, hcm, hcs, ht⟩
  · have : ks = [] := List.eq_nil_of_length_eq_zero h0
    subst this
    exact ⟨none, 0, rfl, Nat.le_refl _, Nat.zero_le _, .inl rfl, .inl rfl⟩
  · refine ⟨_, cap, rfl, hnc, hcm, .inr ⟨g, 0, rfl, ⟨lt_of_blk hg, fun hm => by have := hL g hm; omega⟩, ?_⟩, .inr ⟨g, rfl, hb⟩⟩
    have h3 := RowL.tail (cur.toList.drop (ks.length * 3)) (h2.mono (S' := fun b => b < w.heap.size ∧ ¬ X b) (fun b hb => ⟨hb.1, hb.2.2⟩) (fun _ _ => rfl))
    rw [← ht, List.take_append_drop] at h3
    exact RowL.inL hg (pre := []) h3 (by simp)
theorem inT_oneCell {w : World} {S : Nat → Prop} {t : Tr} {v0 v1 v2 : Value} (h : InT w S t (.agg #[v0, v1, v2])) : ∀ u ∈ [v0, v1, v2], u.oneCell' = true := by
  obtain ⟨k, n, ks⟩ := t
  obtain ⟨A, cap, hv, _⟩ := InT.mk_iff.1 h
  simp only [Value.agg.injEq, Array.mk.injEq, List.cons.injEq, and_true] at hv
  obtain ⟨rfl, rfl, rfl⟩ := hv
  intro u hu
  simp only [List.mem_cons, List.not_mem_nil, or_false] at hu
  rcases hu with rfl | rfl | rfl <;> rfl
theorem wp_append_treeS {P : Program} (w : World) {o : Oper} {a : Act} {K : Act → World → Prop} {Q : Exit → Act → World → Prop} (s x : Operand) (t : TypeId)
    (ho : o.op = .call { callee := .builtin .append, args := #[s, x], argTypes := #[t, t] })
    (e : TypeId) (i : TypeInfo) (z : Value) (ht : P.underlying t = some (.slice e)) (hi : P.info? e = some i) (hz : i.zero = some z) (hsize : i.size = 3) (hby : i.bytes = 40) (hzs : z.cells.size = 3)
    {X : Nat → Prop} {W : World} {v : Value} {ks : List Tr} {tr : Tr} {v0 v1 v2 : Value} {gx : Nat} (hs : a.eval s = v) (hG : GrowS X W w e v ks) (hW : W.heap.size ≤ w.heap.size)
    (hT : InT w (fun b => b < w.heap.size ∧ v.ownBlock ≠ some b ∧ ¬ X b) tr (.agg #[v0, v1, v2]))
    (hx : a.eval x = .slice (some ⟨gx, 0, none⟩) 1 1) (hgx : w.heap[gx]? = some (.cells #[v0, v1, v2] e (0, 0))) (hn : ks.length < 1099511627776)
    (h : ∀ v' w', GrowS X W w' e v' (ks ++ [tr]) → Below W.heap.size w w' → K (a.put o.dst v') w') (hL : ∀ b, X b → b < W.heap.size) : o.wp P a w K Q := by
  obtain ⟨xs, h1, h2⟩ := hG
  obtain ⟨v', w', hr, r1, r2, r3⟩ := run_append_own' (P := P) w W.heap.size t o.type e i z 3 40 ht hi hz hsize hby hzs (by decide) v ks.length xs h1 ⟨gx, 0, none⟩ 1 1 [v0, v1, v2] rfl (row3_cells hgx) (inT_oneCell hT) (by unfold maxLen; omega) (by omega) hW
  have hB : Below W.heap.size w w' := ⟨r2.os, r2.tape, r2.output, r2.size, fun b hb => r2.block b (by omega) (fun he => by have := (h1.lt b he.symm).1; omega)⟩
  have hS : ∀ b, b < w.heap.size ∧ v.ownBlock ≠ some b ∧ ¬ X b → b < w'.heap.size ∧ v'.ownBlock ≠ some b ∧ ¬ X b := fun b hb => by
    refine ⟨Nat.lt_of_lt_of_le hb.1 r2.size, fun he => ?_, hb.2.2⟩
    rcases r3 b he with h4 | h4
    · exact hb.2.1 h4
    · omega
  have hw : ∀ b, b < w.heap.size ∧ v.ownBlock ≠ some b ∧ ¬ X b → w'.heap[b]? = w.heap[b]? := fun b hb => r2.block b hb.1 (fun he => hb.2.1 he.symm)
  have hG' : GrowS X W w' e v' (ks ++ [tr]) := ⟨_, by simpa using r1, RowL.snoc (hT.mono hS hw) [] h1.1 (h2.mono hS hw)⟩
  unfold Oper.wp execOp
  simp only [ho, resolve, invoke, builtin, Sem.run_bind, Sem.run_pure, Result.andThen_ok, List.map_toArray, List.map_cons, List.map_nil, hs, hx, hr]
  exact h v' w' hG' hB
end Go.Proofs.Ytdkamgafpphdjaa
namespace Go.Proofs.Ytdkamgafpphdjaa
open Go.RowKit
set_option linter.unusedVariables false
/-- The index of the first that meets p, or -1. -/
def firstIx (p : Tr → Bool) : List Tr → Nat → Int
  | [], _ => -1
  | t :: ts, j => if p t = true then (j : Int) else firstIx p ts (j + 1)
theorem firstIx_spec (p : Tr → Bool) : ∀ (ts : List Tr) (j : Nat), decide (0 ≤ firstIx p ts j) = ts.any p
  | [], j => by simp [firstIx]
  | t :: ts, j => by
    unfold firstIx
    cases h : p t
    · simp [h, firstIx_spec p ts (j + 1)]
    · simp [h]
end Go.Proofs.Ytdkamgafpphdjaa
namespace Go.Proofs.Ytdkamgafpphdjaa
open Go.RowKit
set_option linter.unusedVariables false
/-- What EqualNumbers answers. -/
def eqNum (a b : Int) : Tr × Bool := if a = b ∧ 0 ≤ a ∧ a ≤ 20 then (.mk 11 0 [numTr a.toNat], true) else (.mk 0 0 [], false)
theorem eqNum_bad {a b : Int} (h : ¬ (a = b ∧ 0 ≤ a ∧ a ≤ 20)) : eqNum a b = (.mk 0 0 [], false) := if_neg h
theorem eqNum_good {n : Nat} (h : n ≤ 20) : eqNum n n = (.mk 11 0 [numTr n], true) := by
  unfold eqNum
  rw [if_pos ⟨rfl, by omega, by omega⟩]
  simp
theorem equalNumbers_any (a b : Int) (w : World) : Calls Try.prog 5 #[.int .i64 a, .int .i64 b] w fun e w' => ∃ u, e = .returned (.tuple #[u, .bool (eqNum a b).2]) ∧ Made w w' 27 (eqNum a b).1 u ∧ Ext w w' := by
  by_cases hg : a = b ∧ 0 ≤ a ∧ a ≤ 20
  · obtain ⟨rfl, h0, h1⟩ := hg
    obtain ⟨n, rfl⟩ := Int.eq_ofNat_of_zero_le h0
    have hn : n ≤ 20 := by omega
    rw [eqNum_good hn]
    have d1 : ((n : Int) != (n : Int)) = false := by simp
    have d2 : inR (n : Int) 0 20 = true := by unfold inR; simp; omega
    go_enter Try.func5, Try.ntmps5
    go_wp2_with (go_at_call 13; refine (isNumber_any _ _).mono ?_; rw [d2]; rintro e w1 ⟨rfl, rfl⟩)
    refine (numeral_any n (by omega) _).mono ?_
    rintro e w1 ⟨u, rfl, hM, hE⟩
    obtain ⟨k, a', A, l, c, rfl⟩ := hM.three
    go_wp2_with fail
    refine (node_any _ 11 _ 1 1).mono ?_
    rintro e w2 ⟨rfl, hE2⟩
    have hb2 := (blk1 hE2).1
    have hk := MadeK.one (W := w.alloc (.cells #[.int .i64 0, .int .i64 0, .slice none 0 0] 27)) (w := w2) hM (by have := hE.size; simpa using this) hE2.pre hb2 (Nat.le_refl _) (Nat.le_refl _)
    have hb := (blk1 hE).1
    have hb' := hE2.pre.blk hb
    obtain ⟨s0, s1, s2, t0, t1, t2⟩ := own3 hb'
    clear hb2
    go_wp2_with fail
    refine bodyPost_ret (v := .tuple #[.agg #[.int .i64 11, .int .i64 0, .slice (some ⟨w1.heap.size, 0, none⟩) 1 1], .bool true]) (by simp [results, Try.results5, go_sem, s0, s1, s2]) rfl ⟨_, rfl, ?_, ?_⟩
    · exact Made.since (Made.after (Made.mk (by simp) (by decide) hk) ((((Above.refl _ _).setCell (by simp) _).setCell (by simp) _).setCell (by simp) _)) (by simp)
    · exact ((((hE.pre.trans hE2.pre).setCell (Nat.le_refl _) _).setCell (Nat.le_refl _) _).setCell (Nat.le_refl _) _)
  · rw [eqNum_bad hg]
    by_cases hab : a = b
    · subst hab
      have d1 : (a != a) = false := by simp
      have d2 : inR a 0 20 = false := by unfold inR; simp; omega
      go_enter Try.func5, Try.ntmps5
      go_wp2_with (go_at_call 13; refine (isNumber_any _ _).mono ?_; rw [d2]; rintro e w1 ⟨rfl, rfl⟩)
      exact bodyPost_ret (v := .tuple #[.agg #[.int .i64 0, .int .i64 0, .slice none 0 0], .bool false]) (by simp [results, Try.results5, go_sem]) rfl ⟨_, rfl, Made.leaf _ _ _ _ _, (Ext.refl w).alloc _⟩
    · have d1 : (a != b) = true := by rw [bne_iff_ne]; exact hab
      go_enter Try.func5, Try.ntmps5
      go_wp2_with fail
      exact bodyPost_ret (v := .tuple #[.agg #[.int .i64 0, .int .i64 0, .slice none 0 0], .bool false]) (by simp [results, Try.results5, go_sem]) rfl ⟨_, rfl, Made.leaf _ _ _ _ _, (Ext.refl w).alloc _⟩
theorem specEqualNumbers_any (a b : Int) (w : World) : Calls Try.prog 6 #[.int .i64 a, .int .i64 b] w fun e w' => ∃ u, e = .returned (.tuple #[u, .bool (eqNum a b).2]) ∧ Lies w' (eqNum a b).1 u ∧ Ext w w' := by
  by_cases hg : a = b ∧ 0 ≤ a ∧ a ≤ 20
  · obtain ⟨rfl, h0, h1⟩ := hg
    obtain ⟨n, rfl⟩ := Int.eq_ofNat_of_zero_le h0
    have hn : n ≤ 20 := by omega
    rw [eqNum_good hn]
    have d1 : ((n : Int) != (n : Int)) = false := by simp
    have d2 : decide ((n : Int) < 0) = false := by simp
    have d3 : decide ((20 : Int) < (n : Int)) = false := by simp; omega
    go_enter Try.func6, Try.ntmps6
    go_wp2_with fail
    refine (l1Numeral_any n (by omega) _).mono ?_
    rintro e w1 ⟨u, rfl, hM, hE⟩
    obtain ⟨k, a', A, l, c, rfl⟩ := hM.lies.three
    have hb := (blk1 hE).1
    have hs := hE.size
    simp only [World.size_alloc] at hs
    go_wp2_with fail
    refine (l1Node_any _ 11 _ 1 [numTr n] (by intro h; cases h) (fun b => w.heap.size < b ∧ b < w1.heap.size + 1) (by intro b hb; simp; omega) (InK.one (InT.mono (fun b hb => ⟨by have := hb.1; simp at this; omega, by omega⟩) (fun b hb => Below.heap_alloc w1 _ b hb.2) hM) (heap_alloc_new w1 _) ⟨by omega, by omega⟩) (by simp)).mono ?_
    rintro e w2 ⟨u, rfl, hI, hE2⟩
    have hs2 := hE2.size
    simp only [World.size_alloc] at hs2
    obtain ⟨A', c', rfl, hl', hc', hK⟩ := InT.mk_iff.1 hI
    have hb' := hE2.pre.blk hb
    obtain ⟨s0, s1, s2, t0, t1, t2⟩ := own3 hb'
    go_wp2_with fail
    refine bodyPost_ret (v := .tuple #[.agg #[.int .i64 11, .int .i64 0, .slice A' 1 c'], .bool true]) (by simp [results, Try.results6, go_sem, s0, s1, s2]) rfl ⟨_, rfl, ?_, ?_⟩
    · have hne : ∀ b, Plus (fun b => w.heap.size < b ∧ b < w1.heap.size + 1) (w1.alloc (Obj.cells #[.int .i64 k, .int .i64 a', .slice A l c] 27)) w2 b → b ≠ w.heap.size ∧ b < w2.heap.size := by
        intro b hb
        unfold Plus at hb
        simp only [World.size_alloc] at hb
        omega
      refine hI.mono (fun b hb => ?_) (fun b hb => ?_)
      · rw [World.size_setCell, World.size_setCell, World.size_setCell]
        exact (hne b hb).2
      · rw [Below.heap_setCell _ _ _ _ (hne b hb).1, Below.heap_setCell _ _ _ _ (hne b hb).1, Below.heap_setCell _ _ _ _ (hne b hb).1]
    · exact ((((hE.pre.trans hE2.pre).setCell (Nat.le_refl _) _).setCell (Nat.le_refl _) _).setCell (Nat.le_refl _) _)
  · rw [eqNum_bad hg]
    by_cases hab : a = b
    · subst hab
      have d1 : (a != a) = false := by simp
      by_cases h0 : a < 0
      · have d2 : decide (a < 0) = true := decide_eq_true h0
        go_enter Try.func6, Try.ntmps6
        go_wp2_with fail
        exact bodyPost_ret (v := .tuple #[.agg #[.int .i64 0, .int .i64 0, .slice none 0 0], .bool false]) (by simp [results, Try.results6, go_sem]) rfl ⟨_, rfl, Lies.leaf _ _ _, (Ext.refl w).alloc _⟩
      · have d2 : decide (a < 0) = false := decide_eq_false h0
        have d3 : decide (20 < a) = true := decide_eq_true (by omega)
        go_enter Try.func6, Try.ntmps6
        go_wp2_with fail
        exact bodyPost_ret (v := .tuple #[.agg #[.int .i64 0, .int .i64 0, .slice none 0 0], .bool false]) (by simp [results, Try.results6, go_sem]) rfl ⟨_, rfl, Lies.leaf _ _ _, (Ext.refl w).alloc _⟩
    · have d1 : (a != b) = true := by rw [bne_iff_ne]; exact hab
      go_enter Try.func6, Try.ntmps6
      go_wp2_with fail
      exact bodyPost_ret (v := .tuple #[.agg #[.int .i64 0, .int .i64 0, .slice none 0 0], .bool false]) (by simp [results, Try.results6, go_sem]) rfl ⟨_, rfl, Lies.leaf _ _ _, (Ext.refl w).alloc _⟩
end Go.Proofs.Ytdkamgafpphdjaa
namespace Go.Proofs.Ytdkamgafpphdjaa
open Go.RowKit
set_option linter.unusedVariables false
theorem validTerm_any (t : Tr) (w : World) (v : Value) (hin : Lies w t v) : Calls Try.prog 28 #[v] w fun e w' => e = .returned (.bool (valid sigT t)) ∧ Ext w w' := by
  obtain ⟨k, n, ks⟩ := t
  obtain ⟨A, cap, rfl, hl, hc, h⟩ := Lies.mk_iff.1 hin
  have hs := (scanR_valid sigT (.mk k n ks)).1
  have HS := Lib.hid hs
  clear hs
  go_enter Try.func28, Try.ntmps28
  go_wp2_with fail
  have hE := ((Ext.refl w).alloc (.cells #[.int .i64 k, .int .i64 n, .slice A ks.length cap] 27)).alloc (.cells #[.int .i64 0] 3)
  have hb := (blk2 (Ext.refl ((w.alloc (.cells #[.int .i64 k, .int .i64 n, .slice A ks.length cap] 27)).alloc (.cells #[.int .i64 0] 3)))).2.1
  refine (scanTerm_any (.mk k n ks) _ w.heap.size _ _ 1 0 (InT.mono (fun _ h => h) (fun b hb => hE.heap b hb) hin) (by omega) hb (by omega) (by omega) (by omega) (by omega)).mono ?_
  rintro e w1 ⟨rfl, -, h1⟩
  have hx : Ext w w1 := Below.trans hE h1
  rw [HS.out]
  go_wp2_with fail
  go_ret
  exact ⟨rfl, hx⟩
end Go.Proofs.Ytdkamgafpphdjaa

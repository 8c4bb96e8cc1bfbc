/-
  Lemmas towards the law, 12: Grow, Later, Text.
-/
import Derived.Test.YtdkamgafpphdjaaEAJ
import Derived.Test.YtdkamgafpphdjaaEAK
import Derived.BigQuiet
import Derived.Laws.AppendOwn
import Derived.OwnWalk
namespace Go.Proofs.Ytdkamgafpphdjaa
open Go.RowKit
set_option linter.unusedVariables false
/-- append onto a row of the call's own: as1 the kit's law, and where the new row lies. -/
theorem run_append_own' {P : Program} (w : World) (base : Nat) (t ty e : TypeId) (i : TypeInfo) (z : Value) (size bytes : Nat) (ht : P.underlying t = some (.slice e)) (hi : P.info? e = some i) (hz : i.zero = some z)
    (hsize : i.size = size) (hby : i.bytes = bytes) (hzs : z.cells.size = size) (hsz : 0 < size)
    (v : Value) (n : Nat) (xs : List Value) (hown : w.ownsRow base e size v n xs)
    (a : Addr) (m c : Nat) (news : List Value) (hl : news.length = m * size) (hnews : ∀ j u, news[j]? = some u → w.cell? (a.add j) = some u) (h1 : ∀ u ∈ news, u.oneCell' = true)
    (h63 : n + m ≤ maxLen) (hbytes : (n + m) * bytes ≤ 140737488355328) (hbase : base ≤ w.heap.size) :
    ∃ v' w', (Builtin.append_ #[t, t] ty #[v, .slice (some a) m c]).run P w = .ok v' w' ∧ w'.ownsRow base e size v' (n + m) (xs ++ news) ∧ w.grownBy w' v.ownBlock ∧
      (∀ g, v'.ownBlock = some g → v.ownBlock = some g ∨ w.heap.size ≤ g) := by
  obtain ⟨v', w', hr, h2, h3, h4⟩ := run_append_own (P := P) w base t ty e i z size bytes ht hi hz hsize hby hzs hsz v n xs hown a m c news hl hnews h1 h63 hbytes hbase
  refine ⟨v', w', hr, h2, h3, fun g hg => ?_⟩
  rcases hown.2 with ⟨rfl, rfl⟩ | ⟨g0, cap, cur, rfl, _, hg0, hnc, hcm, hcs, htake⟩
  · by_cases hm : m = 0
    · rw [h4.2 ⟨rfl, hm⟩] at hg
      cases hg
    · have hn' : m ≤ 9223372036854775807 := by simp only [maxLen] at h63; omega
      have hr' := run_append_nil (P := P) w t ty e i z ht hi hz a m c news (by rw [hl, hsize]) hnews (by omega) (by omega) (by rw [hby]; have hb := hbytes; simp only [Nat.zero_add] at hb; omega)
      rw [hr'] at hr
      cases hr
      simp only [Value.ownBlock, Option.some.injEq] at hg
      exact .inr (by omega)
  · by_cases hroom : n + m ≤ cap
    · have hfit : n * i.size + news.length ≤ cur.size := by rw [hl, hcs, hsize, ← Nat.add_mul]; exact Nat.mul_le_mul_right _ hroom
      have hr' := run_append_room (P := P) w t ty e i ht hi g0 n cap cur hg0 a m c news (by rw [hl, hsize]) hnews h1 hroom hfit
      rw [hr'] at hr
      cases hr
      exact .inl hg
    · have hn' : n + m ≤ 9223372036854775807 := by simp only [maxLen] at h63; omega
      have holds : ∀ j u, xs[j]? = some u → w.cell? ((⟨g0, 0, none⟩ : Addr).add j) = some u := hown.cells (g := g0) rfl
      have hr' := run_append_grow (P := P) w t ty e i z ht hi hz ⟨g0, 0, none⟩ n cap xs (by rw [hown.1, hsize]) holds a m c news (by rw [hl, hsize]) hnews (by omega) (by omega) (by rw [hby]; exact growslice_fits (by omega) hbytes)
      rw [hr'] at hr
      cases hr
      simp only [Value.ownBlock, Option.some.injEq] at hg
      exact .inr (by omega)
/-- v is a slice of trees that was built by append since W; its rows are of type e. -/
def Grow (W w : World) (e : TypeId) (v : Value) (ks : List Tr) : Prop :=
  ∃ xs L, w.ownsRow W.heap.size e 3 v ks.length xs ∧ OwnL w e xs ks L ∧ Fresh W w L ∧ ∀ g, v.ownBlock = some g → ¬ g ∈ L
theorem Grow.nil (W w : World) (e : TypeId) : Grow W w e (.slice none 0 0) [] :=
  ⟨[], [], World.ownsRow_nil _ _ _ _, OwnL.nil, Fresh.nil _ _, fun _ _ h => by cases h⟩
theorem ownsRow_same {w w' : World} {base : Nat} {e : TypeId} {v : Value} {n : Nat} {xs : List Value} (h : w.ownsRow base e 3 v n xs) (hb : ∀ g, v.ownBlock = some g → w'.heap[g]? = w.heap[g]?) : w'.ownsRow base e 3 v n xs := by
  refine ⟨h.1, ?_⟩
  rcases h.2 with h | ⟨g, cap, cur, rfl, h1, h2, r⟩
  · exact .inl h
  · exact .inr ⟨g, cap, cur, rfl, h1, (hb g rfl).trans h2, r⟩
theorem Grow.same {W w w' : World} {e : TypeId} {v : Value} {ks : List Tr} (h : Grow W w e v ks) (hs : w.heap.size ≤ w'.heap.size) (hb : ∀ b, W.heap.size ≤ b → b < w.heap.size → w'.heap[b]? = w.heap[b]?) : Grow W w' e v ks := by
  obtain ⟨xs, L, h1, h2, h3, h4⟩ := h
  exact ⟨xs, L, ownsRow_same h1 (fun g hg => hb g (h1.lt g hg).1 (h1.lt g hg).2), h2.mono (fun b hm => hb b (h3.2 b hm).1 (h3.2 b hm).2), h3.mono (Nat.le_refl _) hs, h4⟩
theorem Grow.ext {W w w' : World} {e : TypeId} {v : Value} {ks : List Tr} (h : Grow W w e v ks) (he : Ext w w') : Grow W w' e v ks := h.same he.size (fun b _ hb => he.heap b hb)
theorem Grow.after {W w w' : World} {e : TypeId} {v : Value} {ks : List Tr} (h : Grow W w e v ks) (ha : Above W.heap.size w w') : Grow W w' e v ks := h.same ha.2 (fun b hb _ => ha.1 b hb)
theorem Grow.made {W w : World} {e : TypeId} {v : Value} {ks : List Tr} (h : Grow W w e v ks) : ∃ A cap, v = .slice A ks.length cap ∧ ks.length ≤ cap ∧ cap ≤ maxLen ∧ MadeK W w e A ks := by
  obtain ⟨xs, L, h1, h2, h3, h4⟩ := h
  rcases h1.2 with ⟨rfl, h0⟩ | ⟨g, cap, cur, rfl, hb, hg, hnc, hcm, hcs, ht⟩
  · have : ks = [] := List.eq_nil_of_length_eq_zero h0
    subst this
    exact ⟨none, 0, rfl, Nat.le_refl _, Nat.zero_le _, MadeK.nil _ _ _ _⟩
  · refine ⟨_, cap, rfl, hnc, hcm, g :: L, .inr ⟨g, cur, L, rfl, hg, rfl, ?_⟩, List.nodup_cons.2 ⟨h4 g rfl, h3.1⟩, fun b hm => ?_⟩
    · have := OwnL.tail (cur.toList.drop (ks.length * 3)) h2
      rw [← ht, List.take_append_drop] at this
      exact this
    · rcases List.mem_cons.1 hm with rfl | hm
      · exact ⟨hb, lt_of_blk hg⟩
      · exact h3.2 b hm
theorem made_oneCell {w w' : World} {e : TypeId} {t : Tr} {v0 v1 v2 : Value} (h : Made w w' e t (.agg #[v0, v1, v2])) : ∀ u ∈ [v0, v1, v2], u.oneCell' = true := by
  obtain ⟨k, n, ks⟩ := t
  obtain ⟨A, cap, hv, _⟩ := Made.mk_iff.1 h
  simp only [Value.agg.injEq, Array.mk.injEq, List.cons.injEq, and_true] at hv
  obtain ⟨rfl, rfl, rfl⟩ := hv
  intro u hu
  simp only [List.mem_cons, List.not_mem_nil, or_false] at hu
  rcases hu with rfl | rfl | rfl <;> rfl
theorem row3_cells {w : World} {g : Nat} {v0 v1 v2 : Value} {e : TypeId} (h : w.heap[g]? = some (.cells #[v0, v1, v2] e (0, 0))) : ∀ j u, [v0, v1, v2][j]? = some u → w.cell? ((⟨g, 0, none⟩ : Addr).add j) = some u := by
  intro j u hu
  rw [Addr.add_lit, Nat.zero_add, cell_of_blk h]
  simpa using hu
theorem Grow.step {W wr w1 w w' : World} {e : TypeId} {v v' : Value} {ks : List Tr} {t : Tr} {v0 v1 v2 : Value} {xs : List Value} {L : List Nat}
    (hL : OwnL wr e xs ks L) (hF : Fresh W wr L) (hv : ∀ g, v.ownBlock = some g → ¬ g ∈ L ∧ g < wr.heap.size ∧ W.heap.size ≤ g) (hx : xs.length = ks.length * 3) (hW : W.heap.size ≤ wr.heap.size) (hE1 : Ext wr w1) (hM : Made wr w1 e t (.agg #[v0, v1, v2])) (hE2 : Ext w1 w)
    (h2 : w'.ownsRow W.heap.size e 3 v' (ks.length + 1) (xs ++ [v0, v1, v2])) (h3 : w.grownBy w' v.ownBlock) (h4 : ∀ g, v'.ownBlock = some g → v.ownBlock = some g ∨ w.heap.size ≤ g) : Grow W w' e v' (ks ++ [t]) ∧ Below W.heap.size wr w' := by
  obtain ⟨M, hM, hFM⟩ := hM
  have s1 := hE1.size
  have s2 := hE2.size
  have keep : ∀ b, b < w1.heap.size → (v.ownBlock ≠ some b) → w'.heap[b]? = w1.heap[b]? := fun b hb hne => (h3.block b (by omega) (fun h => hne h.symm)).trans (hE2.heap b hb)
  refine ⟨⟨_, L ++ M, by simpa using h2, OwnL.snoc (hM.mono fun b hb => keep b (hFM.2 b hb).2 fun he => ?_) [] hx (hL.mono fun b hb => (keep b (by have := (hF.2 b hb).2; omega) fun he => ?_).trans (hE1.heap b (hF.2 b hb).2)), ?_, fun g hg hm => ?_⟩, ?_⟩
  · have := (hv b he).2.1
    have := (hFM.2 b hb).1
    omega
  · exact (hv b he).1 hb
  · have h5 := hF.append (d := w1) hFM (Nat.le_refl _) hW hE1.size
    exact h5.mono (Nat.le_refl _) (by have := h3.size; omega)
  · rcases h4 g hg with h | h
    · rcases List.mem_append.1 hm with hm | hm
      · exact (hv g h).1 hm
      · have := (hv g h).2.1
        have := (hFM.2 g hm).1
        omega
    · rcases List.mem_append.1 hm with hm | hm
      · have := (hF.2 g hm).2
        omega
      · have := (hFM.2 g hm).2
        omega
  · refine ⟨h3.os.trans (hE2.os.trans hE1.os), h3.tape.trans (hE2.tape.trans hE1.tape), h3.output.trans (hE2.output.trans hE1.output), by have := h3.size; omega, fun b hb => ?_⟩
    exact (keep b (by omega) (fun he => by have := (hv b he).2.2; omega)).trans (hE1.heap b (by omega))
/-- 'out = append(out, t)'. -/
theorem wp_append_tree {P : Program} (w : World) {o : Oper} {a : Act} {K : Act → World → Prop} {Q : Exit → Act → World → Prop} (s x : Operand) (t : TypeId)
    (ho : o.op = .call { callee := .builtin .append, args := #[s, x], argTypes := #[t, t] })
    (e : TypeId) (i : TypeInfo) (z : Value) (ht : P.underlying t = some (.slice e)) (hi : P.info? e = some i) (hz : i.zero = some z) (hsize : i.size = 3) (hby : i.bytes = 40) (hzs : z.cells.size = 3)
    {W wr w1 : World} {v : Value} {ks : List Tr} {tr : Tr} {v0 v1 v2 : Value} {gx : Nat} (hs : a.eval s = v) (hG : Grow W wr e v ks) (hW : W.heap.size ≤ wr.heap.size) (hE1 : Ext wr w1) (hM : Made wr w1 e tr (.agg #[v0, v1, v2])) (hE2 : Ext w1 w)
    (hx : a.eval x = .slice (some ⟨gx, 0, none⟩) 1 1) (hgx : w.heap[gx]? = some (.cells #[v0, v1, v2] e (0, 0))) (hn : ks.length < 1099511627776)
    (h : ∀ v' w', Grow W w' e v' (ks ++ [tr]) → Below W.heap.size wr w' → K (a.put o.dst v') w') : o.wp P a w K Q := by
  obtain ⟨xs, L, h1, h2, h3, h4⟩ := hG
  have s1 := hE1.size
  have s2 := hE2.size
  have hown : w.ownsRow W.heap.size e 3 v ks.length xs := ownsRow_same h1 (fun g hg => (hE1.trans hE2).heap g (h1.lt g hg).2)
  obtain ⟨v', w', hr, r1, r2, r3⟩ := run_append_own' (P := P) w W.heap.size t o.type e i z 3 40 ht hi hz hsize hby hzs (by decide) v ks.length xs hown ⟨gx, 0, none⟩ 1 1 [v0, v1, v2] rfl (row3_cells hgx) (made_oneCell hM) (by unfold maxLen; omega) (by omega) (by omega)
  obtain ⟨g1, g2⟩ := Grow.step h2 h3 (fun g hg => ⟨h4 g hg, (h1.lt g hg).2, (h1.lt g hg).1⟩) h1.1 hW hE1 hM hE2 r1 r2 r3
  unfold Oper.wp execOp
  simp only [ho, resolve, invoke, builtin, Sem.run_bind, Sem.run_pure, Result.andThen_ok, List.map_toArray, List.map_cons, List.map_nil, hs, hx, hr]
  exact h v' w' g1 g2
/-- At a step of a region that draws its order. -/
theorem step_append_tree {P : Program} (w : World) {ops : Array Oper} {o : Oper} {a : Act} {K : Act → World → Prop} {Q : Exit → Act → World → Prop} {E : Prop} (hgd : o.guard = none) (s x : Operand) (t : TypeId)
    (ho : o.op = .call { callee := .builtin .append, args := #[s, x], argTypes := #[t, t] })
    (e : TypeId) (i : TypeInfo) (z : Value) (ht : P.underlying t = some (.slice e)) (hi : P.info? e = some i) (hz : i.zero = some z) (hsize : i.size = 3) (hby : i.bytes = 40) (hzs : z.cells.size = 3)
    {W wr w1 : World} {v : Value} {ks : List Tr} {tr : Tr} {v0 v1 v2 : Value} {gx : Nat} (hs : a.eval s = v) (hG : Grow W wr e v ks) (hW : W.heap.size ≤ wr.heap.size) (hE1 : Ext wr w1) (hM : Made wr w1 e tr (.agg #[v0, v1, v2])) (hE2 : Ext w1 w)
    (hx : a.eval x = .slice (some ⟨gx, 0, none⟩) 1 1) (hgx : w.heap[gx]? = some (.cells #[v0, v1, v2] e (0, 0))) (hn : ks.length < 1099511627776)
    (h : ∀ v' w', Grow W w' e v' (ks ++ [tr]) → Below W.heap.size wr w' → K (a.put o.dst v') w') :
    if Region.wanted o (yielded ops a.tmps) = true then Oper.wp P o a w K Q else E := by
  have hw : Region.wanted o (yielded ops a.tmps) = true := by simp [Region.wanted, hgd]
  rw [if_pos hw]
  exact wp_append_tree w s x t ho e i z ht hi hz hsize hby hzs hs hG hW hE1 hM hE2 hx hgx hn h
theorem InL.copy {w : World} {S : Nat → Prop} {b : Nat} : ∀ {o : Nat} {ks : List Tr}, InL w S b o ks → ∃ news : List Value, news.length = ks.length * 3 ∧ (∀ j u, news[j]? = some u → w.cell? ⟨b, o + j, none⟩ = some u) ∧ (∀ u ∈ news, u.oneCell' = true) ∧
    ∀ (w' : World) (S' : Nat → Prop) (b' o' : Nat), (∀ x, S x → S' x ∧ w'.heap[x]? = w.heap[x]?) → (∀ j u, news[j]? = some u → w'.cell? ⟨b', o' + j, none⟩ = some u) → InL w' S' b' o' ks
  | o, [], _ => ⟨[], rfl, (fun j u h => by simp at h), (fun u h => by simp at h), (fun _ _ _ _ _ _ => by unfold InL; trivial)⟩
  | o, t :: ts, h => by
    unfold InL at h
    obtain ⟨⟨v0, v1, v2, c0, c1, c2, ht⟩, hts⟩ := h
    obtain ⟨news, n1, n2, n3, n4⟩ := InL.copy hts
    refine ⟨v0 :: v1 :: v2 :: news, by simp [n1]; omega, fun j u hu => ?_, fun u hu => ?_, fun w' S' b' o' hS hc => ?_⟩
    · match j, hu with
      | 0, hu => simpa using (by simpa using hu : v0 = u) ▸ c0
      | 1, hu => simpa using (by simpa using hu : v1 = u) ▸ c1
      | 2, hu => simpa using (by simpa using hu : v2 = u) ▸ c2
      | j + 3, hu =>
        have := n2 j u (by simpa using hu)
        rwa [show o + 3 + j = o + (j + 3) by omega] at this
    · obtain ⟨k, n, kids⟩ := t
      obtain ⟨A, cap, hv, _⟩ := InT.mk_iff.1 ht
      simp only [Value.agg.injEq, Array.mk.injEq, List.cons.injEq, and_true] at hv
      obtain ⟨rfl, rfl, rfl⟩ := hv
      simp only [List.mem_cons] at hu
      rcases hu with rfl | rfl | rfl | hu
      · rfl
      · rfl
      · rfl
      · exact n3 u hu
    · unfold InL
      refine ⟨⟨v0, v1, v2, by simpa using hc 0 v0 rfl, hc 1 v1 rfl, hc 2 v2 rfl, ht.mono (fun x hx => (hS x hx).1) (fun x hx => (hS x hx).2)⟩, n4 w' S' b' (o' + 3) hS fun j u hu => ?_⟩
      have := hc (j + 3) u (by simpa using hu)
      rwa [show o' + (j + 3) = o' + 3 + j by omega] at this
/-- 'append([]T{}, kids...)': a copy. -/
theorem wpList_append_copy {P : Program} (w : World) {ops : Array Oper} {rest : List Oper} {o : Oper} {a : Act} {Q : Exit → Act → World → Prop} (hgd : o.guard = none) (s x : Operand) (t : TypeId)
    (ho : o.op = .call { callee := .builtin .append, args := #[s, x], argTypes := #[t, t] })
    (e : TypeId) (i : TypeInfo) (z : Value) (ht : P.underlying t = some (.slice e)) (hi : P.info? e = some i) (hz : i.zero = some z) (hsize : i.size = 3) (hby : i.bytes = 40) (hzs : z.cells.size = 3)
    {W : World} {v : Value} {A : Option Addr} {cap : Nat} {ks : List Tr} (hs : a.eval s = v) (hown : w.ownsRow W.heap.size e 3 v 0 []) (hE : Ext W w) (hx : a.eval x = .slice A ks.length cap) (hcap : A = none → cap = 0) {S : Nat → Prop} (hS : ∀ b, S b → b < W.heap.size) (hK : InK W S A ks) (hn : ks.length ≤ 1099511627776)
    (h : ∀ B c' w', InK w' (fun b => S b ∨ W.heap.size ≤ b ∧ b < w'.heap.size) B ks → ks.length ≤ c' → c' ≤ maxLen → Ext W w' → (B = none → c' = 0) → wpList P ops Q rest (a.put o.dst (.slice B ks.length c')) w') : wpList P ops Q (o :: rest) a w := by
  refine wpList_plain hgd fun K hK' => ?_
  have key : ∃ v' w', (Builtin.append_ #[t, t] o.type #[v, .slice A ks.length cap]).run P w = .ok v' w' ∧ ∃ B c', v' = .slice B ks.length c' ∧ InK w' (fun b => S b ∨ W.heap.size ≤ b ∧ b < w'.heap.size) B ks ∧ ks.length ≤ c' ∧ c' ≤ maxLen ∧ Ext W w' ∧ (B = none → c' = 0) := by
    cases A with
    | none =>
      obtain rfl := hcap rfl
      have hnil : ks = [] := by
        rcases hK with h | ⟨b, o, h, _⟩
        · exact h
        · cases h
      subst hnil
      have hr := run_append_owned_none (P := P) w W.heap.size t o.type e i 3 ht hi v 0 [] hown
      refine ⟨v, w, hr, ?_⟩
      rcases hown.2 with ⟨rfl, _⟩ | ⟨g, c, cur, rfl, _, _, h1, h2, _⟩
      · exact ⟨none, 0, rfl, .inl rfl, Nat.le_refl _, Nat.zero_le _, hE, fun _ => rfl⟩
      · exact ⟨_, c, rfl, .inl rfl, h1, h2, hE, fun h => by cases h⟩
    | some ad =>
      have hE' : ∀ w', w.grownBy w' v.ownBlock → Ext W w' := fun w' hg => hE.grown hg (fun k hk => (hown.lt k hk).1)
      have hb : ∀ (news : List Value), news.length = ks.length * 3 → (∀ j u, news[j]? = some u → w.cell? (ad.add j) = some u) → (∀ u ∈ news, u.oneCell' = true) →
          ∃ v' w', (Builtin.append_ #[t, t] o.type #[v, .slice (some ad) ks.length cap]).run P w = .ok v' w' ∧ Ext W w' ∧ ∃ B c', v' = .slice B ks.length c' ∧ ks.length ≤ c' ∧ c' ≤ maxLen ∧ (B = none → c' = 0) ∧
            (ks ≠ [] → ∃ g, B = some ⟨g, 0, none⟩ ∧ W.heap.size ≤ g ∧ g < w'.heap.size ∧ ∀ j u, news[j]? = some u → w'.cell? ⟨g, 0 + j, none⟩ = some u) := by
        intro news n1 n2 n3
        obtain ⟨v', w', hr, r1, r2, r3⟩ := run_append_own' (P := P) w W.heap.size t o.type e i z 3 40 ht hi hz hsize hby hzs (by decide) v 0 [] hown ad ks.length cap news n1 n2 n3 (by unfold maxLen; omega) (by omega) hE.size
        refine ⟨v', w', hr, hE' w' r2, ?_⟩
        have hc := fun g hg => r1.cells (g := g) hg
        have hlt := r1.lt
        rcases r1.2 with ⟨rfl, h0⟩ | ⟨g, c, cur, rfl, h5, h6, h1, h2, _⟩
        · exact ⟨none, 0, by rw [show ks.length = 0 by omega], by omega, Nat.zero_le _, fun _ => rfl, fun hne => absurd (List.eq_nil_of_length_eq_zero (by omega)) hne⟩
        · refine ⟨_, c, by rw [Nat.zero_add], by omega, h2, fun h => by (cases h), fun _ => ⟨g, rfl, h5, lt_of_blk h6, fun j u hu => ?_⟩⟩
          have := hc g rfl j u (by simpa using hu)
          rwa [Addr.add_lit] at this
      rcases hK with rfl | ⟨b, o, hab, hb', hl⟩
      · obtain ⟨v', w', hr, hx, B, c', q1, q2, q3, q4, _⟩ := hb [] rfl (fun _ _ h => by cases h) (fun _ h => by cases h)
        exact ⟨v', w', hr, B, c', q1, .inl rfl, q2, q3, hx, q4⟩
      · obtain rfl := Option.some.inj hab
        obtain ⟨news, n1, n2, n3, n4⟩ := hl.copy
        obtain ⟨v', w', hr, hx, B, c', q1, q2, q3, q4, q5⟩ := hb news n1 (fun j u hu => by rw [Addr.add_lit]; exact hE.cell (n2 j u hu)) n3
        refine ⟨v', w', hr, B, c', q1, ?_, q2, q3, hx, q4⟩
        by_cases hne : ks = []
        · exact .inl hne
        · obtain ⟨g, rfl, hg0, hg, hcell⟩ := q5 hne
          exact .inr ⟨g, 0, rfl, .inr ⟨hg0, hg⟩, n4 w' _ g 0 (fun x hxx => ⟨.inl hxx, hx.heap x (hS x hxx)⟩) hcell⟩
  obtain ⟨v', w', hr, B, c', rfl, r1, r2, r3, r4, r5⟩ := key
  unfold Oper.wp execOp
  simp only [ho, resolve, invoke, builtin, Sem.run_bind, Sem.run_pure, Result.andThen_ok, List.map_toArray, List.map_cons, List.map_nil, hs, hx, hr]
  exact hK' _ _ (h B c' w' r1 r2 r3 r4 r5)
end Go.Proofs.Ytdkamgafpphdjaa
namespace Go.Proofs.Ytdkamgafpphdjaa
open Go.RowKit
set_option linter.unusedVariables false
/-- What holds in w and in every later world. -/
def At (w : World) (p : World → Prop) : Prop := ∀ w', Ext w w' → p w'
theorem At.now {w : World} {p : World → Prop} (h : At w p) : p w := h w (Ext.refl w)
theorem At.step {w w' : World} {p : World → Prop} (h : At w p) (he : Ext w w') : At w' p := fun x hx => h x (he.trans hx)
theorem At.and {w : World} {p q : World → Prop} (h : At w p) (k : At w q) : At w (fun w' => p w' ∧ q w') := fun x hx => ⟨h x hx, k x hx⟩
/-- A world that has what W had, and more. -/
structure Later (W : World) where
  world : World
  ext : Ext W world
instance (W : World) : Nonempty (Later W) := ⟨⟨W, Ext.refl W⟩⟩
theorem wp_region_later {P : Program} {id : Nat} {Q : Exit → Act → World → Prop} {a : Act} {W : World} {l : List Oper} (hm : P.follows .mixedOrders = true) (hB : Region.lexB .any l.toArray = true)
    (h : wpQuiet P l.toArray (fun w' => ∃ x : Later W, w' = x.world) (fun a' => ∀ w', (∃ x : Later W, w' = x.world) → Q .normal a' w') l a) : (Code.region id l.toArray true).wp P Q a W :=
  wp_region_quiet (C := fun w' => ∃ x : Later W, w' = x.world) hm hB ⟨⟨_, (Ext.refl W).drew⟩, rfl⟩ (by simpa using h)
theorem later_of {P : Program} {f : FuncId} {args : Array Value} {W : World} {x : Later W} {v : Value} (h : Calls P f args x.world fun e w' => e = .returned v ∧ Ext x.world w') :
    Calls P f args x.world fun e w'' => e = .returned v ∧ ∃ y : Later W, w'' = y.world :=
  h.mono fun e w' ⟨he, hw⟩ => ⟨he, ⟨w', x.ext.trans hw⟩, rfl⟩
theorem later_of_same {P : Program} {f : FuncId} {args : Array Value} {W : World} {x : Later W} {v : Value} (h : Calls P f args x.world fun e w' => e = .returned v ∧ x.world = w') :
    Calls P f args x.world fun e w'' => e = .returned v ∧ ∃ y : Later W, w'' = y.world :=
  h.mono fun e w' ⟨he, hw⟩ => ⟨he, x, hw.symm⟩
/-- A struct's three cells, in every later world. -/
theorem Later.own3 {W : World} {g : Nat} {x0 x1 x2 : Value} {e : TypeId} (hb : W.heap[g]? = some (.cells #[x0, x1, x2] e (0, 0))) :
    (∀ y : Later W, y.world.cell? ⟨g, 0, none⟩ = some x0) ∧ (∀ y : Later W, y.world.cell? ⟨g, 1, none⟩ = some x1) ∧ (∀ y : Later W, y.world.cell? ⟨g, 2, none⟩ = some x2) :=
  ⟨fun y => y.ext.cell (cell_of_blk hb 0), fun y => y.ext.cell (cell_of_blk hb 1), fun y => y.ext.cell (cell_of_blk hb 2)⟩
theorem Later.cell {W : World} {b o : Nat} {v : Value} (h : W.cell? ⟨b, o, none⟩ = some v) (y : Later W) : y.world.cell? ⟨b, o, none⟩ = some v := y.ext.cell h
end Go.Proofs.Ytdkamgafpphdjaa
namespace Go.Proofs.Ytdkamgafpphdjaa
set_option linter.unusedVariables false
/-- Some terms, separated by commas, and a closing sign. -/
def ser (p : Nat → Option (Tr × Nat)) (l : List UInt8) (last : UInt8) : Nat → Nat → Option (List Tr × Nat)
  | 0, a => some ([], a)
  | m + 1, a => match p a with
    | none => none
    | some (t, b) => if l[b]? = some (if m = 0 then last else 44) then (ser p l last m (b + 1)).map (fun x => (t :: x.1, x.2)) else none
def one (k : Int) (x : Option (Tr × Nat)) : Option (Tr × Nat) := x.map fun y => (.mk k 0 [y.1], y.2)
def blkK (c : UInt8) : Int := if c = 60 then 9 else if c = 123 then 10 else if c = 124 then 14 else if c = 64 then 12 else 0
def blkE (c : UInt8) : UInt8 := if c = 123 then 125 else if c = 124 then 124 else 62
/-- Three or four operands. -/
def blk (p : Nat → Option (Tr × Nat)) (l : List UInt8) (a : Nat) (c : UInt8) : Option (Tr × Nat) :=
  if blkK c = 0 then none
  else if c = 64 then (if l[a + 1]? = some 60 then (ser p l 62 3 (a + 2)).map (fun x => (.mk 12 0 x.1, x.2)) else none)
  else (ser p l (blkE c) (if c = 60 then 4 else 3) (a + 1)).map (fun x => (.mk (blkK c) 0 x.1, x.2))
end Go.Proofs.Ytdkamgafpphdjaa

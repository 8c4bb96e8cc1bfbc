/-
  Lemmas towards the law, 15: Paths, Places.
-/
import Derived.Test.YtappakllopkfiaaKAD
import Derived.Test.YtappakllopkfiaaKAH
import Derived.Test.YtappakllopkfiaaKAM
import Derived.Test.YtappakllopkfiaaKAN
import Derived.Deep.RegionHeldLaw
import Derived.Laws.OwnMore
import Derived.Lib.SliceRun
namespace Go.Proofs.Ytappakllopkfiaa
open Go.RowKit
set_option linter.unusedVariables false
/-- A slice of numbers in a block of S (or nil). -/
def PathAt (w : World) (S : Nat → Prop) (u : Value) (p : List Int) : Prop :=
  (u = .slice none 0 0 ∧ p = []) ∨ ∃ b o c, u = .slice (some ⟨b, o, none⟩) p.length c ∧ p.length ≤ c ∧ c ≤ maxLen ∧ S b ∧ ∀ j (h : j < p.length), w.cell? ⟨b, o + j, none⟩ = some (.int .i64 p[j])
theorem PathAt.mono {w w' : World} {S S' : Nat → Prop} {u : Value} {p : List Int} (hS : ∀ b, S b → S' b) (hw : ∀ b, S b → w'.heap[b]? = w.heap[b]?) (h : PathAt w S u p) : PathAt w' S' u p := by
  rcases h with h | ⟨b, o, c, rfl, h1, h2, h3, h4⟩
  · exact .inl h
  · exact .inr ⟨b, o, c, rfl, h1, h2, hS b h3, fun j hj => (World.cell?_of_block (w := w) (a := ⟨b, o + j, none⟩) (hw b h3)).trans (h4 j hj)⟩
theorem PathAt.oneCell {w : World} {S : Nat → Prop} {u : Value} {p : List Int} (h : PathAt w S u p) : u.oneCell' = true := by
  rcases h with ⟨rfl, _⟩ | ⟨b, o, c, rfl, _⟩ <;> rfl
theorem PathAt.slice {w : World} {S : Nat → Prop} {u : Value} {p : List Int} (h : PathAt w S u p) (hS : ∀ b, S b → b < w.heap.size) : ∃ A c, u = .slice A p.length c ∧ p.length ≤ c ∧ c ≤ maxLen ∧ Nums w A p := by
  rcases h with ⟨rfl, rfl⟩ | ⟨b, o, c, rfl, h1, h2, h3, h4⟩
  · exact ⟨none, 0, rfl, Nat.le_refl _, Nat.zero_le _, .inl rfl⟩
  · exact ⟨_, c, rfl, h1, h2, .inr ⟨b, o, rfl, hS b h3, h4⟩⟩
/-- A row of ints of the call's own is a path. -/
theorem ownsRow_path {w : World} {base : Nat} {e : TypeId} {v : Value} {p : List Int} (h : w.ownsRow base e 1 v p.length (p.map (Value.int .i64))) : PathAt w (fun b => base ≤ b ∧ b < w.heap.size ∧ v.ownBlock = some b) v p := by
  have hcl := fun g hg => h.cells (g := g) hg
  rcases h.2 with ⟨rfl, h0⟩ | ⟨g, c, cur, rfl, hb, hg, hn, hm, hcs, ht⟩
  · exact .inl ⟨rfl, List.eq_nil_of_length_eq_zero h0⟩
  · refine .inr ⟨g, 0, c, rfl, hn, hm, ⟨hb, lt_of_blk hg, rfl⟩, fun j hj => ?_⟩
    have := hcl g rfl j (.int .i64 p[j]) (by rw [List.getElem?_map, List.getElem?_eq_getElem hj]; rfl)
    rwa [Addr.add_lit] at this
def RowP (w : World) (S : Nat → Prop) (xs : List Value) (ps : List (List Int)) : Prop := xs.length = ps.length ∧ ∀ (j : Nat) (u : Value) (p : List Int), xs[j]? = some u → ps[j]? = some p → PathAt w S u p
theorem RowP.mono {w w' : World} {S S' : Nat → Prop} {xs : List Value} {ps : List (List Int)} (hS : ∀ b, S b → S' b) (hw : ∀ b, S b → w'.heap[b]? = w.heap[b]?) (h : RowP w S xs ps) : RowP w' S' xs ps :=
  ⟨h.1, fun j u p h1 h2 => (h.2 j u p h1 h2).mono hS hw⟩
theorem RowP.append {w : World} {S : Nat → Prop} {xs ys : List Value} {ps qs : List (List Int)} (h : RowP w S xs ps) (k : RowP w S ys qs) : RowP w S (xs ++ ys) (ps ++ qs) := by
  refine ⟨by simp [h.1, k.1], fun j u p h1 h2 => ?_⟩
  by_cases hj : j < xs.length
  · rw [List.getElem?_append_left hj] at h1
    rw [List.getElem?_append_left (by have := h.1; omega)] at h2
    exact h.2 j u p h1 h2
  · rw [List.getElem?_append_right (by omega)] at h1
    rw [List.getElem?_append_right (by have := h.1; omega)] at h2
    exact k.2 (j - xs.length) u p h1 (by rw [h.1]; exact h2)
theorem RowP.one {w : World} {S : Nat → Prop} {u : Value} {p : List Int} (h : PathAt w S u p) : RowP w S [u] [p] := by
  refine ⟨rfl, fun j u' p' h1 h2 => ?_⟩
  match j, h1, h2 with
  | 0, h1, h2 =>
    simp at h1 h2
    subst h1 h2
    exact h
  | j + 1, h1, h2 => simp at h1
/-- v is a slice of places that was built by append since W; the places are no older. -/
def GrowP (W w : World) (e : TypeId) (v : Value) (ps : List (List Int)) : Prop :=
  ∃ xs, w.ownsRow W.heap.size e 1 v ps.length xs ∧ RowP w (fun b => W.heap.size ≤ b ∧ b < w.heap.size ∧ v.ownBlock ≠ some b) xs ps
theorem GrowP.nil (W w : World) (e : TypeId) : GrowP W w e (.slice none 0 0) [] := ⟨[], World.ownsRow_nil _ _ _ _, rfl, fun j u p h => by simp at h⟩
theorem GrowP.lit {W w : World} {e : TypeId} {g : Nat} (hg : w.heap[g]? = some (.cells #[] e (0, 0))) (hW : W.heap.size ≤ g) : GrowP W w e (.slice (some ⟨g, 0, none⟩) 0 0) [] :=
  ⟨[], ⟨rfl, .inr ⟨g, 0, #[], rfl, hW, hg, Nat.le_refl _, Nat.zero_le _, rfl, rfl⟩⟩, rfl, fun j u p h => by simp at h⟩
theorem ownsRow_same1 {w w' : World} {base n' : Nat} {e : TypeId} {v : Value} {n : Nat} {xs : List Value} (h : w.ownsRow base e n' v n xs) (hb : ∀ g, v.ownBlock = some g → w'.heap[g]? = w.heap[g]?) : w'.ownsRow base e n' v n xs := by
  refine ⟨h.1, ?_⟩
  rcases h.2 with h | ⟨g, cap, cur, rfl, h1, h2, r⟩
  · exact .inl h
  · exact .inr ⟨g, cap, cur, rfl, h1, (hb g rfl).trans h2, r⟩
theorem GrowP.same {W w w' : World} {e : TypeId} {v : Value} {ps : List (List Int)} (h : GrowP W w e v ps) (hs : w.heap.size ≤ w'.heap.size) (hw : ∀ b, W.heap.size ≤ b → b < w.heap.size → w'.heap[b]? = w.heap[b]?) : GrowP W w' e v ps := by
  obtain ⟨xs, h1, h2⟩ := h
  exact ⟨xs, ownsRow_same1 h1 (fun g hg => hw g (h1.lt g hg).1 (h1.lt g hg).2), h2.mono (fun b hb => ⟨hb.1, Nat.lt_of_lt_of_le hb.2.1 hs, hb.2.2⟩) (fun b hb => hw b hb.1 hb.2.1)⟩
theorem GrowP.ext {W w w' : World} {e : TypeId} {v : Value} {ps : List (List Int)} (h : GrowP W w e v ps) (he : Ext w w') : GrowP W w' e v ps := h.same he.size (fun b _ hb => he.heap b hb)
theorem GrowP.since {W W' w : World} {e : TypeId} {v : Value} {ps : List (List Int)} (h : GrowP W w e v ps) (hs : W'.heap.size ≤ W.heap.size) : GrowP W' w e v ps := by
  obtain ⟨xs, h1, h2⟩ := h
  refine ⟨xs, ⟨h1.1, ?_⟩, h2.mono (fun b hb => ⟨Nat.le_trans hs hb.1, hb.2⟩) (fun _ _ => rfl)⟩
  rcases h1.2 with h | ⟨g, cap, cur, rfl, h1, r⟩
  · exact .inl h
  · exact .inr ⟨g, cap, cur, rfl, Nat.le_trans hs h1, r⟩
theorem GrowP.lt {W w : World} {e : TypeId} {v : Value} {ps : List (List Int)} (h : GrowP W w e v ps) {g : Nat} (hg : v.ownBlock = some g) : W.heap.size ≤ g ∧ g < w.heap.size := by
  obtain ⟨xs, h1, h2⟩ := h
  exact h1.lt g hg
theorem GrowP.slice {W w : World} {e : TypeId} {v : Value} {ps : List (List Int)} (h : GrowP W w e v ps) : ∃ A cap, v = .slice A ps.length cap ∧ ps.length ≤ cap ∧ cap ≤ maxLen ∧ (ps = [] ∨ ∃ b, A = some ⟨b, 0, none⟩) ∧ ∀ j (hj : j < ps.length), ∃ b u, A = some ⟨b, 0, none⟩ ∧ w.cell? ⟨b, j, none⟩ = some u ∧ PathAt w (fun b => W.heap.size ≤ b ∧ b < w.heap.size ∧ v.ownBlock ≠ some b) u ps[j] := by
  obtain ⟨xs, h1, h2⟩ := h
  have hcl := fun g hg => h1.cells (g := g) hg
  rcases h1.2 with ⟨rfl, h0⟩ | ⟨g, c, cur, rfl, hb, hg, hn, hm, hcs, ht⟩
  · refine ⟨none, 0, by rw [h0], by omega, Nat.zero_le _, .inl (List.eq_nil_of_length_eq_zero h0), fun j hj => by omega⟩
  · refine ⟨_, c, rfl, hn, hm, .inr ⟨g, rfl⟩, fun j hj => ?_⟩
    have hj' : j < xs.length := by rw [h2.1]; exact hj
    have h3 := hcl g rfl j xs[j] (List.getElem?_eq_getElem hj')
    rw [Addr.add_lit, Nat.zero_add] at h3
    exact ⟨g, _, rfl, h3, h2.2 j _ _ (List.getElem?_eq_getElem hj') (List.getElem?_eq_getElem hj)⟩
theorem Only.widen {L M : List Nat} {a w w' : World} (h : Only L a w) (k : Only M w w') (hM : ∀ b, b ∈ M → b ∈ L ∨ a.heap.size ≤ b) : Only L a w' :=
  ⟨k.os.trans h.os, k.tape.trans h.tape, k.output.trans h.output, Nat.le_trans h.size k.size, fun i hi hn => (k.block i (Nat.lt_of_lt_of_le hi h.size) (fun hm => by rcases hM i hm with h1 | h1; exact hn h1; omega)).trans (h.block i hi hn)⟩
theorem Only.ofExt {L : List Nat} {w w' : World} (h : Ext w w') : Only L w w' := ⟨h.os, h.tape, h.output, h.size, fun b hb _ => h.heap b hb⟩
/-- 'out = append(out, x)' on a row of one-cell elements, at one operation. -/
theorem wp_append_one {P : Program} (w : World) {o : Oper} {a : Act} {K : Act → World → Prop} {Q : Exit → Act → World → Prop} (s x : Operand) (t : TypeId)
    (ho : o.op = .call { callee := .builtin .append, args := #[s, x], argTypes := #[t, t] })
    (base : Nat) (e e' : TypeId) (i : TypeInfo) (z : Value) (bytes : Nat) (ht : P.underlying t = some (.slice e)) (hi : P.info? e = some i) (hz : i.zero = some z) (hsize : i.size = 1) (hby : i.bytes = bytes) (hb8 : bytes ≤ 64) (hzs : z.cells.size = 1)
    {v : Value} {n : Nat} {xs : List Value} {y : Value} {gx : Nat} (hy : y.oneCell' = true) (hs : a.eval s = v) (hown : w.ownsRow base e 1 v n xs)
    (hx : a.eval x = .slice (some ⟨gx, 0, none⟩) 1 1) (hgx : w.heap[gx]? = some (.cells #[y] e' (0, 0))) (hn : n < 1099511627776) (hbase : base ≤ w.heap.size)
    (h : ∀ v' w', w'.ownsRow base e 1 v' (n + 1) (xs ++ [y]) → w.grownBy w' v.ownBlock → (∀ g, v'.ownBlock = some g → v.ownBlock = some g ∨ w.heap.size ≤ g) → K (a.put o.dst v') w') : o.wp P a w K Q := by
  have hc : ∀ j u, [y][j]? = some u → w.cell? ((⟨gx, 0, none⟩ : Addr).add j) = some u := by
    intro j u hu
    rw [Addr.add_lit, Nat.zero_add, cell_of_blk hgx]
    simpa using hu
  have h1 : ∀ u ∈ [y], u.oneCell' = true := by intro u hu; rw [List.mem_singleton.1 hu]; exact hy
  have hb : (n + 1) * bytes ≤ 140737488355328 := Nat.le_trans (Nat.mul_le_mul (show n + 1 ≤ 1099511627776 by omega) hb8) (by decide)
  obtain ⟨v', w', hr, r1, r2, r3⟩ := run_append_own' (P := P) w base t o.type e i z 1 bytes ht hi hz hsize hby hzs (by decide) v n xs hown ⟨gx, 0, none⟩ 1 1 [y] rfl hc h1 (by unfold maxLen; omega) hb hbase
  unfold Oper.wp execOp
  simp only [ho, resolve, invoke, builtin, Sem.run_bind, Sem.run_pure, Result.andThen_ok, List.map_toArray, List.map_cons, List.map_nil, hs, hx, hr]
  exact h v' w' r1 r2 r3
/-- 'out = append(out, p)', p a place. -/
theorem wp_append_path {P : Program} (w : World) {o : Oper} {a : Act} {K : Act → World → Prop} {Q : Exit → Act → World → Prop} (s x : Operand) (t : TypeId)
    (ho : o.op = .call { callee := .builtin .append, args := #[s, x], argTypes := #[t, t] })
    (e e' : TypeId) (i : TypeInfo) (z : Value) (bytes : Nat) (ht : P.underlying t = some (.slice e)) (hi : P.info? e = some i) (hz : i.zero = some z) (hsize : i.size = 1) (hby : i.bytes = bytes) (hb8 : bytes ≤ 64) (hzs : z.cells.size = 1)
    {W : World} {v : Value} {ps : List (List Int)} {p : List Int} {y : Value} {gx : Nat} (hs : a.eval s = v) (hG : GrowP W w e v ps) (hW : W.heap.size ≤ w.heap.size)
    (hp : PathAt w (fun b => W.heap.size ≤ b ∧ b < w.heap.size ∧ v.ownBlock ≠ some b) y p)
    (hx : a.eval x = .slice (some ⟨gx, 0, none⟩) 1 1) (hgx : w.heap[gx]? = some (.cells #[y] e' (0, 0))) (hn : ps.length < 1099511627776)
    (h : ∀ v' w', GrowP W w' e v' (ps ++ [p]) → w.grownBy w' v.ownBlock → (∀ g, v'.ownBlock = some g → v.ownBlock = some g ∨ w.heap.size ≤ g) → K (a.put o.dst v') w') : o.wp P a w K Q := by
  obtain ⟨xs, h1, h2⟩ := hG
  refine wp_append_one w s x t ho W.heap.size e e' i z bytes ht hi hz hsize hby hb8 hzs hp.oneCell hs h1 hx hgx hn hW (fun v' w' r1 r2 r3 => ?_)
  have hS : ∀ b, W.heap.size ≤ b ∧ b < w.heap.size ∧ v.ownBlock ≠ some b → W.heap.size ≤ b ∧ b < w'.heap.size ∧ v'.ownBlock ≠ some b := fun b hb => by
    refine ⟨hb.1, Nat.lt_of_lt_of_le hb.2.1 r2.size, fun he => ?_⟩
    rcases r3 b he with h4 | h4
    · exact hb.2.2 h4
    · omega
  have hw : ∀ b, W.heap.size ≤ b ∧ b < w.heap.size ∧ v.ownBlock ≠ some b → w'.heap[b]? = w.heap[b]? := fun b hb => r2.block b hb.2.1 (fun he => hb.2.2 he.symm)
  exact h v' w' ⟨_, by simpa using r1, (h2.mono hS hw).append (RowP.one (hp.mono hS hw))⟩ r2 r3
/-- 'append(lit, path...)': a copy of a place behind a row of ints of the call's own. -/
theorem wp_append_ints {P : Program} (w : World) {o : Oper} {a : Act} {K : Act → World → Prop} {Q : Exit → Act → World → Prop} (s x : Operand) (t : TypeId)
    (ho : o.op = .call { callee := .builtin .append, args := #[s, x], argTypes := #[t, t] })
    (base : Nat) (e : TypeId) (i : TypeInfo) (z : Value) (bytes : Nat) (ht : P.underlying t = some (.slice e)) (hi : P.info? e = some i) (hz : i.zero = some z) (hsize : i.size = 1) (hby : i.bytes = bytes) (hb8 : bytes ≤ 64) (hzs : z.cells.size = 1)
    {v u : Value} {ns p : List Int} {S : Nat → Prop} (hs : a.eval s = v) (hG : w.ownsRow base e 1 v ns.length (ns.map (Value.int .i64))) (hW : base ≤ w.heap.size)
    (hx : a.eval x = u) (hu : PathAt w S u p) (hn : ns.length + p.length < 1099511627776)
    (h : ∀ v' w', w'.ownsRow base e 1 v' (ns ++ p).length ((ns ++ p).map (Value.int .i64)) → w.grownBy w' v.ownBlock → (∀ g, v'.ownBlock = some g → v.ownBlock = some g ∨ w.heap.size ≤ g) → K (a.put o.dst v') w') : o.wp P a w K Q := by
  rcases hu with ⟨rfl, rfl⟩ | ⟨b, o', c, rfl, h1, h2, h3, h4⟩
  · have hr := run_append_owned_none (P := P) (w := w) base t o.type e i 1 ht hi v ns.length _ hG
    unfold Oper.wp execOp
    simp only [ho, resolve, invoke, builtin, Sem.run_bind, Sem.run_pure, Result.andThen_ok, List.map_toArray, List.map_cons, List.map_nil, hs, hx, hr]
    exact (h v w (by simpa using hG) ⟨rfl, rfl, rfl, Nat.le_refl _, fun _ _ _ => rfl⟩ (fun g hg => .inl hg))
  · have hbb : (ns.length + p.length) * bytes ≤ 140737488355328 := Nat.le_trans (Nat.mul_le_mul (show ns.length + p.length ≤ 1099511627776 by omega) hb8) (by decide)
    obtain ⟨v', w', hr, r1, r2, r3⟩ := run_append_own' (P := P) w base t o.type e i z 1 bytes ht hi hz hsize hby hzs (by decide) v ns.length _ hG ⟨b, o', none⟩ p.length c (p.map (Value.int .i64)) (by simp)
      (fun j y hy => by
        rw [Addr.add_lit]
        rw [List.getElem?_map] at hy
        by_cases hj : j < p.length
        · rw [List.getElem?_eq_getElem hj] at hy
          rw [h4 j hj]
          exact hy
        · rw [List.getElem?_eq_none (by omega)] at hy
          cases hy)
      (fun y hy => by obtain ⟨n, _, rfl⟩ := List.mem_map.1 hy; rfl) (by unfold maxLen; omega) hbb hW
    unfold Oper.wp execOp
    simp only [ho, resolve, invoke, builtin, Sem.run_bind, Sem.run_pure, Result.andThen_ok, List.map_toArray, List.map_cons, List.map_nil, hs, hx, hr]
    exact (h v' w' (by simpa using r1) r2 r3)
theorem step_append_one {P : Program} (w : World) {ops : Array Oper} {o : Oper} {a : Act} {K : Act → World → Prop} {Q : Exit → Act → World → Prop} {E : Prop} (hgd : o.guard = none) (s x : Operand) (t : TypeId)
    (ho : o.op = .call { callee := .builtin .append, args := #[s, x], argTypes := #[t, t] })
    (base : Nat) (e e' : TypeId) (i : TypeInfo) (z : Value) (bytes : Nat) (ht : P.underlying t = some (.slice e)) (hi : P.info? e = some i) (hz : i.zero = some z) (hsize : i.size = 1) (hby : i.bytes = bytes) (hb8 : bytes ≤ 64) (hzs : z.cells.size = 1)
    {v : Value} {n : Nat} {xs : List Value} {y : Value} {gx : Nat} (hy : y.oneCell' = true) (hs : a.eval s = v) (hown : w.ownsRow base e 1 v n xs)
    (hx : a.eval x = .slice (some ⟨gx, 0, none⟩) 1 1) (hgx : w.heap[gx]? = some (.cells #[y] e' (0, 0))) (hn : n < 1099511627776) (hbase : base ≤ w.heap.size)
    (h : ∀ v' w', w'.ownsRow base e 1 v' (n + 1) (xs ++ [y]) → w.grownBy w' v.ownBlock → (∀ g, v'.ownBlock = some g → v.ownBlock = some g ∨ w.heap.size ≤ g) → K (a.put o.dst v') w') : if Region.wanted o (yielded ops a.tmps) = true then Oper.wp P o a w K Q else E := by
  rw [if_pos (by simp [Region.wanted, hgd])]
  exact wp_append_one w s x t ho base e e' i z bytes ht hi hz hsize hby hb8 hzs hy hs hown hx hgx hn hbase h
theorem wpList_append_path {P : Program} (w : World) {ops : Array Oper} {rest : List Oper} {o : Oper} {a : Act} {Q : Exit → Act → World → Prop} (hgd : o.guard = none) (s x : Operand) (t : TypeId)
    (ho : o.op = .call { callee := .builtin .append, args := #[s, x], argTypes := #[t, t] })
    (e e' : TypeId) (i : TypeInfo) (z : Value) (bytes : Nat) (ht : P.underlying t = some (.slice e)) (hi : P.info? e = some i) (hz : i.zero = some z) (hsize : i.size = 1) (hby : i.bytes = bytes) (hb8 : bytes ≤ 64) (hzs : z.cells.size = 1)
    {W : World} {v : Value} {ps : List (List Int)} {p : List Int} {y : Value} {gx : Nat} (hs : a.eval s = v) (hG : GrowP W w e v ps) (hW : W.heap.size ≤ w.heap.size)
    (hp : PathAt w (fun b => W.heap.size ≤ b ∧ b < w.heap.size ∧ v.ownBlock ≠ some b) y p)
    (hx : a.eval x = .slice (some ⟨gx, 0, none⟩) 1 1) (hgx : w.heap[gx]? = some (.cells #[y] e' (0, 0))) (hn : ps.length < 1099511627776)
    (h : ∀ v' w', GrowP W w' e v' (ps ++ [p]) → w.grownBy w' v.ownBlock → (∀ g, v'.ownBlock = some g → v.ownBlock = some g ∨ w.heap.size ≤ g) → wpList P ops Q rest (a.put o.dst v') w') : wpList P ops Q (o :: rest) a w :=
  wpList_plain hgd fun K hK => wp_append_path w s x t ho e e' i z bytes ht hi hz hsize hby hb8 hzs hs hG hW hp hx hgx hn (fun v' w' h1 h2 h3 => hK _ _ (h v' w' h1 h2 h3))
theorem wpList_append_ints {P : Program} (w : World) {ops : Array Oper} {rest : List Oper} {o : Oper} {a : Act} {Q : Exit → Act → World → Prop} (hgd : o.guard = none) (s x : Operand) (t : TypeId)
    (ho : o.op = .call { callee := .builtin .append, args := #[s, x], argTypes := #[t, t] })
    (base : Nat) (e : TypeId) (i : TypeInfo) (z : Value) (bytes : Nat) (ht : P.underlying t = some (.slice e)) (hi : P.info? e = some i) (hz : i.zero = some z) (hsize : i.size = 1) (hby : i.bytes = bytes) (hb8 : bytes ≤ 64) (hzs : z.cells.size = 1)
    {v u : Value} {ns p : List Int} {S : Nat → Prop} (hs : a.eval s = v) (hG : w.ownsRow base e 1 v ns.length (ns.map (Value.int .i64))) (hW : base ≤ w.heap.size)
    (hx : a.eval x = u) (hu : PathAt w S u p) (hn : ns.length + p.length < 1099511627776)
    (h : ∀ v' w', w'.ownsRow base e 1 v' (ns ++ p).length ((ns ++ p).map (Value.int .i64)) → w.grownBy w' v.ownBlock → (∀ g, v'.ownBlock = some g → v.ownBlock = some g ∨ w.heap.size ≤ g) → wpList P ops Q rest (a.put o.dst v') w') : wpList P ops Q (o :: rest) a w :=
  wpList_plain hgd fun K hK => wp_append_ints w s x t ho base e i z bytes ht hi hz hsize hby hb8 hzs hs hG hW hx hu hn (fun v' w' h1 h2 h3 => hK _ _ (h v' w' h1 h2 h3))
theorem step_append_ints {P : Program} (w : World) {ops : Array Oper} {o : Oper} {a : Act} {K : Act → World → Prop} {Q : Exit → Act → World → Prop} {E : Prop} (hgd : o.guard = none) (s x : Operand) (t : TypeId)
    (ho : o.op = .call { callee := .builtin .append, args := #[s, x], argTypes := #[t, t] })
    (base : Nat) (e : TypeId) (i : TypeInfo) (z : Value) (bytes : Nat) (ht : P.underlying t = some (.slice e)) (hi : P.info? e = some i) (hz : i.zero = some z) (hsize : i.size = 1) (hby : i.bytes = bytes) (hb8 : bytes ≤ 64) (hzs : z.cells.size = 1)
    {v u : Value} {ns p : List Int} {S : Nat → Prop} (hs : a.eval s = v) (hG : w.ownsRow base e 1 v ns.length (ns.map (Value.int .i64))) (hW : base ≤ w.heap.size)
    (hx : a.eval x = u) (hu : PathAt w S u p) (hn : ns.length + p.length < 1099511627776)
    (h : ∀ v' w', w'.ownsRow base e 1 v' (ns ++ p).length ((ns ++ p).map (Value.int .i64)) → w.grownBy w' v.ownBlock → (∀ g, v'.ownBlock = some g → v.ownBlock = some g ∨ w.heap.size ≤ g) → K (a.put o.dst v') w') : if Region.wanted o (yielded ops a.tmps) = true then Oper.wp P o a w K Q else E := by
  rw [if_pos (by simp [Region.wanted, hgd])]
  exact wp_append_ints w s x t ho base e i z bytes ht hi hz hsize hby hb8 hzs hs hG hW hx hu hn h
end Go.Proofs.Ytappakllopkfiaa
namespace Go.Proofs.Ytappakllopkfiaa
open Go.RowKit
set_option linter.unusedVariables false
attribute [local go_sem ↓] Go.wp_at_zero Go.wp_at_succ
theorem plcs_snoc (p : Tr → Bool) (t : Tr) (q : List Int) : ∀ (a : List Tr) (i : Nat), plcs p i (a ++ [t]) q = plcs p i a q ++ plc p t (q ++ [((i + a.length : Nat) : Int)])
  | [], i => by simp [plcs]
  | x :: a, i => by
    rw [List.cons_append, plcs, plcs, plcs_snoc p t q a (i + 1), List.append_assoc, List.length_cons, show i + 1 + a.length = i + (a.length + 1) by omega]
theorem plc_len_le (p : Tr → Bool) (t : Tr) (q : List Int) : (plc p t q).length ≤ cnt t := by rw [plc_len]; exact cntP_le p t
theorem plcs_len_le (p : Tr → Bool) (ks : List Tr) (i : Nat) (q : List Int) : (plcs p i ks q).length ≤ cnts ks := by rw [plcs_len]; exact cntsP_le p ks
theorem ownsRow_since {w : World} {base base' k n : Nat} {e : TypeId} {v : Value} {xs : List Value} (h : w.ownsRow base e k v n xs) (hb : base' ≤ base) : w.ownsRow base' e k v n xs := by
  refine ⟨h.1, ?_⟩
  rcases h.2 with h | ⟨g, cap, cur, rfl, h1, r⟩
  · exact .inl h
  · exact .inr ⟨g, cap, cur, rfl, Nat.le_trans hb h1, r⟩
/-- A place that lies in w. -/
def PathL (w : World) (u : Value) (p : List Int) : Prop := PathAt w (fun b => b < w.heap.size) u p
theorem PathL.ext {w w' : World} {u : Value} {p : List Int} (h : PathL w u p) (he : Ext w w') : PathL w' u p := h.mono (fun b hb => Nat.lt_of_lt_of_le hb he.size) (fun b hb => he.heap b hb)
theorem ownsRow_pathL {w : World} {base : Nat} {e : TypeId} {v : Value} {p : List Int} (h : w.ownsRow base e 1 v p.length (p.map (Value.int .i64))) : PathL w v p := (ownsRow_path h).mono (fun b hb => hb.2.1) (fun _ _ => rfl)
theorem infoIntP : (Try.prog.info? 3).map (fun i => (i.zero, i.size, i.bytes)) = some (some (.int .i64 0), 1, 8) := by kernel_rfl
theorem infoIntsP : (Try.prog.info? 55).map (fun i => (i.zero, i.size, i.bytes)) = some (some (.slice none 0 0), 1, 24) := by kernel_rfl
theorem Ext.ownsRow {w w' : World} {base n : Nat} {e : TypeId} {k : Nat} {v : Value} {xs : List Value} (he : Ext w w') (h : w.ownsRow base e k v n xs) : w'.ownsRow base e k v n xs := ownsRow_same1 h (fun g hg => he.heap g (h.lt g hg).2)
theorem GrowP.form {W w : World} {e : TypeId} {v : Value} {ps : List (List Int)} (h : GrowP W w e v ps) : ∃ B c, v = .slice B ps.length c := by
  obtain ⟨A, c, h1, -⟩ := h.slice
  exact ⟨A, c, h1⟩
theorem GrowP.form3 {W w : World} {e : TypeId} {v : Value} {ps : List (List Int)} (h : GrowP W w e v ps) : ∃ B l c, v = .slice B l c := by
  obtain ⟨A, c, h1⟩ := h.form
  exact ⟨A, _, c, h1⟩
def allP (_ : Tr) : Bool := true
end Go.Proofs.Ytappakllopkfiaa

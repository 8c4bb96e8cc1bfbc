/-
  Lemmas towards the law, 21: Paths, Subst, Box, OrdT, Plc.
-/
import Derived.Test.YtdkamgafpphdjaaEAS
import Derived.Test.YtdkamgafpphdjaaEAT
import Derived.Deep.RegionHeldLaw
namespace Go.Proofs.Ytdkamgafpphdjaa
open Go.RowKit
set_option linter.unusedVariables false
/-- A slice of numbers in a block of S (or nil). -/
def PathAt (w : World) (S : Nat → Prop) (u : Value) (p : List Int) : Prop :=
  (u = .slice none 0 0 ∧ p = []) ∨ ∃ b o c, u = .slice (some ⟨b, o, none⟩) p.length c ∧ p.length ≤ c ∧ c ≤ maxLen ∧ S b ∧ ∀ j (h : j < p.length), w.cell? ⟨b, o + j, none⟩ = some (.int .i64 p[j])
theorem PathAt.mono {w w' : World} {S S' : Nat → Prop} {u : Value} {p : List Int} (hS : ∀ b, S b → S' b) (hw : ∀ b, S b → w'.heap[b]? = w.heap[b]?) (h : PathAt w S u p) : PathAt w' S' u p := by
  rcases h with h | ⟨b, o, c, rfl, h1, h2, h3, h4⟩
  · exact .inl h
  · exact .inr ⟨b, o, c, rfl, h1, h2, hS b h3, fun j hj => (World.cell?_of_block (w := w) (a := ⟨b, o + j, none⟩) (hw b h3)).trans (h4 j hj)⟩
theorem PathAt.slice {w : World} {S : Nat → Prop} {u : Value} {p : List Int} (h : PathAt w S u p) (hS : ∀ b, S b → b < w.heap.size) : ∃ A c, u = .slice A p.length c ∧ p.length ≤ c ∧ c ≤ maxLen ∧ Nums w A p := by
  rcases h with ⟨rfl, rfl⟩ | ⟨b, o, c, rfl, h1, h2, h3, h4⟩
  · exact ⟨none, 0, rfl, Nat.le_refl _, Nat.zero_le _, .inl rfl⟩
  · exact ⟨_, c, rfl, h1, h2, .inr ⟨b, o, rfl, hS b h3, h4⟩⟩
/-- A row of ints of the call's own is a path. -/
theorem ownsRow_path {w : World} {base : Nat} {e : TypeId} {v : Value} {p : List Int} (h : w.ownsRow base e 1 v p.length (p.map (Value.int .i64))) : PathAt w (fun b => base ≤ b ∧ b < w.heap.size ∧ v.ownBlock = some b) v p := by
  have hcl := fun g hg => h.cells (g := g) hg
  rcases h.2 with ⟨rfl, h0⟩ | ⟨g, c, cur, rfl, hb, hg, hn, hm, hcs, ht⟩
  · exact .inl ⟨rfl, List.eq_nil_of_length_eq_zero h0⟩
  · refine .inr ⟨g, 0, c, rfl, hn, hm, ⟨hb, lt_of_blk hg, rfl⟩, fun j hj => ?_⟩
    have := hcl g rfl j (.int .i64 p[j]) (by rw [List.getElem?_map, List.getElem?_eq_getElem hj]; rfl)
    rwa [Addr.add_lit] at this
def RowP (w : World) (S : Nat → Prop) (xs : List Value) (ps : List (List Int)) : Prop := xs.length = ps.length ∧ ∀ (j : Nat) (u : Value) (p : List Int), xs[j]? = some u → ps[j]? = some p → PathAt w S u p
theorem RowP.mono {w w' : World} {S S' : Nat → Prop} {xs : List Value} {ps : List (List Int)} (hS : ∀ b, S b → S' b) (hw : ∀ b, S b → w'.heap[b]? = w.heap[b]?) (h : RowP w S xs ps) : RowP w' S' xs ps :=
  ⟨h.1, fun j u p h1 h2 => (h.2 j u p h1 h2).mono hS hw⟩
theorem RowP.append {w : World} {S : Nat → Prop} {xs ys : List Value} {ps qs : List (List Int)} (h : RowP w S xs ps) (k : RowP w S ys qs) : RowP w S (xs ++ ys) (ps ++ qs) := by
  refine ⟨by simp [h.1, k.1], fun j u p h1 h2 => ?_⟩
  by_cases hj : j < xs.length
  · rw [List.getElem?_append_left hj] at h1
    rw [List.getElem?_append_left (by have := h.1; omega)] at h2
    exact h.2 j u p h1 h2
  · rw [List.getElem?_append_right (by omega)] at h1
    rw [List.getElem?_append_right (by have := h.1; omega)] at h2
    exact k.2 (j - xs.length) u p h1 (by rw [h.1]; exact h2)
theorem RowP.one {w : World} {S : Nat → Prop} {u : Value} {p : List Int} (h : PathAt w S u p) : RowP w S [u] [p] := by
  refine ⟨rfl, fun j u' p' h1 h2 => ?_⟩
  match j, h1, h2 with
  | 0, h1, h2 =>
    simp at h1 h2
    subst h1 h2
    exact h
  | j + 1, h1, h2 => simp at h1
/-- v is a slice of places that was built by append since W; the places are no older. -/
def GrowP (W w : World) (e : TypeId) (v : Value) (ps : List (List Int)) : Prop :=
  ∃ xs, w.ownsRow W.heap.size e 1 v ps.length xs ∧ RowP w (fun b => W.heap.size ≤ b ∧ b < w.heap.size ∧ v.ownBlock ≠ some b) xs ps
theorem GrowP.nil (W w : World) (e : TypeId) : GrowP W w e (.slice none 0 0) [] := ⟨[], World.ownsRow_nil _ _ _ _, rfl, fun j u p h => by simp at h⟩
theorem ownsRow_same1 {w w' : World} {base n' : Nat} {e : TypeId} {v : Value} {n : Nat} {xs : List Value} (h : w.ownsRow base e n' v n xs) (hb : ∀ g, v.ownBlock = some g → w'.heap[g]? = w.heap[g]?) : w'.ownsRow base e n' v n xs := by
  refine ⟨h.1, ?_⟩
  rcases h.2 with h | ⟨g, cap, cur, rfl, h1, h2, r⟩
  · exact .inl h
  · exact .inr ⟨g, cap, cur, rfl, h1, (hb g rfl).trans h2, r⟩
theorem GrowP.same {W w w' : World} {e : TypeId} {v : Value} {ps : List (List Int)} (h : GrowP W w e v ps) (hs : w.heap.size ≤ w'.heap.size) (hw : ∀ b, W.heap.size ≤ b → b < w.heap.size → w'.heap[b]? = w.heap[b]?) : GrowP W w' e v ps := by
  obtain ⟨xs, h1, h2⟩ := h
  exact ⟨xs, ownsRow_same1 h1 (fun g hg => hw g (h1.lt g hg).1 (h1.lt g hg).2), h2.mono (fun b hb => ⟨hb.1, Nat.lt_of_lt_of_le hb.2.1 hs, hb.2.2⟩) (fun b hb => hw b hb.1 hb.2.1)⟩
theorem GrowP.ext {W w w' : World} {e : TypeId} {v : Value} {ps : List (List Int)} (h : GrowP W w e v ps) (he : Ext w w') : GrowP W w' e v ps := h.same he.size (fun b _ hb => he.heap b hb)
theorem GrowP.since {W W' w : World} {e : TypeId} {v : Value} {ps : List (List Int)} (h : GrowP W w e v ps) (hs : W'.heap.size ≤ W.heap.size) : GrowP W' w e v ps := by
  obtain ⟨xs, h1, h2⟩ := h
  refine ⟨xs, ⟨h1.1, ?_⟩, h2.mono (fun b hb => ⟨Nat.le_trans hs hb.1, hb.2⟩) (fun _ _ => rfl)⟩
  rcases h1.2 with h | ⟨g, cap, cur, rfl, h1, r⟩
  · exact .inl h
  · exact .inr ⟨g, cap, cur, rfl, Nat.le_trans hs h1, r⟩
theorem GrowP.lt {W w : World} {e : TypeId} {v : Value} {ps : List (List Int)} (h : GrowP W w e v ps) {g : Nat} (hg : v.ownBlock = some g) : W.heap.size ≤ g ∧ g < w.heap.size := by
  obtain ⟨xs, h1, h2⟩ := h
  exact h1.lt g hg
theorem GrowP.slice {W w : World} {e : TypeId} {v : Value} {ps : List (List Int)} (h : GrowP W w e v ps) : ∃ A cap, v = .slice A ps.length cap ∧ ps.length ≤ cap ∧ cap ≤ maxLen ∧ (ps = [] ∨ ∃ b, A = some ⟨b, 0, none⟩) ∧ ∀ j (hj : j < ps.length), ∃ b u, A = some ⟨b, 0, none⟩ ∧ w.cell? ⟨b, j, none⟩ = some u ∧ PathAt w (fun b => W.heap.size ≤ b ∧ b < w.heap.size ∧ v.ownBlock ≠ some b) u ps[j] := by
  obtain ⟨xs, h1, h2⟩ := h
  have hcl := fun g hg => h1.cells (g := g) hg
  rcases h1.2 with ⟨rfl, h0⟩ | ⟨g, c, cur, rfl, hb, hg, hn, hm, hcs, ht⟩
  · refine ⟨none, 0, by rw [h0], by omega, Nat.zero_le _, .inl (List.eq_nil_of_length_eq_zero h0), fun j hj => by omega⟩
  · refine ⟨_, c, rfl, hn, hm, .inr ⟨g, rfl⟩, fun j hj => ?_⟩
    have hj' : j < xs.length := by rw [h2.1]; exact hj
    have h3 := hcl g rfl j xs[j] (List.getElem?_eq_getElem hj')
    rw [Addr.add_lit, Nat.zero_add] at h3
    exact ⟨g, _, rfl, h3, h2.2 j _ _ (List.getElem?_eq_getElem hj') (List.getElem?_eq_getElem hj)⟩
/-- 'append(lit, path...)': a copy of a place behind a row of ints of the call's own. -/
theorem wp_append_ints {P : Program} (w : World) {o : Oper} {a : Act} {K : Act → World → Prop} {Q : Exit → Act → World → Prop} (s x : Operand) (t : TypeId)
    (ho : o.op = .call { callee := .builtin .append, args := #[s, x], argTypes := #[t, t] })
    (base : Nat) (e : TypeId) (i : TypeInfo) (z : Value) (bytes : Nat) (ht : P.underlying t = some (.slice e)) (hi : P.info? e = some i) (hz : i.zero = some z) (hsize : i.size = 1) (hby : i.bytes = bytes) (hb8 : bytes ≤ 64) (hzs : z.cells.size = 1)
    {v u : Value} {ns p : List Int} {S : Nat → Prop} (hs : a.eval s = v) (hG : w.ownsRow base e 1 v ns.length (ns.map (Value.int .i64))) (hW : base ≤ w.heap.size)
    (hx : a.eval x = u) (hu : PathAt w S u p) (hn : ns.length + p.length < 1099511627776)
    (h : ∀ v' w', w'.ownsRow base e 1 v' (ns ++ p).length ((ns ++ p).map (Value.int .i64)) → w.grownBy w' v.ownBlock → (∀ g, v'.ownBlock = some g → v.ownBlock = some g ∨ w.heap.size ≤ g) → K (a.put o.dst v') w') : o.wp P a w K Q := by
  rcases hu with ⟨rfl, rfl⟩ | ⟨b, o', c, rfl, h1, h2, h3, h4⟩
  · have hr := run_append_owned_none (P := P) (w := w) base t o.type e i 1 ht hi v ns.length _ hG
    unfold Oper.wp execOp
    simp only [ho, resolve, invoke, builtin, Sem.run_bind, Sem.run_pure, Result.andThen_ok, List.map_toArray, List.map_cons, List.map_nil, hs, hx, hr]
    exact (h v w (by simpa using hG) ⟨rfl, rfl, rfl, Nat.le_refl _, fun _ _ _ => rfl⟩ (fun g hg => .inl hg))
  · have hbb : (ns.length + p.length) * bytes ≤ 140737488355328 := Nat.le_trans (Nat.mul_le_mul (show ns.length + p.length ≤ 1099511627776 by omega) hb8) (by decide)
    obtain ⟨v', w', hr, r1, r2, r3⟩ := run_append_own' (P := P) w base t o.type e i z 1 bytes ht hi hz hsize hby hzs (by decide) v ns.length _ hG ⟨b, o', none⟩ p.length c (p.map (Value.int .i64)) (by simp)
      (fun j y hy => by
        rw [Addr.add_lit]
        rw [List.getElem?_map] at hy
        by_cases hj : j < p.length
        · rw [List.getElem?_eq_getElem hj] at hy
          rw [h4 j hj]
          exact hy
        · rw [List.getElem?_eq_none (by omega)] at hy
          cases hy)
      (fun y hy => by obtain ⟨n, _, rfl⟩ := List.mem_map.1 hy; rfl) (by unfold maxLen; omega) hbb hW
    unfold Oper.wp execOp
    simp only [ho, resolve, invoke, builtin, Sem.run_bind, Sem.run_pure, Result.andThen_ok, List.map_toArray, List.map_cons, List.map_nil, hs, hx, hr]
    exact (h v' w' (by simpa using r1) r2 r3)
theorem wpList_append_ints {P : Program} (w : World) {ops : Array Oper} {rest : List Oper} {o : Oper} {a : Act} {Q : Exit → Act → World → Prop} (hgd : o.guard = none) (s x : Operand) (t : TypeId)
    (ho : o.op = .call { callee := .builtin .append, args := #[s, x], argTypes := #[t, t] })
    (base : Nat) (e : TypeId) (i : TypeInfo) (z : Value) (bytes : Nat) (ht : P.underlying t = some (.slice e)) (hi : P.info? e = some i) (hz : i.zero = some z) (hsize : i.size = 1) (hby : i.bytes = bytes) (hb8 : bytes ≤ 64) (hzs : z.cells.size = 1)
    {v u : Value} {ns p : List Int} {S : Nat → Prop} (hs : a.eval s = v) (hG : w.ownsRow base e 1 v ns.length (ns.map (Value.int .i64))) (hW : base ≤ w.heap.size)
    (hx : a.eval x = u) (hu : PathAt w S u p) (hn : ns.length + p.length < 1099511627776)
    (h : ∀ v' w', w'.ownsRow base e 1 v' (ns ++ p).length ((ns ++ p).map (Value.int .i64)) → w.grownBy w' v.ownBlock → (∀ g, v'.ownBlock = some g → v.ownBlock = some g ∨ w.heap.size ≤ g) → wpList P ops Q rest (a.put o.dst v') w') : wpList P ops Q (o :: rest) a w :=
  wpList_plain hgd fun K hK => wp_append_ints w s x t ho base e i z bytes ht hi hz hsize hby hb8 hzs hs hG hW hx hu hn (fun v' w' h1 h2 h3 => hK _ _ (h v' w' h1 h2 h3))
end Go.Proofs.Ytdkamgafpphdjaa
namespace Go.Proofs.Ytdkamgafpphdjaa
open Go.RowKit
set_option linter.unusedVariables false
attribute [local go_sem ↓] Go.wp_at_zero Go.wp_at_succ
/-- A load, named: so that a region's walk does not look for it in what it holds. -/
def ldO (t : TypeId) (s : Nat) : Op := Op.load t (.tmp s)
attribute [local go_sem] ldO
theorem infoS : (Try.prog.info? 27).map (fun i => (i.zero, i.size, i.bytes)) = some (some (.agg #[.int .i64 0, .int .i64 0, .slice none 0 0]), 3, 40) := by kernel_rfl
theorem LiesK.lt {w : World} {b o j : Nat} {ks : List Tr} (h : LiesK w (some ⟨b, o, none⟩) ks) (hj : j < ks.length) : b < w.heap.size := by
  rcases h with h | ⟨b', o', e, hb, -⟩
  · rw [h] at hj; simp at hj
  · cases e; exact hb
theorem take_snoc {l : List Tr} {j : Nat} {t : Tr} (h : j < l.length) (e : l[j] = t) : l.take j ++ [t] = l.take (j + 1) := by rw [← e]; exact List.take_append_getElem h
end Go.Proofs.Ytdkamgafpphdjaa
namespace Go.Proofs.Ytdkamgafpphdjaa
open Go.RowKit
set_option linter.unusedVariables false
theorem box1 {w w1 : World} {a : Obj} (h : w1 = w.alloc a) : w1.heap[w.heap.size]? = some a ∧ w.heap.size < w1.heap.size ∧ Ext w w1 := by
  subst h
  obtain ⟨p, s⟩ := blk1 (Ext.refl (w.alloc a))
  exact ⟨p, s, (Ext.refl w).alloc a⟩
theorem box2 {w w1 : World} {a b : Obj} (h : w1 = (w.alloc a).alloc b) : w1.heap[w.heap.size]? = some a ∧ w1.heap[w.heap.size + 1]? = some b ∧ w.heap.size + 1 < w1.heap.size ∧ Ext w w1 := by
  subst h
  obtain ⟨p, q, s⟩ := blk2 (Ext.refl ((w.alloc a).alloc b))
  exact ⟨p, q, s, ((Ext.refl w).alloc a).alloc b⟩
theorem box3 {w w1 : World} {a b c : Obj} (h : w1 = ((w.alloc a).alloc b).alloc c) : w1.heap[w.heap.size]? = some a ∧ w1.heap[w.heap.size + 1]? = some b ∧ w1.heap[w.heap.size + 1 + 1]? = some c ∧ w.heap.size + 1 + 1 < w1.heap.size ∧ Ext w w1 := by
  subst h
  obtain ⟨p, q, r, s⟩ := blk3 (Ext.refl (((w.alloc a).alloc b).alloc c))
  exact ⟨p, q, r, s, (((Ext.refl w).alloc a).alloc b).alloc c⟩
theorem own1 {w : World} {g : Nat} {x0 : Value} {e : TypeId} (hb : w.heap[g]? = some (.cells #[x0] e (0, 0))) : w.cell? ⟨g, 0, none⟩ = some x0 := cell_of_blk hb 0
theorem own5 {w : World} {g : Nat} {x0 x1 x2 x3 x4 : Value} {e : TypeId} (hb : w.heap[g]? = some (.cells #[x0, x1, x2, x3, x4] e (0, 0))) :
    w.cell? ⟨g, 0, none⟩ = some x0 ∧ w.cell? ⟨g, 1, none⟩ = some x1 ∧ w.cell? ⟨g, 2, none⟩ = some x2 ∧ w.cell? ⟨g, 3, none⟩ = some x3 ∧ w.cell? ⟨g, 4, none⟩ = some x4 :=
  ⟨cell_of_blk hb 0, cell_of_blk hb 1, cell_of_blk hb 2, cell_of_blk hb 3, cell_of_blk hb 4⟩
theorem Ext.set3 {a b : World} (h : Ext a b) {g : Nat} (hg : a.heap.size ≤ g) (x y z : Value) : Ext a (((b.setCell ⟨g, 0, none⟩ x).setCell ⟨g, 1, none⟩ y).setCell ⟨g, 2, none⟩ z) := ((h.setCell hg x).setCell hg y).setCell hg z
end Go.Proofs.Ytdkamgafpphdjaa
namespace Go.Proofs.Ytdkamgafpphdjaa
open Go.RowKit
set_option linter.unusedVariables false
theorem slot_at {a : Act} {t : Nat} {v : Value} (h : a.eval (.tmp t) = v) : a.tmps[t]?.getD undef = v := by
  rw [← h]
  exact (Array.getD_eq_getD_getElem? ..).symm
/-- A zero term's block that is newer than a world. -/
def BoxAt (W w : World) (g : Nat) : Prop := W.heap.size ≤ g ∧ w.heap[g]? = some (.cells #[.int .i64 0, .int .i64 0, .slice none 0 0] 27 (0, 0))
/-- What is said of an operation's value. -/
inductive Sp where
  | any
  | val (u : Value)
  | tree (M : Nat → Prop) (t : Tr)
  | row (M : Nat → Prop) (ts : List Tr)
  | two (M : Nat → Prop) (t : Tr) (c : Value)
  | box (W : World)
def Sp.holds : Sp → Value → World → Prop
  | .any, _, _ => True
  | .val u, v, _ => v = u
  | .tree M t, v, w => InT w M t v
  | .row M ts, v, w => ∃ A c, v = .slice A ts.length c ∧ ts.length ≤ c ∧ c ≤ maxLen ∧ InK w M A ts
  | .two M t c, v, w => ∃ u, v = .tuple #[u, c] ∧ InT w M t u
  | .box W, v, w => ∃ g, v = .pointer (some ⟨g, 0, none⟩) ∧ BoxAt W w g
theorem Sp.ext : ∀ {s : Sp} {v : Value} {w w' : World}, s.holds v w → Ext w w' → s.holds v w'
  | .any, _, _, _, _, _ => trivial
  | .val u, _, _, _, h, _ => h
  | .tree M t, _, _, _, h, e => InT.later h e
  | .row M ts, _, _, _, h, e => by
    obtain ⟨A, c, h1, h2, h3, h4⟩ := h
    exact ⟨A, c, h1, h2, h3, h4.later e⟩
  | .two M t c, _, _, _, h, e => by
    obtain ⟨u, h1, h2⟩ := h
    exact ⟨u, h1, InT.later h2 e⟩
  | .box W, _, _, _, h, e => by
    obtain ⟨g, h1, h2, h3⟩ := h
    exact ⟨g, h1, h2, e.blk h3⟩
theorem InK.news {w : World} {M : Nat → Prop} {e : TypeId} {t : Tr} {v0 v1 v2 : Value} (h : InT w M t (.agg #[v0, v1, v2])) (hM : M w.heap.size) : InK (w.alloc (.cells #[v0, v1, v2] e)) M (some ⟨w.heap.size, 0, none⟩) [t] :=
  .inr ⟨w.heap.size, 0, rfl, hM, ⟨⟨v0, v1, v2, cell_of_blk (heap_alloc_new w _) 0, cell_of_blk (heap_alloc_new w _) 1, cell_of_blk (heap_alloc_new w _) 2, h.later ((Ext.refl w).alloc _)⟩, trivial⟩⟩
theorem InK.news2 {w : World} {M : Nat → Prop} {e : TypeId} {t u : Tr} {v0 v1 v2 u0 u1 u2 : Value} (h : InT w M t (.agg #[v0, v1, v2])) (k : InT w M u (.agg #[u0, u1, u2])) (hM : M w.heap.size) : InK (w.alloc (.cells #[v0, v1, v2, u0, u1, u2] e)) M (some ⟨w.heap.size, 0, none⟩) [t, u] :=
  .inr ⟨w.heap.size, 0, rfl, hM, ⟨⟨v0, v1, v2, cell_of_blk (heap_alloc_new w _) 0, cell_of_blk (heap_alloc_new w _) 1, cell_of_blk (heap_alloc_new w _) 2, h.later ((Ext.refl w).alloc _)⟩, ⟨u0, u1, u2, cell_of_blk (heap_alloc_new w _) 3, cell_of_blk (heap_alloc_new w _) 4, cell_of_blk (heap_alloc_new w _) 5, k.later ((Ext.refl w).alloc _)⟩, trivial⟩⟩
theorem InK.news3 {w : World} {M : Nat → Prop} {e : TypeId} {t u x : Tr} {v0 v1 v2 u0 u1 u2 x0 x1 x2 : Value} (h : InT w M t (.agg #[v0, v1, v2])) (k : InT w M u (.agg #[u0, u1, u2])) (l : InT w M x (.agg #[x0, x1, x2])) (hM : M w.heap.size) : InK (w.alloc (.cells #[v0, v1, v2, u0, u1, u2, x0, x1, x2] e)) M (some ⟨w.heap.size, 0, none⟩) [t, u, x] :=
  .inr ⟨w.heap.size, 0, rfl, hM, ⟨⟨v0, v1, v2, cell_of_blk (heap_alloc_new w _) 0, cell_of_blk (heap_alloc_new w _) 1, cell_of_blk (heap_alloc_new w _) 2, h.later ((Ext.refl w).alloc _)⟩, ⟨u0, u1, u2, cell_of_blk (heap_alloc_new w _) 3, cell_of_blk (heap_alloc_new w _) 4, cell_of_blk (heap_alloc_new w _) 5, k.later ((Ext.refl w).alloc _)⟩, ⟨x0, x1, x2, cell_of_blk (heap_alloc_new w _) 6, cell_of_blk (heap_alloc_new w _) 7, cell_of_blk (heap_alloc_new w _) 8, l.later ((Ext.refl w).alloc _)⟩, trivial⟩⟩
end Go.Proofs.Ytdkamgafpphdjaa
namespace Go.Proofs.Ytdkamgafpphdjaa
set_option linter.unusedVariables false
mutual
/-- How many nodes p holds of. -/
def cntP (p : Tr → Bool) : Tr → Nat
  | .mk k n ks => (if p (.mk k n ks) = true then 1 else 0) + cntsP p ks
def cntsP (p : Tr → Bool) : List Tr → Nat
  | [] => 0
  | t :: ts => cntP p t + cntsP p ts
end
/-- Is this node a redex? -/
def isRdx (t : Tr) : Bool := rdxT t != 0
/-- The part of a tree at a place. -/
def atT : Tr → List Int → Option Tr
  | t, [] => some t
  | .mk _ _ ks, i :: r => if 0 ≤ i ∧ i < ks.length then atT (kd ks i.toNat) r else none
theorem kd_cons (t : Tr) (ts : List Tr) (i : Nat) : kd (t :: ts) (i + 1) = kd ts i := rfl
theorem kd_mem {ks : List Tr} {i : Nat} (h : i < ks.length) : kd ks i ∈ ks := by
  unfold kd
  rw [List.getD_eq_getElem?_getD, List.getElem?_eq_getElem h]
  exact List.getElem_mem h
/-- Each step keeps the shape. -/
theorem atT_shape {g : Sig} : ∀ (a : List Int) (t u : Tr) (d : Int), shape g t d = true → atT t a = some u → shape g u (d - a.length) = true
  | [], t, u, d, h, e => by
    have e : t = u := by cases t; simpa [atT] using e
    subst e
    simpa using h
  | i :: a, .mk k n ks, u, d, h, e => by
    rw [atT] at e
    split at e
    · rename_i hi
      have h1 := (shape_kids h).2.2.2 (kd ks i.toNat) (kd_mem (by omega))
      have := atT_shape a _ u (d - 1) h1 e
      rw [List.length_cons, show d - ((a.length + 1 : Nat) : Int) = d - 1 - a.length by omega]
      exact this
    · cases e
theorem shape_pos' {g : Sig} {t : Tr} {d : Int} (h : shape g t d = true) : 1 ≤ d := by
  obtain ⟨k, n, ks⟩ := t
  simp only [shape, Bool.and_eq_true, decide_eq_true_eq] at h
  exact h.1
mutual
def outT : Tr → Option (List Int)
  | .mk k n ks => if rdx k ks = 0 then outTs 0 ks else some []
def outTs : Nat → List Tr → Option (List Int)
  | _, [] => none
  | i, t :: ts => match outT t with
    | some p => some ((i : Int) :: p)
    | none => outTs (i + 1) ts
end
mutual
theorem outT_nrm : ∀ t : Tr, (outT t).isSome = !nrm t
  | .mk k n ks => by
    rw [outT, nrm]
    by_cases h : rdx k ks = 0
    · rw [if_pos h, outTs_nrm ks 0]
      simp [h]
    · rw [if_neg h]
      simp [h]
theorem outTs_nrm : ∀ (ks : List Tr) (i : Nat), (outTs i ks).isSome = !nrms ks
  | [], i => by rw [outTs, nrms]; rfl
  | t :: ts, i => by
    have h := outT_nrm t
    rw [outTs, nrms]
    cases e : outT t with
    | some p => rw [e] at h; simp at h; simp [h]
    | none => rw [e] at h; simp at h; simp [h, outTs_nrm ts (i + 1)]
end
theorem outT_len : ∀ (t : Tr) (d : Int), shape sigT t d = true → ∀ p, outT t = some p → (p.length : Int) ≤ d := Tr.ind fun k n ks hk => by
  intro d h p e
  have hd := shape_pos' h
  rw [outT] at e
  split at e
  · have key : ∀ (i : Nat) (ts : List Tr), (∀ t ∈ ts, t ∈ ks) → outTs i ts = some p → (p.length : Int) ≤ d := by
      intro i ts
      induction ts generalizing i with
      | nil => intro _ h; rw [outTs] at h; cases h
      | cons t ts ih =>
        intro hm h1
        rw [outTs] at h1
        cases e2 : outT t with
        | some q =>
          rw [e2] at h1
          simp only [Option.some.injEq] at h1
          subst h1
          have := hk t (hm t (by simp)) (d - 1) ((shape_kids h).2.2.2 t (hm t (by simp))) q e2
          simp only [List.length_cons]
          omega
        | none =>
          rw [e2] at h1
          exact ih (i + 1) (fun t ht => hm t (by simp [ht])) h1
    exact key 0 ks (fun _ h => h) e
  · simp only [Option.some.injEq] at e
    subst e
    simp
    omega
end Go.Proofs.Ytdkamgafpphdjaa

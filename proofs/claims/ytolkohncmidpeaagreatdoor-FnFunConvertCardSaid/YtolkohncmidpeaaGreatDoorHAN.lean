/-
  Lemmas towards the law, 14: Paths, Places, Places2, Own, Copy, Walked, SpExtract, Walked2, Any.
-/
import Derived.Test.YtolkohncmidpeaaGreatDoorHAD
import Derived.Test.YtolkohncmidpeaaGreatDoorHAE
import Derived.Test.YtolkohncmidpeaaGreatDoorHAG
import Derived.Test.YtolkohncmidpeaaGreatDoorHAI
import Derived.Test.YtolkohncmidpeaaGreatDoorHAL
import Derived.Test.YtolkohncmidpeaaGreatDoorHAM
import Derived.Deep.RegionHeld3
import Derived.Deep.RegionHeldLaw
import Derived.Laws.OwnMore
import Derived.Lib.SliceRun
import Derived.Outline
namespace Go.Proofs.YtolkohncmidpeaaGreatDoor
open Go.RowKit
set_option linter.unusedVariables false
/-- A slice of numbers in a block of S (or nil). -/
def PathAt (w : World) (S : Nat → Prop) (u : Value) (p : List Int) : Prop :=
  (u = .slice none 0 0 ∧ p = []) ∨ ∃ b o c, u = .slice (some ⟨b, o, none⟩) p.length c ∧ p.length ≤ c ∧ c ≤ maxLen ∧ S b ∧ ∀ j (h : j < p.length), w.cell? ⟨b, o + j, none⟩ = some (.int .i64 p[j])
theorem PathAt.mono {w w' : World} {S S' : Nat → Prop} {u : Value} {p : List Int} (hS : ∀ b, S b → S' b) (hw : ∀ b, S b → w'.heap[b]? = w.heap[b]?) (h : PathAt w S u p) : PathAt w' S' u p := by
  rcases h with h | ⟨b, o, c, rfl, h1, h2, h3, h4⟩
  · exact .inl h
  · exact .inr ⟨b, o, c, rfl, h1, h2, hS b h3, fun j hj => (World.cell?_of_block (w := w) (a := ⟨b, o + j, none⟩) (hw b h3)).trans (h4 j hj)⟩
theorem PathAt.slice {w : World} {S : Nat → Prop} {u : Value} {p : List Int} (h : PathAt w S u p) (hS : ∀ b, S b → b < w.heap.size) : ∃ A c, u = .slice A p.length c ∧ p.length ≤ c ∧ c ≤ maxLen ∧ Nums w A p := by
  rcases h with ⟨rfl, rfl⟩ | ⟨b, o, c, rfl, h1, h2, h3, h4⟩
  · exact ⟨none, 0, rfl, Nat.le_refl _, Nat.zero_le _, .inl rfl⟩
  · exact ⟨_, c, rfl, h1, h2, .inr ⟨b, o, rfl, hS b h3, h4⟩⟩
/-- A row of ints of the call's own is a path. -/
theorem ownsRow_path {w : World} {base : Nat} {e : TypeId} {v : Value} {p : List Int} (h : w.ownsRow base e 1 v p.length (p.map (Value.int .i64))) : PathAt w (fun b => base ≤ b ∧ b < w.heap.size ∧ v.ownBlock = some b) v p := by
  have hcl := fun g hg => h.cells (g := g) hg
  rcases h.2 with ⟨rfl, h0⟩ | ⟨g, c, cur, rfl, hb, hg, hn, hm, hcs, ht⟩
  · exact .inl ⟨rfl, List.eq_nil_of_length_eq_zero h0⟩
  · refine .inr ⟨g, 0, c, rfl, hn, hm, ⟨hb, lt_of_blk hg, rfl⟩, fun j hj => ?_⟩
    have := hcl g rfl j (.int .i64 p[j]) (by rw [List.getElem?_map, List.getElem?_eq_getElem hj]; rfl)
    rwa [Addr.add_lit] at this
def RowP (w : World) (S : Nat → Prop) (xs : List Value) (ps : List (List Int)) : Prop := xs.length = ps.length ∧ ∀ (j : Nat) (u : Value) (p : List Int), xs[j]? = some u → ps[j]? = some p → PathAt w S u p
theorem RowP.mono {w w' : World} {S S' : Nat → Prop} {xs : List Value} {ps : List (List Int)} (hS : ∀ b, S b → S' b) (hw : ∀ b, S b → w'.heap[b]? = w.heap[b]?) (h : RowP w S xs ps) : RowP w' S' xs ps :=
  ⟨h.1, fun j u p h1 h2 => (h.2 j u p h1 h2).mono hS hw⟩
theorem RowP.append {w : World} {S : Nat → Prop} {xs ys : List Value} {ps qs : List (List Int)} (h : RowP w S xs ps) (k : RowP w S ys qs) : RowP w S (xs ++ ys) (ps ++ qs) := by
  refine ⟨by simp [h.1, k.1], fun j u p h1 h2 => ?_⟩
  by_cases hj : j < xs.length
  · rw [List.getElem?_append_left hj] at h1
    rw [List.getElem?_append_left (by have := h.1; omega)] at h2
    exact h.2 j u p h1 h2
  · rw [List.getElem?_append_right (by omega)] at h1
    rw [List.getElem?_append_right (by have := h.1; omega)] at h2
    exact k.2 (j - xs.length) u p h1 (by rw [h.1]; exact h2)
theorem RowP.one {w : World} {S : Nat → Prop} {u : Value} {p : List Int} (h : PathAt w S u p) : RowP w S [u] [p] := by
  refine ⟨rfl, fun j u' p' h1 h2 => ?_⟩
  match j, h1, h2 with
  | 0, h1, h2 =>
    simp at h1 h2
    subst h1 h2
    exact h
  | j + 1, h1, h2 => simp at h1
/-- v is a slice of places that was built by append since W; the places are no older. -/
def GrowP (W w : World) (e : TypeId) (v : Value) (ps : List (List Int)) : Prop :=
  ∃ xs, w.ownsRow W.heap.size e 1 v ps.length xs ∧ RowP w (fun b => W.heap.size ≤ b ∧ b < w.heap.size ∧ v.ownBlock ≠ some b) xs ps
theorem GrowP.nil (W w : World) (e : TypeId) : GrowP W w e (.slice none 0 0) [] := ⟨[], World.ownsRow_nil _ _ _ _, rfl, fun j u p h => by simp at h⟩
theorem GrowP.lit {W w : World} {e : TypeId} {g : Nat} (hg : w.heap[g]? = some (.cells #[] e (0, 0))) (hW : W.heap.size ≤ g) : GrowP W w e (.slice (some ⟨g, 0, none⟩) 0 0) [] :=
  ⟨[], ⟨rfl, .inr ⟨g, 0, #[], rfl, hW, hg, Nat.le_refl _, Nat.zero_le _, rfl, rfl⟩⟩, rfl, fun j u p h => by simp at h⟩
theorem ownsRow_same1 {w w' : World} {base n' : Nat} {e : TypeId} {v : Value} {n : Nat} {xs : List Value} (h : w.ownsRow base e n' v n xs) (hb : ∀ g, v.ownBlock = some g → w'.heap[g]? = w.heap[g]?) : w'.ownsRow base e n' v n xs := by
  refine ⟨h.1, ?_⟩
  rcases h.2 with h | ⟨g, cap, cur, rfl, h1, h2, r⟩
  · exact .inl h
  · exact .inr ⟨g, cap, cur, rfl, h1, (hb g rfl).trans h2, r⟩
theorem GrowP.same {W w w' : World} {e : TypeId} {v : Value} {ps : List (List Int)} (h : GrowP W w e v ps) (hs : w.heap.size ≤ w'.heap.size) (hw : ∀ b, W.heap.size ≤ b → b < w.heap.size → w'.heap[b]? = w.heap[b]?) : GrowP W w' e v ps := by
  obtain ⟨xs, h1, h2⟩ := h
  exact ⟨xs, ownsRow_same1 h1 (fun g hg => hw g (h1.lt g hg).1 (h1.lt g hg).2), h2.mono (fun b hb => ⟨hb.1, Nat.lt_of_lt_of_le hb.2.1 hs, hb.2.2⟩) (fun b hb => hw b hb.1 hb.2.1)⟩
theorem GrowP.ext {W w w' : World} {e : TypeId} {v : Value} {ps : List (List Int)} (h : GrowP W w e v ps) (he : Ext w w') : GrowP W w' e v ps := h.same he.size (fun b _ hb => he.heap b hb)
theorem GrowP.since {W W' w : World} {e : TypeId} {v : Value} {ps : List (List Int)} (h : GrowP W w e v ps) (hs : W'.heap.size ≤ W.heap.size) : GrowP W' w e v ps := by
  obtain ⟨xs, h1, h2⟩ := h
  refine ⟨xs, ⟨h1.1, ?_⟩, h2.mono (fun b hb => ⟨Nat.le_trans hs hb.1, hb.2⟩) (fun _ _ => rfl)⟩
  rcases h1.2 with h | ⟨g, cap, cur, rfl, h1, r⟩
  · exact .inl h
  · exact .inr ⟨g, cap, cur, rfl, Nat.le_trans hs h1, r⟩
theorem GrowP.lt {W w : World} {e : TypeId} {v : Value} {ps : List (List Int)} (h : GrowP W w e v ps) {g : Nat} (hg : v.ownBlock = some g) : W.heap.size ≤ g ∧ g < w.heap.size := by
  obtain ⟨xs, h1, h2⟩ := h
  exact h1.lt g hg
theorem GrowP.slice {W w : World} {e : TypeId} {v : Value} {ps : List (List Int)} (h : GrowP W w e v ps) : ∃ A cap, v = .slice A ps.length cap ∧ ps.length ≤ cap ∧ cap ≤ maxLen ∧ (ps = [] ∨ ∃ b, A = some ⟨b, 0, none⟩) ∧ ∀ j (hj : j < ps.length), ∃ b u, A = some ⟨b, 0, none⟩ ∧ w.cell? ⟨b, j, none⟩ = some u ∧ PathAt w (fun b => W.heap.size ≤ b ∧ b < w.heap.size ∧ v.ownBlock ≠ some b) u ps[j] := by
  obtain ⟨xs, h1, h2⟩ := h
  have hcl := fun g hg => h1.cells (g := g) hg
  rcases h1.2 with ⟨rfl, h0⟩ | ⟨g, c, cur, rfl, hb, hg, hn, hm, hcs, ht⟩
  · refine ⟨none, 0, by rw [h0], by omega, Nat.zero_le _, .inl (List.eq_nil_of_length_eq_zero h0), fun j hj => by omega⟩
  · refine ⟨_, c, rfl, hn, hm, .inr ⟨g, rfl⟩, fun j hj => ?_⟩
    have hj' : j < xs.length := by rw [h2.1]; exact hj
    have h3 := hcl g rfl j xs[j] (List.getElem?_eq_getElem hj')
    rw [Addr.add_lit, Nat.zero_add] at h3
    exact ⟨g, _, rfl, h3, h2.2 j _ _ (List.getElem?_eq_getElem hj') (List.getElem?_eq_getElem hj)⟩
/-- 'append(lit, path...)': a copy of a place behind a row of ints of the call's own. -/
theorem wp_append_ints {P : Program} (w : World) {o : Oper} {a : Act} {K : Act → World → Prop} {Q : Exit → Act → World → Prop} (s x : Operand) (t : TypeId)
    (ho : o.op = .call { callee := .builtin .append, args := #[s, x], argTypes := #[t, t] })
    (base : Nat) (e : TypeId) (i : TypeInfo) (z : Value) (bytes : Nat) (ht : P.underlying t = some (.slice e)) (hi : P.info? e = some i) (hz : i.zero = some z) (hsize : i.size = 1) (hby : i.bytes = bytes) (hb8 : bytes ≤ 64) (hzs : z.cells.size = 1)
    {v u : Value} {ns p : List Int} {S : Nat → Prop} (hs : a.eval s = v) (hG : w.ownsRow base e 1 v ns.length (ns.map (Value.int .i64))) (hW : base ≤ w.heap.size)
    (hx : a.eval x = u) (hu : PathAt w S u p) (hn : ns.length + p.length < 1099511627776)
    (h : ∀ v' w', w'.ownsRow base e 1 v' (ns ++ p).length ((ns ++ p).map (Value.int .i64)) → w.grownBy w' v.ownBlock → (∀ g, v'.ownBlock = some g → v.ownBlock = some g ∨ w.heap.size ≤ g) → K (a.put o.dst v') w') : o.wp P a w K Q := by
  rcases hu with ⟨rfl, rfl⟩ | ⟨b, o', c, rfl, h1, h2, h3, h4⟩
  · have hr := run_append_owned_none (P := P) (w := w) base t o.type e i 1 ht hi v ns.length _ hG
    unfold Oper.wp execOp
    simp only [ho, resolve, invoke, builtin, Sem.run_bind, Sem.run_pure, Result.andThen_ok, List.map_toArray, List.map_cons, List.map_nil, hs, hx, hr]
    exact (h v w (by simpa using hG) ⟨rfl, rfl, rfl, Nat.le_refl _, fun _ _ _ => rfl⟩ (fun g hg => .inl hg))
  · have hbb : (ns.length + p.length) * bytes ≤ 140737488355328 := Nat.le_trans (Nat.mul_le_mul (show ns.length + p.length ≤ 1099511627776 by omega) hb8) (by decide)
    obtain ⟨v', w', hr, r1, r2, r3⟩ := run_append_own' (P := P) w base t o.type e i z 1 bytes ht hi hz hsize hby hzs (by decide) v ns.length _ hG ⟨b, o', none⟩ p.length c (p.map (Value.int .i64)) (by simp)
      (fun j y hy => by
        rw [Addr.add_lit]
        rw [List.getElem?_map] at hy
        by_cases hj : j < p.length
        · rw [List.getElem?_eq_getElem hj] at hy
          rw [h4 j hj]
          exact hy
        · rw [List.getElem?_eq_none (by omega)] at hy
          cases hy)
      (fun y hy => by obtain ⟨n, _, rfl⟩ := List.mem_map.1 hy; rfl) (by unfold maxLen; omega) hbb hW
    unfold Oper.wp execOp
    simp only [ho, resolve, invoke, builtin, Sem.run_bind, Sem.run_pure, Result.andThen_ok, List.map_toArray, List.map_cons, List.map_nil, hs, hx, hr]
    exact (h v' w' (by simpa using r1) r2 r3)
theorem wpList_append_ints {P : Program} (w : World) {ops : Array Oper} {rest : List Oper} {o : Oper} {a : Act} {Q : Exit → Act → World → Prop} (hgd : o.guard = none) (s x : Operand) (t : TypeId)
    (ho : o.op = .call { callee := .builtin .append, args := #[s, x], argTypes := #[t, t] })
    (base : Nat) (e : TypeId) (i : TypeInfo) (z : Value) (bytes : Nat) (ht : P.underlying t = some (.slice e)) (hi : P.info? e = some i) (hz : i.zero = some z) (hsize : i.size = 1) (hby : i.bytes = bytes) (hb8 : bytes ≤ 64) (hzs : z.cells.size = 1)
    {v u : Value} {ns p : List Int} {S : Nat → Prop} (hs : a.eval s = v) (hG : w.ownsRow base e 1 v ns.length (ns.map (Value.int .i64))) (hW : base ≤ w.heap.size)
    (hx : a.eval x = u) (hu : PathAt w S u p) (hn : ns.length + p.length < 1099511627776)
    (h : ∀ v' w', w'.ownsRow base e 1 v' (ns ++ p).length ((ns ++ p).map (Value.int .i64)) → w.grownBy w' v.ownBlock → (∀ g, v'.ownBlock = some g → v.ownBlock = some g ∨ w.heap.size ≤ g) → wpList P ops Q rest (a.put o.dst v') w') : wpList P ops Q (o :: rest) a w :=
  wpList_plain hgd fun K hK => wp_append_ints w s x t ho base e i z bytes ht hi hz hsize hby hb8 hzs hs hG hW hx hu hn (fun v' w' h1 h2 h3 => hK _ _ (h v' w' h1 h2 h3))
end Go.Proofs.YtolkohncmidpeaaGreatDoor
namespace Go.Proofs.YtolkohncmidpeaaGreatDoor
open Go.RowKit
set_option linter.unusedVariables false
attribute [local go_sem ↓] Go.wp_at_zero Go.wp_at_succ
theorem ownsRow_since {w : World} {base base' k n : Nat} {e : TypeId} {v : Value} {xs : List Value} (h : w.ownsRow base e k v n xs) (hb : base' ≤ base) : w.ownsRow base' e k v n xs := by
  refine ⟨h.1, ?_⟩
  rcases h.2 with h | ⟨g, cap, cur, rfl, h1, r⟩
  · exact .inl h
  · exact .inr ⟨g, cap, cur, rfl, Nat.le_trans hb h1, r⟩
/-- A place that lies in w. -/
def PathL (w : World) (u : Value) (p : List Int) : Prop := PathAt w (fun b => b < w.heap.size) u p
theorem PathL.ext {w w' : World} {u : Value} {p : List Int} (h : PathL w u p) (he : Ext w w') : PathL w' u p := h.mono (fun b hb => Nat.lt_of_lt_of_le hb he.size) (fun b hb => he.heap b hb)
theorem ownsRow_pathL {w : World} {base : Nat} {e : TypeId} {v : Value} {p : List Int} (h : w.ownsRow base e 1 v p.length (p.map (Value.int .i64))) : PathL w v p := (ownsRow_path h).mono (fun b hb => hb.2.1) (fun _ _ => rfl)
theorem infoIntP : (Tryz.prog.info? 3).map (fun i => (i.zero, i.size, i.bytes)) = some (some (.int .i64 0), 1, 8) := by kernel_rfl
theorem Ext.ownsRow {w w' : World} {base n : Nat} {e : TypeId} {k : Nat} {v : Value} {xs : List Value} (he : Ext w w') (h : w.ownsRow base e k v n xs) : w'.ownsRow base e k v n xs := ownsRow_same1 h (fun g hg => he.heap g (h.lt g hg).2)
theorem GrowP.form {W w : World} {e : TypeId} {v : Value} {ps : List (List Int)} (h : GrowP W w e v ps) : ∃ B c, v = .slice B ps.length c := by
  obtain ⟨A, c, h1, -⟩ := h.slice
  exact ⟨A, c, h1⟩
end Go.Proofs.YtolkohncmidpeaaGreatDoor
namespace Go.Proofs.YtolkohncmidpeaaGreatDoor
open Go.RowKit
set_option linter.unusedVariables false
attribute [local go_sem ↓] Go.wp_at_zero Go.wp_at_succ
theorem cnt_of_valid {t : Tr} (h : valid sigT t = true) : cnt t ≤ 400 ∧ shape sigT t 30 = true := by
  unfold valid at h
  rw [Bool.and_eq_true] at h
  exact ⟨of_decide_eq_true h.2, h.1⟩
end Go.Proofs.YtolkohncmidpeaaGreatDoor
namespace Go.Proofs.YtolkohncmidpeaaGreatDoor
open Go.RowKit
set_option linter.unusedVariables false
attribute [local go_sem ↓] Go.wp_at_zero Go.wp_at_succ
def ownC (t : Tr) : Prop := ∀ (w : World) (v : Value), Lies w t v → cnt t ≤ 1000000 →
  Calls Tryz.prog 69 #[v] w fun e w' => ∃ u, e = .returned u ∧ Made w w' 45 t u ∧ Ext w w'
theorem infoOTerm : (Tryz.prog.info? 45).map (fun i => (i.zero, i.size, i.bytes)) = some (some (.agg #[.int .i64 0, .int .i64 0, .slice none 0 0]), 3, 40) := by kernel_rfl
set_option maxRecDepth 100000 in
set_option maxHeartbeats 2000000 in
theorem own_any : ∀ t : Tr, ownC t := Tr.ind fun k n ks hk => by
  intro w v hin hcnt
  obtain ⟨A, cap, rfl, hl, hc, hK⟩ := Lies.mk_iff.1 hin
  obtain ⟨i0, hi, hz0, hz1, hz2⟩ := info_parts infoOTerm
  have hcc := hc
  unfold maxLen at hcc
  simp only [cnt] at hcnt
  have hlc := len_le_cnts ks
  go_enter Tryz.func69, Tryz.ntmps69
  go_wp2_with fail
  obtain ⟨w1, hw1⟩ : ∃ w1, w1 = (w.alloc (.cells #[.int .i64 k, .int .i64 n, .slice A ks.length cap] 45)).alloc (.cells #[.int .i64 0, .int .i64 0, .slice none 0 0] 45) := ⟨_, rfl⟩
  obtain ⟨W, hW⟩ : ∃ W, W = w1.alloc (.cells #[.int .i64 k, .int .i64 n, .slice none 0 0] 45) := ⟨_, rfl⟩
  have hs1 : w1.heap.size = w.heap.size + 1 + 1 := by rw [hw1]; simp
  have hsW : W.heap.size = w.heap.size + 3 := by rw [hW]; simp; omega
  have hE1 : Ext w w1 := hw1 ▸ ((Ext.refl w).alloc _).alloc _
  have hEW : Ext w1 W := hW ▸ (Ext.refl w1).alloc _
  have hbR : w1.heap[w.heap.size + 1]? = some (.cells #[.int .i64 0, .int .i64 0, .slice none 0 0] 45 (0, 0)) := by
    rw [hw1]; exact (blk2 (Ext.refl _)).2.1
  have hbO : W.heap[w.heap.size + 1 + 1]? = some (.cells #[.int .i64 k, .int .i64 n, .slice none 0 0] 45 (0, 0)) := by
    have := heap_alloc_new w1 (.cells #[.int .i64 k, .int .i64 n, .slice none 0 0] 45)
    rw [hs1] at this
    rw [hW]
    exact this
  rw [← hw1, ← hW]
  clear hW hw1
  go_loopw [14] (fun i wr => ∃ (j : Nat) (v : Value), j ≤ ks.length ∧ i = .int .i64 j ∧ wr.heap[w.heap.size + 1 + 1]? = some (.cells #[.int .i64 k, .int .i64 n, v] 45 (0, 0)) ∧ Grow W wr 45 v (ks.take j) ∧ Ext w1 wr ∧ W.heap.size ≤ wr.heap.size) (fun i _ => ks.length - (intOf i).toNat)
  case atStart => exact ⟨0, _, Nat.zero_le _, rfl, hbO, Grow.nil _ _ _, hEW, Nat.le_refl _⟩
  case round =>
    obtain ⟨j, v, hj, rfl, hbv, hG, he, hle⟩ := hrel
    by_cases hlt : j < ks.length
    · obtain ⟨b, o, k', n', A', cap', kids, rfl, HK, c0, c1, c2, hkl, hkc, hK', hin', hmem⟩ := hK.get (hE1.trans he) hlt
      have htk := List.take_append_getElem hlt
      rw [HK.out] at htk
      have hcm := cnt_mem hmem
      have hlen : (ks.take j).length < 1099511627776 := by rw [List.length_take]; omega
      have hlj : (ks.take j).length = j := by rw [List.length_take]; omega
      have HL := Lib.hid hlj
      go_wp2_with fail
      have hx := (Ext.refl wr).alloc (.cells #[.int .i64 k', .int .i64 n', .slice A' kids.length cap'] 45)
      have hb5 := heap_alloc_new wr (.cells #[.int .i64 k', .int .i64 n', .slice A' kids.length cap'] 45)
      generalize wr.alloc _ = w2 at hx hb5
      have hle2 : W.heap.size ≤ w2.heap.size := by have := hx.size; omega
      have hG2 := hG.ext hx
      have hbv2 := hx.blk hbv
      have hv := cell_of_blk hbv2 2
      have hcells : ∀ w', Below W.heap.size w2 w' → w'.heap[w.heap.size + 1 + 1]? = some (.cells #[.int .i64 k, .int .i64 n, v] 45 (0, 0)) := fun w' hB => (hB.block (w.heap.size + 1 + 1) (by omega)).trans hbv2
      have HCells := Lib.hid hcells
      obtain ⟨d0, d1, d2, -, -, -⟩ := own3 hb5
      have hEd : Ext w2 w2.drew := (Ext.refl w2).drew
      have hinD := (hin'.ext hx).ext hEd
      have he2 := he.trans hx
      clear hcells hlj c0 c1 c2 hbv hG he hle hcc
      go_region_law (first | (go_simp; go_at_call 69; refine (hk _ hmem _ _ hinD (by omega)).mono ?_; rintro e w4 ⟨u, rfl, hM, h4⟩; obtain ⟨a1, a2, a3, a4, a5, rfl⟩ := hM.three'; have hv4 := cell_of_blk (HCells.out _ ((hEd.trans h4).below hle2)) 2; have hs4 := World.block_lt_of_cell? _ _ hv4) | (refine step_append_tree _ (by rfl) (.tmp 19) (.tmp 22) _ (by rfl) 45 i0 _ Tryz.underlying43 hi hz0 hz1 hz2 rfl (by rfl) hG2 hle2 (hEd.trans h4) (hM.since (Nat.le_refl _)) ((Ext.refl _).alloc _) (by rfl) (heap_alloc_new _ _) hlen ?_; intro v' w5 hG5 hB5; obtain ⟨B5, c5, rfl, q1, q2, -⟩ := hG5.made; have hv5 := cell_of_blk (HCells.out _ hB5) 2; have hf5 := frozen_of_blk (HCells.out _ hB5) 2))
      all_goals (
        have hE5 : Ext w1 w5 := he2.trans' hB5 (by omega)
        have hs5 := hB5.size
        have hb6 := HCells.out _ hB5
        rw [List.length_append, List.length_singleton, htk, show (ks.take j).length + 1 = min (j + 1) ks.length from by rw [List.length_take]; omega] at hG5
        have hGs := fun u => hG5.after ((Above.refl W.heap.size w5).setCell (p := ⟨w.heap.size + 1 + 1, 2, none⟩) (by show w.heap.size + 1 + 1 < W.heap.size; omega) u)
        clear hv4 hs4 hv HCells hM h4 d0 d1 d2 hb5
        go_wp2_with fail
        go_roundw
        case rel => exact ⟨j + 1, _, by omega, by go_num, blk_setCell hb6 2 _, hGs _, hE5.setCell (by show _ ≤ w.heap.size + 1 + 1; omega) _, by simp; omega⟩
        case measure => simp [intOf]; omega)
    · obtain ⟨B5, c5, rfl, q1, q2, hMK⟩ := hG.made
      have hjl : j = ks.length := by omega
      have hln : (ks.take j).length = ks.length := by rw [hjl, List.take_length]
      obtain ⟨r0, r1, r2, -, -, -⟩ := own3 hbv
      have hbR' := he.blk hbR
      obtain ⟨s0, s1, s2, f0, f1, f2⟩ := own3 hbR'
      rw [hln] at q1 r2
      rw [show ks.take j = ks from by rw [hjl, List.take_length]] at hMK
      clear hln hbv
      go_wp2_with fail
      refine bodyPost_ret (v := .agg #[.int .i64 k, .int .i64 n, .slice B5 ks.length c5]) (by simp [results, Tryz.results69, go_sem, s0, s1, s2]) rfl ⟨_, rfl, ?_, ?_⟩
      · exact Made.since (Made.after (Made.mk q1 q2 hMK) ((((Above.refl _ _).setCell (by show w.heap.size + 1 < _; omega) _).setCell (by show w.heap.size + 1 < _; omega) _).setCell (by show w.heap.size + 1 < _; omega) _)) (by omega)
      · exact ((((hE1.trans he).setCell (by simp) _).setCell (by simp) _).setCell (by simp) _)
end Go.Proofs.YtolkohncmidpeaaGreatDoor
namespace Go.Proofs.YtolkohncmidpeaaGreatDoor
open Go.RowKit
set_option linter.unusedVariables false
attribute [local go_sem ↓] Go.wp_at_zero Go.wp_at_succ
def l1CopyC (t : Tr) : Prop := ∀ (w : World) (v : Value), Lies w t v → cnt t ≤ 1000000 →
  Calls Tryz.prog 96 #[v] w fun e w' => ∃ u, e = .returned u ∧ Made w w' 45 t u ∧ Ext w w'
theorem infoPTerm : (Tryz.prog.info? 45).map (fun i => (i.zero, i.size, i.bytes)) = some (some (.agg #[.int .i64 0, .int .i64 0, .slice none 0 0]), 3, 40) := by kernel_rfl
set_option maxRecDepth 100000 in
set_option maxHeartbeats 2000000 in
theorem l1Copy_any : ∀ t : Tr, l1CopyC t := Tr.ind fun k n ks hk => by
  intro w v hin hcnt
  obtain ⟨A, cap, rfl, hl, hc, hK⟩ := Lies.mk_iff.1 hin
  obtain ⟨i0, hi, hz0, hz1, hz2⟩ := info_parts infoPTerm
  have hcc := hc
  unfold maxLen at hcc
  simp only [cnt] at hcnt
  have hlc := len_le_cnts ks
  go_enter Tryz.func96, Tryz.ntmps96
  go_wp2_with fail
  obtain ⟨w1, hw1⟩ : ∃ w1, w1 = (w.alloc (.cells #[.int .i64 k, .int .i64 n, .slice A ks.length cap] 45)).alloc (.cells #[.int .i64 0, .int .i64 0, .slice none 0 0] 45) := ⟨_, rfl⟩
  obtain ⟨W, hW⟩ : ∃ W, W = w1.alloc (.cells #[.int .i64 k, .int .i64 n, .slice none 0 0] 45) := ⟨_, rfl⟩
  have hs1 : w1.heap.size = w.heap.size + 1 + 1 := by rw [hw1]; simp
  have hsW : W.heap.size = w.heap.size + 3 := by rw [hW]; simp; omega
  have hE1 : Ext w w1 := hw1 ▸ ((Ext.refl w).alloc _).alloc _
  have hEW : Ext w1 W := hW ▸ (Ext.refl w1).alloc _
  have hbR : w1.heap[w.heap.size + 1]? = some (.cells #[.int .i64 0, .int .i64 0, .slice none 0 0] 45 (0, 0)) := by
    rw [hw1]; exact (blk2 (Ext.refl _)).2.1
  have hbO : W.heap[w.heap.size + 1 + 1]? = some (.cells #[.int .i64 k, .int .i64 n, .slice none 0 0] 45 (0, 0)) := by
    have := heap_alloc_new w1 (.cells #[.int .i64 k, .int .i64 n, .slice none 0 0] 45)
    rw [hs1] at this
    rw [hW]
    exact this
  have hbT : w1.heap[w.heap.size]? = some (.cells #[.int .i64 k, .int .i64 n, .slice A ks.length cap] 45 (0, 0)) := by
    rw [hw1]; exact (blk2 (Ext.refl _)).1
  rw [← hw1, ← hW]
  clear hW hw1
  go_loopw [4] (fun i wr => ∃ (j : Nat) (v : Value), j ≤ ks.length ∧ i = .int .i64 j ∧ wr.heap[w.heap.size + 1 + 1]? = some (.cells #[.int .i64 k, .int .i64 n, v] 45 (0, 0)) ∧ Grow W wr 45 v (ks.take j) ∧ Ext w1 wr ∧ W.heap.size ≤ wr.heap.size) (fun i _ => ks.length - (intOf i).toNat)
  case atStart => exact ⟨0, _, Nat.zero_le _, rfl, hbO, Grow.nil _ _ _, hEW, Nat.le_refl _⟩
  case round =>
    obtain ⟨j, v, hj, rfl, hbv, hG, he, hle⟩ := hrel
    by_cases hlt : j < ks.length
    · obtain ⟨b, o, k', n', A', cap', kids, rfl, HK, c0, c1, c2, hkl, hkc, hK', hin', hmem⟩ := hK.get (hE1.trans he) hlt
      have htk := List.take_append_getElem hlt
      rw [HK.out] at htk
      have hcm := cnt_mem hmem
      have hlen : (ks.take j).length < 1099511627776 := by rw [List.length_take]; omega
      have hlj : (ks.take j).length = j := by rw [List.length_take]; omega
      have HL := Lib.hid hlj
      have hbT2 := he.blk hbT
      obtain ⟨-, -, t2, -, -, -⟩ := own3 hbT2
      have hj' : (j : Int) < (ks.length : Int) := by omega
      go_wp2_with fail
      have hle2 := hle
      have hG2 := hG
      have hbv2 := hbv
      have hv := cell_of_blk hbv2 2
      have hcells : ∀ w', Below W.heap.size wr w' → w'.heap[w.heap.size + 1 + 1]? = some (.cells #[.int .i64 k, .int .i64 n, v] 45 (0, 0)) := fun w' hB => (hB.block (w.heap.size + 1 + 1) (by omega)).trans hbv2
      have HCells := Lib.hid hcells
      have hEd : Ext wr wr.drew := (Ext.refl wr).drew
      have hinD := hin'.ext hEd
      have he2 := he
      clear hcells hlj hbv hG he hle hcc
      go_region_law (first | (go_simp; go_at_call 96; refine (hk _ hmem _ _ hinD (by omega)).mono ?_; rintro e w4 ⟨u, rfl, hM, h4⟩; obtain ⟨a1, a2, a3, a4, a5, rfl⟩ := hM.three'; have hv4 := cell_of_blk (HCells.out _ ((hEd.trans h4).below hle2)) 2; have hs4 := World.block_lt_of_cell? _ _ hv4) | (refine step_append_tree _ (by rfl) (.tmp 18) (.tmp 25) _ (by rfl) 45 i0 _ Tryz.underlying43 hi hz0 hz1 hz2 rfl (by rfl) hG2 hle2 (hEd.trans h4) (hM.since (Nat.le_refl _)) ((Ext.refl _).alloc _) (by rfl) (heap_alloc_new _ _) hlen ?_; intro v' w5 hG5 hB5; obtain ⟨B5, c5, rfl, q1, q2, -⟩ := hG5.made; have hv5 := cell_of_blk (HCells.out _ hB5) 2; have hf5 := frozen_of_blk (HCells.out _ hB5) 2))
      all_goals (
        have hE5 : Ext w1 w5 := he2.trans' hB5 (by omega)
        have hs5 := hB5.size
        have hb6 := HCells.out _ hB5
        rw [List.length_append, List.length_singleton, htk, show (ks.take j).length + 1 = min (j + 1) ks.length from by rw [List.length_take]; omega] at hG5
        have hGs := fun u => hG5.after ((Above.refl W.heap.size w5).setCell (p := ⟨w.heap.size + 1 + 1, 2, none⟩) (by show w.heap.size + 1 + 1 < W.heap.size; omega) u)
        clear hv4 hs4 hv HCells hM h4 c0 c1 c2 t2
        go_wp2_with fail
        go_roundw
        case rel => exact ⟨j + 1, _, by omega, by go_num, blk_setCell hb6 2 _, hGs _, hE5.setCell (by show _ ≤ w.heap.size + 1 + 1; omega) _, by simp; omega⟩
        case measure => simp [intOf]; omega)
    · obtain ⟨B5, c5, rfl, q1, q2, hMK⟩ := hG.made
      have hjl : j = ks.length := by omega
      have hln : (ks.take j).length = ks.length := by rw [hjl, List.take_length]
      obtain ⟨r0, r1, r2, -, -, -⟩ := own3 hbv
      have hbT2 := he.blk hbT
      obtain ⟨-, -, t2, -, -, -⟩ := own3 hbT2
      have hbR' := he.blk hbR
      obtain ⟨s0, s1, s2, f0, f1, f2⟩ := own3 hbR'
      rw [hln] at q1 r2
      rw [show ks.take j = ks from by rw [hjl, List.take_length]] at hMK
      clear hln hbv
      go_wp2_with fail
      refine bodyPost_ret (v := .agg #[.int .i64 k, .int .i64 n, .slice B5 ks.length c5]) (by simp [results, Tryz.results96, go_sem, s0, s1, s2]) rfl ⟨_, rfl, ?_, ?_⟩
      · exact Made.since (Made.after (Made.mk q1 q2 hMK) ((((Above.refl _ _).setCell (by show w.heap.size + 1 < _; omega) _).setCell (by show w.heap.size + 1 < _; omega) _).setCell (by show w.heap.size + 1 < _; omega) _)) (by omega)
      · exact ((((hE1.trans he).setCell (by simp) _).setCell (by simp) _).setCell (by simp) _)
end Go.Proofs.YtolkohncmidpeaaGreatDoor
namespace Go.Proofs.YtolkohncmidpeaaGreatDoor
open Go.RowKit
set_option linter.unusedVariables false
attribute [local go_sem ↓] Go.wp_at_zero Go.wp_at_succ
/-- v is a slice of trees that was built by append since W; the trees' rows are older than W. -/
def GrowO (W w : World) (e : TypeId) (v : Value) (ks : List Tr) : Prop := ∃ xs, w.ownsRow W.heap.size e 3 v ks.length xs ∧ RowL w (fun b => b < W.heap.size) xs ks
theorem GrowO.nil (W w : World) (e : TypeId) : GrowO W w e (.slice none 0 0) [] := ⟨[], World.ownsRow_nil _ _ _ _, RowL.nil⟩
theorem GrowO.ext {W w w' : World} {e : TypeId} {v : Value} {ks : List Tr} (h : GrowO W w e v ks) (hW : W.heap.size ≤ w.heap.size) (he : Ext w w') : GrowO W w' e v ks := by
  obtain ⟨xs, h1, h2⟩ := h
  exact ⟨xs, ownsRow_same h1 (fun g hg => he.heap g (h1.lt g hg).2), h2.mono (fun _ h => h) (fun b hb => he.heap b (Nat.lt_of_lt_of_le hb hW))⟩
theorem GrowO.set {W w : World} {e : TypeId} {v : Value} {ks : List Tr} (h : GrowO W w e v ks) {p : Addr} (hp : v.ownBlock ≠ some p.block) (hW : W.heap.size ≤ p.block) (u : Value) : GrowO W (w.setCell p u) e v ks := by
  obtain ⟨xs, h1, h2⟩ := h
  exact ⟨xs, ownsRow_same h1 (fun g hg => Below.heap_setCell w p u g (fun e => hp (by rw [← e]; exact hg))), h2.mono (fun _ h => h) (fun b hb => Below.heap_setCell w p u b (by omega))⟩
theorem GrowO.form {W w : World} {e : TypeId} {v : Value} {ks : List Tr} (h : GrowO W w e v ks) : ∃ B c, v = .slice B ks.length c := by
  obtain ⟨xs, h1, h2⟩ := h
  rcases h1.2 with ⟨rfl, h0⟩ | ⟨g, cap, cur, rfl, _⟩
  · exact ⟨none, 0, by rw [h0]⟩
  · exact ⟨_, cap, rfl⟩
theorem GrowO.lt {W w : World} {e : TypeId} {v : Value} {ks : List Tr} (h : GrowO W w e v ks) {g : Nat} (hg : v.ownBlock = some g) : W.heap.size ≤ g ∧ g < w.heap.size := by
  obtain ⟨xs, h1, h2⟩ := h
  exact h1.lt g hg
/-- A tree whose rows are older than block B, stored into a box of its own. -/
theorem atT_step {k n i : Int} {ks : List Tr} {q : List Int} : atT (.mk k n ks) (i :: q) = if 0 ≤ i ∧ i < ks.length then atT (kd ks i.toNat) q else none := by rw [atT]
end Go.Proofs.YtolkohncmidpeaaGreatDoor
namespace Go.Proofs.YtolkohncmidpeaaGreatDoor
open Go.RowKit
set_option linter.unusedVariables false
theorem InK.two {w : World} {S : Nat → Prop} {e : TypeId} {t t' : Tr} {v0 v1 v2 u0 u1 u2 : Value} {g : Nat} (h : InT w S t (.agg #[v0, v1, v2])) (h' : InT w S t' (.agg #[u0, u1, u2])) (hg : w.heap[g]? = some (.cells #[v0, v1, v2, u0, u1, u2] e (0, 0))) (hS : S g) : InK w S (some ⟨g, 0, none⟩) [t, t'] := by
  refine .inr ⟨g, 0, rfl, hS, ?_⟩
  unfold InL
  refine ⟨⟨v0, v1, v2, cell_of_blk hg 0, cell_of_blk hg 1, cell_of_blk hg 2, h⟩, ?_⟩
  unfold InL
  refine ⟨⟨u0, u1, u2, cell_of_blk hg 3, cell_of_blk hg 4, cell_of_blk hg 5, h'⟩, ?_⟩
  unfold InL
  trivial
theorem InK.three {w : World} {S : Nat → Prop} {e : TypeId} {t t' t2 : Tr} {v0 v1 v2 u0 u1 u2 x0 x1 x2 : Value} {g : Nat} (h : InT w S t (.agg #[v0, v1, v2])) (h' : InT w S t' (.agg #[u0, u1, u2])) (h2 : InT w S t2 (.agg #[x0, x1, x2])) (hg : w.heap[g]? = some (.cells #[v0, v1, v2, u0, u1, u2, x0, x1, x2] e (0, 0))) (hS : S g) : InK w S (some ⟨g, 0, none⟩) [t, t', t2] := by
  refine .inr ⟨g, 0, rfl, hS, ?_⟩
  unfold InL
  refine ⟨⟨v0, v1, v2, cell_of_blk hg 0, cell_of_blk hg 1, cell_of_blk hg 2, h⟩, ?_⟩
  unfold InL
  refine ⟨⟨u0, u1, u2, cell_of_blk hg 3, cell_of_blk hg 4, cell_of_blk hg 5, h'⟩, ?_⟩
  unfold InL
  refine ⟨⟨x0, x1, x2, cell_of_blk hg 6, cell_of_blk hg 7, cell_of_blk hg 8, h2⟩, ?_⟩
  unfold InL
  trivial
theorem InT.three {w : World} {S : Nat → Prop} {t : Tr} {u : Value} (h : InT w S t u) : ∃ k n A l c, u = .agg #[.int .i64 k, .int .i64 n, .slice A l c] := by
  obtain ⟨k, n, ks⟩ := t
  obtain ⟨A, cap, rfl, _⟩ := InT.mk_iff.1 h
  exact ⟨k, n, A, _, cap, rfl⟩
/-- What came into being since W, in a later world. -/
theorem New.to {W w w1 w2 : World} {t : Tr} {v : Value} (h : New w w1 t v) (he : Ext w1 w2) (hW : W.heap.size ≤ w.heap.size) {S : Nat → Prop} (hS : ∀ b, W.heap.size ≤ b → b < w1.heap.size → S b) : InT w2 S t v :=
  h.mono (fun b hb => hS b (Nat.le_trans hW hb.1) hb.2) (fun b hb => he.heap b hb.2)
end Go.Proofs.YtolkohncmidpeaaGreatDoor
namespace Go.Proofs.YtolkohncmidpeaaGreatDoor
open Go.RowKit
set_option linter.unusedVariables false
attribute [local go_sem ↓] Go.wp_at_zero Go.wp_at_succ
theorem atT_cnt : ∀ (a : List Int) (t u : Tr), atT t a = some u → cnt u ≤ cnt t
  | [], t, u, e => by
    have e : t = u := by cases t; simpa [atT] using e
    subst e
    exact Nat.le_refl _
  | i :: a, .mk k n ks, u, e => by
    rw [atT] at e
    split at e
    · rename_i hi
      have h1 := atT_cnt a _ u e
      have h2 := cnt_mem (kd_mem (ks := ks) (i := i.toNat) (by omega))
      rw [cnt]
      omega
    · cases e
end Go.Proofs.YtolkohncmidpeaaGreatDoor
namespace Go.Proofs.YtolkohncmidpeaaGreatDoor
open Go.RowKit
set_option linter.unusedVariables false
/-- The index of the first that meets p, or -1. -/
def firstIx (p : Tr → Bool) : List Tr → Nat → Int
  | [], _ => -1
  | t :: ts, j => if p t = true then (j : Int) else firstIx p ts (j + 1)
theorem firstIx_spec (p : Tr → Bool) : ∀ (ts : List Tr) (j : Nat), decide (0 ≤ firstIx p ts j) = ts.any p
  | [], j => by simp [firstIx]
  | t :: ts, j => by
    unfold firstIx
    cases h : p t
    · simp [h, firstIx_spec p ts (j + 1)]
    · simp [h]
end Go.Proofs.YtolkohncmidpeaaGreatDoor

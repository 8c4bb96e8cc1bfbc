/-
  Lemmas towards the law, 36: Paths, Places, Places2, Places3, Walked, SpExtract, Walked2.
-/
import Derived.Test.YtappakllopkfiaaZAC
import Derived.Test.YtappakllopkfiaaZAD
import Derived.Test.YtappakllopkfiaaZAF
import Derived.Test.YtappakllopkfiaaZAG
import Derived.Test.YtappakllopkfiaaZAI
import Derived.Test.YtappakllopkfiaaZAM
import Derived.Test.YtappakllopkfiaaZAT
import Derived.Test.YtappakllopkfiaaZAU
import Derived.Test.YtappakllopkfiaaZBB
import Derived.Test.YtappakllopkfiaaZBI
import Derived.Deep.RegionHeld3
import Derived.Deep.RegionHeldLaw
import Derived.Laws.OwnMore
import Derived.Lib.SliceRun
namespace Go.Proofs.Ytappakllopkfiaa
open Go.RowKit
set_option linter.unusedVariables false
/-- A slice of numbers in a block of S (or nil). -/
def PathAt (w : World) (S : Nat → Prop) (u : Value) (p : List Int) : Prop :=
  (u = .slice none 0 0 ∧ p = []) ∨ ∃ b o c, u = .slice (some ⟨b, o, none⟩) p.length c ∧ p.length ≤ c ∧ c ≤ maxLen ∧ S b ∧ ∀ j (h : j < p.length), w.cell? ⟨b, o + j, none⟩ = some (.int .i64 p[j])
theorem PathAt.mono {w w' : World} {S S' : Nat → Prop} {u : Value} {p : List Int} (hS : ∀ b, S b → S' b) (hw : ∀ b, S b → w'.heap[b]? = w.heap[b]?) (h : PathAt w S u p) : PathAt w' S' u p := by
  rcases h with h | ⟨b, o, c, rfl, h1, h2, h3, h4⟩
  · exact .inl h
  · exact .inr ⟨b, o, c, rfl, h1, h2, hS b h3, fun j hj => (World.cell?_of_block (w := w) (a := ⟨b, o + j, none⟩) (hw b h3)).trans (h4 j hj)⟩
theorem PathAt.slice {w : World} {S : Nat → Prop} {u : Value} {p : List Int} (h : PathAt w S u p) (hS : ∀ b, S b → b < w.heap.size) : ∃ A c, u = .slice A p.length c ∧ p.length ≤ c ∧ c ≤ maxLen ∧ Nums w A p := by
  rcases h with ⟨rfl, rfl⟩ | ⟨b, o, c, rfl, h1, h2, h3, h4⟩
  · exact ⟨none, 0, rfl, Nat.le_refl _, Nat.zero_le _, .inl rfl⟩
  · exact ⟨_, c, rfl, h1, h2, .inr ⟨b, o, rfl, hS b h3, h4⟩⟩
/-- A row of ints of the call's own is a path. -/
theorem ownsRow_path {w : World} {base : Nat} {e : TypeId} {v : Value} {p : List Int} (h : w.ownsRow base e 1 v p.length (p.map (Value.int .i64))) : PathAt w (fun b => base ≤ b ∧ b < w.heap.size ∧ v.ownBlock = some b) v p := by
  have hcl := fun g hg => h.cells (g := g) hg
  rcases h.2 with ⟨rfl, h0⟩ | ⟨g, c, cur, rfl, hb, hg, hn, hm, hcs, ht⟩
  · exact .inl ⟨rfl, List.eq_nil_of_length_eq_zero h0⟩
  · refine .inr ⟨g, 0, c, rfl, hn, hm, ⟨hb, lt_of_blk hg, rfl⟩, fun j hj => ?_⟩
    have := hcl g rfl j (.int .i64 p[j]) (by rw [List.getElem?_map, List.getElem?_eq_getElem hj]; rfl)
    rwa [Addr.add_lit] at this
def RowP (w : World) (S : Nat → Prop) (xs : List Value) (ps : List (List Int)) : Prop := xs.length = ps.length ∧ ∀ (j : Nat) (u : Value) (p : List Int), xs[j]? = some u → ps[j]? = some p → PathAt w S u p
theorem RowP.mono {w w' : World} {S S' : Nat → Prop} {xs : List Value} {ps : List (List Int)} (hS : ∀ b, S b → S' b) (hw : ∀ b, S b → w'.heap[b]? = w.heap[b]?) (h : RowP w S xs ps) : RowP w' S' xs ps :=
  ⟨h.1, fun j u p h1 h2 => (h.2 j u p h1 h2).mono hS hw⟩
theorem RowP.append {w : World} {S : Nat → Prop} {xs ys : List Value} {ps qs : List (List Int)} (h : RowP w S xs ps) (k : RowP w S ys qs) : RowP w S (xs ++ ys) (ps ++ qs) := by
  refine ⟨by simp [h.1, k.1], fun j u p h1 h2 => ?_⟩
  by_cases hj : j < xs.length
  · rw [List.getElem?_append_left hj] at h1
    rw [List.getElem?_append_left (by have := h.1; omega)] at h2
    exact h.2 j u p h1 h2
  · rw [List.getElem?_append_right (by omega)] at h1
    rw [List.getElem?_append_right (by have := h.1; omega)] at h2
    exact k.2 (j - xs.length) u p h1 (by rw [h.1]; exact h2)
theorem RowP.one {w : World} {S : Nat → Prop} {u : Value} {p : List Int} (h : PathAt w S u p) : RowP w S [u] [p] := by
  refine ⟨rfl, fun j u' p' h1 h2 => ?_⟩
  match j, h1, h2 with
  | 0, h1, h2 =>
    simp at h1 h2
    subst h1 h2
    exact h
  | j + 1, h1, h2 => simp at h1
/-- v is a slice of places that was built by append since W; the places are no older. -/
def GrowP (W w : World) (e : TypeId) (v : Value) (ps : List (List Int)) : Prop :=
  ∃ xs, w.ownsRow W.heap.size e 1 v ps.length xs ∧ RowP w (fun b => W.heap.size ≤ b ∧ b < w.heap.size ∧ v.ownBlock ≠ some b) xs ps
theorem GrowP.nil (W w : World) (e : TypeId) : GrowP W w e (.slice none 0 0) [] := ⟨[], World.ownsRow_nil _ _ _ _, rfl, fun j u p h => by simp at h⟩
theorem GrowP.lit {W w : World} {e : TypeId} {g : Nat} (hg : w.heap[g]? = some (.cells #[] e (0, 0))) (hW : W.heap.size ≤ g) : GrowP W w e (.slice (some ⟨g, 0, none⟩) 0 0) [] :=
  ⟨[], ⟨rfl, .inr ⟨g, 0, #[], rfl, hW, hg, Nat.le_refl _, Nat.zero_le _, rfl, rfl⟩⟩, rfl, fun j u p h => by simp at h⟩
theorem ownsRow_same1 {w w' : World} {base n' : Nat} {e : TypeId} {v : Value} {n : Nat} {xs : List Value} (h : w.ownsRow base e n' v n xs) (hb : ∀ g, v.ownBlock = some g → w'.heap[g]? = w.heap[g]?) : w'.ownsRow base e n' v n xs := by
  refine ⟨h.1, ?_⟩
  rcases h.2 with h | ⟨g, cap, cur, rfl, h1, h2, r⟩
  · exact .inl h
  · exact .inr ⟨g, cap, cur, rfl, h1, (hb g rfl).trans h2, r⟩
theorem GrowP.same {W w w' : World} {e : TypeId} {v : Value} {ps : List (List Int)} (h : GrowP W w e v ps) (hs : w.heap.size ≤ w'.heap.size) (hw : ∀ b, W.heap.size ≤ b → b < w.heap.size → w'.heap[b]? = w.heap[b]?) : GrowP W w' e v ps := by
  obtain ⟨xs, h1, h2⟩ := h
  exact ⟨xs, ownsRow_same1 h1 (fun g hg => hw g (h1.lt g hg).1 (h1.lt g hg).2), h2.mono (fun b hb => ⟨hb.1, Nat.lt_of_lt_of_le hb.2.1 hs, hb.2.2⟩) (fun b hb => hw b hb.1 hb.2.1)⟩
theorem GrowP.ext {W w w' : World} {e : TypeId} {v : Value} {ps : List (List Int)} (h : GrowP W w e v ps) (he : Ext w w') : GrowP W w' e v ps := h.same he.size (fun b _ hb => he.heap b hb)
theorem GrowP.since {W W' w : World} {e : TypeId} {v : Value} {ps : List (List Int)} (h : GrowP W w e v ps) (hs : W'.heap.size ≤ W.heap.size) : GrowP W' w e v ps := by
  obtain ⟨xs, h1, h2⟩ := h
  refine ⟨xs, ⟨h1.1, ?_⟩, h2.mono (fun b hb => ⟨Nat.le_trans hs hb.1, hb.2⟩) (fun _ _ => rfl)⟩
  rcases h1.2 with h | ⟨g, cap, cur, rfl, h1, r⟩
  · exact .inl h
  · exact .inr ⟨g, cap, cur, rfl, Nat.le_trans hs h1, r⟩
theorem GrowP.lt {W w : World} {e : TypeId} {v : Value} {ps : List (List Int)} (h : GrowP W w e v ps) {g : Nat} (hg : v.ownBlock = some g) : W.heap.size ≤ g ∧ g < w.heap.size := by
  obtain ⟨xs, h1, h2⟩ := h
  exact h1.lt g hg
theorem GrowP.slice {W w : World} {e : TypeId} {v : Value} {ps : List (List Int)} (h : GrowP W w e v ps) : ∃ A cap, v = .slice A ps.length cap ∧ ps.length ≤ cap ∧ cap ≤ maxLen ∧ (ps = [] ∨ ∃ b, A = some ⟨b, 0, none⟩) ∧ ∀ j (hj : j < ps.length), ∃ b u, A = some ⟨b, 0, none⟩ ∧ w.cell? ⟨b, j, none⟩ = some u ∧ PathAt w (fun b => W.heap.size ≤ b ∧ b < w.heap.size ∧ v.ownBlock ≠ some b) u ps[j] := by
  obtain ⟨xs, h1, h2⟩ := h
  have hcl := fun g hg => h1.cells (g := g) hg
  rcases h1.2 with ⟨rfl, h0⟩ | ⟨g, c, cur, rfl, hb, hg, hn, hm, hcs, ht⟩
  · refine ⟨none, 0, by rw [h0], by omega, Nat.zero_le _, .inl (List.eq_nil_of_length_eq_zero h0), fun j hj => by omega⟩
  · refine ⟨_, c, rfl, hn, hm, .inr ⟨g, rfl⟩, fun j hj => ?_⟩
    have hj' : j < xs.length := by rw [h2.1]; exact hj
    have h3 := hcl g rfl j xs[j] (List.getElem?_eq_getElem hj')
    rw [Addr.add_lit, Nat.zero_add] at h3
    exact ⟨g, _, rfl, h3, h2.2 j _ _ (List.getElem?_eq_getElem hj') (List.getElem?_eq_getElem hj)⟩
theorem Only.widen {L M : List Nat} {a w w' : World} (h : Only L a w) (k : Only M w w') (hM : ∀ b, b ∈ M → b ∈ L ∨ a.heap.size ≤ b) : Only L a w' :=
  ⟨k.os.trans h.os, k.tape.trans h.tape, k.output.trans h.output, Nat.le_trans h.size k.size, fun i hi hn => (k.block i (Nat.lt_of_lt_of_le hi h.size) (fun hm => by rcases hM i hm with h1 | h1; exact hn h1; omega)).trans (h.block i hi hn)⟩
/-- 'append(lit, path...)': a copy of a place behind a row of ints of the call's own. -/
theorem wp_append_ints {P : Program} (w : World) {o : Oper} {a : Act} {K : Act → World → Prop} {Q : Exit → Act → World → Prop} (s x : Operand) (t : TypeId)
    (ho : o.op = .call { callee := .builtin .append, args := #[s, x], argTypes := #[t, t] })
    (base : Nat) (e : TypeId) (i : TypeInfo) (z : Value) (bytes : Nat) (ht : P.underlying t = some (.slice e)) (hi : P.info? e = some i) (hz : i.zero = some z) (hsize : i.size = 1) (hby : i.bytes = bytes) (hb8 : bytes ≤ 64) (hzs : z.cells.size = 1)
    {v u : Value} {ns p : List Int} {S : Nat → Prop} (hs : a.eval s = v) (hG : w.ownsRow base e 1 v ns.length (ns.map (Value.int .i64))) (hW : base ≤ w.heap.size)
    (hx : a.eval x = u) (hu : PathAt w S u p) (hn : ns.length + p.length < 1099511627776)
    (h : ∀ v' w', w'.ownsRow base e 1 v' (ns ++ p).length ((ns ++ p).map (Value.int .i64)) → w.grownBy w' v.ownBlock → (∀ g, v'.ownBlock = some g → v.ownBlock = some g ∨ w.heap.size ≤ g) → K (a.put o.dst v') w') : o.wp P a w K Q := by
  rcases hu with ⟨rfl, rfl⟩ | ⟨b, o', c, rfl, h1, h2, h3, h4⟩
  · have hr := run_append_owned_none (P := P) (w := w) base t o.type e i 1 ht hi v ns.length _ hG
    unfold Oper.wp execOp
    simp only [ho, resolve, invoke, builtin, Sem.run_bind, Sem.run_pure, Result.andThen_ok, List.map_toArray, List.map_cons, List.map_nil, hs, hx, hr]
    exact (h v w (by simpa using hG) ⟨rfl, rfl, rfl, Nat.le_refl _, fun _ _ _ => rfl⟩ (fun g hg => .inl hg))
  · have hbb : (ns.length + p.length) * bytes ≤ 140737488355328 := Nat.le_trans (Nat.mul_le_mul (show ns.length + p.length ≤ 1099511627776 by omega) hb8) (by decide)
    obtain ⟨v', w', hr, r1, r2, r3⟩ := run_append_own' (P := P) w base t o.type e i z 1 bytes ht hi hz hsize hby hzs (by decide) v ns.length _ hG ⟨b, o', none⟩ p.length c (p.map (Value.int .i64)) (by simp)
      (fun j y hy => by
        rw [Addr.add_lit]
        rw [List.getElem?_map] at hy
        by_cases hj : j < p.length
        · rw [List.getElem?_eq_getElem hj] at hy
          rw [h4 j hj]
          exact hy
        · rw [List.getElem?_eq_none (by omega)] at hy
          cases hy)
      (fun y hy => by obtain ⟨n, _, rfl⟩ := List.mem_map.1 hy; rfl) (by unfold maxLen; omega) hbb hW
    unfold Oper.wp execOp
    simp only [ho, resolve, invoke, builtin, Sem.run_bind, Sem.run_pure, Result.andThen_ok, List.map_toArray, List.map_cons, List.map_nil, hs, hx, hr]
    exact (h v' w' (by simpa using r1) r2 r3)
theorem wpList_append_ints {P : Program} (w : World) {ops : Array Oper} {rest : List Oper} {o : Oper} {a : Act} {Q : Exit → Act → World → Prop} (hgd : o.guard = none) (s x : Operand) (t : TypeId)
    (ho : o.op = .call { callee := .builtin .append, args := #[s, x], argTypes := #[t, t] })
    (base : Nat) (e : TypeId) (i : TypeInfo) (z : Value) (bytes : Nat) (ht : P.underlying t = some (.slice e)) (hi : P.info? e = some i) (hz : i.zero = some z) (hsize : i.size = 1) (hby : i.bytes = bytes) (hb8 : bytes ≤ 64) (hzs : z.cells.size = 1)
    {v u : Value} {ns p : List Int} {S : Nat → Prop} (hs : a.eval s = v) (hG : w.ownsRow base e 1 v ns.length (ns.map (Value.int .i64))) (hW : base ≤ w.heap.size)
    (hx : a.eval x = u) (hu : PathAt w S u p) (hn : ns.length + p.length < 1099511627776)
    (h : ∀ v' w', w'.ownsRow base e 1 v' (ns ++ p).length ((ns ++ p).map (Value.int .i64)) → w.grownBy w' v.ownBlock → (∀ g, v'.ownBlock = some g → v.ownBlock = some g ∨ w.heap.size ≤ g) → wpList P ops Q rest (a.put o.dst v') w') : wpList P ops Q (o :: rest) a w :=
  wpList_plain hgd fun K hK => wp_append_ints w s x t ho base e i z bytes ht hi hz hsize hby hb8 hzs hs hG hW hx hu hn (fun v' w' h1 h2 h3 => hK _ _ (h v' w' h1 h2 h3))
end Go.Proofs.Ytappakllopkfiaa
namespace Go.Proofs.Ytappakllopkfiaa
open Go.RowKit
set_option linter.unusedVariables false
attribute [local go_sem ↓] Go.wp_at_zero Go.wp_at_succ
theorem ownsRow_since {w : World} {base base' k n : Nat} {e : TypeId} {v : Value} {xs : List Value} (h : w.ownsRow base e k v n xs) (hb : base' ≤ base) : w.ownsRow base' e k v n xs := by
  refine ⟨h.1, ?_⟩
  rcases h.2 with h | ⟨g, cap, cur, rfl, h1, r⟩
  · exact .inl h
  · exact .inr ⟨g, cap, cur, rfl, Nat.le_trans hb h1, r⟩
/-- A place that lies in w. -/
def PathL (w : World) (u : Value) (p : List Int) : Prop := PathAt w (fun b => b < w.heap.size) u p
theorem PathL.ext {w w' : World} {u : Value} {p : List Int} (h : PathL w u p) (he : Ext w w') : PathL w' u p := h.mono (fun b hb => Nat.lt_of_lt_of_le hb he.size) (fun b hb => he.heap b hb)
theorem ownsRow_pathL {w : World} {base : Nat} {e : TypeId} {v : Value} {p : List Int} (h : w.ownsRow base e 1 v p.length (p.map (Value.int .i64))) : PathL w v p := (ownsRow_path h).mono (fun b hb => hb.2.1) (fun _ _ => rfl)
theorem infoIntP : (Try.prog.info? 3).map (fun i => (i.zero, i.size, i.bytes)) = some (some (.int .i64 0), 1, 8) := by kernel_rfl
theorem Ext.ownsRow {w w' : World} {base n : Nat} {e : TypeId} {k : Nat} {v : Value} {xs : List Value} (he : Ext w w') (h : w.ownsRow base e k v n xs) : w'.ownsRow base e k v n xs := ownsRow_same1 h (fun g hg => he.heap g (h.lt g hg).2)
end Go.Proofs.Ytappakllopkfiaa
namespace Go.Proofs.Ytappakllopkfiaa
open Go.RowKit
set_option linter.unusedVariables false
attribute [local go_sem ↓] Go.wp_at_zero Go.wp_at_succ
theorem cnt_of_valid {t : Tr} (h : valid sigT t = true) : cnt t ≤ 400 ∧ shape sigT t 30 = true := by
  unfold valid at h
  rw [Bool.and_eq_true] at h
  exact ⟨of_decide_eq_true h.2, h.1⟩
end Go.Proofs.Ytappakllopkfiaa
namespace Go.Proofs.Ytappakllopkfiaa
open Go.RowKit
set_option linter.unusedVariables false
attribute [local go_sem ↓] Go.wp_at_zero Go.wp_at_succ
def outP (t : Tr) : List Int := (outT t).getD []
def OutC (t : Tr) : Prop := ∀ (w : World) (v : Value) (d : Int), shape sigT t d = true → Lies w t v → d ≤ 1000 → Calls Try.prog 92 #[v] w fun e w' => ∃ x, e = .returned (.tuple #[x, .bool (outT t).isSome]) ∧ w'.ownsRow w.heap.size 3 1 x (outP t).length ((outP t).map (Value.int .i64)) ∧ Ext w w'
set_option maxRecDepth 100000 in
set_option maxHeartbeats 2000000 in
theorem outer_any : ∀ t : Tr, OutC t := Tr.ind fun k n ks hk => by
  intro w v d hsh hin hd
  have HR := Lib.hid (fun V (hV : Ext w V) => redex_any (.mk k n ks) d hsh V v (hin.ext hV))
  have hol := outT_len (.mk k n ks) d hsh
  obtain ⟨-, -, -, hsk⟩ := shape_kids hsh
  obtain ⟨A, cap, rfl, hl, hc, hK⟩ := Lies.mk_iff.1 hin
  obtain ⟨i0, hi, hz0, hz1, hz2⟩ := info_parts infoIntP
  have hcc := hc
  unfold maxLen at hcc
  have ho : outT (.mk k n ks) = if rdx k ks = 0 then outTs 0 ks else some [] := by rw [outT]
  have hx0 := (Ext.refl w).alloc (.cells #[.int .i64 k, .int .i64 n, .slice A ks.length cap] 44)
  have hbB := heap_alloc_new w (.cells #[.int .i64 k, .int .i64 n, .slice A ks.length cap] 44)
  obtain ⟨r, hr⟩ : ∃ r, rdx k ks = r := ⟨_, rfl⟩
  have HR2 := Lib.hid (show ∀ V, Ext w V → Calls Try.prog 88 #[.agg #[.int .i64 k, .int .i64 n, .slice A ks.length cap]] V fun e w' => e = .returned (.int .i64 r) ∧ Ext V w' from fun V hV => by have := HR.out V hV; rw [show rdxT (.mk k n ks) = r from hr] at this; exact this)
  rw [hr] at ho
  clear hr HR
  by_cases h0 : r = 0
  · rw [if_pos h0] at ho
    have hb0 : (r != 0) = false := by rw [h0]; rfl
    subst h0
    have HO := Lib.hid ho
    clear ho hin
    go_enter Try.func92, Try.ntmps92
    go_wp2_with fail
    refine (HR2.out _ hx0).mono ?_
    rintro e w1 ⟨rfl, h1⟩
    obtain ⟨z0, z1, z2, -, -, -⟩ := own3 (h1.blk hbB)
    have lz := lt_of_blk (h1.blk hbB)
    have hx1 := hx0.trans h1
    clear hbB h1 hx0 HR2
    go_wp2_with fail
    clear z0 z1 z2 lz
    go_loopw [14] (fun i wr => ∃ (j : Nat), j ≤ ks.length ∧ i = .int .i64 j ∧ Hid (outTs 0 ks = outTs j (ks.drop j)) ∧ Ext w wr) (fun i _ => ks.length - (intOf i).toNat)
    case atStart => exact ⟨0, Nat.zero_le _, rfl, Lib.hid rfl, hx1⟩
    case round =>
      obtain ⟨j, hj', rfl, HE, hx⟩ := hrel
      by_cases hlt : j < ks.length
      · obtain ⟨b, o, k', n', A', cap', kids, rfl, HK, c0, c1, c2, hkl, hkc, hK', hin', hmem⟩ := hK.get hx hlt
        have hst : outTs j (ks.drop j) = match outT (.mk k' n' kids) with | some p => some ((j : Int) :: p) | none => outTs (j + 1) (ks.drop (j + 1)) := by
          rw [List.drop_eq_getElem_cons hlt, HK.out]; conv => lhs; unfold outTs
          rfl
        have hol2 := outT_len (.mk k' n' kids) (d - 1) (hsk _ hmem)
        have hx5 := (Ext.refl wr).alloc (.cells #[.int .i64 k', .int .i64 n', .slice A' kids.length cap'] 44)
        have HC := Lib.hid (hk _ hmem _ _ (d - 1) (hsk _ hmem) (hin'.ext hx5) (by omega))
        have hpe : outP (.mk k' n' kids) = (outT (.mk k' n' kids)).getD [] := rfl
        rw [hpe] at HC
        clear hpe
        generalize outT (.mk k' n' kids) = q at hst hol2 HC
        have hj2 : (j : Int) < (ks.length : Int) := by omega
        clear hol hin'
        go_wp2_with fail
        refine HC.out.mono ?_
        rintro e w2 ⟨x, rfl, hq, h2⟩
        have hx2 := (hx.trans hx5).trans h2
        cases q with
        | some p =>
          have hpl := hol2 p rfl
          simp only [Option.getD_some] at hq
          simp only at hst
          have HO2 := Lib.hid ((HO.out.trans HE.out).trans hst)
          have hpa := ownsRow_pathL hq
          obtain ⟨Bq, cq, rfl, -, -, -⟩ := ownsRow_nums hq
          have hx3 := (Ext.refl w2).alloc (.cells #[.int .i64 j] 3)
          have hG : (w2.alloc (.cells #[.int .i64 j] 3)).ownsRow w2.heap.size 3 1 (.slice (some ⟨w2.heap.size, 0, none⟩) 1 1) ([(j : Int)]).length (([(j : Int)]).map (Value.int .i64)) := World.ownsRow_lit w2 #[.int .i64 j] 1 (Nat.le_refl _) (by decide) rfl
          have hpa3 := hpa.ext hx3
          clear hst HC HE HO hpa hq hol2
          go_wp2_with (at_builtin; refine wpList_append_ints _ rfl (.tmp 26) (.tmp 27) 55 rfl w2.heap.size 3 i0 _ 8 Try.underlying55 hi hz0 hz1 hz2 (by decide) rfl (ns := [(j : Int)]) (p := p) rfl hG (by simp) rfl hpa3 (by simp; omega) ?_)
          intro va wa hva hga hoa
          have hEa : Ext w wa := hx2.trans (hx3.grown hga (by intro g hg; simp [Value.ownBlock] at hg; omega))
          have hsz := hx2.size
          have hvw : wa.ownsRow w.heap.size 3 1 va ((j : Int) :: p).length ((((j : Int) :: p)).map (Value.int .i64)) := ownsRow_since hva hsz
          have HVW := Lib.hid hvw
          clear hva hga hoa hvw
          go_wp2_with fail
          go_ret2
          have hou : outP (.mk k n ks) = (j : Int) :: p := by unfold outP; rw [HO2.out]; rfl
          exact ⟨_, by rw [HO2.out]; rfl, by rw [hou]; exact HVW.out, hEa⟩
        | none =>
          simp only at hst
          have HE2 := Lib.hid (HE.out.trans hst)
          clear hst HC hq hol2
          go_wp2_with fail
          go_roundw
          case rel => exact ⟨j + 1, by omega, by go_num, HE2, hx2⟩
          case measure => simp [intOf]; omega
      · have HO2 := Lib.hid ((HO.out.trans HE.out).trans (show outTs j (ks.drop j) = none by rw [List.drop_of_length_le (by omega), outTs]))
        clear HE HO
        go_wp2_with fail
        go_ret2
        have hou : outP (.mk k n ks) = [] := by unfold outP; rw [HO2.out]; rfl
        exact ⟨_, by rw [HO2.out]; rfl, by rw [hou]; exact World.ownsRow_nil _ _ _ _, hx⟩
  · rw [if_neg h0] at ho
    have hb0 : (r != 0) = true := bne_iff_ne.2 h0
    have HO := Lib.hid ho
    clear ho
    go_enter Try.func92, Try.ntmps92
    go_wp2_with fail
    refine (HR2.out _ hx0).mono ?_
    rintro e w1 ⟨rfl, h1⟩
    go_wp2_with fail
    go_ret2
    have hou : outP (.mk k n ks) = [] := by unfold outP; rw [HO.out]; rfl
    exact ⟨_, by rw [HO.out]; rfl, by rw [hou]; exact World.ownsRow_nil _ _ _ _, hx0.trans h1⟩
set_option maxRecDepth 100000 in
set_option maxHeartbeats 400000 in
theorem dkInts_q (ns ms : List Int) (w : World) (A A' : Option Addr) (cap cap' : Nat) (h : Nums w A ns) (hl : ns.length ≤ cap) (hc : cap ≤ maxLen) (h' : Nums w A' ms) (hl' : ms.length ≤ cap') (hc' : cap' ≤ maxLen) :
    Calls Try.prog 48 #[.slice A ns.length cap, .slice A' ms.length cap'] w fun e w' => e = .returned (.bool (decide (ns = ms))) ∧ ∃ m, w' = w.drewN m := by
  unfold maxLen at hc hc'
  by_cases h0 : ns.length = ms.length
  · have hd : ((ns.length : Int) != (ms.length : Int)) = false := by rw [h0]; simp
    have H0 := Lib.hid h0
    clear h0
    go_enter Try.func48, Try.ntmps48
    go_wp2_with fail
    go_loopw [5] (fun i wr => ∃ j : Nat, j ≤ ns.length ∧ i = .int .i64 j ∧ (ns = ms ↔ ns.drop j = ms.drop j) ∧ ∃ q0, Hid (wr = w.drewN q0)) (fun i _ => ns.length - (intOf i).toNat)
    case atStart => exact ⟨0, Nat.zero_le _, rfl, Iff.rfl, 0, Lib.hid rfl⟩
    case round =>
      obtain ⟨j, hj, rfl, heq, q0, HQ⟩ := hrel
      have he : Ext w wr := HQ.out ▸ (Ext.refl w).drewN q0
      by_cases hlt : j < ns.length
      · have hlt' : j < ms.length := by rw [← H0.out]; exact hlt
        obtain ⟨b, o, rfl, c0⟩ := h.get he hlt
        obtain ⟨b', o', rfl, c0'⟩ := h'.get he hlt'
        have hst : ns.drop j = ms.drop j ↔ ns[j] = ms[j] ∧ ns.drop (j + 1) = ms.drop (j + 1) := by
          rw [List.drop_eq_getElem_cons hlt, List.drop_eq_getElem_cons hlt', List.cons.injEq]
        generalize ns[j] = p at c0 hst
        generalize ms[j] = q at c0' hst
        have hj0 : (0 : Int) ≤ (j : Int) := Int.natCast_nonneg _
        have hj1 : (j : Int) < (ns.length : Int) := by omega
        have hj2 : (j : Int) < (ms.length : Int) := by omega
        by_cases hpq : p = q
        · have d1 : (p != q) = false := by simp [hpq]
          have hn := heq.trans (hst.trans ⟨fun x => x.2, fun x => ⟨hpq, x⟩⟩)
          have HN := Lib.hid hn
          clear heq hst hn hpq
          go_wp2_with fail
          go_quiet (fail)
          go_wp2_with fail
          go_roundw
          case rel => exact ⟨j + 1, by omega, by go_num, HN.out, _, Lib.hid (by rw [HQ.out, World.drewN_drewN])⟩
          case measure => simp [intOf]; omega
        · have d1 : (p != q) = true := by rw [bne_iff_ne]; exact hpq
          have hn : decide (ns = ms) = false := decide_eq_false fun x => hpq (hst.1 (heq.1 x)).1
          have HN := Lib.hid hn
          clear heq hst hn hpq
          go_wp2_with fail
          go_quiet (fail)
          go_wp2_with fail
          go_ret
          exact ⟨by rw [HN.out]; rfl, _, by rw [HQ.out, World.drewN_drewN]⟩
      · have hn : decide (ns = ms) = true := decide_eq_true (heq.2 (by rw [List.drop_of_length_le (by omega), List.drop_of_length_le (by rw [← H0.out]; omega)]))
        have HN := Lib.hid hn
        clear heq hn
        go_wp2_with fail
        go_ret
        exact ⟨by rw [HN.out]; rfl, q0, HQ.out⟩
  · have hd : ((ns.length : Int) != (ms.length : Int)) = true := by rw [bne_iff_ne]; omega
    have hn : decide (ns = ms) = false := decide_eq_false fun x => h0 (by rw [x])
    have HN := Lib.hid hn
    clear hn h0
    go_enter Try.func48, Try.ntmps48
    go_wp2_with fail
    go_ret
    exact ⟨by rw [HN.out]; rfl, 0, rfl⟩
theorem dkInts_any (ns ms : List Int) (w : World) (A A' : Option Addr) (cap cap' : Nat) (h : Nums w A ns) (hl : ns.length ≤ cap) (hc : cap ≤ maxLen) (h' : Nums w A' ms) (hl' : ms.length ≤ cap') (hc' : cap' ≤ maxLen) :
    Calls Try.prog 48 #[.slice A ns.length cap, .slice A' ms.length cap'] w fun e w' => e = .returned (.bool (decide (ns = ms))) ∧ Ext w w' :=
  (dkInts_q ns ms w A A' cap cap' h hl hc h' hl' hc').mono fun e w' ⟨h1, m, h2⟩ => ⟨h1, h2 ▸ (Ext.refl w).drewN m⟩
end Go.Proofs.Ytappakllopkfiaa
namespace Go.Proofs.Ytappakllopkfiaa
open Go.RowKit
set_option linter.unusedVariables false
attribute [local go_sem ↓] Go.wp_at_zero Go.wp_at_succ
/-- v is a slice of trees that was built by append since W; the trees' rows are older than W. -/
def GrowO (W w : World) (e : TypeId) (v : Value) (ks : List Tr) : Prop := ∃ xs, w.ownsRow W.heap.size e 3 v ks.length xs ∧ RowL w (fun b => b < W.heap.size) xs ks
theorem GrowO.nil (W w : World) (e : TypeId) : GrowO W w e (.slice none 0 0) [] := ⟨[], World.ownsRow_nil _ _ _ _, RowL.nil⟩
theorem GrowO.ext {W w w' : World} {e : TypeId} {v : Value} {ks : List Tr} (h : GrowO W w e v ks) (hW : W.heap.size ≤ w.heap.size) (he : Ext w w') : GrowO W w' e v ks := by
  obtain ⟨xs, h1, h2⟩ := h
  exact ⟨xs, ownsRow_same h1 (fun g hg => he.heap g (h1.lt g hg).2), h2.mono (fun _ h => h) (fun b hb => he.heap b (Nat.lt_of_lt_of_le hb hW))⟩
theorem GrowO.set {W w : World} {e : TypeId} {v : Value} {ks : List Tr} (h : GrowO W w e v ks) {p : Addr} (hp : v.ownBlock ≠ some p.block) (hW : W.heap.size ≤ p.block) (u : Value) : GrowO W (w.setCell p u) e v ks := by
  obtain ⟨xs, h1, h2⟩ := h
  exact ⟨xs, ownsRow_same h1 (fun g hg => Below.heap_setCell w p u g (fun e => hp (by rw [← e]; exact hg))), h2.mono (fun _ h => h) (fun b hb => Below.heap_setCell w p u b (by omega))⟩
theorem GrowO.lt {W w : World} {e : TypeId} {v : Value} {ks : List Tr} (h : GrowO W w e v ks) {g : Nat} (hg : v.ownBlock = some g) : W.heap.size ≤ g ∧ g < w.heap.size := by
  obtain ⟨xs, h1, h2⟩ := h
  exact h1.lt g hg
/-- A tree whose rows are older than block B, stored into a box of its own. -/
theorem atT_step {k n i : Int} {ks : List Tr} {q : List Int} : atT (.mk k n ks) (i :: q) = if 0 ≤ i ∧ i < ks.length then atT (kd ks i.toNat) q else none := by rw [atT]
end Go.Proofs.Ytappakllopkfiaa
namespace Go.Proofs.Ytappakllopkfiaa
open Go.RowKit
set_option linter.unusedVariables false
theorem InK.two {w : World} {S : Nat → Prop} {e : TypeId} {t t' : Tr} {v0 v1 v2 u0 u1 u2 : Value} {g : Nat} (h : InT w S t (.agg #[v0, v1, v2])) (h' : InT w S t' (.agg #[u0, u1, u2])) (hg : w.heap[g]? = some (.cells #[v0, v1, v2, u0, u1, u2] e (0, 0))) (hS : S g) : InK w S (some ⟨g, 0, none⟩) [t, t'] := by
  refine .inr ⟨g, 0, rfl, hS, ?_⟩
  unfold InL
  refine ⟨⟨v0, v1, v2, cell_of_blk hg 0, cell_of_blk hg 1, cell_of_blk hg 2, h⟩, ?_⟩
  unfold InL
  refine ⟨⟨u0, u1, u2, cell_of_blk hg 3, cell_of_blk hg 4, cell_of_blk hg 5, h'⟩, ?_⟩
  unfold InL
  trivial
theorem InK.three {w : World} {S : Nat → Prop} {e : TypeId} {t t' t2 : Tr} {v0 v1 v2 u0 u1 u2 x0 x1 x2 : Value} {g : Nat} (h : InT w S t (.agg #[v0, v1, v2])) (h' : InT w S t' (.agg #[u0, u1, u2])) (h2 : InT w S t2 (.agg #[x0, x1, x2])) (hg : w.heap[g]? = some (.cells #[v0, v1, v2, u0, u1, u2, x0, x1, x2] e (0, 0))) (hS : S g) : InK w S (some ⟨g, 0, none⟩) [t, t', t2] := by
  refine .inr ⟨g, 0, rfl, hS, ?_⟩
  unfold InL
  refine ⟨⟨v0, v1, v2, cell_of_blk hg 0, cell_of_blk hg 1, cell_of_blk hg 2, h⟩, ?_⟩
  unfold InL
  refine ⟨⟨u0, u1, u2, cell_of_blk hg 3, cell_of_blk hg 4, cell_of_blk hg 5, h'⟩, ?_⟩
  unfold InL
  refine ⟨⟨x0, x1, x2, cell_of_blk hg 6, cell_of_blk hg 7, cell_of_blk hg 8, h2⟩, ?_⟩
  unfold InL
  trivial
theorem InT.three {w : World} {S : Nat → Prop} {t : Tr} {u : Value} (h : InT w S t u) : ∃ k n A l c, u = .agg #[.int .i64 k, .int .i64 n, .slice A l c] := by
  obtain ⟨k, n, ks⟩ := t
  obtain ⟨A, cap, rfl, _⟩ := InT.mk_iff.1 h
  exact ⟨k, n, A, _, cap, rfl⟩
/-- What came into being since W, in a later world. -/
theorem New.to {W w w1 w2 : World} {t : Tr} {v : Value} (h : New w w1 t v) (he : Ext w1 w2) (hW : W.heap.size ≤ w.heap.size) {S : Nat → Prop} (hS : ∀ b, W.heap.size ≤ b → b < w1.heap.size → S b) : InT w2 S t v :=
  h.mono (fun b hb => hS b (Nat.le_trans hW hb.1) hb.2) (fun b hb => he.heap b hb.2)
end Go.Proofs.Ytappakllopkfiaa
namespace Go.Proofs.Ytappakllopkfiaa
open Go.RowKit
set_option linter.unusedVariables false
attribute [local go_sem ↓] Go.wp_at_zero Go.wp_at_succ
theorem atT_cnt : ∀ (a : List Int) (t u : Tr), atT t a = some u → cnt u ≤ cnt t
  | [], t, u, e => by
    have e : t = u := by cases t; simpa [atT] using e
    subst e
    exact Nat.le_refl _
  | i :: a, .mk k n ks, u, e => by
    rw [atT] at e
    split at e
    · rename_i hi
      have h1 := atT_cnt a _ u e
      have h2 := cnt_mem (kd_mem (ks := ks) (i := i.toNat) (by omega))
      rw [cnt]
      omega
    · cases e
end Go.Proofs.Ytappakllopkfiaa

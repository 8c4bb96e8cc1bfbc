/-
  Lemmas towards the law, 27: Clone, RedP, Extd.
-/
import Derived.Test.YtdkamgafpphdjaaEAZ
namespace Go.Proofs.Ytdkamgafpphdjaa
open Go.RowKit
set_option linter.unusedVariables false
attribute [local go_sem ↓] Go.wp_at_zero Go.wp_at_succ
theorem infoTermCl : (Try.prog.info? 27).map (fun i => (i.zero, i.size, i.bytes)) = some (some (.agg #[.int .i64 0, .int .i64 0, .slice none 0 0]), 3, 40) := by kernel_rfl
/-- An append of any number of trees to an empty slice. -/
theorem wpList_append_some {P : Program} (w : World) {ops : Array Oper} {rest : List Oper} {o : Oper} {a : Act} {Q : Exit → Act → World → Prop} (hgd : o.guard = none) (s x : Operand) (t : TypeId)
    (ho : o.op = .call { callee := .builtin .append, args := #[s, x], argTypes := #[t, t] })
    (base : Nat) (e : TypeId) (i : TypeInfo) (z : Value) (ht : P.underlying t = some (.slice e)) (hi : P.info? e = some i) (hz : i.zero = some z) (hsize : i.size = 3) (hby : i.bytes = 40) (hzs : z.cells.size = 3)
    {v : Value} {ad : Addr} {m cap : Nat} {xs : List Value} (hs : a.eval s = v) (hown : w.ownsRow base e 3 v 0 []) (hbase : base ≤ w.heap.size) (hx : a.eval x = .slice (some ad) m cap)
    (hl : xs.length = m * 3) (hnews : ∀ j u, xs[j]? = some u → w.cell? (ad.add j) = some u) (h1 : ∀ u ∈ xs, u.oneCell' = true) (hm : m ≤ 1048576)
    (h : ∀ v' w', w'.ownsRow base e 3 v' m xs → w.grownBy w' v.ownBlock → (∀ g, v'.ownBlock = some g → v.ownBlock = some g ∨ w.heap.size ≤ g) → wpList P ops Q rest (a.put o.dst v') w') : wpList P ops Q (o :: rest) a w := by
  refine wpList_plain hgd fun K hK' => ?_
  obtain ⟨v', w', hr, r1, r2, r3⟩ := run_append_own' (P := P) w base t o.type e i z 3 40 ht hi hz hsize hby hzs (by decide) v 0 [] hown ad m cap xs hl hnews h1 (by unfold maxLen; omega) (by omega) hbase
  rw [Nat.zero_add, List.nil_append] at r1
  unfold Oper.wp execOp
  simp only [ho, resolve, invoke, builtin, Sem.run_bind, Sem.run_pure, Result.andThen_ok, List.map_toArray, List.map_cons, List.map_nil, hs, hx, hr]
  exact hK' _ _ (h v' w' r1 r2 r3)
/-- The clone is a slice of its own; its rows are the old ones. -/
def ClnQ (w : World) (N : Nat → Prop) (ks : List Tr) (e : Ending) (w' : World) : Prop := ∃ v xs, e = .returned v ∧ w'.ownsRow w.heap.size 27 3 v ks.length xs ∧ RowL w' (fun b => N b ∧ b < w.heap.size) xs ks ∧ Ext w w'
set_option maxRecDepth 100000 in
set_option maxHeartbeats 1000000 in
theorem cloneG_any (ks : List Tr) (w : World) (N : Nat → Prop) (A : Option Addr) (cap : Nat) (hK : InK w N A ks) (hn : ks.length ≤ 1048576) : Calls Try.prog 63 #[.slice A ks.length cap] w (ClnQ w N ks) := by
  obtain ⟨i0, hi, hz0, hz1, hz2⟩ := info_parts infoTermCl
  have hnil : ∀ W, (binOp .eql 25 (.slice A ks.length cap) (.slice none 0 0)).run Try.prog W = .ok (.bool A.isNone) W := fun W => Lib.run_eql_slice_nil W 25 _ A ks.length cap 0 0 Try.underlying25
  cases A with
  | none =>
    have h0 : ks = [] := by
      rcases hK with h | ⟨b, o, h, -⟩
      · exact h
      · cases h
    subst h0
    simp only [List.length_nil, Option.isNone_none] at hnil ⊢
    go_enter Try.func63, Try.ntmps63
    go_wp2_with fail
    go_ret
    exact ⟨_, [], rfl, World.ownsRow_nil _ _ _ _, RowL.nil, Ext.refl _⟩
  | some ad =>
    have hx := (Ext.refl w).alloc (.cells #[] 27)
    have hG : (w.alloc (.cells #[] 27)).ownsRow w.heap.size 27 3 (.slice (some ⟨w.heap.size, 0, none⟩) 0 0) 0 [] := World.ownsRow_lit w #[] 0 (Nat.le_refl _) (Nat.zero_le _) rfl
    obtain ⟨xs, n1, n2, n3, n4⟩ : ∃ xs : List Value, xs.length = ks.length * 3 ∧ (∀ j u, xs[j]? = some u → (w.alloc (.cells #[] 27)).cell? (ad.add j) = some u) ∧ (∀ u ∈ xs, u.oneCell' = true) ∧ RowL w (fun b => N b ∧ b < w.heap.size) xs ks := by
      rcases hK.bound with rfl | ⟨b, o, h, hb, hL⟩
      · exact ⟨[], rfl, fun j u h => by simp at h, fun u h => by simp at h, RowL.nil⟩
      · obtain ⟨xs, n1, n2, n3, n4⟩ := hL.rowL
        simp only [Option.some.injEq] at h
        subst h
        exact ⟨xs, n1, fun j u hu => by rw [Addr.add_lit]; exact hx.cell (n2 j u hu), n3, n4⟩
    have HN := Lib.hid n2
    have H4 := Lib.hid n4
    simp only [Option.isNone_some] at hnil
    clear hK n2 n4
    go_enter Try.func63, Try.ntmps63
    go_wp2_with (at_builtin; go_loud (refine wpList_append_some _ rfl (.tmp 5) (.tmp 6) 25 rfl w.heap.size 27 i0 _ Try.underlying25 hi hz0 hz1 hz2 rfl (v := .slice (some ⟨w.heap.size, 0, none⟩) 0 0) rfl hG (by simp) rfl n1 HN.out n3 hn ?_))
    intro v' w' r1 r2 r3
    have hE : Ext w w' := hx.grown r2 (by intro k hk; simp [Value.ownBlock] at hk; omega)
    go_wp2_with fail
    go_ret
    exact ⟨v', xs, rfl, r1, H4.out.mono (fun b hb => hb) (fun b hb => hE.heap b hb.2), hE⟩
end Go.Proofs.Ytdkamgafpphdjaa
namespace Go.Proofs.Ytdkamgafpphdjaa
open Go.RowKit
set_option linter.unusedVariables false
/-- A tree after a contraction at a place. -/
def conA (t : Tr) (p : List Int) : Tr := match atT t p with
  | some u => putA t p (ctrT u)
  | none => dflt0
/-- Is there a redex at the place? -/
def rdxA (t : Tr) (p : List Int) : Bool := match atT t p with
  | some u => isRdx u
  | none => false
/-- What a contraction of a valid term at a place of a redex answers. -/
def conV (t : Tr) (p : List Int) : Tr × Bool := if valid sigT (conA t p) = true then (conA t p, true) else (dflt0, false)
/-- A step from outside of a valid term. -/
def stepO (t : Tr) : Tr × Int := match outT t with
  | none => (t, 0)
  | some p => if valid sigT (conA t p) = true then (conA t p, 1) else (dflt0, 2)
/-- Steps of a valid term, at most so many. -/
def nrmC : Nat → Tr → Tr × Int
  | 0, t => match outT t with
    | none => (t, 0)
    | some _ => (dflt0, 1)
  | f + 1, t => match outT t with
    | none => (t, 0)
    | some p => if valid sigT (conA t p) = true then nrmC f (conA t p) else (dflt0, 2)
/-- Normalize's answer. -/
def normV (t : Tr) (f : Int) : Tr × Int := if (valid sigT t && inR f 0 200) = true then nrmC f.toNat t else (dflt0, 3)
/-- Convertible's answer. -/
def convV (a b : Tr) (f : Int) : Int := if (valid sigT a && (valid sigT b && inR f 0 200)) = true then (if a = b then 1 else if (nrmC f.toNat a).2 = 0 ∧ (nrmC f.toNat b).2 = 0 then (if (nrmC f.toNat a).1 = (nrmC f.toNat b).1 then 1 else 2) else 3) else 0
theorem rdxA_some {t : Tr} {p : List Int} (h : rdxA t p = true) : ∃ u, atT t p = some u ∧ isRdx u = true := by
  unfold rdxA at h
  cases e : atT t p with
  | none => rw [e] at h; cases h
  | some u => rw [e] at h; exact ⟨u, rfl, h⟩
theorem isRdx_iff {k n : Int} {ks : List Tr} : isRdx (.mk k n ks) = true ↔ rdx k ks ≠ 0 := by simp [isRdx, rdxT]
theorem pars_set {ks : List Tr} : ∀ {i : Nat} {x : Tr}, Par (kd ks i) x → Pars ks (ks.set i x) := by
  induction ks with
  | nil => intro i x _; exact .nil
  | cons t ts ih =>
    intro i x h
    cases i with
    | zero => exact .cons h (Pars.refl ts)
    | succ i => exact .cons (Par.refl t) (ih h)
theorem par_put : ∀ (p : List Int) (t u u' : Tr), atT t p = some u → Par u u' → Par t (putA t p u')
  | [], t, u, u', h, hp => by
    have e : t = u := by cases t; simpa [atT] using h
    subst e
    rw [putA_nil]
    exact hp
  | i :: r, .mk k n ks, u, u', h, hp => by
    rw [atT] at h
    split at h
    · rw [putA]
      exact .node (pars_set (par_put r _ u u' h hp))
    · cases h
theorem par_ctr {u : Tr} (h : isRdx u = true) : Par u (ctrT u) := by
  obtain ⟨k, n, ks⟩ := u
  exact .red (isRdx_iff.1 h) (Pars.refl ks)
theorem con_par {t : Tr} {p : List Int} (h : rdxA t p = true) : Par t (conA t p) := by
  obtain ⟨u, h1, h2⟩ := rdxA_some h
  unfold conA
  rw [h1]
  exact par_put p t u _ h1 (par_ctr h2)
mutual
theorem outT_at : ∀ (t : Tr) (p : List Int), outT t = some p → rdxA t p = true
  | .mk k n ks, p, h => by
    rw [outT] at h
    split at h
    · obtain ⟨j, r, rfl, h1, h2⟩ := outTs_at ks 0 p h
      unfold rdxA at h2 ⊢
      rw [atT, if_pos ⟨by omega, by omega⟩]
      rw [show (((0 + j : Nat) : Int)).toNat = j by omega]
      exact h2
    · rename_i h0
      cases h
      unfold rdxA
      rw [show atT (.mk k n ks) [] = some (.mk k n ks) from rfl]
      exact isRdx_iff.2 h0
theorem outTs_at : ∀ (ks : List Tr) (i : Nat) (p : List Int), outTs i ks = some p → ∃ (j : Nat) (r : List Int), p = ((i + j : Nat) : Int) :: r ∧ j < ks.length ∧ rdxA (kd ks j) r = true
  | [], i, p, h => by rw [outTs] at h; cases h
  | t :: ts, i, p, h => by
    rw [outTs] at h
    cases e : outT t with
    | some q =>
      rw [e] at h
      cases h
      exact ⟨0, q, rfl, by simp, outT_at t q e⟩
    | none =>
      rw [e] at h
      obtain ⟨j, r, rfl, h1, h2⟩ := outTs_at ts (i + 1) p h
      exact ⟨j + 1, r, by rw [show i + 1 + j = i + (j + 1) by omega], by simpa using h1, h2⟩
end
theorem nrmC_reds : ∀ (f : Nat) (t x : Tr), valid sigT t = true → nrmC f t = (x, 0) → Reds t x ∧ nrm x = true ∧ valid sigT x = true
  | 0, t, x, hv, h => by
    unfold nrmC at h
    cases e : outT t with
    | none =>
      rw [e] at h
      cases h
      have := outT_nrm t
      rw [e] at this
      exact ⟨.refl _, by simpa using this.symm, hv⟩
    | some p => rw [e] at h; cases h
  | f + 1, t, x, hv, h => by
    unfold nrmC at h
    cases e : outT t with
    | none =>
      rw [e] at h
      cases h
      have := outT_nrm t
      rw [e] at this
      exact ⟨.refl _, by simpa using this.symm, hv⟩
    | some p =>
      rw [e] at h
      simp only at h
      split at h
      · rename_i hc
        obtain ⟨h1, h2⟩ := nrmC_reds f _ x hc h
        exact ⟨(Reds.one (con_par (outT_at t p e))).trans h1, h2⟩
      · cases h
theorem valid_at {t u : Tr} {p : List Int} (h : valid sigT t = true) (e : atT t p = some u) : valid sigT u = true := by
  obtain ⟨h1, h2⟩ := valid_parts h
  have h3 := atT_cnt p t u e
  have h4 := atT_shape p t u 30 h1 e
  unfold valid
  rw [shape_mono h4 (by omega), Bool.true_and, decide_eq_true_eq]
  omega
theorem conA_part {t : Tr} {p : List Int} {u : Tr} (h : atT t p = some u) (hv : valid sigT (conA t p) = true) : valid sigT (ctrT u) = true := by
  unfold conA at hv
  rw [h] at hv
  exact valid_at hv (atT_putA p t (ctrT u) u h).1
end Go.Proofs.Ytdkamgafpphdjaa
namespace Go.Proofs.Ytdkamgafpphdjaa
open Go.RowKit
set_option linter.unusedVariables false
attribute [local go_sem ↓] Go.wp_at_zero Go.wp_at_succ
set_option maxRecDepth 100000 in
set_option maxHeartbeats 4000000 in
theorem extended_big (G : List Tr) (t : Tr) (w0 : World) (N : Nat → Prop) (A : Option Addr) (ca : Nat) (v : Value) (ht : InT w0 N t v) (hL : 20 ≤ G.length) :
    Calls Try.prog 43 #[.slice A G.length ca, v] w0 fun e w' => e = .returned (.tuple #[.slice none 0 0, .int .i64 2]) ∧ Ext w0 w' := by
  obtain ⟨k, n, ks⟩ := t
  obtain ⟨At, ct, rfl, hl, hc, hK⟩ := InT.mk_iff.1 ht
  have t1 : decide ((20 : Int) ≤ (G.length : Int)) = true := decide_eq_true (by omega)
  clear ht hK
  go_enter Try.func43, Try.ntmps43
  go_wp2_with fail
  go_ret2
  exact ⟨rfl, (Ext.refl _).alloc _⟩
set_option maxRecDepth 100000 in
set_option maxHeartbeats 4000000 in
theorem extended_small (G : List Tr) (t : Tr) (w0 : World) (N : Nat → Prop) (hN : ∀ b, w0.heap.size ≤ b → N b) (A : Option Addr) (ca : Nat) (v : Value) (hG : InK w0 N A G) (ht : InT w0 N t v) (hL : G.length < 20) :
    Calls Try.prog 43 #[.slice A G.length ca, v] w0 fun e w' => ∃ A' c', e = .returned (.tuple #[.slice A' (G.length + 1) c', .int .i64 0]) ∧ G.length + 1 ≤ c' ∧ c' ≤ maxLen ∧ InK w' N A' (G ++ [t]) ∧ Ext w0 w' := by
  obtain ⟨k, n, ks⟩ := t
  obtain ⟨At, ct, rfl, hl, hc, hK⟩ := InT.mk_iff.1 ht
  have t1 : decide ((20 : Int) ≤ (G.length : Int)) = false := decide_eq_false (by omega)
  obtain ⟨i0, hi, hz0, hz1, hz2⟩ := info_parts infoTermCl
  have HT := Lib.hid ht
  have HG := Lib.hid hG
  have HN := Lib.hid hN
  have X1 := (Ext.refl w0).alloc (.cells #[.int .i64 k, .int .i64 n, .slice At ks.length ct] 27)
  have B1 := heap_alloc_new w0 (.cells #[.int .i64 k, .int .i64 n, .slice At ks.length ct] 27)
  obtain ⟨w1, hw1⟩ : ∃ x, x = w0.alloc (.cells #[.int .i64 k, .int .i64 n, .slice At ks.length ct] 27) := ⟨_, rfl⟩
  rw [← hw1] at X1 B1
  clear ht hK hG hN
  go_enter Try.func43, Try.ntmps43
  go_wp2_with fail
  rw [← hw1]
  clear hw1
  obtain ⟨z0, z1, z2, -, -, -⟩ := own3 B1
  have HKEEP := Lib.hid (show ∀ w', Ext w1 w' → w'.cell? ⟨w0.heap.size, 0, none⟩ = some (.int .i64 k) ∧ w'.cell? ⟨w0.heap.size, 1, none⟩ = some (.int .i64 n) ∧ w'.cell? ⟨w0.heap.size, 2, none⟩ = some (.slice At ks.length ct) from fun w' h => ⟨h.cell z0, h.cell z1, h.cell z2⟩)
  clear z0 z1 z2 B1
  have hsz := X1.size
  have XD : Ext w1 w1.drew := (Ext.refl w1).drew
  -- the append and what follows, whatever the order ahead of it
  have FIN := Lib.hid (show ∀ (wc w2 w3 : World) (v2 : Value) (xs : List Value) (g : Nat), Ext w1 wc → wc.heap.size ≤ w2.heap.size → Ext w2 w3 → w2.ownsRow wc.heap.size 27 3 v2 G.length xs → RowL w2 (fun b => N b ∧ b < wc.heap.size) xs G → GrowS (fun b => b < wc.heap.size ∧ ¬ N b) wc w3 27 v2 G from fun wc w2 w3 v2 xs g hc h1 h2 h3 h4 => by
    have := GrowS.ext (X := fun b => b < wc.heap.size ∧ ¬ N b) (W := wc) (w := w2) (e := 27) (v := v2) (ks := G) ⟨xs, h3, h4.mono (fun b hb => ⟨by omega, fun e => by have := (h3.lt b e).1; omega, fun e => e.2 hb.1⟩) (fun _ _ => rfl)⟩ h2
    exact this)
  have HTB := Lib.hid HT.out.bound
  refine wp_region_held_drew (S := fun w' => w'.cell? ⟨w0.heap.size, 0, none⟩ = some (.int .i64 k) ∧ w'.cell? ⟨w0.heap.size, 1, none⟩ = some (.int .i64 n) ∧ w'.cell? ⟨w0.heap.size, 2, none⟩ = some (.slice At ks.length ct)) (by kernel_rfl) (HKEEP.out _ XD) (fun _ => ?_)
  refine wpAnyH_take (i := 0) (v := ?v0) rfl (by kernel_rfl) (by kernel_rfl) (by kernel_rfl) (fun _ _ _ h => h) (Or.inl ⟨by rfl, ?hy0⟩) (by assumption) ?rest0
  case hy0 => (intro w hSw; (try dsimp only at hSw); go_simp; (try with_reducible rfl))
  try simp only [Act.put, List.getElem_toArray, List.getElem_cons_zero, List.setIfInBounds_toArray, List.set_cons_zero, List.set_cons_succ]
  refine wpAnyH_take (i := 2) (v := ?v2) rfl (by kernel_rfl) (by kernel_rfl) (by kernel_rfl) (fun _ _ _ h => h) (Or.inl ⟨by rfl, ?hy2⟩) (by assumption) ?rest2
  case hy2 => (intro w hSw; (try dsimp only at hSw); go_simp; (try with_reducible rfl))
  try simp only [Act.put, List.getElem_toArray, List.getElem_cons_succ, List.getElem_cons_zero, List.setIfInBounds_toArray, List.set_cons_zero, List.set_cons_succ]
  refine wpAnyH_ready (rs := [1, 3]) (by kernel_rfl) (by simp) ?_
  refine AllReadyH.cons rfl (fun K hK => ?_) (AllReadyH.cons rfl (fun K hK => ?_) AllReadyH.nil)
  · (go_simp; go_at_call 63; refine (cloneG_any G _ N A ca (HG.out.later (X1.trans XD)) (by omega)).mono ?_; rintro e w2 ⟨v2, xs, rfl, hO, hR, e2⟩; dsimp only)
    refine hK.out _ _ (HKEEP.out _ (XD.trans e2)) (fun hHeld => ?_)
    clear hK K
    try simp only [Act.put, List.getElem_toArray, List.getElem_cons_succ, List.getElem_cons_zero, List.setIfInBounds_toArray, List.set_cons_zero, List.set_cons_succ]
    refine wpAnyH_ready (rs := [3]) (by kernel_rfl) (by simp) ?_
    refine AllReadyH.cons rfl (fun K hK => ?_) AllReadyH.nil
    go_simp
    refine hK.out _ _ (HKEEP.out _ ((XD.trans e2).alloc _)) (fun hHeld => ?_)
    clear hK K
    try simp only [Act.put, List.getElem_toArray, List.getElem_cons_succ, List.getElem_cons_zero, List.setIfInBounds_toArray, List.set_cons_zero, List.set_cons_succ]
    have hGS := FIN.out w1.drew w2 (w2.alloc (.cells #[.int .i64 k, .int .i64 n, .slice At ks.length ct] 27)) _ xs 0 XD e2.size ((Ext.refl w2).alloc _) hO hR
    have hs3 : w0.heap.size ≤ (w2.alloc (.cells #[.int .i64 k, .int .i64 n, .slice At ks.length ct] 27)).heap.size := ((X1.trans ((XD.trans e2).alloc _))).size
    refine wpAnyH_ready (rs := [4]) (by kernel_rfl) (by simp) ?_
    refine AllReadyH.cons rfl (fun K hK => ?_) AllReadyH.nil
    have hX3 : Ext w0 (w2.alloc (.cells #[.int .i64 k, .int .i64 n, .slice At ks.length ct] 27)) := X1.trans ((XD.trans e2).alloc _)
    have hwc : w0.heap.size ≤ (w1.drew).heap.size := (X1.trans XD).size
    refine wp_append_treeS _ (.tmp 10) (.tmp 12) _ (by rfl) 27 i0 _ Try.underlying25 hi hz0 hz1 hz2 rfl (by rfl) hGS (Nat.le_trans e2.size ((Ext.refl w2).alloc _).size) (tr := .mk k n ks) (InT.mono (fun b hb => ⟨Nat.lt_of_lt_of_le hb.2 hX3.size, fun e => by have := (hO.lt b e).1; omega, fun e => e.2 hb.1⟩) (fun b hb => hX3.heap b hb.2) HTB.out) (by rfl) (heap_alloc_new _ _) (by omega) ?_ (fun b hb => hb.1)
    intro v5 w5 hG5 hB5
    have hX5 : Ext w1 w5 := Ext.trans' ((XD.trans e2).alloc _) hB5 (XD).size
    refine hK.out _ _ (HKEEP.out _ hX5) (fun hHeld => ?_)
    clear hK K
    obtain ⟨A5, c5, rfl, q1, q2, q3, -⟩ := hG5.lies (fun b hb => hb.1)
    have hI5 : InK w5 N A5 (G ++ [.mk k n ks]) := InK.mono (fun b hb => by
      by_cases e : N b
      · exact e
      · exact HN.out b (Nat.le_trans hwc (Nat.not_lt.1 fun h => hb.2 ⟨h, e⟩))) (fun _ _ => rfl) q3
    rw [List.length_append, List.length_singleton] at q1 ⊢
    have HI5 := Lib.hid hI5
    clear hI5 q3 hG5 hB5 hGS hR hO
    try simp only [Act.put, List.getElem_toArray, List.getElem_cons_succ, List.getElem_cons_zero, List.setIfInBounds_toArray, List.set_cons_zero, List.set_cons_succ]
    refine wpAnyH_take (i := 5) (v := ?vc5) rfl (by kernel_rfl) (by kernel_rfl) (by kernel_rfl) (fun _ _ _ h => h) (Or.inl ⟨by rfl, ?hyc5⟩) (by assumption) ?restc5
    case hyc5 => (intro w hSw; (try dsimp only at hSw); go_simp; (try with_reducible rfl))
    try simp only [Act.put, List.getElem_toArray, List.getElem_cons_succ, List.getElem_cons_zero, List.setIfInBounds_toArray, List.set_cons_zero, List.set_cons_succ]
    refine wpAnyH_take (i := 6) (v := ?vc6) rfl (by kernel_rfl) (by kernel_rfl) (by kernel_rfl) (fun _ _ _ h => h) (Or.inl ⟨by rfl, ?hyc6⟩) (by assumption) ?restc6
    case hyc6 => (intro w hSw; (try dsimp only at hSw); go_simp; (try with_reducible rfl))
    try simp only [Act.put, List.getElem_toArray, List.getElem_cons_succ, List.getElem_cons_zero, List.setIfInBounds_toArray, List.set_cons_zero, List.set_cons_succ]
    refine wpAnyH_done (by kernel_rfl) ?_ _
    go_wp2_with fail
    go_ret2
    exact ⟨A5, c5, rfl, q1, q2, HI5.out, X1.trans hX5⟩
  · go_simp
    refine hK.out _ _ (HKEEP.out _ (XD.alloc _)) (fun hHeld => ?_)
    clear hK K
    try simp only [Act.put, List.getElem_toArray, List.getElem_cons_succ, List.getElem_cons_zero, List.setIfInBounds_toArray, List.set_cons_zero, List.set_cons_succ]
    refine wpAnyH_ready (rs := [1]) (by kernel_rfl) (by simp) ?_
    refine AllReadyH.cons rfl (fun K hK => ?_) AllReadyH.nil
    (go_simp; go_at_call 63; refine (cloneG_any G _ N A ca (HG.out.later (X1.trans (XD.alloc _))) (by omega)).mono ?_; rintro e w2 ⟨v2, xs, rfl, hO, hR, e2⟩; dsimp only)
    refine hK.out _ _ (HKEEP.out _ ((XD.alloc _).trans e2)) (fun hHeld => ?_)
    clear hK K
    try simp only [Act.put, List.getElem_toArray, List.getElem_cons_succ, List.getElem_cons_zero, List.setIfInBounds_toArray, List.set_cons_zero, List.set_cons_succ]
    have hGS := FIN.out _ w2 w2 _ xs 0 (XD.alloc _) e2.size (Ext.refl _) hO hR
    have hs3 : w0.heap.size ≤ (w2).heap.size := (X1.trans ((XD.alloc _).trans e2)).size
    refine wpAnyH_ready (rs := [4]) (by kernel_rfl) (by simp) ?_
    refine AllReadyH.cons rfl (fun K hK => ?_) AllReadyH.nil
    have hX3 : Ext w0 (w2) := X1.trans ((XD.alloc _).trans e2)
    have hwc : w0.heap.size ≤ (w1.drew.alloc (.cells #[.int .i64 k, .int .i64 n, .slice At ks.length ct] 27)).heap.size := (X1.trans (XD.alloc _)).size
    refine wp_append_treeS _ (.tmp 10) (.tmp 12) _ (by rfl) 27 i0 _ Try.underlying25 hi hz0 hz1 hz2 rfl (by rfl) hGS (e2.size) (tr := .mk k n ks) (InT.mono (fun b hb => ⟨Nat.lt_of_lt_of_le hb.2 hX3.size, fun e => by have := (hO.lt b e).1; omega, fun e => e.2 hb.1⟩) (fun b hb => hX3.heap b hb.2) HTB.out) (by rfl) (e2.blk (heap_alloc_new _ _)) (by omega) ?_ (fun b hb => hb.1)
    intro v5 w5 hG5 hB5
    have hX5 : Ext w1 w5 := Ext.trans' ((XD.alloc _).trans e2) hB5 ((XD.alloc _)).size
    refine hK.out _ _ (HKEEP.out _ hX5) (fun hHeld => ?_)
    clear hK K
    obtain ⟨A5, c5, rfl, q1, q2, q3, -⟩ := hG5.lies (fun b hb => hb.1)
    have hI5 : InK w5 N A5 (G ++ [.mk k n ks]) := InK.mono (fun b hb => by
      by_cases e : N b
      · exact e
      · exact HN.out b (Nat.le_trans hwc (Nat.not_lt.1 fun h => hb.2 ⟨h, e⟩))) (fun _ _ => rfl) q3
    rw [List.length_append, List.length_singleton] at q1 ⊢
    have HI5 := Lib.hid hI5
    clear hI5 q3 hG5 hB5 hGS hR hO
    try simp only [Act.put, List.getElem_toArray, List.getElem_cons_succ, List.getElem_cons_zero, List.setIfInBounds_toArray, List.set_cons_zero, List.set_cons_succ]
    refine wpAnyH_take (i := 5) (v := ?vb5) rfl (by kernel_rfl) (by kernel_rfl) (by kernel_rfl) (fun _ _ _ h => h) (Or.inl ⟨by rfl, ?hyb5⟩) (by assumption) ?restb5
    case hyb5 => (intro w hSw; (try dsimp only at hSw); go_simp; (try with_reducible rfl))
    try simp only [Act.put, List.getElem_toArray, List.getElem_cons_succ, List.getElem_cons_zero, List.setIfInBounds_toArray, List.set_cons_zero, List.set_cons_succ]
    refine wpAnyH_take (i := 6) (v := ?vb6) rfl (by kernel_rfl) (by kernel_rfl) (by kernel_rfl) (fun _ _ _ h => h) (Or.inl ⟨by rfl, ?hyb6⟩) (by assumption) ?restb6
    case hyb6 => (intro w hSw; (try dsimp only at hSw); go_simp; (try with_reducible rfl))
    try simp only [Act.put, List.getElem_toArray, List.getElem_cons_succ, List.getElem_cons_zero, List.setIfInBounds_toArray, List.set_cons_zero, List.set_cons_succ]
    refine wpAnyH_done (by kernel_rfl) ?_ _
    go_wp2_with fail
    go_ret2
    exact ⟨A5, c5, rfl, q1, q2, HI5.out, X1.trans hX5⟩
end Go.Proofs.Ytdkamgafpphdjaa

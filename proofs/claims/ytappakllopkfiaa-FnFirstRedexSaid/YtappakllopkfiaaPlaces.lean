/-
  impl.places, for each of its closures; PlacesOf, RedexPlaces.
-/
import Derived.Test.YtappakllopkfiaaRedex
import Derived.Test.YtappakllopkfiaaPaths
import Derived.Test.YtappakllopkfiaaSpecValid
import Derived.Deep.RegionHeldLaw
import Derived.Lib.SliceRun
namespace Go.Proofs.Ytappakllopkfiaa
open Go.RowKit
set_option linter.unusedVariables false
attribute [local go_sem ↓] Go.wp_at_zero Go.wp_at_succ

theorem plcs_snoc (p : Tr → Bool) (t : Tr) (q : List Int) : ∀ (a : List Tr) (i : Nat), plcs p i (a ++ [t]) q = plcs p i a q ++ plc p t (q ++ [((i + a.length : Nat) : Int)])
  | [], i => by simp [plcs]
  | x :: a, i => by
    rw [List.cons_append, plcs, plcs, plcs_snoc p t q a (i + 1), List.append_assoc, List.length_cons, show i + 1 + a.length = i + (a.length + 1) by omega]
theorem plc_len_le (p : Tr → Bool) (t : Tr) (q : List Int) : (plc p t q).length ≤ cnt t := by rw [plc_len]; exact cntP_le p t
theorem plcs_len_le (p : Tr → Bool) (ks : List Tr) (i : Nat) (q : List Int) : (plcs p i ks q).length ≤ cnts ks := by rw [plcs_len]; exact cntsP_le p ks
theorem cnts_take (ks : List Tr) (j : Nat) : cnts (ks.take j) ≤ cnts ks := by
  conv => rhs; rw [← List.take_append_drop j ks]
  rw [cnts_append]
  omega
theorem ownsRow_since {w : World} {base base' k n : Nat} {e : TypeId} {v : Value} {xs : List Value} (h : w.ownsRow base e k v n xs) (hb : base' ≤ base) : w.ownsRow base' e k v n xs := by
  refine ⟨h.1, ?_⟩
  rcases h.2 with h | ⟨g, cap, cur, rfl, h1, r⟩
  · exact .inl h
  · exact .inr ⟨g, cap, cur, rfl, Nat.le_trans hb h1, r⟩
/-- A place that lies in w. -/
def PathL (w : World) (u : Value) (p : List Int) : Prop := PathAt w (fun b => b < w.heap.size) u p
theorem PathL.ext {w w' : World} {u : Value} {p : List Int} (h : PathL w u p) (he : Ext w w') : PathL w' u p := h.mono (fun b hb => Nat.lt_of_lt_of_le hb he.size) (fun b hb => he.heap b hb)
theorem ownsRow_pathL {w : World} {base : Nat} {e : TypeId} {v : Value} {p : List Int} (h : w.ownsRow base e 1 v p.length (p.map (Value.int .i64))) : PathL w v p := (ownsRow_path h).mono (fun b hb => hb.2.1) (fun _ _ => rfl)
theorem infoIntP : (Try.prog.info? 3).map (fun i => (i.zero, i.size, i.bytes)) = some (some (.int .i64 0), 1, 8) := by kernel_rfl
theorem infoIntsP : (Try.prog.info? 55).map (fun i => (i.zero, i.size, i.bytes)) = some (some (.slice none 0 0), 1, 24) := by kernel_rfl
theorem Ext.ownsRow {w w' : World} {base n : Nat} {e : TypeId} {k : Nat} {v : Value} {xs : List Value} (he : Ext w w') (h : w.ownsRow base e k v n xs) : w'.ownsRow base e k v n xs := ownsRow_same1 h (fun g hg => he.heap g (h.lt g hg).2)
theorem GrowP.form {W w : World} {e : TypeId} {v : Value} {ps : List (List Int)} (h : GrowP W w e v ps) : ∃ B c, v = .slice B ps.length c := by
  obtain ⟨A, c, h1, -⟩ := h.slice
  exact ⟨A, c, h1⟩
theorem GrowP.form3 {W w : World} {e : TypeId} {v : Value} {ps : List (List Int)} (h : GrowP W w e v ps) : ∃ B l c, v = .slice B l c := by
  obtain ⟨A, c, h1⟩ := h.form
  exact ⟨A, _, c, h1⟩
def allP (_ : Tr) : Bool := true
set_option maxRecDepth 100000 in
set_option maxHeartbeats 1000000 in
theorem cloneInts_any (p : List Int) (w : World) (u : Value) (hu : PathL w u p) (hn : p.length ≤ 100000) : Calls Try.prog 147 #[u] w fun e w' => ∃ v, e = .returned v ∧ w'.ownsRow w.heap.size 3 1 v p.length (p.map (Value.int .i64)) ∧ Ext w w' := by
  rcases hu with ⟨rfl, rfl⟩ | ⟨b, o, c, rfl, h1, h2, h3, h4⟩
  · have hnil : ∀ W, (binOp .eql 55 (.slice none 0 0) (.slice none 0 0)).run Try.prog W = .ok (.bool true) W := fun W => Lib.run_eql_slice_nil W 55 _ none 0 0 0 0 Try.underlying55
    go_enter Try.func147, Try.ntmps147
    go_wp2_with fail
    go_ret
    exact ⟨_, rfl, World.ownsRow_nil _ _ _ _, Ext.refl _⟩
  · obtain ⟨i0, hi, hz0, hz1, hz2⟩ := info_parts infoIntP
    have hu : PathL w (.slice (some ⟨b, o, none⟩) p.length c) p := .inr ⟨b, o, c, rfl, h1, h2, h3, h4⟩
    have hx := (Ext.refl w).alloc (.cells #[] 3)
    have hu2 := hu.ext hx
    have hG : (w.alloc (.cells #[] 3)).ownsRow w.heap.size 3 1 (.slice (some ⟨w.heap.size, 0, none⟩) 0 0) ([] : List Int).length (([] : List Int).map (Value.int .i64)) := World.ownsRow_lit w #[] 0 (Nat.le_refl _) (Nat.zero_le _) rfl
    have hnil : ∀ W, (binOp .eql 55 (.slice (some ⟨b, o, none⟩) p.length c) (.slice none 0 0)).run Try.prog W = .ok (.bool false) W := fun W => Lib.run_eql_slice_nil W 55 _ (some ⟨b, o, none⟩) p.length c 0 0 Try.underlying55
    clear h1 h2 h3 h4 hu
    go_enter Try.func147, Try.ntmps147
    go_wp2_with (at_builtin; refine wpList_append_ints _ rfl (.tmp 5) (.tmp 6) 55 rfl w.heap.size 3 i0 _ 8 Try.underlying55 hi hz0 hz1 hz2 (by decide) rfl (ns := []) (p := p) rfl hG (by simp) rfl hu2 (by simp; omega) ?_)
    intro v' w' r1 r2 r3
    go_wp2_with fail
    go_ret
    exact ⟨_, rfl, by simpa using r1, hx.grown r2 (by intro k hk; simp [Value.ownBlock] at hk; omega)⟩
theorem askRdx1 (t : Tr) (d : Int) (hsh : shape sigT t d = true) (w : World) (v : Value) (hin : Lies w t v) : Calls Try.prog 87 #[v] w fun e w' => e = .returned (.bool (isRdx t)) ∧ Ext w w' := by
  have HR := Lib.hid (fun W (hW : Ext w W) => redex_any t d hsh W v (hin.ext hW))
  have e0 : isRdx t = (rdxT t != 0) := rfl
  have E0 := Lib.hid e0
  clear e0
  generalize rdxT t = r at HR E0
  obtain ⟨k, n, ks⟩ := t
  obtain ⟨A, cap, rfl, hl, hc, hK⟩ := Lies.mk_iff.1 hin
  go_enter Try.func87, Try.ntmps87
  go_wp2_with fail
  refine (HR.out _ ((Ext.refl w).alloc _)).mono ?_
  rintro e w1 ⟨rfl, h1⟩
  go_wp2_with fail
  go_ret
  exact ⟨by rw [E0.out]; rfl, h1.pre⟩
def plcRC (t : Tr) : Prop := ∀ (w : World) (v u : Value) (path : List Int) (d : Int), shape sigT t d = true → Lies w t v → PathL w u path → path.length + cnt t ≤ 1000 →
  Calls Try.prog 86 #[v, u, .func (.func 87) #[] #[]] w fun e w' => ∃ x, e = .returned x ∧ GrowP w w' 55 x (plc isRdx t path) ∧ Ext w w'
set_option maxRecDepth 100000 in
set_option maxHeartbeats 2000000 in
theorem plcR_any : ∀ t : Tr, plcRC t := Tr.ind fun k n ks hk => by
  intro w v u path d hsh hin hP hcn
  have HASK := Lib.hid (fun W (hW : Ext w W) => askRdx1 (.mk k n ks) d hsh W v (hin.ext hW))
  obtain ⟨-, -, -, hsk⟩ := shape_kids hsh
  obtain ⟨A, cap, rfl, hl, hc, hK⟩ := Lies.mk_iff.1 hin
  obtain ⟨i0, hi, hz0, hz1, hz2⟩ := info_parts infoIntP
  obtain ⟨i1, hj, hy0, hy1, hy2⟩ := info_parts infoIntsP
  have hcc := hc
  unfold maxLen at hcc
  simp only [cnt] at hcn
  have hlc := len_le_cnts ks
  have hpl : plc isRdx (.mk k n ks) path = (if isRdx (.mk k n ks) = true then [path] else []) ++ plcs isRdx 0 ks path := by rw [plc]
  obtain ⟨r, hr⟩ : ∃ r, isRdx (.mk k n ks) = r := ⟨_, rfl⟩
  have HASK2 := Lib.hid (show ∀ W, Ext w W → Calls Try.prog 87 #[.agg #[.int .i64 k, .int .i64 n, .slice A ks.length cap]] W fun e w' => e = .returned (.bool r) ∧ Ext W w' from fun W hW => hr ▸ HASK.out W hW)
  rw [hr] at hpl
  rw [hpl]
  clear hpl HASK hr
  have hx0 := (Ext.refl w).alloc (.cells #[.int .i64 k, .int .i64 n, .slice A ks.length cap] 44)
  have HP := Lib.hid (fun W (hW : Ext w W) => hP.ext hW)
  have hus : ∃ B c, u = .slice B path.length c := by
    rcases hP with ⟨rfl, rfl⟩ | ⟨b, o, c, rfl, _⟩
    · exact ⟨none, 0, rfl⟩
    · exact ⟨_, c, rfl⟩
  obtain ⟨Bu, cu, rfl⟩ := hus
  have HCL := Lib.hid (fun W (hW : Ext w W) => cloneInts_any path W _ (HP.out W hW) (by omega))
  obtain ⟨wB, hwB⟩ : ∃ x, x = w.alloc (.cells #[.int .i64 k, .int .i64 n, .slice A ks.length cap] 44) := ⟨_, rfl⟩
  have hbB := heap_alloc_new w (.cells #[.int .i64 k, .int .i64 n, .slice A ks.length cap] 44)
  rw [← hwB] at hx0 hbB
  have loop : ∀ (w2 : World) (x0 : Value) (s0 : List (List Int)), GrowP w w2 55 x0 s0 → Ext wB w2 → s0.length ≤ 1 → True := fun _ _ _ _ _ _ => trivial
  have HLP := Lib.hid (show ∀ s0 : List (List Int), s0 ++ plcs isRdx 0 (ks.take 0) path = s0 from fun s0 => by simp [plcs])
  clear loop hin hP
  cases r with
  | true =>
    rw [if_pos rfl]
    obtain ⟨s0, hs0⟩ : ∃ s, s = [path] := ⟨_, rfl⟩
    rw [← hs0]
    have hsl : s0.length ≤ 1 := by rw [hs0]; simp
    go_enter Try.func86, Try.ntmps86
    go_wp2_with fail
    rw [← hwB]
    refine (HASK2.out _ hx0).mono ?_
    rintro e w1 ⟨rfl, h1⟩
    go_wp2_with fail
    refine (HCL.out _ (hx0.trans h1)).mono ?_
    rintro e w1b ⟨vc, rfl, hvc, h1b⟩
    have hpa := ownsRow_path hvc
    obtain ⟨Bv, cv, rfl, -, -, -⟩ := ownsRow_nums hvc
    have hs1 : w.heap.size < w1.heap.size := lt_of_blk (h1.blk hbB)
    have hx1 := (Ext.refl w1b).alloc (.cells #[.slice Bv path.length cv] 55)
    have hpb : PathAt (w1b.alloc (.cells #[.slice Bv path.length cv] 55)) (fun b => w.heap.size ≤ b ∧ b < (w1b.alloc (.cells #[.slice Bv path.length cv] 55)).heap.size ∧ (Value.slice none 0 0).ownBlock ≠ some b) (.slice Bv path.length cv) path := hpa.mono (fun b hb => ⟨by omega, by simp; omega, by simp [Value.ownBlock]⟩) (fun b hb => hx1.heap b hb.2.1)
    clear hpa hvc
    go_wp2_with (at_builtin; refine wpList_append_path _ rfl (.tmp 13) (.tmp 16) 50 rfl 55 55 i1 _ 24 Try.underlying50 hj hy0 hy1 hy2 (by decide) rfl (W := w) (v := .slice none 0 0) (ps := []) (p := path) rfl (GrowP.nil _ _ _) (by have := h1b.size; simp; omega) hpb rfl (heap_alloc_new _ _) (by simp) ?_)
    intro x0 w2 hG0 hg0 ho0
    have hE0 : Ext wB w2 := ((h1.trans h1b).trans hx1).grown hg0 (by intro k hk; simp [Value.ownBlock] at hk)
    clear hwB h1 h1b hx1 hpb hg0 ho0 hs1
    rw [← hs0] at hG0
    clear hs0
    obtain ⟨z0, z1, z2, -, -, -⟩ := own3 (hE0.blk hbB)
    have lz := lt_of_blk (hE0.blk hbB)
    have HG0 := Lib.hid hG0
    clear hG0 HCL HASK2
    go_wp2_with fail
    clear z0 z1 z2 lz
    go_loopw [7, 21] (fun x i wr => ∃ (j : Nat) (B : Option Addr) (l c : Nat), j ≤ ks.length ∧ i = .int .i64 j ∧ x = .slice B l c ∧ GrowP w wr 55 (.slice B l c) (s0 ++ plcs isRdx 0 (ks.take j) path) ∧ Ext w wr) (fun _ i _ => ks.length - (intOf i).toNat)
    case atStart =>
        obtain ⟨B, c, hBc⟩ := HG0.out.form
        exact ⟨0, B, _, c, Nat.zero_le _, rfl, hBc, by rw [HLP.out s0, ← hBc]; exact HG0.out, hx0.trans hE0⟩
    case round =>
      obtain ⟨j, Bx, lx, cx, hj', rfl, rfl, hG, hx⟩ := hrel
      by_cases hlt : j < ks.length
      · obtain ⟨b, o, k', n', A', cap', kids, rfl, HK, c0, c1, c2, hkl, hkc, hK', hin', hmem⟩ := hK.get hx hlt
        have hcm := cnt_mem hmem
        have hlp1 := plcs_len_le isRdx (ks.take j) 0 path
        have hlp2 := cnts_take ks j
        have hlp3 := plc_len_le isRdx (.mk k' n' kids) (path ++ [(j : Int)])
        have hlt2 : (s0 ++ plcs isRdx 0 (ks.take j) path).length + (plc isRdx (.mk k' n' kids) (path ++ [(j : Int)])).length < 1099511627776 := by rw [List.length_append]; omega
        have hsn : (s0 ++ plcs isRdx 0 (ks.take j) path) ++ plc isRdx (.mk k' n' kids) (path ++ [(j : Int)]) = s0 ++ plcs isRdx 0 (ks.take (j + 1)) path := by
          rw [List.append_assoc, ← List.take_append_getElem hlt, HK.out, plcs_snoc, List.length_take, show min j ks.length = j by omega, Nat.zero_add]
        have HSN := Lib.hid hsn
        have HL2 := Lib.hid hlt2
        clear hsn hlt2 hlp1 hlp2 hlp3
        have hj2 : (j : Int) < (ks.length : Int) := by omega
        go_wp2_with fail
        have hx5 := (Ext.refl wr).alloc (.cells #[.int .i64 k', .int .i64 n', .slice A' kids.length cap'] 44)
        have hb5 := heap_alloc_new wr (.cells #[.int .i64 k', .int .i64 n', .slice A' kids.length cap'] 44)
        have hs5 : wr.heap.size < (wr.alloc (.cells #[.int .i64 k', .int .i64 n', .slice A' kids.length cap'] 44)).heap.size := by simp
        generalize wr.alloc _ = w5 at hx5 hb5 hs5 ⊢
        have hx2 := hx.trans hx5
        have hG5 := hG.ext hx5
        have hin5 := hin'.ext hx5
        have hownx : ∀ g, (Value.slice Bx lx cx).ownBlock = some g → w.heap.size ≤ g ∧ g < wr.heap.size := fun g hg => hG.lt hg
        obtain ⟨d0, d1, d2, -, -, -⟩ := own3 hb5
        have HS := Lib.hid (show ∀ w' : World, w'.heap[wr.heap.size]? = w5.heap[wr.heap.size]? → w'.cell? ⟨wr.heap.size, 0, none⟩ = some (.int .i64 k') ∧ w'.cell? ⟨wr.heap.size, 1, none⟩ = some (.int .i64 n') ∧ w'.cell? ⟨wr.heap.size, 2, none⟩ = some (.slice A' kids.length cap') from fun w' h => ⟨(World.cell?_of_block (a := ⟨wr.heap.size, 0, none⟩) h).trans d0, (World.cell?_of_block (a := ⟨wr.heap.size, 1, none⟩) h).trans d1, (World.cell?_of_block (a := ⟨wr.heap.size, 2, none⟩) h).trans d2⟩)
        have hX5 : Ext w5 w5.drew := (Ext.refl w5).drew
        clear c0 c1 c2 d0 d1 d2 hb5 hin'
        go_region_held_law (fun w' => w'.cell? ⟨wr.heap.size, 0, none⟩ = some (.int .i64 k') ∧ w'.cell? ⟨wr.heap.size, 1, none⟩ = some (.int .i64 n') ∧ w'.cell? ⟨wr.heap.size, 2, none⟩ = some (.slice A' kids.length cap'))
          (first | exact HS.out _ hxd | exact HS.out _ (hxc.heap _ hs5) | exact HS.out _ (hxb.heap _ hs5) | exact HS.out _ ((hxa.alloc _).heap _ hs5) | exact HS.out _ (hxa.heap _ hs5) | exact HS.out _ (hX5.heap _ hs5) | exact HS.out _ ((hX5.alloc _).heap _ hs5) | exact HS.out _ (((Ext.refl w5).alloc _).drew.heap _ hs5))
          (first
            | (go_simp; go_at_call 147; refine (cloneInts_any path _ _ (HP.out _ (by first | exact hx2.drew | exact hx2.drew.alloc _ | exact (hx2.alloc _).drew)) (by omega)).mono ?_; rintro e wa ⟨va, rfl, hva, ha⟩; have hxa : Ext w5 wa := (by first | exact hX5.trans ha | exact (hX5.alloc _).trans ha | exact (((Ext.refl w5).alloc _).drew).trans ha); have hvb0 : wa.ownsRow w5.heap.size 3 1 va path.length (path.map (Value.int .i64)) := ownsRow_since hva (by first | exact hX5.size | exact (hX5.alloc _).size | exact (((Ext.refl w5).alloc _).drew).size); (first | (have hbx := ha.blk (heap_alloc_new w5.drew (.cells #[.int .i64 j] 3))) | (have hbx := ha.blk (heap_alloc_new w5 (.cells #[.int .i64 j] 3))) | (have hbx := trivial)))
            | (refine step_append_one _ (by rfl) (.tmp 29) (.tmp 31) _ (by rfl) w5.heap.size 3 3 i0 _ 8 Try.underlying55 hi hz0 hz1 hz2 (by decide) rfl (y := .int .i64 j) rfl (by rfl) (by first | exact hvb0 | exact ((Ext.refl _).alloc _).ownsRow hvb0) (by rfl) (by first | exact heap_alloc_new _ _ | exact hbx) (by omega) (by first | exact hxa.size | exact (hxa.alloc _).size) ?_; intro vb wb hvb hgb hob; have hq : wb.ownsRow w5.heap.size 3 1 vb (path ++ [(j : Int)]).length ((path ++ [(j : Int)]).map (Value.int .i64)) := (by simpa using hvb); have hxb : Ext w5 wb := (by first | exact hxa.grown hgb (fun k hk => (hvb0.lt k hk).1) | exact (hxa.alloc _).grown hgb (fun k hk => (hvb0.lt k hk).1)))
            | (go_simp; go_at_call 86; refine (hk _ hmem _ _ _ _ (d - 1) (hsk _ hmem) (hin5.ext hxb) (ownsRow_pathL hq) (by simp; omega)).mono ?_; rintro e wc ⟨vc, rfl, hGc, hc'⟩; have hxc : Ext w5 wc := hxb.trans hc')
            | (refine step_append_paths _ (by rfl) (.tmp 26) (.tmp 34) _ (by rfl) 55 i1 _ 24 Try.underlying50 hj hy0 hy1 hy2 (by decide) rfl (W := w) (W1 := wb) (by rfl) (hG5.ext hxc) (hx2.trans hxc).size (by rfl) hGc (fun g hg => by have := (hownx g hg).2; have := hxb.size; omega) (hx2.trans hxb).size HL2.out ?_; intro x6 w6 hG6 hg6 ho6; have hxd : w6.heap[wr.heap.size]? = w5.heap[wr.heap.size]? := (hg6.block _ (by have := hxc.size; omega) (fun he => by have := (hownx _ he.symm).2; omega)).trans (hxc.heap _ hs5)))
        all_goals (
          have hx6 : Ext w w6 := (hx2.trans hxc).grown hg6 (fun g hg => (hownx g hg).1)
          rw [HSN.out] at hG6
          obtain ⟨B6, l6, c6, rfl⟩ := hG6.form3
          clear hxd hgb hob hvb hq hva hxa hvb0 hbx hxb hg6 ho6 hGc hxc hc' ha HS hs5 hX5 hin5 hG5 hx2 hownx
          go_wp2_with fail
          go_roundw
          case rel => exact ⟨j + 1, B6, l6, c6, by omega, by go_num, rfl, hG6, hx6⟩
          case measure => simp [intOf]; omega)
      · rw [show j = ks.length from by omega, List.take_length] at hG
        go_wp2_with fail
        go_ret
        exact ⟨_, rfl, hG, hx⟩
  | false =>
    rw [if_neg (by decide)]
    obtain ⟨s0, hs0⟩ : ∃ s : List (List Int), s = [] := ⟨_, rfl⟩
    rw [← hs0]
    go_enter Try.func86, Try.ntmps86
    go_wp2_with fail
    rw [← hwB]
    refine (HASK2.out _ hx0).mono ?_
    rintro e w2 ⟨rfl, hE0⟩
    clear hwB
    have hsl : s0.length ≤ 1 := by rw [hs0]; simp
    have hG0 : GrowP w w2 55 (.slice none 0 0) s0 := hs0 ▸ GrowP.nil w w2 55
    clear hs0
    obtain ⟨z0, z1, z2, -, -, -⟩ := own3 (hE0.blk hbB)
    have lz := lt_of_blk (hE0.blk hbB)
    have HG0 := Lib.hid hG0
    clear hG0 HCL HASK2
    go_wp2_with fail
    clear z0 z1 z2 lz
    go_loopw [7, 21] (fun x i wr => ∃ (j : Nat) (B : Option Addr) (l c : Nat), j ≤ ks.length ∧ i = .int .i64 j ∧ x = .slice B l c ∧ GrowP w wr 55 (.slice B l c) (s0 ++ plcs isRdx 0 (ks.take j) path) ∧ Ext w wr) (fun _ i _ => ks.length - (intOf i).toNat)
    case atStart =>
        obtain ⟨B, c, hBc⟩ := HG0.out.form
        exact ⟨0, B, _, c, Nat.zero_le _, rfl, hBc, by rw [HLP.out s0, ← hBc]; exact HG0.out, hx0.trans hE0⟩
    case round =>
      obtain ⟨j, Bx, lx, cx, hj', rfl, rfl, hG, hx⟩ := hrel
      by_cases hlt : j < ks.length
      · obtain ⟨b, o, k', n', A', cap', kids, rfl, HK, c0, c1, c2, hkl, hkc, hK', hin', hmem⟩ := hK.get hx hlt
        have hcm := cnt_mem hmem
        have hlp1 := plcs_len_le isRdx (ks.take j) 0 path
        have hlp2 := cnts_take ks j
        have hlp3 := plc_len_le isRdx (.mk k' n' kids) (path ++ [(j : Int)])
        have hlt2 : (s0 ++ plcs isRdx 0 (ks.take j) path).length + (plc isRdx (.mk k' n' kids) (path ++ [(j : Int)])).length < 1099511627776 := by rw [List.length_append]; omega
        have hsn : (s0 ++ plcs isRdx 0 (ks.take j) path) ++ plc isRdx (.mk k' n' kids) (path ++ [(j : Int)]) = s0 ++ plcs isRdx 0 (ks.take (j + 1)) path := by
          rw [List.append_assoc, ← List.take_append_getElem hlt, HK.out, plcs_snoc, List.length_take, show min j ks.length = j by omega, Nat.zero_add]
        have HSN := Lib.hid hsn
        have HL2 := Lib.hid hlt2
        clear hsn hlt2 hlp1 hlp2 hlp3
        have hj2 : (j : Int) < (ks.length : Int) := by omega
        go_wp2_with fail
        have hx5 := (Ext.refl wr).alloc (.cells #[.int .i64 k', .int .i64 n', .slice A' kids.length cap'] 44)
        have hb5 := heap_alloc_new wr (.cells #[.int .i64 k', .int .i64 n', .slice A' kids.length cap'] 44)
        have hs5 : wr.heap.size < (wr.alloc (.cells #[.int .i64 k', .int .i64 n', .slice A' kids.length cap'] 44)).heap.size := by simp
        generalize wr.alloc _ = w5 at hx5 hb5 hs5 ⊢
        have hx2 := hx.trans hx5
        have hG5 := hG.ext hx5
        have hin5 := hin'.ext hx5
        have hownx : ∀ g, (Value.slice Bx lx cx).ownBlock = some g → w.heap.size ≤ g ∧ g < wr.heap.size := fun g hg => hG.lt hg
        obtain ⟨d0, d1, d2, -, -, -⟩ := own3 hb5
        have HS := Lib.hid (show ∀ w' : World, w'.heap[wr.heap.size]? = w5.heap[wr.heap.size]? → w'.cell? ⟨wr.heap.size, 0, none⟩ = some (.int .i64 k') ∧ w'.cell? ⟨wr.heap.size, 1, none⟩ = some (.int .i64 n') ∧ w'.cell? ⟨wr.heap.size, 2, none⟩ = some (.slice A' kids.length cap') from fun w' h => ⟨(World.cell?_of_block (a := ⟨wr.heap.size, 0, none⟩) h).trans d0, (World.cell?_of_block (a := ⟨wr.heap.size, 1, none⟩) h).trans d1, (World.cell?_of_block (a := ⟨wr.heap.size, 2, none⟩) h).trans d2⟩)
        have hX5 : Ext w5 w5.drew := (Ext.refl w5).drew
        clear c0 c1 c2 d0 d1 d2 hb5 hin'
        go_region_held_law (fun w' => w'.cell? ⟨wr.heap.size, 0, none⟩ = some (.int .i64 k') ∧ w'.cell? ⟨wr.heap.size, 1, none⟩ = some (.int .i64 n') ∧ w'.cell? ⟨wr.heap.size, 2, none⟩ = some (.slice A' kids.length cap'))
          (first | exact HS.out _ hxd | exact HS.out _ (hxc.heap _ hs5) | exact HS.out _ (hxb.heap _ hs5) | exact HS.out _ ((hxa.alloc _).heap _ hs5) | exact HS.out _ (hxa.heap _ hs5) | exact HS.out _ (hX5.heap _ hs5) | exact HS.out _ ((hX5.alloc _).heap _ hs5) | exact HS.out _ (((Ext.refl w5).alloc _).drew.heap _ hs5))
          (first
            | (go_simp; go_at_call 147; refine (cloneInts_any path _ _ (HP.out _ (by first | exact hx2.drew | exact hx2.drew.alloc _ | exact (hx2.alloc _).drew)) (by omega)).mono ?_; rintro e wa ⟨va, rfl, hva, ha⟩; have hxa : Ext w5 wa := (by first | exact hX5.trans ha | exact (hX5.alloc _).trans ha | exact (((Ext.refl w5).alloc _).drew).trans ha); have hvb0 : wa.ownsRow w5.heap.size 3 1 va path.length (path.map (Value.int .i64)) := ownsRow_since hva (by first | exact hX5.size | exact (hX5.alloc _).size | exact (((Ext.refl w5).alloc _).drew).size); (first | (have hbx := ha.blk (heap_alloc_new w5.drew (.cells #[.int .i64 j] 3))) | (have hbx := ha.blk (heap_alloc_new w5 (.cells #[.int .i64 j] 3))) | (have hbx := trivial)))
            | (refine step_append_one _ (by rfl) (.tmp 29) (.tmp 31) _ (by rfl) w5.heap.size 3 3 i0 _ 8 Try.underlying55 hi hz0 hz1 hz2 (by decide) rfl (y := .int .i64 j) rfl (by rfl) (by first | exact hvb0 | exact ((Ext.refl _).alloc _).ownsRow hvb0) (by rfl) (by first | exact heap_alloc_new _ _ | exact hbx) (by omega) (by first | exact hxa.size | exact (hxa.alloc _).size) ?_; intro vb wb hvb hgb hob; have hq : wb.ownsRow w5.heap.size 3 1 vb (path ++ [(j : Int)]).length ((path ++ [(j : Int)]).map (Value.int .i64)) := (by simpa using hvb); have hxb : Ext w5 wb := (by first | exact hxa.grown hgb (fun k hk => (hvb0.lt k hk).1) | exact (hxa.alloc _).grown hgb (fun k hk => (hvb0.lt k hk).1)))
            | (go_simp; go_at_call 86; refine (hk _ hmem _ _ _ _ (d - 1) (hsk _ hmem) (hin5.ext hxb) (ownsRow_pathL hq) (by simp; omega)).mono ?_; rintro e wc ⟨vc, rfl, hGc, hc'⟩; have hxc : Ext w5 wc := hxb.trans hc')
            | (refine step_append_paths _ (by rfl) (.tmp 26) (.tmp 34) _ (by rfl) 55 i1 _ 24 Try.underlying50 hj hy0 hy1 hy2 (by decide) rfl (W := w) (W1 := wb) (by rfl) (hG5.ext hxc) (hx2.trans hxc).size (by rfl) hGc (fun g hg => by have := (hownx g hg).2; have := hxb.size; omega) (hx2.trans hxb).size HL2.out ?_; intro x6 w6 hG6 hg6 ho6; have hxd : w6.heap[wr.heap.size]? = w5.heap[wr.heap.size]? := (hg6.block _ (by have := hxc.size; omega) (fun he => by have := (hownx _ he.symm).2; omega)).trans (hxc.heap _ hs5)))
        all_goals (
          have hx6 : Ext w w6 := (hx2.trans hxc).grown hg6 (fun g hg => (hownx g hg).1)
          rw [HSN.out] at hG6
          obtain ⟨B6, l6, c6, rfl⟩ := hG6.form3
          clear hxd hgb hob hvb hq hva hxa hvb0 hbx hxb hg6 ho6 hGc hxc hc' ha HS hs5 hX5 hin5 hG5 hx2 hownx
          go_wp2_with fail
          go_roundw
          case rel => exact ⟨j + 1, B6, l6, c6, by omega, by go_num, rfl, hG6, hx6⟩
          case measure => simp [intOf]; omega)
      · rw [show j = ks.length from by omega, List.take_length] at hG
        go_wp2_with fail
        go_ret
        exact ⟨_, rfl, hG, hx⟩
end Go.Proofs.Ytappakllopkfiaa

/-
  Drawing the arguments of RedexPlaces and PlacesOf.
-/
import Derived.Test.YtappakllopkfiaaParse7
import Derived.Test.YtappakllopkfiaaDrawFun
import Derived.Deep.RegionLaw
import Derived.Deep.DrawnRows
import Derived.Test.YtappakllopkfiaaCopy
namespace Go.Proofs.Ytappakllopkfiaa
open Go.RowKit
set_option linter.unusedVariables false
attribute [local go_sem ↓] Go.wp_at_zero Go.wp_at_succ

theorem From.only {B : Nat} {w w' : World} {t : Tr} {v : Value} {L : List Nat} (h : From B w t v) (ho : Only L w w') (hL : ∀ b, b ∈ L → b < B) : From B w' t v :=
  h.mono (fun b hb => ⟨hb.1, Nat.lt_of_lt_of_le hb.2 ho.size⟩) (fun b hb => ho.block b hb.2 (fun hm => by have := hL b hm; omega))
theorem of_any (P : ByteArray → Prop) (w : World) (g m : Nat) (h : Rd w g m) (hm : m < 1125899906842624) (b o n cap : Nat) (hl : n ≤ cap) (hc : cap ≤ maxLen) (hns : 0 < n) (hbg : b ≠ g) (hb : b < w.heap.size)
    (hN : ∀ j, j < n → ∃ s, w.cell? ⟨b, o + j, none⟩ = some (.string s) ∧ P s) : Calls Try.prog 166 #[.pointer (some ⟨g, 0, none⟩), .slice (some ⟨b, o, none⟩) n cap] w fun e w' =>
    ∃ s : ByteArray, e = .returned (.string s) ∧ P s ∧ Rd w' g (m + 1) ∧ Only [g] w w' := by
  unfold maxLen at hc
  have HN := Lib.hid hN
  clear hN
  go_enter Try.func166, Try.ntmps166
  go_wp2_with fail
  refine (pick_any w g m n h hm).mono ?_
  rintro e w1 ⟨i, rfl, h0, h1, hR, hon⟩
  obtain ⟨j, rfl⟩ := Int.eq_ofNat_of_zero_le h0
  have hj : j < n := by omega
  obtain ⟨s, hs, hP⟩ := HN.out j hj
  have hcj : w1.cell? ⟨b, o + j, none⟩ = some (.string s) := (World.cell?_of_block (w := w) (a := ⟨b, o + j, none⟩) (hon.block b hb (by simpa using hbg))).trans hs
  clear hs
  go_wp2_with fail
  go_ret
  exact ⟨s, rfl, hP, hR, hon⟩
/-- How many numbers the drawing of a term of some depth takes at most. -/
def nd : Nat → Nat
  | 0 => 3
  | d + 1 => 3 + 4 * nd d
theorem infoTermD : (Try.prog.info? 44).map (fun i => (i.zero, i.size, i.bytes)) = some (some (.agg #[.int .i64 0, .int .i64 0, .slice none 0 0]), 3, 40) := by kernel_rfl
def DrawC (d : Nat) : Prop := ∀ (w : World) (g m : Nat), Rd w g m → m + nd d < 1000000 → Calls Try.prog 188 #[.pointer (some ⟨g, 0, none⟩), .int .i64 d] w fun e w' => ∃ t u, e = .returned u ∧ From w.heap.size w' t u ∧ Rd w' g (m + nd d) ∧ Only [g] w w'
theorem nums_lit {w : World} {cs : Array Value} {e : TypeId} {ns : List Int} (hc : cs.toList = ns.map (Value.int .i64)) : Nums (w.alloc (.cells cs e)) (some ⟨w.heap.size, 0, none⟩) ns := nums_of_row (heap_alloc_new w _) hc
theorem opsT_01 {k : Int} : -1 ≤ opsT k ∧ opsT k ≤ 4 := by
  unfold opsT
  repeat' split
  all_goals omega
theorem Only.setNew {L : List Nat} {a w : World} (h : Only L a w) {p : Addr} (hp : a.heap.size ≤ p.block) (u : Value) : Only L a (w.setCell p u) :=
  ⟨h.os, h.tape, h.output, by simpa using h.size, fun i hi hn => (Below.heap_setCell w p u i (by omega)).trans (h.block i hi hn)⟩
theorem Rd.set {w : World} {g m : Nat} (h : Rd w g m) {p : Addr} (hp : g < p.block) (u : Value) : Rd (w.setCell p u) g m := by
  obtain ⟨A, cap, bs, q, hb, h1, h2, h3, h4, hB⟩ := h
  exact ⟨A, cap, bs, q, blk_setCell_ne hb (by omega) u, h1, h2, h3, h4, hB.below (by simp) (fun b hb _ => Below.heap_setCell w p u b (by omega))⟩
theorem draw_at {d : Nat} (ih : 2 ≤ d → DrawC (d - 1)) (hd2 : 2 ≤ d) (w : World) (g m : Nat) (hR : Rd w g m) (hm : m + nd (d - 1) < 1000000) : Calls Try.prog 188 #[.pointer (some ⟨g, 0, none⟩), .int .i64 ((d : Int) - 1)] w fun e w' => ∃ t u, e = .returned u ∧ From w.heap.size w' t u ∧ Rd w' g (m + nd (d - 1)) ∧ Only [g] w w' := by
  rw [show (d : Int) - 1 = ((d - 1 : Nat) : Int) by omega]
  exact ih hd2 w g m hR hm
theorem Only.one (w : World) (g i : Nat) (u : Value) : Only [g] w (w.setCell ⟨g, i, none⟩ u) := (Only.refl [g] w).setCell (by simp) u
theorem nd_step {d : Nat} (h : 2 ≤ d) : nd d = 3 + 4 * nd (d - 1) := by
  cases d with
  | zero => omega
  | succ d => rfl
theorem Rd.under {w w' : World} {g m B : Nat} (h : Rd w g m) (hb : Below B w w') (hB : g < B) : Rd w' g m := by
  obtain ⟨A, cap, bs, q, hk, h1, h2, h3, h4, hy⟩ := h
  exact ⟨A, cap, bs, q, (hb.block g hB).trans hk, h1, h2, h3, h4, hy.below hb.size (fun b hlt _ => hb.block b (by omega))⟩
theorem nd_le : ∀ d, d ≤ 3 → nd d ≤ 255
  | 0, _ => by decide
  | 1, _ => by decide
  | 2, _ => by decide
  | 3, _ => by decide
theorem opsT_leaf {k : Int} (h : k ∈ [(1 : Int), 7, 6, 2, 1]) : opsT k ≤ 0 := by
  simp only [List.mem_cons, List.not_mem_nil, or_false] at h
  rcases h with rfl | rfl | rfl | rfl | rfl <;> decide
theorem Only.keepBlk {L : List Nat} {w w' : World} {b : Nat} {x : Obj} (ho : Only L w w') (h : w.heap[b]? = some x) (hn : ¬ b ∈ L) : w'.heap[b]? = some x := (ho.block b (lt_of_blk h) hn).trans h
set_option maxRecDepth 100000 in
set_option maxHeartbeats 8000000 in
theorem l1Draw_step (d : Nat) (hd : d ≤ 4) (ih : 2 ≤ d → DrawC (d - 1)) : DrawC d := by
  intro w g m hR hm
  have hgl := hR.lt
  obtain ⟨i0, hi, hz0, hz1, hz2⟩ := info_parts infoTermD
  obtain ⟨w1, hw1⟩ : ∃ w1, w1 = (w.alloc (.cells #[.int .i64 0, .int .i64 0, .slice none 0 0] 44)).alloc (.cells #[.int .i64 1, .int .i64 5, .int .i64 4, .int .i64 8, .int .i64 9, .int .i64 3, .int .i64 6, .int .i64 7, .int .i64 11, .int .i64 15, .int .i64 14, .int .i64 10, .int .i64 12, .int .i64 13, .int .i64 16, .int .i64 2] 3) := ⟨_, rfl⟩
  have hx1 : Ext w w1 := hw1 ▸ ((Ext.refl w).alloc _).alloc _
  have b41 : w1.heap[w.heap.size]? = some (.cells #[.int .i64 0, .int .i64 0, .slice none 0 0] 44 (0, 0)) := by rw [hw1]; exact (blk2 (Ext.refl _)).1
  have hN1 : Nums w1 (some ⟨w.heap.size + 1, 0, none⟩) [1, 5, 4, 8, 9, 3, 6, 7, 11, 15, 14, 10, 12, 13, 16, 2] := by
    rw [hw1]
    have := nums_lit (w := w.alloc (.cells #[.int .i64 0, .int .i64 0, .slice none 0 0] 44)) (cs := #[.int .i64 1, .int .i64 5, .int .i64 4, .int .i64 8, .int .i64 9, .int .i64 3, .int .i64 6, .int .i64 7, .int .i64 11, .int .i64 15, .int .i64 14, .int .i64 10, .int .i64 12, .int .i64 13, .int .i64 16, .int .i64 2]) (e := 3) (ns := [1, 5, 4, 8, 9, 3, 6, 7, 11, 15, 14, 10, 12, 13, 16, 2]) rfl
    simpa using this
  go_enter Try.func188, Try.ntmps188
  go_wp2_with fail
  rw [← hw1]
  refine (num_any _ g m (hR.ext hx1) (by omega) _ 16 [1, 5, 4, 8, 9, 3, 6, 7, 11, 15, 14, 10, 12, 13, 16, 2] (by simp) (by decide) (by simp) hN1 (by intro b o hb; simp at hb; omega)).mono ?_
  rintro e w2 ⟨kind, rfl, -, hR2, ho2⟩
  have hO2 : Only [g] w w2 := (Only.of_ext hx1).trans ho2
  have b42 := ho2.keepBlk b41 (by simp; omega)
  clear hw1 hN1 b41
  by_cases hlow : d < 2
  · have t0 : decide ((d : Int) < 2) = true := decide_eq_true (by omega)
    have hx3 := (Ext.refl w2).alloc (.cells #[.int .i64 1, .int .i64 7, .int .i64 6, .int .i64 2, .int .i64 1] 3)
    go_wp2_with fail
    refine (num_any _ g _ (hR2.ext hx3) (by omega) _ 5 [1, 7, 6, 2, 1] (by simp) (by decide) (by simp) (nums_lit rfl) (by intro b o hb; simp at hb; have := hO2.size; omega)).mono ?_
    rintro e wK ⟨kd, rfl, hmem, hRK, hoK⟩
    have hk0 : d < 2 → opsT kd ≤ 0 := fun _ => opsT_leaf hmem
    have hOK := (hO2.trans (Only.of_ext hx3)).trans hoK
    have b4K := hoK.keepBlk (hx3.blk b42) (by simp; omega)
    clear hmem hO2 b42 hx3 hR2 ho2 hoK
    go_wp2_with fail
    obtain ⟨wM, hwM⟩ : ∃ wM, wM = wK.alloc (.cells #[.int .i64 kd, .int .i64 0, .slice none 0 0] 44) := ⟨_, rfl⟩
    have hxM : Ext wK wM := hwM ▸ (Ext.refl wK).alloc _
    have b6M : wM.heap[wK.heap.size]? = some (.cells #[.int .i64 kd, .int .i64 0, .slice none 0 0] 44 (0, 0)) := hwM ▸ heap_alloc_new wK _
    have b4M := hxM.blk b4K
    have hRM := hRK.ext hxM
    have hOM := hOK.trans (Only.of_ext (L := [g]) hxM)
    obtain ⟨g6, hg6⟩ : ∃ g6, g6 = wK.heap.size := ⟨_, rfl⟩
    have hw6 : w.heap.size < g6 := by rw [hg6]; exact lt_of_blk b4K
    rw [← hwM]
    rw [← hg6] at b6M ⊢
    clear hwM hxM b4K hRK hOK hg6
    refine (specmostT kd _).mono ?_
    rintro e wu ⟨rfl, rfl⟩
    by_cases hmost : 0 < mostT kd
    · have t2 : decide (0 < mostT kd) = true := decide_eq_true hmost
      have hx4 := (Ext.refl wM).alloc (.cells #[.int .i64 0, .int .i64 1, .int .i64 0, .int .i64 2, .int .i64 1, .int .i64 3] 3)
      go_wp2_with fail
      refine (num_any _ g _ (hRM.ext hx4) (by omega) _ 6 [0, 1, 0, 2, 1, 3] (by simp) (by decide) (by simp) (nums_lit rfl) (by intro b o hb; simp at hb; have := hOM.size; omega)).mono ?_
      rintro e w4 ⟨x, rfl, -, hR4, ho4⟩
      have b64 := ho4.keepBlk (hx4.blk b6M) (by simp; omega)
      have b44 := ho4.keepBlk (hx4.blk b4M) (by simp; omega)
      have hO4 := (hOM.trans (Only.of_ext (L := [g]) hx4)).trans ho4
      obtain ⟨v0, v1, v2, f0, f1, f2⟩ := own3 b64
      clear hR b6M b4M hRM hOM hx4 ho4
      go_wp2_with fail
      have b6L := blk_setCell b64 1 (.int .i64 x)
      have b4L := blk_setCell_ne b44 (p := ⟨g6, 1, none⟩) (by show w.heap.size ≠ g6; omega) (.int .i64 x)
      have hRL : Rd (w4.setCell ⟨g6, 1, none⟩ (.int .i64 x)) g (m + 3) := (hR4.set (by show g < g6; omega) _).mono (by omega)
      have hOL := hO4.setNew (p := ⟨g6, 1, none⟩) (by show w.heap.size ≤ g6; omega) (.int .i64 x)
      obtain ⟨W, hW⟩ : ∃ W, W = w4.setCell ⟨g6, 1, none⟩ (.int .i64 x) := ⟨_, rfl⟩
      rw [← hW] at b4L b6L hRL hOL ⊢
      clear hW v0 v1 v2 f0 f1 f2 b64 b44 hO4 hR4
      have hlt6 : g6 < W.heap.size := lt_of_blk b6L
      have hltw : w.heap.size < g6 := hw6
      have hgw : g < w.heap.size := hgl
      go_loopw [7] (fun i wr => ∃ (j : Nat) (v : Value) (ts : List Tr), i = .int .i64 j ∧ j ≤ 4 ∧ (j : Int) ≤ max 0 (opsT kd) ∧ wr.heap[g6]? = some (.cells #[.int .i64 kd, .int .i64 x, v] 44 (0, 0)) ∧ wr.heap[w.heap.size]? = some (.cells #[.int .i64 0, .int .i64 0, .slice none 0 0] 44 (0, 0)) ∧ GrowS (fun b => b < W.heap.size) W wr 44 v ts ∧ ts.length = j ∧ Rd wr g (m + 3 + j * nd (d - 1)) ∧ Only [g] w wr ∧ W.heap.size ≤ wr.heap.size) (fun i _ => 5 - (intOf i).toNat)
      case atStart => exact ⟨0, _, [], rfl, by omega, by omega, b6L, b4L, GrowS.nil _ _ _ _, rfl, by simpa using hRL, hOL, Nat.le_refl _⟩
      case round =>
        obtain ⟨j, v, ts, rfl, hj, hjk, hb6, hb4, hG, htl, hRd, hO, hle⟩ := hrel
        have HTL := Lib.hid htl
        have htl4 : ts.length ≤ 4 := by omega
        clear htl
        by_cases hlt : (j : Int) < opsT kd
        · have t1 : decide ((j : Int) < opsT kd) = true := decide_eq_true hlt
          have hop4 := (opsT_01 (k := kd)).2
          have hd2 : 2 ≤ d := by
            rcases Nat.lt_or_ge d 2 with h | h
            · have := hk0 h; omega
            · exact h
          have hj3 : j ≤ 3 := by omega
          have hmul : j * nd (d - 1) ≤ 3 * 255 := Nat.mul_le_mul hj3 (nd_le (d - 1) (by omega))
          have hnd : nd d = 3 + 4 * nd (d - 1) := nd_step hd2
          have hmul2 : j * nd (d - 1) ≤ 3 * nd (d - 1) := Nat.mul_le_mul_right _ hj3
          have HIc := Lib.hid (fun w' (hw : Ext wr w') => draw_at ih hd2 w' g _ (hRd.ext hw) (by omega))
          have HSTEP := Lib.hid (show m + 3 + j * nd (d - 1) + nd (d - 1) = m + 3 + (j + 1) * nd (d - 1) from by rw [Nat.add_mul]; omega)
          have HGr := Lib.hid hG
          have HWR := Lib.hid (IntWalk.i64_in ((d : Int) - 1) ⟨by omega, by omega⟩)
          have hv := cell_of_blk hb6 2
          have hv3 : ∃ B c, v = .slice B ts.length c := by
            obtain ⟨B, c, hv, -⟩ := hG.lies (fun b hb => hb)
            exact ⟨B, c, hv⟩
          obtain ⟨Bv, cv, rfl⟩ := hv3
          have hown : ∀ q, (Value.slice Bv ts.length cv).ownBlock = some q → q < wr.heap.size := by
            obtain ⟨xs, g1, -⟩ := hG
            exact fun q hq => (g1.lt q hq).2
          have HOWN := Lib.hid hown
          have HB6 := Lib.hid hb6
          have HB4 := Lib.hid hb4
          clear hb4 hmul hG hown hb6 hmul2 hnd
          go_wp2_with fail
          refine (specopsT kd _).mono ?_
          rintro e wu ⟨rfl, rfl⟩
          go_wp2_with fail
          go_region_law (first
            | (go_simp; go_at_call 188; (try rw [HWR.out]); (with_reducible refine (HIc.out _ (Ext.refl wr).drew).mono ?_); rintro e w5 ⟨t, u, rfl, hF5, hR5, ho5⟩; obtain ⟨k5, n5, A5, l5, c5, rfl⟩ := hF5.three; have hs5 : wr.heap.size ≤ w5.heap.size := ho5.size; have b65 : w5.heap[g6]? = some (.cells #[.int .i64 kd, .int .i64 x, .slice Bv ts.length cv] 44 (0, 0)) := ho5.keepBlk HB6.out (by simp; omega); have b45 : w5.heap[w.heap.size]? = some (.cells #[.int .i64 0, .int .i64 0, .slice none 0 0] 44 (0, 0)) := ho5.keepBlk HB4.out (by simp; omega); have hv5 := cell_of_blk b65 2; have hs56 : g6 < w5.heap.size := lt_of_blk b65)
            | (refine step_append_treeS _ (by rfl) (.tmp 32) (.tmp 37) _ (by rfl) 44 i0 _ Try.underlying42 hi hz0 hz1 hz2 rfl (by rfl) (X := fun b => b < W.heap.size) (W := W) (tr := t) (((HGr.out.ext (Ext.refl wr).drew).only ho5 (by intro b hb; rw [List.mem_singleton.1 hb]; omega) (fun b hb => hb)).ext ((Ext.refl w5).alloc _)) (by simp; omega) ((hF5.ext ((Ext.refl w5).alloc _)).mono (fun b hb => ⟨hb.2, fun h => by have := HOWN.out b h; have h2 : wr.heap.size ≤ b := hb.1; omega, by have h2 : wr.heap.size ≤ b := hb.1; omega⟩) (fun _ _ => rfl)) (by rfl) (heap_alloc_new _ _) (by omega) ?_ (fun b hb => hb); intro v' w6 hG6 hB6; obtain ⟨B6, c6, rfl, r1, r2, -, -⟩ := hG6.lies (fun b hb => hb); have b66 := (hB6.block g6 (by omega)).trans (((Ext.refl w5).alloc (.cells #[.int .i64 k5, .int .i64 n5, .slice A5 l5 c5] 44)).blk b65); have hv6 := cell_of_blk b66 2; have hf6 := frozen_of_blk b66 2))
          all_goals (
            have hO6 : Only [g] w w6 := (((hO.trans (Only.of_ext (L := [g]) (Ext.refl wr).drew)).trans ho5).trans (Only.of_ext (L := [g]) ((Ext.refl w5).alloc (.cells #[.int .i64 k5, .int .i64 n5, .slice A5 l5 c5] 44)))).below hB6 (by omega)
            have hR6 : Rd w6 g (m + 3 + (j + 1) * nd (d - 1)) := by rw [← HSTEP.out]; exact (hR5.ext ((Ext.refl w5).alloc (.cells #[.int .i64 k5, .int .i64 n5, .slice A5 l5 c5] 44))).under hB6 (by omega)
            have b46 := (hB6.block w.heap.size (by omega)).trans (((Ext.refl w5).alloc (.cells #[.int .i64 k5, .int .i64 n5, .slice A5 l5 c5] 44)).blk b45)
            have hsz6 : W.heap.size ≤ w6.heap.size := by have := hB6.size; simp at this; omega
            rw [List.length_append, List.length_singleton] at hG6
            have HG6 := Lib.hid hG6
            have HR6 := Lib.hid hR6
            have HB66 := Lib.hid b66
            have HB46 := Lib.hid b46
            clear hG6 hR6 b66 b46 hB6 b65 b45 hv5
            go_wp2_with fail
            go_roundw
            case rel => exact ⟨j + 1, _, ts ++ [t], by go_num, by omega, by omega, blk_setCell HB66.out 2 _, blk_setCell_ne HB46.out (by show w.heap.size ≠ g6; omega) _, HG6.out.only (Only.one w6 g6 2 _) (by intro b hb; rw [List.mem_singleton.1 hb]; omega) (fun b hb => hb), by rw [List.length_append, HTL.out]; rfl, HR6.out.set (by show g < g6; omega) _, hO6.setNew (by show w.heap.size ≤ g6; omega) _, by simpa using hsz6⟩
            case measure => simp [intOf]; omega)
        · have t1 : decide ((j : Int) < opsT kd) = false := decide_eq_false hlt
          obtain ⟨Bv, cv, rfl, h1, h2, hK, -⟩ := hG.lies (fun b hb => hb)
          obtain ⟨r0, r1, r2, -, -, -⟩ := own3 hb6
          obtain ⟨s0, s1, s2, f0, f1, f2⟩ := own3 hb4
          have hFK : FromK (w.heap.size + 1) wr Bv ts := hK.mono (fun b hb => ⟨by omega, hb.1⟩) (fun _ _ => rfl)
          have hmul : j * nd (d - 1) ≤ 4 * nd (d - 1) := Nat.mul_le_mul_right _ hj
          have hndd : d = 0 ∨ nd d = 3 + 4 * nd (d - 1) := by
            cases d with
            | zero => exact .inl rfl
            | succ d => exact .inr rfl
          have hj0 : d = 0 → j = 0 := fun h => by have := hk0 (by omega); omega
          have hRf : Rd wr g (m + nd d) := hRd.mono (by
            rcases hndd with h | h
            · have := hj0 h; subst h; subst this; simp [nd]
            · omega)
          have HRf := Lib.hid hRf
          clear hb6 hG hmul hndd hj0
          go_wp2_with fail
          refine (specopsT kd _).mono ?_
          rintro e wu ⟨rfl, rfl⟩
          go_wp2_with fail
          refine bodyPost_ret (v := .agg #[.int .i64 kd, .int .i64 x, .slice Bv ts.length cv]) (by simp [results, Try.results188, go_sem, s0, s1, s2]) rfl ⟨.mk kd x ts, _, rfl, ?_, ?_, ?_⟩
          · exact ((((From.mk kd x hFK h1 h2).set (by simp) _).set (by simp) _).set (by simp) _).since (by omega)
          · exact (((HRf.out.set (by simpa using hgw) _).set (by simpa using hgw) _).set (by simpa using hgw) _)
          · exact ((hO.setNew (by simp) _).setNew (by simp) _).setNew (by simp) _
    · have t2 : decide (0 < mostT kd) = false := decide_eq_false hmost
      obtain ⟨x, hx⟩ : ∃ x : Int, x = 0 := ⟨_, rfl⟩
      go_wp2_with fail
      rw [← hx] at b6M
      have b6L := b6M
      have b4L := b4M
      have hRL : Rd wM g (m + 3) := hRM.mono (by omega)
      have hOL := hOM
      obtain ⟨W, hW⟩ : ∃ W, W = wM := ⟨_, rfl⟩
      rw [← hW] at b4L b6L hRL hOL ⊢
      clear hW hx b6M b4M hRM hOM hR
      have hlt6 : g6 < W.heap.size := lt_of_blk b6L
      have hltw : w.heap.size < g6 := hw6
      have hgw : g < w.heap.size := hgl
      go_loopw [7] (fun i wr => ∃ (j : Nat) (v : Value) (ts : List Tr), i = .int .i64 j ∧ j ≤ 4 ∧ (j : Int) ≤ max 0 (opsT kd) ∧ wr.heap[g6]? = some (.cells #[.int .i64 kd, .int .i64 x, v] 44 (0, 0)) ∧ wr.heap[w.heap.size]? = some (.cells #[.int .i64 0, .int .i64 0, .slice none 0 0] 44 (0, 0)) ∧ GrowS (fun b => b < W.heap.size) W wr 44 v ts ∧ ts.length = j ∧ Rd wr g (m + 3 + j * nd (d - 1)) ∧ Only [g] w wr ∧ W.heap.size ≤ wr.heap.size) (fun i _ => 5 - (intOf i).toNat)
      case atStart => exact ⟨0, _, [], rfl, by omega, by omega, b6L, b4L, GrowS.nil _ _ _ _, rfl, by simpa using hRL, hOL, Nat.le_refl _⟩
      case round =>
        obtain ⟨j, v, ts, rfl, hj, hjk, hb6, hb4, hG, htl, hRd, hO, hle⟩ := hrel
        have HTL := Lib.hid htl
        have htl4 : ts.length ≤ 4 := by omega
        clear htl
        by_cases hlt : (j : Int) < opsT kd
        · have t1 : decide ((j : Int) < opsT kd) = true := decide_eq_true hlt
          have hop4 := (opsT_01 (k := kd)).2
          have hd2 : 2 ≤ d := by
            rcases Nat.lt_or_ge d 2 with h | h
            · have := hk0 h; omega
            · exact h
          have hj3 : j ≤ 3 := by omega
          have hmul : j * nd (d - 1) ≤ 3 * 255 := Nat.mul_le_mul hj3 (nd_le (d - 1) (by omega))
          have hnd : nd d = 3 + 4 * nd (d - 1) := nd_step hd2
          have hmul2 : j * nd (d - 1) ≤ 3 * nd (d - 1) := Nat.mul_le_mul_right _ hj3
          have HIc := Lib.hid (fun w' (hw : Ext wr w') => draw_at ih hd2 w' g _ (hRd.ext hw) (by omega))
          have HSTEP := Lib.hid (show m + 3 + j * nd (d - 1) + nd (d - 1) = m + 3 + (j + 1) * nd (d - 1) from by rw [Nat.add_mul]; omega)
          have HGr := Lib.hid hG
          have HWR := Lib.hid (IntWalk.i64_in ((d : Int) - 1) ⟨by omega, by omega⟩)
          have hv := cell_of_blk hb6 2
          have hv3 : ∃ B c, v = .slice B ts.length c := by
            obtain ⟨B, c, hv, -⟩ := hG.lies (fun b hb => hb)
            exact ⟨B, c, hv⟩
          obtain ⟨Bv, cv, rfl⟩ := hv3
          have hown : ∀ q, (Value.slice Bv ts.length cv).ownBlock = some q → q < wr.heap.size := by
            obtain ⟨xs, g1, -⟩ := hG
            exact fun q hq => (g1.lt q hq).2
          have HOWN := Lib.hid hown
          have HB6 := Lib.hid hb6
          have HB4 := Lib.hid hb4
          clear hb4 hmul hG hown hb6 hmul2 hnd
          go_wp2_with fail
          refine (specopsT kd _).mono ?_
          rintro e wu ⟨rfl, rfl⟩
          go_wp2_with fail
          go_region_law (first
            | (go_simp; go_at_call 188; (try rw [HWR.out]); (with_reducible refine (HIc.out _ (Ext.refl wr).drew).mono ?_); rintro e w5 ⟨t, u, rfl, hF5, hR5, ho5⟩; obtain ⟨k5, n5, A5, l5, c5, rfl⟩ := hF5.three; have hs5 : wr.heap.size ≤ w5.heap.size := ho5.size; have b65 : w5.heap[g6]? = some (.cells #[.int .i64 kd, .int .i64 x, .slice Bv ts.length cv] 44 (0, 0)) := ho5.keepBlk HB6.out (by simp; omega); have b45 : w5.heap[w.heap.size]? = some (.cells #[.int .i64 0, .int .i64 0, .slice none 0 0] 44 (0, 0)) := ho5.keepBlk HB4.out (by simp; omega); have hv5 := cell_of_blk b65 2; have hs56 : g6 < w5.heap.size := lt_of_blk b65)
            | (refine step_append_treeS _ (by rfl) (.tmp 32) (.tmp 37) _ (by rfl) 44 i0 _ Try.underlying42 hi hz0 hz1 hz2 rfl (by rfl) (X := fun b => b < W.heap.size) (W := W) (tr := t) (((HGr.out.ext (Ext.refl wr).drew).only ho5 (by intro b hb; rw [List.mem_singleton.1 hb]; omega) (fun b hb => hb)).ext ((Ext.refl w5).alloc _)) (by simp; omega) ((hF5.ext ((Ext.refl w5).alloc _)).mono (fun b hb => ⟨hb.2, fun h => by have := HOWN.out b h; have h2 : wr.heap.size ≤ b := hb.1; omega, by have h2 : wr.heap.size ≤ b := hb.1; omega⟩) (fun _ _ => rfl)) (by rfl) (heap_alloc_new _ _) (by omega) ?_ (fun b hb => hb); intro v' w6 hG6 hB6; obtain ⟨B6, c6, rfl, r1, r2, -, -⟩ := hG6.lies (fun b hb => hb); have b66 := (hB6.block g6 (by omega)).trans (((Ext.refl w5).alloc (.cells #[.int .i64 k5, .int .i64 n5, .slice A5 l5 c5] 44)).blk b65); have hv6 := cell_of_blk b66 2; have hf6 := frozen_of_blk b66 2))
          all_goals (
            have hO6 : Only [g] w w6 := (((hO.trans (Only.of_ext (L := [g]) (Ext.refl wr).drew)).trans ho5).trans (Only.of_ext (L := [g]) ((Ext.refl w5).alloc (.cells #[.int .i64 k5, .int .i64 n5, .slice A5 l5 c5] 44)))).below hB6 (by omega)
            have hR6 : Rd w6 g (m + 3 + (j + 1) * nd (d - 1)) := by rw [← HSTEP.out]; exact (hR5.ext ((Ext.refl w5).alloc (.cells #[.int .i64 k5, .int .i64 n5, .slice A5 l5 c5] 44))).under hB6 (by omega)
            have b46 := (hB6.block w.heap.size (by omega)).trans (((Ext.refl w5).alloc (.cells #[.int .i64 k5, .int .i64 n5, .slice A5 l5 c5] 44)).blk b45)
            have hsz6 : W.heap.size ≤ w6.heap.size := by have := hB6.size; simp at this; omega
            rw [List.length_append, List.length_singleton] at hG6
            have HG6 := Lib.hid hG6
            have HR6 := Lib.hid hR6
            have HB66 := Lib.hid b66
            have HB46 := Lib.hid b46
            clear hG6 hR6 b66 b46 hB6 b65 b45 hv5
            go_wp2_with fail
            go_roundw
            case rel => exact ⟨j + 1, _, ts ++ [t], by go_num, by omega, by omega, blk_setCell HB66.out 2 _, blk_setCell_ne HB46.out (by show w.heap.size ≠ g6; omega) _, HG6.out.only (Only.one w6 g6 2 _) (by intro b hb; rw [List.mem_singleton.1 hb]; omega) (fun b hb => hb), by rw [List.length_append, HTL.out]; rfl, HR6.out.set (by show g < g6; omega) _, hO6.setNew (by show w.heap.size ≤ g6; omega) _, by simpa using hsz6⟩
            case measure => simp [intOf]; omega)
        · have t1 : decide ((j : Int) < opsT kd) = false := decide_eq_false hlt
          obtain ⟨Bv, cv, rfl, h1, h2, hK, -⟩ := hG.lies (fun b hb => hb)
          obtain ⟨r0, r1, r2, -, -, -⟩ := own3 hb6
          obtain ⟨s0, s1, s2, f0, f1, f2⟩ := own3 hb4
          have hFK : FromK (w.heap.size + 1) wr Bv ts := hK.mono (fun b hb => ⟨by omega, hb.1⟩) (fun _ _ => rfl)
          have hmul : j * nd (d - 1) ≤ 4 * nd (d - 1) := Nat.mul_le_mul_right _ hj
          have hndd : d = 0 ∨ nd d = 3 + 4 * nd (d - 1) := by
            cases d with
            | zero => exact .inl rfl
            | succ d => exact .inr rfl
          have hj0 : d = 0 → j = 0 := fun h => by have := hk0 (by omega); omega
          have hRf : Rd wr g (m + nd d) := hRd.mono (by
            rcases hndd with h | h
            · have := hj0 h; subst h; subst this; simp [nd]
            · omega)
          have HRf := Lib.hid hRf
          clear hb6 hG hmul hndd hj0
          go_wp2_with fail
          refine (specopsT kd _).mono ?_
          rintro e wu ⟨rfl, rfl⟩
          go_wp2_with fail
          refine bodyPost_ret (v := .agg #[.int .i64 kd, .int .i64 x, .slice Bv ts.length cv]) (by simp [results, Try.results188, go_sem, s0, s1, s2]) rfl ⟨.mk kd x ts, _, rfl, ?_, ?_, ?_⟩
          · exact ((((From.mk kd x hFK h1 h2).set (by simp) _).set (by simp) _).set (by simp) _).since (by omega)
          · exact (((HRf.out.set (by simpa using hgw) _).set (by simpa using hgw) _).set (by simpa using hgw) _)
          · exact ((hO.setNew (by simp) _).setNew (by simp) _).setNew (by simp) _
  · have t0 : decide ((d : Int) < 2) = false := decide_eq_false (by omega)
    obtain ⟨wK, hwK⟩ : ∃ wK, wK = w2 := ⟨_, rfl⟩
    obtain ⟨kd, hkd⟩ : ∃ kd, kd = kind := ⟨_, rfl⟩
    have hk0 : d < 2 → opsT kd ≤ 0 := fun h => absurd h hlow
    have hRK : Rd wK g (m + 2) := hwK ▸ hR2.mono (by omega)
    have hOK : Only [g] w wK := hwK ▸ hO2
    have b4K := b42
    rw [← hwK] at b4K ⊢
    rw [← hkd]
    clear hwK hkd hR2 hO2 b42 ho2
    go_wp2_with fail
    obtain ⟨wM, hwM⟩ : ∃ wM, wM = wK.alloc (.cells #[.int .i64 kd, .int .i64 0, .slice none 0 0] 44) := ⟨_, rfl⟩
    have hxM : Ext wK wM := hwM ▸ (Ext.refl wK).alloc _
    have b6M : wM.heap[wK.heap.size]? = some (.cells #[.int .i64 kd, .int .i64 0, .slice none 0 0] 44 (0, 0)) := hwM ▸ heap_alloc_new wK _
    have b4M := hxM.blk b4K
    have hRM := hRK.ext hxM
    have hOM := hOK.trans (Only.of_ext (L := [g]) hxM)
    obtain ⟨g6, hg6⟩ : ∃ g6, g6 = wK.heap.size := ⟨_, rfl⟩
    have hw6 : w.heap.size < g6 := by rw [hg6]; exact lt_of_blk b4K
    rw [← hwM]
    rw [← hg6] at b6M ⊢
    clear hwM hxM b4K hRK hOK hg6
    refine (specmostT kd _).mono ?_
    rintro e wu ⟨rfl, rfl⟩
    by_cases hmost : 0 < mostT kd
    · have t2 : decide (0 < mostT kd) = true := decide_eq_true hmost
      have hx4 := (Ext.refl wM).alloc (.cells #[.int .i64 0, .int .i64 1, .int .i64 0, .int .i64 2, .int .i64 1, .int .i64 3] 3)
      go_wp2_with fail
      refine (num_any _ g _ (hRM.ext hx4) (by omega) _ 6 [0, 1, 0, 2, 1, 3] (by simp) (by decide) (by simp) (nums_lit rfl) (by intro b o hb; simp at hb; have := hOM.size; omega)).mono ?_
      rintro e w4 ⟨x, rfl, -, hR4, ho4⟩
      have b64 := ho4.keepBlk (hx4.blk b6M) (by simp; omega)
      have b44 := ho4.keepBlk (hx4.blk b4M) (by simp; omega)
      have hO4 := (hOM.trans (Only.of_ext (L := [g]) hx4)).trans ho4
      obtain ⟨v0, v1, v2, f0, f1, f2⟩ := own3 b64
      clear hR b6M b4M hRM hOM hx4 ho4
      go_wp2_with fail
      have b6L := blk_setCell b64 1 (.int .i64 x)
      have b4L := blk_setCell_ne b44 (p := ⟨g6, 1, none⟩) (by show w.heap.size ≠ g6; omega) (.int .i64 x)
      have hRL : Rd (w4.setCell ⟨g6, 1, none⟩ (.int .i64 x)) g (m + 3) := (hR4.set (by show g < g6; omega) _).mono (by omega)
      have hOL := hO4.setNew (p := ⟨g6, 1, none⟩) (by show w.heap.size ≤ g6; omega) (.int .i64 x)
      obtain ⟨W, hW⟩ : ∃ W, W = w4.setCell ⟨g6, 1, none⟩ (.int .i64 x) := ⟨_, rfl⟩
      rw [← hW] at b4L b6L hRL hOL ⊢
      clear hW v0 v1 v2 f0 f1 f2 b64 b44 hO4 hR4
      have hlt6 : g6 < W.heap.size := lt_of_blk b6L
      have hltw : w.heap.size < g6 := hw6
      have hgw : g < w.heap.size := hgl
      go_loopw [7] (fun i wr => ∃ (j : Nat) (v : Value) (ts : List Tr), i = .int .i64 j ∧ j ≤ 4 ∧ (j : Int) ≤ max 0 (opsT kd) ∧ wr.heap[g6]? = some (.cells #[.int .i64 kd, .int .i64 x, v] 44 (0, 0)) ∧ wr.heap[w.heap.size]? = some (.cells #[.int .i64 0, .int .i64 0, .slice none 0 0] 44 (0, 0)) ∧ GrowS (fun b => b < W.heap.size) W wr 44 v ts ∧ ts.length = j ∧ Rd wr g (m + 3 + j * nd (d - 1)) ∧ Only [g] w wr ∧ W.heap.size ≤ wr.heap.size) (fun i _ => 5 - (intOf i).toNat)
      case atStart => exact ⟨0, _, [], rfl, by omega, by omega, b6L, b4L, GrowS.nil _ _ _ _, rfl, by simpa using hRL, hOL, Nat.le_refl _⟩
      case round =>
        obtain ⟨j, v, ts, rfl, hj, hjk, hb6, hb4, hG, htl, hRd, hO, hle⟩ := hrel
        have HTL := Lib.hid htl
        have htl4 : ts.length ≤ 4 := by omega
        clear htl
        by_cases hlt : (j : Int) < opsT kd
        · have t1 : decide ((j : Int) < opsT kd) = true := decide_eq_true hlt
          have hop4 := (opsT_01 (k := kd)).2
          have hd2 : 2 ≤ d := by
            rcases Nat.lt_or_ge d 2 with h | h
            · have := hk0 h; omega
            · exact h
          have hj3 : j ≤ 3 := by omega
          have hmul : j * nd (d - 1) ≤ 3 * 255 := Nat.mul_le_mul hj3 (nd_le (d - 1) (by omega))
          have hnd : nd d = 3 + 4 * nd (d - 1) := nd_step hd2
          have hmul2 : j * nd (d - 1) ≤ 3 * nd (d - 1) := Nat.mul_le_mul_right _ hj3
          have HIc := Lib.hid (fun w' (hw : Ext wr w') => draw_at ih hd2 w' g _ (hRd.ext hw) (by omega))
          have HSTEP := Lib.hid (show m + 3 + j * nd (d - 1) + nd (d - 1) = m + 3 + (j + 1) * nd (d - 1) from by rw [Nat.add_mul]; omega)
          have HGr := Lib.hid hG
          have HWR := Lib.hid (IntWalk.i64_in ((d : Int) - 1) ⟨by omega, by omega⟩)
          have hv := cell_of_blk hb6 2
          have hv3 : ∃ B c, v = .slice B ts.length c := by
            obtain ⟨B, c, hv, -⟩ := hG.lies (fun b hb => hb)
            exact ⟨B, c, hv⟩
          obtain ⟨Bv, cv, rfl⟩ := hv3
          have hown : ∀ q, (Value.slice Bv ts.length cv).ownBlock = some q → q < wr.heap.size := by
            obtain ⟨xs, g1, -⟩ := hG
            exact fun q hq => (g1.lt q hq).2
          have HOWN := Lib.hid hown
          have HB6 := Lib.hid hb6
          have HB4 := Lib.hid hb4
          clear hb4 hmul hG hown hb6 hmul2 hnd
          go_wp2_with fail
          refine (specopsT kd _).mono ?_
          rintro e wu ⟨rfl, rfl⟩
          go_wp2_with fail
          go_region_law (first
            | (go_simp; go_at_call 188; (try rw [HWR.out]); (with_reducible refine (HIc.out _ (Ext.refl wr).drew).mono ?_); rintro e w5 ⟨t, u, rfl, hF5, hR5, ho5⟩; obtain ⟨k5, n5, A5, l5, c5, rfl⟩ := hF5.three; have hs5 : wr.heap.size ≤ w5.heap.size := ho5.size; have b65 : w5.heap[g6]? = some (.cells #[.int .i64 kd, .int .i64 x, .slice Bv ts.length cv] 44 (0, 0)) := ho5.keepBlk HB6.out (by simp; omega); have b45 : w5.heap[w.heap.size]? = some (.cells #[.int .i64 0, .int .i64 0, .slice none 0 0] 44 (0, 0)) := ho5.keepBlk HB4.out (by simp; omega); have hv5 := cell_of_blk b65 2; have hs56 : g6 < w5.heap.size := lt_of_blk b65)
            | (refine step_append_treeS _ (by rfl) (.tmp 32) (.tmp 37) _ (by rfl) 44 i0 _ Try.underlying42 hi hz0 hz1 hz2 rfl (by rfl) (X := fun b => b < W.heap.size) (W := W) (tr := t) (((HGr.out.ext (Ext.refl wr).drew).only ho5 (by intro b hb; rw [List.mem_singleton.1 hb]; omega) (fun b hb => hb)).ext ((Ext.refl w5).alloc _)) (by simp; omega) ((hF5.ext ((Ext.refl w5).alloc _)).mono (fun b hb => ⟨hb.2, fun h => by have := HOWN.out b h; have h2 : wr.heap.size ≤ b := hb.1; omega, by have h2 : wr.heap.size ≤ b := hb.1; omega⟩) (fun _ _ => rfl)) (by rfl) (heap_alloc_new _ _) (by omega) ?_ (fun b hb => hb); intro v' w6 hG6 hB6; obtain ⟨B6, c6, rfl, r1, r2, -, -⟩ := hG6.lies (fun b hb => hb); have b66 := (hB6.block g6 (by omega)).trans (((Ext.refl w5).alloc (.cells #[.int .i64 k5, .int .i64 n5, .slice A5 l5 c5] 44)).blk b65); have hv6 := cell_of_blk b66 2; have hf6 := frozen_of_blk b66 2))
          all_goals (
            have hO6 : Only [g] w w6 := (((hO.trans (Only.of_ext (L := [g]) (Ext.refl wr).drew)).trans ho5).trans (Only.of_ext (L := [g]) ((Ext.refl w5).alloc (.cells #[.int .i64 k5, .int .i64 n5, .slice A5 l5 c5] 44)))).below hB6 (by omega)
            have hR6 : Rd w6 g (m + 3 + (j + 1) * nd (d - 1)) := by rw [← HSTEP.out]; exact (hR5.ext ((Ext.refl w5).alloc (.cells #[.int .i64 k5, .int .i64 n5, .slice A5 l5 c5] 44))).under hB6 (by omega)
            have b46 := (hB6.block w.heap.size (by omega)).trans (((Ext.refl w5).alloc (.cells #[.int .i64 k5, .int .i64 n5, .slice A5 l5 c5] 44)).blk b45)
            have hsz6 : W.heap.size ≤ w6.heap.size := by have := hB6.size; simp at this; omega
            rw [List.length_append, List.length_singleton] at hG6
            have HG6 := Lib.hid hG6
            have HR6 := Lib.hid hR6
            have HB66 := Lib.hid b66
            have HB46 := Lib.hid b46
            clear hG6 hR6 b66 b46 hB6 b65 b45 hv5
            go_wp2_with fail
            go_roundw
            case rel => exact ⟨j + 1, _, ts ++ [t], by go_num, by omega, by omega, blk_setCell HB66.out 2 _, blk_setCell_ne HB46.out (by show w.heap.size ≠ g6; omega) _, HG6.out.only (Only.one w6 g6 2 _) (by intro b hb; rw [List.mem_singleton.1 hb]; omega) (fun b hb => hb), by rw [List.length_append, HTL.out]; rfl, HR6.out.set (by show g < g6; omega) _, hO6.setNew (by show w.heap.size ≤ g6; omega) _, by simpa using hsz6⟩
            case measure => simp [intOf]; omega)
        · have t1 : decide ((j : Int) < opsT kd) = false := decide_eq_false hlt
          obtain ⟨Bv, cv, rfl, h1, h2, hK, -⟩ := hG.lies (fun b hb => hb)
          obtain ⟨r0, r1, r2, -, -, -⟩ := own3 hb6
          obtain ⟨s0, s1, s2, f0, f1, f2⟩ := own3 hb4
          have hFK : FromK (w.heap.size + 1) wr Bv ts := hK.mono (fun b hb => ⟨by omega, hb.1⟩) (fun _ _ => rfl)
          have hmul : j * nd (d - 1) ≤ 4 * nd (d - 1) := Nat.mul_le_mul_right _ hj
          have hndd : d = 0 ∨ nd d = 3 + 4 * nd (d - 1) := by
            cases d with
            | zero => exact .inl rfl
            | succ d => exact .inr rfl
          have hj0 : d = 0 → j = 0 := fun h => by have := hk0 (by omega); omega
          have hRf : Rd wr g (m + nd d) := hRd.mono (by
            rcases hndd with h | h
            · have := hj0 h; subst h; subst this; simp [nd]
            · omega)
          have HRf := Lib.hid hRf
          clear hb6 hG hmul hndd hj0
          go_wp2_with fail
          refine (specopsT kd _).mono ?_
          rintro e wu ⟨rfl, rfl⟩
          go_wp2_with fail
          refine bodyPost_ret (v := .agg #[.int .i64 kd, .int .i64 x, .slice Bv ts.length cv]) (by simp [results, Try.results188, go_sem, s0, s1, s2]) rfl ⟨.mk kd x ts, _, rfl, ?_, ?_, ?_⟩
          · exact ((((From.mk kd x hFK h1 h2).set (by simp) _).set (by simp) _).set (by simp) _).since (by omega)
          · exact (((HRf.out.set (by simpa using hgw) _).set (by simpa using hgw) _).set (by simpa using hgw) _)
          · exact ((hO.setNew (by simp) _).setNew (by simp) _).setNew (by simp) _
    · have t2 : decide (0 < mostT kd) = false := decide_eq_false hmost
      obtain ⟨x, hx⟩ : ∃ x : Int, x = 0 := ⟨_, rfl⟩
      go_wp2_with fail
      rw [← hx] at b6M
      have b6L := b6M
      have b4L := b4M
      have hRL : Rd wM g (m + 3) := hRM.mono (by omega)
      have hOL := hOM
      obtain ⟨W, hW⟩ : ∃ W, W = wM := ⟨_, rfl⟩
      rw [← hW] at b4L b6L hRL hOL ⊢
      clear hW hx b6M b4M hRM hOM hR
      have hlt6 : g6 < W.heap.size := lt_of_blk b6L
      have hltw : w.heap.size < g6 := hw6
      have hgw : g < w.heap.size := hgl
      go_loopw [7] (fun i wr => ∃ (j : Nat) (v : Value) (ts : List Tr), i = .int .i64 j ∧ j ≤ 4 ∧ (j : Int) ≤ max 0 (opsT kd) ∧ wr.heap[g6]? = some (.cells #[.int .i64 kd, .int .i64 x, v] 44 (0, 0)) ∧ wr.heap[w.heap.size]? = some (.cells #[.int .i64 0, .int .i64 0, .slice none 0 0] 44 (0, 0)) ∧ GrowS (fun b => b < W.heap.size) W wr 44 v ts ∧ ts.length = j ∧ Rd wr g (m + 3 + j * nd (d - 1)) ∧ Only [g] w wr ∧ W.heap.size ≤ wr.heap.size) (fun i _ => 5 - (intOf i).toNat)
      case atStart => exact ⟨0, _, [], rfl, by omega, by omega, b6L, b4L, GrowS.nil _ _ _ _, rfl, by simpa using hRL, hOL, Nat.le_refl _⟩
      case round =>
        obtain ⟨j, v, ts, rfl, hj, hjk, hb6, hb4, hG, htl, hRd, hO, hle⟩ := hrel
        have HTL := Lib.hid htl
        have htl4 : ts.length ≤ 4 := by omega
        clear htl
        by_cases hlt : (j : Int) < opsT kd
        · have t1 : decide ((j : Int) < opsT kd) = true := decide_eq_true hlt
          have hop4 := (opsT_01 (k := kd)).2
          have hd2 : 2 ≤ d := by
            rcases Nat.lt_or_ge d 2 with h | h
            · have := hk0 h; omega
            · exact h
          have hj3 : j ≤ 3 := by omega
          have hmul : j * nd (d - 1) ≤ 3 * 255 := Nat.mul_le_mul hj3 (nd_le (d - 1) (by omega))
          have hnd : nd d = 3 + 4 * nd (d - 1) := nd_step hd2
          have hmul2 : j * nd (d - 1) ≤ 3 * nd (d - 1) := Nat.mul_le_mul_right _ hj3
          have HIc := Lib.hid (fun w' (hw : Ext wr w') => draw_at ih hd2 w' g _ (hRd.ext hw) (by omega))
          have HSTEP := Lib.hid (show m + 3 + j * nd (d - 1) + nd (d - 1) = m + 3 + (j + 1) * nd (d - 1) from by rw [Nat.add_mul]; omega)
          have HGr := Lib.hid hG
          have HWR := Lib.hid (IntWalk.i64_in ((d : Int) - 1) ⟨by omega, by omega⟩)
          have hv := cell_of_blk hb6 2
          have hv3 : ∃ B c, v = .slice B ts.length c := by
            obtain ⟨B, c, hv, -⟩ := hG.lies (fun b hb => hb)
            exact ⟨B, c, hv⟩
          obtain ⟨Bv, cv, rfl⟩ := hv3
          have hown : ∀ q, (Value.slice Bv ts.length cv).ownBlock = some q → q < wr.heap.size := by
            obtain ⟨xs, g1, -⟩ := hG
            exact fun q hq => (g1.lt q hq).2
          have HOWN := Lib.hid hown
          have HB6 := Lib.hid hb6
          have HB4 := Lib.hid hb4
          clear hb4 hmul hG hown hb6 hmul2 hnd
          go_wp2_with fail
          refine (specopsT kd _).mono ?_
          rintro e wu ⟨rfl, rfl⟩
          go_wp2_with fail
          go_region_law (first
            | (go_simp; go_at_call 188; (try rw [HWR.out]); (with_reducible refine (HIc.out _ (Ext.refl wr).drew).mono ?_); rintro e w5 ⟨t, u, rfl, hF5, hR5, ho5⟩; obtain ⟨k5, n5, A5, l5, c5, rfl⟩ := hF5.three; have hs5 : wr.heap.size ≤ w5.heap.size := ho5.size; have b65 : w5.heap[g6]? = some (.cells #[.int .i64 kd, .int .i64 x, .slice Bv ts.length cv] 44 (0, 0)) := ho5.keepBlk HB6.out (by simp; omega); have b45 : w5.heap[w.heap.size]? = some (.cells #[.int .i64 0, .int .i64 0, .slice none 0 0] 44 (0, 0)) := ho5.keepBlk HB4.out (by simp; omega); have hv5 := cell_of_blk b65 2; have hs56 : g6 < w5.heap.size := lt_of_blk b65)
            | (refine step_append_treeS _ (by rfl) (.tmp 32) (.tmp 37) _ (by rfl) 44 i0 _ Try.underlying42 hi hz0 hz1 hz2 rfl (by rfl) (X := fun b => b < W.heap.size) (W := W) (tr := t) (((HGr.out.ext (Ext.refl wr).drew).only ho5 (by intro b hb; rw [List.mem_singleton.1 hb]; omega) (fun b hb => hb)).ext ((Ext.refl w5).alloc _)) (by simp; omega) ((hF5.ext ((Ext.refl w5).alloc _)).mono (fun b hb => ⟨hb.2, fun h => by have := HOWN.out b h; have h2 : wr.heap.size ≤ b := hb.1; omega, by have h2 : wr.heap.size ≤ b := hb.1; omega⟩) (fun _ _ => rfl)) (by rfl) (heap_alloc_new _ _) (by omega) ?_ (fun b hb => hb); intro v' w6 hG6 hB6; obtain ⟨B6, c6, rfl, r1, r2, -, -⟩ := hG6.lies (fun b hb => hb); have b66 := (hB6.block g6 (by omega)).trans (((Ext.refl w5).alloc (.cells #[.int .i64 k5, .int .i64 n5, .slice A5 l5 c5] 44)).blk b65); have hv6 := cell_of_blk b66 2; have hf6 := frozen_of_blk b66 2))
          all_goals (
            have hO6 : Only [g] w w6 := (((hO.trans (Only.of_ext (L := [g]) (Ext.refl wr).drew)).trans ho5).trans (Only.of_ext (L := [g]) ((Ext.refl w5).alloc (.cells #[.int .i64 k5, .int .i64 n5, .slice A5 l5 c5] 44)))).below hB6 (by omega)
            have hR6 : Rd w6 g (m + 3 + (j + 1) * nd (d - 1)) := by rw [← HSTEP.out]; exact (hR5.ext ((Ext.refl w5).alloc (.cells #[.int .i64 k5, .int .i64 n5, .slice A5 l5 c5] 44))).under hB6 (by omega)
            have b46 := (hB6.block w.heap.size (by omega)).trans (((Ext.refl w5).alloc (.cells #[.int .i64 k5, .int .i64 n5, .slice A5 l5 c5] 44)).blk b45)
            have hsz6 : W.heap.size ≤ w6.heap.size := by have := hB6.size; simp at this; omega
            rw [List.length_append, List.length_singleton] at hG6
            have HG6 := Lib.hid hG6
            have HR6 := Lib.hid hR6
            have HB66 := Lib.hid b66
            have HB46 := Lib.hid b46
            clear hG6 hR6 b66 b46 hB6 b65 b45 hv5
            go_wp2_with fail
            go_roundw
            case rel => exact ⟨j + 1, _, ts ++ [t], by go_num, by omega, by omega, blk_setCell HB66.out 2 _, blk_setCell_ne HB46.out (by show w.heap.size ≠ g6; omega) _, HG6.out.only (Only.one w6 g6 2 _) (by intro b hb; rw [List.mem_singleton.1 hb]; omega) (fun b hb => hb), by rw [List.length_append, HTL.out]; rfl, HR6.out.set (by show g < g6; omega) _, hO6.setNew (by show w.heap.size ≤ g6; omega) _, by simpa using hsz6⟩
            case measure => simp [intOf]; omega)
        · have t1 : decide ((j : Int) < opsT kd) = false := decide_eq_false hlt
          obtain ⟨Bv, cv, rfl, h1, h2, hK, -⟩ := hG.lies (fun b hb => hb)
          obtain ⟨r0, r1, r2, -, -, -⟩ := own3 hb6
          obtain ⟨s0, s1, s2, f0, f1, f2⟩ := own3 hb4
          have hFK : FromK (w.heap.size + 1) wr Bv ts := hK.mono (fun b hb => ⟨by omega, hb.1⟩) (fun _ _ => rfl)
          have hmul : j * nd (d - 1) ≤ 4 * nd (d - 1) := Nat.mul_le_mul_right _ hj
          have hndd : d = 0 ∨ nd d = 3 + 4 * nd (d - 1) := by
            cases d with
            | zero => exact .inl rfl
            | succ d => exact .inr rfl
          have hj0 : d = 0 → j = 0 := fun h => by have := hk0 (by omega); omega
          have hRf : Rd wr g (m + nd d) := hRd.mono (by
            rcases hndd with h | h
            · have := hj0 h; subst h; subst this; simp [nd]
            · omega)
          have HRf := Lib.hid hRf
          clear hb6 hG hmul hndd hj0
          go_wp2_with fail
          refine (specopsT kd _).mono ?_
          rintro e wu ⟨rfl, rfl⟩
          go_wp2_with fail
          refine bodyPost_ret (v := .agg #[.int .i64 kd, .int .i64 x, .slice Bv ts.length cv]) (by simp [results, Try.results188, go_sem, s0, s1, s2]) rfl ⟨.mk kd x ts, _, rfl, ?_, ?_, ?_⟩
          · exact ((((From.mk kd x hFK h1 h2).set (by simp) _).set (by simp) _).set (by simp) _).since (by omega)
          · exact (((HRf.out.set (by simpa using hgw) _).set (by simpa using hgw) _).set (by simpa using hgw) _)
          · exact ((hO.setNew (by simp) _).setNew (by simp) _).setNew (by simp) _
theorem l1Draw_any : ∀ d : Nat, d ≤ 4 → DrawC d
  | 0, h => l1Draw_step 0 h (fun h => by omega)
  | d + 1, h => l1Draw_step (d + 1) h (fun _ => l1Draw_any d (by omega))
end Go.Proofs.Ytappakllopkfiaa

namespace Go.Proofs.Ytappakllopkfiaa
open Go.RowKit
set_option linter.unusedVariables false
attribute [local go_sem ↓] Go.wp_at_zero Go.wp_at_succ

theorem OwnL.rowL {w : World} {e : TypeId} {S : Nat → Prop} : ∀ {xs : List Value} {ks : List Tr} {L : List Nat}, OwnL w e xs ks L → (∀ b, b ∈ L → S b) → RowL w S xs ks
  | _, [], _, _, _ => RowL.nil
  | xs, t :: ts, L, h, hS => by
    obtain ⟨v0, v1, v2, rest, L1, L2, rfl, h1, h2, rfl⟩ := OwnL.cons_iff.1 h
    exact RowL.cons_iff.2 ⟨v0, v1, v2, rest, rfl, h1.inT.mono (fun b hb => hS b (by simp [hb])) (fun _ _ => rfl), OwnL.rowL h2 (fun b hb => hS b (by simp [hb]))⟩
theorem Grow.toS {W w : World} {e : TypeId} {v : Value} {ks : List Tr} (h : Grow W w e v ks) : GrowS (fun b => b < W.heap.size) W w e v ks := by
  obtain ⟨xs, L, h1, h2, h3, h4⟩ := h
  exact ⟨xs, h1, h2.rowL (fun b hb => ⟨(h3.2 b hb).2, fun he => h4 b he hb, by have := (h3.2 b hb).1; omega⟩)⟩
set_option maxRecDepth 100000 in
set_option maxHeartbeats 2000000 in
theorem l1Copy_top (k n : Int) (ks : List Tr) (w : World) (v : Value) (hin : Lies w (.mk k n ks) v) (hcnt : cnt (.mk k n ks) ≤ 1000000) :
  Calls Try.prog 103 #[v] w fun e w' => ∃ B c, e = .returned (.agg #[.int .i64 k, .int .i64 n, .slice B ks.length c]) ∧ (∃ W0 : World, w.heap.size ≤ W0.heap.size ∧ GrowS (fun b => b < W0.heap.size) W0 w' 44 (.slice B ks.length c) ks ∧ W0.heap.size ≤ w'.heap.size) ∧ Ext w w' := by
  obtain ⟨A, cap, rfl, hl, hc, hK⟩ := Lies.mk_iff.1 hin
  obtain ⟨i0, hi, hz0, hz1, hz2⟩ := info_parts infoPTerm
  have hcc := hc
  unfold maxLen at hcc
  simp only [cnt] at hcnt
  have hlc := len_le_cnts ks
  go_enter Try.func103, Try.ntmps103
  go_wp2_with fail
  obtain ⟨w1, hw1⟩ : ∃ w1, w1 = (w.alloc (.cells #[.int .i64 k, .int .i64 n, .slice A ks.length cap] 44)).alloc (.cells #[.int .i64 0, .int .i64 0, .slice none 0 0] 44) := ⟨_, rfl⟩
  obtain ⟨W, hW⟩ : ∃ W, W = w1.alloc (.cells #[.int .i64 k, .int .i64 n, .slice none 0 0] 44) := ⟨_, rfl⟩
  have hs1 : w1.heap.size = w.heap.size + 1 + 1 := by rw [hw1]; simp
  have hsW : W.heap.size = w.heap.size + 3 := by rw [hW]; simp; omega
  have hE1 : Ext w w1 := hw1 ▸ ((Ext.refl w).alloc _).alloc _
  have hEW : Ext w1 W := hW ▸ (Ext.refl w1).alloc _
  have hbR : w1.heap[w.heap.size + 1]? = some (.cells #[.int .i64 0, .int .i64 0, .slice none 0 0] 44 (0, 0)) := by
    rw [hw1]; exact (blk2 (Ext.refl _)).2.1
  have hbO : W.heap[w.heap.size + 1 + 1]? = some (.cells #[.int .i64 k, .int .i64 n, .slice none 0 0] 44 (0, 0)) := by
    have := heap_alloc_new w1 (.cells #[.int .i64 k, .int .i64 n, .slice none 0 0] 44)
    rw [hs1] at this
    rw [hW]
    exact this
  have hbT : w1.heap[w.heap.size]? = some (.cells #[.int .i64 k, .int .i64 n, .slice A ks.length cap] 44 (0, 0)) := by
    rw [hw1]; exact (blk2 (Ext.refl _)).1
  rw [← hw1, ← hW]
  clear hW hw1
  go_loopw [4] (fun i wr => ∃ (j : Nat) (v : Value), j ≤ ks.length ∧ i = .int .i64 j ∧ wr.heap[w.heap.size + 1 + 1]? = some (.cells #[.int .i64 k, .int .i64 n, v] 44 (0, 0)) ∧ Grow W wr 44 v (ks.take j) ∧ Ext w1 wr ∧ W.heap.size ≤ wr.heap.size) (fun i _ => ks.length - (intOf i).toNat)
  case atStart => exact ⟨0, _, Nat.zero_le _, rfl, hbO, Grow.nil _ _ _, hEW, Nat.le_refl _⟩
  case round =>
    obtain ⟨j, v, hj, rfl, hbv, hG, he, hle⟩ := hrel
    by_cases hlt : j < ks.length
    · obtain ⟨b, o, k', n', A', cap', kids, rfl, HK, c0, c1, c2, hkl, hkc, hK', hin', hmem⟩ := hK.get (hE1.trans he) hlt
      have htk := List.take_append_getElem hlt
      rw [HK.out] at htk
      have hcm := cnt_mem hmem
      have hlen : (ks.take j).length < 1099511627776 := by rw [List.length_take]; omega
      have hlj : (ks.take j).length = j := by rw [List.length_take]; omega
      have HL := Lib.hid hlj
      have hbT2 := he.blk hbT
      obtain ⟨-, -, t2, -, -, -⟩ := own3 hbT2
      have hj' : (j : Int) < (ks.length : Int) := by omega
      go_wp2_with fail
      have hle2 := hle
      have hG2 := hG
      have hbv2 := hbv
      have hv := cell_of_blk hbv2 2
      have hcells : ∀ w', Below W.heap.size wr w' → w'.heap[w.heap.size + 1 + 1]? = some (.cells #[.int .i64 k, .int .i64 n, v] 44 (0, 0)) := fun w' hB => (hB.block (w.heap.size + 1 + 1) (by omega)).trans hbv2
      have HCells := Lib.hid hcells
      have hEd : Ext wr wr.drew := (Ext.refl wr).drew
      have hinD := hin'.ext hEd
      have he2 := he
      clear hcells hlj hbv hG he hle hcc
      go_region_law (first | (go_simp; go_at_call 103; refine (l1Copy_any _ _ _ hinD (by omega)).mono ?_; rintro e w4 ⟨u, rfl, hM, h4⟩; obtain ⟨a1, a2, a3, a4, a5, rfl⟩ := hM.three'; have hv4 := cell_of_blk (HCells.out _ ((hEd.trans h4).below hle2)) 2; have hs4 := World.block_lt_of_cell? _ _ hv4) | (refine step_append_tree _ (by rfl) (.tmp 18) (.tmp 25) _ (by rfl) 44 i0 _ Try.underlying42 hi hz0 hz1 hz2 rfl (by rfl) hG2 hle2 (hEd.trans h4) (hM.since (Nat.le_refl _)) ((Ext.refl _).alloc _) (by rfl) (heap_alloc_new _ _) hlen ?_; intro v' w5 hG5 hB5; obtain ⟨B5, c5, rfl, q1, q2, -⟩ := hG5.made; have hv5 := cell_of_blk (HCells.out _ hB5) 2; have hf5 := frozen_of_blk (HCells.out _ hB5) 2))
      all_goals (
        have hE5 : Ext w1 w5 := he2.trans' hB5 (by omega)
        have hs5 := hB5.size
        have hb6 := HCells.out _ hB5
        rw [List.length_append, List.length_singleton, htk, show (ks.take j).length + 1 = min (j + 1) ks.length from by rw [List.length_take]; omega] at hG5
        have hGs := fun u => hG5.after ((Above.refl W.heap.size w5).setCell (p := ⟨w.heap.size + 1 + 1, 2, none⟩) (by show w.heap.size + 1 + 1 < W.heap.size; omega) u)
        clear hv4 hs4 hv HCells hM h4 c0 c1 c2 t2
        go_wp2_with fail
        go_roundw
        case rel => exact ⟨j + 1, _, by omega, by go_num, blk_setCell hb6 2 _, hGs _, hE5.setCell (by show _ ≤ w.heap.size + 1 + 1; omega) _, by simp; omega⟩
        case measure => simp [intOf]; omega)
    · obtain ⟨B5, c5, rfl, q1, q2, hMK⟩ := hG.made
      have hGS := hG.toS
      have hjl : j = ks.length := by omega
      have hln : (ks.take j).length = ks.length := by rw [hjl, List.take_length]
      obtain ⟨r0, r1, r2, -, -, -⟩ := own3 hbv
      have hbT2 := he.blk hbT
      obtain ⟨-, -, t2, -, -, -⟩ := own3 hbT2
      have hbR' := he.blk hbR
      obtain ⟨s0, s1, s2, f0, f1, f2⟩ := own3 hbR'
      rw [hln] at q1 r2
      rw [show ks.take j = ks from by rw [hjl, List.take_length]] at hMK
      rw [hln] at hGS
      clear hln hbv
      go_wp2_with fail
      refine bodyPost_ret (v := .agg #[.int .i64 k, .int .i64 n, .slice B5 ks.length c5]) (by simp [results, Try.results103, go_sem, s0, s1, s2]) rfl ⟨B5, c5, rfl, ⟨W, by omega, ?_, by simp; omega⟩, ?_⟩
      · rw [show ks.take j = ks from by rw [hjl, List.take_length]] at hGS
        exact ((hGS.only (Only.one _ (w.heap.size + 1) 0 _) (by intro b hb; rw [List.mem_singleton.1 hb]; omega) (fun b hb => hb)).only (Only.one _ (w.heap.size + 1) 1 _) (by intro b hb; rw [List.mem_singleton.1 hb]; omega) (fun b hb => hb)).only (Only.one _ (w.heap.size + 1) 2 _) (by intro b hb; rw [List.mem_singleton.1 hb]; omega) (fun b hb => hb)
      · exact ((((hE1.trans he).setCell (by simp) _).setCell (by simp) _).setCell (by simp) _)
end Go.Proofs.Ytappakllopkfiaa

namespace Go.Proofs.Ytappakllopkfiaa
open Go.RowKit
set_option linter.unusedVariables false
attribute [local go_sem ↓] Go.wp_at_zero Go.wp_at_succ

theorem nd_le4 : ∀ d, d ≤ 4 → nd d ≤ 1023
  | 0, _ => by decide
  | 1, _ => by decide
  | 2, _ => by decide
  | 3, _ => by decide
  | 4, _ => by decide
theorem valid_zero : valid sigT (.mk 7 0 []) = true := by decide
set_option maxRecDepth 100000 in
theorem l1Any_any (w : World) (g m : Nat) (hR : Rd w g m) (hm : m < 900000) : Calls Try.prog 158 #[.pointer (some ⟨g, 0, none⟩)] w fun e w' => ∃ t u, e = .returned u ∧ valid sigT t = true ∧ From w.heap.size w' t u ∧ Rd w' g (m + 1024) ∧ Only [g] w w' := by
  have hgl := hR.lt
  have hx0 := ((Ext.refl w).alloc (.cells #[.int .i64 0, .int .i64 0, .slice none 0 0] 44)).alloc (.cells #[.int .i64 3, .int .i64 4, .int .i64 2, .int .i64 3, .int .i64 1] 3)
  obtain ⟨b40, b50, -⟩ := blk2 (Ext.refl ((w.alloc (.cells #[.int .i64 0, .int .i64 0, .slice none 0 0] 44)).alloc (.cells #[.int .i64 3, .int .i64 4, .int .i64 2, .int .i64 3, .int .i64 1] 3)))
  have hN := nums_lit (w := w.alloc (.cells #[.int .i64 0, .int .i64 0, .slice none 0 0] 44)) (cs := #[.int .i64 3, .int .i64 4, .int .i64 2, .int .i64 3, .int .i64 1]) (e := 3) (ns := [3, 4, 2, 3, 1]) rfl
  rw [World.size_alloc] at hN
  go_enter Try.func158, Try.ntmps158
  go_wp2_with fail
  generalize (w.alloc _).alloc _ = w0 at hx0 b40 b50 hN
  refine (num_any _ g m (hR.ext hx0) (by omega) _ 5 [3, 4, 2, 3, 1] (by simp) (by decide) (by simp) hN (by intro b o hb; simp at hb; omega)).mono ?_
  rintro e w1 ⟨d, rfl, hmem, hR1, ho1⟩
  obtain ⟨dn, rfl, hd4⟩ : ∃ dn : Nat, d = dn ∧ dn ≤ 4 := by
    simp only [List.mem_cons, List.not_mem_nil, or_false] at hmem
    exact ⟨d.toNat, by omega, by omega⟩
  have hnd := nd_le4 dn hd4
  have b41 := ho1.keepBlk b40 (by simp; omega)
  have hO1 := (Only.of_ext (L := [g]) hx0).trans ho1
  clear hmem hN b50 b40
  go_wp2_with fail
  refine (l1Draw_any dn hd4 _ g _ hR1 (by omega)).mono ?_
  rintro e w2 ⟨t, u, rfl, hF, hR2, ho2⟩
  obtain ⟨k0, n0, A0, l0, c0, rfl⟩ := hF.three
  have b42 := ho2.keepBlk b41 (by simp; omega)
  have hO2 := hO1.trans ho2
  have hx3 := (Ext.refl w2).alloc (.cells #[.int .i64 k0, .int .i64 n0, .slice A0 l0 c0] 44)
  have hbT := heap_alloc_new w2 (.cells #[.int .i64 k0, .int .i64 n0, .slice A0 l0 c0] 44)
  have hFx := (hF.ext hx3).since (show w.heap.size + 1 ≤ w1.heap.size from lt_of_blk b41)
  have b43 := hx3.blk b42
  have hO3 := hO2.trans (Only.of_ext (L := [g]) hx3)
  have hR3 := hR2.ext hx3
  clear b41 b42 hO1 hO2 hF hR1
  go_wp2_with fail
  refine (specValidTerm t _ _ hFx.lies).mono ?_
  obtain ⟨vt, hvt⟩ : ∃ vt, vt = valid sigT t := ⟨_, rfl⟩
  rw [← hvt]
  rintro e w4 ⟨rfl, e4⟩
  have hF4 := hFx.ext e4
  obtain ⟨s0, s1, s2, f0, f1, f2⟩ := own3 (e4.blk b43)
  obtain ⟨x0, x1, x2, -, -, -⟩ := own3 (e4.blk hbT)
  have hO4 := hO3.trans (Only.of_ext (L := [g]) e4)
  have hR4 := hR3.ext e4
  have HV := Lib.hid hvt
  clear hvt hbT hR3 hO3 hR2
  cases vt with
  | true =>
    go_wp2_with fail
    refine bodyPost_ret (v := .agg #[.int .i64 k0, .int .i64 n0, .slice A0 l0 c0]) (by simp [results, Try.results158, go_sem, s0, s1, s2]) rfl ⟨t, _, rfl, HV.out.symm, ?_, ?_, ?_⟩
    · exact (((hF4.set (by simp) _).set (by simp) _).set (by simp) _).since (by omega)
    · exact (((hR4.mono (by omega)).set (by simpa using hgl) _).set (by simpa using hgl) _).set (by simpa using hgl) _
    · exact ((hO4.setNew (by simp) _).setNew (by simp) _).setNew (by simp) _
  | false =>
    have b44 := e4.blk b43
    clear s0 s1 s2 f0 f1 f2
    go_wp2_with fail
    refine (l1Leaf_any _ 7 0).mono ?_
    rintro e w5 ⟨rfl, e5⟩
    obtain ⟨s0, s1, s2, f0, f1, f2⟩ := own3 (e5.blk b44)
    have hO5 := hO4.trans (Only.of_ext (L := [g]) e5)
    have hR5 := hR4.ext e5
    go_wp2_with fail
    refine bodyPost_ret (v := .agg #[.int .i64 7, .int .i64 0, .slice none 0 0]) (by simp [results, Try.results158, go_sem, s0, s1, s2]) rfl ⟨.mk 7 0 [], _, rfl, valid_zero, From.leaf _ _ _ _, ?_, ?_⟩
    · exact (((hR5.mono (by omega)).set (by simpa using hgl) _).set (by simpa using hgl) _).set (by simpa using hgl) _
    · exact ((hO5.setNew (by simp) _).setNew (by simp) _).setNew (by simp) _
theorem l3Plus_any (w : World) : Calls Try.prog 180 #[] w fun e w' => (∃ x : ByteArray, e = .returned (.string x) ∧ x.size ≤ 100) ∧ w = w' := by
  go_enter Try.func180, Try.ntmps180
  go_wp2_with fail
  go_ret
  exact ⟨⟨_, rfl, by decide⟩, rfl⟩
set_option maxRecDepth 100000 in
set_option maxHeartbeats 2000000 in
theorem l3Draw_any (w : World) (g m : Nat) (hR : Rd w g m) (hm : m < 800000) : Calls Try.prog 141 #[.pointer (some ⟨g, 0, none⟩)] w fun e w' => ∃ t u, e = .returned u ∧ valid sigT t = true ∧ From w.heap.size w' t u ∧ Rd w' g (m + 1026) ∧ Only [g] w w' := by
  have hgl := hR.lt
  have hx0 := (Ext.refl w).alloc (.cells #[.int .i64 0, .int .i64 0, .slice none 0 0] 44)
  have b40 := heap_alloc_new w (.cells #[.int .i64 0, .int .i64 0, .slice none 0 0] 44)
  go_enter Try.func141, Try.ntmps141
  go_wp2_with fail
  generalize hw0 : w.alloc _ = w0 at hx0 b40 ⊢
  clear hw0
  refine (l3Plus_any _).mono ?_
  rintro e wa ⟨⟨x, rfl, hx⟩, rfl⟩
  have hn1 : ¬ (9223372036854775807 < 1 + x.size) := by omega
  have hn2 : ¬ (9223372036854775807 < 1 + x.size + 5) := by omega
  go_wp2_with fail
  refine (l3Plus_any _).mono ?_
  rintro e wa ⟨⟨y, rfl, hy⟩, rfl⟩
  have hn3 : ¬ (9223372036854775807 < 2 + y.size) := by omega
  have hn4 : ¬ (9223372036854775807 < 2 + y.size + 9) := by omega
  have hlt0 : w.heap.size < w0.heap.size := lt_of_blk b40
  go_wp2_with fail
  refine (of_any (fun s => s.size ≤ 1000) _ g m ((hR.ext hx0).ext ((Ext.refl w0).alloc _)) (by omega) _ 0 13 13 (Nat.le_refl _) (by decide) (by decide) (by omega) (by simp) (by
    intro j hj
    rw [Nat.zero_add, cell_of_blk (heap_alloc_new _ _)]
    rcases (by omega : j = 0 ∨ j = 1 ∨ j = 2 ∨ j = 3 ∨ j = 4 ∨ j = 5 ∨ j = 6 ∨ j = 7 ∨ j = 8 ∨ j = 9 ∨ j = 10 ∨ j = 11 ∨ j = 12) with rfl | rfl | rfl | rfl | rfl | rfl | rfl | rfl | rfl | rfl | rfl | rfl | rfl
    all_goals exact ⟨_, rfl, by first | decide | (simp only [ByteArray.size_append]; first | (change 1 + x.size + 5 ≤ 1000; omega) | (change 2 + y.size + 9 ≤ 1000; omega))⟩)).mono ?_
  rintro e w1 ⟨text, rfl, htx, hR1, ho1⟩
  have b41 : w1.heap[w.heap.size]? = some (.cells #[.int .i64 0, .int .i64 0, .slice none 0 0] 44 (0, 0)) := ho1.keepBlk (((Ext.refl w0).alloc _).blk b40) (by simp; omega)
  have hO1 : Only [g] w w1 := ((Only.of_ext (L := [g]) hx0).trans (Only.of_ext (L := [g]) ((Ext.refl w0).alloc _))).trans ho1
  clear hn1 hn2 hn3 hn4 hx hy b40 hx0 ho1
  go_wp2_with fail
  refine (parseTerm_any text _ (by omega)).mono ?_
  rintro e w2 ⟨u, rfl, hF, e2⟩
  obtain ⟨k0, n0, A0, l0, c0, rfl⟩ := hF.three
  have hx3 := e2.trans ((Ext.refl w2).alloc (.cells #[.int .i64 k0, .int .i64 n0, .slice A0 l0 c0] 44))
  have hbT := heap_alloc_new w2 (.cells #[.int .i64 k0, .int .i64 n0, .slice A0 l0 c0] 44)
  have b43 := hx3.blk b41
  have hO3 := hO1.trans (Only.of_ext (L := [g]) hx3)
  have hR3 := hR1.ext hx3
  have hlt1 : w.heap.size < w1.heap.size := lt_of_blk b41
  have hFx := (hF.ext ((Ext.refl w2).alloc (.cells #[.int .i64 k0, .int .i64 n0, .slice A0 l0 c0] 44))).since (show w.heap.size + 1 ≤ w1.heap.size from hlt1)
  cases hp : prsV text.data.toList with
  | none =>
    clear hbT hF hFx hR1 hO1 b41 hp
    simp only [Option.isSome]
    go_wp2_with fail
    refine (l1Any_any _ g _ hR3 (by omega)).mono ?_
    rintro e w8 ⟨t8, u8, rfl, hv8, hF8, hR8, ho8⟩
    obtain ⟨k8, n8, A8, l8, c8, rfl⟩ := hF8.three
    have b48 := ho8.keepBlk b43 (by simp; omega)
    obtain ⟨s0, s1, s2, f0, f1, f2⟩ := own3 b48
    have hO8 := hO3.trans ho8
    clear b48
    go_wp2_with fail
    refine bodyPost_ret (v := .agg #[.int .i64 k8, .int .i64 n8, .slice A8 l8 c8]) (by simp [results, Try.results141, go_sem, s0, s1, s2]) rfl ⟨t8, _, rfl, hv8, ?_, ?_, ?_⟩
    · exact (((hF8.set (by show w.heap.size < _; exact lt_of_blk b43) _).set (by show w.heap.size < _; exact lt_of_blk b43) _).set (by show w.heap.size < _; exact lt_of_blk b43) _).since (by have := lt_of_blk b43; omega)
    · exact (((hR8.mono (by omega)).set (by simpa using hgl) _).set (by simpa using hgl) _).set (by simpa using hgl) _
    · exact ((hO8.setNew (by simp) _).setNew (by simp) _).setNew (by simp) _
  | some t =>
    have hvt := (prsV_valid hp).1
    rw [hp] at hFx
    simp only [Option.getD] at hFx
    simp only [Option.isSome]
    clear hF hR1 hO1 b41 hp
    go_wp2_with fail
    refine (pick_any _ g _ 3 hR3 (by omega)).mono ?_
    rintro e w5 ⟨x, rfl, hx0, -, hR5, ho5⟩
    have b45 := ho5.keepBlk b43 (by simp; omega)
    have hF5 := hFx.only ho5 (by intro b hb; rw [List.mem_singleton.1 hb]; omega)
    have hO5 := hO3.trans ho5
    have bT5 := ho5.keepBlk hbT (by simp; have := e2.size; omega)
    obtain ⟨x0, x1, x2, -, -, -⟩ := own3 bT5
    by_cases hpos : 0 < x
    · have t1 : decide (0 < x) = true := decide_eq_true hpos
      obtain ⟨s0, s1, s2, f0, f1, f2⟩ := own3 b45
      clear hbT bT5 hR3 hO3 hFx b43
      go_wp2_with fail
      refine bodyPost_ret (v := .agg #[.int .i64 k0, .int .i64 n0, .slice A0 l0 c0]) (by simp [results, Try.results141, go_sem, s0, s1, s2]) rfl ⟨t, _, rfl, hvt, ?_, ?_, ?_⟩
      · exact (((hF5.set (by simp) _).set (by simp) _).set (by simp) _).since (by omega)
      · exact (((hR5.mono (by omega)).set (by simpa using hgl) _).set (by simpa using hgl) _).set (by simpa using hgl) _
      · exact ((hO5.setNew (by simp) _).setNew (by simp) _).setNew (by simp) _
    · have t1 : decide (0 < x) = false := decide_eq_false hpos
      clear hbT bT5 hR3 hO3 hFx b43 x0 x1 x2 hF5 hvt
      go_wp2_with fail
      refine (l1Any_any _ g _ hR5 (by omega)).mono ?_
      rintro e w8 ⟨t8, u8, rfl, hv8, hF8, hR8, ho8⟩
      obtain ⟨k8, n8, A8, l8, c8, rfl⟩ := hF8.three
      have b48 := ho8.keepBlk b45 (by simp; omega)
      obtain ⟨s0, s1, s2, f0, f1, f2⟩ := own3 b48
      have hO8 := hO5.trans ho8
      clear b48
      go_wp2_with fail
      refine bodyPost_ret (v := .agg #[.int .i64 k8, .int .i64 n8, .slice A8 l8 c8]) (by simp [results, Try.results141, go_sem, s0, s1, s2]) rfl ⟨t8, _, rfl, hv8, ?_, ?_, ?_⟩
      · exact (((hF8.set (by show w.heap.size < _; exact lt_of_blk b45) _).set (by show w.heap.size < _; exact lt_of_blk b45) _).set (by show w.heap.size < _; exact lt_of_blk b45) _).since (by have := lt_of_blk b45; omega)
      · exact (((hR8.mono (by omega)).set (by simpa using hgl) _).set (by simpa using hgl) _).set (by simpa using hgl) _
      · exact ((hO8.setNew (by simp) _).setNew (by simp) _).setNew (by simp) _
end Go.Proofs.Ytappakllopkfiaa

namespace Go.Proofs.Ytappakllopkfiaa
open Go.RowKit
set_option linter.unusedVariables false
attribute [local go_sem ↓] Go.wp_at_zero Go.wp_at_succ

theorem step_append_treeX {P : Program} (w : World) {ops : Array Oper} {o : Oper} {a : Act} {K : Act → World → Prop} {Q : Exit → Act → World → Prop} {E : Prop} (hgd : o.guard = none) (s x : Operand) (t : TypeId)
    (ho : o.op = .call { callee := .builtin .append, args := #[s, x], argTypes := #[t, t] })
    (e : TypeId) (i : TypeInfo) (z : Value) (ht : P.underlying t = some (.slice e)) (hi : P.info? e = some i) (hz : i.zero = some z) (hsize : i.size = 3) (hby : i.bytes = 40) (hzs : z.cells.size = 3)
    {X : Nat → Prop} {W : World} {v : Value} {ks : List Tr} {tr : Tr} {v0 v1 v2 : Value} {gx : Nat} (hs : a.eval s = v) (hG : GrowS X W w e v ks) (hW : W.heap.size ≤ w.heap.size)
    (hT : InT w (fun b => b < w.heap.size ∧ v.ownBlock ≠ some b ∧ ¬ X b) tr (.agg #[v0, v1, v2]))
    (hx : a.eval x = .slice (some ⟨gx, 0, none⟩) 1 1) (hgx : w.heap[gx]? = some (.cells #[v0, v1, v2] e (0, 0))) (hn : ks.length < 1099511627776)
    (h : ∀ v' w', GrowS X W w' e v' (ks ++ [tr]) → Below W.heap.size w w' → w.grownBy w' v.ownBlock → (∀ g, v'.ownBlock = some g → v.ownBlock = some g ∨ w.heap.size ≤ g) → K (a.put o.dst v') w') :
    if Region.wanted o (yielded ops a.tmps) = true then Oper.wp P o a w K Q else E := by
  have hw : Region.wanted o (yielded ops a.tmps) = true := by simp [Region.wanted, hgd]
  rw [if_pos hw]
  obtain ⟨xs, h1, h2⟩ := hG
  obtain ⟨v', w', hr, r1, r2, r3⟩ := run_append_own' (P := P) w W.heap.size t o.type e i z 3 40 ht hi hz hsize hby hzs (by decide) v ks.length xs h1 ⟨gx, 0, none⟩ 1 1 [v0, v1, v2] rfl (row3_cells hgx) (inT_oneCell hT) (by unfold maxLen; omega) (by omega) hW
  have hB : Below W.heap.size w w' := ⟨r2.os, r2.tape, r2.output, r2.size, fun b hb => r2.block b (by omega) (fun he => by have := (h1.lt b he.symm).1; omega)⟩
  have hS : ∀ b, b < w.heap.size ∧ v.ownBlock ≠ some b ∧ ¬ X b → b < w'.heap.size ∧ v'.ownBlock ≠ some b ∧ ¬ X b := fun b hb => by
    refine ⟨Nat.lt_of_lt_of_le hb.1 r2.size, fun he => ?_, hb.2.2⟩
    rcases r3 b he with h4 | h4
    · exact hb.2.1 h4
    · omega
  have hwk : ∀ b, b < w.heap.size ∧ v.ownBlock ≠ some b ∧ ¬ X b → w'.heap[b]? = w.heap[b]? := fun b hb => r2.block b hb.1 (fun he => hb.2.1 he.symm)
  have hG' : GrowS X W w' e v' (ks ++ [tr]) := ⟨_, by simpa using r1, RowL.snoc (hT.mono hS hwk) [] h1.1 (h2.mono hS hwk)⟩
  unfold Oper.wp execOp
  simp only [ho, resolve, invoke, builtin, Sem.run_bind, Sem.run_pure, Result.andThen_ok, List.map_toArray, List.map_cons, List.map_nil, hs, hx, hr]
  exact h v' w' hG' hB r2 r3
/-- As GrowS.only, and the row itself stands too. -/
theorem GrowS.keep {X : Nat → Prop} {W w w' : World} {e : TypeId} {v : Value} {ks : List Tr} (h : GrowS X W w e v ks) (hs : w.heap.size ≤ w'.heap.size) (hk : ∀ b, b < w.heap.size → ¬ X b → w'.heap[b]? = w.heap[b]?) (ho : ∀ b, v.ownBlock = some b → ¬ X b) : GrowS X W w' e v ks := by
  obtain ⟨xs, h1, h2⟩ := h
  exact ⟨xs, ownsRow_same h1 (fun b hb => hk b (h1.lt b hb).2 (ho b hb)), h2.mono (fun b hb => ⟨Nat.lt_of_lt_of_le hb.1 hs, hb.2.1, hb.2.2⟩) (fun b hb => hk b hb.1 hb.2.2)⟩
theorem GrowS.liesX {X : Nat → Prop} {W w : World} {e : TypeId} {v : Value} {ks : List Tr} (h : GrowS X W w e v ks) (ho : ∀ b, v.ownBlock = some b → ¬ X b) : ∃ A cap, v = .slice A ks.length cap ∧ ks.length ≤ cap ∧ cap ≤ maxLen ∧ InK w (fun b => b < w.heap.size ∧ ¬ X b) A ks := by
  obtain ⟨xs, h1, h2⟩ := h
  rcases h1.2 with ⟨rfl, h0⟩ | ⟨g, cap, cur, rfl, hb, hg, hnc, hcm, hcs, ht⟩
  · have : ks = [] := List.eq_nil_of_length_eq_zero h0
    subst this
    exact ⟨none, 0, rfl, Nat.le_refl _, Nat.zero_le _, .inl rfl⟩
  · refine ⟨_, cap, rfl, hnc, hcm, .inr ⟨g, 0, rfl, ⟨lt_of_blk hg, ho g rfl⟩, ?_⟩⟩
    have h3 := RowL.tail (cur.toList.drop (ks.length * 3)) (h2.mono (S' := fun b => b < w.heap.size ∧ ¬ X b) (fun b hb => ⟨hb.1, hb.2.2⟩) (fun _ _ => rfl))
    rw [← ht, List.take_append_drop] at h3
    exact RowL.inL hg (pre := []) h3 (by simp)
theorem GrowS.widen {X X' : Nat → Prop} {W w : World} {e : TypeId} {v : Value} {ks : List Tr} (h : GrowS X W w e v ks) (hX : ∀ b, b < w.heap.size → ¬ X b → ¬ X' b) : GrowS X' W w e v ks := by
  obtain ⟨xs, h1, h2⟩ := h
  exact ⟨xs, h1, h2.mono (fun b hb => ⟨hb.1, hb.2.1, hX b hb.1 hb.2.2⟩) (fun _ _ => rfl)⟩
theorem infoTermM : (Try.prog.info? 44).map (fun i => (i.zero, i.size, i.bytes)) = some (some (.agg #[.int .i64 0, .int .i64 0, .slice none 0 0]), 3, 40) := by kernel_rfl
set_option maxRecDepth 100000 in
set_option maxHeartbeats 4000000 in
theorem l1Mutate_any (t : Tr) (w : World) (g m : Nat) (v : Value) (hin : Lies w t v) (hcn : cnt t ≤ 900000) (hR : Rd w g m) (hm : m < 900000) : Calls Try.prog 114 #[.pointer (some ⟨g, 0, none⟩), v] w fun e w' => ∃ t' u, e = .returned u ∧ cnt t' ≤ cnt t + 1 ∧ From w.heap.size w' t' u ∧ Rd w' g (m + 2) ∧ Only [g] w w' := by
  have hgl := hR.lt
  obtain ⟨k, n, ks⟩ := t
  have HC := Lib.hid (fun W (hW : Ext w W) => l1Copy_top k n ks W v (hin.ext hW) (by omega))
  obtain ⟨A, cap, rfl, hl, hc, hK⟩ := Lies.mk_iff.1 hin
  have hlc := len_le_cnts ks
  simp only [cnt] at hcn
  have hx0 := ((Ext.refl w).alloc (.cells #[.int .i64 k, .int .i64 n, .slice A ks.length cap] 44)).alloc (.cells #[.int .i64 0, .int .i64 0, .slice none 0 0] 44)
  obtain ⟨b30, b40, hs0⟩ := blk2 (Ext.refl ((w.alloc (.cells #[.int .i64 k, .int .i64 n, .slice A ks.length cap] 44)).alloc (.cells #[.int .i64 0, .int .i64 0, .slice none 0 0] 44)))
  clear hin hK hl hc b30
  go_enter Try.func114, Try.ntmps114
  go_wp2_with fail
  generalize (w.alloc _).alloc _ = w0 at hx0 b40 hs0
  refine (HC.out _ hx0).mono ?_
  rintro e w1 ⟨B, c, rfl, ⟨W, hW0, hG1, hW1⟩, e1⟩
  have hx2 := e1.trans ((Ext.refl w1).alloc (.cells #[.int .i64 k, .int .i64 n, .slice B ks.length c] 44))
  obtain ⟨w2, hw2⟩ : ∃ w2, w2 = w1.alloc (.cells #[.int .i64 k, .int .i64 n, .slice B ks.length c] 44) := ⟨_, rfl⟩
  have b52 : w2.heap[w1.heap.size]? = some (.cells #[.int .i64 k, .int .i64 n, .slice B ks.length c] 44 (0, 0)) := hw2 ▸ heap_alloc_new w1 _
  have hG2 : GrowS (fun b => b < W.heap.size ∨ b = w1.heap.size) W w2 44 (.slice B ks.length c) ks := hw2 ▸ (hG1.widen (fun b hb hn h => by rcases h with h | h; exact hn h; omega)).ext ((Ext.refl w1).alloc _)
  have hown1 : ∀ q, (Value.slice B ks.length c).ownBlock = some q → W.heap.size ≤ q ∧ q < w1.heap.size := by
    obtain ⟨xs, q1, -⟩ := hG1
    exact fun q hq => ⟨(q1.lt q hq).1, (q1.lt q hq).2⟩
  rw [← hw2] at hx2
  have b42 := hx2.blk b40
  have hs2 : w1.heap.size < w2.heap.size := lt_of_blk b52
  obtain ⟨g5, hg5⟩ : ∃ g5, g5 = w1.heap.size := ⟨_, rfl⟩
  have hW5 : W.heap.size ≤ g5 := by omega
  rw [← hg5] at hG2 hown1
  go_wp2_with fail
  rw [← hw2]
  rw [← hg5] at b52 ⊢
  clear hw2 hG1 HC b40
  refine (pick_any _ g m 50 (hR.ext (hx0.trans hx2)) (by omega)).mono ?_
  rintro e w4 ⟨x, rfl, hx50, -, hR4, ho4⟩
  have hO4 : Only [g] w w4 := (Only.of_ext (hx0.trans hx2)).trans ho4
  have hw15 : w.heap.size + 1 < g5 := by have := lt_of_blk b42; have := e1.size; omega
  have b44 := ho4.keepBlk b42 (by simp; omega)
  have b54 := ho4.keepBlk b52 (by simp; omega)
  have hnX : ∀ q, (Value.slice B ks.length c).ownBlock = some q → ¬ (q < W.heap.size ∨ q = g5) := fun q hq h => by have := hown1 q hq; omega
  have hG4 := hG2.keep ho4.size (fun b hb hn => ho4.block b hb (fun hm => hn (.inl (by rw [List.mem_singleton.1 hm]; omega)))) hnX
  have hgx4 : g5 < w4.heap.size := lt_of_blk b54
  clear b42 b52 hG2 hR ho4 hs2 hg5
  obtain ⟨B', c', hBc, hl1, hl2, hKs⟩ := hG4.liesX hnX
  cases hBc
  have HK := Lib.hid (show ∀ w' : World, w4.heap.size ≤ w'.heap.size → (∀ b, W.heap.size ≤ b → b ≠ g5 → b < w4.heap.size → w'.heap[b]? = w4.heap[b]?) → FromK (w.heap.size + 2) w' B ks from fun w' h1 h2 => hKs.mono (fun b hb => ⟨by omega, by omega⟩) (fun b hb => h2 b (by omega) (by omega) hb.1))
  have HG := Lib.hid hG4
  have HNX := Lib.hid hnX
  have HOW := Lib.hid hown1
  clear hKs hG4 hnX hown1
  by_cases h0 : x = 0
  · subst h0
    have hx5 := (Ext.refl w4).alloc (.cells #[.int .i64 0, .int .i64 17, .int .i64 1, .int .i64 5, .int .i64 6] 3)
    obtain ⟨z0, z1, z2, q0, q1, q2⟩ := own3 b54
    go_wp2_with fail
    refine (num_any _ g _ (hR4.ext hx5) (by omega) _ 5 [0, 17, 1, 5, 6] (by simp) (by decide) (by simp) (nums_lit rfl) (by intro b o hb; simp at hb; have := hO4.size; omega)).mono ?_
    rintro e w6 ⟨y, rfl, -, hR6, ho6⟩
    have hO6 := (hO4.trans (Only.of_ext (L := [g]) hx5)).trans ho6
    have b46 := ho6.keepBlk (hx5.blk b44) (by simp; omega)
    have b56 := ho6.keepBlk (hx5.blk b54) (by simp; omega)
    have hs6 : w4.heap.size ≤ w6.heap.size := by have := hx5.size; have := ho6.size; omega
    have hK7 := HK.out (w6.setCell ⟨g5, 0, none⟩ (.int .i64 y)) (by simpa using hs6) (fun b h1 h2 h3 => (Below.heap_setCell _ _ _ _ (by show b ≠ g5; exact h2)).trans ((ho6.block b (by have := hx5.size; omega) (by simp; omega)).trans (hx5.heap b h3)))
    have b47 := blk_setCell_ne b46 (p := ⟨g5, 0, none⟩) (by show w.heap.size + 1 ≠ g5; omega) (.int .i64 y)
    have b57 := blk_setCell b56 0 (.int .i64 y)
    have hR7 : Rd (w6.setCell ⟨g5, 0, none⟩ (.int .i64 y)) g (m + 2) := hR6.set (by show g < g5; omega) _
    have hO7 := hO6.setNew (p := ⟨g5, 0, none⟩) (by show w.heap.size ≤ g5; omega) (.int .i64 y)
    obtain ⟨y0, y1, y2, p0, p1, p2⟩ := own3 b56
    obtain ⟨s0, s1, s2, f0, f1, f2⟩ := own3 b46
    have hgx := hgl
    clear z0 z1 z2 q0 q1 q2 hx5 b46 b56 hO6 ho6 hR6 hR4 b44 b54 hO4 hgl
    go_wp2_with fail
    refine bodyPost_ret (v := .agg #[.int .i64 y, .int .i64 n, .slice B ks.length c]) (by simp [results, Try.results114, go_sem, s0, s1, s2]) rfl ⟨.mk y n ks, _, rfl, by simp only [cnt]; omega, ?_, ?_, ?_⟩
    · exact ((((From.mk y n hK7 hl1 hl2).set (by simp) _).set (by simp) _).set (by simp) _).since (by omega)
    · exact ((hR7.set (by show g < w.heap.size + 1; omega) _).set (by show g < w.heap.size + 1; omega) _).set (by show g < w.heap.size + 1; omega) _
    · exact ((hO7.setNew (by simp) _).setNew (by simp) _).setNew (by simp) _
  by_cases h1 : x = 1
  · subst h1
    have hx5 := (Ext.refl w4).alloc (.cells #[.int .i64 21, .int .i64 (-1), .int .i64 1, .int .i64 9223372036854775807] 3)
    obtain ⟨z0, z1, z2, q0, q1, q2⟩ := own3 b54
    go_wp2_with fail
    refine (num_any _ g _ (hR4.ext hx5) (by omega) _ 4 [21, -1, 1, 9223372036854775807] (by simp) (by decide) (by simp) (nums_lit rfl) (by intro b o hb; simp at hb; have := hO4.size; omega)).mono ?_
    rintro e w6 ⟨y, rfl, -, hR6, ho6⟩
    have hO6 := (hO4.trans (Only.of_ext (L := [g]) hx5)).trans ho6
    have b46 := ho6.keepBlk (hx5.blk b44) (by simp; omega)
    have b56 := ho6.keepBlk (hx5.blk b54) (by simp; omega)
    have hs6 : w4.heap.size ≤ w6.heap.size := by have := hx5.size; have := ho6.size; omega
    have hK7 := HK.out (w6.setCell ⟨g5, 1, none⟩ (.int .i64 y)) (by simpa using hs6) (fun b h1 h2 h3 => (Below.heap_setCell _ _ _ _ (by show b ≠ g5; exact h2)).trans ((ho6.block b (by have := hx5.size; omega) (by simp; omega)).trans (hx5.heap b h3)))
    have b47 := blk_setCell_ne b46 (p := ⟨g5, 1, none⟩) (by show w.heap.size + 1 ≠ g5; omega) (.int .i64 y)
    have b57 := blk_setCell b56 1 (.int .i64 y)
    have hR7 : Rd (w6.setCell ⟨g5, 1, none⟩ (.int .i64 y)) g (m + 2) := hR6.set (by show g < g5; omega) _
    have hO7 := hO6.setNew (p := ⟨g5, 1, none⟩) (by show w.heap.size ≤ g5; omega) (.int .i64 y)
    obtain ⟨y0, y1, y2, p0, p1, p2⟩ := own3 b56
    obtain ⟨s0, s1, s2, f0, f1, f2⟩ := own3 b46
    have hgx := hgl
    clear z0 z1 z2 q0 q1 q2 hx5 b46 b56 hO6 ho6 hR6 hR4 b44 b54 hO4 hgl
    go_wp2_with fail
    refine bodyPost_ret (v := .agg #[.int .i64 k, .int .i64 y, .slice B ks.length c]) (by simp [results, Try.results114, go_sem, s0, s1, s2]) rfl ⟨.mk k y ks, _, rfl, by simp only [cnt]; omega, ?_, ?_, ?_⟩
    · exact ((((From.mk k y hK7 hl1 hl2).set (by simp) _).set (by simp) _).set (by simp) _).since (by omega)
    · exact ((hR7.set (by show g < w.heap.size + 1; omega) _).set (by show g < w.heap.size + 1; omega) _).set (by show g < w.heap.size + 1; omega) _
    · exact ((hO7.setNew (by simp) _).setNew (by simp) _).setNew (by simp) _
  by_cases h2 : x = 2
  · subst h2
    obtain ⟨i0, hi, hz0, hz1, hz2⟩ := info_parts infoTermM
    have hv4 := cell_of_blk b54 2
    have HB5 := Lib.hid b54
    have HB4 := Lib.hid b44
    have hg5n : g5 < w4.heap.size := lt_of_blk b54
    have hks5 : ks.length < 1099511627776 := by omega
    have hWw : w.heap.size + 1 < W.heap.size := by omega
    clear b54 b44 h0 h1
    go_wp2_with fail
    go_region_law (first
      | (go_simp; go_at_call 144; refine (l1Leaf_any _ 7 0).mono ?_; rintro e w5 ⟨rfl, e5⟩; have e5' : Ext w4 w5 := ((Ext.refl w4).drew).trans e5; have b55 := e5'.blk HB5.out; have hv5 := cell_of_blk b55 2; have hs55 : g5 < w5.heap.size := lt_of_blk b55)
      | (refine step_append_treeX _ (by rfl) (.tmp 25) (.tmp 27) _ (by rfl) 44 i0 _ Try.underlying42 hi hz0 hz1 hz2 rfl (by rfl) (X := fun b => b < W.heap.size ∨ b = g5) (W := W) (tr := .mk 7 0 []) (HG.out.ext (e5'.trans ((Ext.refl w5).alloc _))) (by have := e5'.size; simp; omega) (InT.mk_iff.2 ⟨none, 0, rfl, Nat.le_refl _, Nat.zero_le _, .inl rfl⟩) (by rfl) (heap_alloc_new _ _) hks5 ?_; intro v' w6 hG6 hB6 hg6 ho6; obtain ⟨B6, c6, rfl, r1, r2, hK6⟩ := hG6.liesX (fun b hb => by rcases ho6 b hb with h | h; exact HNX.out b h; (have := e5'.size; simp at h; omega)); have b66 := (hg6.block g5 (by simp; omega) (fun he => by have := HOW.out g5 he.symm; omega)).trans (((Ext.refl w5).alloc (.cells #[.int .i64 7, .int .i64 0, .slice none 0 0] 44)).blk b55); have hv6 := cell_of_blk b66 2; have hf6 := frozen_of_blk b66 2))
    all_goals (
      have b46 := (hB6.block (w.heap.size + 1) (by omega)).trans (((Ext.refl w5).alloc (.cells #[.int .i64 7, .int .i64 0, .slice none 0 0] 44)).blk (e5'.blk HB4.out))
      have hO6 : Only [g] w w6 := ((hO4.trans (Only.of_ext (L := [g]) e5')).trans (Only.of_ext (L := [g]) ((Ext.refl w5).alloc (.cells #[.int .i64 7, .int .i64 0, .slice none 0 0] 44)))).below hB6 (by omega)
      have hR6 : Rd w6 g (m + 1) := ((hR4.ext e5').ext ((Ext.refl w5).alloc (.cells #[.int .i64 7, .int .i64 0, .slice none 0 0] 44))).under hB6 (by omega)
      rw [List.length_append, List.length_singleton] at r1
      have HK6 := Lib.hid hK6
      have hlen2 : (ks ++ [Tr.mk 7 0 []]).length = ks.length + 1 := by simp
      have HL2 := Lib.hid hlen2
      obtain ⟨y0, y1, y2, p0, p1, p2⟩ := own3 b66
      obtain ⟨s0, s1, s2, f0, f1, f2⟩ := own3 b46
      have hgx := hgl
      clear hlen2 hK6 hB6 hg6 ho6 b46 b66 hG6 b55 hv5 hv4 hgl
      go_wp2_with fail
      refine bodyPost_ret (v := .agg #[.int .i64 k, .int .i64 n, .slice B6 (ks.length + 1) c6]) (by simp [results, Try.results114, go_sem, s0, s1, s2]) rfl ⟨.mk k n (ks ++ [.mk 7 0 []]), _, rfl, by simp only [cnt, cnts_append, cnts]; omega, ?_, ?_, ?_⟩
      · have hF7 : FromK (w.heap.size + 2) (w6.setCell ⟨g5, 2, none⟩ (.slice B6 (ks.length + 1) c6)) B6 (ks ++ [.mk 7 0 []]) := HK6.out.mono (fun b hb => ⟨by omega, by simpa using hb.1⟩) (fun b hb => Below.heap_setCell _ _ _ _ (by show b ≠ g5; omega))
        have hF8 := From.mk k n hF7 (by rw [HL2.out]; exact r1) r2
        rw [HL2.out] at hF8
        exact (((hF8.set (by simp) _).set (by simp) _).set (by simp) _).since (by omega)
      · exact (((((hR6.mono (by omega)).set (by show g < g5; omega) _).set (by show g < w.heap.size + 1; omega) _).set (by show g < w.heap.size + 1; omega) _).set (by show g < w.heap.size + 1; omega) _)
      · exact ((((hO6.setNew (by show w.heap.size ≤ g5; omega) _).setNew (by simp) _).setNew (by simp) _).setNew (by simp) _))
  by_cases h3 : x = 3
  · subst h3
    have hFr : From (w.heap.size + 2) w4 (.mk k n ks) (.agg #[.int .i64 k, .int .i64 n, .slice B ks.length c]) := From.mk k n (HK.out w4 (Nat.le_refl _) (fun _ _ _ _ => rfl)) hl1 hl2
    obtain ⟨y0, y1, y2, p0, p1, p2⟩ := own3 b54
    clear h0 h1 h2
    go_wp2_with fail
    refine (l1Node_from (w.heap.size + 2) _ 8 _ 1 [.mk k n ks] (by intro h; cases h) (FromK.one (g := w4.heap.size) (e := 44) hFr (by omega) rfl) (by simp; omega) (by simp)).mono ?_
    rintro e w6 ⟨u, rfl, hN, e6⟩
    obtain ⟨k6, n6, A6, l6, c6, rfl⟩ := hN.three
    have hx6 := ((Ext.refl w4).alloc (.cells #[.int .i64 k, .int .i64 n, .slice B ks.length c] 44)).trans e6
    have hO6 := hO4.trans (Only.of_ext (L := [g]) hx6)
    have hR6 : Rd w6 g (m + 2) := (hR4.ext hx6).mono (by omega)
    obtain ⟨s0, s1, s2, f0, f1, f2⟩ := own3 (hx6.blk b44)
    have hgx := hgl
    clear y0 y1 y2 p0 p1 p2 hgl b44 b54 hFr hR4
    go_wp2_with fail
    refine bodyPost_ret (v := .agg #[.int .i64 k6, .int .i64 n6, .slice A6 l6 c6]) (by simp [results, Try.results114, go_sem, s0, s1, s2]) rfl ⟨.mk 8 0 [.mk k n ks], _, rfl, by simp only [cnt, cnts]; omega, ?_, ?_, ?_⟩
    · exact (((hN.set (by simp) _).set (by simp) _).set (by simp) _).since (by omega)
    · exact ((hR6.set (by show g < w.heap.size + 1; omega) _).set (by show g < w.heap.size + 1; omega) _).set (by show g < w.heap.size + 1; omega) _
    · exact ((hO6.setNew (by simp) _).setNew (by simp) _).setNew (by simp) _
  by_cases h4 : x = 4
  · subst h4
    cases hks : ks with
    | nil =>
      subst hks
      have hK7 := HK.out w4 (Nat.le_refl _) (fun _ _ _ _ => rfl)
      have hR7 : Rd w4 g (m + 2) := hR4.mono (by omega)
      clear hR4 h0 h1 h2 h3
      obtain ⟨s0, s1, s2, f0, f1, f2⟩ := own3 b44
      obtain ⟨x0, x1, x2, -, -, -⟩ := own3 b54
      have hgx := hgl
      clear hgl
      go_wp2_with fail
      refine bodyPost_ret (v := .agg #[.int .i64 k, .int .i64 n, .slice B 0 c]) (by simp [results, Try.results114, go_sem, s0, s1, s2]) rfl ⟨.mk k n [], _, rfl, by simp only [cnt]; omega, ?_, ?_, ?_⟩
      · exact ((((From.mk k n hK7 hl1 hl2).set (by simp) _).set (by simp) _).set (by simp) _).since (by omega)
      · exact ((hR7.set (by show g < w.heap.size + 1; omega) _).set (by show g < w.heap.size + 1; omega) _).set (by show g < w.heap.size + 1; omega) _
      · exact ((hO4.setNew (by simp) _).setNew (by simp) _).setNew (by simp) _
    | cons t0 ts =>
      have hkl0 : 0 < ks.length := by rw [hks]; simp
      rw [← hks]
      obtain ⟨xs, q1, q2⟩ := HG.out
      rcases q1.2 with ⟨hv, hz⟩ | ⟨r, cap', cur, hv, hbr, hr4, hnc, hcm, hcs, htk⟩
      · omega
      cases hv
      have hr5 : W.heap.size ≤ r ∧ r < g5 := HOW.out r rfl
      have hrow := RowL.tail (cur.toList.drop (ks.length * 3)) (q2.mono (S' := fun b => b < w4.heap.size ∧ r ≠ b ∧ ¬ (b < W.heap.size ∨ b = g5)) (fun b hb => ⟨hb.1, fun h => hb.2.1 (by rw [h]; rfl), hb.2.2⟩) (fun _ _ => rfl))
      rw [← htk, List.take_append_drop] at hrow
      have HRow := Lib.hid hrow
      have hc3 : 0 + 3 ≤ cur.size := by rw [hcs]; omega
      have HB5 := Lib.hid b54
      have HB4 := Lib.hid b44
      have HR := Lib.hid hr4
      obtain ⟨y0, y1, y2, p0, p1, p2⟩ := own3 b54
      obtain ⟨v0, v1, v2, z0, z1, z2, fz0, fz1, fz2⟩ := cells3 (i := 0) hr4 hc3
      have hg5n : g5 < w4.heap.size := lt_of_blk b54
      have hi0 : (0 : Int) < (ks.length : Int) := by omega
      have HKS := Lib.hid hks
      have hct : cnts (ks.set 0 (.mk 1 25 [])) ≤ cnts ks := by
        rw [hks]
        have := cnt_pos t0
        simp [cnts, cnt]
        omega
      clear b54 b44 h0 h1 h2 h3 hrow htk q1 q2 hr4 hks hcs hc3
      go_wp2_with fail
      go_region_law (go_simp; go_at_call 144; refine (l1Leaf_any _ 1 25).mono ?_; rintro e w5 ⟨rfl, e5⟩; have e5' : Ext w4 w5 := ((Ext.refl w4).drew).trans e5; have b55 := e5'.blk HB5.out; have hv5 := cell_of_blk b55 2; have hs55 : g5 < w5.heap.size := lt_of_blk b55; have hrb5 := e5'.blk HR.out; have k0 := e5'.cell z0; have k1 := e5'.cell z1; have k2 := e5'.cell z2; have fk0 := frozen_of_blk hrb5 0; have fk1 := frozen_of_blk hrb5 1; have fk2 := frozen_of_blk hrb5 2)
      all_goals (
        obtain ⟨w7, hw7⟩ : ∃ w7, w7 = ((w5.setCell ⟨r, 0, none⟩ (.int .i64 1)).setCell ⟨r, 1, none⟩ (.int .i64 25)).setCell ⟨r, 2, none⟩ (.slice none 0 0) := ⟨_, rfl⟩
        have b7r : w7.heap[r]? = some (.cells (((cur.setIfInBounds 0 (.int .i64 1)).setIfInBounds 1 (.int .i64 25)).setIfInBounds 2 (.slice none 0 0)) 44 (0, 0)) := by
          rw [hw7]; exact blk_setCell (blk_setCell (blk_setCell hrb5 0 _) 1 _) 2 _
        have hne : ∀ b, b ≠ r → w7.heap[b]? = w5.heap[b]? := fun b hb => by
          rw [hw7, Below.heap_setCell _ _ _ _ hb, Below.heap_setCell _ _ _ _ hb, Below.heap_setCell _ _ _ _ hb]
        have hs7 : w7.heap.size = w5.heap.size := by rw [hw7]; simp
        have hs45 := e5'.size
        have hR7 : Rd w7 g (m + 2) := by
          rw [hw7]
          exact ((((hR4.ext e5').mono (show m + 1 ≤ m + 2 by omega)).set (p := ⟨r, 0, none⟩) (by show g < r; omega) _).set (p := ⟨r, 1, none⟩) (by show g < r; omega) _).set (p := ⟨r, 2, none⟩) (by show g < r; omega) _
        have hO7 : Only [g] w w7 := by
          rw [hw7]
          exact ((((hO4.trans (Only.of_ext (L := [g]) e5')).setNew (p := ⟨r, 0, none⟩) (by show w.heap.size ≤ r; omega) _).setNew (p := ⟨r, 1, none⟩) (by show w.heap.size ≤ r; omega) _).setNew (p := ⟨r, 2, none⟩) (by show w.heap.size ≤ r; omega) _)
        have b57 := (hne g5 (by omega)).trans b55
        have b47 := (hne (w.heap.size + 1) (by omega)).trans (e5'.blk HB4.out)
        have hrow7 := RowL.set (S := fun b => b < w7.heap.size ∧ w.heap.size + 2 ≤ b) (t := .mk 1 25 []) (v0 := .int .i64 1) (v1 := .int .i64 25) (v2 := .slice none 0 0) (InT.mk_iff.2 ⟨none, 0, rfl, Nat.le_refl _, Nat.zero_le _, .inl rfl⟩) 0 (HRow.out.mono (w' := w7) (S' := fun b => b < w7.heap.size ∧ w.heap.size + 2 ≤ b) (fun b hb => ⟨by omega, by omega⟩) (fun b hb => (hne b (fun h => hb.2.1 h.symm)).trans (e5'.heap b hb.1)))
        have hF7 : FromK (w.heap.size + 2) w7 (some ⟨r, 0, none⟩) (ks.set 0 (.mk 1 25 [])) := by
          refine .inr ⟨r, 0, rfl, ⟨by omega, by rw [hs7]; exact lt_of_blk hrb5⟩, ?_⟩
          have h9 := RowL.inL b7r (pre := []) (xs := ((cur.toList.set (0 * 3) (.int .i64 1)).set (0 * 3 + 1) (.int .i64 25)).set (0 * 3 + 2) (.slice none 0 0)) hrow7 (by simp [Array.toList_setIfInBounds])
          exact h9.mono (fun b hb => ⟨hb.2, hb.1⟩) (fun _ _ => rfl) ⟨by rw [hs7]; exact lt_of_blk hrb5, by omega⟩
        have hF8 := From.mk k n hF7 (by rw [List.length_set]; exact hl1) hl2
        rw [List.length_set] at hF8
        have HF8 := Lib.hid hF8
        have hctf : cnt (.mk k n (ks.set 0 (.mk 1 25 []))) ≤ cnt (.mk k n ks) + 1 := by simp only [cnt]; omega
        have HCT := Lib.hid hctf
        obtain ⟨s0, s1, s2, f0, f1, f2⟩ := own3 b47
        obtain ⟨x0, x1, x2, -, -, -⟩ := own3 b57
        have hgx := hgl
        clear hF8 hF7 hrow7 b57 b47 hne b7r hctf hrb5 k0 k1 k2 fk0 fk1 fk2 b55 hv5 hgl y0 y1 y2 z0 z1 z2 fz0 fz1 fz2 p0 p1 p2
        try rw [← hw7]
        clear hw7
        go_wp2_with fail
        refine bodyPost_ret (v := .agg #[.int .i64 k, .int .i64 n, .slice (some ⟨r, 0, none⟩) ks.length c]) (by simp [results, Try.results114, go_sem, s0, s1, s2]) rfl ⟨.mk k n (ks.set 0 (.mk 1 25 [])), _, rfl, HCT.out, ?_, ?_, ?_⟩
        · exact (((HF8.out.set (by simp) _).set (by simp) _).set (by simp) _).since (by omega)
        · exact ((hR7.set (by show g < w.heap.size + 1; omega) _).set (by show g < w.heap.size + 1; omega) _).set (by show g < w.heap.size + 1; omega) _
        · exact ((hO7.setNew (by simp) _).setNew (by simp) _).setNew (by simp) _)
  have t0 : (x == 0) = false := beq_eq_false_iff_ne.2 h0
  have t1 : (x == 1) = false := beq_eq_false_iff_ne.2 h1
  have t2 : (x == 2) = false := beq_eq_false_iff_ne.2 h2
  have t3 : (x == 3) = false := beq_eq_false_iff_ne.2 h3
  have t4 : (x == 4) = false := beq_eq_false_iff_ne.2 h4
  have hK7 := HK.out w4 (Nat.le_refl _) (fun _ _ _ _ => rfl)
  have hR7 : Rd w4 g (m + 2) := hR4.mono (by omega)
  clear hR4 h0 h1 h2 h3 h4
  obtain ⟨s0, s1, s2, f0, f1, f2⟩ := own3 b44
  obtain ⟨x0, x1, x2, -, -, -⟩ := own3 b54
  have hgx := hgl
  clear hgl
  go_wp2_with fail
  refine bodyPost_ret (v := .agg #[.int .i64 k, .int .i64 n, .slice B ks.length c]) (by simp [results, Try.results114, go_sem, s0, s1, s2]) rfl ⟨.mk k n ks, _, rfl, by simp only [cnt]; omega, ?_, ?_, ?_⟩
  · exact ((((From.mk k n hK7 hl1 hl2).set (by simp) _).set (by simp) _).set (by simp) _).since (by omega)
  · exact ((hR7.set (by show g < w.heap.size + 1; omega) _).set (by show g < w.heap.size + 1; omega) _).set (by show g < w.heap.size + 1; omega) _
  · exact ((hO4.setNew (by simp) _).setNew (by simp) _).setNew (by simp) _
end Go.Proofs.Ytappakllopkfiaa

namespace Go.Proofs.Ytappakllopkfiaa
open Go.RowKit
set_option linter.unusedVariables false
attribute [local go_sem ↓] Go.wp_at_zero Go.wp_at_succ

theorem cnt_valid {t : Tr} (h : valid sigT t = true) : cnt t ≤ 400 := by
  unfold valid at h
  rw [Bool.and_eq_true] at h
  exact of_decide_eq_true h.2

set_option maxRecDepth 100000 in
set_option maxHeartbeats 1000000 in
theorem drawRedexOf_any (w : World) (A : Option Addr) (cap : Nat) (bs : List Int) (hl : bs.length ≤ cap) (hc : cap ≤ maxLen) (hB : Bytes w w.heap.size A bs) : Calls Try.prog 85 #[.slice A bs.length cap] w fun e w' =>
    ∃ t u, e = .returned u ∧ cnt t ≤ 401 ∧ From w.heap.size w' t u ∧ Ext w w' := by
  have hx0 := (Ext.refl w).alloc (.cells #[.int .i64 0, .int .i64 0, .slice none 0 0] 44)
  have hb0 := heap_alloc_new w (.cells #[.int .i64 0, .int .i64 0, .slice none 0 0] 44)
  go_enter Try.func85, Try.ntmps85
  go_wp2_with fail
  refine (l19Open_any _ A cap bs hl hc ((hB.ext hx0).mono hx0.size)).mono ?_
  rintro e w1 ⟨rfl, hR, h1⟩
  generalize hg : (w.alloc (.cells #[.int .i64 0, .int .i64 0, .slice none 0 0] 44)).heap.size = g at hR ⊢
  have hg' : w.heap.size < g := by rw [← hg]; simp
  have hb1 := h1.blk hb0
  clear hg hb0
  go_wp2_with fail
  refine (l3Draw_any _ _ 0 hR (by omega)).mono ?_
  rintro e w2 ⟨t, u, rfl, hV, hF, hR2, ho⟩
  have hct := cnt_valid hV
  obtain ⟨a1, a2, a3, a4, a5, rfl⟩ := hF.three
  go_wp2_with fail
  refine (l1Mutate_any t _ _ _ _ hF.lies (by omega) hR2 (by omega)).mono ?_
  rintro e w3 ⟨t', u', rfl, hct', hF3, hR3, ho3⟩
  obtain ⟨b1, b2, b3, b4, b5, rfl⟩ := hF3.three
  have hE := (ho.trans ho3).ext (hx0.trans h1) (by intro b hb; simp at hb; omega)
  have hs2 := hF3.since (C := w.heap.size + 1) (by have := ho.size; have := lt_of_blk hb1; omega)
  obtain ⟨s0, s1, s2, f0, f1, f2⟩ := own3 (ho3.keepBlk (ho.keepBlk hb1 (by simp; omega)) (by simp; omega))
  clear hb1
  go_wp2_with fail
  refine bodyPost_ret (v := .agg #[.int .i64 b1, .int .i64 b2, .slice b3 b4 b5]) (by simp [results, Try.results85, go_sem, s0, s1, s2]) rfl ⟨t', _, rfl, by omega, ?_, ?_⟩
  · exact (((hs2.set (by simp) _).set (by simp) _).set (by simp) _).since (by omega)
  · exact ((hE.setCell (by simp) _).setCell (by simp) _).setCell (by simp) _
end Go.Proofs.Ytappakllopkfiaa

namespace Go.Proofs.Ytappakllopkfiaa
open Go.RowKit
set_option linter.unusedVariables false
attribute [local go_sem ↓] Go.wp_at_zero Go.wp_at_succ

set_option maxRecDepth 100000 in
theorem drawRedexPlaces_any (w : World) (A : Option Addr) (cap : Nat) (bs : List Int) (hl : bs.length ≤ cap) (hc : cap ≤ maxLen) (hB : Bytes w w.heap.size A bs) : Calls Try.prog 29 #[.slice A bs.length cap] w fun e w' =>
    ∃ t u, e = .returned u ∧ cnt t ≤ 401 ∧ From w.heap.size w' t u ∧ Ext w w' := by
  have hx0 := (Ext.refl w).alloc (.cells #[.int .i64 0, .int .i64 0, .slice none 0 0] 44)
  have hb0 := heap_alloc_new w (.cells #[.int .i64 0, .int .i64 0, .slice none 0 0] 44)
  go_enter Try.func29, Try.ntmps29
  go_wp2_with fail
  refine (drawRedexOf_any _ A cap bs hl hc ((hB.ext hx0).mono hx0.size)).mono ?_
  rintro e w1 ⟨t, u, rfl, hct, hL, h1⟩
  have hL := hL.since (C := w.heap.size + 1) (by simp)
  obtain ⟨b1, b2, b3, b4, b5, rfl⟩ := hL.three
  obtain ⟨s0, s1, s2, f0, f1, f2⟩ := own3 (h1.blk hb0)
  go_wp2_with fail
  refine bodyPost_ret (v := .agg #[.int .i64 b1, .int .i64 b2, .slice b3 b4 b5]) (by simp [results, Try.results29, go_sem, s0, s1, s2]) rfl ⟨t, _, rfl, hct, ?_, ?_⟩
  · exact (((hL.set (by simp) _).set (by simp) _).set (by simp) _).since (by omega)
  · exact (((hx0.trans h1).setCell (by simp) _).setCell (by simp) _).setCell (by simp) _
end Go.Proofs.Ytappakllopkfiaa

/-
  spec.l12Put: a program with another one for a variable.
-/
import Derived.Test.YtappakllopkfiaaFilled
import Derived.Test.YtappakllopkfiaaCopy
namespace Go.Proofs.Ytappakllopkfiaa
open Go.RowKit
set_option linter.unusedVariables false
attribute [local go_sem ↓] Go.wp_at_zero Go.wp_at_succ
attribute [local go_sem] ldF

def L12PC (t : Tr) : Prop := ∀ (u : Tr) (w : World) (v vu : Value) (x : Int), Lies w t v → Lies w u vu → cnt t ≤ 1000000 → cnt u ≤ 1000000 → 0 ≤ x → x + cnt t ≤ 4000000 →
  Calls Try.prog 178 #[v, vu, .int .i64 x] w fun e w' => ∃ r, e = .returned r ∧ Made w w' 28 (putT t x u) r ∧ Ext w w'
set_option maxRecDepth 100000 in
set_option maxHeartbeats 4000000 in
theorem l12Put_any : ∀ t : Tr, L12PC t := Tr.ind fun k n ks hk => by
  intro u w v vu x hin hu hcnt hcu hx0 hx1
  obtain ⟨A, cap, rfl, hl, hc, hK⟩ := Lies.mk_iff.1 hin
  have hu0 := hu
  obtain ⟨d1, d2, d3, d4, d5, rfl⟩ := InT.three hu
  obtain ⟨i0, hi, hz0, hz1, hz2⟩ := info_parts infoFi
  have hcc := hc
  unfold maxLen at hcc
  simp only [cnt] at hcnt hx1
  have hlc := len_le_cnts ks
  have hpt : putT (.mk k n ks) x u = if k = 1 ∧ n = x then u else .mk k n (putTs ks (x + scp k) u) := by rw [putT]
  rw [hpt]
  clear hpt
  have hE1 : Ext w (((w.alloc (.cells #[.int .i64 k, .int .i64 n, .slice A ks.length cap] 28)).alloc (.cells #[.int .i64 d1, .int .i64 d2, .slice d3 d4 d5] 28)).alloc (.cells #[.int .i64 0, .int .i64 0, .slice none 0 0] 28)) := (((Ext.refl w).alloc _).alloc _).alloc _
  obtain ⟨hbT, hbU, hbR, hs2⟩ := blk3 (Ext.refl (((w.alloc (.cells #[.int .i64 k, .int .i64 n, .slice A ks.length cap] 28)).alloc (.cells #[.int .i64 d1, .int .i64 d2, .slice d3 d4 d5] 28)).alloc (.cells #[.int .i64 0, .int .i64 0, .slice none 0 0] 28)))
  by_cases hv : k = 1 ∧ n = x
  · obtain ⟨rfl, rfl⟩ := hv
    rw [if_pos ⟨rfl, rfl⟩]
    go_enter Try.func178, Try.ntmps178
    go_wp2_with fail
    generalize World.alloc (World.alloc (World.alloc w _) _) _ = w1 at hE1 hbT hbU hbR hs2 ⊢
    refine (l12Copy_any u _ _ (hu0.ext hE1) (by omega)).mono ?_
    rintro e w6 ⟨xo, rfl, hM6, h6⟩
    obtain ⟨o1, o2, o3, o4, o5, rfl⟩ := hM6.three'
    obtain ⟨s0, s1, s2, f0, f1, f2⟩ := own3 (h6.blk hbR)
    have hlt := lt_of_blk hbR
    have hxx := hE1.trans h6
    clear hbT hbU hbR
    go_wp2_with fail
    refine bodyPost_ret (v := .agg #[.int .i64 o1, .int .i64 o2, .slice o3 o4 o5]) (by simp [results, Try.results178, go_sem, s0, s1, s2]) rfl ⟨_, rfl, ?_, ?_⟩
    · exact Made.since (Made.after hM6 ((((Above.refl _ _).setCell (by show w.heap.size + 1 + 1 < _; omega) _).setCell (by show w.heap.size + 1 + 1 < _; omega) _).setCell (by show w.heap.size + 1 + 1 < _; omega) _)) hE1.size
    · exact ((hxx.setCell (by show w.heap.size ≤ w.heap.size + 1 + 1; omega) _).setCell (by show w.heap.size ≤ w.heap.size + 1 + 1; omega) _).setCell (by show w.heap.size ≤ w.heap.size + 1 + 1; omega) _
  · rw [if_neg hv]
    obtain ⟨rs, hrs⟩ : ∃ rs, rs = putTs ks (x + scp k) u := ⟨_, rfl⟩
    have hrl : rs.length = ks.length := by rw [hrs, putTs_len]
    have HGET := Lib.hid (show ∀ j (h : j < ks.length), rs[j]'(by omega) = putT ks[j] (x + scp k) u from fun j h => by subst hrs; exact putTs_get ks _ u j h)
    rw [← hrs]
    have hb1 : ∃ b1 b2, (k == 1) = b1 ∧ (n == x) = b2 ∧ (b1 && b2) = false := ⟨_, _, rfl, rfl, by
      by_cases h1 : k = 1
      · have h2 : n ≠ x := fun h => hv ⟨h1, h⟩
        rw [beq_eq_false_iff_ne.2 h2, Bool.and_false]
      · rw [beq_eq_false_iff_ne.2 h1, Bool.false_and]⟩
    obtain ⟨b1, b2, hk1, hk2, hk3⟩ := hb1
    clear hrs
    clear hv
    by_cases hk2 : k = 2
    · subst hk2
      have hsc1 : x + scp 2 = x + 1 := rfl
      rw [hsc1] at HGET
      have HW1 : IntKind.i64.wrap (x + 1) = x + 1 := IntWalk.i64_in _ ⟨by omega, by omega⟩
      have hq1 : 0 ≤ x + 1 := by omega
      clear hsc1 hk1 hk2 hk3
      go_enter Try.func178, Try.ntmps178
      go_wp2_with fail
      obtain ⟨w1, hw1⟩ : ∃ w1, w1 = (((w.alloc (.cells #[.int .i64 2, .int .i64 n, .slice A ks.length cap] 28)).alloc (.cells #[.int .i64 d1, .int .i64 d2, .slice d3 d4 d5] 28)).alloc (.cells #[.int .i64 0, .int .i64 0, .slice none 0 0] 28)) := ⟨_, rfl⟩
      obtain ⟨W, hW⟩ : ∃ W, W = w1.alloc (.cells #[.int .i64 2, .int .i64 n, .slice none 0 0] 28) := ⟨_, rfl⟩
      have hs1 : w1.heap.size = w.heap.size + 3 := by rw [hw1]; simp
      have hsW : W.heap.size = w.heap.size + 4 := by rw [hW]; simp; omega
      have hEw1 : Ext w w1 := hw1 ▸ hE1
      have hEW : Ext w1 W := hW ▸ (Ext.refl w1).alloc _
      rw [← hw1] at hbT hbU hbR
      have hbO : W.heap[w.heap.size + 1 + 1 + 1]? = some (.cells #[.int .i64 2, .int .i64 n, .slice none 0 0] 28 (0, 0)) := by
        have := heap_alloc_new w1 (.cells #[.int .i64 2, .int .i64 n, .slice none 0 0] 28)
        rw [hs1] at this
        rw [hW]
        exact this
      rw [← hw1, ← hW]
      have hsWa : w.heap.size + 4 ≤ W.heap.size := by omega
      have hsWb : W.heap.size ≤ w.heap.size + 4 := by omega
      have hs1a : w.heap.size + 3 ≤ w1.heap.size := by omega
      have hs1b : w1.heap.size ≤ w.heap.size + 3 := by omega
      clear hW hw1 hsW hs1 hs2 hE1
      go_loopw [8] (fun i wr => ∃ (j : Nat) (v : Value), j ≤ ks.length ∧ i = .int .i64 j ∧ wr.heap[w.heap.size + 1 + 1 + 1]? = some (.cells #[.int .i64 2, .int .i64 n, v] 28 (0, 0)) ∧ Grow W wr 28 v (rs.take j) ∧ Ext w1 wr ∧ W.heap.size ≤ wr.heap.size) (fun i _ => ks.length - (intOf i).toNat)
      case atStart => exact ⟨0, _, Nat.zero_le _, rfl, hbO, Grow.nil _ _ _, hEW, Nat.le_refl _⟩
      case round =>
        obtain ⟨j, v, hj, rfl, hbv, hG, he, hle⟩ := hrel
        by_cases hlt : j < ks.length
        · obtain ⟨b, o, k', n', A', cap', kids, rfl, HK, c0, c1, c2, hkl, hkc, hK', hin', hmem⟩ := hK.get (hEw1.trans he) hlt
          have htk := take_snoc' (l := rs) (j := j) (by omega) (HGET.out j hlt)
          rw [HK.out] at htk
          have HTK := Lib.hid htk
          have hcm := cnt_mem hmem
          have hlen : (rs.take j).length < 1099511627776 := by rw [List.length_take]; omega
          have hlj : (rs.take j).length = j := by rw [List.length_take]; omega
          have HL := Lib.hid hlj
          have hj' : (j : Int) < (ks.length : Int) := by omega
          have hbw : b < wr.heap.size := World.block_lt_of_cell? _ _ c0
          have hbww : b < w.heap.size := by
            rcases hK with h | ⟨b', o', he', hb', -⟩
            · subst h; simp at hlt
            · simp only [Option.some.injEq, Addr.mk.injEq, and_true] at he'
              obtain ⟨rfl, rfl⟩ := he'
              exact hb'
          clear htk hlj hcc
          obtain ⟨-, -, t2, -, -, -⟩ := own3 (he.blk hbT)
          obtain ⟨u0, u1, u2, -, -, -⟩ := own3 (he.blk hbU)
          go_wp2_with fail
          have hv := cell_of_blk hbv 2
          have hcells : ∀ w', Below W.heap.size wr w' → w'.heap[w.heap.size + 1 + 1 + 1]? = some (.cells #[.int .i64 2, .int .i64 n, v] 28 (0, 0)) := fun w' hB => (hB.block (w.heap.size + 1 + 1 + 1) (by omega)).trans hbv
          have HCells := Lib.hid hcells
          have hEd : Ext wr wr.drew := (Ext.refl wr).drew
          have hinD := hin'.ext hEd
          have huD := hu0.ext ((hEw1.trans he).trans hEd)
          have HS := Lib.hid (show ∀ w' : World, (∀ y, y < W.heap.size → y ≠ w.heap.size + 1 + 1 + 1 → w'.heap[y]? = wr.heap[y]?) → w'.cell? ⟨b, o + j * 3, none⟩ = some (.int .i64 k') ∧ w'.cell? ⟨b, o + j * 3 + 1, none⟩ = some (.int .i64 n') ∧ w'.cell? ⟨b, o + j * 3 + 2, none⟩ = some (.slice A' kids.length cap') ∧ w'.cell? ⟨w.heap.size, 2, none⟩ = some (.slice (some ⟨b, o, none⟩) ks.length cap) ∧ w'.cell? ⟨w.heap.size + 1, 0, none⟩ = some (.int .i64 d1) ∧ w'.cell? ⟨w.heap.size + 1, 1, none⟩ = some (.int .i64 d2) ∧ w'.cell? ⟨w.heap.size + 1, 2, none⟩ = some (.slice d3 d4 d5) from fun w' hw => by
            have f : ∀ (y j : Nat) (x : Value), y < W.heap.size → y ≠ w.heap.size + 1 + 1 + 1 → wr.cell? ⟨y, j, none⟩ = some x → w'.cell? ⟨y, j, none⟩ = some x := fun y j x h1 h2 h3 => (World.cell?_of_block (a := ⟨y, j, none⟩) (hw y h1 h2)).trans h3
            exact ⟨f _ _ _ (by omega) (by omega) c0, f _ _ _ (by omega) (by omega) c1, f _ _ _ (by omega) (by omega) c2, f _ _ _ (by omega) (by omega) t2, f _ _ _ (by omega) (by omega) u0, f _ _ _ (by omega) (by omega) u1, f _ _ _ (by omega) (by omega) u2⟩)
          clear t2 u0 u1 u2 c0 c1 c2 hcells hbv
          rw [show Op.load 26 (Operand.tmp 37) = ldF 26 37 from rfl]
          go_region_held_law (fun w' => w'.cell? ⟨b, o + j * 3, none⟩ = some (.int .i64 k') ∧ w'.cell? ⟨b, o + j * 3 + 1, none⟩ = some (.int .i64 n') ∧ w'.cell? ⟨b, o + j * 3 + 2, none⟩ = some (.slice A' kids.length cap') ∧ w'.cell? ⟨w.heap.size, 2, none⟩ = some (.slice (some ⟨b, o, none⟩) ks.length cap) ∧ w'.cell? ⟨w.heap.size + 1, 0, none⟩ = some (.int .i64 d1) ∧ w'.cell? ⟨w.heap.size + 1, 1, none⟩ = some (.int .i64 d2) ∧ w'.cell? ⟨w.heap.size + 1, 2, none⟩ = some (.slice d3 d4 d5))
            (first | exact HS.out _ (fun y h1 h2 => by rw [Below.heap_setCell _ _ _ _ (by show y ≠ w.heap.size + 1 + 1 + 1; omega)]; exact hB5.block y h1) | exact HS.out _ (fun y h1 _ => hB5.block y h1) | exact HS.out _ (fun y h1 _ => (h74.alloc _).heap y (by omega)) | exact HS.out _ (fun y h1 _ => h74.heap y (by omega)) | exact HS.out _ (fun y h1 _ => hEd.heap y (by omega)))
            (first
              | (go_simp; go_at_call 178; refine (hk _ hmem u _ _ _ (x + 1) hinD huD (by omega) hcu (by omega) (by omega)).mono ?_; rintro e w4 ⟨r, rfl, hM, h4⟩; obtain ⟨a1, a2, a3, a4, a5, rfl⟩ := hM.three'; have h74 : Ext wr w4 := hEd.trans h4; have hv4 := cell_of_blk (HCells.out _ (h74.below hle)) 2; have hs4 := World.block_lt_of_cell? _ _ hv4; (try dsimp only))
              | (refine step_append_tree _ (by rfl) (.tmp 38) (.tmp 47) _ (by rfl) 28 i0 _ Try.underlying26 hi hz0 hz1 hz2 rfl (by rfl) hG hle h74 (hM.since (Nat.le_refl _)) ((Ext.refl _).alloc _) (by rfl) (heap_alloc_new _ _) hlen ?_; intro v' w5 hG5 hB5; obtain ⟨B5, c5, rfl, q1, q2, -⟩ := hG5.made; have hv5 := cell_of_blk (HCells.out _ hB5) 2; have hf5 := frozen_of_blk (HCells.out _ hB5) 2; (try dsimp only)))
          all_goals (
            have hE5 : Ext w1 w5 := he.trans' hB5 (by omega)
            have hs5 := hB5.size
            have hb6 := HCells.out _ hB5
            rw [List.length_append, List.length_singleton, HL.out, HTK.out] at hG5
            have hGs := fun u => hG5.after ((Above.refl W.heap.size w5).setCell (p := ⟨w.heap.size + 1 + 1 + 1, 2, none⟩) (by show w.heap.size + 1 + 1 + 1 < W.heap.size; omega) u)
            clear hv4 hs4 hv HCells hM h4
            go_wp2_with fail
            go_roundw
            case rel => exact ⟨j + 1, _, by omega, by go_num, blk_setCell hb6 2 _, hGs _, hE5.setCell (by show _ ≤ w.heap.size + 1 + 1 + 1; omega) _, by simp; omega⟩
            case measure => simp [intOf]; omega)
        · obtain ⟨B5, c5, rfl, q1, q2, hMK⟩ := hG.made
          have hjl : j = ks.length := by omega
          have hrj : rs.take j = rs := List.take_of_length_le (by omega)
          obtain ⟨r0, r1, r2, -, -, -⟩ := own3 hbv
          obtain ⟨-, -, t2, -, -, -⟩ := own3 (he.blk hbT)
          obtain ⟨s0, s1, s2, f0, f1, f2⟩ := own3 (he.blk hbR)
          have hlz : w.heap.size < wr.heap.size := lt_of_blk (he.blk hbT)
          rw [hrj] at q1 r2 hMK
          have hE9 := hEw1.trans he
          clear hbv
          go_wp2_with fail
          refine bodyPost_ret (v := .agg #[.int .i64 2, .int .i64 n, .slice B5 rs.length c5]) (by simp [results, Try.results178, go_sem, s0, s1, s2, hrl]) rfl ⟨_, rfl, ?_, ?_⟩
          · exact Made.since (Made.after (Made.mk q1 q2 hMK) ((((Above.refl _ _).setCell (by show w.heap.size + 1 + 1 < _; omega) _).setCell (by show w.heap.size + 1 + 1 < _; omega) _).setCell (by show w.heap.size + 1 + 1 < _; omega) _)) (by omega)
          · exact ((hE9.setCell (by show _ ≤ w.heap.size + 1 + 1; omega) _).setCell (by show _ ≤ w.heap.size + 1 + 1; omega) _).setCell (by show _ ≤ w.heap.size + 1 + 1; omega) _
    · have hsc1 : x + scp k = x := by unfold scp; rw [if_neg hk2]; omega
      rw [hsc1] at HGET
      have hk4 : (k == 2) = false := beq_eq_false_iff_ne.2 hk2
      clear hsc1
      cases b1 <;> cases b2
      case true.true => simp at hk3
      all_goals (
        clear hk3
        go_enter Try.func178, Try.ntmps178
        go_wp2_with fail
        obtain ⟨w1, hw1⟩ : ∃ w1, w1 = (((w.alloc (.cells #[.int .i64 k, .int .i64 n, .slice A ks.length cap] 28)).alloc (.cells #[.int .i64 d1, .int .i64 d2, .slice d3 d4 d5] 28)).alloc (.cells #[.int .i64 0, .int .i64 0, .slice none 0 0] 28)) := ⟨_, rfl⟩
        obtain ⟨W, hW⟩ : ∃ W, W = w1.alloc (.cells #[.int .i64 k, .int .i64 n, .slice none 0 0] 28) := ⟨_, rfl⟩
        have hs1 : w1.heap.size = w.heap.size + 3 := by rw [hw1]; simp
        have hsW : W.heap.size = w.heap.size + 4 := by rw [hW]; simp; omega
        have hEw1 : Ext w w1 := hw1 ▸ hE1
        have hEW : Ext w1 W := hW ▸ (Ext.refl w1).alloc _
        rw [← hw1] at hbT hbU hbR
        have hbO : W.heap[w.heap.size + 1 + 1 + 1]? = some (.cells #[.int .i64 k, .int .i64 n, .slice none 0 0] 28 (0, 0)) := by
          have := heap_alloc_new w1 (.cells #[.int .i64 k, .int .i64 n, .slice none 0 0] 28)
          rw [hs1] at this
          rw [hW]
          exact this
        rw [← hw1, ← hW]
        have hsWa : w.heap.size + 4 ≤ W.heap.size := by omega
        have hsWb : W.heap.size ≤ w.heap.size + 4 := by omega
        have hs1a : w.heap.size + 3 ≤ w1.heap.size := by omega
        have hs1b : w1.heap.size ≤ w.heap.size + 3 := by omega
        clear hW hw1 hsW hs1 hs2 hE1
        go_loopw [8] (fun i wr => ∃ (j : Nat) (v : Value), j ≤ ks.length ∧ i = .int .i64 j ∧ wr.heap[w.heap.size + 1 + 1 + 1]? = some (.cells #[.int .i64 k, .int .i64 n, v] 28 (0, 0)) ∧ Grow W wr 28 v (rs.take j) ∧ Ext w1 wr ∧ W.heap.size ≤ wr.heap.size) (fun i _ => ks.length - (intOf i).toNat)
        case atStart => exact ⟨0, _, Nat.zero_le _, rfl, hbO, Grow.nil _ _ _, hEW, Nat.le_refl _⟩
        case round =>
          obtain ⟨j, v, hj, rfl, hbv, hG, he, hle⟩ := hrel
          by_cases hlt : j < ks.length
          · obtain ⟨b, o, k', n', A', cap', kids, rfl, HK, c0, c1, c2, hkl, hkc, hK', hin', hmem⟩ := hK.get (hEw1.trans he) hlt
            have htk := take_snoc' (l := rs) (j := j) (by omega) (HGET.out j hlt)
            rw [HK.out] at htk
            have HTK := Lib.hid htk
            have hcm := cnt_mem hmem
            have hlen : (rs.take j).length < 1099511627776 := by rw [List.length_take]; omega
            have hlj : (rs.take j).length = j := by rw [List.length_take]; omega
            have HL := Lib.hid hlj
            have hj' : (j : Int) < (ks.length : Int) := by omega
            have hbw : b < wr.heap.size := World.block_lt_of_cell? _ _ c0
            have hbww : b < w.heap.size := by
              rcases hK with h | ⟨b', o', he', hb', -⟩
              · subst h; simp at hlt
              · simp only [Option.some.injEq, Addr.mk.injEq, and_true] at he'
                obtain ⟨rfl, rfl⟩ := he'
                exact hb'
            clear htk hlj hcc
            obtain ⟨-, -, t2, -, -, -⟩ := own3 (he.blk hbT)
            obtain ⟨u0, u1, u2, -, -, -⟩ := own3 (he.blk hbU)
            go_wp2_with fail
            have hv := cell_of_blk hbv 2
            have hcells : ∀ w', Below W.heap.size wr w' → w'.heap[w.heap.size + 1 + 1 + 1]? = some (.cells #[.int .i64 k, .int .i64 n, v] 28 (0, 0)) := fun w' hB => (hB.block (w.heap.size + 1 + 1 + 1) (by omega)).trans hbv
            have HCells := Lib.hid hcells
            have hEd : Ext wr wr.drew := (Ext.refl wr).drew
            have hinD := hin'.ext hEd
            have huD := hu0.ext ((hEw1.trans he).trans hEd)
            have HS := Lib.hid (show ∀ w' : World, (∀ y, y < W.heap.size → y ≠ w.heap.size + 1 + 1 + 1 → w'.heap[y]? = wr.heap[y]?) → w'.cell? ⟨b, o + j * 3, none⟩ = some (.int .i64 k') ∧ w'.cell? ⟨b, o + j * 3 + 1, none⟩ = some (.int .i64 n') ∧ w'.cell? ⟨b, o + j * 3 + 2, none⟩ = some (.slice A' kids.length cap') ∧ w'.cell? ⟨w.heap.size, 2, none⟩ = some (.slice (some ⟨b, o, none⟩) ks.length cap) ∧ w'.cell? ⟨w.heap.size + 1, 0, none⟩ = some (.int .i64 d1) ∧ w'.cell? ⟨w.heap.size + 1, 1, none⟩ = some (.int .i64 d2) ∧ w'.cell? ⟨w.heap.size + 1, 2, none⟩ = some (.slice d3 d4 d5) from fun w' hw => by
              have f : ∀ (y j : Nat) (x : Value), y < W.heap.size → y ≠ w.heap.size + 1 + 1 + 1 → wr.cell? ⟨y, j, none⟩ = some x → w'.cell? ⟨y, j, none⟩ = some x := fun y j x h1 h2 h3 => (World.cell?_of_block (a := ⟨y, j, none⟩) (hw y h1 h2)).trans h3
              exact ⟨f _ _ _ (by omega) (by omega) c0, f _ _ _ (by omega) (by omega) c1, f _ _ _ (by omega) (by omega) c2, f _ _ _ (by omega) (by omega) t2, f _ _ _ (by omega) (by omega) u0, f _ _ _ (by omega) (by omega) u1, f _ _ _ (by omega) (by omega) u2⟩)
            clear t2 u0 u1 u2 c0 c1 c2 hcells hbv
            rw [show Op.load 26 (Operand.tmp 37) = ldF 26 37 from rfl]
            go_region_held_law (fun w' => w'.cell? ⟨b, o + j * 3, none⟩ = some (.int .i64 k') ∧ w'.cell? ⟨b, o + j * 3 + 1, none⟩ = some (.int .i64 n') ∧ w'.cell? ⟨b, o + j * 3 + 2, none⟩ = some (.slice A' kids.length cap') ∧ w'.cell? ⟨w.heap.size, 2, none⟩ = some (.slice (some ⟨b, o, none⟩) ks.length cap) ∧ w'.cell? ⟨w.heap.size + 1, 0, none⟩ = some (.int .i64 d1) ∧ w'.cell? ⟨w.heap.size + 1, 1, none⟩ = some (.int .i64 d2) ∧ w'.cell? ⟨w.heap.size + 1, 2, none⟩ = some (.slice d3 d4 d5))
              (first | exact HS.out _ (fun y h1 h2 => by rw [Below.heap_setCell _ _ _ _ (by show y ≠ w.heap.size + 1 + 1 + 1; omega)]; exact hB5.block y h1) | exact HS.out _ (fun y h1 _ => hB5.block y h1) | exact HS.out _ (fun y h1 _ => (h74.alloc _).heap y (by omega)) | exact HS.out _ (fun y h1 _ => h74.heap y (by omega)) | exact HS.out _ (fun y h1 _ => hEd.heap y (by omega)))
              (first
                | (go_simp; go_at_call 178; refine (hk _ hmem u _ _ _ (x) hinD huD (by omega) hcu (by omega) (by omega)).mono ?_; rintro e w4 ⟨r, rfl, hM, h4⟩; obtain ⟨a1, a2, a3, a4, a5, rfl⟩ := hM.three'; have h74 : Ext wr w4 := hEd.trans h4; have hv4 := cell_of_blk (HCells.out _ (h74.below hle)) 2; have hs4 := World.block_lt_of_cell? _ _ hv4; (try dsimp only))
                | (refine step_append_tree _ (by rfl) (.tmp 38) (.tmp 47) _ (by rfl) 28 i0 _ Try.underlying26 hi hz0 hz1 hz2 rfl (by rfl) hG hle h74 (hM.since (Nat.le_refl _)) ((Ext.refl _).alloc _) (by rfl) (heap_alloc_new _ _) hlen ?_; intro v' w5 hG5 hB5; obtain ⟨B5, c5, rfl, q1, q2, -⟩ := hG5.made; have hv5 := cell_of_blk (HCells.out _ hB5) 2; have hf5 := frozen_of_blk (HCells.out _ hB5) 2; (try dsimp only)))
            all_goals (
              have hE5 : Ext w1 w5 := he.trans' hB5 (by omega)
              have hs5 := hB5.size
              have hb6 := HCells.out _ hB5
              rw [List.length_append, List.length_singleton, HL.out, HTK.out] at hG5
              have hGs := fun u => hG5.after ((Above.refl W.heap.size w5).setCell (p := ⟨w.heap.size + 1 + 1 + 1, 2, none⟩) (by show w.heap.size + 1 + 1 + 1 < W.heap.size; omega) u)
              clear hv4 hs4 hv HCells hM h4
              go_wp2_with fail
              go_roundw
              case rel => exact ⟨j + 1, _, by omega, by go_num, blk_setCell hb6 2 _, hGs _, hE5.setCell (by show _ ≤ w.heap.size + 1 + 1 + 1; omega) _, by simp; omega⟩
              case measure => simp [intOf]; omega)
          · obtain ⟨B5, c5, rfl, q1, q2, hMK⟩ := hG.made
            have hjl : j = ks.length := by omega
            have hrj : rs.take j = rs := List.take_of_length_le (by omega)
            obtain ⟨r0, r1, r2, -, -, -⟩ := own3 hbv
            obtain ⟨-, -, t2, -, -, -⟩ := own3 (he.blk hbT)
            obtain ⟨s0, s1, s2, f0, f1, f2⟩ := own3 (he.blk hbR)
            have hlz : w.heap.size < wr.heap.size := lt_of_blk (he.blk hbT)
            rw [hrj] at q1 r2 hMK
            have hE9 := hEw1.trans he
            clear hbv
            go_wp2_with fail
            refine bodyPost_ret (v := .agg #[.int .i64 k, .int .i64 n, .slice B5 rs.length c5]) (by simp [results, Try.results178, go_sem, s0, s1, s2, hrl]) rfl ⟨_, rfl, ?_, ?_⟩
            · exact Made.since (Made.after (Made.mk q1 q2 hMK) ((((Above.refl _ _).setCell (by show w.heap.size + 1 + 1 < _; omega) _).setCell (by show w.heap.size + 1 + 1 < _; omega) _).setCell (by show w.heap.size + 1 + 1 < _; omega) _)) (by omega)
            · exact ((hE9.setCell (by show _ ≤ w.heap.size + 1 + 1; omega) _).setCell (by show _ ≤ w.heap.size + 1 + 1; omega) _).setCell (by show _ ≤ w.heap.size + 1 + 1; omega) _)
end Go.Proofs.Ytappakllopkfiaa

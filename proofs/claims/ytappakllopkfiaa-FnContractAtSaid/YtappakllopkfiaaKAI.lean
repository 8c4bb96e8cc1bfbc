/-
  Lemmas towards the law, 9: Copy, Subst, Grow2.
-/
import Derived.Test.YtappakllopkfiaaKAE
import Derived.Test.YtappakllopkfiaaKAG
import Derived.Deep.RegionHeldLaw
import Derived.Outline
namespace Go.Proofs.Ytappakllopkfiaa
open Go.RowKit
set_option linter.unusedVariables false
attribute [local go_sem ↓] Go.wp_at_zero Go.wp_at_succ
def l1CopyC (t : Tr) : Prop := ∀ (w : World) (v : Value), Lies w t v → cnt t ≤ 1000000 →
  Calls Try.prog 103 #[v] w fun e w' => ∃ u, e = .returned u ∧ Made w w' 44 t u ∧ Ext w w'
theorem infoPTerm : (Try.prog.info? 44).map (fun i => (i.zero, i.size, i.bytes)) = some (some (.agg #[.int .i64 0, .int .i64 0, .slice none 0 0]), 3, 40) := by kernel_rfl
set_option maxRecDepth 100000 in
set_option maxHeartbeats 2000000 in
theorem l1Copy_any : ∀ t : Tr, l1CopyC t := Tr.ind fun k n ks hk => by
  intro w v hin hcnt
  obtain ⟨A, cap, rfl, hl, hc, hK⟩ := Lies.mk_iff.1 hin
  obtain ⟨i0, hi, hz0, hz1, hz2⟩ := info_parts infoPTerm
  have hcc := hc
  unfold maxLen at hcc
  simp only [cnt] at hcnt
  have hlc := len_le_cnts ks
  go_enter Try.func103, Try.ntmps103
  go_wp2_with fail
  obtain ⟨w1, hw1⟩ : ∃ w1, w1 = (w.alloc (.cells #[.int .i64 k, .int .i64 n, .slice A ks.length cap] 44)).alloc (.cells #[.int .i64 0, .int .i64 0, .slice none 0 0] 44) := ⟨_, rfl⟩
  obtain ⟨W, hW⟩ : ∃ W, W = w1.alloc (.cells #[.int .i64 k, .int .i64 n, .slice none 0 0] 44) := ⟨_, rfl⟩
  have hs1 : w1.heap.size = w.heap.size + 1 + 1 := by rw [hw1]; simp
  have hsW : W.heap.size = w.heap.size + 3 := by rw [hW]; simp; omega
  have hE1 : Ext w w1 := hw1 ▸ ((Ext.refl w).alloc _).alloc _
  have hEW : Ext w1 W := hW ▸ (Ext.refl w1).alloc _
  have hbR : w1.heap[w.heap.size + 1]? = some (.cells #[.int .i64 0, .int .i64 0, .slice none 0 0] 44 (0, 0)) := by
    rw [hw1]; exact (blk2 (Ext.refl _)).2.1
  have hbO : W.heap[w.heap.size + 1 + 1]? = some (.cells #[.int .i64 k, .int .i64 n, .slice none 0 0] 44 (0, 0)) := by
    have := heap_alloc_new w1 (.cells #[.int .i64 k, .int .i64 n, .slice none 0 0] 44)
    rw [hs1] at this
    rw [hW]
    exact this
  have hbT : w1.heap[w.heap.size]? = some (.cells #[.int .i64 k, .int .i64 n, .slice A ks.length cap] 44 (0, 0)) := by
    rw [hw1]; exact (blk2 (Ext.refl _)).1
  rw [← hw1, ← hW]
  clear hW hw1
  go_loopw [4] (fun i wr => ∃ (j : Nat) (v : Value), j ≤ ks.length ∧ i = .int .i64 j ∧ wr.heap[w.heap.size + 1 + 1]? = some (.cells #[.int .i64 k, .int .i64 n, v] 44 (0, 0)) ∧ Grow W wr 44 v (ks.take j) ∧ Ext w1 wr ∧ W.heap.size ≤ wr.heap.size) (fun i _ => ks.length - (intOf i).toNat)
  case atStart => exact ⟨0, _, Nat.zero_le _, rfl, hbO, Grow.nil _ _ _, hEW, Nat.le_refl _⟩
  case round =>
    obtain ⟨j, v, hj, rfl, hbv, hG, he, hle⟩ := hrel
    by_cases hlt : j < ks.length
    · obtain ⟨b, o, k', n', A', cap', kids, rfl, HK, c0, c1, c2, hkl, hkc, hK', hin', hmem⟩ := hK.get (hE1.trans he) hlt
      have htk := List.take_append_getElem hlt
      rw [HK.out] at htk
      have hcm := cnt_mem hmem
      have hlen : (ks.take j).length < 1099511627776 := by rw [List.length_take]; omega
      have hlj : (ks.take j).length = j := by rw [List.length_take]; omega
      have HL := Lib.hid hlj
      have hbT2 := he.blk hbT
      obtain ⟨-, -, t2, -, -, -⟩ := own3 hbT2
      have hj' : (j : Int) < (ks.length : Int) := by omega
      go_wp2_with fail
      have hle2 := hle
      have hG2 := hG
      have hbv2 := hbv
      have hv := cell_of_blk hbv2 2
      have hcells : ∀ w', Below W.heap.size wr w' → w'.heap[w.heap.size + 1 + 1]? = some (.cells #[.int .i64 k, .int .i64 n, v] 44 (0, 0)) := fun w' hB => (hB.block (w.heap.size + 1 + 1) (by omega)).trans hbv2
      have HCells := Lib.hid hcells
      have hEd : Ext wr wr.drew := (Ext.refl wr).drew
      have hinD := hin'.ext hEd
      have he2 := he
      clear hcells hlj hbv hG he hle hcc
      go_region_law (first | (go_simp; go_at_call 103; refine (hk _ hmem _ _ hinD (by omega)).mono ?_; rintro e w4 ⟨u, rfl, hM, h4⟩; obtain ⟨a1, a2, a3, a4, a5, rfl⟩ := hM.three'; have hv4 := cell_of_blk (HCells.out _ ((hEd.trans h4).below hle2)) 2; have hs4 := World.block_lt_of_cell? _ _ hv4) | (refine step_append_tree _ (by rfl) (.tmp 18) (.tmp 25) _ (by rfl) 44 i0 _ Try.underlying42 hi hz0 hz1 hz2 rfl (by rfl) hG2 hle2 (hEd.trans h4) (hM.since (Nat.le_refl _)) ((Ext.refl _).alloc _) (by rfl) (heap_alloc_new _ _) hlen ?_; intro v' w5 hG5 hB5; obtain ⟨B5, c5, rfl, q1, q2, -⟩ := hG5.made; have hv5 := cell_of_blk (HCells.out _ hB5) 2; have hf5 := frozen_of_blk (HCells.out _ hB5) 2))
      all_goals (
        have hE5 : Ext w1 w5 := he2.trans' hB5 (by omega)
        have hs5 := hB5.size
        have hb6 := HCells.out _ hB5
        rw [List.length_append, List.length_singleton, htk, show (ks.take j).length + 1 = min (j + 1) ks.length from by rw [List.length_take]; omega] at hG5
        have hGs := fun u => hG5.after ((Above.refl W.heap.size w5).setCell (p := ⟨w.heap.size + 1 + 1, 2, none⟩) (by show w.heap.size + 1 + 1 < W.heap.size; omega) u)
        clear hv4 hs4 hv HCells hM h4 c0 c1 c2 t2
        go_wp2_with fail
        go_roundw
        case rel => exact ⟨j + 1, _, by omega, by go_num, blk_setCell hb6 2 _, hGs _, hE5.setCell (by show _ ≤ w.heap.size + 1 + 1; omega) _, by simp; omega⟩
        case measure => simp [intOf]; omega)
    · obtain ⟨B5, c5, rfl, q1, q2, hMK⟩ := hG.made
      have hjl : j = ks.length := by omega
      have hln : (ks.take j).length = ks.length := by rw [hjl, List.take_length]
      obtain ⟨r0, r1, r2, -, -, -⟩ := own3 hbv
      have hbT2 := he.blk hbT
      obtain ⟨-, -, t2, -, -, -⟩ := own3 hbT2
      have hbR' := he.blk hbR
      obtain ⟨s0, s1, s2, f0, f1, f2⟩ := own3 hbR'
      rw [hln] at q1 r2
      rw [show ks.take j = ks from by rw [hjl, List.take_length]] at hMK
      clear hln hbv
      go_wp2_with fail
      refine bodyPost_ret (v := .agg #[.int .i64 k, .int .i64 n, .slice B5 ks.length c5]) (by simp [results, Try.results103, go_sem, s0, s1, s2]) rfl ⟨_, rfl, ?_, ?_⟩
      · exact Made.since (Made.after (Made.mk q1 q2 hMK) ((((Above.refl _ _).setCell (by show w.heap.size + 1 < _; omega) _).setCell (by show w.heap.size + 1 < _; omega) _).setCell (by show w.heap.size + 1 < _; omega) _)) (by omega)
      · exact ((((hE1.trans he).setCell (by simp) _).setCell (by simp) _).setCell (by simp) _)
end Go.Proofs.Ytappakllopkfiaa
namespace Go.Proofs.Ytappakllopkfiaa
open Go.RowKit
set_option linter.unusedVariables false
attribute [local go_sem ↓] Go.wp_at_zero Go.wp_at_succ
/-- A load, named: so that a region's walk does not look for it in what it holds. -/
def ldO (t : TypeId) (s : Nat) : Op := Op.load t (.tmp s)
attribute [local go_sem] ldO
theorem infoS : (Try.prog.info? 44).map (fun i => (i.zero, i.size, i.bytes)) = some (some (.agg #[.int .i64 0, .int .i64 0, .slice none 0 0]), 3, 40) := by kernel_rfl
theorem shfTs_get (y : Int) : ∀ {k : Int} {ts : List Tr} {i j : Nat} {c : Int} (h : j < ts.length), (shfTs y k ts i c)[j]'(by rw [shfTs_len]; exact h) = shfT y ts[j] (c + und k (i + j))
  | k, t :: ts, i, 0, c, h => by simp [shfTs]
  | k, t :: ts, i, j + 1, c, h => by
    simp only [shfTs, List.getElem_cons_succ]
    rw [shfTs_get y (j := j) (by simpa using h), show i + 1 + j = i + (j + 1) by omega]
theorem LiesK.lt {w : World} {b o j : Nat} {ks : List Tr} (h : LiesK w (some ⟨b, o, none⟩) ks) (hj : j < ks.length) : b < w.heap.size := by
  rcases h with h | ⟨b', o', e, hb, -⟩
  · rw [h] at hj; simp at hj
  · cases e; exact hb
theorem take_snoc {l : List Tr} {j : Nat} {t : Tr} (h : j < l.length) (e : l[j] = t) : l.take j ++ [t] = l.take (j + 1) := by rw [← e]; exact List.take_append_getElem h
def l2ShiftC (t : Tr) : Prop := ∀ (w : World) (v : Value) (y c d : Int), shape sigT t d = true → Lies w t v → cnt t ≤ 1000 → 0 ≤ y → y ≤ 1000000 → 0 ≤ c → c + cnt t ≤ 1000000 →
  Calls Try.prog 190 #[v, .int .i64 y, .int .i64 c] w fun e w' => ∃ u, e = .returned u ∧ Made w w' 44 (shfT y t c) u ∧ Ext w w'
set_option maxRecDepth 100000 in
set_option maxHeartbeats 2000000 in
theorem l2Shift_any : ∀ t : Tr, l2ShiftC t := Tr.ind fun k n ks hk => by
  intro w v y c d hsh hin hcnt hy0 hy1 hc0 hc1
  obtain ⟨-, hn0, hn1, hsk⟩ := shape_kids' hsh
  have hmost := most_le k
  obtain ⟨A, cap, rfl, hl, hc, hK⟩ := Lies.mk_iff.1 hin
  obtain ⟨i0, hi, hz0, hz1, hz2⟩ := info_parts infoS
  have hcc := hc
  unfold maxLen at hcc
  simp only [cnt] at hcnt hc1
  have hlc := len_le_cnts ks
  obtain ⟨b1, d1⟩ : ∃ b1, (k == 1) = b1 := ⟨_, rfl⟩
  obtain ⟨b2, d2⟩ : ∃ b2, decide (c ≤ n) = b2 := ⟨_, rfl⟩
  obtain ⟨nn, hnn⟩ : ∃ nn, nn = if (b1 && b2) = true then n + y else n := ⟨_, rfl⟩
  obtain ⟨rs, hrs⟩ : ∃ rs, rs = shfTs y k ks 0 c := ⟨_, rfl⟩
  have hres : shfT y (.mk k n ks) c = .mk k nn rs := by
    rw [hnn, hrs, ← d1, ← d2]
    conv => lhs; unfold shfT
    simp
  have hrl : rs.length = ks.length := by rw [hrs, shfTs_len]
  have hget : ∀ j (h : j < ks.length), rs[j]'(by omega) = shfT y ks[j] (c + und k j) := fun j h => by
    subst hrs
    rw [shfTs_get y h, Nat.zero_add]
  rw [hres]
  have HGET := Lib.hid hget
  clear hres hrs hget
  cases b1 with
  | true =>
    obtain rfl : k = 1 := by simpa using d1
    obtain ⟨rfl, -, -⟩ := var_leaf hsh
    obtain rfl : rs = [] := List.eq_nil_of_length_eq_zero (by simpa using hrl)
    cases b2
    all_goals simp only [Bool.and_true, Bool.and_false, if_true, Bool.false_eq_true, if_false] at hnn
    all_goals go_enter Try.func190, Try.ntmps190
    all_goals go_wp2_with fail
    all_goals refine wp_loop_rounds 1 ?_
    all_goals rw [rounds_succ]
    all_goals go_wp2_with fail
    all_goals exact bodyPost_ret (v := .agg #[.int .i64 1, .int .i64 nn, .slice none 0 0]) (by simp [results, Try.results190, go_sem, hnn]) rfl ⟨_, rfl, Made.leaf _ _ _ _ _, (((Ext.refl w).alloc _).alloc _).alloc _⟩
  | false =>
    simp only [Bool.false_and, Bool.false_eq_true, if_false] at hnn
    go_enter Try.func190, Try.ntmps190
    go_wp2_with fail
    obtain ⟨w1, hw1⟩ : ∃ w1, w1 = (w.alloc (.cells #[.int .i64 k, .int .i64 n, .slice A ks.length cap] 44)).alloc (.cells #[.int .i64 0, .int .i64 0, .slice none 0 0] 44) := ⟨_, rfl⟩
    obtain ⟨W, hW⟩ : ∃ W, W = w1.alloc (.cells #[.int .i64 k, .int .i64 nn, .slice none 0 0] 44) := ⟨_, rfl⟩
    have hs1 : w1.heap.size = w.heap.size + 1 + 1 := by rw [hw1]; simp
    have hsW : W.heap.size = w.heap.size + 3 := by rw [hW]; simp; omega
    have hE1 : Ext w w1 := hw1 ▸ ((Ext.refl w).alloc _).alloc _
    have hEW : Ext w1 W := hW ▸ (Ext.refl w1).alloc _
    have hbR : w1.heap[w.heap.size + 1]? = some (.cells #[.int .i64 0, .int .i64 0, .slice none 0 0] 44 (0, 0)) := by
      rw [hw1]; exact (blk2 (Ext.refl _)).2.1
    have hbO : W.heap[w.heap.size + 1 + 1]? = some (.cells #[.int .i64 k, .int .i64 nn, .slice none 0 0] 44 (0, 0)) := by
      have := heap_alloc_new w1 (.cells #[.int .i64 k, .int .i64 nn, .slice none 0 0] 44)
      rw [hs1] at this
      rw [hW]
      exact this
    have hbT : w1.heap[w.heap.size]? = some (.cells #[.int .i64 k, .int .i64 n, .slice A ks.length cap] 44 (0, 0)) := by
      rw [hw1]; exact (blk2 (Ext.refl _)).1
    rw [hnn] at hW
    rw [← hw1, ← hW]
    clear hW hw1
    go_loopw [8] (fun i wr => ∃ (j : Nat) (v : Value), j ≤ ks.length ∧ i = .int .i64 j ∧ wr.heap[w.heap.size + 1 + 1]? = some (.cells #[.int .i64 k, .int .i64 nn, v] 44 (0, 0)) ∧ Grow W wr 44 v (rs.take j) ∧ Ext w1 wr ∧ W.heap.size ≤ wr.heap.size) (fun i _ => ks.length - (intOf i).toNat)
    case atStart => exact ⟨0, _, Nat.zero_le _, rfl, hbO, Grow.nil _ _ _, hEW, Nat.le_refl _⟩
    case round =>
      obtain ⟨j, v, hj, rfl, hbv, hG, he, hle⟩ := hrel
      by_cases hlt : j < ks.length
      · obtain ⟨b, o, k', n', A', cap', kids, rfl, HK, c0, c1, c2, hkl, hkc, hK', hin', hmem⟩ := hK.get (hE1.trans he) hlt
        have htk := take_snoc (l := rs) (j := j) (by omega) (HGET.out j hlt)
        rw [HK.out] at htk
        have hub := und_le k j
        have hskj := hsk _ hmem
        have hj2 : (j : Int) < (ks.length : Int) := by omega
        obtain ⟨uu, hu⟩ : ∃ u, u = und k j := ⟨_, rfl⟩
        have HU := Lib.hid (fun W => l2Under_any k j W)
        rw [← hu] at HU hub htk
        have HTK := Lib.hid htk
        have HWR := Lib.hid (IntWalk.i64_in (c + uu) ⟨by omega, by omega⟩)
        clear hu htk
        have hcm := cnt_mem hmem
        have hlen : (rs.take j).length < 1099511627776 := by rw [List.length_take]; omega
        have hlj : (rs.take j).length = j := by rw [List.length_take]; omega
        have HL := Lib.hid hlj
        have hbT2 := he.blk hbT
        obtain ⟨t0, -, t2, -, -, -⟩ := own3 hbT2
        have hj' : (j : Int) < (ks.length : Int) := by omega
        go_wp2_with fail
        have hle2 := hle
        have hG2 := hG
        have hbv2 := hbv
        have hv := cell_of_blk hbv2 2
        have hcells : ∀ w', Below W.heap.size wr w' → w'.heap[w.heap.size + 1 + 1]? = some (.cells #[.int .i64 k, .int .i64 nn, v] 44 (0, 0)) := fun w' hB => (hB.block (w.heap.size + 1 + 1) (by omega)).trans hbv2
        have HCells := Lib.hid hcells
        have hEd : Ext wr wr.drew := (Ext.refl wr).drew
        have hinD := hin'.ext hEd
        have he2 := he
        have hbw := hK.lt hlt
        have HS := Lib.hid (show ∀ w', Below (w.heap.size + 1) wr w' → w'.cell? ⟨w.heap.size, 0, none⟩ = some (.int .i64 k) ∧ w'.cell? ⟨w.heap.size, 2, none⟩ = some (.slice (some ⟨b, o, none⟩) ks.length cap) ∧ w'.cell? ⟨b, o + j * 3, none⟩ = some (.int .i64 k') ∧ w'.cell? ⟨b, o + j * 3 + 1, none⟩ = some (.int .i64 n') ∧ w'.cell? ⟨b, o + j * 3 + 2, none⟩ = some (.slice A' kids.length cap') from fun w' hw' =>
          ⟨(hw'.cell (p := ⟨w.heap.size, 0, none⟩) (by show w.heap.size < _; omega)).trans t0, (hw'.cell (p := ⟨w.heap.size, 2, none⟩) (by show w.heap.size < _; omega)).trans t2, (hw'.cell (p := ⟨b, o + j * 3, none⟩) (by show b < _; omega)).trans c0, (hw'.cell (p := ⟨b, o + j * 3 + 1, none⟩) (by show b < _; omega)).trans c1, (hw'.cell (p := ⟨b, o + j * 3 + 2, none⟩) (by show b < _; omega)).trans c2⟩)
        have hBd : Below (w.heap.size + 1) wr wr.drew := (Below.refl _ _).drew
        clear hcells hlj hbv hG he hle hcc
        rw [show Op.load 42 (Operand.tmp 35) = ldO 42 35 from rfl]
        go_region_held_law (fun w' => w'.cell? ⟨w.heap.size, 0, none⟩ = some (.int .i64 k) ∧ w'.cell? ⟨w.heap.size, 2, none⟩ = some (.slice (some ⟨b, o, none⟩) ks.length cap) ∧ w'.cell? ⟨b, o + j * 3, none⟩ = some (.int .i64 k') ∧ w'.cell? ⟨b, o + j * 3 + 1, none⟩ = some (.int .i64 n') ∧ w'.cell? ⟨b, o + j * 3 + 2, none⟩ = some (.slice A' kids.length cap'))
          (first | exact HS.out _ ((hBe.setCell (by show _ ≤ w.heap.size + 1 + 1; omega) _)) | exact HS.out _ hBe | exact HS.out _ (hBc.alloc (by omega) _) | exact HS.out _ hBc | exact HS.out _ hBd)
          (first | (go_simp; go_at_call 171; refine (HU.out _).mono ?_; rintro e wu ⟨rfl, rfl⟩) | (go_simp; go_at_call 190; (try rw [HWR.out]); refine (hk _ hmem _ _ y (c + uu) (d - 1) hskj hinD (by omega) hy0 hy1 (by omega) (by omega)).mono ?_; rintro e w4 ⟨u, rfl, hM, h4⟩; obtain ⟨a1, a2, a3, a4, a5, rfl⟩ := hM.three'; have hv4 := cell_of_blk (HCells.out _ ((hEd.trans h4).below hle2)) 2; have hs4 := World.block_lt_of_cell? _ _ hv4; have hBc : Below (w.heap.size + 1) wr w4 := ((hEd.trans h4).below hle2).mono (by omega)) | (refine step_append_tree _ (by rfl) (.tmp 36) (.tmp 50) _ (by rfl) 44 i0 _ Try.underlying42 hi hz0 hz1 hz2 rfl (by rfl) hG2 hle2 (hEd.trans h4) (hM.since (Nat.le_refl _)) ((Ext.refl _).alloc _) (by rfl) (heap_alloc_new _ _) hlen ?_; intro v' w5 hG5 hB5; obtain ⟨B5, c5, rfl, q1, q2, -⟩ := hG5.made; have hv5 := cell_of_blk (HCells.out _ hB5) 2; have hf5 := frozen_of_blk (HCells.out _ hB5) 2; have hBe : Below (w.heap.size + 1) wr w5 := hB5.mono (by omega)))
        all_goals (
          have hE5 : Ext w1 w5 := he2.trans' hB5 (by omega)
          have hs5 := hB5.size
          have hb6 := HCells.out _ hB5
          rw [List.length_append, List.length_singleton, HL.out, HTK.out] at hG5
          have hGs := fun u => hG5.after ((Above.refl W.heap.size w5).setCell (p := ⟨w.heap.size + 1 + 1, 2, none⟩) (by show w.heap.size + 1 + 1 < W.heap.size; omega) u)
          clear hv4 hs4 hv HCells hM h4 c0 c1 c2 t2 t0
          go_wp2_with fail
          go_roundw
          case rel => exact ⟨j + 1, _, by omega, by go_num, blk_setCell hb6 2 _, hGs _, hE5.setCell (by show _ ≤ w.heap.size + 1 + 1; omega) _, by simp; omega⟩
          case measure => simp [intOf]; omega)
      · obtain ⟨B5, c5, rfl, q1, q2, hMK⟩ := hG.made
        have hjl : j = ks.length := by omega
        have hrj : rs.take j = rs := List.take_of_length_le (by omega)
        obtain ⟨r0, r1, r2, -, -, -⟩ := own3 hbv
        have hbT2 := he.blk hbT
        obtain ⟨-, -, t2, -, -, -⟩ := own3 hbT2
        have hbR' := he.blk hbR
        obtain ⟨s0, s1, s2, f0, f1, f2⟩ := own3 hbR'
        rw [hrj] at q1 r2 hMK
        clear hbv
        go_wp2_with fail
        refine bodyPost_ret (v := .agg #[.int .i64 k, .int .i64 nn, .slice B5 rs.length c5]) (by simp [results, Try.results190, go_sem, s0, s1, s2, hnn, hrl]) rfl ⟨_, rfl, ?_, ?_⟩
        · exact Made.since (Made.after (Made.mk q1 q2 hMK) ((((Above.refl _ _).setCell (by show w.heap.size + 1 < _; omega) _).setCell (by show w.heap.size + 1 < _; omega) _).setCell (by show w.heap.size + 1 < _; omega) _)) (by omega)
        · exact ((((hE1.trans he).setCell (by simp) _).setCell (by simp) _).setCell (by simp) _)
end Go.Proofs.Ytappakllopkfiaa
namespace Go.Proofs.Ytappakllopkfiaa
open Go.RowKit
set_option linter.unusedVariables false
theorem Grow.only {W w w' : World} {e : TypeId} {v : Value} {ks : List Tr} {L : List Nat} (h : Grow W w e v ks) (ho : Only L w w') (hL : ∀ b, b ∈ L → b < W.heap.size) : Grow W w' e v ks :=
  h.same ho.size (fun b hb hlt => ho.block b hlt (fun hm => by have := hL b hm; omega))
theorem Only.below {L : List Nat} {a w w' : World} {B : Nat} (h : Only L a w) (hb : Below B w w') (hB : a.heap.size ≤ B) : Only L a w' :=
  ⟨hb.os.trans h.os, hb.tape.trans h.tape, hb.output.trans h.output, Nat.le_trans h.size hb.size, fun i hi hn => (hb.block i (by omega)).trans (h.block i hi hn)⟩
theorem Grow.step2 {W wr w1 w w' : World} {e : TypeId} {v v' : Value} {ks : List Tr} {t : Tr} {v0 v1 v2 : Value} {xs : List Value} {L : List Nat}
    (hL : OwnL wr e xs ks L) (hF : Fresh W wr L) (hv : ∀ g, v.ownBlock = some g → ¬ g ∈ L ∧ g < wr.heap.size ∧ W.heap.size ≤ g) (hx : xs.length = ks.length * 3) (hW : W.heap.size ≤ wr.heap.size) (hs1 : wr.heap.size ≤ w1.heap.size) (hA1 : ∀ b, W.heap.size ≤ b → b < wr.heap.size → w1.heap[b]? = wr.heap[b]?) (hM : Made wr w1 e t (.agg #[v0, v1, v2])) (hE2 : Ext w1 w)
    (h2 : w'.ownsRow W.heap.size e 3 v' (ks.length + 1) (xs ++ [v0, v1, v2])) (h3 : w.grownBy w' v.ownBlock) (h4 : ∀ g, v'.ownBlock = some g → v.ownBlock = some g ∨ w.heap.size ≤ g) : Grow W w' e v' (ks ++ [t]) ∧ Below W.heap.size w1 w' ∧ (∀ b, wr.heap.size ≤ b → b < w1.heap.size → w'.heap[b]? = w1.heap[b]?) := by
  obtain ⟨M, hM, hFM⟩ := hM
  have s1 := hs1
  have s2 := hE2.size
  have keep : ∀ b, b < w1.heap.size → (v.ownBlock ≠ some b) → w'.heap[b]? = w1.heap[b]? := fun b hb hne => (h3.block b (by omega) (fun h => hne h.symm)).trans (hE2.heap b hb)
  refine ⟨⟨_, L ++ M, by simpa using h2, OwnL.snoc (hM.mono fun b hb => keep b (hFM.2 b hb).2 fun he => ?_) [] hx (hL.mono fun b hb => (keep b (by have := (hF.2 b hb).2; omega) fun he => ?_).trans (hA1 b (hF.2 b hb).1 (hF.2 b hb).2)), ?_, fun g hg hm => ?_⟩, ?_⟩
  · have := (hv b he).2.1
    have := (hFM.2 b hb).1
    omega
  · exact (hv b he).1 hb
  · have h5 := hF.append (d := w1) hFM (Nat.le_refl _) hW hs1
    exact h5.mono (Nat.le_refl _) (by have := h3.size; omega)
  · rcases h4 g hg with h | h
    · rcases List.mem_append.1 hm with hm | hm
      · exact (hv g h).1 hm
      · have := (hv g h).2.1
        have := (hFM.2 g hm).1
        omega
    · rcases List.mem_append.1 hm with hm | hm
      · have := (hF.2 g hm).2
        omega
      · have := (hFM.2 g hm).2
        omega
  · refine ⟨⟨h3.os.trans hE2.os, h3.tape.trans hE2.tape, h3.output.trans hE2.output, by have := h3.size; omega, fun b hb => ?_⟩, fun b h0 h1 => keep b h1 (fun he => by have := (hv b he).2.1; omega)⟩
    exact keep b (by omega) (fun he => by have := (hv b he).2.2; omega)
theorem wp_append_tree2 {P : Program} (w : World) {o : Oper} {a : Act} {K : Act → World → Prop} {Q : Exit → Act → World → Prop} (s x : Operand) (t : TypeId)
    (ho : o.op = .call { callee := .builtin .append, args := #[s, x], argTypes := #[t, t] })
    (e : TypeId) (i : TypeInfo) (z : Value) (ht : P.underlying t = some (.slice e)) (hi : P.info? e = some i) (hz : i.zero = some z) (hsize : i.size = 3) (hby : i.bytes = 40) (hzs : z.cells.size = 3)
    {W wr w1 : World} {v : Value} {ks : List Tr} {tr : Tr} {v0 v1 v2 : Value} {gx : Nat} (hs : a.eval s = v) (hG : Grow W wr e v ks) (hW : W.heap.size ≤ wr.heap.size) (hs1 : wr.heap.size ≤ w1.heap.size) (hA1 : ∀ b, W.heap.size ≤ b → b < wr.heap.size → w1.heap[b]? = wr.heap[b]?) (hM : Made wr w1 e tr (.agg #[v0, v1, v2])) (hE2 : Ext w1 w)
    (hx : a.eval x = .slice (some ⟨gx, 0, none⟩) 1 1) (hgx : w.heap[gx]? = some (.cells #[v0, v1, v2] e (0, 0))) (hn : ks.length < 1099511627776)
    (h : ∀ v' w', Grow W w' e v' (ks ++ [tr]) → Below W.heap.size w1 w' → (∀ b, wr.heap.size ≤ b → b < w1.heap.size → w'.heap[b]? = w1.heap[b]?) → K (a.put o.dst v') w') : o.wp P a w K Q := by
  obtain ⟨xs, L, h1, h2, h3, h4⟩ := hG
  have s1 := hs1
  have s2 := hE2.size
  have hown : w.ownsRow W.heap.size e 3 v ks.length xs := ownsRow_same h1 (fun g hg => (hE2.heap g (by have := (h1.lt g hg).2; omega)).trans (hA1 g (h1.lt g hg).1 (h1.lt g hg).2))
  obtain ⟨v', w', hr, r1, r2, r3⟩ := run_append_own' (P := P) w W.heap.size t o.type e i z 3 40 ht hi hz hsize hby hzs (by decide) v ks.length xs hown ⟨gx, 0, none⟩ 1 1 [v0, v1, v2] rfl (row3_cells hgx) (made_oneCell hM) (by unfold maxLen; omega) (by omega) (by omega)
  obtain ⟨g1, g2, g3⟩ := Grow.step2 h2 h3 (fun g hg => ⟨h4 g hg, (h1.lt g hg).2, (h1.lt g hg).1⟩) h1.1 hW hs1 hA1 hM hE2 r1 r2 r3
  unfold Oper.wp execOp
  simp only [ho, resolve, invoke, builtin, Sem.run_bind, Sem.run_pure, Result.andThen_ok, List.map_toArray, List.map_cons, List.map_nil, hs, hx, hr]
  exact h v' w' g1 g2 g3
/-- At a step of a region that draws its order. -/
theorem step_append_tree2 {P : Program} (w : World) {ops : Array Oper} {o : Oper} {a : Act} {K : Act → World → Prop} {Q : Exit → Act → World → Prop} {E : Prop} (hgd : o.guard = none) (s x : Operand) (t : TypeId)
    (ho : o.op = .call { callee := .builtin .append, args := #[s, x], argTypes := #[t, t] })
    (e : TypeId) (i : TypeInfo) (z : Value) (ht : P.underlying t = some (.slice e)) (hi : P.info? e = some i) (hz : i.zero = some z) (hsize : i.size = 3) (hby : i.bytes = 40) (hzs : z.cells.size = 3)
    {W wr w1 : World} {v : Value} {ks : List Tr} {tr : Tr} {v0 v1 v2 : Value} {gx : Nat} (hs : a.eval s = v) (hG : Grow W wr e v ks) (hW : W.heap.size ≤ wr.heap.size) (hs1 : wr.heap.size ≤ w1.heap.size) (hA1 : ∀ b, W.heap.size ≤ b → b < wr.heap.size → w1.heap[b]? = wr.heap[b]?) (hM : Made wr w1 e tr (.agg #[v0, v1, v2])) (hE2 : Ext w1 w)
    (hx : a.eval x = .slice (some ⟨gx, 0, none⟩) 1 1) (hgx : w.heap[gx]? = some (.cells #[v0, v1, v2] e (0, 0))) (hn : ks.length < 1099511627776)
    (h : ∀ v' w', Grow W w' e v' (ks ++ [tr]) → Below W.heap.size w1 w' → (∀ b, wr.heap.size ≤ b → b < w1.heap.size → w'.heap[b]? = w1.heap[b]?) → K (a.put o.dst v') w') :
    if Region.wanted o (yielded ops a.tmps) = true then Oper.wp P o a w K Q else E := by
  have hw : Region.wanted o (yielded ops a.tmps) = true := by simp [Region.wanted, hgd]
  rw [if_pos hw]
  exact wp_append_tree2 w s x t ho e i z ht hi hz hsize hby hzs hs hG hW hs1 hA1 hM hE2 hx hgx hn h
end Go.Proofs.Ytappakllopkfiaa

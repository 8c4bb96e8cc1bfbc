/-
  Lemmas towards the law, 25: Subst2.
-/
import Derived.Test.YtolkohncmidpeaaGreatDoorHAR
namespace Go.Proofs.YtolkohncmidpeaaGreatDoor
open Go.RowKit
set_option linter.unusedVariables false
attribute [local go_sem ↓] Go.wp_at_zero Go.wp_at_succ
attribute [local go_sem] ldO
theorem sbsTs_get (u : Tr) : ∀ {k : Int} {ts : List Tr} {i j : Nat} {x d : Int} (h : j < ts.length), (sbsTs u k ts i x d)[j]'(by rw [sbsTs_len]; exact h) = sbsT u ts[j] (x + und k (i + j)) (d + und k (i + j))
  | k, t :: ts, i, 0, x, d, h => by simp [sbsTs]
  | k, t :: ts, i, j + 1, x, d, h => by
    simp only [sbsTs, List.getElem_cons_succ]
    rw [sbsTs_get u (j := j) (by simpa using h), show i + 1 + j = i + (j + 1) by omega]
def l2SubstC (t : Tr) : Prop := ∀ (w : World) (v : Value) (x : Int) (u : Tr) (vu : Value) (dp d : Int), shape sigT t d = true → Lies w t v → cnt t ≤ 1000 → shape sigT u 30 = true → cnt u ≤ 1000 → Lies w u vu → 0 ≤ x → x + cnt t ≤ 1000000 → 0 ≤ dp → dp + cnt t ≤ 1000000 →
  Calls Tryz.prog 195 #[v, .int .i64 x, vu, .int .i64 dp] w fun e w' => ∃ r, e = .returned r ∧ Made w w' 45 (sbsT u t x dp) r ∧ Ext w w'
set_option maxRecDepth 100000 in
set_option maxHeartbeats 20000000 in
theorem l2Subst_any : ∀ t : Tr, l2SubstC t := Tr.ind fun k n ks hk => by
  intro w v x u vu dp d hsh hin hcnt hshu hcu hinu hx0 hx1 hd0 hd1
  obtain ⟨-, hn0, hn1, hsk⟩ := shape_kids' hsh
  have hmost := most_le k
  obtain ⟨A, cap, rfl, hl, hc, hK⟩ := Lies.mk_iff.1 hin
  have HUX := Lib.hid (fun W (hW : Ext w W) => l2Shift_any u W vu dp 0 30 hshu (hinu.ext hW) hcu hd0 (by omega) (by omega) (by omega))
  have HKK := Lib.hid (fun t ht W kv x' d' h1 h2 h3 h4 h5 h6 (hW : Ext w W) => hk t ht W kv x' u vu d' (d - 1) (hsk t ht) h1 h2 hshu hcu (hinu.ext hW) h3 h4 h5 h6)
  have hinu2 := hinu
  obtain ⟨ku, nu, kus⟩ := u
  obtain ⟨Au, cu, rfl, hlu, hcu', -⟩ := Lies.mk_iff.1 hinu
  obtain ⟨i0, hi, hz0, hz1, hz2⟩ := info_parts infoS
  have hcc := hc
  unfold maxLen at hcc
  simp only [cnt] at hcnt hx1 hd1
  have hlc := len_le_cnts ks
  obtain ⟨b1, d1⟩ : ∃ b1, (k == 1) = b1 := ⟨_, rfl⟩
  obtain ⟨rs, hrs⟩ : ∃ rs, rs = sbsTs (.mk ku nu kus) k ks 0 x dp := ⟨_, rfl⟩
  have hrl : rs.length = ks.length := by rw [hrs, sbsTs_len]
  have hget : ∀ j (h : j < ks.length), rs[j]'(by omega) = sbsT (.mk ku nu kus) ks[j] (x + und k j) (dp + und k j) := fun j h => by
    subst hrs
    rw [sbsTs_get _ h, Nat.zero_add]
  have hres : sbsT (.mk ku nu kus) (.mk k n ks) x dp = if k = 1 ∧ n = x then shfT dp (.mk ku nu kus) 0 else .mk k (if k = 1 ∧ x < n then n - 1 else n) rs := by
    rw [hrs]
    conv => lhs; unfold sbsT
  have HGET := Lib.hid hget
  clear hrs hget hinu
  cases b1 with
  | true =>
    obtain rfl : k = 1 := by simpa using d1
    obtain ⟨rfl, -, -⟩ := var_leaf hsh
    obtain rfl : rs = [] := List.eq_nil_of_length_eq_zero (by simpa using hrl)
    by_cases h1 : n = x
    · rw [hres, if_pos ⟨rfl, h1⟩]
      have d2 : (n == x) = true := beq_iff_eq.2 h1
      clear hres h1 HKK HGET
      go_enter Tryz.func195, Tryz.ntmps195
      go_wp2_with fail
      have hE1 := (((Ext.refl w).alloc (.cells #[.int .i64 1, .int .i64 n, .slice A 0 cap] 45)).alloc (.cells #[.int .i64 ku, .int .i64 nu, .slice Au kus.length cu] 45)).alloc (.cells #[.int .i64 0, .int .i64 0, .slice none 0 0] 45)
      obtain ⟨-, -, hbR, hsz⟩ := blk3 (Ext.refl (((w.alloc (.cells #[.int .i64 1, .int .i64 n, .slice A 0 cap] 45)).alloc (.cells #[.int .i64 ku, .int .i64 nu, .slice Au kus.length cu] 45)).alloc (.cells #[.int .i64 0, .int .i64 0, .slice none 0 0] 45)))
      refine (HUX.out _ hE1).mono ?_
      rintro e w1 ⟨r, rfl, hM, e1⟩
      obtain ⟨a1, a2, a3, a4, a5, rfl⟩ := hM.three'
      obtain ⟨s0, s1, s2, f0, f1, f2⟩ := own3 (e1.blk hbR)
      go_wp2_with fail
      refine bodyPost_ret (v := .agg #[.int .i64 a1, .int .i64 a2, .slice a3 a4 a5]) (by simp [results, Tryz.results195, go_sem, s0, s1, s2]) rfl ⟨_, rfl, ?_, ?_⟩
      · exact Made.since (hM.after ((((Above.refl _ _).setCell (by simp) _).setCell (by simp) _).setCell (by simp) _)) (by simp; omega)
      · exact ((((hE1.trans e1).setCell (by simp; omega) _).setCell (by simp; omega) _).setCell (by simp; omega) _)
    · have d2 : (n == x) = false := beq_eq_false_iff_ne.2 h1
      by_cases h2 : x < n
      · have d3 : decide (x < n) = true := decide_eq_true h2
        rw [hres, if_neg (fun h => h1 h.2), if_pos ⟨rfl, h2⟩]
        clear hres h1 HKK HGET HUX
        go_enter Tryz.func195, Tryz.ntmps195
        go_wp2_with fail
        refine wp_loop_rounds 1 ?_
        rw [rounds_succ]
        go_wp2_with fail
        exact bodyPost_ret (v := .agg #[.int .i64 1, .int .i64 (n - 1), .slice none 0 0]) (by simp [results, Tryz.results195, go_sem]) rfl ⟨_, rfl, Made.leaf _ _ _ _ _, ((((Ext.refl w).alloc _).alloc _).alloc _).alloc _⟩
      · have d3 : decide (x < n) = false := decide_eq_false h2
        rw [hres, if_neg (fun h => h1 h.2), if_neg (fun h => h2 h.2)]
        clear hres h1 HKK HGET HUX
        go_enter Tryz.func195, Tryz.ntmps195
        go_wp2_with fail
        refine wp_loop_rounds 1 ?_
        rw [rounds_succ]
        go_wp2_with fail
        exact bodyPost_ret (v := .agg #[.int .i64 1, .int .i64 n, .slice none 0 0]) (by simp [results, Tryz.results195, go_sem]) rfl ⟨_, rfl, Made.leaf _ _ _ _ _, ((((Ext.refl w).alloc _).alloc _).alloc _).alloc _⟩
  | false =>
    have hk1 : k ≠ 1 := by simpa using d1
    rw [hres, if_neg (fun h => hk1 h.1), if_neg (fun h => hk1 h.1)]
    clear hres HUX
    go_enter Tryz.func195, Tryz.ntmps195
    go_wp2_with fail
    obtain ⟨w1, hw1⟩ : ∃ w1, w1 = ((w.alloc (.cells #[.int .i64 k, .int .i64 n, .slice A ks.length cap] 45)).alloc (.cells #[.int .i64 ku, .int .i64 nu, .slice Au kus.length cu] 45)).alloc (.cells #[.int .i64 0, .int .i64 0, .slice none 0 0] 45) := ⟨_, rfl⟩
    obtain ⟨W, hW⟩ : ∃ W, W = w1.alloc (.cells #[.int .i64 k, .int .i64 n, .slice none 0 0] 45) := ⟨_, rfl⟩
    have hs1 : w1.heap.size = w.heap.size + 1 + 1 + 1 := by rw [hw1]; simp
    have hsW : W.heap.size = w.heap.size + 4 := by rw [hW]; simp; omega
    have hE1 : Ext w w1 := hw1 ▸ (((Ext.refl w).alloc _).alloc _).alloc _
    have hEW : Ext w1 W := hW ▸ (Ext.refl w1).alloc _
    have hbR : w1.heap[w.heap.size + 1 + 1]? = some (.cells #[.int .i64 0, .int .i64 0, .slice none 0 0] 45 (0, 0)) := by
      rw [hw1]; exact (blk3 (Ext.refl _)).2.2.1
    have hbO : W.heap[w.heap.size + 1 + 1 + 1]? = some (.cells #[.int .i64 k, .int .i64 n, .slice none 0 0] 45 (0, 0)) := by
      have := heap_alloc_new w1 (.cells #[.int .i64 k, .int .i64 n, .slice none 0 0] 45)
      rw [hs1] at this
      rw [hW]
      exact this
    have hbT : w1.heap[w.heap.size]? = some (.cells #[.int .i64 k, .int .i64 n, .slice A ks.length cap] 45 (0, 0)) := by
      rw [hw1]; exact (blk3 (Ext.refl _)).1
    have hbU : w1.heap[w.heap.size + 1]? = some (.cells #[.int .i64 ku, .int .i64 nu, .slice Au kus.length cu] 45 (0, 0)) := by
      rw [hw1]; exact (blk3 (Ext.refl _)).2.1
    rw [← hw1, ← hW]
    clear hW hw1
    go_loopw [10, 11] (fun i _ wr => ∃ (j : Nat) (v : Value), j ≤ ks.length ∧ i = .int .i64 j ∧ wr.heap[w.heap.size + 1 + 1 + 1]? = some (.cells #[.int .i64 k, .int .i64 n, v] 45 (0, 0)) ∧ Grow W wr 45 v (rs.take j) ∧ Ext w1 wr ∧ W.heap.size ≤ wr.heap.size) (fun i _ _ => ks.length - (intOf i).toNat)
    case atStart => exact ⟨0, _, Nat.zero_le _, rfl, hbO, Grow.nil _ _ _, hEW, Nat.le_refl _⟩
    case round =>
      obtain ⟨j, v, hj, rfl, hbv, hG, he, hle⟩ := hrel
      by_cases hlt : j < ks.length
      · obtain ⟨b, o, k', n', A', cap', kids, rfl, HK, c0, c1, c2, hkl, hkc, hK', hin', hmem⟩ := hK.get (hE1.trans he) hlt
        have htk := take_snoc (l := rs) (j := j) (by omega) (HGET.out j hlt)
        rw [HK.out] at htk
        have hub := und_le k j
        have hskj := hsk _ hmem
        have hj2 : (j : Int) < (ks.length : Int) := by omega
        obtain ⟨uu, hu⟩ : ∃ u, u = und k j := ⟨_, rfl⟩
        have HU := Lib.hid (fun W => l2Under_any k j W)
        rw [← hu] at HU hub htk
        have HTK := Lib.hid htk
        have HWR := Lib.hid (IntWalk.i64_in (x + uu) ⟨by omega, by omega⟩)
        have HWS := Lib.hid (IntWalk.i64_in (dp + uu) ⟨by omega, by omega⟩)
        clear hu htk
        have hcm := cnt_mem hmem
        have hlen : (rs.take j).length < 1099511627776 := by rw [List.length_take]; omega
        have hlj : (rs.take j).length = j := by rw [List.length_take]; omega
        have HL := Lib.hid hlj
        have hbT2 := he.blk hbT
        obtain ⟨t0, -, t2, -, -, -⟩ := own3 hbT2
        obtain ⟨u0, u1, u2, -, -, -⟩ := own3 (he.blk hbU)
        have hj' : (j : Int) < (ks.length : Int) := by omega
        go_wp2_with fail
        refine (HU.out _).mono ?_
        rintro e wu ⟨rfl, rfl⟩
        go_wp2_with fail
        have hle2 := hle
        have hG2 := hG
        have hbv2 := hbv
        have hv := cell_of_blk hbv2 2
        have hcells : ∀ w', Below W.heap.size wr w' → w'.heap[w.heap.size + 1 + 1 + 1]? = some (.cells #[.int .i64 k, .int .i64 n, v] 45 (0, 0)) := fun w' hB => (hB.block (w.heap.size + 1 + 1 + 1) (by omega)).trans hbv2
        have HCells := Lib.hid hcells
        have hEd : Ext wr wr.drew := (Ext.refl wr).drew
        have hinD := hin'.ext hEd
        have he2 := he
        have hbw := hK.lt hlt
        have HS := Lib.hid (show ∀ w', Below (w.heap.size + 1 + 1) wr w' → w'.cell? ⟨w.heap.size, 2, none⟩ = some (.slice (some ⟨b, o, none⟩) ks.length cap) ∧ w'.cell? ⟨w.heap.size + 1, 0, none⟩ = some (.int .i64 ku) ∧ w'.cell? ⟨w.heap.size + 1, 1, none⟩ = some (.int .i64 nu) ∧ w'.cell? ⟨w.heap.size + 1, 2, none⟩ = some (.slice Au kus.length cu) ∧ w'.cell? ⟨b, o + j * 3, none⟩ = some (.int .i64 k') ∧ w'.cell? ⟨b, o + j * 3 + 1, none⟩ = some (.int .i64 n') ∧ w'.cell? ⟨b, o + j * 3 + 2, none⟩ = some (.slice A' kids.length cap') from fun w' hw' =>
          ⟨(hw'.cell (p := ⟨w.heap.size, 2, none⟩) (by show w.heap.size < _; omega)).trans t2, (hw'.cell (p := ⟨w.heap.size + 1, 0, none⟩) (by show w.heap.size + 1 < _; omega)).trans u0, (hw'.cell (p := ⟨w.heap.size + 1, 1, none⟩) (by show w.heap.size + 1 < _; omega)).trans u1, (hw'.cell (p := ⟨w.heap.size + 1, 2, none⟩) (by show w.heap.size + 1 < _; omega)).trans u2, (hw'.cell (p := ⟨b, o + j * 3, none⟩) (by show b < _; omega)).trans c0, (hw'.cell (p := ⟨b, o + j * 3 + 1, none⟩) (by show b < _; omega)).trans c1, (hw'.cell (p := ⟨b, o + j * 3 + 2, none⟩) (by show b < _; omega)).trans c2⟩)
        have hBd : Below (w.heap.size + 1 + 1) wr wr.drew := (Below.refl _ _).drew
        clear hcells hlj hbv hG he hle hcc
        rw [show Op.load 43 (Operand.tmp 53) = ldO 43 53 from rfl]
        go_region_held_law (fun w' => w'.cell? ⟨w.heap.size, 2, none⟩ = some (.slice (some ⟨b, o, none⟩) ks.length cap) ∧ w'.cell? ⟨w.heap.size + 1, 0, none⟩ = some (.int .i64 ku) ∧ w'.cell? ⟨w.heap.size + 1, 1, none⟩ = some (.int .i64 nu) ∧ w'.cell? ⟨w.heap.size + 1, 2, none⟩ = some (.slice Au kus.length cu) ∧ w'.cell? ⟨b, o + j * 3, none⟩ = some (.int .i64 k') ∧ w'.cell? ⟨b, o + j * 3 + 1, none⟩ = some (.int .i64 n') ∧ w'.cell? ⟨b, o + j * 3 + 2, none⟩ = some (.slice A' kids.length cap'))
          (first | exact HS.out _ ((hBe.setCell (by show _ ≤ w.heap.size + 1 + 1 + 1; omega) _)) | exact HS.out _ hBe | exact HS.out _ (hBc.alloc (by omega) _) | exact HS.out _ hBc | exact HS.out _ hBd)
          (first | (go_simp; go_at_call 195; (try rw [HWR.out]); (try rw [HWS.out]); refine (HKK.out _ hmem _ _ (x + uu) (dp + uu) hinD (by omega) (by omega) (by omega) (by omega) (by omega) ((hE1.trans he2).trans hEd)).mono ?_; rintro e w4 ⟨u, rfl, hM, h4⟩; obtain ⟨a1, a2, a3, a4, a5, rfl⟩ := hM.three'; have hv4 := cell_of_blk (HCells.out _ ((hEd.trans h4).below hle2)) 2; have hs4 := World.block_lt_of_cell? _ _ hv4; have hBc : Below (w.heap.size + 1 + 1) wr w4 := ((hEd.trans h4).below hle2).mono (by omega)) | (refine step_append_tree _ (by rfl) (.tmp 54) (.tmp 68) _ (by rfl) 45 i0 _ Tryz.underlying43 hi hz0 hz1 hz2 rfl (by rfl) hG2 hle2 (hEd.trans h4) (hM.since (Nat.le_refl _)) ((Ext.refl _).alloc _) (by rfl) (heap_alloc_new _ _) hlen ?_; intro v' w5 hG5 hB5; obtain ⟨B5, c5, rfl, q1, q2, -⟩ := hG5.made; have hv5 := cell_of_blk (HCells.out _ hB5) 2; have hf5 := frozen_of_blk (HCells.out _ hB5) 2; have hBe : Below (w.heap.size + 1 + 1) wr w5 := hB5.mono (by omega)))
        all_goals (
          have hE5 : Ext w1 w5 := he2.trans' hB5 (by omega)
          have hs5 := hB5.size
          have hb6 := HCells.out _ hB5
          rw [List.length_append, List.length_singleton, HL.out, HTK.out] at hG5
          have hGs := fun u => hG5.after ((Above.refl W.heap.size w5).setCell (p := ⟨w.heap.size + 1 + 1 + 1, 2, none⟩) (by show w.heap.size + 1 + 1 + 1 < W.heap.size; omega) u)
          clear hv4 hs4 hv HCells hM h4 c0 c1 c2 t2 t0 u0 u1 u2
          go_wp2_with fail
          go_roundw
          case rel => exact ⟨j + 1, _, by omega, by go_num, blk_setCell hb6 2 _, hGs _, hE5.setCell (by show _ ≤ w.heap.size + 1 + 1 + 1; omega) _, by simp; omega⟩
          case measure => simp [intOf]; omega)
      · obtain ⟨B5, c5, rfl, q1, q2, hMK⟩ := hG.made
        have hjl : j = ks.length := by omega
        have hrj : rs.take j = rs := List.take_of_length_le (by omega)
        obtain ⟨r0, r1, r2, -, -, -⟩ := own3 hbv
        have hbT2 := he.blk hbT
        obtain ⟨-, -, t2, -, -, -⟩ := own3 hbT2
        have hbR' := he.blk hbR
        obtain ⟨s0, s1, s2, f0, f1, f2⟩ := own3 hbR'
        rw [hrj] at q1 r2 hMK
        clear hbv
        go_wp2_with fail
        refine bodyPost_ret (v := .agg #[.int .i64 k, .int .i64 n, .slice B5 rs.length c5]) (by simp [results, Tryz.results195, go_sem, s0, s1, s2, hrl]) rfl ⟨_, rfl, ?_, ?_⟩
        · exact Made.since (Made.after (Made.mk q1 q2 hMK) ((((Above.refl _ _).setCell (by show w.heap.size + 1 + 1 < _; omega) _).setCell (by show w.heap.size + 1 + 1 < _; omega) _).setCell (by show w.heap.size + 1 + 1 < _; omega) _)) (by omega)
        · exact ((((hE1.trans he).setCell (by simp <;> omega) _).setCell (by simp <;> omega) _).setCell (by simp <;> omega) _)
end Go.Proofs.YtolkohncmidpeaaGreatDoor

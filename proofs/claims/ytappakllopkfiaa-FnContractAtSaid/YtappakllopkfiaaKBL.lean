/-
  Lemmas towards the law, 38: CopyTop, Put3.
-/
import Derived.Test.YtappakllopkfiaaKAI
import Derived.Test.YtappakllopkfiaaKBF
import Derived.Test.YtappakllopkfiaaKBK
namespace Go.Proofs.Ytappakllopkfiaa
open Go.RowKit
set_option linter.unusedVariables false
attribute [local go_sem ↓] Go.wp_at_zero Go.wp_at_succ
theorem OwnL.rowL {w : World} {e : TypeId} {S : Nat → Prop} : ∀ {xs : List Value} {ks : List Tr} {L : List Nat}, OwnL w e xs ks L → (∀ b, b ∈ L → S b) → RowL w S xs ks
  | _, [], _, _, _ => RowL.nil
  | xs, t :: ts, L, h, hS => by
    obtain ⟨v0, v1, v2, rest, L1, L2, rfl, h1, h2, rfl⟩ := OwnL.cons_iff.1 h
    exact RowL.cons_iff.2 ⟨v0, v1, v2, rest, rfl, h1.inT.mono (fun b hb => hS b (by simp [hb])) (fun _ _ => rfl), OwnL.rowL h2 (fun b hb => hS b (by simp [hb]))⟩
theorem Grow.toS {W w : World} {e : TypeId} {v : Value} {ks : List Tr} (h : Grow W w e v ks) : GrowS (fun b => b < W.heap.size) W w e v ks := by
  obtain ⟨xs, L, h1, h2, h3, h4⟩ := h
  exact ⟨xs, h1, h2.rowL (fun b hb => ⟨(h3.2 b hb).2, fun he => h4 b he hb, by have := (h3.2 b hb).1; omega⟩)⟩
set_option maxRecDepth 100000 in
set_option maxHeartbeats 2000000 in
theorem l1Copy_top (k n : Int) (ks : List Tr) (w : World) (v : Value) (hin : Lies w (.mk k n ks) v) (hcnt : cnt (.mk k n ks) ≤ 1000000) :
  Calls Try.prog 103 #[v] w fun e w' => ∃ B c, e = .returned (.agg #[.int .i64 k, .int .i64 n, .slice B ks.length c]) ∧ (∃ W0 : World, w.heap.size ≤ W0.heap.size ∧ GrowS (fun b => b < W0.heap.size) W0 w' 44 (.slice B ks.length c) ks ∧ W0.heap.size ≤ w'.heap.size) ∧ Ext w w' := by
  obtain ⟨A, cap, rfl, hl, hc, hK⟩ := Lies.mk_iff.1 hin
  obtain ⟨i0, hi, hz0, hz1, hz2⟩ := info_parts infoPTerm
  have hcc := hc
  unfold maxLen at hcc
  simp only [cnt] at hcnt
  have hlc := len_le_cnts ks
  go_enter Try.func103, Try.ntmps103
  go_wp2_with fail
  obtain ⟨w1, hw1⟩ : ∃ w1, w1 = (w.alloc (.cells #[.int .i64 k, .int .i64 n, .slice A ks.length cap] 44)).alloc (.cells #[.int .i64 0, .int .i64 0, .slice none 0 0] 44) := ⟨_, rfl⟩
  obtain ⟨W, hW⟩ : ∃ W, W = w1.alloc (.cells #[.int .i64 k, .int .i64 n, .slice none 0 0] 44) := ⟨_, rfl⟩
  have hs1 : w1.heap.size = w.heap.size + 1 + 1 := by rw [hw1]; simp
  have hsW : W.heap.size = w.heap.size + 3 := by rw [hW]; simp; omega
  have hE1 : Ext w w1 := hw1 ▸ ((Ext.refl w).alloc _).alloc _
  have hEW : Ext w1 W := hW ▸ (Ext.refl w1).alloc _
  have hbR : w1.heap[w.heap.size + 1]? = some (.cells #[.int .i64 0, .int .i64 0, .slice none 0 0] 44 (0, 0)) := by
    rw [hw1]; exact (blk2 (Ext.refl _)).2.1
  have hbO : W.heap[w.heap.size + 1 + 1]? = some (.cells #[.int .i64 k, .int .i64 n, .slice none 0 0] 44 (0, 0)) := by
    have := heap_alloc_new w1 (.cells #[.int .i64 k, .int .i64 n, .slice none 0 0] 44)
    rw [hs1] at this
    rw [hW]
    exact this
  have hbT : w1.heap[w.heap.size]? = some (.cells #[.int .i64 k, .int .i64 n, .slice A ks.length cap] 44 (0, 0)) := by
    rw [hw1]; exact (blk2 (Ext.refl _)).1
  rw [← hw1, ← hW]
  clear hW hw1
  go_loopw [4] (fun i wr => ∃ (j : Nat) (v : Value), j ≤ ks.length ∧ i = .int .i64 j ∧ wr.heap[w.heap.size + 1 + 1]? = some (.cells #[.int .i64 k, .int .i64 n, v] 44 (0, 0)) ∧ Grow W wr 44 v (ks.take j) ∧ Ext w1 wr ∧ W.heap.size ≤ wr.heap.size) (fun i _ => ks.length - (intOf i).toNat)
  case atStart => exact ⟨0, _, Nat.zero_le _, rfl, hbO, Grow.nil _ _ _, hEW, Nat.le_refl _⟩
  case round =>
    obtain ⟨j, v, hj, rfl, hbv, hG, he, hle⟩ := hrel
    by_cases hlt : j < ks.length
    · obtain ⟨b, o, k', n', A', cap', kids, rfl, HK, c0, c1, c2, hkl, hkc, hK', hin', hmem⟩ := hK.get (hE1.trans he) hlt
      have htk := List.take_append_getElem hlt
      rw [HK.out] at htk
      have hcm := cnt_mem hmem
      have hlen : (ks.take j).length < 1099511627776 := by rw [List.length_take]; omega
      have hlj : (ks.take j).length = j := by rw [List.length_take]; omega
      have HL := Lib.hid hlj
      have hbT2 := he.blk hbT
      obtain ⟨-, -, t2, -, -, -⟩ := own3 hbT2
      have hj' : (j : Int) < (ks.length : Int) := by omega
      go_wp2_with fail
      have hle2 := hle
      have hG2 := hG
      have hbv2 := hbv
      have hv := cell_of_blk hbv2 2
      have hcells : ∀ w', Below W.heap.size wr w' → w'.heap[w.heap.size + 1 + 1]? = some (.cells #[.int .i64 k, .int .i64 n, v] 44 (0, 0)) := fun w' hB => (hB.block (w.heap.size + 1 + 1) (by omega)).trans hbv2
      have HCells := Lib.hid hcells
      have hEd : Ext wr wr.drew := (Ext.refl wr).drew
      have hinD := hin'.ext hEd
      have he2 := he
      clear hcells hlj hbv hG he hle hcc
      go_region_law (first | (go_simp; go_at_call 103; refine (l1Copy_any _ _ _ hinD (by omega)).mono ?_; rintro e w4 ⟨u, rfl, hM, h4⟩; obtain ⟨a1, a2, a3, a4, a5, rfl⟩ := hM.three'; have hv4 := cell_of_blk (HCells.out _ ((hEd.trans h4).below hle2)) 2; have hs4 := World.block_lt_of_cell? _ _ hv4) | (refine step_append_tree _ (by rfl) (.tmp 18) (.tmp 25) _ (by rfl) 44 i0 _ Try.underlying42 hi hz0 hz1 hz2 rfl (by rfl) hG2 hle2 (hEd.trans h4) (hM.since (Nat.le_refl _)) ((Ext.refl _).alloc _) (by rfl) (heap_alloc_new _ _) hlen ?_; intro v' w5 hG5 hB5; obtain ⟨B5, c5, rfl, q1, q2, -⟩ := hG5.made; have hv5 := cell_of_blk (HCells.out _ hB5) 2; have hf5 := frozen_of_blk (HCells.out _ hB5) 2))
      all_goals (
        have hE5 : Ext w1 w5 := he2.trans' hB5 (by omega)
        have hs5 := hB5.size
        have hb6 := HCells.out _ hB5
        rw [List.length_append, List.length_singleton, htk, show (ks.take j).length + 1 = min (j + 1) ks.length from by rw [List.length_take]; omega] at hG5
        have hGs := fun u => hG5.after ((Above.refl W.heap.size w5).setCell (p := ⟨w.heap.size + 1 + 1, 2, none⟩) (by show w.heap.size + 1 + 1 < W.heap.size; omega) u)
        clear hv4 hs4 hv HCells hM h4 c0 c1 c2 t2
        go_wp2_with fail
        go_roundw
        case rel => exact ⟨j + 1, _, by omega, by go_num, blk_setCell hb6 2 _, hGs _, hE5.setCell (by show _ ≤ w.heap.size + 1 + 1; omega) _, by simp; omega⟩
        case measure => simp [intOf]; omega)
    · obtain ⟨B5, c5, rfl, q1, q2, hMK⟩ := hG.made
      have hGS := hG.toS
      have hjl : j = ks.length := by omega
      have hln : (ks.take j).length = ks.length := by rw [hjl, List.take_length]
      obtain ⟨r0, r1, r2, -, -, -⟩ := own3 hbv
      have hbT2 := he.blk hbT
      obtain ⟨-, -, t2, -, -, -⟩ := own3 hbT2
      have hbR' := he.blk hbR
      obtain ⟨s0, s1, s2, f0, f1, f2⟩ := own3 hbR'
      rw [hln] at q1 r2
      rw [show ks.take j = ks from by rw [hjl, List.take_length]] at hMK
      rw [hln] at hGS
      clear hln hbv
      go_wp2_with fail
      refine bodyPost_ret (v := .agg #[.int .i64 k, .int .i64 n, .slice B5 ks.length c5]) (by simp [results, Try.results103, go_sem, s0, s1, s2]) rfl ⟨B5, c5, rfl, ⟨W, by omega, ?_, by simp; omega⟩, ?_⟩
      · rw [show ks.take j = ks from by rw [hjl, List.take_length]] at hGS
        exact ((hGS.only (Only.one _ (w.heap.size + 1) 0 _) (by intro b hb; rw [List.mem_singleton.1 hb]; omega) (fun b hb => hb)).only (Only.one _ (w.heap.size + 1) 1 _) (by intro b hb; rw [List.mem_singleton.1 hb]; omega) (fun b hb => hb)).only (Only.one _ (w.heap.size + 1) 2 _) (by intro b hb; rw [List.mem_singleton.1 hb]; omega) (fun b hb => hb)
      · exact ((((hE1.trans he).setCell (by simp) _).setCell (by simp) _).setCell (by simp) _)
end Go.Proofs.Ytappakllopkfiaa
namespace Go.Proofs.Ytappakllopkfiaa
open Go.RowKit
set_option linter.unusedVariables false
attribute [local go_sem ↓] Go.wp_at_zero Go.wp_at_succ
theorem infoTermQ : (Try.prog.info? 44).map (fun i => (i.zero, i.size, i.bytes)) = some (some (.agg #[.int .i64 0, .int .i64 0, .slice none 0 0]), 3, 40) := by kernel_rfl
theorem take_set_lt {ks : List Tr} {j m : Nat} (x : Tr) (h : j < ks.length) (hne : j ≠ m) : (ks.set m x).take (j + 1) = (ks.set m x).take j ++ [ks[j]] := by
  have h' : j < (ks.set m x).length := by rw [List.length_set]; exact h
  rw [← List.take_append_getElem h', List.getElem_set_ne (by omega)]
theorem take_set_eq {ks : List Tr} {m : Nat} (x : Tr) (h : m < ks.length) : (ks.set m x).take (m + 1) = (ks.set m x).take m ++ [x] := by
  have h' : m < (ks.set m x).length := by rw [List.length_set]; exact h
  rw [← List.take_append_getElem h', List.getElem_set_self]
set_option maxRecDepth 100000 in
set_option maxHeartbeats 4000000 in
theorem l3With_any (k n : Int) (ks : List Tr) (kid : Tr) (m B : Nat) (w : World) (v vk : Value) (hin : Lies w (.mk k n ks) v) (hkid : From B w kid vk) (hB : B ≤ w.heap.size) (hm : m < ks.length) (hcnt : cnt (.mk k n ks) ≤ 1000000) :
  Calls Try.prog 159 #[v, .int .i64 m, vk] w fun e w' => ∃ x, e = .returned x ∧ From B w' (.mk k n (ks.set m kid)) x ∧ Ext w w' := by
  obtain ⟨A, cap, rfl, hl, hc, hK⟩ := Lies.mk_iff.1 hin
  obtain ⟨d1, d2, d3, d4, d5, rfl⟩ := hkid.three
  obtain ⟨i0, hi, hz0, hz1, hz2⟩ := info_parts infoTermQ
  have hcc := hc
  unfold maxLen at hcc
  simp only [cnt] at hcnt
  have hlc := len_le_cnts ks
  go_enter Try.func159, Try.ntmps159
  go_wp2_with fail
  obtain ⟨w1, hw1⟩ : ∃ w1, w1 = ((w.alloc (.cells #[.int .i64 k, .int .i64 n, .slice A ks.length cap] 44)).alloc (.cells #[.int .i64 d1, .int .i64 d2, .slice d3 d4 d5] 44)).alloc (.cells #[.int .i64 0, .int .i64 0, .slice none 0 0] 44) := ⟨_, rfl⟩
  obtain ⟨W, hW⟩ : ∃ W, W = w1.alloc (.cells #[.int .i64 k, .int .i64 n, .slice none 0 0] 44) := ⟨_, rfl⟩
  have hs1 : w1.heap.size = w.heap.size + 3 := by rw [hw1]; simp
  have hsW : W.heap.size = w.heap.size + 4 := by rw [hW]; simp; omega
  have hE1 : Ext w w1 := hw1 ▸ (((Ext.refl w).alloc _).alloc _).alloc _
  have hEW : Ext w1 W := hW ▸ (Ext.refl w1).alloc _
  obtain ⟨hbT, hbU, hbR, -⟩ : w1.heap[w.heap.size]? = some (.cells #[.int .i64 k, .int .i64 n, .slice A ks.length cap] 44 (0, 0)) ∧ w1.heap[w.heap.size + 1]? = some (.cells #[.int .i64 d1, .int .i64 d2, .slice d3 d4 d5] 44 (0, 0)) ∧ w1.heap[w.heap.size + 1 + 1]? = some (.cells #[.int .i64 0, .int .i64 0, .slice none 0 0] 44 (0, 0)) ∧ True := by
    rw [hw1]; exact ⟨(blk3 (Ext.refl _)).1, (blk3 (Ext.refl _)).2.1, (blk3 (Ext.refl _)).2.2.1, trivial⟩
  have hbO : W.heap[w.heap.size + 1 + 1 + 1]? = some (.cells #[.int .i64 k, .int .i64 n, .slice none 0 0] 44 (0, 0)) := by
    have := heap_alloc_new w1 (.cells #[.int .i64 k, .int .i64 n, .slice none 0 0] 44)
    rw [hs1] at this
    rw [hW]
    exact this
  rw [← hw1, ← hW]
  have hsWa : w.heap.size + 4 ≤ W.heap.size := by omega
  have hsWb : W.heap.size ≤ w.heap.size + 4 := by omega
  have hs1a : w.heap.size + 3 ≤ w1.heap.size := by omega
  have hs1b : w1.heap.size ≤ w.heap.size + 3 := by omega
  clear hW hw1 hsW hs1
  have hXW : ∀ b, (b < B ∨ w.heap.size ≤ b ∧ b < W.heap.size) → b < W.heap.size := fun b hb => by omega
  go_loopw [8] (fun i wr => ∃ (j : Nat) (v : Value), j ≤ ks.length ∧ i = .int .i64 j ∧ wr.heap[w.heap.size + 1 + 1 + 1]? = some (.cells #[.int .i64 k, .int .i64 n, v] 44 (0, 0)) ∧ GrowS (fun b => b < B ∨ w.heap.size ≤ b ∧ b < W.heap.size) W wr 44 v ((ks.set m kid).take j) ∧ Ext w1 wr ∧ W.heap.size ≤ wr.heap.size) (fun i _ => ks.length - (intOf i).toNat)
  case atStart => exact ⟨0, _, Nat.zero_le _, rfl, hbO, GrowS.nil _ _ _ _, hEW, Nat.le_refl _⟩
  case round =>
    obtain ⟨j, v, hj, rfl, hbv, hG, he, hle⟩ := hrel
    by_cases hlt : j < ks.length
    · have hlen : ((ks.set m kid).take j).length < 1099511627776 := by rw [List.length_take]; omega
      obtain ⟨-, -, t2, -, -, -⟩ := own3 (he.blk hbT)
      obtain ⟨u0, u1, u2, -, -, -⟩ := own3 (he.blk hbU)
      have hj' : (j : Int) < (ks.length : Int) := by omega
      have hv := cell_of_blk hbv 2
      have hfv := frozen_of_blk hbv 2
      have hown : ∀ q, v.ownBlock = some q → W.heap.size ≤ q ∧ q < wr.heap.size := by
        obtain ⟨xs, g1, -⟩ := hG
        exact fun q hq => g1.lt q hq
      have HOWN := Lib.hid hown
      have hwrb : w.heap.size + 1 + 1 + 1 < wr.heap.size := lt_of_blk hbv
      have hlt1 : w.heap.size + 1 < wr.heap.size := by omega
      by_cases hjm : j = m
      · subst hjm
        have hjb : ((j : Int) == (j : Int)) = true := by simp
        have htk := take_set_eq kid hlt
        have HTK := Lib.hid htk
        have hxk := (Ext.refl wr).alloc (.cells #[.int .i64 d1, .int .i64 d2, .slice d3 d4 d5] 44)
        have hGk := hG.ext hxk
        have hTk : InT (wr.alloc (.cells #[.int .i64 d1, .int .i64 d2, .slice d3 d4 d5] 44)) (fun b => b < (wr.alloc (.cells #[.int .i64 d1, .int .i64 d2, .slice d3 d4 d5] 44)).heap.size ∧ v.ownBlock ≠ some b ∧ ¬ (b < B ∨ w.heap.size ≤ b ∧ b < W.heap.size)) kid (.agg #[.int .i64 d1, .int .i64 d2, .slice d3 d4 d5]) := InT.mono (fun y hy => by
          have h1 : B ≤ y := hy.1
          have h2 : y < w.heap.size := hy.2
          exact ⟨by simp; omega, fun hh => by have := (HOWN.out y hh).1; omega, by omega⟩) (fun y hy => ((hE1.trans he).trans hxk).heap y hy.2) hkid
        have HBV := Lib.hid (hxk.blk hbv)
        have HG := Lib.hid hGk
        have HT := Lib.hid hTk
        clear hown hG hGk hTk htk hbv
        go_wp2_with (at_builtin; refine wpList_append_treeS _ rfl (.tmp 25) (.tmp 27) _ (by rfl) 44 i0 _ Try.underlying42 hi hz0 hz1 hz2 rfl (by rfl) (W := W) HG.out (by have := hxk.size; omega) HT.out (by rfl) (heap_alloc_new _ _) hlen ?_ hXW)
        intro v' w5 hG5 hB5
        have hE5 : Ext w1 w5 := (he.trans hxk).trans' hB5 (by omega)
        have hs5 := hB5.size
        have hb6 := (hB5.block (w.heap.size + 1 + 1 + 1) (by omega)).trans HBV.out
        rw [← HTK.out] at hG5
        obtain ⟨B5, c5, rfl, -, -, -, -⟩ := hG5.lies hXW
        obtain ⟨l5, hl5⟩ : ∃ l, ((ks.set j kid).take (j + 1)).length = l := ⟨_, rfl⟩
        rw [hl5] at hG5 ⊢
        clear hl5
        have hsz5 : W.heap.size ≤ w5.heap.size := by have := hxk.size; omega
        have hv5 := cell_of_blk hb6 2
        have hf5 := frozen_of_blk hb6 2
        have HG5 := Lib.hid hG5
        clear hv hfv t2 u0 u1 u2 hG5 hlen
        go_wp2_with fail
        go_roundw
        case rel => exact ⟨j + 1, _, by omega, by go_num, blk_setCell hb6 2 _, HG5.out.only (Only.one w5 (w.heap.size + 1 + 1 + 1) 2 _) (by intro b hb; rw [List.mem_singleton.1 hb]; exact .inr ⟨by omega, by omega⟩) hXW, hE5.setCell (by show _ ≤ w.heap.size + 1 + 1 + 1; omega) _, by simpa using hsz5⟩
        case measure => simp [intOf]; omega
      · have hjb : ((j : Int) == (m : Int)) = false := beq_eq_false_iff_ne.2 (by omega)
        obtain ⟨b, o, k', n', A', cap', kids, rfl, HK, c0, c1, c2, hkl, hkc, hK', hin', hmem⟩ := hK.get (hE1.trans he) hlt
        have htk := take_set_lt kid hlt hjm
        rw [HK.out] at htk
        have HTK := Lib.hid htk
        have hcm := cnt_mem hmem
        have hEd : Ext wr wr.drew := (Ext.refl wr).drew
        have hinD := hin'.ext hEd
        have hcells : ∀ w', Below W.heap.size wr w' → w'.heap[w.heap.size + 1 + 1 + 1]? = some (.cells #[.int .i64 k, .int .i64 n, v] 44 (0, 0)) := fun w' hB => (hB.block (w.heap.size + 1 + 1 + 1) (by omega)).trans hbv
        have HCells := Lib.hid hcells
        have HG := Lib.hid hG
        go_wp2_with fail
        clear hcells hbv hG hown htk hcc u0 u1 u2
        go_region_law (first | (go_simp; go_at_call 103; refine (l1Copy_any _ _ _ hinD (by omega)).mono ?_; rintro e w4 ⟨u, rfl, hM, h4⟩; obtain ⟨a1, a2, a3, a4, a5, rfl⟩ := hM.three'; have hv4 := cell_of_blk (HCells.out _ ((hEd.trans h4).below hle)) 2; have hs4 := World.block_lt_of_cell? _ _ hv4) | (refine step_append_treeS _ (by rfl) (.tmp 31) (.tmp 38) _ (by rfl) 44 i0 _ Try.underlying42 hi hz0 hz1 hz2 rfl (by rfl) (X := fun b => b < B ∨ w.heap.size ≤ b ∧ b < W.heap.size) (W := W) (tr := .mk k' n' kids) (HG.out.ext ((hEd.trans h4).trans ((Ext.refl w4).alloc _))) (by have := (hEd.trans h4).size; simp; omega) (InT.mono (fun y hy => ⟨by have h9 := hy.2; simp; omega, fun hh => by have h9 : wr.heap.size ≤ y := hy.1; have := (HOWN.out y hh).2; omega, by have h9 : wr.heap.size ≤ y := hy.1; omega⟩) (fun y hy => ((Ext.refl w4).alloc _).heap y hy.2) (From.made hM)) (by rfl) (heap_alloc_new _ _) hlen ?_ hXW; intro v' w5 hG5 hB5; obtain ⟨B5, c5, rfl, -, -, -, -⟩ := hG5.lies hXW; obtain ⟨l5, hl5⟩ : ∃ l, ((ks.set m kid).take j ++ [Tr.mk k' n' kids]).length = l := ⟨_, rfl⟩; rw [hl5] at hG5 ⊢; clear hl5; have hB5' : Below W.heap.size wr w5 := (((hEd.trans h4).trans ((Ext.refl w4).alloc _)).below hle).trans hB5; have hv5 := cell_of_blk (HCells.out _ hB5') 2; have hf5 := frozen_of_blk (HCells.out _ hB5') 2))
        all_goals (
          have hE5 : Ext w1 w5 := he.trans' hB5' (by omega)
          have hs5 := hB5'.size
          have hb6 := HCells.out _ hB5'
          rw [← HTK.out] at hG5
          have HG5 := Lib.hid hG5
          clear hv4 hs4 hv HCells hM h4 c0 c1 c2 t2 hG5 hB5 hB5' hfv
          go_wp2_with fail
          go_roundw
          case rel => exact ⟨j + 1, _, by omega, by go_num, blk_setCell hb6 2 _, HG5.out.only (Only.one w5 (w.heap.size + 1 + 1 + 1) 2 _) (by intro b hb; rw [List.mem_singleton.1 hb]; exact .inr ⟨by omega, by omega⟩) hXW, hE5.setCell (by show _ ≤ w.heap.size + 1 + 1 + 1; omega) _, by simp; omega⟩
          case measure => simp [intOf]; omega)
    · have hln : (ks.set m kid).take j = ks.set m kid := List.take_of_length_le (by rw [List.length_set]; omega)
      rw [hln] at hG
      obtain ⟨r0, r1, r2, -, -, -⟩ := own3 hbv
      obtain ⟨-, -, t2, -, -, -⟩ := own3 (he.blk hbT)
      obtain ⟨s0, s1, s2, f0, f1, f2⟩ := own3 (he.blk hbR)
      have hGr := fun (x0 x1 x2 : Value) => ((hG.only (Only.one _ (w.heap.size + 1 + 1) 0 x0) (by intro b hb; rw [List.mem_singleton.1 hb]; exact .inr ⟨by omega, by omega⟩) hXW).only (Only.one _ (w.heap.size + 1 + 1) 1 x1) (by intro b hb; rw [List.mem_singleton.1 hb]; exact .inr ⟨by omega, by omega⟩) hXW).only (Only.one _ (w.heap.size + 1 + 1) 2 x2) (by intro b hb; rw [List.mem_singleton.1 hb]; exact .inr ⟨by omega, by omega⟩) hXW
      obtain ⟨Bv, cv, rfl, q1, q2, -, -⟩ := hG.lies hXW
      have HGR := Lib.hid hGr
      have hE9 := hE1.trans he
      clear hGr hG hln hbv
      go_wp2_with fail
      refine bodyPost_ret (v := .agg #[.int .i64 k, .int .i64 n, .slice Bv ks.length cv]) (by simp [results, Try.results159, go_sem, s0, s1, s2]) rfl ⟨_, rfl, ?_, ?_⟩
      · obtain ⟨Bv', cv', he', q1', q2', hKK, -⟩ := (HGR.out (.int .i64 k) (.int .i64 n) (.slice Bv ks.length cv)).lies hXW
        simp only [Value.slice.injEq, true_and] at he'
        obtain ⟨rfl, rfl⟩ := he'
        have := From.mk (B := B) k n (InK.mono (fun y hy => ⟨by have h9 : ¬ (y < B ∨ w.heap.size ≤ y ∧ y < W.heap.size) := hy.2; show B ≤ y; omega, hy.1⟩) (fun _ _ => rfl) hKK) q1 q2
        rw [List.length_set] at this
        exact this
      · exact ((hE9.setCell (by show _ ≤ w.heap.size + 1 + 1; omega) _).setCell (by show _ ≤ w.heap.size + 1 + 1; omega) _).setCell (by show _ ≤ w.heap.size + 1 + 1; omega) _
end Go.Proofs.Ytappakllopkfiaa

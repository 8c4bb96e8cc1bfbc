/-
  l12Copy, and the row that its answer has; l12Mutate.
-/
import Derived.Test.YtappakllopkfiaaMutate
import Derived.Test.YtappakllopkfiaaSpExtract
namespace Go.Proofs.Ytappakllopkfiaa
open Go.RowKit
set_option linter.unusedVariables false
attribute [local go_sem ↓] Go.wp_at_zero Go.wp_at_succ

theorem l12Leaf_any (w : World) (k : Int) : Calls Try.prog 140 #[.int .i64 k, .slice none 0 0] w fun e w' => ∃ A c, e = .returned (.agg #[.int .i64 k, .int .i64 0, .slice A 0 c]) ∧ c ≤ maxLen ∧ Ext w w' := by
  refine (l12Node_any w k none 0 [] (fun _ => rfl) (fun _ => False) (fun _ h => h.elim) (.inl rfl) (by simp)).mono ?_
  rintro e w' ⟨u, rfl, hN, h⟩
  obtain ⟨A, c, rfl, -, hc, -⟩ := InT.mk_iff.1 hN
  exact ⟨A, c, rfl, hc, h⟩
theorem l12Node_fromB (B : Nat) (w : World) (k : Int) (A : Option Addr) (cap : Nat) (ks : List Tr) (hA : A = none → cap = 0) (hK : FromK B w A ks) (hB : B ≤ w.heap.size) (hn : ks.length ≤ 1099511627776) :
    Calls Try.prog 140 #[.int .i64 k, .slice A ks.length cap] w fun e w' => ∃ u, e = .returned u ∧ From B w' (.mk k 0 ks) u ∧ Ext w w' :=
  (l12Node_any w k A cap ks hA _ (fun b hb => hb.2) hK hn).mono fun e w' ⟨u, h1, h2, h3⟩ => ⟨u, h1, h2.mono (fun b hb => by
    have := h3.size
    rcases hb with hb | hb
    · exact ⟨hb.1, by omega⟩
    · exact ⟨by omega, hb.2⟩) (fun _ _ => rfl), h3⟩
set_option maxRecDepth 100000 in
set_option maxHeartbeats 2000000 in
theorem l12Copy_top (k n : Int) (ks : List Tr) (w : World) (v : Value) (hin : Lies w (.mk k n ks) v) (hcnt : cnt (.mk k n ks) ≤ 1000000) :
  Calls Try.prog 60 #[v] w fun e w' => ∃ B c, e = .returned (.agg #[.int .i64 k, .int .i64 n, .slice B ks.length c]) ∧ (∃ W0 : World, w.heap.size ≤ W0.heap.size ∧ GrowS (fun b => b < W0.heap.size) W0 w' 28 (.slice B ks.length c) ks ∧ W0.heap.size ≤ w'.heap.size) ∧ Ext w w' := by
  obtain ⟨A, cap, rfl, hl, hc, hK⟩ := Lies.mk_iff.1 hin
  obtain ⟨i0, hi, hz0, hz1, hz2⟩ := info_parts infoPCode
  have hcc := hc
  unfold maxLen at hcc
  simp only [cnt] at hcnt
  have hlc := len_le_cnts ks
  go_enter Try.func60, Try.ntmps60
  go_wp2_with fail
  obtain ⟨w1, hw1⟩ : ∃ w1, w1 = (w.alloc (.cells #[.int .i64 k, .int .i64 n, .slice A ks.length cap] 28)).alloc (.cells #[.int .i64 0, .int .i64 0, .slice none 0 0] 28) := ⟨_, rfl⟩
  obtain ⟨W, hW⟩ : ∃ W, W = w1.alloc (.cells #[.int .i64 k, .int .i64 n, .slice none 0 0] 28) := ⟨_, rfl⟩
  have hs1 : w1.heap.size = w.heap.size + 1 + 1 := by rw [hw1]; simp
  have hsW : W.heap.size = w.heap.size + 3 := by rw [hW]; simp; omega
  have hE1 : Ext w w1 := hw1 ▸ ((Ext.refl w).alloc _).alloc _
  have hEW : Ext w1 W := hW ▸ (Ext.refl w1).alloc _
  have hbR : w1.heap[w.heap.size + 1]? = some (.cells #[.int .i64 0, .int .i64 0, .slice none 0 0] 28 (0, 0)) := by
    rw [hw1]; exact (blk2 (Ext.refl _)).2.1
  have hbO : W.heap[w.heap.size + 1 + 1]? = some (.cells #[.int .i64 k, .int .i64 n, .slice none 0 0] 28 (0, 0)) := by
    have := heap_alloc_new w1 (.cells #[.int .i64 k, .int .i64 n, .slice none 0 0] 28)
    rw [hs1] at this
    rw [hW]
    exact this
  have hbT : w1.heap[w.heap.size]? = some (.cells #[.int .i64 k, .int .i64 n, .slice A ks.length cap] 28 (0, 0)) := by
    rw [hw1]; exact (blk2 (Ext.refl _)).1
  rw [← hw1, ← hW]
  clear hW hw1
  go_loopw [4] (fun i wr => ∃ (j : Nat) (v : Value), j ≤ ks.length ∧ i = .int .i64 j ∧ wr.heap[w.heap.size + 1 + 1]? = some (.cells #[.int .i64 k, .int .i64 n, v] 28 (0, 0)) ∧ Grow W wr 28 v (ks.take j) ∧ Ext w1 wr ∧ W.heap.size ≤ wr.heap.size) (fun i _ => ks.length - (intOf i).toNat)
  case atStart => exact ⟨0, _, Nat.zero_le _, rfl, hbO, Grow.nil _ _ _, hEW, Nat.le_refl _⟩
  case round =>
    obtain ⟨j, v, hj, rfl, hbv, hG, he, hle⟩ := hrel
    by_cases hlt : j < ks.length
    · obtain ⟨b, o, k', n', A', cap', kids, rfl, HK, c0, c1, c2, hkl, hkc, hK', hin', hmem⟩ := hK.get (hE1.trans he) hlt
      have htk := List.take_append_getElem hlt
      rw [HK.out] at htk
      have hcm := cnt_mem hmem
      have hlen : (ks.take j).length < 1099511627776 := by rw [List.length_take]; omega
      have hlj : (ks.take j).length = j := by rw [List.length_take]; omega
      have HL := Lib.hid hlj
      have hbT2 := he.blk hbT
      obtain ⟨-, -, t2, -, -, -⟩ := own3 hbT2
      have hj' : (j : Int) < (ks.length : Int) := by omega
      go_wp2_with fail
      have hle2 := hle
      have hG2 := hG
      have hbv2 := hbv
      have hv := cell_of_blk hbv2 2
      have hcells : ∀ w', Below W.heap.size wr w' → w'.heap[w.heap.size + 1 + 1]? = some (.cells #[.int .i64 k, .int .i64 n, v] 28 (0, 0)) := fun w' hB => (hB.block (w.heap.size + 1 + 1) (by omega)).trans hbv2
      have HCells := Lib.hid hcells
      have hEd : Ext wr wr.drew := (Ext.refl wr).drew
      have hinD := hin'.ext hEd
      have he2 := he
      clear hcells hlj hbv hG he hle hcc
      go_region_law (first | (go_simp; go_at_call 60; refine (l12Copy_any _ _ _ hinD (by omega)).mono ?_; rintro e w4 ⟨u, rfl, hM, h4⟩; obtain ⟨a1, a2, a3, a4, a5, rfl⟩ := hM.three'; have hv4 := cell_of_blk (HCells.out _ ((hEd.trans h4).below hle2)) 2; have hs4 := World.block_lt_of_cell? _ _ hv4) | (refine step_append_tree _ (by rfl) (.tmp 18) (.tmp 25) _ (by rfl) 28 i0 _ Try.underlying26 hi hz0 hz1 hz2 rfl (by rfl) hG2 hle2 (hEd.trans h4) (hM.since (Nat.le_refl _)) ((Ext.refl _).alloc _) (by rfl) (heap_alloc_new _ _) hlen ?_; intro v' w5 hG5 hB5; obtain ⟨B5, c5, rfl, q1, q2, -⟩ := hG5.made; have hv5 := cell_of_blk (HCells.out _ hB5) 2; have hf5 := frozen_of_blk (HCells.out _ hB5) 2))
      all_goals (
        have hE5 : Ext w1 w5 := he2.trans' hB5 (by omega)
        have hs5 := hB5.size
        have hb6 := HCells.out _ hB5
        rw [List.length_append, List.length_singleton, htk, show (ks.take j).length + 1 = min (j + 1) ks.length from by rw [List.length_take]; omega] at hG5
        have hGs := fun u => hG5.after ((Above.refl W.heap.size w5).setCell (p := ⟨w.heap.size + 1 + 1, 2, none⟩) (by show w.heap.size + 1 + 1 < W.heap.size; omega) u)
        clear hv4 hs4 hv HCells hM h4 c0 c1 c2 t2
        go_wp2_with fail
        go_roundw
        case rel => exact ⟨j + 1, _, by omega, by go_num, blk_setCell hb6 2 _, hGs _, hE5.setCell (by show _ ≤ w.heap.size + 1 + 1; omega) _, by simp; omega⟩
        case measure => simp [intOf]; omega)
    · obtain ⟨B5, c5, rfl, q1, q2, hMK⟩ := hG.made
      have hGS := hG.toS
      have hjl : j = ks.length := by omega
      have hln : (ks.take j).length = ks.length := by rw [hjl, List.take_length]
      obtain ⟨r0, r1, r2, -, -, -⟩ := own3 hbv
      have hbT2 := he.blk hbT
      obtain ⟨-, -, t2, -, -, -⟩ := own3 hbT2
      have hbR' := he.blk hbR
      obtain ⟨s0, s1, s2, f0, f1, f2⟩ := own3 hbR'
      rw [hln] at q1 r2
      rw [show ks.take j = ks from by rw [hjl, List.take_length]] at hMK
      rw [hln] at hGS
      clear hln hbv
      go_wp2_with fail
      refine bodyPost_ret (v := .agg #[.int .i64 k, .int .i64 n, .slice B5 ks.length c5]) (by simp [results, Try.results60, go_sem, s0, s1, s2]) rfl ⟨B5, c5, rfl, ⟨W, by omega, ?_, by simp; omega⟩, ?_⟩
      · rw [show ks.take j = ks from by rw [hjl, List.take_length]] at hGS
        exact ((hGS.only (Only.one _ (w.heap.size + 1) 0 _) (by intro b hb; rw [List.mem_singleton.1 hb]; omega) (fun b hb => hb)).only (Only.one _ (w.heap.size + 1) 1 _) (by intro b hb; rw [List.mem_singleton.1 hb]; omega) (fun b hb => hb)).only (Only.one _ (w.heap.size + 1) 2 _) (by intro b hb; rw [List.mem_singleton.1 hb]; omega) (fun b hb => hb)
      · exact ((((hE1.trans he).setCell (by simp) _).setCell (by simp) _).setCell (by simp) _)
set_option maxRecDepth 100000 in
set_option maxHeartbeats 4000000 in
theorem l12Mutate_any (t : Tr) (w : World) (g m : Nat) (v : Value) (hin : Lies w t v) (hcn : cnt t ≤ 900000) (hR : Rd w g m) (hm : m < 900000) : Calls Try.prog 73 #[.pointer (some ⟨g, 0, none⟩), v] w fun e w' => ∃ t' u, e = .returned u ∧ cnt t' ≤ cnt t + 2 ∧ From w.heap.size w' t' u ∧ Rd w' g (m + 2) ∧ Only [g] w w' := by
  have hgl := hR.lt
  obtain ⟨k, n, ks⟩ := t
  have HC := Lib.hid (fun W (hW : Ext w W) => l12Copy_top k n ks W v (hin.ext hW) (by omega))
  obtain ⟨A, cap, rfl, hl, hc, hK⟩ := Lies.mk_iff.1 hin
  have hlc := len_le_cnts ks
  simp only [cnt] at hcn
  have hx0 := ((Ext.refl w).alloc (.cells #[.int .i64 k, .int .i64 n, .slice A ks.length cap] 28)).alloc (.cells #[.int .i64 0, .int .i64 0, .slice none 0 0] 28)
  obtain ⟨b30, b40, hs0⟩ := blk2 (Ext.refl ((w.alloc (.cells #[.int .i64 k, .int .i64 n, .slice A ks.length cap] 28)).alloc (.cells #[.int .i64 0, .int .i64 0, .slice none 0 0] 28)))
  clear hin hK hl hc b30
  go_enter Try.func73, Try.ntmps73
  go_wp2_with fail
  generalize (w.alloc _).alloc _ = w0 at hx0 b40 hs0
  refine (HC.out _ hx0).mono ?_
  rintro e w1 ⟨B, c, rfl, ⟨W, hW0, hG1, hW1⟩, e1⟩
  have hx2 := e1.trans ((Ext.refl w1).alloc (.cells #[.int .i64 k, .int .i64 n, .slice B ks.length c] 28))
  obtain ⟨w2, hw2⟩ : ∃ w2, w2 = w1.alloc (.cells #[.int .i64 k, .int .i64 n, .slice B ks.length c] 28) := ⟨_, rfl⟩
  have b52 : w2.heap[w1.heap.size]? = some (.cells #[.int .i64 k, .int .i64 n, .slice B ks.length c] 28 (0, 0)) := hw2 ▸ heap_alloc_new w1 _
  have hG2 : GrowS (fun b => b < W.heap.size ∨ b = w1.heap.size) W w2 28 (.slice B ks.length c) ks := hw2 ▸ (hG1.widen (fun b hb hn h => by rcases h with h | h; exact hn h; omega)).ext ((Ext.refl w1).alloc _)
  have hown1 : ∀ q, (Value.slice B ks.length c).ownBlock = some q → W.heap.size ≤ q ∧ q < w1.heap.size := by
    obtain ⟨xs, q1, -⟩ := hG1
    exact fun q hq => ⟨(q1.lt q hq).1, (q1.lt q hq).2⟩
  rw [← hw2] at hx2
  have b42 := hx2.blk b40
  have hs2 : w1.heap.size < w2.heap.size := lt_of_blk b52
  obtain ⟨g5, hg5⟩ : ∃ g5, g5 = w1.heap.size := ⟨_, rfl⟩
  have hW5 : W.heap.size ≤ g5 := by omega
  rw [← hg5] at hG2 hown1
  go_wp2_with fail
  rw [← hw2]
  rw [← hg5] at b52 ⊢
  clear hw2 hG1 HC b40
  refine (pick_any _ g m 40 (hR.ext (hx0.trans hx2)) (by omega)).mono ?_
  rintro e w4 ⟨x, rfl, hx50, -, hR4, ho4⟩
  have hO4 : Only [g] w w4 := (Only.of_ext (hx0.trans hx2)).trans ho4
  have hw15 : w.heap.size + 1 < g5 := by have := lt_of_blk b42; have := e1.size; omega
  have b44 := ho4.keepBlk b42 (by simp; omega)
  have b54 := ho4.keepBlk b52 (by simp; omega)
  have hnX : ∀ q, (Value.slice B ks.length c).ownBlock = some q → ¬ (q < W.heap.size ∨ q = g5) := fun q hq h => by have := hown1 q hq; omega
  have hG4 := hG2.keep ho4.size (fun b hb hn => ho4.block b hb (fun hm => hn (.inl (by rw [List.mem_singleton.1 hm]; omega)))) hnX
  have hgx4 : g5 < w4.heap.size := lt_of_blk b54
  clear b42 b52 hG2 hR ho4 hs2 hg5
  obtain ⟨B', c', hBc, hl1, hl2, hKs⟩ := hG4.liesX hnX
  cases hBc
  have HK := Lib.hid (show ∀ w' : World, w4.heap.size ≤ w'.heap.size → (∀ b, W.heap.size ≤ b → b ≠ g5 → b < w4.heap.size → w'.heap[b]? = w4.heap[b]?) → FromK (w.heap.size + 2) w' B ks from fun w' h1 h2 => hKs.mono (fun b hb => ⟨by omega, by omega⟩) (fun b hb => h2 b (by omega) (by omega) hb.1))
  have HG := Lib.hid hG4
  have HNX := Lib.hid hnX
  have HOW := Lib.hid hown1
  clear hKs hG4 hnX hown1
  by_cases h0 : x = 0
  · subst h0
    have hx5 := (Ext.refl w4).alloc (.cells #[.int .i64 0, .int .i64 11, .int .i64 4, .int .i64 1] 3)
    obtain ⟨z0, z1, z2, q0, q1, q2⟩ := own3 b54
    go_wp2_with fail
    refine (num_any _ g _ (hR4.ext hx5) (by omega) _ 4 [0, 11, 4, 1] (by simp) (by decide) (by simp) (nums_lit rfl) (by intro b o hb; simp at hb; have := hO4.size; omega)).mono ?_
    rintro e w6 ⟨y, rfl, -, hR6, ho6⟩
    have hO6 := (hO4.trans (Only.of_ext (L := [g]) hx5)).trans ho6
    have b46 := ho6.keepBlk (hx5.blk b44) (by simp; omega)
    have b56 := ho6.keepBlk (hx5.blk b54) (by simp; omega)
    have hs6 : w4.heap.size ≤ w6.heap.size := by have := hx5.size; have := ho6.size; omega
    have hK7 := HK.out (w6.setCell ⟨g5, 0, none⟩ (.int .i64 y)) (by simpa using hs6) (fun b h1 h2 h3 => (Below.heap_setCell _ _ _ _ (by show b ≠ g5; exact h2)).trans ((ho6.block b (by have := hx5.size; omega) (by simp; omega)).trans (hx5.heap b h3)))
    have b47 := blk_setCell_ne b46 (p := ⟨g5, 0, none⟩) (by show w.heap.size + 1 ≠ g5; omega) (.int .i64 y)
    have b57 := blk_setCell b56 0 (.int .i64 y)
    have hR7 : Rd (w6.setCell ⟨g5, 0, none⟩ (.int .i64 y)) g (m + 2) := hR6.set (by show g < g5; omega) _
    have hO7 := hO6.setNew (p := ⟨g5, 0, none⟩) (by show w.heap.size ≤ g5; omega) (.int .i64 y)
    obtain ⟨y0, y1, y2, p0, p1, p2⟩ := own3 b56
    obtain ⟨s0, s1, s2, f0, f1, f2⟩ := own3 b46
    have hgx := hgl
    clear z0 z1 z2 q0 q1 q2 hx5 b46 b56 hO6 ho6 hR6 hR4 b44 b54 hO4 hgl
    go_wp2_with fail
    refine bodyPost_ret (v := .agg #[.int .i64 y, .int .i64 n, .slice B ks.length c]) (by simp [results, Try.results73, go_sem, s0, s1, s2]) rfl ⟨.mk y n ks, _, rfl, by simp only [cnt]; omega, ?_, ?_, ?_⟩
    · exact ((((From.mk y n hK7 hl1 hl2).set (by simp) _).set (by simp) _).set (by simp) _).since (by omega)
    · exact ((hR7.set (by show g < w.heap.size + 1; omega) _).set (by show g < w.heap.size + 1; omega) _).set (by show g < w.heap.size + 1; omega) _
    · exact ((hO7.setNew (by simp) _).setNew (by simp) _).setNew (by simp) _
  by_cases h1 : x = 1
  · subst h1
    have hx5 := (Ext.refl w4).alloc (.cells #[.int .i64 1, .int .i64 21, .int .i64 (-1)] 3)
    obtain ⟨z0, z1, z2, q0, q1, q2⟩ := own3 b54
    go_wp2_with fail
    refine (num_any _ g _ (hR4.ext hx5) (by omega) _ 3 [1, 21, -1] (by simp) (by decide) (by simp) (nums_lit rfl) (by intro b o hb; simp at hb; have := hO4.size; omega)).mono ?_
    rintro e w6 ⟨y, rfl, -, hR6, ho6⟩
    have hO6 := (hO4.trans (Only.of_ext (L := [g]) hx5)).trans ho6
    have b46 := ho6.keepBlk (hx5.blk b44) (by simp; omega)
    have b56 := ho6.keepBlk (hx5.blk b54) (by simp; omega)
    have hs6 : w4.heap.size ≤ w6.heap.size := by have := hx5.size; have := ho6.size; omega
    have hK7 := HK.out (w6.setCell ⟨g5, 1, none⟩ (.int .i64 y)) (by simpa using hs6) (fun b h1 h2 h3 => (Below.heap_setCell _ _ _ _ (by show b ≠ g5; exact h2)).trans ((ho6.block b (by have := hx5.size; omega) (by simp; omega)).trans (hx5.heap b h3)))
    have b47 := blk_setCell_ne b46 (p := ⟨g5, 1, none⟩) (by show w.heap.size + 1 ≠ g5; omega) (.int .i64 y)
    have b57 := blk_setCell b56 1 (.int .i64 y)
    have hR7 : Rd (w6.setCell ⟨g5, 1, none⟩ (.int .i64 y)) g (m + 2) := hR6.set (by show g < g5; omega) _
    have hO7 := hO6.setNew (p := ⟨g5, 1, none⟩) (by show w.heap.size ≤ g5; omega) (.int .i64 y)
    obtain ⟨y0, y1, y2, p0, p1, p2⟩ := own3 b56
    obtain ⟨s0, s1, s2, f0, f1, f2⟩ := own3 b46
    have hgx := hgl
    clear z0 z1 z2 q0 q1 q2 hx5 b46 b56 hO6 ho6 hR6 hR4 b44 b54 hO4 hgl
    go_wp2_with fail
    refine bodyPost_ret (v := .agg #[.int .i64 k, .int .i64 y, .slice B ks.length c]) (by simp [results, Try.results73, go_sem, s0, s1, s2]) rfl ⟨.mk k y ks, _, rfl, by simp only [cnt]; omega, ?_, ?_, ?_⟩
    · exact ((((From.mk k y hK7 hl1 hl2).set (by simp) _).set (by simp) _).set (by simp) _).since (by omega)
    · exact ((hR7.set (by show g < w.heap.size + 1; omega) _).set (by show g < w.heap.size + 1; omega) _).set (by show g < w.heap.size + 1; omega) _
    · exact ((hO7.setNew (by simp) _).setNew (by simp) _).setNew (by simp) _
  by_cases h2 : x = 2
  · subst h2
    obtain ⟨i0, hi, hz0, hz1, hz2⟩ := info_parts infoPCode
    have hv4 := cell_of_blk b54 2
    have HB5 := Lib.hid b54
    have HB4 := Lib.hid b44
    have hg5n : g5 < w4.heap.size := lt_of_blk b54
    have hks5 : ks.length < 1099511627776 := by omega
    have hWw : w.heap.size + 1 < W.heap.size := by omega
    clear b54 b44 h0 h1
    go_wp2_with fail
    go_region_law (first
      | (go_simp; go_at_call 140; refine (l12Leaf_any _ 4).mono ?_; rintro e w5 ⟨A9, c9, rfl, l9, e5⟩; have e5' : Ext w4 w5 := ((Ext.refl w4).drew).trans e5; have b55 := e5'.blk HB5.out; have hv5 := cell_of_blk b55 2; have hs55 : g5 < w5.heap.size := lt_of_blk b55)
      | (refine step_append_treeX _ (by rfl) (.tmp 25) (.tmp 27) _ (by rfl) 28 i0 _ Try.underlying26 hi hz0 hz1 hz2 rfl (by rfl) (X := fun b => b < W.heap.size ∨ b = g5) (W := W) (tr := .mk 4 0 []) (HG.out.ext (e5'.trans ((Ext.refl w5).alloc _))) (by have := e5'.size; simp; omega) (InT.mk_iff.2 ⟨A9, c9, rfl, Nat.zero_le _, l9, .inl rfl⟩) (by rfl) (heap_alloc_new _ _) hks5 ?_; intro v' w6 hG6 hB6 hg6 ho6; obtain ⟨B6, c6, rfl, r1, r2, hK6⟩ := hG6.liesX (fun b hb => by rcases ho6 b hb with h | h; exact HNX.out b h; (have := e5'.size; simp at h; omega)); have b66 := (hg6.block g5 (by simp; omega) (fun he => by have := HOW.out g5 he.symm; omega)).trans (((Ext.refl w5).alloc (.cells #[.int .i64 4, .int .i64 0, .slice A9 0 c9] 28)).blk b55); have hv6 := cell_of_blk b66 2; have hf6 := frozen_of_blk b66 2))
    all_goals (
      have b46 := (hB6.block (w.heap.size + 1) (by omega)).trans (((Ext.refl w5).alloc (.cells #[.int .i64 4, .int .i64 0, .slice A9 0 c9] 28)).blk (e5'.blk HB4.out))
      have hO6 : Only [g] w w6 := ((hO4.trans (Only.of_ext (L := [g]) e5')).trans (Only.of_ext (L := [g]) ((Ext.refl w5).alloc (.cells #[.int .i64 4, .int .i64 0, .slice A9 0 c9] 28)))).below hB6 (by omega)
      have hR6 : Rd w6 g (m + 1) := ((hR4.ext e5').ext ((Ext.refl w5).alloc (.cells #[.int .i64 4, .int .i64 0, .slice A9 0 c9] 28))).under hB6 (by omega)
      rw [List.length_append, List.length_singleton] at r1
      have HK6 := Lib.hid hK6
      have hlen2 : (ks ++ [Tr.mk 4 0 []]).length = ks.length + 1 := by simp
      have HL2 := Lib.hid hlen2
      obtain ⟨y0, y1, y2, p0, p1, p2⟩ := own3 b66
      obtain ⟨s0, s1, s2, f0, f1, f2⟩ := own3 b46
      have hgx := hgl
      clear hlen2 hK6 hB6 hg6 ho6 b46 b66 hG6 b55 hv5 hv4 hgl
      go_wp2_with fail
      refine bodyPost_ret (v := .agg #[.int .i64 k, .int .i64 n, .slice B6 (ks.length + 1) c6]) (by simp [results, Try.results73, go_sem, s0, s1, s2]) rfl ⟨.mk k n (ks ++ [.mk 4 0 []]), _, rfl, by simp only [cnt, cnts_append, cnts]; omega, ?_, ?_, ?_⟩
      · have hF7 : FromK (w.heap.size + 2) (w6.setCell ⟨g5, 2, none⟩ (.slice B6 (ks.length + 1) c6)) B6 (ks ++ [.mk 4 0 []]) := HK6.out.mono (fun b hb => ⟨by omega, by simpa using hb.1⟩) (fun b hb => Below.heap_setCell _ _ _ _ (by show b ≠ g5; omega))
        have hF8 := From.mk k n hF7 (by rw [HL2.out]; exact r1) r2
        rw [HL2.out] at hF8
        exact (((hF8.set (by simp) _).set (by simp) _).set (by simp) _).since (by omega)
      · exact (((((hR6.mono (by omega)).set (by show g < g5; omega) _).set (by show g < w.heap.size + 1; omega) _).set (by show g < w.heap.size + 1; omega) _).set (by show g < w.heap.size + 1; omega) _)
      · exact ((((hO6.setNew (by show w.heap.size ≤ g5; omega) _).setNew (by simp) _).setNew (by simp) _).setNew (by simp) _))
  by_cases h3 : x = 3
  · subst h3
    have hFr : From (w.heap.size + 2) w4 (.mk k n ks) (.agg #[.int .i64 k, .int .i64 n, .slice B ks.length c]) := From.mk k n (HK.out w4 (Nat.le_refl _) (fun _ _ _ _ => rfl)) hl1 hl2
    obtain ⟨y0, y1, y2, p0, p1, p2⟩ := own3 b54
    clear h0 h1 h2
    go_wp2_with fail
    refine (l12Node_fromB (w.heap.size + 2) _ 8 _ 1 [.mk k n ks] (by intro h; cases h) (FromK.one (g := w4.heap.size) (e := 28) hFr (by omega) rfl) (by simp; omega) (by simp)).mono ?_
    rintro e w6 ⟨u, rfl, hN, e6⟩
    obtain ⟨k6, n6, A6, l6, c6, rfl⟩ := hN.three
    have hx6 := ((Ext.refl w4).alloc (.cells #[.int .i64 k, .int .i64 n, .slice B ks.length c] 28)).trans e6
    have hO6 := hO4.trans (Only.of_ext (L := [g]) hx6)
    have hR6 : Rd w6 g (m + 2) := (hR4.ext hx6).mono (by omega)
    obtain ⟨s0, s1, s2, f0, f1, f2⟩ := own3 (hx6.blk b44)
    have hgx := hgl
    clear y0 y1 y2 p0 p1 p2 hgl b44 b54 hFr hR4
    go_wp2_with fail
    refine bodyPost_ret (v := .agg #[.int .i64 k6, .int .i64 n6, .slice A6 l6 c6]) (by simp [results, Try.results73, go_sem, s0, s1, s2]) rfl ⟨.mk 8 0 [.mk k n ks], _, rfl, by simp only [cnt, cnts]; omega, ?_, ?_, ?_⟩
    · exact (((hN.set (by simp) _).set (by simp) _).set (by simp) _).since (by omega)
    · exact ((hR6.set (by show g < w.heap.size + 1; omega) _).set (by show g < w.heap.size + 1; omega) _).set (by show g < w.heap.size + 1; omega) _
    · exact ((hO6.setNew (by simp) _).setNew (by simp) _).setNew (by simp) _
  by_cases h4 : x = 4
  · subst h4
    clear h0 h1 h2 h3 HK HG
    go_wp2_with fail
    refine (l12Leaf_any _ 10).mono ?_
    rintro e w5 ⟨A9, c9, rfl, l9, e5⟩
    have hFr : From (w.heap.size + 2) w5 (.mk 10 0 []) (.agg #[.int .i64 10, .int .i64 0, .slice A9 0 c9]) := InT.mk_iff.2 ⟨A9, c9, rfl, Nat.zero_le _, l9, .inl rfl⟩
    go_wp2_with fail
    refine (l12Node_fromB (w.heap.size + 2) _ 5 _ 1 [.mk 10 0 []] (by intro h; cases h) (FromK.one (g := w5.heap.size) (e := 28) hFr (by have := e5.size; omega) rfl) (by have := e5.size; simp; omega) (by simp)).mono ?_
    rintro e w6 ⟨u, rfl, hN, e6⟩
    obtain ⟨k6, n6, A6, l6, c6, rfl⟩ := hN.three
    have hx6 := e5.trans (((Ext.refl w5).alloc (.cells #[.int .i64 10, .int .i64 0, .slice A9 0 c9] 28)).trans e6)
    have hO6 := hO4.trans (Only.of_ext (L := [g]) hx6)
    have hR6 : Rd w6 g (m + 2) := (hR4.ext hx6).mono (by omega)
    obtain ⟨s0, s1, s2, f0, f1, f2⟩ := own3 (hx6.blk b44)
    have hgx := hgl
    clear hgl b44 b54 hFr hR4
    go_wp2_with fail
    refine bodyPost_ret (v := .agg #[.int .i64 k6, .int .i64 n6, .slice A6 l6 c6]) (by simp [results, Try.results73, go_sem, s0, s1, s2]) rfl ⟨.mk 5 0 [.mk 10 0 []], _, rfl, by simp only [cnt, cnts]; omega, ?_, ?_, ?_⟩
    · exact (((hN.set (by simp) _).set (by simp) _).set (by simp) _).since (by omega)
    · exact ((hR6.set (by show g < w.heap.size + 1; omega) _).set (by show g < w.heap.size + 1; omega) _).set (by show g < w.heap.size + 1; omega) _
    · exact ((hO6.setNew (by simp) _).setNew (by simp) _).setNew (by simp) _
  have t0 : (x == 0) = false := beq_eq_false_iff_ne.2 h0
  have t1 : (x == 1) = false := beq_eq_false_iff_ne.2 h1
  have t2 : (x == 2) = false := beq_eq_false_iff_ne.2 h2
  have t3 : (x == 3) = false := beq_eq_false_iff_ne.2 h3
  have t4 : (x == 4) = false := beq_eq_false_iff_ne.2 h4
  have hK7 := HK.out w4 (Nat.le_refl _) (fun _ _ _ _ => rfl)
  have hR7 : Rd w4 g (m + 2) := hR4.mono (by omega)
  clear hR4 h0 h1 h2 h3 h4
  obtain ⟨s0, s1, s2, f0, f1, f2⟩ := own3 b44
  obtain ⟨x0, x1, x2, -, -, -⟩ := own3 b54
  have hgx := hgl
  clear hgl
  go_wp2_with fail
  refine bodyPost_ret (v := .agg #[.int .i64 k, .int .i64 n, .slice B ks.length c]) (by simp [results, Try.results73, go_sem, s0, s1, s2]) rfl ⟨.mk k n ks, _, rfl, by simp only [cnt]; omega, ?_, ?_, ?_⟩
  · exact ((((From.mk k n hK7 hl1 hl2).set (by simp) _).set (by simp) _).set (by simp) _).since (by omega)
  · exact ((hR7.set (by show g < w.heap.size + 1; omega) _).set (by show g < w.heap.size + 1; omega) _).set (by show g < w.heap.size + 1; omega) _
  · exact ((hO4.setNew (by simp) _).setNew (by simp) _).setNew (by simp) _
end Go.Proofs.Ytappakllopkfiaa

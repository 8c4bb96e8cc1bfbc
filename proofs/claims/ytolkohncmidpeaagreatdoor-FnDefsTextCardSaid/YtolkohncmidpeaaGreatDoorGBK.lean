/-
  Lemmas towards the law, 37: CopyTop, Draws2.
-/
import Derived.Test.YtolkohncmidpeaaGreatDoorGAS
import Derived.Test.YtolkohncmidpeaaGreatDoorGBJ
namespace Go.Proofs.YtolkohncmidpeaaGreatDoor
open Go.RowKit
set_option linter.unusedVariables false
attribute [local go_sem ↓] Go.wp_at_zero Go.wp_at_succ
theorem OwnL.rowL {w : World} {e : TypeId} {S : Nat → Prop} : ∀ {xs : List Value} {ks : List Tr} {L : List Nat}, OwnL w e xs ks L → (∀ b, b ∈ L → S b) → RowL w S xs ks
  | _, [], _, _, _ => RowL.nil
  | xs, t :: ts, L, h, hS => by
    obtain ⟨v0, v1, v2, rest, L1, L2, rfl, h1, h2, rfl⟩ := OwnL.cons_iff.1 h
    exact RowL.cons_iff.2 ⟨v0, v1, v2, rest, rfl, h1.inT.mono (fun b hb => hS b (by simp [hb])) (fun _ _ => rfl), OwnL.rowL h2 (fun b hb => hS b (by simp [hb]))⟩
theorem Grow.toS {W w : World} {e : TypeId} {v : Value} {ks : List Tr} (h : Grow W w e v ks) : GrowS (fun b => b < W.heap.size) W w e v ks := by
  obtain ⟨xs, L, h1, h2, h3, h4⟩ := h
  exact ⟨xs, h1, h2.rowL (fun b hb => ⟨(h3.2 b hb).2, fun he => h4 b he hb, by have := (h3.2 b hb).1; omega⟩)⟩
set_option maxRecDepth 100000 in
set_option maxHeartbeats 2000000 in
theorem l1Copy_top (k n : Int) (ks : List Tr) (w : World) (v : Value) (hin : Lies w (.mk k n ks) v) (hcnt : cnt (.mk k n ks) ≤ 1000000) :
  Calls Tryz.prog 96 #[v] w fun e w' => ∃ B c, e = .returned (.agg #[.int .i64 k, .int .i64 n, .slice B ks.length c]) ∧ (∃ W0 : World, w.heap.size ≤ W0.heap.size ∧ GrowS (fun b => b < W0.heap.size) W0 w' 45 (.slice B ks.length c) ks ∧ W0.heap.size ≤ w'.heap.size) ∧ Ext w w' := by
  obtain ⟨A, cap, rfl, hl, hc, hK⟩ := Lies.mk_iff.1 hin
  obtain ⟨i0, hi, hz0, hz1, hz2⟩ := info_parts infoPTerm
  have hcc := hc
  unfold maxLen at hcc
  simp only [cnt] at hcnt
  have hlc := len_le_cnts ks
  go_enter Tryz.func96, Tryz.ntmps96
  go_wp2_with fail
  obtain ⟨w1, hw1⟩ : ∃ w1, w1 = (w.alloc (.cells #[.int .i64 k, .int .i64 n, .slice A ks.length cap] 45)).alloc (.cells #[.int .i64 0, .int .i64 0, .slice none 0 0] 45) := ⟨_, rfl⟩
  obtain ⟨W, hW⟩ : ∃ W, W = w1.alloc (.cells #[.int .i64 k, .int .i64 n, .slice none 0 0] 45) := ⟨_, rfl⟩
  have hs1 : w1.heap.size = w.heap.size + 1 + 1 := by rw [hw1]; simp
  have hsW : W.heap.size = w.heap.size + 3 := by rw [hW]; simp; omega
  have hE1 : Ext w w1 := hw1 ▸ ((Ext.refl w).alloc _).alloc _
  have hEW : Ext w1 W := hW ▸ (Ext.refl w1).alloc _
  have hbR : w1.heap[w.heap.size + 1]? = some (.cells #[.int .i64 0, .int .i64 0, .slice none 0 0] 45 (0, 0)) := by
    rw [hw1]; exact (blk2 (Ext.refl _)).2.1
  have hbO : W.heap[w.heap.size + 1 + 1]? = some (.cells #[.int .i64 k, .int .i64 n, .slice none 0 0] 45 (0, 0)) := by
    have := heap_alloc_new w1 (.cells #[.int .i64 k, .int .i64 n, .slice none 0 0] 45)
    rw [hs1] at this
    rw [hW]
    exact this
  have hbT : w1.heap[w.heap.size]? = some (.cells #[.int .i64 k, .int .i64 n, .slice A ks.length cap] 45 (0, 0)) := by
    rw [hw1]; exact (blk2 (Ext.refl _)).1
  rw [← hw1, ← hW]
  clear hW hw1
  go_loopw [4] (fun i wr => ∃ (j : Nat) (v : Value), j ≤ ks.length ∧ i = .int .i64 j ∧ wr.heap[w.heap.size + 1 + 1]? = some (.cells #[.int .i64 k, .int .i64 n, v] 45 (0, 0)) ∧ Grow W wr 45 v (ks.take j) ∧ Ext w1 wr ∧ W.heap.size ≤ wr.heap.size) (fun i _ => ks.length - (intOf i).toNat)
  case atStart => exact ⟨0, _, Nat.zero_le _, rfl, hbO, Grow.nil _ _ _, hEW, Nat.le_refl _⟩
  case round =>
    obtain ⟨j, v, hj, rfl, hbv, hG, he, hle⟩ := hrel
    by_cases hlt : j < ks.length
    · obtain ⟨b, o, k', n', A', cap', kids, rfl, HK, c0, c1, c2, hkl, hkc, hK', hin', hmem⟩ := hK.get (hE1.trans he) hlt
      have htk := List.take_append_getElem hlt
      rw [HK.out] at htk
      have hcm := cnt_mem hmem
      have hlen : (ks.take j).length < 1099511627776 := by rw [List.length_take]; omega
      have hlj : (ks.take j).length = j := by rw [List.length_take]; omega
      have HL := Lib.hid hlj
      have hbT2 := he.blk hbT
      obtain ⟨-, -, t2, -, -, -⟩ := own3 hbT2
      have hj' : (j : Int) < (ks.length : Int) := by omega
      go_wp2_with fail
      have hle2 := hle
      have hG2 := hG
      have hbv2 := hbv
      have hv := cell_of_blk hbv2 2
      have hcells : ∀ w', Below W.heap.size wr w' → w'.heap[w.heap.size + 1 + 1]? = some (.cells #[.int .i64 k, .int .i64 n, v] 45 (0, 0)) := fun w' hB => (hB.block (w.heap.size + 1 + 1) (by omega)).trans hbv2
      have HCells := Lib.hid hcells
      have hEd : Ext wr wr.drew := (Ext.refl wr).drew
      have hinD := hin'.ext hEd
      have he2 := he
      clear hcells hlj hbv hG he hle hcc
      go_region_law (first | (go_simp; go_at_call 96; refine (l1Copy_any _ _ _ hinD (by omega)).mono ?_; rintro e w4 ⟨u, rfl, hM, h4⟩; obtain ⟨a1, a2, a3, a4, a5, rfl⟩ := hM.three'; have hv4 := cell_of_blk (HCells.out _ ((hEd.trans h4).below hle2)) 2; have hs4 := World.block_lt_of_cell? _ _ hv4) | (refine step_append_tree _ (by rfl) (.tmp 18) (.tmp 25) _ (by rfl) 45 i0 _ Tryz.underlying43 hi hz0 hz1 hz2 rfl (by rfl) hG2 hle2 (hEd.trans h4) (hM.since (Nat.le_refl _)) ((Ext.refl _).alloc _) (by rfl) (heap_alloc_new _ _) hlen ?_; intro v' w5 hG5 hB5; obtain ⟨B5, c5, rfl, q1, q2, -⟩ := hG5.made; have hv5 := cell_of_blk (HCells.out _ hB5) 2; have hf5 := frozen_of_blk (HCells.out _ hB5) 2))
      all_goals (
        have hE5 : Ext w1 w5 := he2.trans' hB5 (by omega)
        have hs5 := hB5.size
        have hb6 := HCells.out _ hB5
        rw [List.length_append, List.length_singleton, htk, show (ks.take j).length + 1 = min (j + 1) ks.length from by rw [List.length_take]; omega] at hG5
        have hGs := fun u => hG5.after ((Above.refl W.heap.size w5).setCell (p := ⟨w.heap.size + 1 + 1, 2, none⟩) (by show w.heap.size + 1 + 1 < W.heap.size; omega) u)
        clear hv4 hs4 hv HCells hM h4 c0 c1 c2 t2
        go_wp2_with fail
        go_roundw
        case rel => exact ⟨j + 1, _, by omega, by go_num, blk_setCell hb6 2 _, hGs _, hE5.setCell (by show _ ≤ w.heap.size + 1 + 1; omega) _, by simp; omega⟩
        case measure => simp [intOf]; omega)
    · obtain ⟨B5, c5, rfl, q1, q2, hMK⟩ := hG.made
      have hGS := hG.toS
      have hjl : j = ks.length := by omega
      have hln : (ks.take j).length = ks.length := by rw [hjl, List.take_length]
      obtain ⟨r0, r1, r2, -, -, -⟩ := own3 hbv
      have hbT2 := he.blk hbT
      obtain ⟨-, -, t2, -, -, -⟩ := own3 hbT2
      have hbR' := he.blk hbR
      obtain ⟨s0, s1, s2, f0, f1, f2⟩ := own3 hbR'
      rw [hln] at q1 r2
      rw [show ks.take j = ks from by rw [hjl, List.take_length]] at hMK
      rw [hln] at hGS
      clear hln hbv
      go_wp2_with fail
      refine bodyPost_ret (v := .agg #[.int .i64 k, .int .i64 n, .slice B5 ks.length c5]) (by simp [results, Tryz.results96, go_sem, s0, s1, s2]) rfl ⟨B5, c5, rfl, ⟨W, by omega, ?_, by simp; omega⟩, ?_⟩
      · rw [show ks.take j = ks from by rw [hjl, List.take_length]] at hGS
        exact ((hGS.only (Only.one _ (w.heap.size + 1) 0 _) (by intro b hb; rw [List.mem_singleton.1 hb]; omega) (fun b hb => hb)).only (Only.one _ (w.heap.size + 1) 1 _) (by intro b hb; rw [List.mem_singleton.1 hb]; omega) (fun b hb => hb)).only (Only.one _ (w.heap.size + 1) 2 _) (by intro b hb; rw [List.mem_singleton.1 hb]; omega) (fun b hb => hb)
      · exact ((((hE1.trans he).setCell (by simp) _).setCell (by simp) _).setCell (by simp) _)
end Go.Proofs.YtolkohncmidpeaaGreatDoor
namespace Go.Proofs.YtolkohncmidpeaaGreatDoor
open Go.RowKit
set_option linter.unusedVariables false
attribute [local go_sem ↓] Go.wp_at_zero Go.wp_at_succ
theorem nd_le4 : ∀ d, d ≤ 4 → nd d ≤ 1023
  | 0, _ => by decide
  | 1, _ => by decide
  | 2, _ => by decide
  | 3, _ => by decide
  | 4, _ => by decide
theorem valid_zero : valid sigT (.mk 7 0 []) = true := by decide
set_option maxRecDepth 100000 in
theorem l1Any_any (w : World) (g m : Nat) (hR : Rd w g m) (hm : m < 900000) : Calls Tryz.prog 112 #[.pointer (some ⟨g, 0, none⟩)] w fun e w' => ∃ t u, e = .returned u ∧ valid sigT t = true ∧ From w.heap.size w' t u ∧ Rd w' g (m + 1024) ∧ Only [g] w w' := by
  have hgl := hR.lt
  have hx0 := ((Ext.refl w).alloc (.cells #[.int .i64 0, .int .i64 0, .slice none 0 0] 45)).alloc (.cells #[.int .i64 3, .int .i64 4, .int .i64 2, .int .i64 3, .int .i64 1] 3)
  obtain ⟨b40, b50, -⟩ := blk2 (Ext.refl ((w.alloc (.cells #[.int .i64 0, .int .i64 0, .slice none 0 0] 45)).alloc (.cells #[.int .i64 3, .int .i64 4, .int .i64 2, .int .i64 3, .int .i64 1] 3)))
  have hN := nums_lit (w := w.alloc (.cells #[.int .i64 0, .int .i64 0, .slice none 0 0] 45)) (cs := #[.int .i64 3, .int .i64 4, .int .i64 2, .int .i64 3, .int .i64 1]) (e := 3) (ns := [3, 4, 2, 3, 1]) rfl
  rw [World.size_alloc] at hN
  go_enter Tryz.func112, Tryz.ntmps112
  go_wp2_with fail
  generalize (w.alloc _).alloc _ = w0 at hx0 b40 b50 hN
  refine (num_any _ g m (hR.ext hx0) (by omega) _ 5 [3, 4, 2, 3, 1] (by simp) (by decide) (by simp) hN (by intro b o hb; simp at hb; omega)).mono ?_
  rintro e w1 ⟨d, rfl, hmem, hR1, ho1⟩
  obtain ⟨dn, rfl, hd4⟩ : ∃ dn : Nat, d = dn ∧ dn ≤ 4 := by
    simp only [List.mem_cons, List.not_mem_nil, or_false] at hmem
    exact ⟨d.toNat, by omega, by omega⟩
  have hnd := nd_le4 dn hd4
  have b41 := ho1.keepBlk b40 (by simp; omega)
  have hO1 := (Only.of_ext (L := [g]) hx0).trans ho1
  clear hmem hN b50 b40
  go_wp2_with fail
  refine (l1Draw_any dn hd4 _ g _ hR1 (by omega)).mono ?_
  rintro e w2 ⟨t, u, rfl, hF, hR2, ho2⟩
  obtain ⟨k0, n0, A0, l0, c0, rfl⟩ := hF.three
  have b42 := ho2.keepBlk b41 (by simp; omega)
  have hO2 := hO1.trans ho2
  have hx3 := (Ext.refl w2).alloc (.cells #[.int .i64 k0, .int .i64 n0, .slice A0 l0 c0] 45)
  have hbT := heap_alloc_new w2 (.cells #[.int .i64 k0, .int .i64 n0, .slice A0 l0 c0] 45)
  have hFx := (hF.ext hx3).since (show w.heap.size + 1 ≤ w1.heap.size from lt_of_blk b41)
  have b43 := hx3.blk b42
  have hO3 := hO2.trans (Only.of_ext (L := [g]) hx3)
  have hR3 := hR2.ext hx3
  clear b41 b42 hO1 hO2 hF hR1
  go_wp2_with fail
  refine (specValidTerm t _ _ hFx.lies).mono ?_
  obtain ⟨vt, hvt⟩ : ∃ vt, vt = valid sigT t := ⟨_, rfl⟩
  rw [← hvt]
  rintro e w4 ⟨rfl, e4⟩
  have hF4 := hFx.ext e4
  obtain ⟨s0, s1, s2, f0, f1, f2⟩ := own3 (e4.blk b43)
  obtain ⟨x0, x1, x2, -, -, -⟩ := own3 (e4.blk hbT)
  have hO4 := hO3.trans (Only.of_ext (L := [g]) e4)
  have hR4 := hR3.ext e4
  have HV := Lib.hid hvt
  clear hvt hbT hR3 hO3 hR2
  cases vt with
  | true =>
    go_wp2_with fail
    refine bodyPost_ret (v := .agg #[.int .i64 k0, .int .i64 n0, .slice A0 l0 c0]) (by simp [results, Tryz.results112, go_sem, s0, s1, s2]) rfl ⟨t, _, rfl, HV.out.symm, ?_, ?_, ?_⟩
    · exact (((hF4.set (by simp) _).set (by simp) _).set (by simp) _).since (by omega)
    · exact (((hR4.mono (by omega)).set (by simpa using hgl) _).set (by simpa using hgl) _).set (by simpa using hgl) _
    · exact ((hO4.setNew (by simp) _).setNew (by simp) _).setNew (by simp) _
  | false =>
    have b44 := e4.blk b43
    clear s0 s1 s2 f0 f1 f2
    go_wp2_with fail
    refine (l1Leaf_any _ 7 0).mono ?_
    rintro e w5 ⟨rfl, e5⟩
    obtain ⟨s0, s1, s2, f0, f1, f2⟩ := own3 (e5.blk b44)
    have hO5 := hO4.trans (Only.of_ext (L := [g]) e5)
    have hR5 := hR4.ext e5
    go_wp2_with fail
    refine bodyPost_ret (v := .agg #[.int .i64 7, .int .i64 0, .slice none 0 0]) (by simp [results, Tryz.results112, go_sem, s0, s1, s2]) rfl ⟨.mk 7 0 [], _, rfl, valid_zero, From.leaf _ _ _ _, ?_, ?_⟩
    · exact (((hR5.mono (by omega)).set (by simpa using hgl) _).set (by simpa using hgl) _).set (by simpa using hgl) _
    · exact ((hO5.setNew (by simp) _).setNew (by simp) _).setNew (by simp) _
end Go.Proofs.YtolkohncmidpeaaGreatDoor

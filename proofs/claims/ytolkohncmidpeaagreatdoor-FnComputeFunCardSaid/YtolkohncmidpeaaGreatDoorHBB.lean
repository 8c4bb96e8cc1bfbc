/-
  Lemmas towards the law, 28: HeadP, Put3.
-/
import Derived.Test.YtolkohncmidpeaaGreatDoorHAR
import Derived.Test.YtolkohncmidpeaaGreatDoorHAW
namespace Go.Proofs.YtolkohncmidpeaaGreatDoor
open Go.RowKit
set_option linter.unusedVariables false
theorem conA_nil (t : Tr) : conA t [] = ctrT t := by
  cases t
  simp [conA, atT, putA]
theorem conA_cons {k n : Int} {ks : List Tr} {i : Nat} {p : List Int} (hi : i < ks.length) (h : rdxA (kd ks i) p = true) : conA (.mk k n ks) ((i : Int) :: p) = .mk k n (ks.set i (conA (kd ks i) p)) := by
  obtain ⟨u, h1, h2⟩ := rdxA_some h
  unfold conA
  rw [show atT (.mk k n ks) ((i : Int) :: p) = atT (kd ks i) p by simp [atT, hi], h1]
  simp [putA]
end Go.Proofs.YtolkohncmidpeaaGreatDoor
namespace Go.Proofs.YtolkohncmidpeaaGreatDoor
open Go.RowKit
set_option linter.unusedVariables false
attribute [local go_sem ↓] Go.wp_at_zero Go.wp_at_succ
theorem infoTermQ : (Tryz.prog.info? 45).map (fun i => (i.zero, i.size, i.bytes)) = some (some (.agg #[.int .i64 0, .int .i64 0, .slice none 0 0]), 3, 40) := by kernel_rfl
theorem take_set_lt {ks : List Tr} {j m : Nat} (x : Tr) (h : j < ks.length) (hne : j ≠ m) : (ks.set m x).take (j + 1) = (ks.set m x).take j ++ [ks[j]] := by
  have h' : j < (ks.set m x).length := by rw [List.length_set]; exact h
  rw [← List.take_append_getElem h', List.getElem_set_ne (by omega)]
theorem take_set_eq {ks : List Tr} {m : Nat} (x : Tr) (h : m < ks.length) : (ks.set m x).take (m + 1) = (ks.set m x).take m ++ [x] := by
  have h' : m < (ks.set m x).length := by rw [List.length_set]; exact h
  rw [← List.take_append_getElem h', List.getElem_set_self]
set_option maxRecDepth 100000 in
set_option maxHeartbeats 4000000 in
theorem l3WithS_any (k n : Int) (ks : List Tr) (kid : Tr) (m : Nat) (Sk : Nat → Prop) (w : World) (v vk : Value) (hin : Lies w (.mk k n ks) v) (hSk : ∀ b, Sk b → b < w.heap.size) (hkid : InT w Sk kid vk) (hm : m < ks.length) (hcnt : cnt (.mk k n ks) ≤ 1000000) :
  Calls Tryz.prog 163 #[v, .int .i64 m, vk] w fun e w' => ∃ x, e = .returned x ∧ InT w' (fun b => Sk b ∨ w.heap.size + 4 ≤ b ∧ b < w'.heap.size) (.mk k n (ks.set m kid)) x ∧ Ext w w' := by
  obtain ⟨A, cap, rfl, hl, hc, hK⟩ := Lies.mk_iff.1 hin
  obtain ⟨d1, d2, d3, d4, d5, rfl⟩ := Lies.three (InT.mono hSk (fun _ _ => rfl) hkid)
  obtain ⟨i0, hi, hz0, hz1, hz2⟩ := info_parts infoTermQ
  have hcc := hc
  unfold maxLen at hcc
  simp only [cnt] at hcnt
  have hlc := len_le_cnts ks
  go_enter Tryz.func163, Tryz.ntmps163
  go_wp2_with fail
  obtain ⟨w1, hw1⟩ : ∃ w1, w1 = ((w.alloc (.cells #[.int .i64 k, .int .i64 n, .slice A ks.length cap] 45)).alloc (.cells #[.int .i64 d1, .int .i64 d2, .slice d3 d4 d5] 45)).alloc (.cells #[.int .i64 0, .int .i64 0, .slice none 0 0] 45) := ⟨_, rfl⟩
  obtain ⟨W, hW⟩ : ∃ W, W = w1.alloc (.cells #[.int .i64 k, .int .i64 n, .slice none 0 0] 45) := ⟨_, rfl⟩
  have hs1 : w1.heap.size = w.heap.size + 3 := by rw [hw1]; simp
  have hsW : W.heap.size = w.heap.size + 4 := by rw [hW]; simp; omega
  have hE1 : Ext w w1 := hw1 ▸ (((Ext.refl w).alloc _).alloc _).alloc _
  have hEW : Ext w1 W := hW ▸ (Ext.refl w1).alloc _
  obtain ⟨hbT, hbU, hbR, -⟩ : w1.heap[w.heap.size]? = some (.cells #[.int .i64 k, .int .i64 n, .slice A ks.length cap] 45 (0, 0)) ∧ w1.heap[w.heap.size + 1]? = some (.cells #[.int .i64 d1, .int .i64 d2, .slice d3 d4 d5] 45 (0, 0)) ∧ w1.heap[w.heap.size + 1 + 1]? = some (.cells #[.int .i64 0, .int .i64 0, .slice none 0 0] 45 (0, 0)) ∧ True := by
    rw [hw1]; exact ⟨(blk3 (Ext.refl _)).1, (blk3 (Ext.refl _)).2.1, (blk3 (Ext.refl _)).2.2.1, trivial⟩
  have hbO : W.heap[w.heap.size + 1 + 1 + 1]? = some (.cells #[.int .i64 k, .int .i64 n, .slice none 0 0] 45 (0, 0)) := by
    have := heap_alloc_new w1 (.cells #[.int .i64 k, .int .i64 n, .slice none 0 0] 45)
    rw [hs1] at this
    rw [hW]
    exact this
  rw [← hw1, ← hW]
  have hsWa : w.heap.size + 4 ≤ W.heap.size := by omega
  have hsWb : W.heap.size ≤ w.heap.size + 4 := by omega
  have hs1a : w.heap.size + 3 ≤ w1.heap.size := by omega
  have hs1b : w1.heap.size ≤ w.heap.size + 3 := by omega
  clear hW hw1 hsW hs1
  have hXW : ∀ b, ((b < w.heap.size ∧ ¬ Sk b) ∨ w.heap.size ≤ b ∧ b < W.heap.size) → b < W.heap.size := fun b hb => by rcases hb with hb | hb <;> omega
  go_loopw [8] (fun i wr => ∃ (j : Nat) (v : Value), j ≤ ks.length ∧ i = .int .i64 j ∧ wr.heap[w.heap.size + 1 + 1 + 1]? = some (.cells #[.int .i64 k, .int .i64 n, v] 45 (0, 0)) ∧ GrowS (fun b => (b < w.heap.size ∧ ¬ Sk b) ∨ w.heap.size ≤ b ∧ b < W.heap.size) W wr 45 v ((ks.set m kid).take j) ∧ Ext w1 wr ∧ W.heap.size ≤ wr.heap.size) (fun i _ => ks.length - (intOf i).toNat)
  case atStart => exact ⟨0, _, Nat.zero_le _, rfl, hbO, GrowS.nil _ _ _ _, hEW, Nat.le_refl _⟩
  case round =>
    obtain ⟨j, v, hj, rfl, hbv, hG, he, hle⟩ := hrel
    by_cases hlt : j < ks.length
    · have hlen : ((ks.set m kid).take j).length < 1099511627776 := by rw [List.length_take]; omega
      obtain ⟨-, -, t2, -, -, -⟩ := own3 (he.blk hbT)
      obtain ⟨u0, u1, u2, -, -, -⟩ := own3 (he.blk hbU)
      have hj' : (j : Int) < (ks.length : Int) := by omega
      have hv := cell_of_blk hbv 2
      have hfv := frozen_of_blk hbv 2
      have hown : ∀ q, v.ownBlock = some q → W.heap.size ≤ q ∧ q < wr.heap.size := by
        obtain ⟨xs, g1, -⟩ := hG
        exact fun q hq => g1.lt q hq
      have HOWN := Lib.hid hown
      have hwrb : w.heap.size + 1 + 1 + 1 < wr.heap.size := lt_of_blk hbv
      have hlt1 : w.heap.size + 1 < wr.heap.size := by omega
      by_cases hjm : j = m
      · subst hjm
        have hjb : ((j : Int) == (j : Int)) = true := by simp
        have htk := take_set_eq kid hlt
        have HTK := Lib.hid htk
        have hxk := (Ext.refl wr).alloc (.cells #[.int .i64 d1, .int .i64 d2, .slice d3 d4 d5] 45)
        have hGk := hG.ext hxk
        have hTk : InT (wr.alloc (.cells #[.int .i64 d1, .int .i64 d2, .slice d3 d4 d5] 45)) (fun b => b < (wr.alloc (.cells #[.int .i64 d1, .int .i64 d2, .slice d3 d4 d5] 45)).heap.size ∧ v.ownBlock ≠ some b ∧ ¬ ((b < w.heap.size ∧ ¬ Sk b) ∨ w.heap.size ≤ b ∧ b < W.heap.size)) kid (.agg #[.int .i64 d1, .int .i64 d2, .slice d3 d4 d5]) := InT.mono (fun y hy => by
          have h2 : y < w.heap.size := hSk y hy
          exact ⟨by simp; omega, fun hh => by have := (HOWN.out y hh).1; omega, fun hx => by rcases hx with hx | hx; exact hx.2 hy; omega⟩) (fun y hy => ((hE1.trans he).trans hxk).heap y (hSk y hy)) hkid
        have HBV := Lib.hid (hxk.blk hbv)
        have HG := Lib.hid hGk
        have HT := Lib.hid hTk
        clear hown hG hGk hTk htk hbv
        go_wp2_with (at_builtin; refine wpList_append_treeS _ rfl (.tmp 25) (.tmp 27) _ (by rfl) 45 i0 _ Tryz.underlying43 hi hz0 hz1 hz2 rfl (by rfl) (W := W) HG.out (by have := hxk.size; omega) HT.out (by rfl) (heap_alloc_new _ _) hlen ?_ hXW)
        intro v' w5 hG5 hB5
        have hE5 : Ext w1 w5 := (he.trans hxk).trans' hB5 (by omega)
        have hs5 := hB5.size
        have hb6 := (hB5.block (w.heap.size + 1 + 1 + 1) (by omega)).trans HBV.out
        rw [← HTK.out] at hG5
        obtain ⟨B5, c5, rfl, -, -, -, -⟩ := hG5.lies hXW
        obtain ⟨l5, hl5⟩ : ∃ l, ((ks.set j kid).take (j + 1)).length = l := ⟨_, rfl⟩
        rw [hl5] at hG5 ⊢
        clear hl5
        have hsz5 : W.heap.size ≤ w5.heap.size := by have := hxk.size; omega
        have hv5 := cell_of_blk hb6 2
        have hf5 := frozen_of_blk hb6 2
        have HG5 := Lib.hid hG5
        clear hv hfv t2 u0 u1 u2 hG5 hlen
        go_wp2_with fail
        go_roundw
        case rel => exact ⟨j + 1, _, by omega, by go_num, blk_setCell hb6 2 _, HG5.out.only (Only.one w5 (w.heap.size + 1 + 1 + 1) 2 _) (by intro b hb; rw [List.mem_singleton.1 hb]; exact .inr ⟨by omega, by omega⟩) hXW, hE5.setCell (by show _ ≤ w.heap.size + 1 + 1 + 1; omega) _, by simpa using hsz5⟩
        case measure => simp [intOf]; omega
      · have hjb : ((j : Int) == (m : Int)) = false := beq_eq_false_iff_ne.2 (by omega)
        obtain ⟨b, o, k', n', A', cap', kids, rfl, HK, c0, c1, c2, hkl, hkc, hK', hin', hmem⟩ := hK.get (hE1.trans he) hlt
        have htk := take_set_lt kid hlt hjm
        rw [HK.out] at htk
        have HTK := Lib.hid htk
        have hcm := cnt_mem hmem
        have hEd : Ext wr wr.drew := (Ext.refl wr).drew
        have hinD := hin'.ext hEd
        have hcells : ∀ w', Below W.heap.size wr w' → w'.heap[w.heap.size + 1 + 1 + 1]? = some (.cells #[.int .i64 k, .int .i64 n, v] 45 (0, 0)) := fun w' hB => (hB.block (w.heap.size + 1 + 1 + 1) (by omega)).trans hbv
        have HCells := Lib.hid hcells
        have HG := Lib.hid hG
        go_wp2_with fail
        clear hcells hbv hG hown htk hcc u0 u1 u2
        go_region_law (first | (go_simp; go_at_call 96; refine (l1Copy_any _ _ _ hinD (by omega)).mono ?_; rintro e w4 ⟨u, rfl, hM, h4⟩; obtain ⟨a1, a2, a3, a4, a5, rfl⟩ := hM.three'; have hv4 := cell_of_blk (HCells.out _ ((hEd.trans h4).below hle)) 2; have hs4 := World.block_lt_of_cell? _ _ hv4) | (refine step_append_treeS _ (by rfl) (.tmp 31) (.tmp 38) _ (by rfl) 45 i0 _ Tryz.underlying43 hi hz0 hz1 hz2 rfl (by rfl) (X := fun b => (b < w.heap.size ∧ ¬ Sk b) ∨ w.heap.size ≤ b ∧ b < W.heap.size) (W := W) (tr := .mk k' n' kids) (HG.out.ext ((hEd.trans h4).trans ((Ext.refl w4).alloc _))) (by have := (hEd.trans h4).size; simp; omega) (InT.mono (fun y hy => ⟨by have h9 := hy.2; simp; omega, fun hh => by have h9 : wr.heap.size ≤ y := hy.1; have := (HOWN.out y hh).2; omega, by have h9 : wr.heap.size ≤ y := hy.1; omega⟩) (fun y hy => ((Ext.refl w4).alloc _).heap y hy.2) (From.made hM)) (by rfl) (heap_alloc_new _ _) hlen ?_ hXW; intro v' w5 hG5 hB5; obtain ⟨B5, c5, rfl, -, -, -, -⟩ := hG5.lies hXW; obtain ⟨l5, hl5⟩ : ∃ l, ((ks.set m kid).take j ++ [Tr.mk k' n' kids]).length = l := ⟨_, rfl⟩; rw [hl5] at hG5 ⊢; clear hl5; have hB5' : Below W.heap.size wr w5 := (((hEd.trans h4).trans ((Ext.refl w4).alloc _)).below hle).trans hB5; have hv5 := cell_of_blk (HCells.out _ hB5') 2; have hf5 := frozen_of_blk (HCells.out _ hB5') 2))
        all_goals (
          have hE5 : Ext w1 w5 := he.trans' hB5' (by omega)
          have hs5 := hB5'.size
          have hb6 := HCells.out _ hB5'
          rw [← HTK.out] at hG5
          have HG5 := Lib.hid hG5
          clear hv4 hs4 hv HCells hM h4 c0 c1 c2 t2 hG5 hB5 hB5' hfv
          go_wp2_with fail
          go_roundw
          case rel => exact ⟨j + 1, _, by omega, by go_num, blk_setCell hb6 2 _, HG5.out.only (Only.one w5 (w.heap.size + 1 + 1 + 1) 2 _) (by intro b hb; rw [List.mem_singleton.1 hb]; exact .inr ⟨by omega, by omega⟩) hXW, hE5.setCell (by show _ ≤ w.heap.size + 1 + 1 + 1; omega) _, by simp; omega⟩
          case measure => simp [intOf]; omega)
    · have hln : (ks.set m kid).take j = ks.set m kid := List.take_of_length_le (by rw [List.length_set]; omega)
      rw [hln] at hG
      obtain ⟨r0, r1, r2, -, -, -⟩ := own3 hbv
      obtain ⟨-, -, t2, -, -, -⟩ := own3 (he.blk hbT)
      obtain ⟨s0, s1, s2, f0, f1, f2⟩ := own3 (he.blk hbR)
      have hGr := fun (x0 x1 x2 : Value) => ((hG.only (Only.one _ (w.heap.size + 1 + 1) 0 x0) (by intro b hb; rw [List.mem_singleton.1 hb]; exact .inr ⟨by omega, by omega⟩) hXW).only (Only.one _ (w.heap.size + 1 + 1) 1 x1) (by intro b hb; rw [List.mem_singleton.1 hb]; exact .inr ⟨by omega, by omega⟩) hXW).only (Only.one _ (w.heap.size + 1 + 1) 2 x2) (by intro b hb; rw [List.mem_singleton.1 hb]; exact .inr ⟨by omega, by omega⟩) hXW
      obtain ⟨Bv, cv, rfl, q1, q2, -, -⟩ := hG.lies hXW
      have HGR := Lib.hid hGr
      have hE9 := hE1.trans he
      clear hGr hG hln hbv
      go_wp2_with fail
      refine bodyPost_ret (v := .agg #[.int .i64 k, .int .i64 n, .slice Bv ks.length cv]) (by simp [results, Tryz.results163, go_sem, s0, s1, s2]) rfl ⟨_, rfl, ?_, ?_⟩
      · obtain ⟨Bv', cv', he', q1', q2', hKK, -⟩ := (HGR.out (.int .i64 k) (.int .i64 n) (.slice Bv ks.length cv)).lies hXW
        simp only [Value.slice.injEq, true_and] at he'
        obtain ⟨rfl, rfl⟩ := he'
        have hKS := InK.mono (S' := fun b => Sk b ∨ w.heap.size + 4 ≤ b ∧ b < (((wr.setCell ⟨w.heap.size + 1 + 1, 0, none⟩ (.int .i64 k)).setCell ⟨w.heap.size + 1 + 1, 1, none⟩ (.int .i64 n)).setCell ⟨w.heap.size + 1 + 1, 2, none⟩ (.slice Bv ks.length cv)).heap.size) (fun y hy => by
          have h8 := hy.1
          have h9 : ¬ ((y < w.heap.size ∧ ¬ Sk y) ∨ w.heap.size ≤ y ∧ y < W.heap.size) := hy.2
          by_cases hys : Sk y
          · exact .inl hys
          · refine .inr ⟨?_, h8⟩
            by_cases h7 : y < w.heap.size
            · exact absurd (.inl ⟨h7, hys⟩) h9
            · have : ¬ (w.heap.size ≤ y ∧ y < W.heap.size) := fun h => h9 (.inr h)
              omega) (fun _ _ => rfl) hKK
        exact InT.mk_iff.2 ⟨_, _, by rw [List.length_set], by rw [List.length_set]; simpa using q1, q2, hKS⟩
      · exact ((hE9.setCell (by show _ ≤ w.heap.size + 1 + 1; omega) _).setCell (by show _ ≤ w.heap.size + 1 + 1; omega) _).setCell (by show _ ≤ w.heap.size + 1 + 1; omega) _
end Go.Proofs.YtolkohncmidpeaaGreatDoor

/-
  spec.l12Step.
-/
import Derived.Test.YtappakllopkfiaaRule2
import Derived.Test.YtappakllopkfiaaRow
import Derived.Deep.RegionLaw
import Derived.Deep.DrawnRows
namespace Go.Proofs.Ytappakllopkfiaa
open Go.RowKit
set_option linter.unusedVariables false
attribute [local go_sem ↓] Go.wp_at_zero Go.wp_at_succ

theorem take_set_ltS {ks : List Tr} {j m : Nat} (x : Tr) (h : j < ks.length) (hne : j ≠ m) : (ks.set m x).take (j + 1) = (ks.set m x).take j ++ [ks[j]] := by
  have h' : j < (ks.set m x).length := by rw [List.length_set]; exact h
  rw [← List.take_append_getElem h', List.getElem_set_ne (by omega)]
theorem take_set_eqS {ks : List Tr} {m : Nat} (x : Tr) (h : m < ks.length) : (ks.set m x).take (m + 1) = (ks.set m x).take m ++ [x] := by
  have h' : m < (ks.set m x).length := by rw [List.length_set]; exact h
  rw [← List.take_append_getElem h', List.getElem_set_self]
theorem only_oneS (w : World) (g i : Nat) (u : Value) : Only [g] w (w.setCell ⟨g, i, none⟩ u) := (Only.refl [g] w).setCell (by simp) u
def L12SC (t : Tr) : Prop := ∀ (d : Int) (w : World) (v : Value), shape sigC t d = true → cnt t ≤ 1000 → isV t = false → Lies w t v → Calls Try.prog 62 #[v] w (RulQ w (stp t))
set_option maxRecDepth 100000 in
set_option maxHeartbeats 16000000 in
theorem l12Step_any : ∀ t : Tr, L12SC t := Tr.ind fun k n ks hk => by
  intro d w v hsh hcn hiv hin
  obtain ⟨A, cap, rfl, hl, hc, hK⟩ := Lies.mk_iff.1 hin
  obtain ⟨hops, hn0, hn1, hsk⟩ := shape_kids' hsh
  obtain ⟨i0, hi, hz0, hz1, hz2⟩ := info_parts infoFi
  have hcc := hc
  unfold maxLen at hcc
  have hlc := len_le_cnts ks
  have hcn0 := hcn
  simp only [cnt] at hcn
  have hk2 : k ≠ 2 := fun h => by subst h; simp [isV] at hiv
  have hk2b : (k != 2) = true := by simp [hk2]
  have HIV := Lib.hid hiv
  have HRU := Lib.hid (fun W (hW : Ext w W) => l12Rule_any k n ks d hsh (by omega) W _ (hin.ext hW))
  have HN := Lib.hid (show 0 < ks.length → n = 0 from fun h => by
    have h1 : opsC k = (ks.length : Int) := hops
    have h2 : n ≤ mostC k := hn1
    unfold mostC at h2
    split at h2
    · rename_i h3
      subst h3
      have h4 : (0 : Int) = (ks.length : Int) := h1
      omega
    · omega)
  obtain ⟨w1, hw1⟩ : ∃ w1, w1 = (w.alloc (.cells #[.int .i64 k, .int .i64 n, .slice A ks.length cap] 28)).alloc (.cells #[.int .i64 0, .int .i64 0, .slice none 0 0] 28) := ⟨_, rfl⟩
  have hE1 : Ext w w1 := hw1 ▸ ((Ext.refl w).alloc _).alloc _
  have hbT : w1.heap[w.heap.size]? = some (.cells #[.int .i64 k, .int .i64 n, .slice A ks.length cap] 28 (0, 0)) := by rw [hw1]; exact (blk2 (Ext.refl _)).1
  have hbR : w1.heap[w.heap.size + 1]? = some (.cells #[.int .i64 0, .int .i64 0, .slice none 0 0] 28 (0, 0)) := by rw [hw1]; exact (blk2 (Ext.refl _)).2.1
  clear hsh hcn0 hiv hin hn0 hn1 hops
  go_enter Try.func62, Try.ntmps62
  go_wp2_with fail
  rw [← hw1]
  clear hw1
  go_loopw [4] (fun i wr => ∃ (j : Nat), j ≤ ks.length ∧ i = .int .i64 j ∧ (∀ i (h : i < ks.length), i < j → isV ks[i] = true) ∧ Ext w1 wr) (fun i _ => ks.length - (intOf i).toNat)
  case atStart => exact ⟨0, Nat.zero_le _, rfl, fun i _ h => by omega, Ext.refl _⟩
  case round =>
    obtain ⟨j, hj, rfl, hall, he⟩ := hrel
    have hbTr := he.blk hbT
    have hbRr := he.blk hbR
    have hER := hE1.trans he
    obtain ⟨z0, z1, z2, -, -, -⟩ := own3 hbTr
    have HALL := Lib.hid hall
    clear hall
    by_cases hlt : j < ks.length
    · obtain ⟨b, o, k', n', A', cap', kids, rfl, HK, c0, c1, c2, hkl, hkc, hK', hin', hmem⟩ := hK.get hER hlt
      have hcm := cnt_mem hmem
      have hj2 : (j : Int) < (ks.length : Int) := by omega
      have hj3 : (0 : Int) ≤ (j : Int) := Int.natCast_nonneg _
      have hd2 : decide ((j : Int) < (ks.length : Int)) = true := decide_eq_true hj2
      obtain ⟨vk, hvk⟩ : ∃ b, isV (.mk k' n' kids) = b := ⟨_, rfl⟩
      have HVK := Lib.hid (fun W (hW : Ext wr W) => l12Value_any (.mk k' n' kids) (d - 1) W _ (hsk _ hmem) (hin'.ext hW))
      rw [hvk] at HVK
      have HVB := Lib.hid hvk
      clear hvk
      go_wp2_with fail
      refine (HVK.out _ (Ext.refl _)).mono ?_
      cases vk with
      | true =>
        rintro e w6 ⟨rfl, h6⟩
        have HH := Lib.hid (he.trans h6)
        clear c0 c1 c2 z0 z1 z2 hbTr hbRr
        go_wp2_with fail
        go_roundw
        case rel =>
          refine ⟨j + 1, by omega, by go_num, fun i hi hij => ?_, HH.out⟩
          by_cases e : i = j
          · subst e; rw [HK.out]; exact HVB.out
          · exact HALL.out i hi (by omega)
        case measure => simp [intOf]; omega
      | false =>
        rintro e w6 ⟨rfl, h6⟩
        have hst := stps_first ks j hlt (fun i h => HALL.out i (by omega) h) (by rw [HK.out]; exact HVB.out)
        rw [HK.out] at hst
        have hsp := stp_of HIV.out hst
        have hE6 := hER.trans h6
        obtain ⟨y0, y1, y2, -, -, -⟩ := own3 (h6.blk hbTr)
        have c06 := h6.cell c0
        have c16 := h6.cell c1
        have c26 := h6.cell c2
        clear z0 z1 z2 c0 c1 c2
        go_wp2_with fail
        refine (hk _ hmem (d - 1) _ _ (hsk _ hmem) (by omega) HVB.out (hin'.ext h6)).mono ?_
        rintro e w7 ⟨a1, a2, a3, a4, a5, rfl, hN7, h7⟩
        obtain ⟨so, hso⟩ : ∃ so, stp (.mk k' n' kids) = so := ⟨_, rfl⟩
        rw [hso] at hN7 hsp ⊢
        have HSP := Lib.hid hsp
        have hE7 := hE6.trans h7
        have hbT7 := (h6.trans h7).blk hbTr
        have hbR7 := (h6.trans h7).blk hbRr
        clear hsp hst hso y0 y1 y2 c06 c16 c26
        cases so with
        | none =>
          obtain ⟨x0, x1, x2, -, -, -⟩ := own3 hbT7
          obtain ⟨r0, r1, r2, p0, p1, p2⟩ := own3 hbR7
          have hz7 : w.heap.size + 1 < w7.heap.size := lt_of_blk hbR7
          have hz8 : w.heap.size < w7.heap.size := by omega
          clear hbT7 hbR7 hbTr hbRr hN7
          go_wp2_with fail
          refine bodyPost_ret (v := .tuple #[.agg #[.int .i64 k, .int .i64 n, .slice (some ⟨b, o, none⟩) ks.length cap], .bool false]) (by simp [results, Try.results62, go_sem, r0, r1, r2, World.cell?_alloc_lt, hz7]) rfl ?_
          rw [HSP.out]
          refine ⟨k, n, some ⟨b, o, none⟩, ks.length, cap, rfl, (by intro t' h; cases h), ?_⟩
          first | exact (((hE7.setCell (by simp) _).setCell (by simp) _).setCell (by simp) _).alloc _ | exact (((hE7.alloc _).setCell (by simp) _).setCell (by simp) _).setCell (by simp) _
        | some r =>
          have hn0 := HN.out (by omega)
          subst hn0
          obtain ⟨wI, hwI⟩ : ∃ x, x = w7.alloc (.cells #[.int .i64 a1, .int .i64 a2, .slice a3 a4 a5] 28) := ⟨_, rfl⟩
          obtain ⟨W, hW⟩ : ∃ x, x = wI.alloc (.cells #[.int .i64 k, .int .i64 0, .slice none 0 0] 28) := ⟨_, rfl⟩
          have e7I : Ext w7 wI := hwI ▸ (Ext.refl w7).alloc _
          have hEW : Ext wI W := hW ▸ (Ext.refl wI).alloc _
          have hsI : wI.heap.size = w7.heap.size + 1 := by rw [hwI]; simp
          have hsW : W.heap.size = w7.heap.size + 2 := by rw [hW]; simp; omega
          have hbU : wI.heap[w7.heap.size]? = some (.cells #[.int .i64 a1, .int .i64 a2, .slice a3 a4 a5] 28 (0, 0)) := hwI ▸ heap_alloc_new w7 _
          have hbO : W.heap[w7.heap.size + 1]? = some (.cells #[.int .i64 k, .int .i64 0, .slice none 0 0] 28 (0, 0)) := by
            have := heap_alloc_new wI (.cells #[.int .i64 k, .int .i64 0, .slice none 0 0] 28)
            rw [hsI] at this
            rw [hW]
            exact this
          have hEI := hE7.trans e7I
          have hbT := e7I.blk hbT7
          have hbR := e7I.blk hbR7
          obtain ⟨x0, x1, x2, -, -, -⟩ := own3 hbT7
          have hz7 : w.heap.size + 1 < w7.heap.size := lt_of_blk hbR7
          have hz8 : w.heap.size < w7.heap.size := by omega
          have hkid := hN7 r rfl
          go_wp2_with fail
          rw [← hwI, ← hW]
          obtain ⟨g7, hg7⟩ : ∃ x, x = w7.heap.size + 1 := ⟨_, rfl⟩
          rw [← hg7] at hbO ⊢
          obtain ⟨g5, hg5⟩ : ∃ x, x = w7.heap.size := ⟨_, rfl⟩
          rw [← hg5] at hbU ⊢
          obtain ⟨z7, hz7⟩ : ∃ x, x = w7.heap.size := ⟨_, rfl⟩
          obtain ⟨B, hB⟩ : ∃ x, x = w6.heap.size := ⟨_, rfl⟩
          have hkid : InT w7 (fun b => B ≤ b ∧ b < z7) r (.agg #[.int .i64 a1, .int .i64 a2, .slice a3 a4 a5]) := by rw [hB, hz7]; exact hkid
          have hwB : w.heap.size + 1 < B := by have := lt_of_blk hbRr; have := h6.size; omega
          have hB7 : B ≤ z7 := by have := h7.size; omega
          have f1 : z7 ≤ w7.heap.size := by omega
          have f2 : w7.heap.size ≤ z7 := by omega
          have f3 : z7 ≤ g5 := by omega
          have f4 : g5 ≤ z7 := by omega
          have f5 : z7 + 1 ≤ g7 := by omega
          have f6 : g7 ≤ z7 + 1 := by omega
          have f7 : z7 + 1 ≤ wI.heap.size := by omega
          have f8 : wI.heap.size ≤ z7 + 1 := by omega
          have f9 : z7 + 2 ≤ W.heap.size := by omega
          have f10 : W.heap.size ≤ z7 + 2 := by omega
          clear hwI hW hsI hsW hg7 hg5 hz7 hB x0 x1 x2 hN7 hbT7 hbR7 hbTr hbRr
          have hXW : ∀ b, (b < B ∨ z7 ≤ b ∧ b < W.heap.size) → b < W.heap.size := fun b hb => by omega
          go_loopw [8] (fun i wr => ∃ (jj : Nat) (v : Value), jj ≤ ks.length ∧ i = .int .i64 jj ∧ wr.heap[g7]? = some (.cells #[.int .i64 k, .int .i64 0, v] 28 (0, 0)) ∧ GrowS (fun b => b < B ∨ z7 ≤ b ∧ b < W.heap.size) W wr 28 v ((ks.set j r).take jj) ∧ Ext wI wr ∧ W.heap.size ≤ wr.heap.size) (fun i _ => ks.length - (intOf i).toNat)
          case atStart => exact ⟨0, _, Nat.zero_le _, rfl, hbO, GrowS.nil _ _ _ _, hEW, Nat.le_refl _⟩
          case round =>
            obtain ⟨jj, v, hjj, rfl, hbv, hG, heo, hle⟩ := hrel
            have he := heo
            by_cases hlt2 : jj < ks.length
            · have hlen : ((ks.set j r).take jj).length < 1099511627776 := by rw [List.length_take]; omega
              obtain ⟨-, -, t2, -, -, -⟩ := own3 (he.blk hbT)
              obtain ⟨u0, u1, u2, -, -, -⟩ := own3 (he.blk hbU)
              have hjj' : (jj : Int) < (ks.length : Int) := by omega
              have hv := cell_of_blk hbv 2
              have hfv := frozen_of_blk hbv 2
              have hown : ∀ q, v.ownBlock = some q → W.heap.size ≤ q ∧ q < wr.heap.size := by
                obtain ⟨xs, g1, -⟩ := hG
                exact fun q hq => g1.lt q hq
              have HOWN := Lib.hid hown
              have hwrb : g7 < wr.heap.size := lt_of_blk hbv
              have hlt1 : g5 < wr.heap.size := by omega
              by_cases hjJ : jj = j
              · subst hjJ
                have hjb : ((jj : Int) == (jj : Int)) = true := by simp
                have htk := take_set_eqS r hlt2
                have HTK := Lib.hid htk
                have hxk := (Ext.refl wr).alloc (.cells #[.int .i64 a1, .int .i64 a2, .slice a3 a4 a5] 28)
                have hGk := hG.ext hxk
                have hTk : InT (wr.alloc (.cells #[.int .i64 a1, .int .i64 a2, .slice a3 a4 a5] 28)) (fun b => b < (wr.alloc (.cells #[.int .i64 a1, .int .i64 a2, .slice a3 a4 a5] 28)).heap.size ∧ v.ownBlock ≠ some b ∧ ¬ (b < B ∨ z7 ≤ b ∧ b < W.heap.size)) r (.agg #[.int .i64 a1, .int .i64 a2, .slice a3 a4 a5]) := InT.mono (fun y hy => by
                  have h1 : B ≤ y := hy.1
                  have h2 : y < z7 := hy.2
                  exact ⟨by simp; omega, fun hh => by have := (HOWN.out y hh).1; omega, by omega⟩) (fun y hy => (((e7I.trans he).trans hxk).heap y (by have h2 : y < z7 := hy.2; omega))) hkid
                have HBV := Lib.hid (hxk.blk hbv)
                have HG := Lib.hid hGk
                have HT := Lib.hid hTk
                clear hown hG hGk hTk htk hbv
                go_wp2_with (at_builtin; refine wpList_append_treeS _ rfl (.tmp 55) (.tmp 57) _ (by rfl) 28 i0 _ Try.underlying26 hi hz0 hz1 hz2 rfl (by rfl) (W := W) HG.out (by have := hxk.size; omega) HT.out (by rfl) (heap_alloc_new _ _) hlen ?_ hXW)
                intro v' w5 hG5 hB5
                have hE5 : Ext wI w5 := (he.trans hxk).trans' hB5 (by omega)
                have hs5 := hB5.size
                have hb6 := (hB5.block (g7) (by omega)).trans HBV.out
                rw [← HTK.out] at hG5
                obtain ⟨B5, c5, rfl, -, -, -, -⟩ := hG5.lies hXW
                obtain ⟨l5, hl5⟩ : ∃ l, ((ks.set jj r).take (jj + 1)).length = l := ⟨_, rfl⟩
                rw [hl5] at hG5 ⊢
                clear hl5
                have hsz5 : W.heap.size ≤ w5.heap.size := by have := hxk.size; omega
                have hv5 := cell_of_blk hb6 2
                have hf5 := frozen_of_blk hb6 2
                have HG5 := Lib.hid hG5
                clear hv hfv t2 u0 u1 u2 hG5 hlen
                go_wp2_with fail
                go_roundw
                case rel => exact ⟨jj + 1, _, by omega, by go_num, blk_setCell hb6 2 _, HG5.out.only (only_oneS w5 (g7) 2 _) (by intro b hb; rw [List.mem_singleton.1 hb]; exact .inr ⟨by omega, by omega⟩) hXW, hE5.setCell (by show _ ≤ g7; omega) _, by simpa using hsz5⟩
                case measure => simp [intOf]; omega
              · have hjb : ((jj : Int) == (j : Int)) = false := beq_eq_false_iff_ne.2 (by omega)
                obtain ⟨bx, ox, kx, nx, Ax, capx, kidsx, hAx, HKx, c0, c1, c2, hklx, hkcx, hKx, hinx, hmemx⟩ := hK.get (hEI.trans he) hlt2
                injection hAx with hAx
                injection hAx with hBx hOx hDx
                subst hBx hOx
                have htk := take_set_ltS r hlt2 hjJ
                rw [HKx.out] at htk
                have HTK := Lib.hid htk
                have hcm := cnt_mem hmemx
                have hEd : Ext wr wr.drew := (Ext.refl wr).drew
                have hinD := hinx.ext hEd
                have hcells : ∀ w', Below W.heap.size wr w' → w'.heap[g7]? = some (.cells #[.int .i64 k, .int .i64 0, v] 28 (0, 0)) := fun w' hB => (hB.block (g7) (by omega)).trans hbv
                have HCells := Lib.hid hcells
                have HG := Lib.hid hG
                go_wp2_with fail
                clear hcells hbv hG hown htk hcc u0 u1 u2
                go_region_law (first | (go_simp; go_at_call 60; refine (l12Copy_any _ _ _ hinD (by omega)).mono ?_; rintro e w4 ⟨u, rfl, hM, h4⟩; obtain ⟨a1, a2, a3, a4, a5, rfl⟩ := hM.three'; have hv4 := cell_of_blk (HCells.out _ ((hEd.trans h4).below hle)) 2; have hs4 := World.block_lt_of_cell? _ _ hv4) | (refine step_append_treeS _ (by rfl) (.tmp 61) (.tmp 68) _ (by rfl) 28 i0 _ Try.underlying26 hi hz0 hz1 hz2 rfl (by rfl) (X := fun b => b < B ∨ z7 ≤ b ∧ b < W.heap.size) (W := W) (tr := .mk kx nx kidsx) (HG.out.ext ((hEd.trans h4).trans ((Ext.refl w4).alloc _))) (by have := (hEd.trans h4).size; simp; omega) (InT.mono (fun y hy => ⟨by have h9 := hy.2; simp; omega, fun hh => by have h9 : wr.heap.size ≤ y := hy.1; have := (HOWN.out y hh).2; omega, by have h9 : wr.heap.size ≤ y := hy.1; omega⟩) (fun y hy => ((Ext.refl w4).alloc _).heap y hy.2) hM.inT) (by rfl) (heap_alloc_new _ _) hlen ?_ hXW; intro v' w5 hG5 hB5; obtain ⟨B5, c5, rfl, -, -, -, -⟩ := hG5.lies hXW; obtain ⟨l5, hl5⟩ : ∃ l, ((ks.set j r).take jj ++ [Tr.mk kx nx kidsx]).length = l := ⟨_, rfl⟩; rw [hl5] at hG5 ⊢; clear hl5; have hB5' : Below W.heap.size wr w5 := (((hEd.trans h4).trans ((Ext.refl w4).alloc _)).below hle).trans hB5; have hv5 := cell_of_blk (HCells.out _ hB5') 2; have hf5 := frozen_of_blk (HCells.out _ hB5') 2))
                all_goals (
                  have hE5 : Ext wI w5 := he.trans' hB5' (by omega)
                  have hs5 := hB5'.size
                  have hb6 := HCells.out _ hB5'
                  rw [← HTK.out] at hG5
                  have HG5 := Lib.hid hG5
                  clear hv4 hs4 hv HCells hM h4 c0 c1 c2 t2 hG5 hB5 hB5' hfv
                  go_wp2_with fail
                  go_roundw
                  case rel => exact ⟨jj + 1, _, by omega, by go_num, blk_setCell hb6 2 _, HG5.out.only (only_oneS w5 (g7) 2 _) (by intro b hb; rw [List.mem_singleton.1 hb]; exact .inr ⟨by omega, by omega⟩) hXW, hE5.setCell (by show _ ≤ g7; omega) _, by simp; omega⟩
                  case measure => simp [intOf]; omega)
            · have hln : (ks.set j r).take jj = ks.set j r := List.take_of_length_le (by rw [List.length_set]; omega)
              rw [hln] at hG
              obtain ⟨r0, r1, r2, -, -, -⟩ := own3 hbv
              obtain ⟨-, -, t2, -, -, -⟩ := own3 (he.blk hbT)
              obtain ⟨s0, s1, s2, f0, f1, f2⟩ := own3 (he.blk hbR)
              have hGr := fun (x0 x1 x2 : Value) => ((hG.only (only_oneS _ (w.heap.size + 1) 0 x0) (by intro b hb; rw [List.mem_singleton.1 hb]; exact .inl (by omega)) hXW).only (only_oneS _ (w.heap.size + 1) 1 x1) (by intro b hb; rw [List.mem_singleton.1 hb]; exact .inl (by omega)) hXW).only (only_oneS _ (w.heap.size + 1) 2 x2) (by intro b hb; rw [List.mem_singleton.1 hb]; exact .inl (by omega)) hXW
              obtain ⟨Bv, cv, rfl, q1, q2, -, -⟩ := hG.lies hXW
              have HGR := Lib.hid hGr
              have hE9 := hEI.trans he
              clear hGr hG hln hbv
              go_wp2_with fail
              refine bodyPost_ret (v := .tuple #[.agg #[.int .i64 k, .int .i64 0, .slice Bv ks.length cv], .bool true]) (by simp [results, Try.results62, go_sem, s0, s1, s2]) rfl ?_
              rw [HSP.out]
              refine ⟨_, _, _, _, _, rfl, fun t' ht' => ?_, ?_⟩
              · obtain rfl : Tr.mk k 0 (ks.set j r) = t' := by simpa using ht'
                obtain ⟨Bv', cv', he', q1', q2', hKK, -⟩ := (HGR.out (.int .i64 k) (.int .i64 0) (.slice Bv ks.length cv)).lies hXW
                simp only [Value.slice.injEq, true_and] at he'
                obtain ⟨rfl, rfl⟩ := he'
                have h8 : New w _ (.mk k 0 (ks.set j r)) (.agg #[.int .i64 k, .int .i64 0, .slice Bv (ks.set j r).length cv]) := InT.mk_iff.2 ⟨Bv, cv, rfl, q1, q2, InK.mono (fun y hy => ⟨by have h9 : ¬ (y < B ∨ z7 ≤ y ∧ y < W.heap.size) := hy.2; show w.heap.size ≤ y; omega, hy.1⟩) (fun _ _ => rfl) hKK⟩
                rw [List.length_set] at h8
                exact h8
              · exact ((hE9.setCell (by show _ ≤ w.heap.size + 1; omega) _).setCell (by show _ ≤ w.heap.size + 1; omega) _).setCell (by show _ ≤ w.heap.size + 1; omega) _
    · have hjl : j = ks.length := by omega
      have hst := stps_none ks (fun i h => HALL.out i h (by omega))
      have hsp := stp_rul HIV.out hst
      have HSP := Lib.hid hsp
      have hd2 : decide ((j : Int) < (ks.length : Int)) = false := decide_eq_false (by omega)
      clear hst hsp
      go_wp2_with fail
      refine (HRU.out _ hER).mono ?_
      rintro e w7 ⟨a1, a2, a3, a4, a5, rfl, hN7, h7⟩
      obtain ⟨s0, s1, s2, f0, f1, f2⟩ := own3 (h7.blk hbRr)
      have hE7 := hER.trans h7
      obtain ⟨so, hso⟩ : ∃ so, rul k ks = so := ⟨_, rfl⟩
      rw [hso] at hN7 ⊢
      have HSO := Lib.hid (HSP.out.trans hso)
      obtain ⟨ob, hob⟩ : ∃ b, so.isSome = b := ⟨_, rfl⟩
      rw [hob]
      have HOB := Lib.hid hob
      have hsr : w.heap.size + 1 < wr.heap.size := lt_of_blk hbRr
      clear hso hob z0 z1 z2 hbTr hbRr
      go_wp2_with fail
      refine bodyPost_ret (v := .tuple #[.agg #[.int .i64 a1, .int .i64 a2, .slice a3 a4 a5], .bool ob]) (by simp [results, Try.results62, go_sem, s0, s1, s2]) rfl ?_
      rw [HSO.out]
      refine ⟨a1, a2, a3, a4, a5, by rw [HOB.out], fun t' ht' => ?_, ?_⟩
      · have h9 := hN7 t' ht'
        exact InT.mono (fun b hb => ⟨by have := hER.size; have := hb.1; omega, by simpa using hb.2⟩) (fun b hb => by
          have hne : b ≠ w.heap.size + 1 := by have := hb.1; omega
          rw [Below.heap_setCell _ _ _ _ hne, Below.heap_setCell _ _ _ _ hne, Below.heap_setCell _ _ _ _ hne]) h9
      · exact ((hE7.setCell (by simp) _).setCell (by simp) _).setCell (by simp) _
end Go.Proofs.Ytappakllopkfiaa

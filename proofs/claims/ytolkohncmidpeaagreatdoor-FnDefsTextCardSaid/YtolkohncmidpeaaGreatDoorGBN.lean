/-
  Lemmas towards the law, 40: DrawD.
-/
import Derived.Test.YtolkohncmidpeaaGreatDoorGBJ
import Derived.Test.YtolkohncmidpeaaGreatDoorGBM
import Derived.Deep.RegionHeld3
namespace Go.Proofs.YtolkohncmidpeaaGreatDoor
open Go.RowKit
set_option linter.unusedVariables false
attribute [local go_sem ↓] Go.wp_at_zero Go.wp_at_succ
theorem infoDefC : (Tryz.prog.info? 61).map (fun i => (i.zero, i.size, i.bytes)) = some (some (.agg #[.int .i64 0, .int .i64 0, .slice none 0 0, .int .i64 0, .int .i64 0, .slice none 0 0]), 6, 80) := by kernel_rfl
set_option maxRecDepth 100000 in
set_option maxHeartbeats 2000000 in
theorem l9Copy_any (ks : List Tr) (n cap : Nat) (w : World) (A : Option Addr) (h : LiesK w A ks) (hn : ks.length = n * 2) (hl : n ≤ cap) (hc : cap ≤ maxLen) (hcn : ∀ t ∈ ks, cnt t ≤ 1000) (hn9 : n ≤ 1000) :
    Calls Tryz.prog 111 #[.slice A n cap] w fun e w' => ∃ v, e = .returned v ∧ GrowD w w' 61 v ks n ∧ Ext w w' := by
  obtain ⟨i0, hi, hz0, hz1, hz2⟩ := info_parts infoDefC
  have hcc := hc
  unfold maxLen at hcc
  have HCN := Lib.hid hcn
  have hx0 := (Ext.refl w).alloc (.cells #[] 61)
  have hb0 := heap_alloc_new w (.cells #[] 61)
  clear hcn
  go_enter Tryz.func111, Tryz.ntmps111
  go_wp2_with fail
  generalize hw0 : w.alloc _ = w0 at hx0 hb0 ⊢
  clear hw0
  go_loopw [3, 4] (fun vo i wr => ∃ (v : Value) (j : Nat), v = vo ∧ j ≤ n ∧ i = .int .i64 j ∧ GrowD w wr 61 v (ks.take (j * 2)) j ∧ Ext w wr) (fun _ i _ => n - (intOf i).toNat)
  case atStart => exact ⟨_, 0, rfl, Nat.zero_le _, rfl, by simpa using GrowD.lit hb0 (Nat.le_refl _), hx0⟩
  case round =>
    obtain ⟨v, j, rfl, hj, rfl, hG, hx⟩ := hrel
    by_cases hlt : j < n
    · obtain ⟨b, o, k1, n1, A1, p1, kids1, k2, n2, A2, p2, kids2, rfl, hbw, HK1, HK2, ⟨c0, c1, c2, c3, c4, c5⟩, ⟨l1, m1, hK1, hin1, hmem1⟩, ⟨l2, m2, hK2, hin2, hmem2⟩⟩ := h.getD (j := j) hx (by omega)
      have hj' : (j : Int) < (n : Int) := by omega
      have hjn : j < 1099511627776 := by omega
      have hle := hx.size
      have q1 := HCN.out _ hmem1
      have q2 := HCN.out _ hmem2
      have htk : ks.take ((j + 1) * 2) = ks.take (j * 2) ++ [Tr.mk k1 n1 kids1, Tr.mk k2 n2 kids2] := by
        rw [show (j + 1) * 2 = j * 2 + 1 + 1 by omega, List.take_add_one, List.take_add_one, List.getElem?_eq_getElem (show j * 2 < ks.length by omega), List.getElem?_eq_getElem (show j * 2 + 1 < ks.length by omega), HK1.out, HK2.out]
        simp
      have HTK := Lib.hid htk
      have HS := Lib.hid (show ∀ w', Ext wr w' → w'.cell? ⟨b, o + j * 6, none⟩ = some (.int .i64 k1) ∧ w'.cell? ⟨b, o + j * 6 + 1, none⟩ = some (.int .i64 n1) ∧ w'.cell? ⟨b, o + j * 6 + 2, none⟩ = some (.slice A1 kids1.length p1) ∧ w'.cell? ⟨b, o + j * 6 + 3, none⟩ = some (.int .i64 k2) ∧ w'.cell? ⟨b, o + j * 6 + 3 + 1, none⟩ = some (.int .i64 n2) ∧ w'.cell? ⟨b, o + j * 6 + 3 + 2, none⟩ = some (.slice A2 kids2.length p2) from fun w' hw' => ⟨hw'.cell c0, hw'.cell c1, hw'.cell c2, hw'.cell c3, hw'.cell c4, hw'.cell c5⟩)
      have hEd : Ext wr wr.drew := (Ext.refl wr).drew
      have c4' : wr.cell? ⟨b, o + j * 6 + 3 + 1, none⟩ = some (.int .i64 n2) := c4
      have c5' : wr.cell? ⟨b, o + j * 6 + 3 + 2, none⟩ = some (.slice A2 kids2.length p2) := c5
      have HG := Lib.hid hG
      have HX := Lib.hid hx
      obtain ⟨Bv, cv, rfl, -, -, -⟩ := hG.slice
      clear htk c4 c5 hG hx hbw
      go_wp2_with fail
      go_region_law (first
        | (refine step_append_def _ (by rfl) (.tmp 12) (.tmp 26) _ (by rfl) 61 i0 _ Tryz.underlying23 hi hz0 hz1 hz2 rfl (by rfl) (HG.out.ext (((hEd.trans h4).trans h5).alloc _)) (Nat.le_trans hle (((hEd.trans h4).trans h5).alloc _).size) (HG.out.off hle ((((From.made hM1).since (B := wr.heap.size) (Nat.le_refl _)).ext h5).ext ((Ext.refl _).alloc _))) (HG.out.off hle (((From.made hM2).since (C := wr.heap.size) (hEd.trans h4).size).ext ((Ext.refl _).alloc _))) (by rfl) (heap_alloc_new _ _) hjn ?_; intro v' w6 hG6 hB6 _ _)
        | (go_simp; go_at_call 96; (with_reducible show Calls _ _ #[.agg #[.int .i64 k1, _, _]] _ _); refine (l1Copy_any _ _ _ (hin1.ext hEd) (by omega)).mono ?_; rintro e w4 ⟨u, rfl, hM1, h4⟩; obtain ⟨a1, a2, a3, a4, a5, rfl⟩ := hM1.three'; obtain ⟨x0, x1, x2, x3, x4, x5⟩ := HS.out _ (hEd.trans h4))
        | (go_simp; go_at_call 96; (with_reducible show Calls _ _ #[.agg #[.int .i64 k2, _, _]] _ _); refine (l1Copy_any _ _ _ (hin2.ext (hEd.trans h4)) (by omega)).mono ?_; rintro e w5 ⟨u, rfl, hM2, h5⟩; obtain ⟨d1, d2, d3, d4, d5, rfl⟩ := hM2.three'))
      all_goals (
        have hE6 : Ext w w6 := Below.trans (((HX.out.trans hEd).trans h4).trans h5 |>.alloc _) hB6
        clear c0 c1 c2 c3 c4' c5' x0 x1 x2 x3 x4 x5
        go_wp2_with fail
        go_roundw
        case rel => exact ⟨_, j + 1, rfl, by omega, by go_num, by rw [HTK.out]; exact hG6, hE6⟩
        case measure => simp [intOf]; omega)
    · have hjn : j = n := by omega
      subst hjn
      rw [List.take_of_length_le (by omega)] at hG
      go_wp2_with fail
      go_ret
      exact ⟨_, rfl, hG, hx⟩
theorem psD_some {l : List UInt8} {ks : List Tr} (h : psD l = some ks) : dfV ks (ks.length / 2) = true := by
  unfold psD at h
  split at h
  · cases h
  · unfold psO at h
    split at h
    · cases h
    · split at h
      · rename_i hh
        cases h
        exact hh.2
      · cases h
/-- The texts of the terms that use definitions. -/
def useT : List (List UInt8) := [[35, 48], [35, 49], [40, 35, 48, 32, 43, 48, 41], [40, 40, 35, 49, 32, 43, 48, 41, 32, 43, 43, 48, 41], [43, 35, 48], [40, 91, 78, 93, 40, 35, 49, 32, 35, 48, 41, 32, 48, 41], [33, 35, 49], [123, 78, 44, 35, 49, 44, 35, 49, 125], [40, 35, 48, 32, 35, 49, 41], [78]]
theorem useT_pos : 0 < (readT useT).length ∧ (readT useT).length ≤ 10 := by
  have h : prsV [35, 48] = some (.mk 1 0 []) := by decide +kernel
  refine ⟨?_, ?_⟩
  · unfold readT useT
    rw [List.filterMap_cons, h]
    simp
  · exact Nat.le_trans (List.length_filterMap_le _ _) (by decide)
theorem useT_size : ∀ x ∈ useT, x.length ≤ 1000 := by decide
set_option maxRecDepth 100000 in
set_option maxHeartbeats 2000000 in
theorem l9Draw_any (w : World) (g m : Nat) (hR : Rd w g m) (hm : m < 800000) : Calls Tryz.prog 47 #[.pointer (some ⟨g, 0, none⟩)] w fun e w' => ∃ A n cap ks t u, e = .returned (.tuple #[.slice A n cap, u]) ∧ n ≤ cap ∧ cap ≤ maxLen ∧ ks.length = n * 2 ∧ n ≤ 8 ∧ (∀ x ∈ ks, valid sigT x = true) ∧ valid sigT t = true ∧ FromK w.heap.size w' A ks ∧ From w.heap.size w' t u ∧ Rd w' g (m + 3) ∧ Only [g] w w' := by
  have hgl := hR.lt
  have hx0 := (Ext.refl w).alloc (.cells #[.int .i64 0, .int .i64 0, .slice none 0 0] 45)
  have b40 := heap_alloc_new w (.cells #[.int .i64 0, .int .i64 0, .slice none 0 0] 45)
  go_enter Tryz.func47, Tryz.ntmps47
  go_wp2_with fail
  generalize hw0 : w.alloc _ = w0 at hx0 b40 ⊢
  have hs0 : w0.heap.size = w.heap.size + 1 := by rw [← hw0]; simp
  have hlt0 : w.heap.size < w0.heap.size := by omega
  rw [← hs0]
  clear hw0
  refine (of_any (fun s => s.size ≤ 1000) _ g m ((hR.ext hx0).ext ((Ext.refl w0).alloc _)) (by omega) _ 0 5 5 (Nat.le_refl _) (by decide) (by decide) (by omega) (by simp) (by
    intro j hj
    rw [Nat.zero_add, cell_of_blk (heap_alloc_new _ _)]
    rcases (by omega : j = 0 ∨ j = 1 ∨ j = 2 ∨ j = 3 ∨ j = 4) with rfl | rfl | rfl | rfl | rfl
    all_goals exact ⟨_, rfl, by decide⟩)).mono ?_
  rintro e w1 ⟨text, rfl, htx, hR1, ho1⟩
  have b41 : w1.heap[w.heap.size]? = some (.cells #[.int .i64 0, .int .i64 0, .slice none 0 0] 45 (0, 0)) := ho1.keepBlk (((Ext.refl w0).alloc _).blk b40) (by simp; omega)
  have hO1 : Only [g] w w1 := ((Only.of_ext (L := [g]) hx0).trans (Only.of_ext (L := [g]) ((Ext.refl w0).alloc _))).trans ho1
  have hlt1 : w.heap.size < w1.heap.size := lt_of_blk b41
  clear b40 hx0 ho1 hR
  go_wp2_with fail
  refine (specParseDefs_any text _ (by omega)).mono ?_
  rintro e w2 ⟨A, n, cap, rfl, hl, hc, hn, hK, e2⟩
  have b42 := e2.blk b41
  have hO2 := hO1.trans (Only.of_ext (L := [g]) e2)
  have hR2 := hR1.ext e2
  have hlt2 : w.heap.size < w2.heap.size := lt_of_blk b42
  have hK2 : FromK (w.heap.size + 1) w2 A _ := InK.mono (fun b hb => ⟨Nat.le_trans hlt1 hb.1, hb.2⟩) (fun _ _ => rfl) hK
  obtain ⟨O, hO⟩ : ∃ O, psD text.data.toList = O := ⟨_, rfl⟩
  rw [hO] at hK2 hn ⊢
  have hval : ∀ ks, O = some ks → n ≤ 8 ∧ ∀ x ∈ ks, valid sigT x = true := fun ks h => by
    have h1 := psD_some (hO.trans h)
    rw [h] at hn
    simp only [Option.getD] at hn
    rw [show ks.length / 2 = n by omega] at h1
    exact dfV_valid h1 hn
  have HVAL := Lib.hid hval
  clear b41 hO hval hK hR1 hO1 htx
  -- the way out with a definition of its own
  have HOUT : ∀ wq, Only [g] w wq → Rd wq g (m + 3) → wq.heap[w.heap.size]? = some (.cells #[.int .i64 0, .int .i64 0, .slice none 0 0] 45 (0, 0)) → True := fun _ _ _ _ => trivial
  clear HOUT
  cases O with
  | none =>
    simp only [Option.isSome]
    clear hK2 HVAL hn
    have b4q := b42
    have hRq := hR2
    have hOq := hO2
    clear b42 hR2 hO2
    go_wp2_with fail
    refine (l1Leaf_any _ 6 0).mono ?_
    rintro e w5 ⟨rfl, e5⟩
    go_wp2_with fail
    refine (l1Leaf_any _ 7 0).mono ?_
    rintro e w6 ⟨rfl, e6⟩
    go_wp2_with fail
    refine (l1Leaf_any _ 1 0).mono ?_
    rintro e w7 ⟨rfl, e7⟩
    have hx7 : Ext w2 w7 := ((e5.trans e6).alloc _).trans e7
    have b47 := hx7.blk b4q
    obtain ⟨s0, s1, s2, f0, f1, f2⟩ := own3 b47
    have hs6 := (e5.trans e6).size
    have hR7 : Rd w7 g (m + 3) := (hRq.ext hx7).mono (by omega)
    have hO7 := hOq.trans (Only.of_ext (L := [g]) hx7)
    have hK7 : FromK (w.heap.size + 1) w7 (some ⟨w6.heap.size, 0, none⟩) [.mk 6 0 [], .mk 7 0 []] := InK.mono (fun b hb => ⟨hb.1, Nat.lt_of_lt_of_le hb.2 e7.size⟩) (fun b hb => e7.heap b hb.2) (FromK.two (e := 61) (From.leaf (w.heap.size + 1) w6 6 0) (From.leaf (w.heap.size + 1) w6 7 0) (by omega) rfl)
    clear b4q b47
    go_wp2_with fail
    refine bodyPost_ret (v := .tuple #[.slice (some ⟨w6.heap.size, 0, none⟩) 1 1, .agg #[.int .i64 1, .int .i64 0, .slice none 0 0]]) (by simp [results, Tryz.results47, go_sem, s0, s1, s2]) rfl ⟨_, 1, 1, [.mk 6 0 [], .mk 7 0 []], .mk 1 0 [], _, rfl, Nat.le_refl _, by decide, rfl, by decide, by decide, by decide, ?_, From.leaf _ _ 1 0, ?_, ?_⟩
    · refine InK.mono (fun b hb => ⟨by have := hb.1; omega, by simpa using hb.2⟩) (fun b hb => ?_) hK7
      have hb1 : w.heap.size + 1 ≤ b := hb.1
      rw [Below.heap_setCell _ _ _ _ (by show b ≠ w.heap.size; omega), Below.heap_setCell _ _ _ _ (by show b ≠ w.heap.size; omega), Below.heap_setCell _ _ _ _ (by show b ≠ w.heap.size; omega)]
    · exact ((hR7.set (by show g < w.heap.size; omega) _).set (by show g < w.heap.size; omega) _).set (by show g < w.heap.size; omega) _
    · exact ((hO7.setNew (by simp) _).setNew (by simp) _).setNew (by simp) _
  | some ks =>
    simp only [Option.isSome, Option.getD] at hK2 hn ⊢
    obtain ⟨hn8, hv⟩ := HVAL.out ks rfl
    clear HVAL
    go_wp2_with fail
    refine (pick_any _ g _ 8 hR2 (by omega)).mono ?_
    rintro e w3 ⟨x, rfl, hx0, -, hR3, ho3⟩
    have b4q := ho3.keepBlk b42 (by simp; omega)
    have hOq := hO2.trans ho3
    have hRq := hR3
    have hlt3 : w.heap.size < w3.heap.size := lt_of_blk b4q
    have hK3 : FromK (w.heap.size + 1) w3 A ks := InK.mono (fun b hb => ⟨hb.1, Nat.lt_of_lt_of_le hb.2 ho3.size⟩) (fun b hb => ho3.block b hb.2 (by have := hb.1; simp; omega)) hK2
    clear b42 hR2 hO2 hK2 hR3 ho3
    by_cases hxz : x = 0
    · subst hxz
      clear hK3
      go_wp2_with fail
      refine (l1Leaf_any _ 6 0).mono ?_
      rintro e w5 ⟨rfl, e5⟩
      go_wp2_with fail
      refine (l1Leaf_any _ 7 0).mono ?_
      rintro e w6 ⟨rfl, e6⟩
      go_wp2_with fail
      refine (l1Leaf_any _ 1 0).mono ?_
      rintro e w7 ⟨rfl, e7⟩
      have hx7 : Ext w3 w7 := ((e5.trans e6).alloc _).trans e7
      have b47 := hx7.blk b4q
      obtain ⟨s0, s1, s2, f0, f1, f2⟩ := own3 b47
      have hs6 := (e5.trans e6).size
      have hR7 : Rd w7 g (m + 3) := (hRq.ext hx7).mono (by omega)
      have hO7 := hOq.trans (Only.of_ext (L := [g]) hx7)
      have hK7 : FromK (w.heap.size + 1) w7 (some ⟨w6.heap.size, 0, none⟩) [.mk 6 0 [], .mk 7 0 []] := InK.mono (fun b hb => ⟨hb.1, Nat.lt_of_lt_of_le hb.2 e7.size⟩) (fun b hb => e7.heap b hb.2) (FromK.two (e := 61) (From.leaf (w.heap.size + 1) w6 6 0) (From.leaf (w.heap.size + 1) w6 7 0) (by omega) rfl)
      clear b4q b47
      go_wp2_with fail
      refine bodyPost_ret (v := .tuple #[.slice (some ⟨w6.heap.size, 0, none⟩) 1 1, .agg #[.int .i64 1, .int .i64 0, .slice none 0 0]]) (by simp [results, Tryz.results47, go_sem, s0, s1, s2]) rfl ⟨_, 1, 1, [.mk 6 0 [], .mk 7 0 []], .mk 1 0 [], _, rfl, Nat.le_refl _, by decide, rfl, by decide, by decide, by decide, ?_, From.leaf _ _ 1 0, ?_, ?_⟩
      · refine InK.mono (fun b hb => ⟨by have := hb.1; omega, by simpa using hb.2⟩) (fun b hb => ?_) hK7
        have hb1 : w.heap.size + 1 ≤ b := hb.1
        rw [Below.heap_setCell _ _ _ _ (by show b ≠ w.heap.size; omega), Below.heap_setCell _ _ _ _ (by show b ≠ w.heap.size; omega), Below.heap_setCell _ _ _ _ (by show b ≠ w.heap.size; omega)]
      · exact ((hR7.set (by show g < w.heap.size; omega) _).set (by show g < w.heap.size; omega) _).set (by show g < w.heap.size; omega) _
      · exact ((hO7.setNew (by simp) _).setNew (by simp) _).setNew (by simp) _
    · have hxb : (x == 0) = false := beq_eq_false_iff_ne.2 hxz
      go_wp2_with fail
      refine (l5Read_any useT _ 0 10 _ (by simp) (by decide) (by decide) (by decide) useT_size (by
        intro j hj
        rw [Nat.zero_add, cell_of_blk (heap_alloc_new _ _)]
        have hj : j < 10 := hj
        rcases (by omega : j = 0 ∨ j = 1 ∨ j = 2 ∨ j = 3 ∨ j = 4 ∨ j = 5 ∨ j = 6 ∨ j = 7 ∨ j = 8 ∨ j = 9) with rfl | rfl | rfl | rfl | rfl | rfl | rfl | rfl | rfl | rfl
        all_goals rfl)).mono ?_
      rintro e w5 ⟨A5, c5, rfl, l5, m5, hF5, e5⟩
      obtain ⟨hp0, hp1⟩ := useT_pos
      have hvR : ∀ t ∈ readT useT, valid sigT t = true := fun t h => readT_valid h
      generalize readT useT = R at l5 hF5 hp0 hp1 hvR ⊢
      obtain ⟨L, hL⟩ : ∃ L, R.length = L := ⟨_, rfl⟩
      rw [hL] at l5 hp0 hp1 ⊢
      have hx5 : Ext w3 w5 := ((Ext.refl w3).alloc _).trans e5
      have b45 := hx5.blk b4q
      have hO5 := hOq.trans (Only.of_ext (L := [g]) hx5)
      have hR5 := hRq.ext hx5
      have hK5 : FromK (w.heap.size + 1) w5 A ks := InK.mono (fun b hb => ⟨hb.1, Nat.lt_of_lt_of_le hb.2 hx5.size⟩) (fun b hb => hx5.heap b hb.2) hK3
      have hF5 : FromK (w.heap.size + 1) w5 A5 R := InK.mono (fun b hb => ⟨by have := hb.1; simp at this; omega, hb.2⟩) (fun _ _ => rfl) hF5
      have hlt5 : w.heap.size < w5.heap.size := lt_of_blk b45
      have hA5 : ∃ b5 o5, A5 = some ⟨b5, o5, none⟩ := by
        rcases hF5 with h | ⟨b5, o5, h, -⟩
        · rw [h] at hL; simp at hL; omega
        · exact ⟨b5, o5, h⟩
      obtain ⟨b5, o5, rfl⟩ := hA5
      have HGET := Lib.hid (fun (w' : World) (ho : Only [g] w5 w') (j : Nat) (hj : j < L) => hF5.get (w' := w') (j := j) (fun b hb => ho.block b hb.2 (by have := hb.1; simp; omega)) (by rw [hL]; exact hj))
      have HL := Lib.hid hL
      have HV := Lib.hid hvR
      have HB := Lib.hid (fun (w' : World) (ho : Only [g] w5 w') => own3 (ho.keepBlk b45 (by simp; omega)))
      have hLi : (0 : Int) < (L : Int) := by omega
      have hD5 : Only [g] w5 w5.drew := Only.of_ext (Ext.refl w5).drew
      clear hF5 hvR b4q hOq hRq hK3 e5 hx5
      go_wp2_with fail
      go_region_law (go_simp; go_at_call 90; refine (pick_any _ g _ (L : Int) (hR5.ext (Ext.refl w5).drew) (by omega)).mono ?_; rintro e w6 ⟨x, rfl, hx0, hx1, hR6, ho6⟩; obtain ⟨j, rfl⟩ := Int.eq_ofNat_of_zero_le hx0; have hj : j < L := (by omega); have hjz : (j : Int) < (L : Int) := (by omega); obtain ⟨b', o', k6, n6, A6, c6, kids6, hA, HK, x0, x1, x2, hl6, hc6, hK6, hin6, hmem, hSb⟩ := HGET.out w6 (hD5.trans ho6) j hj; cases hA; obtain ⟨s0, s1, s2, f0, f1, f2⟩ := HB.out w6 (hD5.trans ho6))
      all_goals (
        have hO6 := (hO5.trans hD5).trans ho6
        have hF6 : From (w.heap.size + 1) w6 _ _ := InT.mono (fun b hb => ⟨hb.1, Nat.lt_of_lt_of_le hb.2 (hD5.trans ho6).size⟩) (fun _ _ => rfl) hin6
        have hK6' : FromK (w.heap.size + 1) w6 A ks := InK.mono (fun b hb => ⟨hb.1, Nat.lt_of_lt_of_le hb.2 (hD5.trans ho6).size⟩) (fun b hb => (hD5.trans ho6).block b hb.2 (by have := hb.1; simp; omega)) hK5
        go_wp2_with fail
        refine bodyPost_ret (v := .tuple #[.slice A n cap, .agg #[.int .i64 k6, .int .i64 n6, .slice A6 kids6.length c6]]) (by simp [results, Tryz.results47, go_sem, s0, s1, s2]) rfl ⟨_, n, cap, ks, _, _, rfl, hl, hc, hn, hn8, hv, HV.out _ hmem, ?_, ?_, ?_, ?_⟩
        · refine InK.mono (fun b hb => ⟨by have := hb.1; omega, by simpa using hb.2⟩) (fun b hb => ?_) hK6'
          have hb1 : w.heap.size + 1 ≤ b := hb.1
          rw [Below.heap_setCell _ _ _ _ (by show b ≠ w.heap.size; omega), Below.heap_setCell _ _ _ _ (by show b ≠ w.heap.size; omega), Below.heap_setCell _ _ _ _ (by show b ≠ w.heap.size; omega)]
        · exact (((hF6.set (by show w.heap.size < _; omega) _).set (by show w.heap.size < _; omega) _).set (by show w.heap.size < _; omega) _).since (by omega)
        · exact (((hR6.mono (by omega)).set (by show g < w.heap.size; omega) _).set (by show g < w.heap.size; omega) _).set (by show g < w.heap.size; omega) _
        · exact ((hO6.setNew (by simp) _).setNew (by simp) _).setNew (by simp) _)
end Go.Proofs.YtolkohncmidpeaaGreatDoor

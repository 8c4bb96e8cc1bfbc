/-
  Lemmas towards the law, 39: DrawY.
-/
import Derived.Test.YtappakllopkfiaaCBE
import Derived.Test.YtappakllopkfiaaCBJ
import Derived.Test.YtappakllopkfiaaCBL
import Derived.Deep.RegionHeld3
namespace Go.Proofs.Ytappakllopkfiaa
open Go.RowKit
set_option linter.unusedVariables false
attribute [local go_sem ↓] Go.wp_at_zero Go.wp_at_succ
theorem GrowS.fromD {W w : World} {e : TypeId} {v : Value} {ks : List Tr} (h : GrowS (fun b => b < W.heap.size) W w e v ks) : ∃ A cap, v = .slice A ks.length cap ∧ ks.length ≤ cap ∧ cap ≤ maxLen ∧ FromK W.heap.size w A ks := by
  obtain ⟨A, cap, h1, h2, h3, h4, -⟩ := h.lies (fun b hb => hb)
  exact ⟨A, cap, h1, h2, h3, InK.mono (fun b hb => ⟨by have := hb.2; omega, hb.1⟩) (fun _ _ => rfl) h4⟩
theorem From.drewS {B : Nat} {w : World} {t : Tr} {v : Value} (h : From B w t v) : From B w.drew t v := h.ext (Ext.refl w).drew
theorem FromK.drewS {B : Nat} {w : World} {A : Option Addr} {ks : List Tr} (h : FromK B w A ks) : FromK B w.drew A ks := h.ext (Ext.refl w).drew
/-- What l5Draw returns. -/
def DrawQ (w : World) (g m : Nat) (e : Ending) (w' : World) : Prop := ∃ A n cap ks t u, e = .returned (.tuple #[.slice A n cap, u]) ∧ ks.length = n ∧ n ≤ cap ∧ cap ≤ maxLen ∧ n ≤ 3 ∧ (∀ x ∈ ks, cnt x ≤ 400) ∧ cnt t ≤ 400 ∧ FromK w.heap.size w' A ks ∧ From w.heap.size w' t u ∧ Rd w' g (m + 3000) ∧ Only [g] w w'
theorem nd4 : nd 4 ≤ 2000 := by decide
theorem infoTermY : (Try.prog.info? 44).map (fun i => (i.zero, i.size, i.bytes)) = some (some (.agg #[.int .i64 0, .int .i64 0, .slice none 0 0]), 3, 40) := by kernel_rfl
set_option maxRecDepth 100000 in
set_option maxHeartbeats 40000000 in
theorem l5Draw_any (w : World) (g m : Nat) (hR : Rd w g m) (hm : m < 700000) : Calls Try.prog 96 #[.pointer (some ⟨g, 0, none⟩)] w fun e w' => DrawQ w g m e w' := by
  obtain ⟨i0, hi, hz0, hz1, hz2⟩ := info_parts infoTermY
  have hgl := hR.lt
  have hx0 := (Ext.refl w).alloc (.cells #[.int .i64 0, .int .i64 0, .slice none 0 0] 44)
  have hb0 := heap_alloc_new w (.cells #[.int .i64 0, .int .i64 0, .slice none 0 0] 44)
  go_enter Try.func96, Try.ntmps96
  go_wp2_with fail
  generalize hw0 : w.alloc _ = w0 at hx0 hb0 ⊢
  have hs0 : w.heap.size < w0.heap.size := lt_of_blk hb0
  clear hw0
  refine (pick_any w0 g m 2 (hR.ext hx0) (by omega)).mono ?_
  rintro e w1 ⟨x, rfl, hx0', -, hR1, ho1⟩
  have hO1 : Only [g] w w1 := (Only.of_ext hx0).trans ho1
  have hb1 := ho1.keepBlk hb0 (by simp; omega)
  have hs1 : w.heap.size < w1.heap.size := lt_of_blk hb1
  clear hR hb0 ho1
  by_cases hxz : x = 0
  · subst hxz
    go_wp2_with fail
    refine (num_any _ _ _ (hR1.ext ((Ext.refl w1).alloc _)) (by omega) _ 4 [0, 1, 2, 0] (by simp) (by decide) (by simp) (nums_of_row (heap_alloc_new w1 _) rfl) (by intro b o hb; have := hR1.lt; simp at hb; omega)).mono ?_
    rintro e w2 ⟨nn, rfl, hnn, hR2, ho2⟩
    have hn02 : 0 ≤ nn ∧ nn ≤ 2 := by simp at hnn; omega
    obtain ⟨N, rfl⟩ := Int.eq_ofNat_of_zero_le hn02.1
    have hN2 : N ≤ 2 := by omega
    have hO2 : Only [g] w w2 := (hO1.trans (Only.of_ext (L := [g]) ((Ext.refl w1).alloc (.cells #[.int .i64 0, .int .i64 1, .int .i64 2, .int .i64 0] 3)))).trans ho2
    have hb2 := ho2.keepBlk (((Ext.refl w1).alloc (.cells #[.int .i64 0, .int .i64 1, .int .i64 2, .int .i64 0] 3)).blk hb1) (by simp; omega)
    have hlt2 : w.heap.size < w2.heap.size := lt_of_blk hb2
    have hG0 := GrowS.lit (X := fun b => b < w2.heap.size) (W := w2) (e := 44) (heap_alloc_new w2 (.cells #[] 44)) (Nat.le_refl _)
    have hE0 : Ext w2 (w2.alloc (.cells #[] 44)) := (Ext.refl w2).alloc _
    clear hR1 hO1 hb1 ho2 hnn hx0
    go_wp2_with fail
    generalize World.alloc w2 _ = wq at hG0 hE0 ⊢
    go_loopw [5, 6] (fun vo i wr => ∃ (v : Value) (j : Nat) (ks : List Tr), v = vo ∧ j ≤ N ∧ i = .int .i64 j ∧ ks.length = j ∧ Hid (∀ x ∈ ks, cnt x ≤ 400) ∧ GrowS (fun b => b < w2.heap.size) w2 wr 44 v ks ∧ Ext w2 wr) (fun _ i _ => N - (intOf i).toNat)
    case atStart => exact ⟨_, 0, [], rfl, Nat.zero_le _, rfl, rfl, Lib.hid (fun x h => by simp at h), hG0, hE0⟩
    case round =>
      obtain ⟨v, j, ks, rfl, hj, rfl, hkl, HC, hG, hx⟩ := hrel
      have HKL := Lib.hid hkl
      have hsw := hx.size
      clear hG0 hE0 hkl
      by_cases hlt : j < N
      · have hjz : (j : Int) < (N : Int) := by omega
        go_wp2_with fail
        refine (l1Leaf_any _ 6 0).mono ?_
        rintro e w5 ⟨rfl, e5⟩
        have hx6 := e5.alloc (.cells #[.int .i64 6, .int .i64 0, .slice none 0 0] 44)
        have hG6 := hG.ext hx6
        go_wp2_with (at_builtin; refine wpList_append_treeS _ rfl (.tmp 23) (.tmp 25) 42 rfl 44 i0 _ Try.underlying42 hi hz0 hz1 hz2 rfl rfl hG6 (by have := hx6.size; omega) (InT.mk_iff.2 ⟨none, 0, rfl, Nat.le_refl _, Nat.zero_le _, .inl rfl⟩) rfl (heap_alloc_new _ _) (by rw [HKL.out]; omega) ?_ (fun b hb => hb))
        intro v' w7 hG7 hB7
        have hx7 : Ext w2 w7 := (hx.trans hx6).trans' hB7 (Nat.le_refl _)
        go_wp2_with fail
        go_roundw
        case rel => exact ⟨_, j + 1, ks ++ [.mk 6 0 []], rfl, by omega, by go_num, by rw [List.length_append, HKL.out]; rfl, Lib.hid (fun x h => by
          rcases List.mem_append.1 h with h | h
          · exact HC.out x h
          · rw [List.mem_singleton.1 h]; decide), hG7, hx7⟩
        case measure => simp [intOf]; omega
      · have hjN : j = N := by omega
        subst hjN
        obtain ⟨Av, cv, rfl, qa, qb, hKv⟩ := hG.fromD
        rw [HKL.out] at qa ⊢
        have hbr := hx.blk hb2
        have hRr := hR2.ext hx
        have hOr := hO2.trans (Only.of_ext (L := [g]) hx)
        clear hG hR2 hO2 hb2 hx
        go_wp2_with fail
        refine (num_any _ _ _ (hRr.ext ((Ext.refl wr).alloc _)) (by omega) _ 4 [3, 2, 4, 1] (by simp) (by decide) (by simp) (nums_of_row (heap_alloc_new wr _) rfl) (by intro b o hb; have := hRr.lt; simp at hb; omega)).mono ?_
        rintro e w3 ⟨kk, rfl, hkk, hR3, ho3⟩
        have hk14 : -3 ≤ kk ∧ kk ≤ 4 := by simp at hkk; omega
        have hO3 := (hOr.trans (Only.of_ext (L := [g]) ((Ext.refl wr).alloc (.cells #[.int .i64 3, .int .i64 2, .int .i64 4, .int .i64 1] 3)))).trans ho3
        have hb3 := ho3.keepBlk (((Ext.refl wr).alloc (.cells #[.int .i64 3, .int .i64 2, .int .i64 4, .int .i64 1] 3)).blk hbr) (by simp; omega)
        have hK3 : FromK w2.heap.size w3 Av ks := ((hKv.ext ((Ext.refl wr).alloc (.cells #[.int .i64 3, .int .i64 2, .int .i64 4, .int .i64 1] 3))).only ho3 (by intro b hb; rw [List.mem_singleton.1 hb]; omega))
        have hs3 : w2.heap.size ≤ w3.heap.size := by have := ho3.size; simp at this; omega
        clear hRr hOr hbr hKv ho3 hkk
        go_wp2_with fail
        refine (l5Nat_any 4 (by decide) w3 g _ (j : Int) kk hR3 (by have := nd4; omega) (by omega) (by omega) (by omega) (by omega)).mono ?_
        rintro e w4 ⟨t, u, rfl, hF, -, hR4, ho4⟩
        obtain ⟨k4, n4, A4, l4, c4, rfl⟩ := hF.three
        have hs34 := ho4.size
        have hO4 := (hO3.trans ho4).trans (Only.of_ext (L := [g]) ((Ext.refl w4).alloc (.cells #[.int .i64 k4, .int .i64 n4, .slice A4 l4 c4] 44)))
        have hb4 := ((Ext.refl w4).alloc (.cells #[.int .i64 k4, .int .i64 n4, .slice A4 l4 c4] 44)).blk (ho4.keepBlk hb3 (by simp; omega))
        have hK4 : FromK w2.heap.size (w4.alloc (.cells #[.int .i64 k4, .int .i64 n4, .slice A4 l4 c4] 44)) Av ks := (hK3.only ho4 (by intro b hb; rw [List.mem_singleton.1 hb]; omega)).ext ((Ext.refl w4).alloc _)
        have hF4 := hF.ext ((Ext.refl w4).alloc (.cells #[.int .i64 k4, .int .i64 n4, .slice A4 l4 c4] 44))
        have hR4' := hR4.ext ((Ext.refl w4).alloc (.cells #[.int .i64 k4, .int .i64 n4, .slice A4 l4 c4] 44))
        have hb74 := heap_alloc_new w4 (.cells #[.int .i64 k4, .int .i64 n4, .slice A4 l4 c4] 44)
        have hs4 : w3.heap.size ≤ w4.heap.size := hs34
        clear hO3 hb3 hK3 hF hR3 hR4 ho4
        go_wp2_with fail
        have HV := Lib.hid (specValidTerm t (w4.alloc (.cells #[.int .i64 k4, .int .i64 n4, .slice A4 l4 c4] 44)) _ hF4.lies)
        generalize hwa : w4.alloc _ = wa at hO4 hb4 hK4 hF4 hR4' hb74 HV ⊢
        have hsa : wa.heap.size = w4.heap.size + 1 := by rw [← hwa]; simp
        have hsA : w4.heap.size < wa.heap.size := by omega
        clear hwa hsa
        refine HV.out.mono ?_
        rintro e w5 ⟨rfl, e5⟩
        have hO5 := hO4.trans (Only.of_ext (L := [g]) e5)
        have hb5 := e5.blk hb4
        have hR5 := hR4'.ext e5
        have hs5 := e5.size
        cases hz : valid sigT t with
        | true =>
          have hct : cnt t ≤ 400 := (valid_parts hz).2
          obtain ⟨z0, z1, z2, -, -, -⟩ := own3 (e5.blk hb74)
          obtain ⟨s0, s1, s2, f0, f1, f2⟩ := own3 hb5
          have hK5 := hK4.ext e5
          have hF5 := (hF4.ext e5).since (C := w.heap.size + 1) (by omega)
          clear hK4 hF4 hb4 hb74 hR4' hO4 HV hz
          go_wp2_with fail
          first | (go_region_law (fail)) | fail
          all_goals (
            go_wp2_with fail
            refine bodyPost_ret (v := .tuple #[.slice Av j cv, .agg #[.int .i64 k4, .int .i64 n4, .slice A4 l4 c4]]) (by simp [results, Try.results96, go_sem, s0, s1, s2]) rfl ⟨Av, j, cv, ks, t, _, rfl, HKL.out, qa, qb, by omega, HC.out, hct, ?_, ?_, ?_, ?_⟩
            · refine FromK.drewS (InK.mono (fun b hb => ⟨by have := hb.1; omega, by simpa using hb.2⟩) (fun b hb => ?_) hK5)
              have hb1 : w2.heap.size ≤ b := hb.1
              rw [Below.heap_setCell _ _ _ _ (by show b ≠ w.heap.size; omega), Below.heap_setCell _ _ _ _ (by show b ≠ w.heap.size; omega), Below.heap_setCell _ _ _ _ (by show b ≠ w.heap.size; omega)]
            · exact ((((hF5.set (by show w.heap.size < _; omega) _).set (by show w.heap.size < _; omega) _).set (by show w.heap.size < _; omega) _).since (by omega)).drewS
            · exact ((((hR5.mono (show _ ≤ m + 3000 by have := nd4; omega)).set (by show g < w.heap.size; omega) _).set (by show g < w.heap.size; omega) _).set (by show g < w.heap.size; omega) _).ext (Ext.refl _).drew
            · exact (((hO5.setNew (by show w.heap.size ≤ w.heap.size; omega) _).setNew (by show w.heap.size ≤ w.heap.size; omega) _).setNew (by show w.heap.size ≤ w.heap.size; omega) _).drew)
        | false =>
          have hR5s : Rd w5 g (m + 2900) := hR5.mono (by have := nd4; omega)
          clear hK4 hF4 hb4 hb74 hR4' hO4 HV hz hR5
          go_wp2_with fail
          refine (pick_any w5 g _ 4 hR5s (by omega)).mono ?_
          rintro e w3 ⟨y, rfl, -, -, hR3, ho3⟩
          have hb3 := ho3.keepBlk hb5 (by simp; omega)
          have hs33 : w.heap.size < w3.heap.size := lt_of_blk hb3
          have hO3 := Only.trans hO5 ho3
          clear hR5s hb5 ho3
          go_wp2_with fail
          refine (l5Pairs_any y w3).mono ?_
          rintro e w4 ⟨b1, b2, p, rfl, hp, q1, q2, hA1, hA2, e4⟩
          obtain ⟨pf1, pf2, pf3, pf4⟩ := pairsC_facts p hp
          have pos := pairsC_pos p hp
          have hp2 : p.2.length ≤ maxLen := by unfold maxLen; omega
          have hp1 : p.1.length ≤ maxLen := by unfold maxLen; omega
          have hX2 := Lib.hid (fun W (hW : Ext w4 W) => l5Read_any p.2 b2 0 p.2.length W (hA2.ext hW).1 (Nat.le_refl _) hp2 (by omega) pf4 (hA2.ext hW).2)
          have hX1 := Lib.hid (fun W (hW : Ext w4 W) => l5Read_any p.1 b1 0 p.1.length W (hA1.ext hW).1 (Nat.le_refl _) hp1 (by omega) pf3 (hA1.ext hW).2)
          have hCv : ∀ t ∈ readT p.1, cnt t ≤ 400 := fun t h => (valid_parts (readT_valid h)).2
          have hRv : ∀ t ∈ readT p.2, cnt t ≤ 400 := fun t h => (valid_parts (readT_valid h)).2
          have hC3 : (readT p.1).length ≤ 3 := Nat.le_trans (readT_len _) pf1
          have hL12 : (readT p.2).length ≤ 12 := Nat.le_trans (readT_len _) pf2
          generalize readT p.1 = C at hX1 hCv hC3
          generalize readT p.2 = R at hX2 hRv pos hL12
          generalize p.1.length = P1 at hX1 ⊢
          generalize p.2.length = P2 at hX2 ⊢
          obtain ⟨L, hL⟩ : ∃ L, R.length = L := ⟨_, rfl⟩
          obtain ⟨N3, hN3⟩ : ∃ N3, C.length = N3 := ⟨_, rfl⟩
          rw [hL] at hX2 pos hL12
          rw [hN3] at hX1 hC3
          have HL := Lib.hid hL
          have HN3 := Lib.hid hN3
          have HCV := Lib.hid hCv
          have HRV := Lib.hid hRv
          clear hp pf1 pf2 pf3 pf4 hp1 hp2 hA1 hA2 hL hN3 hCv hRv
          go_wp2_with fail
          refine (hX2.out w4 (Ext.refl _)).mono ?_
          rintro e w5 ⟨A5, c5, rfl, l5, m5, hF5, e5⟩
          have b45 := (e4.trans e5).blk hb3
          have hO5 := hO3.trans (Only.of_ext (L := [g]) (e4.trans e5))
          have hR5 := hR3.ext (e4.trans e5)
          have hs4 := hO3.size
          have hs44 := e4.size
          have hA5 : ∃ b5 o5, A5 = some ⟨b5, o5, none⟩ := by
            rcases hF5 with h | ⟨b5, o5, h, -⟩
            · have := HL.out; rw [h] at this; simp at this; omega
            · exact ⟨b5, o5, h⟩
          obtain ⟨b5, o5, rfl⟩ := hA5
          have HGET := Lib.hid (fun (w' : World) (ho : Only [g] w5 w') (j : Nat) (hj : j < L) => hF5.get (w' := w') (j := j) (fun b hb => ho.block b hb.2 (by have := hb.1; simp; omega)) (by rw [HL.out]; exact hj))
          have HB := Lib.hid (fun (w' : World) (ho : Only [g] w5 w') => own3 (ho.keepBlk b45 (by simp; omega)))
          have hLi : (0 : Int) < (L : Int) := by omega
          have hD5 : Only [g] w5 w5.drew := Only.of_ext (Ext.refl w5).drew
          have HX3 := Lib.hid (hX1.out _ (e5.trans (Ext.refl w5).drew))
          have hR5' := hR5.ext (Ext.refl w5).drew
          have hc5 := m5
          unfold maxLen at hc5
          clear hF5 hb3 hO3 e4 hX1 hX2 hR3 hR5
          go_wp2_with fail
          go_region_law (first
            | (go_simp; go_at_call 157; refine HX3.out.mono ?_; rintro e w6 ⟨A6, c6, rfl, l6, m6, hF6, e6⟩; have hD6 : Only [g] w5 w6 := hD5.trans (Only.of_ext e6))
            | (go_simp; go_at_call 78; refine (pick_any _ g _ (L : Int) (hR5'.ext e6) (by omega)).mono ?_; rintro e w7 ⟨x7, rfl, hx70, hx71, hR7, ho7⟩; obtain ⟨j, rfl⟩ := Int.eq_ofNat_of_zero_le hx70; have hj : j < L := (by omega); have hjz : (j : Int) < (L : Int) := (by omega); obtain ⟨b', o', k7, n7, A7, c7, kids7, hA, HK, x0, x1, x2, hl7, hc7, hK7, hin7, hmem, hSb⟩ := HGET.out w7 (hD6.trans ho7) j hj; cases hA; obtain ⟨s0, s1, s2, f0, f1, f2⟩ := HB.out w7 (hD6.trans ho7)))
          all_goals (
            have hs5 : w5.heap.size ≤ w7.heap.size := (hD6.trans ho7).size
            have hO7 : Only [g] w w7 := hO5.trans (hD6.trans ho7)
            have hs6 : w5.heap.size ≤ w6.heap.size := hD6.size
            have hF7 : From (w.heap.size + 1) w7 _ _ := InT.mono (fun b hb => ⟨by have := hb.1; omega, Nat.lt_of_lt_of_le hb.2 hs5⟩) (fun b hb => rfl) hin7
            have hF6' : FromK (w.heap.size + 1) w7 A6 C := InK.mono (fun b hb => ⟨by have := hb.1; have := (Ext.refl w5).drew.size; omega, Nat.lt_of_lt_of_le hb.2 ho7.size⟩) (fun b hb => ho7.block b hb.2 (by have := hb.1; have := (Ext.refl w5).drew.size; simp; omega)) hF6
            go_wp2_with fail
            refine bodyPost_ret (v := .tuple #[.slice A6 N3 c6, .agg #[.int .i64 k7, .int .i64 n7, .slice A7 kids7.length c7]]) (by simp [results, Try.results96, go_sem, s0, s1, s2]) rfl ⟨A6, N3, c6, C, _, _, rfl, HN3.out, l6, m6, hC3, HCV.out, HRV.out _ hmem, ?_, ?_, ?_, ?_⟩
            · refine InK.mono (fun b hb => ⟨by have := hb.1; omega, by simpa using hb.2⟩) (fun b hb => ?_) hF6'
              have hb1 : w.heap.size + 1 ≤ b := hb.1
              rw [Below.heap_setCell _ _ _ _ (by show b ≠ w.heap.size; omega), Below.heap_setCell _ _ _ _ (by show b ≠ w.heap.size; omega), Below.heap_setCell _ _ _ _ (by show b ≠ w.heap.size; omega)]
            · exact (((hF7.set (by show w.heap.size < _; omega) _).set (by show w.heap.size < _; omega) _).set (by show w.heap.size < _; omega) _).since (by omega)
            · exact (((hR7.mono (show _ ≤ m + 3000 by omega)).set (by show g < w.heap.size; omega) _).set (by show g < w.heap.size; omega) _).set (by show g < w.heap.size; omega) _
            · exact ((hO7.setNew (by show w.heap.size ≤ w.heap.size; omega) _).setNew (by show w.heap.size ≤ w.heap.size; omega) _).setNew (by show w.heap.size ≤ w.heap.size; omega) _)
  · have exz : (x == 0) = false := beq_eq_false_iff_ne.2 hxz
    have hR1s : Rd w1 g (m + 2900) := hR1.mono (by omega)
    clear hR1
    go_wp2_with fail
    refine (pick_any w1 g _ 4 hR1s (by omega)).mono ?_
    rintro e w3 ⟨y, rfl, -, -, hR3, ho3⟩
    have hb3 := ho3.keepBlk hb1 (by simp; omega)
    have hs33 : w.heap.size < w3.heap.size := lt_of_blk hb3
    have hO3 := Only.trans hO1 ho3
    clear hR1s hb1 ho3
    go_wp2_with fail
    refine (l5Pairs_any y w3).mono ?_
    rintro e w4 ⟨b1, b2, p, rfl, hp, q1, q2, hA1, hA2, e4⟩
    obtain ⟨pf1, pf2, pf3, pf4⟩ := pairsC_facts p hp
    have pos := pairsC_pos p hp
    have hp2 : p.2.length ≤ maxLen := by unfold maxLen; omega
    have hp1 : p.1.length ≤ maxLen := by unfold maxLen; omega
    have hX2 := Lib.hid (fun W (hW : Ext w4 W) => l5Read_any p.2 b2 0 p.2.length W (hA2.ext hW).1 (Nat.le_refl _) hp2 (by omega) pf4 (hA2.ext hW).2)
    have hX1 := Lib.hid (fun W (hW : Ext w4 W) => l5Read_any p.1 b1 0 p.1.length W (hA1.ext hW).1 (Nat.le_refl _) hp1 (by omega) pf3 (hA1.ext hW).2)
    have hCv : ∀ t ∈ readT p.1, cnt t ≤ 400 := fun t h => (valid_parts (readT_valid h)).2
    have hRv : ∀ t ∈ readT p.2, cnt t ≤ 400 := fun t h => (valid_parts (readT_valid h)).2
    have hC3 : (readT p.1).length ≤ 3 := Nat.le_trans (readT_len _) pf1
    have hL12 : (readT p.2).length ≤ 12 := Nat.le_trans (readT_len _) pf2
    generalize readT p.1 = C at hX1 hCv hC3
    generalize readT p.2 = R at hX2 hRv pos hL12
    generalize p.1.length = P1 at hX1 ⊢
    generalize p.2.length = P2 at hX2 ⊢
    obtain ⟨L, hL⟩ : ∃ L, R.length = L := ⟨_, rfl⟩
    obtain ⟨N3, hN3⟩ : ∃ N3, C.length = N3 := ⟨_, rfl⟩
    rw [hL] at hX2 pos hL12
    rw [hN3] at hX1 hC3
    have HL := Lib.hid hL
    have HN3 := Lib.hid hN3
    have HCV := Lib.hid hCv
    have HRV := Lib.hid hRv
    clear hp pf1 pf2 pf3 pf4 hp1 hp2 hA1 hA2 hL hN3 hCv hRv
    go_wp2_with fail
    refine (hX2.out w4 (Ext.refl _)).mono ?_
    rintro e w5 ⟨A5, c5, rfl, l5, m5, hF5, e5⟩
    have b45 := (e4.trans e5).blk hb3
    have hO5 := hO3.trans (Only.of_ext (L := [g]) (e4.trans e5))
    have hR5 := hR3.ext (e4.trans e5)
    have hs4 := hO3.size
    have hs44 := e4.size
    have hA5 : ∃ b5 o5, A5 = some ⟨b5, o5, none⟩ := by
      rcases hF5 with h | ⟨b5, o5, h, -⟩
      · have := HL.out; rw [h] at this; simp at this; omega
      · exact ⟨b5, o5, h⟩
    obtain ⟨b5, o5, rfl⟩ := hA5
    have HGET := Lib.hid (fun (w' : World) (ho : Only [g] w5 w') (j : Nat) (hj : j < L) => hF5.get (w' := w') (j := j) (fun b hb => ho.block b hb.2 (by have := hb.1; simp; omega)) (by rw [HL.out]; exact hj))
    have HB := Lib.hid (fun (w' : World) (ho : Only [g] w5 w') => own3 (ho.keepBlk b45 (by simp; omega)))
    have hLi : (0 : Int) < (L : Int) := by omega
    have hD5 : Only [g] w5 w5.drew := Only.of_ext (Ext.refl w5).drew
    have HX3 := Lib.hid (hX1.out _ (e5.trans (Ext.refl w5).drew))
    have hR5' := hR5.ext (Ext.refl w5).drew
    have hc5 := m5
    unfold maxLen at hc5
    clear hF5 hb3 hO3 e4 hX1 hX2 hR3 hR5
    go_wp2_with fail
    go_region_law (first
      | (go_simp; go_at_call 157; refine HX3.out.mono ?_; rintro e w6 ⟨A6, c6, rfl, l6, m6, hF6, e6⟩; have hD6 : Only [g] w5 w6 := hD5.trans (Only.of_ext e6))
      | (go_simp; go_at_call 78; refine (pick_any _ g _ (L : Int) (hR5'.ext e6) (by omega)).mono ?_; rintro e w7 ⟨x7, rfl, hx70, hx71, hR7, ho7⟩; obtain ⟨j, rfl⟩ := Int.eq_ofNat_of_zero_le hx70; have hj : j < L := (by omega); have hjz : (j : Int) < (L : Int) := (by omega); obtain ⟨b', o', k7, n7, A7, c7, kids7, hA, HK, x0, x1, x2, hl7, hc7, hK7, hin7, hmem, hSb⟩ := HGET.out w7 (hD6.trans ho7) j hj; cases hA; obtain ⟨s0, s1, s2, f0, f1, f2⟩ := HB.out w7 (hD6.trans ho7)))
    all_goals (
      have hs5 : w5.heap.size ≤ w7.heap.size := (hD6.trans ho7).size
      have hO7 : Only [g] w w7 := hO5.trans (hD6.trans ho7)
      have hs6 : w5.heap.size ≤ w6.heap.size := hD6.size
      have hF7 : From (w.heap.size + 1) w7 _ _ := InT.mono (fun b hb => ⟨by have := hb.1; omega, Nat.lt_of_lt_of_le hb.2 hs5⟩) (fun b hb => rfl) hin7
      have hF6' : FromK (w.heap.size + 1) w7 A6 C := InK.mono (fun b hb => ⟨by have := hb.1; have := (Ext.refl w5).drew.size; omega, Nat.lt_of_lt_of_le hb.2 ho7.size⟩) (fun b hb => ho7.block b hb.2 (by have := hb.1; have := (Ext.refl w5).drew.size; simp; omega)) hF6
      go_wp2_with fail
      refine bodyPost_ret (v := .tuple #[.slice A6 N3 c6, .agg #[.int .i64 k7, .int .i64 n7, .slice A7 kids7.length c7]]) (by simp [results, Try.results96, go_sem, s0, s1, s2]) rfl ⟨A6, N3, c6, C, _, _, rfl, HN3.out, l6, m6, hC3, HCV.out, HRV.out _ hmem, ?_, ?_, ?_, ?_⟩
      · refine InK.mono (fun b hb => ⟨by have := hb.1; omega, by simpa using hb.2⟩) (fun b hb => ?_) hF6'
        have hb1 : w.heap.size + 1 ≤ b := hb.1
        rw [Below.heap_setCell _ _ _ _ (by show b ≠ w.heap.size; omega), Below.heap_setCell _ _ _ _ (by show b ≠ w.heap.size; omega), Below.heap_setCell _ _ _ _ (by show b ≠ w.heap.size; omega)]
      · exact (((hF7.set (by show w.heap.size < _; omega) _).set (by show w.heap.size < _; omega) _).set (by show w.heap.size < _; omega) _).since (by omega)
      · exact (((hR7.mono (show _ ≤ m + 3000 by omega)).set (by show g < w.heap.size; omega) _).set (by show g < w.heap.size; omega) _).set (by show g < w.heap.size; omega) _
      · exact ((hO7.setNew (by show w.heap.size ≤ w.heap.size; omega) _).setNew (by show w.heap.size ≤ w.heap.size; omega) _).setNew (by show w.heap.size ≤ w.heap.size; omega) _)
end Go.Proofs.Ytappakllopkfiaa

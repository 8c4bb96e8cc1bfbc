/-
  Lemmas towards the law, 37: PTerm, FunTm, FunVal.
-/
import Derived.Test.YtolkohncmidpeaaGreatDoorHAL
import Derived.Test.YtolkohncmidpeaaGreatDoorHAQ
import Derived.Test.YtolkohncmidpeaaGreatDoorHBH
import Derived.Test.YtolkohncmidpeaaGreatDoorHBJ
import Derived.Lib.ReplaceLaws
import Derived.Outline
import Derived.Test.YtolkohncmidpeaaGreatDoorDSH
namespace Go.Proofs.YtolkohncmidpeaaGreatDoor
open Go.RowKit
set_option linter.unusedVariables false
attribute [local go_sem ↓] Go.wp_at_zero Go.wp_at_succ
theorem rdV_cases (l : List UInt8) {t : Tr} {y : List UInt8} {ok : Bool} (h : rdT 30 l = (t, y, ok)) : rdV l = if ok = true ∧ y = [] ∧ valid sigT t = true ∧ fmtL t = l then some t else none := by
  unfold rdV
  rw [h]
set_option maxRecDepth 100000 in
set_option maxHeartbeats 4000000 in
theorem parseTermI_any (l : List UInt8) (hl : l.length ≤ 1000000000) (w : World) (hW : EnvR w) : Calls Tryz.prog 41 #[.string (ofL l)] w fun e w' => ∃ u, e = .returned (.tuple #[u, .bool (prsV l).isSome]) ∧ Made w w' 45 ((prsV l).getD dflt0) u ∧ Ext w w' := by
  rw [← rdV_eq]
  have HR := Lib.hid (fun W (hx : Ext w W) => readTerm_any 30 (by omega) 1 l W rfl (hW.ext hx) hl)
  obtain ⟨⟨t, y, ok⟩, hF⟩ : ∃ x, rdT 30 l = x := ⟨_, rfl⟩
  have hV := rdV_cases l hF
  rw [hF] at HR
  obtain ⟨R, hR⟩ : ∃ R, rdV l = R := ⟨_, rfl⟩
  rw [hR] at hV ⊢
  have hFl := hF
  clear hR
  have hx0 := (Ext.refl w).alloc (.cells #[.int .i64 0, .int .i64 0, .slice none 0 0] 45)
  obtain ⟨s, hs⟩ : ∃ s, s = ofL l := ⟨_, rfl⟩
  have hsl : s.toList = l := by rw [hs, ofL_tl]
  have HV := Lib.hid hV
  rw [← hs] at HR ⊢
  clear hF hFl hV hs
  have fail : R = none → True := fun _ => trivial
  cases ok with
  | false =>
    have hn : R = none := by rw [HV.out, if_neg (by simp)]
    subst hn
    go_enter Tryz.func41, Tryz.ntmps41
    go_wp2_with fail
    refine (HR.out _ hx0).mono ?_
    rintro e w1 ⟨u, rfl, hM, h1⟩
    obtain ⟨b1, b2, b3, b4, b5, rfl⟩ := hM.three
    have hb := (blk1 h1).1
    have hx1 := hx0.trans h1
    obtain ⟨y0, y1, y2, f0, f1, f2⟩ := own3 ((((Ext.refl w1).alloc (.cells #[.int .i64 b1, .int .i64 b2, .slice b3 b4 b5] 45))).blk hb)
    go_wp2_with fail
    refine bodyPost_ret (v := .tuple #[.agg #[.int .i64 0, .int .i64 0, .slice none 0 0], .bool false]) (by simp [results, Tryz.results41, go_sem, y0, y1, y2]) rfl ⟨_, rfl, Made.leaf _ _ _ 0 0, ?_⟩
    exact (((hx1.alloc _).setCell (by simp) _).setCell (by simp) _).setCell (by simp) _
  | true =>
    go_enter Tryz.func41, Tryz.ntmps41
    go_wp2_with fail
    refine (HR.out _ hx0).mono ?_
    rintro e w1 ⟨u, rfl, hM, h1⟩
    obtain ⟨k, n, ks⟩ := t
    obtain ⟨A, cap, rfl, hkl, hkc, hMK⟩ := Made.mk_iff.1 hM
    have hb := (blk1 h1).1
    have hsz := h1.size
    have hx1 := hx0.trans h1
    have hx2 : Ext w (w1.alloc (.cells #[.int .i64 k, .int .i64 n, .slice A ks.length cap] 45)) := hx1.alloc _
    have hb2 := ((Ext.refl w1).alloc (.cells #[.int .i64 k, .int .i64 n, .slice A ks.length cap] 45)).blk hb
    have hbn := heap_alloc_new w1 (.cells #[.int .i64 k, .int .i64 n, .slice A ks.length cap] 45)
    cases y with
    | cons c y =>
      have hye : (ofL (c :: y)).toList.isEmpty = false := by rw [ofL_tl]; rfl
      have hn : R = none := by rw [HV.out, if_neg (by simp)]
      subst hn
      obtain ⟨y0, y1, y2, f0, f1, f2⟩ := own3 hb2
      go_wp2_with fail
      refine bodyPost_ret (v := .tuple #[.agg #[.int .i64 0, .int .i64 0, .slice none 0 0], .bool false]) (by simp [results, Tryz.results41, go_sem, y0, y1, y2]) rfl ⟨_, rfl, Made.leaf _ _ _ 0 0, ?_⟩
      exact ((hx2.setCell (by simp) _).setCell (by simp) _).setCell (by simp) _
    | nil =>
      have hye : (ofL []).toList.isEmpty = true := by rw [ofL_tl]; rfl
      have HVT := Lib.hid (fun W (hW : Ext w1 W) => validTerm_any (.mk k n ks) W _ (hM.lies.ext hW))
      cases hz : valid sigT (.mk k n ks) with
      | false =>
        have hn : R = none := by rw [HV.out, if_neg (by simp [hz])]
        subst hn
        rw [hz] at HVT
        clear hz
        obtain ⟨z0, z1, z2, e0, e1, e2⟩ := own3 hbn
        go_wp2_with fail
        refine (HVT.out _ ((Ext.refl w1).alloc _)).mono ?_
        rintro e w3 ⟨rfl, h3⟩
        obtain ⟨y0, y1, y2, f0, f1, f2⟩ := own3 (h3.blk hb2)
        go_wp2_with fail
        refine bodyPost_ret (v := .tuple #[.agg #[.int .i64 0, .int .i64 0, .slice none 0 0], .bool false]) (by simp [results, Tryz.results41, go_sem, y0, y1, y2]) rfl ⟨_, rfl, Made.leaf _ _ _ 0 0, ?_⟩
        exact (((hx2.trans h3).setCell (by simp) _).setCell (by simp) _).setCell (by simp) _
      | true =>
        obtain ⟨q1, q2⟩ := valid_parts hz
        have HTT := Lib.hid (fun W (hX : Ext w1 W) => termText_any (.mk k n ks) W _ 30 ((hW.ext (hx1.trans hX)).1) q1 (by omega) (hM.lies.ext hX))
        obtain ⟨x, hx⟩ : ∃ x, fmtL (.mk k n ks) = x := ⟨_, rfl⟩
        rw [hx] at HTT
        have hVV := HV.out
        rw [hx, hz] at hVV
        rw [hz] at HVT
        by_cases hxl : x = l
        · have hn : R = some (.mk k n ks) := by rw [hVV, if_pos (by simp [hxl])]
          have heq : ((ofL x).toList == s.toList) = true := by rw [hxl, hsl, ofL_tl]; simp
          subst hn
          clear hz hVV hx HV hxl hsl
          obtain ⟨z0, z1, z2, e0, e1, e2⟩ := own3 hbn
          go_wp2_with fail
          refine (HVT.out _ ((Ext.refl w1).alloc _)).mono ?_
          rintro e w3 ⟨rfl, h3⟩
          obtain ⟨z0, z1, z2, e0, e1, e2⟩ := own3 (h3.blk hbn)
          go_wp2_with fail
          refine (HTT.out _ (((Ext.refl w1).alloc _).trans h3)).mono ?_
          rintro e w4 ⟨rfl, h4⟩
          have h34 := h3.trans h4
          have hs34 := h34.size
          obtain ⟨y0, y1, y2, f0, f1, f2⟩ := own3 (h34.blk hb2)
          obtain ⟨z0, z1, z2, e0, e1, e2⟩ := own3 (h34.blk hbn)
          go_wp2_with fail
          refine bodyPost_ret (v := .tuple #[.agg #[.int .i64 k, .int .i64 n, .slice A ks.length cap], .bool true]) (by simp [results, Tryz.results41, go_sem, y0, y1, y2]) rfl ⟨_, rfl, Made.since (w := w.alloc (.cells #[.int .i64 0, .int .i64 0, .slice none 0 0] 45)) ((hM.ext (((Ext.refl w1).alloc _).trans h34)).after ((((Above.refl _ _).setCell (p := ⟨w.heap.size, 0, none⟩) (by simp) _).setCell (p := ⟨w.heap.size, 1, none⟩) (by simp) _).setCell (p := ⟨w.heap.size, 2, none⟩) (by simp) _)) (by simp), ?_⟩
          exact (((hx2.trans h34).setCell (by simp) _).setCell (by simp) _).setCell (by simp) _
        · have hn : R = none := by rw [hVV, if_neg (fun h => hxl h.2.2.2)]
          have heq : ((ofL x).toList == s.toList) = false := by rw [hsl, ofL_tl]; exact beq_eq_false_iff_ne.2 hxl
          subst hn
          clear hz hVV hx HV hxl hsl
          obtain ⟨z0, z1, z2, e0, e1, e2⟩ := own3 hbn
          go_wp2_with fail
          refine (HVT.out _ ((Ext.refl w1).alloc _)).mono ?_
          rintro e w3 ⟨rfl, h3⟩
          obtain ⟨z0, z1, z2, e0, e1, e2⟩ := own3 (h3.blk hbn)
          go_wp2_with fail
          refine (HTT.out _ (((Ext.refl w1).alloc _).trans h3)).mono ?_
          rintro e w4 ⟨rfl, h4⟩
          have h34 := h3.trans h4
          have hs34 := h34.size
          obtain ⟨y0, y1, y2, f0, f1, f2⟩ := own3 (h34.blk hb2)
          go_wp2_with fail
          refine bodyPost_ret (v := .tuple #[.agg #[.int .i64 0, .int .i64 0, .slice none 0 0], .bool false]) (by simp [results, Tryz.results41, go_sem, y0, y1, y2]) rfl ⟨_, rfl, Made.leaf _ _ _ 0 0, ?_⟩
          exact (((hx2.trans h34).setCell (by simp) _).setCell (by simp) _).setCell (by simp) _
end Go.Proofs.YtolkohncmidpeaaGreatDoor
namespace Go.Proofs.YtolkohncmidpeaaGreatDoor
open Go.RowKit
set_option linter.unusedVariables false
attribute [local go_sem ↓] Go.wp_at_zero Go.wp_at_succ
/-- What FunTerm answers. -/
def fnV (k : Int) : Option Tr := prsV (gtx k)
theorem gtx_other {k : Int} (h : ¬ (1 ≤ k ∧ k ≤ 7)) : gtx k = [] := by
  unfold gtx fnT
  simp only [if_neg (show ¬ k = 1 by omega), if_neg (show ¬ k = 2 by omega), if_neg (show ¬ k = 3 by omega), if_neg (show ¬ k = 4 by omega), if_neg (show ¬ k = 5 by omega), if_neg (show ¬ k = 6 by omega), if_neg (show ¬ k = 7 by omega)]
theorem ftx_other {k : Int} (h : ¬ (1 ≤ k ∧ k ≤ 7)) : ftx k = [] := by
  unfold ftx
  simp only [if_neg (show ¬ k = 1 by omega), if_neg (show ¬ k = 2 by omega), if_neg (show ¬ k = 3 by omega), if_neg (show ¬ k = 4 by omega), if_neg (show ¬ k = 5 by omega), if_neg (show ¬ k = 6 by omega), if_neg (show ¬ k = 7 by omega)]
theorem prs_nil : prsV [] = none := by decide +kernel
theorem rep_nil : Lib.replaceAll [] [80] (ftx 1) = [] ∧ Lib.replaceAll [] [81] (ftx 3) = [] := by decide +kernel
theorem seven {k : Int} (h : 1 ≤ k ∧ k ≤ 7) : k = 1 ∨ k = 2 ∨ k = 3 ∨ k = 4 ∨ k = 5 ∨ k = 6 ∨ k = 7 := by omega
/-- The program's two replacements, whatever the number. -/
theorem rep_two (k : Int) : Lib.replaceAll (Lib.replaceAll (ftx k) [80] (ftx 1)) [81] (ftx 3) = gtx k := by
  by_cases h : 1 ≤ k ∧ k ≤ 7
  · obtain ⟨n, hn, rfl⟩ : ∃ n : Nat, n < 8 ∧ k = (n : Int) := ⟨k.toNat, by omega, by omega⟩
    have := rep_all ⟨n, hn⟩
    rw [this.1, this.2]
  · rw [ftx_other h, gtx_other h, rep_nil.1, rep_nil.2]
theorem txt_len (k : Int) : (ftx k).length ≤ 200 ∧ (Lib.replaceAll (ftx k) [80] (ftx 1)).length ≤ 400 ∧ (gtx k).length ≤ 400 := by
  by_cases h : 1 ≤ k ∧ k ≤ 7
  · have : ∀ n : Fin 8, (ftx (n.val : Int)).length ≤ 200 ∧ (Lib.replaceAll (ftx (n.val : Int)) [80] (ftx 1)).length ≤ 400 ∧ (gtx (n.val : Int)).length ≤ 400 := by decide +kernel
    obtain ⟨n, hn, rfl⟩ : ∃ n : Nat, n < 8 ∧ k = (n : Int) := ⟨k.toNat, by omega, by omega⟩
    exact this ⟨n, hn⟩
  · rw [ftx_other h, gtx_other h, rep_nil.1]; simp
set_option maxRecDepth 100000 in
set_option maxHeartbeats 1000000 in
theorem funText_any (k : Int) (w : World) : Calls Tryz.prog 65 #[.int .i64 k] w fun e w' => e = .returned (.string (ofL (ftx k))) ∧ Ext w w' := by
  by_cases h : 1 ≤ k ∧ k ≤ 7
  · rcases seven h with rfl | rfl | rfl | rfl | rfl | rfl | rfl
    all_goals go_enter Tryz.func65, Tryz.ntmps65
    all_goals go_wp2_with fail
    all_goals go_ret
    all_goals exact ⟨rfl, Ext.refl _⟩
  · have d1 : (k == 1) = false := by simp; omega
    have d2 : (k == 2) = false := by simp; omega
    have d3 : (k == 3) = false := by simp; omega
    have d4 : (k == 4) = false := by simp; omega
    have d5 : (k == 5) = false := by simp; omega
    have d6 : (k == 6) = false := by simp; omega
    have d7 : (k == 7) = false := by simp; omega
    rw [ftx_other h]
    go_enter Tryz.func65, Tryz.ntmps65
    go_wp2_with fail
    go_ret
    exact ⟨rfl, Ext.refl _⟩
theorem replaceAll_any (a b c : List UInt8) (w : World) (hW : EnvR w) (hb : b.length = 1) (ha : a.length ≤ 1000) (hc : c.length ≤ 1000) :
    Calls Tryz.prog 64 #[.string (ofL a), .string (ofL b), .string (ofL c)] w fun e w' => e = .returned (.string (ofL (Lib.replaceAll a b c))) ∧ Ext w w' := by
  have hcount := Lib.countB_mul_le (ofL b) (by rw [ofL_size]; omega) (ofL a).size (ofL a) (Nat.le_refl _)
  rw [ofL_size, ofL_size, hb, Nat.mul_one] at hcount
  obtain ⟨m, hm⟩ := hW.1
  have := Tryz.strings_ReplaceAll (ofL a) (ofL b) (ofL c) m w (by rw [ofL_size]; omega) hm (by rw [ofL_size]; omega) (by
    rw [ofL_size, ofL_size]
    have : Lib.countB (ofL a) (ofL b) * c.length ≤ 1000 * 1000 := Nat.mul_le_mul (by omega) hc
    omega)
  rw [ofL_list, ofL_list, ofL_list] at this
  exact this.mono fun e w' ⟨h1, h2⟩ => ⟨h1, h2⟩
set_option maxRecDepth 100000 in
set_option maxHeartbeats 1000000 in
theorem funTerm_any (k : Int) (w : World) (hW : EnvR w) : Calls Tryz.prog 24 #[.int .i64 k] w fun e w' => ∃ u, e = .returned (.tuple #[u, .bool (fnV k).isSome]) ∧ Made w w' 45 ((fnV k).getD dflt0) u ∧ Ext w w' := by
  obtain ⟨T0, h0⟩ : ∃ l, ftx k = l := ⟨_, rfl⟩
  obtain ⟨T1, h1⟩ : ∃ l, ftx 1 = l := ⟨_, rfl⟩
  obtain ⟨T3, h3⟩ : ∃ l, ftx 3 = l := ⟨_, rfl⟩
  have H0 := Lib.hid (fun W => funText_any k W)
  have H1 := Lib.hid (fun W => funText_any 1 W)
  have H3 := Lib.hid (fun W => funText_any 3 W)
  have hr := rep_two k
  have l0 := (txt_len k).1
  have l1 := (txt_len 1).1
  have l3 := (txt_len 3).1
  have lr := (txt_len k).2.1
  have lg := (txt_len k).2.2
  rw [← hr] at lg
  unfold fnV
  rw [← hr]
  rw [h0, h1, h3] at hr lg ⊢
  rw [h0] at H0 l0
  rw [h1] at H1 l1
  rw [h3] at H3 l3
  rw [h0, h1] at lr
  have HA := Lib.hid (fun W (hx : Ext w W) => replaceAll_any T0 [80] T1 W (hW.ext hx) rfl (by omega) (by omega))
  obtain ⟨TA, hA⟩ : ∃ l, Lib.replaceAll T0 [80] T1 = l := ⟨_, rfl⟩
  rw [hA] at HA hr lr lg ⊢
  have HB := Lib.hid (fun W (hx : Ext w W) => replaceAll_any TA [81] T3 W (hW.ext hx) rfl (by omega) (by omega))
  obtain ⟨TB, hB⟩ : ∃ l, Lib.replaceAll TA [81] T3 = l := ⟨_, rfl⟩
  rw [hB] at HB hr lg ⊢
  have HP := Lib.hid (fun W (hx : Ext w W) => parseTermI_any TB (by omega) W (hW.ext hx))
  obtain ⟨R, hR⟩ : ∃ R, prsV TB = R := ⟨_, rfl⟩
  rw [hR] at HP ⊢
  clear hr hR hA hB h0 h1 h3 l0 l1 l3 lr lg
  obtain ⟨S0, s0⟩ : ∃ s, ofL T0 = s := ⟨_, rfl⟩
  obtain ⟨S1, s1⟩ : ∃ s, ofL T1 = s := ⟨_, rfl⟩
  obtain ⟨S3, s3⟩ : ∃ s, ofL T3 = s := ⟨_, rfl⟩
  obtain ⟨SA, sA⟩ : ∃ s, ofL TA = s := ⟨_, rfl⟩
  obtain ⟨SB, sB⟩ : ∃ s, ofL TB = s := ⟨_, rfl⟩
  rw [s0] at H0 HA
  rw [s1] at H1 HA
  rw [s3] at H3 HB
  rw [sA] at HA HB
  rw [sB] at HB HP
  rw [show ofL [80] = { data := #[80] } from rfl] at HA
  rw [show ofL [81] = { data := #[81] } from rfl] at HB
  clear s0 s1 s3 sA sB
  have hx0 := (Ext.refl w).alloc (.cells #[.int .i64 0, .int .i64 0, .slice none 0 0] 45)
  go_enter Tryz.func24, Tryz.ntmps24
  go_wp2_with fail
  refine (H0.out _).mono ?_
  rintro e w1 ⟨rfl, h1⟩
  have x1 := hx0.trans h1
  have x01 : Ext (w.alloc (.cells #[.int .i64 0, .int .i64 0, .slice none 0 0] 45)) w1 := h1
  clear h1
  go_wp2_with fail
  refine (H1.out _).mono ?_
  rintro e w2 ⟨rfl, h1⟩
  have x2 := x1.trans h1
  have x02 := x01.trans h1
  clear x1 h1 x01
  go_wp2_with fail
  refine (HA.out _ x2).mono ?_
  rintro e w3 ⟨rfl, h1⟩
  have x3 := x2.trans h1
  have x03 := x02.trans h1
  clear x2 h1 x02
  go_wp2_with fail
  refine (H3.out _).mono ?_
  rintro e w4 ⟨rfl, h1⟩
  have x4 := x3.trans h1
  have x04 := x03.trans h1
  clear x3 h1 x03
  go_wp2_with fail
  refine (HB.out _ x4).mono ?_
  rintro e w5 ⟨rfl, h1⟩
  have x5 := x4.trans h1
  have x05 := x04.trans h1
  clear x4 h1 x04
  go_wp2_with fail
  refine (HP.out _ x5).mono ?_
  rintro e w6 ⟨u, rfl, hM, h1⟩
  obtain ⟨a, b, A, l, c, rfl⟩ := hM.three
  have x6 := x5.trans h1
  have x06 := x05.trans h1
  have hM' := (hM.since (a := w.alloc (.cells #[.int .i64 0, .int .i64 0, .slice none 0 0] 45)) x05.size)
  have hs := x06.size
  obtain ⟨y0, y1, y2, f0, f1, f2⟩ := own3 (x06.blk (heap_alloc_new w _))
  go_wp2_with fail
  refine bodyPost_ret (v := .tuple #[.agg #[.int .i64 a, .int .i64 b, .slice A l c], .bool R.isSome]) (by simp [results, Tryz.results24, go_sem, y0, y1, y2]) rfl ⟨_, rfl, ?_, ?_⟩
  · exact Made.since (w := w.alloc (.cells #[.int .i64 0, .int .i64 0, .slice none 0 0] 45)) (hM'.after ((((Above.refl _ _).setCell (p := ⟨w.heap.size, 0, none⟩) (by simp) _).setCell (p := ⟨w.heap.size, 1, none⟩) (by simp) _).setCell (p := ⟨w.heap.size, 2, none⟩) (by simp) _)) (by simp)
  · exact ((x6.setCell (by simp) _).setCell (by simp) _).setCell (by simp) _
set_option maxRecDepth 100000 in
set_option maxHeartbeats 1000000 in
theorem l10Texts_any (w : World) : Calls Tryz.prog 71 #[] w fun e w' => ∃ b, e = .returned (.slice (some ⟨b, 0, none⟩) 8 8) ∧ w.heap.size ≤ b ∧ (∀ k : Nat, k < 8 → w'.cell? ⟨b, k, none⟩ = some (.string (ofL (gtx k)))) ∧ Ext w w' := by
  go_enter Tryz.func71, Tryz.ntmps71
  go_wp2_with fail
  go_enter Tryz.func108, Tryz.ntmps108
  go_wp2_with fail
  go_ret
  go_wp2_with fail
  refine ⟨fun k hk => ?_, ?_⟩
  · rcases (show k = 0 ∨ k = 1 ∨ k = 2 ∨ k = 3 ∨ k = 4 ∨ k = 5 ∨ k = 6 ∨ k = 7 by omega) with rfl | rfl | rfl | rfl | rfl | rfl | rfl | rfl
    · simp only [List.getElem?_cons_zero]; exact congrArg (fun s => some (Value.string s)) (by decide +kernel)
    all_goals (simp only [List.getElem?_cons_zero, List.getElem?_cons_succ]; exact congrArg (fun s => some (Value.string s)) (by decide +kernel))
  · exact (Ext.refl w).alloc _
theorem size_lit (k : Int) : (ofL (gtx k)).size ≤ 1000000000 := by have := (txt_len k).2.2; rw [ofL_size]; omega
set_option maxRecDepth 100000 in
set_option maxHeartbeats 2000000 in
theorem specFunTerm_any (k : Int) (w : World) : Calls Tryz.prog 29 #[.int .i64 k] w fun e w' => ∃ u, e = .returned (.tuple #[u, .bool (fnV k).isSome]) ∧ From w.heap.size w' ((fnV k).getD dflt0) u ∧ Ext w w' := by
  have hx0 := (Ext.refl w).alloc (.cells #[.int .i64 0, .int .i64 0, .slice none 0 0] 45)
  by_cases h : 1 ≤ k ∧ k ≤ 7
  · have HP := Lib.hid (fun W => parseTerm_any (ofL (gtx k)) W (size_lit k))
    rw [ofL_list] at HP
    unfold fnV
    obtain ⟨R, hR⟩ : ∃ R, prsV (gtx k) = R := ⟨_, rfl⟩
    rw [hR] at HP ⊢
    obtain ⟨s, hs⟩ : ∃ s, ofL (gtx k) = s := ⟨_, rfl⟩
    rw [hs] at HP
    have HT : (∀ W, Calls Tryz.prog 71 #[] W fun e w' => ∃ b, e = .returned (.slice (some ⟨b, 0, none⟩) 8 8) ∧ W.heap.size ≤ b ∧ w'.cell? ⟨b, k.toNat, none⟩ = some (.string s) ∧ Ext W w') := (fun W => (l10Texts_any W).mono (by
      rintro e w' ⟨b, rfl, h1, h2, h3⟩
      refine ⟨b, rfl, h1, ?_, h3⟩
      rw [h2 k.toNat (by omega), ← hs, Int.toNat_of_nonneg (by omega)]))
    replace HT := Lib.hid HT
    clear hR hs
    rcases seven h with rfl | rfl | rfl | rfl | rfl | rfl | rfl
    all_goals go_enter Tryz.func29, Tryz.ntmps29
    all_goals go_wp2_with fail
    all_goals refine (HT.out _).mono ?_
    all_goals rintro e w1 ⟨b, rfl, hb, hcell, h1⟩
    all_goals simp only [Int.reduceToNat] at hcell
    all_goals go_wp2_with fail
    all_goals refine (HP.out _).mono ?_
    all_goals rintro e w2 ⟨u, rfl, hM, h2⟩
    all_goals obtain ⟨a, b', A, l, c, rfl⟩ := hM.three
    all_goals have x02 := h1.trans h2
    all_goals have x2 := hx0.trans x02
    all_goals have s1 := h1.size
    all_goals simp only [World.size_alloc] at s1
    all_goals have hM' := hM.since (C := w.heap.size + 1) s1
    all_goals obtain ⟨y0, y1, y2, f0, f1, f2⟩ := own3 (x02.blk (heap_alloc_new w _))
    all_goals go_wp2_with fail
    all_goals refine bodyPost_ret (v := .tuple #[.agg #[.int .i64 a, .int .i64 b', .slice A l c], .bool R.isSome]) (by simp [results, Tryz.results29, go_sem, y0, y1, y2]) rfl ⟨_, rfl, ?_, ?_⟩
    all_goals first
      | exact ((x2.setCell (by simp) _).setCell (by simp) _).setCell (by simp) _
      | exact From.since (((hM'.set (p := ⟨w.heap.size, 0, none⟩) (by simp) _).set (p := ⟨w.heap.size, 1, none⟩) (by simp) _).set (p := ⟨w.heap.size, 2, none⟩) (by simp) _) (by omega)
  · have hn : fnV k = none := by unfold fnV; rw [gtx_other h]; exact prs_nil
    rw [hn]
    obtain ⟨y0, y1, y2, f0, f1, f2⟩ := own3 (heap_alloc_new w (.cells #[.int .i64 0, .int .i64 0, .slice none 0 0] 45))
    by_cases h1 : k < 1
    · have d1 : decide (k < 1) = true := decide_eq_true h1
      go_enter Tryz.func29, Tryz.ntmps29
      go_wp2_with fail
      refine bodyPost_ret (v := .tuple #[.agg #[.int .i64 0, .int .i64 0, .slice none 0 0], .bool false]) (by simp [results, Tryz.results29, go_sem, y0, y1, y2]) rfl ⟨_, rfl, From.leaf _ _ 0 0, ?_⟩
      exact hx0
    · have d1 : decide (k < 1) = false := decide_eq_false h1
      have d2 : decide (7 < k) = true := decide_eq_true (by omega)
      go_enter Tryz.func29, Tryz.ntmps29
      go_wp2_with fail
      refine bodyPost_ret (v := .tuple #[.agg #[.int .i64 0, .int .i64 0, .slice none 0 0], .bool false]) (by simp [results, Tryz.results29, go_sem, y0, y1, y2]) rfl ⟨_, rfl, From.leaf _ _ 0 0, ?_⟩
      exact hx0
end Go.Proofs.YtolkohncmidpeaaGreatDoor
namespace Go.Proofs.YtolkohncmidpeaaGreatDoor
open Go.RowKit
set_option linter.unusedVariables false
set_option maxHeartbeats 2000000 in
theorem funValue_any (f : Int) (ns : List Int) (w : World) (A : Option Addr) (cap : Nat) (hl : ns.length ≤ cap) (hc : cap ≤ maxLen) (h : Nums w A ns) :
    Calls Tryz.prog 23 #[.int .i64 f, .slice A ns.length cap] w fun e w' => e = .returned (.tuple #[.int .i64 (funVal f ns).1, .bool (funVal f ns).2]) ∧ Ext w w' := by
  have HA := Lib.hid (areArgs_any f ns w A cap hl hc h)
  obtain ⟨z, hz⟩ : ∃ z, fits f ns = z := ⟨_, rfl⟩
  rw [hz] at HA
  cases z with
  | false =>
    have e : funVal f ns = (0, false) := by unfold funVal; rw [hz]; rfl
    have E := Lib.hid e
    clear e hz
    go_enter Tryz.func23, Tryz.ntmps23
    go_wp2_with fail
    refine HA.out.mono ?_
    rintro e w1 ⟨rfl, h1⟩
    go_wp2_with fail
    go_ret2
    exact ⟨by rw [E.out]; rfl, h1⟩
  | true =>
    rcases fits_true hz with ⟨a, b, rfl, ha0, ha1, hb0, hb1, hf⟩ | ⟨a, rfl, ha0, ha1, hf⟩
    · rcases hf with rfl | rfl | rfl
      · have e : funVal 1 [a, b] = (a + b, true) := by unfold funVal; rw [hz]; rfl
        have E := Lib.hid e
        clear e hz
        go_enter Tryz.func23, Tryz.ntmps23
        go_wp2_with fail
        refine HA.out.mono ?_
        rintro e w1 ⟨rfl, h1⟩
        obtain ⟨b1, o1, rfl, c0⟩ := h.get h1 (j := 0) (by simp)
        obtain ⟨b2, o2, e2, c1⟩ := h.get h1 (j := 1) (by simp)
        injection e2 with e2
        injection e2 with e3 e4
        subst e3 e4
        simp only [List.getElem_cons_zero, List.getElem_cons_succ, Nat.add_zero] at c0 c1
        clear HA
        go_wp2_with fail
        all_goals go_ret2
        all_goals exact ⟨by rw [E.out]; first | rfl | (simp; done) | (simp; omega) | omega, h1⟩
      · have hab0 : 0 ≤ a * b := Int.mul_nonneg ha0 hb0
        have hab1 : a * b ≤ 400 := Int.le_trans (Int.mul_le_mul ha1 hb1 hb0 (by omega)) (by omega)
        have e : funVal 2 [a, b] = (a * b, true) := by unfold funVal; rw [hz]; rfl
        have E := Lib.hid e
        clear e hz
        go_enter Tryz.func23, Tryz.ntmps23
        go_wp2_with fail
        refine HA.out.mono ?_
        rintro e w1 ⟨rfl, h1⟩
        obtain ⟨b1, o1, rfl, c0⟩ := h.get h1 (j := 0) (by simp)
        obtain ⟨b2, o2, e2, c1⟩ := h.get h1 (j := 1) (by simp)
        injection e2 with e2
        injection e2 with e3 e4
        subst e3 e4
        simp only [List.getElem_cons_zero, List.getElem_cons_succ, Nat.add_zero] at c0 c1
        clear HA
        go_wp2_with fail
        all_goals go_ret2
        all_goals exact ⟨by rw [E.out]; first | rfl | (simp; done) | (simp; omega) | omega, h1⟩
      · by_cases hlt : a < b
        · have d1 : decide (a < b) = true := decide_eq_true hlt
          have e : funVal 4 [a, b] = (0, true) := by unfold funVal; rw [hz]; show (if a < b then 0 else a - b, true) = _; rw [if_pos hlt]
          have E := Lib.hid e
          clear e hz
          go_enter Tryz.func23, Tryz.ntmps23
          go_wp2_with fail
          refine HA.out.mono ?_
          rintro e w1 ⟨rfl, h1⟩
          obtain ⟨b1, o1, rfl, c0⟩ := h.get h1 (j := 0) (by simp)
          obtain ⟨b2, o2, e2, c1⟩ := h.get h1 (j := 1) (by simp)
          injection e2 with e2
          injection e2 with e3 e4
          subst e3 e4
          simp only [List.getElem_cons_zero, List.getElem_cons_succ, Nat.add_zero] at c0 c1
          clear HA
          go_wp2_with fail
          all_goals go_ret2
          all_goals exact ⟨by rw [E.out]; first | rfl | (simp; done) | (simp; omega) | omega, h1⟩
        · have d1 : decide (a < b) = false := decide_eq_false hlt
          have e : funVal 4 [a, b] = (a - b, true) := by unfold funVal; rw [hz]; show (if a < b then 0 else a - b, true) = _; rw [if_neg hlt]
          have E := Lib.hid e
          clear e hz
          go_enter Tryz.func23, Tryz.ntmps23
          go_wp2_with fail
          refine HA.out.mono ?_
          rintro e w1 ⟨rfl, h1⟩
          obtain ⟨b1, o1, rfl, c0⟩ := h.get h1 (j := 0) (by simp)
          obtain ⟨b2, o2, e2, c1⟩ := h.get h1 (j := 1) (by simp)
          injection e2 with e2
          injection e2 with e3 e4
          subst e3 e4
          simp only [List.getElem_cons_zero, List.getElem_cons_succ, Nat.add_zero] at c0 c1
          clear HA
          go_wp2_with fail
          all_goals go_ret2
          all_goals exact ⟨by rw [E.out]; first | rfl | (simp; done) | (simp; omega) | omega, h1⟩
    · rcases hf with rfl | rfl | rfl
      · by_cases h0 : a = 0
        · subst h0
          have e : funVal 3 [0] = (0, true) := by unfold funVal; rw [hz]; rfl
          have E := Lib.hid e
          clear e hz
          go_enter Tryz.func23, Tryz.ntmps23
          go_wp2_with fail
          refine HA.out.mono ?_
          rintro e w1 ⟨rfl, h1⟩
          obtain ⟨b1, o1, rfl, c0⟩ := h.get h1 (j := 0) (by simp)
          simp only [List.getElem_cons_zero, Nat.add_zero] at c0
          clear HA
          go_wp2_with fail
          all_goals go_ret2
          all_goals exact ⟨by rw [E.out]; first | rfl | (simp; done) | (simp; omega) | omega, h1⟩
        · have d1 : (a == 0) = false := by rw [beq_eq_false_iff_ne]; exact h0
          have e : funVal 3 [a] = (a - 1, true) := by unfold funVal; rw [hz]; show (if a = 0 then 0 else a - 1, true) = _; rw [if_neg h0]
          have E := Lib.hid e
          clear e hz
          go_enter Tryz.func23, Tryz.ntmps23
          go_wp2_with fail
          refine HA.out.mono ?_
          rintro e w1 ⟨rfl, h1⟩
          obtain ⟨b1, o1, rfl, c0⟩ := h.get h1 (j := 0) (by simp)
          simp only [List.getElem_cons_zero, Nat.add_zero] at c0
          clear HA
          go_wp2_with fail
          all_goals go_ret2
          all_goals exact ⟨by rw [E.out]; first | rfl | (simp; done) | (simp; omega) | omega, h1⟩
      · by_cases h0 : a = 0
        · subst h0
          have e : funVal 5 [0] = (1, true) := by unfold funVal; rw [hz]; rfl
          have E := Lib.hid e
          clear e hz
          go_enter Tryz.func23, Tryz.ntmps23
          go_wp2_with fail
          refine HA.out.mono ?_
          rintro e w1 ⟨rfl, h1⟩
          obtain ⟨b1, o1, rfl, c0⟩ := h.get h1 (j := 0) (by simp)
          simp only [List.getElem_cons_zero, Nat.add_zero] at c0
          clear HA
          go_wp2_with fail
          all_goals go_ret2
          all_goals exact ⟨by rw [E.out]; first | rfl | (simp; done) | (simp; omega) | omega, h1⟩
        · have d1 : (a == 0) = false := by rw [beq_eq_false_iff_ne]; exact h0
          have e : funVal 5 [a] = (0, true) := by unfold funVal; rw [hz]; show (if a = 0 then 1 else 0, true) = _; rw [if_neg h0]
          have E := Lib.hid e
          clear e hz
          go_enter Tryz.func23, Tryz.ntmps23
          go_wp2_with fail
          refine HA.out.mono ?_
          rintro e w1 ⟨rfl, h1⟩
          obtain ⟨b1, o1, rfl, c0⟩ := h.get h1 (j := 0) (by simp)
          simp only [List.getElem_cons_zero, Nat.add_zero] at c0
          clear HA
          go_wp2_with fail
          all_goals go_ret2
          all_goals exact ⟨by rw [E.out]; first | rfl | (simp; done) | (simp; omega) | omega, h1⟩
      · have e : funVal 6 [a] = (2 * a, true) := by unfold funVal; rw [hz]; rfl
        have E := Lib.hid e
        clear e hz
        go_enter Tryz.func23, Tryz.ntmps23
        go_wp2_with fail
        refine HA.out.mono ?_
        rintro e w1 ⟨rfl, h1⟩
        obtain ⟨b1, o1, rfl, c0⟩ := h.get h1 (j := 0) (by simp)
        simp only [List.getElem_cons_zero, Nat.add_zero] at c0
        clear HA
        go_wp2_with fail
        all_goals go_ret2
        all_goals exact ⟨by rw [E.out]; first | rfl | (simp; done) | (simp; omega) | omega, h1⟩
set_option maxHeartbeats 400000 in
theorem specFits (f : Int) (ns : List Int) (w : World) (A : Option Addr) (cap : Nat) (hl : ns.length ≤ cap) (hc : cap ≤ maxLen) (h : Nums w A ns) :
    Calls Tryz.prog 51 #[.int .i64 f, .slice A ns.length cap] w fun e w' => e = .returned (.bool (fits f ns)) ∧ Ext w w' := by
  unfold maxLen at hc
  go_enter Tryz.func51, Tryz.ntmps51
  go_wp2_with fail
  go_loopw [5] (fun i wr => ∃ j : Nat, j ≤ ns.length ∧ i = .int .i64 j ∧ ns.all (fun n => inR n 0 20) = (ns.drop j).all (fun n => inR n 0 20) ∧ Ext w wr) (fun i _ => ns.length - (intOf i).toNat)
  case atStart => exact ⟨0, Nat.zero_le _, rfl, rfl, Ext.refl _⟩
  case round =>
    obtain ⟨j, hj, rfl, heq, hx⟩ := hrel
    by_cases hlt : j < ns.length
    · obtain ⟨b, o, rfl, c0⟩ := h.get hx hlt
      have hst : (ns.drop j).all (fun n => inR n 0 20) = (inR ns[j] 0 20 && (ns.drop (j + 1)).all (fun n => inR n 0 20)) := by
        rw [List.drop_eq_getElem_cons hlt, List.all_cons]
      rw [hst] at heq
      generalize ns[j] = q at heq c0
      have hf : inR q 0 20 = false → fits f ns = false := fun h => by
        unfold fits
        rw [heq, h]
        simp
      have hj0 : (0 : Int) ≤ (j : Int) := Int.natCast_nonneg _
      have hj1 : (j : Int) < (ns.length : Int) := by omega
      by_cases h1 : q < 0
      · have d1 : decide (q < 0) = true := decide_eq_true h1
        have HF := Lib.hid (hf (inR_false.2 (.inl h1)))
        clear heq hst hf
        go_wp2_with fail
        go_ret
        exact ⟨by rw [HF.out]; rfl, hx⟩
      · have d1 : decide (q < 0) = false := decide_eq_false h1
        by_cases h2 : 20 < q
        · have d2 : decide (20 < q) = true := decide_eq_true h2
          have HF := Lib.hid (hf (inR_false.2 (.inr h2)))
          clear heq hst hf
          go_wp2_with fail
          go_ret
          exact ⟨by rw [HF.out]; rfl, hx⟩
        · have d2 : decide (20 < q) = false := decide_eq_false h2
          rw [inR_iff.2 ⟨by omega, by omega⟩, Bool.true_and] at heq
          have HE := Lib.hid heq
          clear heq hst hf
          go_wp2_with fail
          go_roundw
          case rel => exact ⟨j + 1, by omega, by go_num, HE.out, hx⟩
          case measure => simp [intOf]; omega
    · rw [List.drop_of_length_le (by omega)] at heq
      have e : fits f ns = decide (arity f = (ns.length : Int)) := by unfold fits; rw [heq]; simp
      by_cases ha : arity f = (ns.length : Int)
      · rw [decide_eq_true ha] at e
        have E := Lib.hid e
        have d1 : (arity f == (ns.length : Int)) = true := by rw [ha]; simp
        clear e heq ha
        go_wp2_with fail
        refine (specArity _ _).mono ?_
        rintro e w1 ⟨rfl, rfl⟩
        go_wp2_with fail
        go_ret
        exact ⟨by rw [E.out]; rfl, hx⟩
      · rw [decide_eq_false ha] at e
        have E := Lib.hid e
        have d1 : (arity f == (ns.length : Int)) = false := by rw [beq_eq_false_iff_ne]; exact ha
        clear e heq ha
        go_wp2_with fail
        refine (specArity _ _).mono ?_
        rintro e w1 ⟨rfl, rfl⟩
        go_wp2_with fail
        go_ret
        exact ⟨by rw [E.out]; rfl, hx⟩
end Go.Proofs.YtolkohncmidpeaaGreatDoor

/-
  Lemmas towards the law, 5: SpecValid, Free.
-/
import Derived.Test.YtolkohncmidpeaaGreatDoorHAD
import Derived.Outline
namespace Go.Proofs.YtolkohncmidpeaaGreatDoor
open Go.RowKit
set_option linter.unusedVariables false
set_option maxHeartbeats 1000000 in
theorem specopsT (k : Int) (w : World) : Calls Tryz.prog 156 #[.int .i64 k] w fun e w' => e = .returned (.int .i64 (opsT k)) ∧ w = w' := by
  by_cases h : 1 ≤ k ∧ k ≤ 16
  · rcases (by omega : k = 1 ∨ k = 2 ∨ k = 3 ∨ k = 4 ∨ k = 5 ∨ k = 6 ∨ k = 7 ∨ k = 8 ∨ k = 9 ∨ k = 10 ∨ k = 11 ∨ k = 12 ∨ k = 13 ∨ k = 14 ∨ k = 15 ∨ k = 16) with rfl | rfl | rfl | rfl | rfl | rfl | rfl | rfl | rfl | rfl | rfl | rfl | rfl | rfl | rfl | rfl
    all_goals
      go_enter Tryz.func156, Tryz.ntmps156
      go_wp2_with fail
      go_ret
      exact ⟨rfl, rfl⟩
  · have e : opsT k = -1 := by
      unfold opsT
      repeat rw [if_neg (by omega)]
    have f1 : (k == 1) = false := by simp; omega
    have f2 : (k == 2) = false := by simp; omega
    have f3 : (k == 3) = false := by simp; omega
    have f4 : (k == 4) = false := by simp; omega
    have f5 : (k == 5) = false := by simp; omega
    have f6 : (k == 6) = false := by simp; omega
    have f7 : (k == 7) = false := by simp; omega
    have f8 : (k == 8) = false := by simp; omega
    have f9 : (k == 9) = false := by simp; omega
    have f10 : (k == 10) = false := by simp; omega
    have f11 : (k == 11) = false := by simp; omega
    have f12 : (k == 12) = false := by simp; omega
    have f13 : (k == 13) = false := by simp; omega
    have f14 : (k == 14) = false := by simp; omega
    have f15 : (k == 15) = false := by simp; omega
    have f16 : (k == 16) = false := by simp; omega
    have E := Lib.hid e
    clear e h
    go_enter Tryz.func156, Tryz.ntmps156
    go_wp2_with fail
    go_ret
    exact ⟨by rw [E.out]; rfl, rfl⟩
theorem specmostT (k : Int) (w : World) : Calls Tryz.prog 157 #[.int .i64 k] w fun e w' => e = .returned (.int .i64 (mostT k)) ∧ w = w' := by
  by_cases h : 1 ≤ k ∧ k ≤ 2
  · rcases (by omega : k = 1 ∨ k = 2) with rfl | rfl
    all_goals
      go_enter Tryz.func157, Tryz.ntmps157
      go_wp2_with fail
      go_ret
      exact ⟨rfl, rfl⟩
  · have e : mostT k = 0 := by
      unfold mostT
      repeat rw [if_neg (by omega)]
    have f1 : (k == 1) = false := by simp; omega
    have f2 : (k == 2) = false := by simp; omega
    have E := Lib.hid e
    clear e h
    go_enter Tryz.func157, Tryz.ntmps157
    go_wp2_with fail
    go_ret
    exact ⟨by rw [E.out]; rfl, rfl⟩
def SpecShapeTermC (t : Tr) : Prop := ∀ (w : World) (v : Value) (depth : Int), Lies w t v → -1 ≤ depth → depth ≤ 40 →
  Calls Tryz.prog 126 #[v, .int .i64 depth] w fun e w' => e = .returned (.bool (shape sigT t depth)) ∧ Ext w w'
set_option maxRecDepth 100000 in
set_option maxHeartbeats 1600000 in
theorem specShapeTerm : ∀ t : Tr, SpecShapeTermC t := Tr.ind fun k n ks hk => by
  intro w v depth hin hd0 hd1
  obtain ⟨A, cap, rfl, hl, hc, h⟩ := Lies.mk_iff.1 hin
  clear hin
  have hc' := hc
  unfold maxLen at hc'
  have e : shape sigT (.mk k n ks) depth = (decide (1 ≤ depth) && (decide (opsT k = (ks.length : Int)) && inR n 0 (mostT k) && shapes sigT ks (depth - 1))) := by
    unfold shape headOk; rfl
  have E := Lib.hid e
  clear e
  by_cases a1 : depth < 1
  · have he : shape sigT (.mk k n ks) depth = false := by
      rw [E.out]
      rw [decide_eq_false (by omega : ¬ 1 ≤ depth)]; rfl
    replace E := Lib.hid he
    clear he
    have d1 : decide (depth < 1) = true := decide_eq_true a1
    go_enter Tryz.func126, Tryz.ntmps126
    go_wp2_with fail
    have hE := (Ext.refl w).alloc (.cells #[.int .i64 k, .int .i64 n, .slice A ks.length cap] 45)
    have hb := (blk1 (Ext.refl (w.alloc (.cells #[.int .i64 k, .int .i64 n, .slice A ks.length cap] 45)))).1
    generalize w.alloc _ = W at hE hb
    obtain ⟨y0, y1, y2⟩ := Later.own3 hb
    have B1 := Lib.hid hb
    clear hb
    refine wp_region_later (by kernel_rfl) (by kernel_rfl) ?_
    repeat (go_big_quiet_step (first | (go_at_call 156; exact later_of_same (specopsT _ _)) | (go_at_call 157; exact later_of_same (specmostT _ _))))
    refine wpQuiet_nil ?_
    intro w3 hw'
    obtain ⟨⟨_, h3⟩, rfl⟩ := hw'
    clear y0 y1 y2
    have hE3 := hE.trans h3
    go_wp2_with fail
    go_ret
    exact ⟨by rw [E.out]; rfl, hE3⟩
  have d1 : decide (depth < 1) = false := decide_eq_false a1
  by_cases a2 : ¬ opsT k = (ks.length : Int)
  · have he : shape sigT (.mk k n ks) depth = false := by
      rw [E.out]
      rw [decide_eq_false a2]; simp
    replace E := Lib.hid he
    clear he
    have d2 : (opsT k != (ks.length : Int)) = true := by rw [bne_iff_ne]; exact a2
    go_enter Tryz.func126, Tryz.ntmps126
    go_wp2_with fail
    have hE := (Ext.refl w).alloc (.cells #[.int .i64 k, .int .i64 n, .slice A ks.length cap] 45)
    have hb := (blk1 (Ext.refl (w.alloc (.cells #[.int .i64 k, .int .i64 n, .slice A ks.length cap] 45)))).1
    generalize w.alloc _ = W at hE hb
    obtain ⟨y0, y1, y2⟩ := Later.own3 hb
    have B1 := Lib.hid hb
    clear hb
    refine wp_region_later (by kernel_rfl) (by kernel_rfl) ?_
    repeat (go_big_quiet_step (first | (go_at_call 156; exact later_of_same (specopsT _ _)) | (go_at_call 157; exact later_of_same (specmostT _ _))))
    refine wpQuiet_nil ?_
    intro w3 hw'
    obtain ⟨⟨_, h3⟩, rfl⟩ := hw'
    clear y0 y1 y2
    have hE3 := hE.trans h3
    go_wp2_with fail
    go_ret
    exact ⟨by rw [E.out]; rfl, hE3⟩
  have d2 : (opsT k != (ks.length : Int)) = false := by simpa using a2
  by_cases a3 : n < 0
  · have he : shape sigT (.mk k n ks) depth = false := by
      rw [E.out]
      rw [inR_false.2 (.inl a3)]; simp
    replace E := Lib.hid he
    clear he
    have d3 : decide (n < 0) = true := decide_eq_true a3
    go_enter Tryz.func126, Tryz.ntmps126
    go_wp2_with fail
    have hE := (Ext.refl w).alloc (.cells #[.int .i64 k, .int .i64 n, .slice A ks.length cap] 45)
    have hb := (blk1 (Ext.refl (w.alloc (.cells #[.int .i64 k, .int .i64 n, .slice A ks.length cap] 45)))).1
    generalize w.alloc _ = W at hE hb
    obtain ⟨y0, y1, y2⟩ := Later.own3 hb
    have B1 := Lib.hid hb
    clear hb
    refine wp_region_later (by kernel_rfl) (by kernel_rfl) ?_
    repeat (go_big_quiet_step (first | (go_at_call 156; exact later_of_same (specopsT _ _)) | (go_at_call 157; exact later_of_same (specmostT _ _))))
    refine wpQuiet_nil ?_
    intro w3 hw'
    obtain ⟨⟨_, h3⟩, rfl⟩ := hw'
    clear y0 y1 y2
    have hE3 := hE.trans h3
    go_wp2_with fail
    go_ret
    exact ⟨by rw [E.out]; rfl, hE3⟩
  have d3 : decide (n < 0) = false := decide_eq_false a3
  by_cases a4 : mostT k < n
  · have he : shape sigT (.mk k n ks) depth = false := by
      rw [E.out]
      rw [inR_false.2 (.inr a4)]; simp
    replace E := Lib.hid he
    clear he
    have d4 : decide (mostT k < n) = true := decide_eq_true a4
    go_enter Tryz.func126, Tryz.ntmps126
    go_wp2_with fail
    have hE := (Ext.refl w).alloc (.cells #[.int .i64 k, .int .i64 n, .slice A ks.length cap] 45)
    have hb := (blk1 (Ext.refl (w.alloc (.cells #[.int .i64 k, .int .i64 n, .slice A ks.length cap] 45)))).1
    generalize w.alloc _ = W at hE hb
    obtain ⟨y0, y1, y2⟩ := Later.own3 hb
    have B1 := Lib.hid hb
    clear hb
    refine wp_region_later (by kernel_rfl) (by kernel_rfl) ?_
    repeat (go_big_quiet_step (first | (go_at_call 156; exact later_of_same (specopsT _ _)) | (go_at_call 157; exact later_of_same (specmostT _ _))))
    refine wpQuiet_nil ?_
    intro w3 hw'
    obtain ⟨⟨_, h3⟩, rfl⟩ := hw'
    clear y0 y1 y2
    have hE3 := hE.trans h3
    go_wp2_with fail
    go_ret
    exact ⟨by rw [E.out]; rfl, hE3⟩
  have d4 : decide (mostT k < n) = false := decide_eq_false a4
  have hn : inR n 0 (mostT k) = true := inR_iff.2 ⟨by omega, by omega⟩
  have he : shape sigT (.mk k n ks) depth = shapes sigT ks (depth - 1) := by
    rw [E.out, decide_eq_true (by omega : 1 ≤ depth), decide_eq_true (by omega : opsT k = (ks.length : Int)), hn]; rfl
  replace E := Lib.hid he
  clear he hn
  go_enter Tryz.func126, Tryz.ntmps126
  go_wp2_with fail
  have hE := (Ext.refl w).alloc (.cells #[.int .i64 k, .int .i64 n, .slice A ks.length cap] 45)
  have hb := (blk1 (Ext.refl (w.alloc (.cells #[.int .i64 k, .int .i64 n, .slice A ks.length cap] 45)))).1
  generalize w.alloc _ = W at hE hb
  obtain ⟨y0, y1, y2⟩ := Later.own3 hb
  have B1 := Lib.hid hb
  clear hb
  refine wp_region_later (by kernel_rfl) (by kernel_rfl) ?_
  repeat (go_big_quiet_step (first | (go_at_call 156; exact later_of_same (specopsT _ _)) | (go_at_call 157; exact later_of_same (specmostT _ _))))
  refine wpQuiet_nil ?_
  intro w3 hw'
  obtain ⟨⟨_, h3⟩, rfl⟩ := hw'
  clear y0 y1 y2
  have hE3 := hE.trans h3
  obtain ⟨z0, z1, z2, -, -, -⟩ := own3 (h3.blk B1.out)
  have B3 := Lib.hid (h3.blk B1.out)
  go_wp2_with fail
  clear z0 z1 z2
  go_loopw [5] (fun i wr => ∃ j : Nat, j ≤ ks.length ∧ i = .int .i64 j ∧ shapes sigT ks (depth - 1) = shapes sigT (ks.drop j) (depth - 1) ∧ Ext w3 wr) (fun i _ => ks.length - (intOf i).toNat)
  case atStart => exact ⟨0, Nat.zero_le _, rfl, rfl, Ext.refl _⟩
  case round =>
    obtain ⟨j, hj, rfl, heq, hx⟩ := hrel
    have HE := Lib.hid heq
    obtain ⟨z0, z1, z2, -, -, -⟩ := own3 (hx.blk B3.out)
    clear heq
    by_cases hlt : j < ks.length
    · obtain ⟨b, o, k2, n2, A2, cap2, kids, rfl, HK, c0, c1, c2, hkl, hkc, hK, hin, hmem⟩ := h.get (hE3.trans hx) hlt
      have hks := List.drop_eq_getElem_cons hlt
      rw [HK.out] at hks
      have hst : shapes sigT (ks.drop j) (depth - 1) = (shape sigT (.mk k2 n2 kids) (depth - 1) && shapes sigT (ks.drop (j + 1)) (depth - 1)) := by rw [hks]; conv => lhs; unfold shapes
      clear hks
      go_wp2_with fail
      refine (hk _ hmem wr _ (depth - 1) hin (by omega) (by omega)).mono ?_
      rintro e w4 ⟨rfl, h4⟩
      generalize shape sigT (.mk k2 n2 kids) (depth - 1) = r at hst
      have HT := Lib.hid hst
      clear hst
      cases r with
      | false =>
        go_wp2_with fail
        go_ret
        exact ⟨by rw [E.out, HE.out, HT.out]; rfl, hE3.trans (hx.trans h4)⟩
      | true =>
        go_wp2_with fail
        go_roundw
        case rel => exact ⟨j + 1, by omega, by go_num, by rw [HE.out, HT.out]; rfl, hx.trans h4⟩
        case measure => simp [intOf]; omega
    · go_wp2_with fail
      go_ret
      have hjk : ks.drop j = [] := List.drop_of_length_le (by omega)
      exact ⟨by rw [E.out, HE.out, hjk]; simp only [shapes]; rfl, hE3.trans hx⟩
def SpecCountTermC (t : Tr) : Prop := ∀ (w : World) (v : Value) (most : Int), Lies w t v → 0 ≤ most → most ≤ 1000000 →
  Calls Tryz.prog 127 #[v, .int .i64 most] w fun e w' => e = .returned (.int .i64 (cntM t most)) ∧ Ext w w'
set_option maxHeartbeats 800000 in
theorem specCountTerm : ∀ t : Tr, SpecCountTermC t := Tr.ind fun k n ks hk => by
  intro w v most hin hm0 hm1
  obtain ⟨A, cap, rfl, hl, hc, h⟩ := Lies.mk_iff.1 hin
  clear hin
  have hc' := hc
  unfold maxLen at hc'
  have e : cntM (.mk k n ks) most = cntMs ks most 1 := by unfold cntM; rfl
  have E := Lib.hid e
  clear e
  go_enter Tryz.func127, Tryz.ntmps127
  go_wp2_with fail
  have hE := (Ext.refl w).alloc (.cells #[.int .i64 k, .int .i64 n, .slice A ks.length cap] 45)
  have hb := (blk1 (Ext.refl (w.alloc (.cells #[.int .i64 k, .int .i64 n, .slice A ks.length cap] 45)))).1
  generalize w.alloc _ = W at hE hb
  have B1 := Lib.hid hb
  clear hb
  go_loopw [5, 6] (fun q i wr => ∃ (j : Nat) (m : Int), j ≤ ks.length ∧ i = .int .i64 j ∧ q = .int .i64 m ∧ 1 ≤ m ∧ m ≤ most + 1 ∧ cntMs ks most 1 = cntMs (ks.drop j) most m ∧ Ext W wr) (fun _ i _ => ks.length - (intOf i).toNat)
  case atStart => exact ⟨0, 1, Nat.zero_le _, rfl, rfl, by omega, by omega, rfl, Ext.refl _⟩
  case round =>
    obtain ⟨j, m, hj, rfl, rfl, hq0, hq1, heq, hx⟩ := hrel
    have HE := Lib.hid heq
    obtain ⟨z0, z1, z2, -, -, -⟩ := own3 (hx.blk B1.out)
    clear heq
    by_cases hlt : j < ks.length
    · have dl : decide ((j : Int) < (ks.length : Int)) = true := decide_eq_true (by omega)
      obtain ⟨b, o, k2, n2, A2, cap2, kids, rfl, HK, c0, c1, c2, hkl, hkc, hK, hin, hmem⟩ := h.get (hE.trans hx) hlt
      have hks := List.drop_eq_getElem_cons hlt
      rw [HK.out] at hks
      have hst : cntMs (ks.drop j) most m = if m ≤ most then cntMs (ks.drop (j + 1)) most (m + cntM (.mk k2 n2 kids) (most - m)) else m := by rw [hks]; conv => lhs; unfold cntMs
      clear hks
      by_cases hmm : m ≤ most
      · rw [if_pos hmm] at hst
        have HT := Lib.hid hst
        have dm : decide (m ≤ most) = true := decide_eq_true hmm
        have hcm := cntM_le (.mk k2 n2 kids) (most - m) (by omega)
        clear hst
        go_wp2_with fail
        refine (hk _ hmem wr _ (most - m) hin (by omega) (by omega)).mono ?_
        rintro e w4 ⟨rfl, h4⟩
        generalize cntM (.mk k2 n2 kids) (most - m) = r at hcm HT
        go_wp2_with fail
        go_roundw
        case rel => exact ⟨j + 1, m + r, by omega, by go_num, rfl, by omega, by omega, by rw [HE.out, HT.out], hx.trans h4⟩
        case measure => simp [intOf]; omega
      · rw [if_neg hmm] at hst
        have HT := Lib.hid hst
        have dm : decide (m ≤ most) = false := decide_eq_false hmm
        clear hst
        go_wp2_with fail
        go_ret
        exact ⟨by rw [E.out, HE.out, HT.out]; rfl, hE.trans hx⟩
    · have dl : decide ((j : Int) < (ks.length : Int)) = false := decide_eq_false (by omega)
      go_wp2_with fail
      go_ret
      have hjk : ks.drop j = [] := List.drop_of_length_le (by omega)
      exact ⟨by rw [E.out, HE.out, hjk]; simp only [cntMs]; rfl, hE.trans hx⟩
theorem validTerm_any (t : Tr) (w : World) (v : Value) (hin : Lies w t v) : Calls Tryz.prog 43 #[v] w fun e w' => e = .returned (.bool (valid sigT t)) ∧ Ext w w' := by
  obtain ⟨k, n, ks⟩ := t
  obtain ⟨A, cap, rfl, hl, hc, h⟩ := Lies.mk_iff.1 hin
  have hs := (scanR_valid sigT (.mk k n ks)).1
  have HS := Lib.hid hs
  clear hs
  go_enter Tryz.func43, Tryz.ntmps43
  go_wp2_with fail
  have hE := ((Ext.refl w).alloc (.cells #[.int .i64 k, .int .i64 n, .slice A ks.length cap] 45)).alloc (.cells #[.int .i64 0] 3)
  have hb := (blk2 (Ext.refl ((w.alloc (.cells #[.int .i64 k, .int .i64 n, .slice A ks.length cap] 45)).alloc (.cells #[.int .i64 0] 3)))).2.1
  refine (scanTerm_any (.mk k n ks) _ w.heap.size _ _ 1 0 (InT.mono (fun _ h => h) (fun b hb => hE.heap b hb) hin) (by omega) hb (by omega) (by omega) (by omega) (by omega)).mono ?_
  rintro e w1 ⟨rfl, -, h1⟩
  have hx : Ext w w1 := Below.trans hE h1
  rw [HS.out]
  go_wp2_with fail
  go_ret
  exact ⟨rfl, hx⟩
theorem specValidTerm (t : Tr) (w : World) (v : Value) (hin : Lies w t v) : Calls Tryz.prog 87 #[v] w fun e w' => e = .returned (.bool (valid sigT t)) ∧ Ext w w' := by
  have hv := valid_iff (g := sigT) (t := t)
  have hm := cntM_le t 400 (by omega)
  have hS := fun W (hW : Ext w W) => specShapeTerm t W v 30 (hin.ext hW) (by omega) (by omega)
  have hC := fun W (hW : Ext w W) => specCountTerm t W v 400 (hin.ext hW) (by omega) (by omega)
  have HS := Lib.hid hS
  have HC := Lib.hid hC
  clear hS hC
  obtain ⟨k, n, ks⟩ := t
  obtain ⟨A, cap, rfl, hl, hc, h⟩ := Lies.mk_iff.1 hin
  go_enter Tryz.func87, Tryz.ntmps87
  go_wp2_with fail
  refine (HS.out _ ((Ext.refl w).alloc _)).mono ?_
  rintro e w1 ⟨rfl, h1⟩
  obtain ⟨y0, y1, y2, -, -, -⟩ := own3 h1.newBlk
  generalize shape sigT (.mk k n ks) 30 = s at hv
  cases s with
  | false =>
    have HV := Lib.hid hv
    clear hv hm
    go_wp2_with fail
    go_ret
    exact ⟨by rw [HV.out]; rfl, h1.pre⟩
  | true =>
    have HV := Lib.hid hv
    clear hv hm
    go_wp2_with fail
    refine (HC.out _ h1.pre).mono ?_
    rintro e w2 ⟨rfl, h2⟩
    go_wp2_with fail
    all_goals go_ret
    all_goals exact ⟨by rw [HV.out]; simp [*], h1.pre.trans h2⟩
end Go.Proofs.YtolkohncmidpeaaGreatDoor
namespace Go.Proofs.YtolkohncmidpeaaGreatDoor
open Go.RowKit
set_option linter.unusedVariables false
/-- The binders that an operand stands under. -/
def und (k : Int) (i : Nat) : Int := if i = 1 ∧ (k = 3 ∨ k = 4 ∨ k = 13) then 1 else 0
theorem und_le (k : Int) (i : Nat) : 0 ≤ und k i ∧ und k i ≤ 1 := by unfold und; split <;> omega
def isB (k : Int) : Bool := k == 3 || k == 4 || k == 13
theorem und_eq (k : Int) (i : Nat) : und k i = if ((i : Int) == 1 && isB k) = true then 1 else 0 := by
  unfold und isB
  by_cases h : i = 1
  · subst h
    by_cases h3 : k = 3
    · subst h3; rfl
    · by_cases h4 : k = 4
      · subst h4; rfl
      · by_cases h13 : k = 13
        · subst h13; rfl
        · rw [if_neg (by omega), if_neg (by simp [h3, h4, h13])]
  · rw [if_neg (by omega), if_neg (by rw [beq_eq_false_iff_ne.2 (by omega : (i : Int) ≠ 1)]; simp)]
theorem shape_kids' {g : Sig} {k n : Int} {ks : List Tr} {d : Int} (h : shape g (.mk k n ks) d = true) : g.ops k = (ks.length : Int) ∧ 0 ≤ n ∧ n ≤ g.most k ∧ ∀ t ∈ ks, shape g t (d - 1) = true := by
  have mem : ∀ {ks : List Tr} {d : Int} {t : Tr}, shapes g ks d = true → t ∈ ks → shape g t d = true := by
    intro ks
    induction ks with
    | nil => intro d t _ hm; cases hm
    | cons x ks ih =>
      intro d t h hm
      simp only [shapes, Bool.and_eq_true] at h
      rcases List.mem_cons.1 hm with rfl | hm
      · exact h.1
      · exact ih h.2 hm
  simp only [shape, headOk, Bool.and_eq_true] at h
  have h1 := of_decide_eq_true h.2.1.1
  have h2 := inR_iff.1 h.2.1.2
  exact ⟨h1, h2.1, h2.2, fun t ht => mem h.2.2 ht⟩
theorem isBinder_any (k : Int) (w : World) : Calls Tryz.prog 155 #[.int .i64 k] w fun e w' => e = .returned (.bool (isB k)) ∧ w = w' := by
  obtain ⟨b3, h3⟩ : ∃ b, (k == 3) = b := ⟨_, rfl⟩
  obtain ⟨b4, h4⟩ : ∃ b, (k == 4) = b := ⟨_, rfl⟩
  obtain ⟨b13, h13⟩ : ∃ b, (k == 13) = b := ⟨_, rfl⟩
  have e : isB k = (b3 || b4 || b13) := by unfold isB; rw [h3, h4, h13]
  have E := Lib.hid e
  clear e
  cases b3 <;> cases b4 <;> cases b13
  all_goals go_enter Tryz.func155, Tryz.ntmps155
  all_goals go_wp2_with fail
  all_goals go_ret
  all_goals exact ⟨by rw [E.out]; rfl, rfl⟩
theorem under_any (k : Int) (i : Nat) (w : World) : Calls Tryz.prog 125 #[.int .i64 k, .int .i64 i] w fun e w' => e = .returned (.int .i64 (und k i)) ∧ w = w' := by
  obtain ⟨b1, h1⟩ : ∃ b, ((i : Int) == 1) = b := ⟨_, rfl⟩
  have HB := Lib.hid (isBinder_any k)
  obtain ⟨b2, h2⟩ : ∃ b, isB k = b := ⟨_, rfl⟩
  have E := Lib.hid (und_eq k i)
  rw [h1, h2] at E
  rw [h2] at HB
  clear h2
  cases b1 <;> cases b2
  all_goals go_enter Tryz.func125, Tryz.ntmps125
  all_goals go_wp2_with (go_at_call 155; refine (HB.out _).mono ?_; rintro e w1 ⟨rfl, rfl⟩)
  all_goals go_ret
  all_goals exact ⟨by rw [E.out]; rfl, rfl⟩
theorem l2Binds_any (k : Int) (i : Nat) (w : World) : Calls Tryz.prog 158 #[.int .i64 k, .int .i64 i] w fun e w' => e = .returned (.bool ((i : Int) == 1 && isB k)) ∧ w = w' := by
  obtain ⟨b1, h1⟩ : ∃ b, ((i : Int) == 1) = b := ⟨_, rfl⟩
  obtain ⟨b3, h3⟩ : ∃ b, (k == 3) = b := ⟨_, rfl⟩
  obtain ⟨b4, h4⟩ : ∃ b, (k == 4) = b := ⟨_, rfl⟩
  obtain ⟨b13, h13⟩ : ∃ b, (k == 13) = b := ⟨_, rfl⟩
  have e : ((i : Int) == 1 && isB k) = (b1 && (b3 || b4 || b13)) := by unfold isB; rw [h1, h3, h4, h13]
  have E := Lib.hid e
  clear e
  cases b1 <;> cases b3 <;> cases b4 <;> cases b13
  all_goals go_enter Tryz.func158, Tryz.ntmps158
  all_goals go_wp2_with fail
  all_goals go_ret
  all_goals exact ⟨by rw [E.out]; rfl, rfl⟩
theorem l2Under_any (k : Int) (i : Nat) (w : World) : Calls Tryz.prog 128 #[.int .i64 k, .int .i64 i] w fun e w' => e = .returned (.int .i64 (und k i)) ∧ w = w' := by
  have HB := Lib.hid (l2Binds_any k i)
  have E := Lib.hid (und_eq k i)
  obtain ⟨b2, h2⟩ : ∃ b, ((i : Int) == 1 && isB k) = b := ⟨_, rfl⟩
  rw [h2] at E HB
  clear h2
  cases b2
  all_goals go_enter Tryz.func128, Tryz.ntmps128
  all_goals go_wp2_with (go_at_call 158; refine (HB.out _).mono ?_; rintro e w1 ⟨rfl, rfl⟩)
  all_goals go_ret
  all_goals exact ⟨by rw [E.out]; rfl, rfl⟩
theorem valid_parts {g : Sig} {t : Tr} (h : valid g t = true) : shape g t 30 = true ∧ cnt t ≤ 400 := by
  unfold valid at h
  rw [Bool.and_eq_true] at h
  exact ⟨h.1, of_decide_eq_true h.2⟩
end Go.Proofs.YtolkohncmidpeaaGreatDoor

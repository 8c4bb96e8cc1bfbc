/-
  Lemmas towards the law, 40: InfD.
-/
import Derived.Test.YtdkamgafpphdjaaEBM
namespace Go.Proofs.Ytdkamgafpphdjaa
open Go.RowKit
set_option linter.unusedVariables false
attribute [local go_sem ↓] Go.wp_at_zero Go.wp_at_succ
theorem sub_valid {k n : Int} {ks : List Tr} {x : Tr} (h : valid sigT (.mk k n ks) = true) (hx : x ∈ ks) : valid sigT x = true := kid_valid h hx
/-- made says the same of the tree of the checked parts. -/
theorem stp_ok (p : Tr) : (if (valid sigT (shfT 1 p 0) && valid sigT (shfT 2 p 0)) = true then mkV (.mk 3 0 [.mk 6 0 [], .mk 3 0 [.mk 5 0 [okT (shfT 1 p 0), .mk 1 0 []], .mk 5 0 [okT (shfT 2 p 0), .mk 8 0 [.mk 1 1 []]]]]) else (dflt0, 2)) = mkV (stpT p) := by
  by_cases h : (valid sigT (shfT 1 p 0) && valid sigT (shfT 2 p 0)) = true
  · rw [if_pos h]
    rw [Bool.and_eq_true] at h
    unfold okT
    rw [if_pos h.1, if_pos h.2]
    rfl
  · rw [if_neg h]
    unfold mkV
    rw [if_neg]
    intro hv
    apply h
    rw [Bool.and_eq_true]
    have h1 := sub_valid (x := .mk 3 0 [.mk 5 0 [shfT 1 p 0, varT 0], .mk 5 0 [shfT 2 p 0, .mk 8 0 [varT 1]]]) hv (by simp)
    have h2 := sub_valid (x := .mk 5 0 [shfT 1 p 0, varT 0]) h1 (by simp)
    have h3 := sub_valid (x := .mk 5 0 [shfT 2 p 0, .mk 8 0 [varT 1]]) h1 (by simp)
    exact ⟨sub_valid h2 (by simp), sub_valid h3 (by simp)⟩
theorem madZ (X : Tr) (y : Bool) : MadQ X y (if y = true then mkV X else (dflt0, 2)) := fun W N v h => made_any X y W N v h
set_option maxRecDepth 100000 in
set_option maxHeartbeats 8000000 in
theorem stepType_any (p : Tr) (w0 : World) (N : Nat → Prop) (hN : ∀ b, w0.heap.size ≤ b → N b) (v : Value) (hin : InT w0 N p v) (hv : valid sigT p = true) : Calls Try.prog 71 #[v] w0 (AnQ N w0 (mkV (stpT p))) := by
  have HS1 := Lib.hid (fun W (hW : Ext w0 W) => shift_any p 1 0 W v (hin.lies'.ext hW) hv (by omega) (by omega) (by omega) (by omega))
  have HS2 := Lib.hid (fun W (hW : Ext w0 W) => shift_any p 2 0 W v (hin.lies'.ext hW) hv (by omega) (by omega) (by omega) (by omega))
  obtain ⟨⟨T3, d⟩, hT3⟩ : ∃ q, mkV (stpT p) = q := ⟨_, rfl⟩
  have HMQ : Hid (MadQ (.mk 3 0 [.mk 6 0 [], .mk 3 0 [.mk 5 0 [okT (shfT 1 p 0), .mk 1 0 []], .mk 5 0 [okT (shfT 2 p 0), .mk 8 0 [.mk 1 1 []]]]]) (valid sigT (shfT 1 p 0) && valid sigT (shfT 2 p 0)) (T3, d)) := Lib.hid (by rw [← hT3, ← stp_ok]; exact madZ _ _)
  rw [hT3]
  generalize okT (shfT 1 p 0) = T1 at HS1 HMQ
  generalize okT (shfT 2 p 0) = T2 at HS2 HMQ
  generalize valid sigT (shfT 1 p 0) = z1 at HS1 HMQ
  generalize valid sigT (shfT 2 p 0) = z2 at HS2 HMQ
  obtain ⟨k, n, ks⟩ := p
  obtain ⟨A, cap, rfl, hl, hc, hK⟩ := InT.mk_iff.1 hin
  have HN := Lib.hid hN
  clear hin hK hv hT3 hN
  obtain ⟨w1, hw1⟩ : ∃ x, x = ((w0.alloc (.cells #[.int .i64 k, .int .i64 n, .slice A ks.length cap] 27)).alloc (.cells #[.int .i64 0, .int .i64 0, .slice none 0 0] 27)) := ⟨_, rfl⟩
  obtain ⟨bt_1, br_1, s1, e1⟩ := box2 hw1
  obtain ⟨M, hM⟩ : ∃ M, M = (fun b => N b ∧ b ≠ w0.heap.size + 1) := ⟨_, rfl⟩
  have HMN := Lib.hid (show ∀ b, w1.heap.size ≤ b → M b from hM ▸ newN HN.out e1.size (by omega))
  have HM := Lib.hid hM
  clear hM
  go_enter Try.func71, Try.ntmps71
  go_wp2_with fail
  rw [← hw1]
  clear hw1
  have X0_1 := e1
  refine (HS1.out w1 X0_1).mono ?_
  rintro e w2 ⟨u, rfl, hMd, e2⟩
  have s2 := e2.size
  have hT : InT w2 M T1 u := hMd.at' (fun b hb => HMN.out b (by have := (Ext.refl w1).size; omega))
  obtain ⟨au, bu, Au, lu, cu, rfl⟩ := hT.three
  have Tu := Lib.hid hT
  clear hT hMd
  have bt_2 := e2.blk bt_1
  obtain ⟨zt0, zt1, zt2, -⟩ := own3 bt_2
  have lt := lt_of_blk bt_2
  have br_2 := e2.blk br_1
  obtain ⟨zr0, zr1, zr2, yr0, yr1, yr2⟩ := own3 br_2
  have lr := lt_of_blk br_2
  obtain ⟨w3, hw3⟩ : ∃ x, x = w2.alloc (.cells #[.int .i64 au, .int .i64 bu, .slice Au lu cu] 27) := ⟨_, rfl⟩
  have e3 : Ext w2 w3 := hw3 ▸ (Ext.refl w2).alloc _
  have bxu_3 := heap_alloc_new w2 (.cells #[.int .i64 au, .int .i64 bu, .slice Au lu cu] 27)
  rw [← hw3] at bxu_3
  have s3 : w2.heap.size < w3.heap.size := lt_of_blk bxu_3
  go_wp2_with fail
  rw [← hw3]
  clear hw3
  clear zt0 zt1 zt2 lt zr0 zr1 zr2 yr0 yr1 yr2 lr
  have X0_2 := X0_1.trans e2
  have X0_3 := X0_2.trans e3
  refine (HS2.out w3 X0_3).mono ?_
  rintro e w4 ⟨u, rfl, hMd, e4⟩
  have s4 := e4.size
  have X1_2 := e2
  have X1_3 := X1_2.trans e3
  have hT : InT w4 M T2 u := hMd.at' (fun b hb => HMN.out b (by have := X1_3.size; omega))
  obtain ⟨av, bv, Av, lv, cv, rfl⟩ := hT.three
  have Tv := Lib.hid hT
  clear hT hMd
  have bt_3 := e3.blk bt_2
  have bt_4 := e4.blk bt_3
  obtain ⟨zt0, zt1, zt2, -⟩ := own3 bt_4
  have lt := lt_of_blk bt_4
  have br_3 := e3.blk br_2
  have br_4 := e4.blk br_3
  obtain ⟨zr0, zr1, zr2, yr0, yr1, yr2⟩ := own3 br_4
  have lr := lt_of_blk br_4
  have bxu_4 := e4.blk bxu_3
  obtain ⟨zxu0, zxu1, zxu2, -⟩ := own3 bxu_4
  have lxu := lt_of_blk bxu_4
  obtain ⟨w5, hw5⟩ : ∃ x, x = w4.alloc (.cells #[.int .i64 av, .int .i64 bv, .slice Av lv cv] 27) := ⟨_, rfl⟩
  have e5 : Ext w4 w5 := hw5 ▸ (Ext.refl w4).alloc _
  have bxv_5 := heap_alloc_new w4 (.cells #[.int .i64 av, .int .i64 bv, .slice Av lv cv] 27)
  rw [← hw5] at bxv_5
  have s5 : w4.heap.size < w5.heap.size := lt_of_blk bxv_5
  go_wp2_with fail
  rw [← hw5]
  clear hw5
  clear zt0 zt1 zt2 lt zr0 zr1 zr2 yr0 yr1 yr2 lr zxu0 zxu1 zxu2 lxu
  have bt_5 := e5.blk bt_4
  obtain ⟨zt0, zt1, zt2, -⟩ := own3 bt_5
  have lt := lt_of_blk bt_5
  have br_5 := e5.blk br_4
  obtain ⟨zr0, zr1, zr2, yr0, yr1, yr2⟩ := own3 br_5
  have lr := lt_of_blk br_5
  have bxu_5 := e5.blk bxu_4
  obtain ⟨zxu0, zxu1, zxu2, -⟩ := own3 bxu_5
  have lxu := lt_of_blk bxu_5
  obtain ⟨zxv0, zxv1, zxv2, -⟩ := own3 bxv_5
  have lxv := lt_of_blk bxv_5
  have X1_4 := X1_3.trans e4
  have X1_5 := X1_4.trans e5
  have X2_3 := e3
  have X2_4 := X2_3.trans e4
  have X2_5 := X2_4.trans e5
  have X4_5 := e5
  have HNN := Lib.hid (show ∀ w z, EG (w5.drew, []) (w, z) → ∀ b, w.heap.size ≤ b → Mz M z b from fun w z h => h.news ((fun (w : World) (h : Ext w5 w) (b : Nat) (hb : w.heap.size ≤ b) => HMN.out b (by have := h.size; have := X1_5.size; omega)) w ((Ext.refl w5).drew.trans h.1)))
  refine wp_region_held_drew (S := fun _ => True) (by kernel_rfl) trivial (fun _ => ?_)
  refine ordG w5 22 40 #[true, true, true, true, true, true, true, true, true, true, true, true, true, true, true, true, true, true, true, true, true, true, false, false] 2 [Sp.tree M (.mk 6 0 []), Sp.val (.agg #[.int .i64 au, .int .i64 bu, .slice Au lu cu]), Sp.tree M (.mk 1 0 []), Sp.row M [T1, (.mk 1 0 [])], Sp.tree M (.mk 5 0 [T1, (.mk 1 0 [])]), Sp.val (.agg #[.int .i64 av, .int .i64 bv, .slice Av lv cv]), Sp.tree M (.mk 1 1 []), Sp.row M [(.mk 1 1 [])], Sp.tree M (.mk 8 0 [(.mk 1 1 [])]), Sp.row M [T2, (.mk 8 0 [(.mk 1 1 [])])], Sp.tree M (.mk 5 0 [T2, (.mk 8 0 [(.mk 1 1 [])])]), Sp.row M [(.mk 5 0 [T1, (.mk 1 0 [])]), (.mk 5 0 [T2, (.mk 8 0 [(.mk 1 1 [])])])], Sp.tree M (.mk 3 0 [(.mk 5 0 [T1, (.mk 1 0 [])]), (.mk 5 0 [T2, (.mk 8 0 [(.mk 1 1 [])])])]), Sp.row M [(.mk 6 0 []), (.mk 3 0 [(.mk 5 0 [T1, (.mk 1 0 [])]), (.mk 5 0 [T2, (.mk 8 0 [(.mk 1 1 [])])])])], Sp.tree M (.mk 3 0 [(.mk 6 0 []), (.mk 3 0 [(.mk 5 0 [T1, (.mk 1 0 [])]), (.mk 5 0 [T2, (.mk 8 0 [(.mk 1 1 [])])])])]), Sp.val (.bool z1), Sp.val (.bool z1), Sp.val (if z1 = true then .bool z2 else undef), Sp.val (.bool (z1 && z2)), Sp.two M T3 (.int .i64 d), Sp.tree M T3, Sp.val (.int .i64 d)] (by kernel_rfl) rfl (by kernel_rfl) (by kernel_rfl) (by kernel_rfl) ?steps_1 ?fin_1
  case steps_1 =>
    refine And.intro (.inr ?s0_1) (And.intro (.inr ?s1_1) (And.intro (.inr ?s2_1) (And.intro (.inr ?s3_1) (And.intro (.inr ?s4_1) (And.intro (.inr ?s5_1) (And.intro (.inr ?s6_1) (And.intro (.inr ?s7_1) (And.intro (.inr ?s8_1) (And.intro (.inr ?s9_1) (And.intro (.inr ?s10_1) (And.intro (.inr ?s11_1) (And.intro (.inr ?s12_1) (And.intro (.inr ?s13_1) (And.intro (.inr ?s14_1) (And.intro (.inr ?s15_1) (And.intro (.inr ?s16_1) (And.intro (.inr ?s17_1) (And.intro (.inr ?s18_1) (And.intro (.inr ?s19_1) (And.intro (.inr ?s20_1) (And.intro (.inr ?s21_1) (trivial))))))))))))))))))))))
    all_goals intro a w z hE hold hdep
    case s0_1 => (refine Ord.step_of rfl rfl ?_; intro K hK; go_simp; go_at_call 14; refine (node_any w 6 none 0 0).mono ?_; rintro e w' ⟨rfl, e'⟩; exact hK _ _ ⟨_, z, rfl, EG.same hE e', leafT _ _ _ _⟩)
    case s1_1 => (refine Ord.step_of rfl rfl ?_; intro K hK; have f4 := slot_at (show a.eval (.tmp 4) = .pointer (some ⟨w2.heap.size, 0, none⟩) from hold 4 (by kernel_rfl)); have q0 := hE.1.cell zxu0; have q1 := hE.1.cell zxu1; have q2 := hE.1.cell zxu2; go_simp; exact hK _ _ ⟨_, z, rfl, hE.id, rfl⟩)
    case s2_1 => (refine Ord.step_of rfl rfl ?_; intro K hK; go_simp; go_at_call 66; refine (variable_any 0 w).mono ?_; rintro e w' ⟨rfl, e'⟩; exact hK _ _ ⟨_, z, rfl, EG.same hE e', leafT _ _ _ _⟩)
    case s3_1 => (refine Ord.step_of rfl rfl ?_; intro K hK; have f19 := slot_at (show a.eval (.tmp 19) = .agg #[.int .i64 au, .int .i64 bu, .slice Au lu cu] from hdep 1 19 (by kernel_rfl)); have h20 : InT w (Mz M z) (.mk 1 0 []) (a.eval (.tmp 20)) := hdep 2 20 (by kernel_rfl); obtain ⟨d20_1, d20_2, d20_3, d20_4, d20_5, f20⟩ := h20.three; rw [f20] at h20; replace f20 := slot_at f20; go_simp; refine hK _ _ ⟨_, z, rfl, EG.same hE ((Ext.refl _).alloc _), ⟨_, 2, rfl, Nat.le_refl _, by decide, InK.news2 (InT.oldG (M := M) (Tu.out.later X2_5) hE) (h20) (HNN.out w z hE _ (Nat.le_refl _))⟩⟩)
    case s4_1 => (refine Ord.step_of rfl rfl ?_; intro K hK; obtain ⟨A21, c21, f21, g21_1, g21_2, g21_3⟩ : ∃ A c, a.eval (.tmp 21) = .slice A 2 c ∧ 2 ≤ c ∧ c ≤ maxLen ∧ InK w (Mz M z) A [T1, (.mk 1 0 [])] := hdep 3 21 (by kernel_rfl); replace f21 := slot_at f21; go_simp; go_at_call 14; refine (node_any w 5 A21 2 c21).mono ?_; rintro e w' ⟨rfl, e'⟩; exact hK _ _ ⟨_, z, rfl, EG.same hE e', InT.mk_iff.2 ⟨A21, c21, rfl, g21_1, g21_2, g21_3.later e'⟩⟩)
    case s5_1 => (refine Ord.step_of rfl rfl ?_; intro K hK; have f6 := slot_at (show a.eval (.tmp 6) = .pointer (some ⟨w4.heap.size, 0, none⟩) from hold 6 (by kernel_rfl)); have q0 := hE.1.cell zxv0; have q1 := hE.1.cell zxv1; have q2 := hE.1.cell zxv2; go_simp; exact hK _ _ ⟨_, z, rfl, hE.id, rfl⟩)
    case s6_1 => (refine Ord.step_of rfl rfl ?_; intro K hK; go_simp; go_at_call 66; refine (variable_any 1 w).mono ?_; rintro e w' ⟨rfl, e'⟩; exact hK _ _ ⟨_, z, rfl, EG.same hE e', leafT _ _ _ _⟩)
    case s7_1 => (refine Ord.step_of rfl rfl ?_; intro K hK; have h24 : InT w (Mz M z) (.mk 1 1 []) (a.eval (.tmp 24)) := hdep 6 24 (by kernel_rfl); obtain ⟨d24_1, d24_2, d24_3, d24_4, d24_5, f24⟩ := h24.three; rw [f24] at h24; replace f24 := slot_at f24; go_simp; refine hK _ _ ⟨_, z, rfl, EG.same hE ((Ext.refl _).alloc _), ⟨_, 1, rfl, Nat.le_refl _, by decide, InK.news (h24) (HNN.out w z hE _ (Nat.le_refl _))⟩⟩)
    case s8_1 => (refine Ord.step_of rfl rfl ?_; intro K hK; obtain ⟨A25, c25, f25, g25_1, g25_2, g25_3⟩ : ∃ A c, a.eval (.tmp 25) = .slice A 1 c ∧ 1 ≤ c ∧ c ≤ maxLen ∧ InK w (Mz M z) A [(.mk 1 1 [])] := hdep 7 25 (by kernel_rfl); replace f25 := slot_at f25; go_simp; go_at_call 14; refine (node_any w 8 A25 1 c25).mono ?_; rintro e w' ⟨rfl, e'⟩; exact hK _ _ ⟨_, z, rfl, EG.same hE e', InT.mk_iff.2 ⟨A25, c25, rfl, g25_1, g25_2, g25_3.later e'⟩⟩)
    case s9_1 => (refine Ord.step_of rfl rfl ?_; intro K hK; have f23 := slot_at (show a.eval (.tmp 23) = .agg #[.int .i64 av, .int .i64 bv, .slice Av lv cv] from hdep 5 23 (by kernel_rfl)); have h26 : InT w (Mz M z) (.mk 8 0 [(.mk 1 1 [])]) (a.eval (.tmp 26)) := hdep 8 26 (by kernel_rfl); obtain ⟨d26_1, d26_2, d26_3, d26_4, d26_5, f26⟩ := h26.three; rw [f26] at h26; replace f26 := slot_at f26; go_simp; refine hK _ _ ⟨_, z, rfl, EG.same hE ((Ext.refl _).alloc _), ⟨_, 2, rfl, Nat.le_refl _, by decide, InK.news2 (InT.oldG (M := M) (Tv.out.later X4_5) hE) (h26) (HNN.out w z hE _ (Nat.le_refl _))⟩⟩)
    case s10_1 => (refine Ord.step_of rfl rfl ?_; intro K hK; obtain ⟨A27, c27, f27, g27_1, g27_2, g27_3⟩ : ∃ A c, a.eval (.tmp 27) = .slice A 2 c ∧ 2 ≤ c ∧ c ≤ maxLen ∧ InK w (Mz M z) A [T2, (.mk 8 0 [(.mk 1 1 [])])] := hdep 9 27 (by kernel_rfl); replace f27 := slot_at f27; go_simp; go_at_call 14; refine (node_any w 5 A27 2 c27).mono ?_; rintro e w' ⟨rfl, e'⟩; exact hK _ _ ⟨_, z, rfl, EG.same hE e', InT.mk_iff.2 ⟨A27, c27, rfl, g27_1, g27_2, g27_3.later e'⟩⟩)
    case s11_1 => (refine Ord.step_of rfl rfl ?_; intro K hK; have h22 : InT w (Mz M z) (.mk 5 0 [T1, (.mk 1 0 [])]) (a.eval (.tmp 22)) := hdep 4 22 (by kernel_rfl); obtain ⟨d22_1, d22_2, d22_3, d22_4, d22_5, f22⟩ := h22.three; rw [f22] at h22; replace f22 := slot_at f22; have h28 : InT w (Mz M z) (.mk 5 0 [T2, (.mk 8 0 [(.mk 1 1 [])])]) (a.eval (.tmp 28)) := hdep 10 28 (by kernel_rfl); obtain ⟨d28_1, d28_2, d28_3, d28_4, d28_5, f28⟩ := h28.three; rw [f28] at h28; replace f28 := slot_at f28; go_simp; refine hK _ _ ⟨_, z, rfl, EG.same hE ((Ext.refl _).alloc _), ⟨_, 2, rfl, Nat.le_refl _, by decide, InK.news2 (h22) (h28) (HNN.out w z hE _ (Nat.le_refl _))⟩⟩)
    case s12_1 => (refine Ord.step_of rfl rfl ?_; intro K hK; obtain ⟨A29, c29, f29, g29_1, g29_2, g29_3⟩ : ∃ A c, a.eval (.tmp 29) = .slice A 2 c ∧ 2 ≤ c ∧ c ≤ maxLen ∧ InK w (Mz M z) A [(.mk 5 0 [T1, (.mk 1 0 [])]), (.mk 5 0 [T2, (.mk 8 0 [(.mk 1 1 [])])])] := hdep 11 29 (by kernel_rfl); replace f29 := slot_at f29; go_simp; go_at_call 14; refine (node_any w 3 A29 2 c29).mono ?_; rintro e w' ⟨rfl, e'⟩; exact hK _ _ ⟨_, z, rfl, EG.same hE e', InT.mk_iff.2 ⟨A29, c29, rfl, g29_1, g29_2, g29_3.later e'⟩⟩)
    case s13_1 => (refine Ord.step_of rfl rfl ?_; intro K hK; have h18 : InT w (Mz M z) (.mk 6 0 []) (a.eval (.tmp 18)) := hdep 0 18 (by kernel_rfl); obtain ⟨d18_1, d18_2, d18_3, d18_4, d18_5, f18⟩ := h18.three; rw [f18] at h18; replace f18 := slot_at f18; have h30 : InT w (Mz M z) (.mk 3 0 [(.mk 5 0 [T1, (.mk 1 0 [])]), (.mk 5 0 [T2, (.mk 8 0 [(.mk 1 1 [])])])]) (a.eval (.tmp 30)) := hdep 12 30 (by kernel_rfl); obtain ⟨d30_1, d30_2, d30_3, d30_4, d30_5, f30⟩ := h30.three; rw [f30] at h30; replace f30 := slot_at f30; go_simp; refine hK _ _ ⟨_, z, rfl, EG.same hE ((Ext.refl _).alloc _), ⟨_, 2, rfl, Nat.le_refl _, by decide, InK.news2 (h18) (h30) (HNN.out w z hE _ (Nat.le_refl _))⟩⟩)
    case s14_1 => (refine Ord.step_of rfl rfl ?_; intro K hK; obtain ⟨A31, c31, f31, g31_1, g31_2, g31_3⟩ : ∃ A c, a.eval (.tmp 31) = .slice A 2 c ∧ 2 ≤ c ∧ c ≤ maxLen ∧ InK w (Mz M z) A [(.mk 6 0 []), (.mk 3 0 [(.mk 5 0 [T1, (.mk 1 0 [])]), (.mk 5 0 [T2, (.mk 8 0 [(.mk 1 1 [])])])])] := hdep 13 31 (by kernel_rfl); replace f31 := slot_at f31; go_simp; go_at_call 14; refine (node_any w 3 A31 2 c31).mono ?_; rintro e w' ⟨rfl, e'⟩; exact hK _ _ ⟨_, z, rfl, EG.same hE e', InT.mk_iff.2 ⟨A31, c31, rfl, g31_1, g31_2, g31_3.later e'⟩⟩)
    case s15_1 => (refine Ord.step_of rfl rfl ?_; intro K hK; have f5 := slot_at (show a.eval (.tmp 5) = .bool z1 from hold 5 (by kernel_rfl)); go_simp; exact hK _ _ ⟨_, z, rfl, hE.id, rfl⟩)
    case s16_1 => (refine Ord.step_of rfl rfl ?_; intro K hK; have f33 := slot_at (show a.eval (.tmp 33) = .bool z1 from hdep 15 33 (by kernel_rfl)); go_simp; exact hK _ _ ⟨_, z, rfl, hE.id, rfl⟩)
    case s17_1 => (have f34 : a.eval (.tmp 34) = .bool z1 := hdep 16 34 (by kernel_rfl); have f7 := slot_at (show a.eval (.tmp 7) = .bool z2 from hold 7 (by kernel_rfl)); refine step_if rfl rfl rfl f34 (fun hb K hK => ?_) (fun hb => ⟨undef, z, rfl, hE.id, (show undef = (if z1 = true then Value.bool z2 else undef) from (if_neg hb).symm)⟩); go_simp; exact hK _ _ ⟨_, z, rfl, hE.id, (show _ = (if z1 = true then Value.bool z2 else undef) from (if_pos hb).symm)⟩)
    case s18_1 => (refine Ord.step_of rfl rfl ?_; intro K hK; have f34 := slot_at (show a.eval (.tmp 34) = .bool z1 from hdep 16 34 (by kernel_rfl)); have f35 := slot_at (show a.eval (.tmp 35) = (if z1 = true then .bool z2 else undef) from hdep 17 35 (by kernel_rfl)); obtain hz | hz : z1 = true ∨ z1 = false := (by cases z1 <;> simp); all_goals (rw [hz] at f34 f35; first | (rw [if_pos rfl] at f35; go_simp; exact hK _ _ ⟨_, z, rfl, hE.id, (show _ = Value.bool (z1 && z2) from by rw [hz]; rfl)⟩) | (go_simp; exact hK _ _ ⟨_, z, rfl, hE.id, (show _ = Value.bool (z1 && z2) from by rw [hz]; rfl)⟩)))
    case s19_1 => (refine Ord.step_of rfl rfl ?_; intro K hK; have h32 : InT w (Mz M z) (.mk 3 0 [(.mk 6 0 []), (.mk 3 0 [(.mk 5 0 [T1, (.mk 1 0 [])]), (.mk 5 0 [T2, (.mk 8 0 [(.mk 1 1 [])])])])]) (a.eval (.tmp 32)) := hdep 14 32 (by kernel_rfl); obtain ⟨d32_1, d32_2, d32_3, d32_4, d32_5, f32⟩ := h32.three; rw [f32] at h32; replace f32 := slot_at f32; have f36 := slot_at (show a.eval (.tmp 36) = .bool (z1 && z2) from hdep 18 36 (by kernel_rfl)); go_simp; go_at_call 44; refine (HMQ.out w (Mz M z) _ h32).mono ?_; rintro e w' ⟨u, rfl, hu, e'⟩; exact hK _ _ ⟨_, z, rfl, EG.same hE e', u, rfl, hu⟩)
    case s20_1 => (refine Ord.step_of rfl rfl ?_; intro K hK; obtain ⟨u37, f37, h37⟩ : ∃ u, a.eval (.tmp 37) = .tuple #[u, .int .i64 d] ∧ InT w (Mz M z) T3 u := hdep 19 37 (by kernel_rfl); replace f37 := slot_at f37; go_simp; exact hK _ _ ⟨_, z, rfl, hE.id, h37⟩)
    case s21_1 => (refine Ord.step_of rfl rfl ?_; intro K hK; obtain ⟨u37, f37, h37⟩ : ∃ u, a.eval (.tmp 37) = .tuple #[u, .int .i64 d] ∧ InT w (Mz M z) T3 u := hdep 19 37 (by kernel_rfl); replace f37 := slot_at f37; go_simp; exact hK _ _ ⟨_, z, rfl, hE.id, rfl⟩)
  case fin_1 =>
    intro v w' z hE' hG
    have t20_ : InT w' (Mz M z) T3 (v 20) := hG 20 (by decide) rfl
    obtain ⟨a20_1, a20_2, a20_3, a20_4, a20_5, v20_⟩ := t20_.three
    rw [v20_] at t20_
    have T20_ := Lib.hid t20_
    clear t20_
    have v21_ : v 21 = .int .i64 d := hG 21 (by decide) rfl
    rw [Ord.putN_all]
    simp only [Ord.putO, Ord.dstOf, List.getElem?_toArray, List.getElem?_cons_zero, List.getElem?_cons_succ, Option.bind_some, Act.put, List.setIfInBounds_toArray, List.set_cons_zero, List.set_cons_succ]
    rw [v20_, v21_]
    clear hG v20_ v21_
    have e6 : Ext w5 w' := (Ext.refl w5).drew.trans hE'.1
    clear hE'
    obtain ⟨w6, rfl⟩ : ∃ x, x = w' := ⟨_, rfl⟩
    have s6 := e6.size
    clear zt0 zt1 zt2 lt zr0 zr1 zr2 yr0 yr1 yr2 lr zxu0 zxu1 zxu2 lxu zxv0 zxv1 zxv2 lxv
    have X0_4 := X0_3.trans e4
    have X0_5 := X0_4.trans e5
    have X0_6 := X0_5.trans e6
    have br_6 := e6.blk br_5
    obtain ⟨zr0, zr1, zr2, yr0, yr1, yr2⟩ := own3 br_6
    refine wpAnyH_ready (rs := [22]) (by kernel_rfl) (by simp) ?_
    refine AllReadyH.cons rfl (fun K hK => ?_) AllReadyH.nil
    go_simp
    refine hK.out _ _ trivial (fun _ => ?_)
    clear hK K
    refine wpAnyH_take (i := 23) (v := ?v23_1) rfl (by kernel_rfl) (by kernel_rfl) (by kernel_rfl) (fun _ _ _ h => h) (Or.inl ⟨by rfl, ?hy23_1⟩) trivial ?rest23_1
    case hy23_1 => (intro w hSw; go_simp; (try with_reducible rfl))
    try simp only [Act.put, List.getElem_toArray, List.getElem_cons_succ, List.getElem_cons_zero, List.setIfInBounds_toArray, List.set_cons_zero, List.set_cons_succ]
    refine wpAnyH_done (by kernel_rfl) ?_ _
    go_wp2_with fail
    refine bodyPost_ret (v := .tuple #[.agg #[.int .i64 a20_1, .int .i64 a20_2, .slice a20_3 a20_4 a20_5], .int .i64 d]) (by simp [results, Try.results71, go_sem, zr0, zr1, zr2]) rfl ⟨_, rfl, InT.ret (HM.out ▸ InT.mono (fun b hb => hb.1) (fun _ _ => rfl) T20_.out) _ _ _, (X0_6.set3 (by omega) _ _ _)⟩
theorem thn_code {x : An} {f : Tr → An} {r : Tr × Int} (h : thn x f = some r) : ∃ s c, x = some (s, c) ∧ (c = 0 → f s = some r) ∧ (c ≠ 0 → r = (dflt0, c)) := by
  rcases thn_some h with ⟨s, h1, h2⟩ | ⟨s, c, h1, hc, rfl⟩
  · exact ⟨s, 0, h1, fun _ => h2, fun h => absurd rfl h⟩
  · exact ⟨s, c, h1, fun h => absurd h hc, fun _ => rfl⟩
/-- The inference in the judge's context. -/
def InfF (wC : World) (A : Option Addr) (ca : Nat) (G : List Tr) (inf : Tr → An) : Prop :=
  ∀ (W : World) (N : Nat → Prop), Ext wC W → (∀ b, W.heap.size ≤ b → N b) → InK W N A G → ∀ (t : Tr) (v : Value), InT W N t v → valid sigT t = true → ∀ r, inf t = some r →
    Calls Try.prog 30 #[.slice A G.length ca, v] W (AnQ N W r)
/-- A wanted type that is made, and a check against it. -/
theorem has_code {X : Tr × Int} {x : An} {Y : An} {r : Tr × Int} (h : thn (some X) (fun w => chkV x w Y) = some r) : ∃ d, (X.2 = 0 → chkI x X.1 = some d) ∧ (X.2 ≠ 0 → d = X.2) ∧ (d = 0 → Y = some r) ∧ (d ≠ 0 → r = (dflt0, d)) := by
  obtain ⟨s, c, h1, h2, h3⟩ := thn_code h
  obtain rfl : X = (s, c) := by simpa using h1
  by_cases hc : c = 0
  · obtain ⟨d, h4, h5, h6⟩ := chk_some (h2 hc)
    exact ⟨d, fun _ => h4, fun h => absurd hc h, h5, h6⟩
  · exact ⟨c, fun h => absurd h hc, fun _ => rfl, fun h => absurd h hc, fun _ => h3 hc⟩
theorem has_code2 {X : Tr × Int} {x : An} {K : Tr → Tr} {Y : Tr → An} {r : Tr × Int} (h : thn (some X) (fun s => chkV x (K s) (Y s)) = some r) : ∃ d, (X.2 = 0 → chkI x (K X.1) = some d) ∧ (X.2 ≠ 0 → d = X.2) ∧ (d = 0 → X.2 = 0 ∧ Y X.1 = some r) ∧ (d ≠ 0 → r = (dflt0, d)) := by
  obtain ⟨s, c, h1, h2, h3⟩ := thn_code h
  obtain rfl : X = (s, c) := by simpa using h1
  by_cases hc : c = 0
  · obtain ⟨d, h4, h5, h6⟩ := chk_some (h2 hc)
    exact ⟨d, fun _ => h4, fun h => absurd hc h, fun h => ⟨hc, h5 h⟩, h6⟩
  · exact ⟨c, fun h => absurd h hc, fun _ => rfl, fun h => absurd h hc, fun _ => h3 hc⟩
set_option maxRecDepth 100000 in
set_option maxHeartbeats 8000000 in
theorem function_any {wC : World} {p1 p2 : Nat} {A : Option Addr} {G : List Tr} {At : Option Addr} {ks : List Tr} {ty : Nat → An} (k n : Int) (ca ct : Nat) (hlt : ks.length ≤ ct) (hct : ct ≤ maxLen) (w0 : World) (N : Nat → Prop) (hJ : JOk wC w0 N p1 p2 A G At ks ty) (inf : Tr → An) (hI : InfF wC A ca G inf) (hks : ks.length = 2) (r : Tr × Int) (h : lamV inf ty (kd ks 0) = some r) : Calls Try.prog 49 #[.agg #[.slice A G.length ca, .int .i64 k, .int .i64 n, .slice At ks.length ct, .func (.func 35) #[] #[.pointer (some ⟨p1, 0, none⟩), .pointer (some ⟨p2, 0, none⟩)]]] w0 (AnQ N w0 r) := by
  have HKS := Lib.hid hks
  have HINF := Lib.hid hI
  obtain ⟨sA, c, h1, h2, h3⟩ := thn_code h
  have H1 := Lib.hid h1
  have H2 := Lib.hid h2
  have H3 := Lib.hid h3
  clear h h1 h2 h3 hI
  obtain ⟨b, o, rfl, hkid⟩ := InK.kid hJ.hK (by omega)
  obtain ⟨k01, k02, k03, k04, k05, hk00, hk01, hk02, hkT0⟩ := hkid 0 (by omega)
  simp only [Nat.mul_zero, Nat.add_zero] at hk00 hk01 hk02
  have KT0 := Lib.hid hkT0
  clear hkT0
  have hp0 : (0 : Int) < (ks.length : Int) := by omega
  have hq0 : 0 < ks.length := by omega
  clear hkid
  clear hks
  obtain ⟨w1, hw1⟩ : ∃ x, x = ((w0.alloc (.cells #[.slice A G.length ca, .int .i64 k, .int .i64 n, .slice (some ⟨b, o, none⟩) ks.length ct, .func (.func 35) #[] #[.pointer (some ⟨p1, 0, none⟩), .pointer (some ⟨p2, 0, none⟩)]] 65)).alloc (.cells #[.int .i64 0, .int .i64 0, .slice none 0 0] 27)) := ⟨_, rfl⟩
  obtain ⟨bj_1, br_1, s1, e1⟩ := box2 hw1
  have HJ := Lib.hid (hJ.keep e1 (g := w0.heap.size + 1) (Nat.le_succ _) (by omega))
  obtain ⟨M, hM⟩ : ∃ M, M = (fun b => N b ∧ b ≠ w0.heap.size + 1) := ⟨_, rfl⟩
  rw [← hM] at HJ
  have HM := Lib.hid hM
  clear hM hJ
  go_enter Try.func49, Try.ntmps49
  go_wp2_with fail
  rw [← hw1]
  clear hw1
  refine (jlevel_any k n ca ct hlt hct w1 M (HJ.out.ext (Ext.refl w1)) 0 (by rw [HKS.out]; decide) _ H1.out).mono ?_
  rintro e w2 ⟨rfl, e2⟩
  have s2 := e2.size
  simp only
  by_cases hc0 : c = 0
  case neg =>
    obtain rfl := H3.out hc0
    have t1 : (c != 0) = true := by simp [hc0]
    clear hc0 H3
    clear hk00 hk01 hk02
    have bj_2 := e2.blk bj_1
    obtain ⟨zj0, zj1, zj2, zj3, zj4⟩ := own5 bj_2
    have lj := lt_of_blk bj_2
    have br_2 := e2.blk br_1
    obtain ⟨zr0, zr1, zr2, yr0, yr1, yr2⟩ := own3 br_2
    have lr := lt_of_blk br_2
    have X0_1 := e1
    have X0_2 := X0_1.trans e2
    go_wp2_with fail
    refine bodyPost_ret (v := .tuple #[.agg #[.int .i64 0, .int .i64 0, .slice none 0 0], .int .i64 c]) (by simp [results, Try.results49, go_sem, zr0, zr1, zr2]) rfl ⟨_, rfl, leafT _ _ 0 0, (X0_2.set3 (by omega) _ _ _)⟩
  have hq := H2.out hc0
  subst hc0
  clear H2 H3
  obtain ⟨sB, c, h1, h2, h3⟩ := thn_code hq
  have G1 := Lib.hid h1
  have G2 := Lib.hid h2
  have G3 := Lib.hid h3
  clear hq h1 h2 h3
  have bj_2 := e2.blk bj_1
  obtain ⟨zj0, zj1, zj2, zj3, zj4⟩ := own5 bj_2
  have lj := lt_of_blk bj_2
  have br_2 := e2.blk br_1
  obtain ⟨zr0, zr1, zr2, yr0, yr1, yr2⟩ := own3 br_2
  have lr := lt_of_blk br_2
  go_wp2_with fail
  clear zj0 zj1 zj2 zj3 zj4 lj zr0 zr1 zr2 yr0 yr1 yr2 lr
  have X1_2 := e2
  refine ((HJ.out.ext X1_2).hT w2 _ (HJ.out.ext X1_2).hx (HJ.out.ext X1_2).hN (HJ.out.ext X1_2).hG (HJ.out.ext X1_2).hK 1 (by rw [HKS.out]; decide) _ G1.out).mono ?_
  rintro e w3 ⟨u, rfl, hT, e3⟩
  have s3 := e3.size
  obtain ⟨a1, b1, A1, l1, c1, rfl⟩ := hT.three
  have T1 := Lib.hid hT
  clear hT
  by_cases hc0 : c = 0
  case neg =>
    obtain rfl := G3.out hc0
    have t1 : (c != 0) = true := by simp [hc0]
    clear hc0 G3
    clear hk00 hk01 hk02
    have bj_3 := e3.blk bj_2
    obtain ⟨zj0, zj1, zj2, zj3, zj4⟩ := own5 bj_3
    have lj := lt_of_blk bj_3
    have br_3 := e3.blk br_2
    obtain ⟨zr0, zr1, zr2, yr0, yr1, yr2⟩ := own3 br_3
    have lr := lt_of_blk br_3
    clear lr
    have eq3 : Ext w3 (w3.alloc (.cells #[.int .i64 a1, .int .i64 b1, .slice A1 l1 c1] 27)) := (Ext.refl w3).alloc _
    have X0_1 := e1
    have X0_2 := X0_1.trans e2
    have X0_3 := X0_2.trans e3
    obtain ⟨pr0, pr1, pr2, or0, or1, or2⟩ := own3 (eq3.blk br_3)
    go_wp2_with fail
    refine bodyPost_ret (v := .tuple #[.agg #[.int .i64 0, .int .i64 0, .slice none 0 0], .int .i64 c]) (by simp [results, Try.results49, go_sem, pr0, pr1, pr2]) rfl ⟨_, rfl, leafT _ _ 0 0, ((X0_3.trans eq3).set3 (by omega) _ _ _)⟩
  have hq := G2.out hc0
  subst hc0
  clear G2 G3
  obtain ⟨sC, c, h1, h2, h3⟩ := thn_code hq
  have HMQ : Hid (MadQ (.mk 3 0 [kd ks 0, sB]) true (sC, c)) := Lib.hid (by have := madQ1 (.mk 3 0 [kd ks 0, sB]); rwa [show mkV (.mk 3 0 [kd ks 0, sB]) = (sC, c) by simpa using h1] at this)
  have HV := Lib.hid (fun hc : c = 0 => by have hh : mkV (.mk 3 0 [kd ks 0, sB]) = (sC, c) := (by simpa using h1); have := mkV_ok (t := .mk 3 0 [kd ks 0, sB]) (by rw [hh]; exact hc); rw [hh] at this; exact (show valid sigT sC = true by rw [show sC = .mk 3 0 [kd ks 0, sB] from this.2]; exact this.1))
  have G2 := Lib.hid h2
  have G3 := Lib.hid h3
  clear hq h1 h2 h3
  have bj_3 := e3.blk bj_2
  obtain ⟨zj0, zj1, zj2, zj3, zj4⟩ := own5 bj_3
  have lj := lt_of_blk bj_3
  have br_3 := e3.blk br_2
  obtain ⟨zr0, zr1, zr2, yr0, yr1, yr2⟩ := own3 br_3
  have lr := lt_of_blk br_3
  obtain ⟨w4, hw4⟩ : ∃ x, x = w3.alloc (.cells #[.int .i64 a1, .int .i64 b1, .slice A1 l1 c1] 27) := ⟨_, rfl⟩
  have e4 : Ext w3 w4 := hw4 ▸ (Ext.refl w3).alloc _
  have bx1_4 := heap_alloc_new w3 (.cells #[.int .i64 a1, .int .i64 b1, .slice A1 l1 c1] 27)
  rw [← hw4] at bx1_4
  have s4 : w3.heap.size < w4.heap.size := lt_of_blk bx1_4
  go_wp2_with fail
  rw [← hw4]
  clear hw4
  clear zj0 zj1 zj2 zj3 zj4 lj zr0 zr1 zr2 yr0 yr1 yr2 lr
  have X0_1 := e1
  have X0_2 := X0_1.trans e2
  have X0_3 := X0_2.trans e3
  have X0_4 := X0_3.trans e4
  replace hk00 := X0_4.cell hk00
  replace hk01 := X0_4.cell hk01
  replace hk02 := X0_4.cell hk02
  have bj_4 := e4.blk bj_3
  obtain ⟨zj0, zj1, zj2, zj3, zj4⟩ := own5 bj_4
  have lj := lt_of_blk bj_4
  have br_4 := e4.blk br_3
  obtain ⟨zr0, zr1, zr2, yr0, yr1, yr2⟩ := own3 br_4
  have lr := lt_of_blk br_4
  obtain ⟨zx10, zx11, zx12, -⟩ := own3 bx1_4
  have lx1 := lt_of_blk bx1_4
  have X1_3 := X1_2.trans e3
  have X1_4 := X1_3.trans e4
  have X3_4 := e4
  have HNN := Lib.hid (show ∀ w z, EG (w4.drew, []) (w, z) → ∀ b, w.heap.size ≤ b → Mz M z b from fun w z h => h.news ((fun w h => ((HJ.out.ext X1_4).ext h).hN) w ((Ext.refl w4).drew.trans h.1)))
  refine wp_region_held_drew (S := fun _ => True) (by kernel_rfl) trivial (fun _ => ?_)
  refine ordX w4 13 58 11 #[true, true, true, true, true, true, true, true, true, true, true, true, true, false, false] #[true, true, true, true, true, true, true, true, true, true, true, false, true, false, false] 2 [Sp.val (.pointer (some ⟨w0.heap.size, 1, none⟩)), Sp.val (.pointer (some ⟨w0.heap.size, 3, none⟩)), Sp.val (.slice (some ⟨b, o, none⟩) ks.length ct), Sp.val (.pointer (some ⟨b, o, none⟩)), Sp.val (.agg #[.int .i64 k01, .int .i64 k02, .slice k03 k04 k05]), Sp.val (.agg #[.int .i64 a1, .int .i64 b1, .slice A1 l1 c1]), Sp.row M [kd ks 0, sB], Sp.tree M (.mk 3 0 [kd ks 0, sB]), Sp.two M sC (.int .i64 c), Sp.two M sC (.int .i64 c), Sp.tree M sC, Sp.val (.int .i64 c), Sp.box w4] (by kernel_rfl) rfl (by kernel_rfl) (by kernel_rfl) (by kernel_rfl) rfl (by decide) (by kernel_rfl) (by kernel_rfl) (by kernel_rfl) (by kernel_rfl) (by kernel_rfl) (fun _ _ _ _ h => h) ?hx_2 ?steps_2 ?fin_2
  case hx_2 => (intro a w z hE hold hdep; obtain ⟨u30, f30, h30⟩ : ∃ u, a.eval (.tmp 30) = .tuple #[u, .int .i64 c] ∧ InT w (Mz M z) sC u := hdep 9 30 (by kernel_rfl); replace f30 := slot_at f30; exact ⟨.int .i64 c, Or.inl ⟨by rfl, fun w'' _ => by go_simp⟩, rfl⟩)
  case steps_2 =>
    refine And.intro (.inr ?s0_2) (And.intro (.inr ?s1_2) (And.intro (.inr ?s2_2) (And.intro (.inr ?s3_2) (And.intro (.inr ?s4_2) (And.intro (.inr ?s5_2) (And.intro (.inr ?s6_2) (And.intro (.inr ?s7_2) (And.intro (.inr ?s8_2) (And.intro (.inr ?s9_2) (And.intro (.inr ?s10_2) (And.intro (.inr ?s11_2) (And.intro (.inr ?s12_2) (trivial)))))))))))))
    all_goals (intro a w z hE hold hdep; refine Ord.step_of rfl rfl ?_; intro K hK)
    case s0_2 => (have f1 := slot_at (show a.eval (.tmp 1) = .pointer (some ⟨w0.heap.size, 0, none⟩) from hold 1 (by kernel_rfl)); go_simp; exact hK _ _ ⟨_, z, rfl, hE.id, rfl⟩)
    case s1_2 => (have f31 := slot_at (show a.eval (.tmp 31) = .pointer (some ⟨w0.heap.size, 1, none⟩) from hdep 0 31 (by kernel_rfl)); go_simp; exact hK _ _ ⟨_, z, rfl, hE.id, rfl⟩)
    case s2_2 => (have f32 := slot_at (show a.eval (.tmp 32) = .pointer (some ⟨w0.heap.size, 3, none⟩) from hdep 1 32 (by kernel_rfl)); have q0 := hE.1.cell zj3; go_simp; exact hK _ _ ⟨_, z, rfl, hE.id, rfl⟩)
    case s3_2 => (have f33 := slot_at (show a.eval (.tmp 33) = .slice (some ⟨b, o, none⟩) ks.length ct from hdep 2 33 (by kernel_rfl)); go_simp; exact hK _ _ ⟨_, z, rfl, hE.id, rfl⟩)
    case s4_2 => (have f34 := slot_at (show a.eval (.tmp 34) = .pointer (some ⟨b, o, none⟩) from hdep 3 34 (by kernel_rfl)); have q0 := hE.1.cell hk00; have q1 := hE.1.cell hk01; have q2 := hE.1.cell hk02; go_simp; exact hK _ _ ⟨_, z, rfl, hE.id, rfl⟩)
    case s5_2 => (have f6 := slot_at (show a.eval (.tmp 6) = .pointer (some ⟨w3.heap.size, 0, none⟩) from hold 6 (by kernel_rfl)); have q0 := hE.1.cell zx10; have q1 := hE.1.cell zx11; have q2 := hE.1.cell zx12; go_simp; exact hK _ _ ⟨_, z, rfl, hE.id, rfl⟩)
    case s6_2 => (have f35 := slot_at (show a.eval (.tmp 35) = .agg #[.int .i64 k01, .int .i64 k02, .slice k03 k04 k05] from hdep 4 35 (by kernel_rfl)); have f36 := slot_at (show a.eval (.tmp 36) = .agg #[.int .i64 a1, .int .i64 b1, .slice A1 l1 c1] from hdep 5 36 (by kernel_rfl)); go_simp; refine hK _ _ ⟨_, z, rfl, EG.same hE ((Ext.refl _).alloc _), ⟨_, 2, rfl, Nat.le_refl _, by decide, InK.news2 (InT.oldG (M := M) (HM.out ▸ InT.later (InT.keep KT0.out e1 (g := w0.heap.size + 1) (Nat.le_succ _)) X1_4) hE) (InT.oldG (M := M) ((T1.out.later X3_4)) hE) (HNN.out w z hE _ (Nat.le_refl _))⟩⟩)
    case s7_2 => (obtain ⟨A37, c37, f37, g37_1, g37_2, g37_3⟩ : ∃ A c, a.eval (.tmp 37) = .slice A 2 c ∧ 2 ≤ c ∧ c ≤ maxLen ∧ InK w (Mz M z) A [kd ks 0, sB] := hdep 6 37 (by kernel_rfl); replace f37 := slot_at f37; go_simp; go_at_call 14; refine (node_any w 3 A37 2 c37).mono ?_; rintro e w' ⟨rfl, e'⟩; exact hK _ _ ⟨_, z, rfl, EG.same hE e', InT.mk_iff.2 ⟨A37, c37, rfl, g37_1, g37_2, g37_3.later e'⟩⟩)
    case s8_2 => (have h38 : InT w (Mz M z) (.mk 3 0 [kd ks 0, sB]) (a.eval (.tmp 38)) := hdep 7 38 (by kernel_rfl); obtain ⟨d38_1, d38_2, d38_3, d38_4, d38_5, f38⟩ := h38.three; rw [f38] at h38; replace f38 := slot_at f38; go_simp; go_at_call 44; refine (HMQ.out w (Mz M z) _ h38).mono ?_; rintro e w' ⟨u, rfl, hu, e'⟩; exact hK _ _ ⟨_, z, rfl, EG.same hE e', u, rfl, hu⟩)
    case s9_2 => (obtain ⟨u39, f39, h39⟩ : ∃ u, a.eval (.tmp 39) = .tuple #[u, .int .i64 c] ∧ InT w (Mz M z) sC u := hdep 8 39 (by kernel_rfl); replace f39 := slot_at f39; go_simp; exact hK _ _ ⟨_, z, rfl, hE.id, _, rfl, h39⟩)
    case s10_2 => (obtain ⟨u30, f30, h30⟩ : ∃ u, a.eval (.tmp 30) = .tuple #[u, .int .i64 c] ∧ InT w (Mz M z) sC u := hdep 9 30 (by kernel_rfl); replace f30 := slot_at f30; go_simp; exact hK _ _ ⟨_, z, rfl, hE.id, h30⟩)
    case s11_2 => (obtain ⟨u30, f30, h30⟩ : ∃ u, a.eval (.tmp 30) = .tuple #[u, .int .i64 c] ∧ InT w (Mz M z) sC u := hdep 9 30 (by kernel_rfl); replace f30 := slot_at f30; go_simp; exact hK _ _ ⟨_, z, rfl, hE.id, rfl⟩)
    case s12_2 => (go_simp; exact hK _ _ ⟨_, _, rfl, EG.box hE, _, rfl, List.mem_cons_self .., (show w4.heap.size ≤ w.heap.size from hE.1.size), heap_alloc_new _ _⟩)
  case fin_2 =>
    intro v w' z hE' hG
    have t10_ : InT w' (Mz M z) sC (v 10) := hG 10 (by decide) rfl
    obtain ⟨a10_1, a10_2, a10_3, a10_4, a10_5, v10_⟩ := t10_.three
    rw [v10_] at t10_
    have T10_ := Lib.hid t10_
    clear t10_
    obtain ⟨g12_, v12_, gz12_, bl12_, bx12_⟩ : ∃ g, v 12 = .pointer (some ⟨g, 0, none⟩) ∧ g ∈ z ∧ w4.heap.size ≤ g ∧ w'.heap[g]? = _ := hG 12 (by decide) rfl
    have v11_ : v 11 = .int .i64 c := hG 11 (by decide) rfl
    rw [Ord.putN_all]
    simp only [Ord.putO, Ord.dstOf, List.getElem?_toArray, List.getElem?_cons_zero, List.getElem?_cons_succ, Option.bind_some, Act.put, List.setIfInBounds_toArray, List.set_cons_zero, List.set_cons_succ]
    rw [v10_, v12_, v11_]
    clear hG v10_ v12_ v11_
    clear hk00 hk01 hk02 zj0 zj1 zj2 zj3 zj4 lj zr0 zr1 zr2 yr0 yr1 yr2 lr zx10 zx11 zx12 lx1
    have e' : Ext w4 w' := (Ext.refl w4).drew.trans hE'.1
    have gs12_ : g12_ < w'.heap.size := hE'.2.2.2 _ gz12_
    clear hE'
    obtain ⟨x0, x1, x2, x3, x4, x5⟩ := own3 bx12_
    refine wpAnyH_ready (rs := [13]) (by kernel_rfl) (by simp) ?_
    refine AllReadyH.cons rfl (fun K hK => ?_) AllReadyH.nil
    go_simp
    refine hK.out _ _ trivial (fun _ => ?_)
    clear hK K
    refine wpAnyH_take (i := 14) (v := ?v14_2) rfl (by kernel_rfl) (by kernel_rfl) (by kernel_rfl) (fun _ _ _ h => h) (Or.inl ⟨by rfl, ?hy14_2⟩) trivial ?rest14_2
    case hy14_2 => (intro w hSw; go_simp; (try with_reducible rfl))
    try simp only [Act.put, List.getElem_toArray, List.getElem_cons_succ, List.getElem_cons_zero, List.setIfInBounds_toArray, List.set_cons_zero, List.set_cons_succ]
    refine wpAnyH_done (by kernel_rfl) ?_ _
    clear x0 x1 x2 x3 x4 x5
    have bo_5 := blk_setCell (blk_setCell (blk_setCell bx12_ 0 (.int .i64 a10_1)) 1 (.int .i64 a10_2)) 2 (.slice a10_3 a10_4 a10_5)
    have e5 : Ext w4 (((w'.setCell ⟨g12_, 0, none⟩ (.int .i64 a10_1)).setCell ⟨g12_, 1, none⟩ (.int .i64 a10_2)).setCell ⟨g12_, 2, none⟩ (.slice a10_3 a10_4 a10_5)) := ((e'.setCell bl12_ _).setCell bl12_ _).setCell bl12_ _
    have HTo : Hid (InT (((w'.setCell ⟨g12_, 0, none⟩ (.int .i64 a10_1)).setCell ⟨g12_, 1, none⟩ (.int .i64 a10_2)).setCell ⟨g12_, 2, none⟩ (.slice a10_3 a10_4 a10_5)) M sC (.agg #[.int .i64 a10_1, .int .i64 a10_2, .slice a10_3 a10_4 a10_5])) := Lib.hid (InT.ret (InT.mono (fun b hb => ⟨hb.1, fun h => hb.2 (h ▸ gz12_)⟩) (fun _ _ => rfl) T10_.out) _ _ _)
    obtain ⟨w5, hw5⟩ : ∃ x, x = (((w'.setCell ⟨g12_, 0, none⟩ (.int .i64 a10_1)).setCell ⟨g12_, 1, none⟩ (.int .i64 a10_2)).setCell ⟨g12_, 2, none⟩ (.slice a10_3 a10_4 a10_5)) := ⟨_, rfl⟩
    rw [← hw5] at bo_5 e5 HTo ⊢
    clear hw5 T10_ gz12_ bx12_ e' gs12_
    have s5 := e5.size
    by_cases hc0 : c = 0
    case neg =>
      obtain rfl := G3.out hc0
      have t1 : (c != 0) = true := by simp [hc0]
      clear hc0 G3
      have bj_5 := e5.blk bj_4
      obtain ⟨zj0, zj1, zj2, zj3, zj4⟩ := own5 bj_5
      have lj := lt_of_blk bj_5
      have br_5 := e5.blk br_4
      obtain ⟨zr0, zr1, zr2, yr0, yr1, yr2⟩ := own3 br_5
      have lr := lt_of_blk br_5
      have bx1_5 := e5.blk bx1_4
      obtain ⟨zx10, zx11, zx12, -⟩ := own3 bx1_5
      have lx1 := lt_of_blk bx1_5
      obtain ⟨zo0, zo1, zo2, -⟩ := own3 bo_5
      have lo := lt_of_blk bo_5
      have X0_5 := X0_4.trans e5
      go_wp2_with fail
      refine bodyPost_ret (v := .tuple #[.agg #[.int .i64 0, .int .i64 0, .slice none 0 0], .int .i64 c]) (by simp [results, Try.results49, go_sem, zr0, zr1, zr2]) rfl ⟨_, rfl, leafT _ _ 0 0, (X0_5.set3 (by omega) _ _ _)⟩
    have hq := G2.out hc0
    subst hc0
    clear G2 G3
    obtain ⟨sD, c, h1, h2, h3⟩ := thn_code hq
    have hvC := HV.out rfl
    have K1 := Lib.hid h1
    have K2 := Lib.hid h2
    have K3 := Lib.hid h3
    clear hq h1 h2 h3 HV
    have bj_5 := e5.blk bj_4
    obtain ⟨zj0, zj1, zj2, zj3, zj4⟩ := own5 bj_5
    have lj := lt_of_blk bj_5
    have br_5 := e5.blk br_4
    obtain ⟨zr0, zr1, zr2, yr0, yr1, yr2⟩ := own3 br_5
    have lr := lt_of_blk br_5
    have bx1_5 := e5.blk bx1_4
    obtain ⟨zx10, zx11, zx12, -⟩ := own3 bx1_5
    have lx1 := lt_of_blk bx1_5
    obtain ⟨zo0, zo1, zo2, -⟩ := own3 bo_5
    have lo := lt_of_blk bo_5
    go_wp2_with fail
    clear zj0 zj1 zj2 zj3 zj4 lj zr0 zr1 zr2 yr0 yr1 yr2 lr zx10 zx11 zx12 lx1 zo0 zo1 zo2 lo
    have X1_5 := X1_4.trans e5
    refine (HINF.out w5 M (HJ.out.ext X1_5).hx (HJ.out.ext X1_5).hN (HJ.out.ext X1_5).hG sC _ HTo.out hvC _ K1.out).mono ?_
    rintro e w6 ⟨u, rfl, hT, e6⟩
    have s6 := e6.size
    obtain ⟨a2, b2, A2, l2, c2, rfl⟩ := hT.three
    have T2 := Lib.hid hT
    clear hT
    by_cases hc0 : c = 0
    case neg =>
      obtain rfl := K3.out hc0
      have t1 : (c != 0) = true := by simp [hc0]
      clear hc0 K3
      have bj_6 := e6.blk bj_5
      obtain ⟨zj0, zj1, zj2, zj3, zj4⟩ := own5 bj_6
      have lj := lt_of_blk bj_6
      have br_6 := e6.blk br_5
      obtain ⟨zr0, zr1, zr2, yr0, yr1, yr2⟩ := own3 br_6
      have lr := lt_of_blk br_6
      have bx1_6 := e6.blk bx1_5
      obtain ⟨zx10, zx11, zx12, -⟩ := own3 bx1_6
      have lx1 := lt_of_blk bx1_6
      have bo_6 := e6.blk bo_5
      obtain ⟨zo0, zo1, zo2, -⟩ := own3 bo_6
      have lo := lt_of_blk bo_6
      clear lr
      have eq6 : Ext w6 (w6.alloc (.cells #[.int .i64 a2, .int .i64 b2, .slice A2 l2 c2] 27)) := (Ext.refl w6).alloc _
      have X0_5 := X0_4.trans e5
      have X0_6 := X0_5.trans e6
      obtain ⟨pr0, pr1, pr2, or0, or1, or2⟩ := own3 (eq6.blk br_6)
      go_wp2_with fail
      refine bodyPost_ret (v := .tuple #[.agg #[.int .i64 0, .int .i64 0, .slice none 0 0], .int .i64 c]) (by simp [results, Try.results49, go_sem, pr0, pr1, pr2]) rfl ⟨_, rfl, leafT _ _ 0 0, ((X0_6.trans eq6).set3 (by omega) _ _ _)⟩
    obtain rfl : r = (sC, 0) := by simpa using (K2.out hc0).symm
    subst hc0
    clear K2 K3
    have X5_6 := e6
    have bj_6 := e6.blk bj_5
    obtain ⟨zj0, zj1, zj2, zj3, zj4⟩ := own5 bj_6
    have lj := lt_of_blk bj_6
    have br_6 := e6.blk br_5
    obtain ⟨zr0, zr1, zr2, yr0, yr1, yr2⟩ := own3 br_6
    have lr := lt_of_blk br_6
    have bx1_6 := e6.blk bx1_5
    obtain ⟨zx10, zx11, zx12, -⟩ := own3 bx1_6
    have lx1 := lt_of_blk bx1_6
    have bo_6 := e6.blk bo_5
    obtain ⟨zo0, zo1, zo2, -⟩ := own3 bo_6
    have lo := lt_of_blk bo_6
    clear lr
    have eq6 : Ext w6 (w6.alloc (.cells #[.int .i64 a2, .int .i64 b2, .slice A2 l2 c2] 27)) := (Ext.refl w6).alloc _
    have X0_5 := X0_4.trans e5
    have X0_6 := X0_5.trans e6
    obtain ⟨pr0, pr1, pr2, or0, or1, or2⟩ := own3 (eq6.blk br_6)
    go_wp2_with fail
    refine bodyPost_ret (v := .tuple #[.agg #[.int .i64 a10_1, .int .i64 a10_2, .slice a10_3 a10_4 a10_5], .int .i64 0]) (by simp [results, Try.results49, go_sem, pr0, pr1, pr2]) rfl ⟨_, rfl, InT.ret (HM.out ▸ (HTo.out.later X5_6).later eq6) _ _ _, ((X0_6.trans eq6).set3 (by omega) _ _ _)⟩
end Go.Proofs.Ytdkamgafpphdjaa

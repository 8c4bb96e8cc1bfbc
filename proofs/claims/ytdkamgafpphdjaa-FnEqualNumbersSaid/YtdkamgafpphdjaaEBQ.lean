/-
  Lemmas towards the law, 43: InfF.
-/
import Derived.Test.YtdkamgafpphdjaaEBN
namespace Go.Proofs.Ytdkamgafpphdjaa
open Go.RowKit
set_option linter.unusedVariables false
attribute [local go_sem ↓] Go.wp_at_zero Go.wp_at_succ
set_option maxRecDepth 100000 in
set_option maxHeartbeats 8000000 in
theorem moved_any {wC : World} {p1 p2 : Nat} {A : Option Addr} {G : List Tr} {At : Option Addr} {ks : List Tr} {ty : Nat → An} (k n : Int) (ca ct : Nat) (hlt : ks.length ≤ ct) (hct : ct ≤ maxLen) (w0 : World) (N : Nat → Prop) (hJ : JOk wC w0 N p1 p2 A G At ks ty) (hks : ks.length = 3) (r : Tr × Int) (h : movV ty (kd ks 0) = some r) : Calls Try.prog 56 #[.agg #[.slice A G.length ca, .int .i64 k, .int .i64 n, .slice At ks.length ct, .func (.func 35) #[] #[.pointer (some ⟨p1, 0, none⟩), .pointer (some ⟨p2, 0, none⟩)]]] w0 (AnQ N w0 r) := by
  have HKS := Lib.hid hks
  obtain ⟨sA, c, h1, h2, h3⟩ := thn_code h
  have H1 := Lib.hid h1
  have H2 := Lib.hid h2
  have H3 := Lib.hid h3
  clear h1 h2 h3
  clear h
  obtain ⟨b, o, rfl, hkid⟩ := InK.kid hJ.hK (by omega)
  obtain ⟨k01, k02, k03, k04, k05, hk00, hk01, hk02, hkT0⟩ := hkid 0 (by omega)
  simp only [Nat.mul_zero, Nat.add_zero] at hk00 hk01 hk02
  have KT0 := Lib.hid hkT0
  clear hkT0
  have hp0 : (0 : Int) < (ks.length : Int) := by omega
  have hq0 : 0 < ks.length := by omega
  clear hkid
  clear hks
  obtain ⟨w1, hw1⟩ : ∃ x, x = ((w0.alloc (.cells #[.slice A G.length ca, .int .i64 k, .int .i64 n, .slice (some ⟨b, o, none⟩) ks.length ct, .func (.func 35) #[] #[.pointer (some ⟨p1, 0, none⟩), .pointer (some ⟨p2, 0, none⟩)]] 65)).alloc (.cells #[.int .i64 0, .int .i64 0, .slice none 0 0] 27)) := ⟨_, rfl⟩
  obtain ⟨bj_1, br_1, s1, e1⟩ := box2 hw1
  have HJ := Lib.hid (hJ.keep e1 (g := w0.heap.size + 1) (Nat.le_succ _) (by omega))
  obtain ⟨M, hM⟩ : ∃ M, M = (fun b => N b ∧ b ≠ w0.heap.size + 1) := ⟨_, rfl⟩
  rw [← hM] at HJ
  have HM := Lib.hid hM
  clear hM hJ
  go_enter Try.func56, Try.ntmps56
  go_wp2_with fail
  rw [← hw1]
  clear hw1
  refine (form_any k n ca ct hlt hct w1 M (HJ.out.ext (Ext.refl w1)) 1 (by rw [HKS.out]; decide) 10 _ H1.out).mono ?_
  rintro e w2 ⟨u, rfl, hT, e2⟩
  have s2 := e2.size
  simp only at hT ⊢
  by_cases hc0 : c = 0
  case neg =>
    obtain rfl := H3.out hc0
    have t1 : (c != 0) = true := by simp [hc0]
    clear hc0 H3 hk00 hk01 hk02
    obtain ⟨a1, b1, A1, l1, c1, rfl⟩ := hT.three
    have T1 := Lib.hid hT
    clear hT
    have bj_2 := e2.blk bj_1
    obtain ⟨zj0, zj1, zj2, zj3, zj4⟩ := own5 bj_2
    have lj := lt_of_blk bj_2
    have br_2 := e2.blk br_1
    obtain ⟨zr0, zr1, zr2, yr0, yr1, yr2⟩ := own3 br_2
    have lr := lt_of_blk br_2
    clear lr
    have eq2 : Ext w2 (w2.alloc (.cells #[.int .i64 a1, .int .i64 b1, .slice A1 l1 c1] 27)) := (Ext.refl w2).alloc _
    have X0_1 := e1
    have X0_2 := X0_1.trans e2
    obtain ⟨pr0, pr1, pr2, or0, or1, or2⟩ := own3 (eq2.blk br_2)
    go_wp2_with fail
    refine bodyPost_ret (v := .tuple #[.agg #[.int .i64 0, .int .i64 0, .slice none 0 0], .int .i64 c]) (by simp [results, Try.results56, go_sem, pr0, pr1, pr2]) rfl ⟨_, rfl, leafT _ _ 0 0, ((X0_2.trans eq2).set3 (by omega) _ _ _)⟩
  have hq := H2.out hc0
  subst hc0
  obtain ⟨-, hsl, -⟩ := frm_len H1.out
  have hl2 : sA.kids.length = 3 := by have : opsT 10 = 3 := rfl; omega
  obtain ⟨ka, na, ka2⟩ := sA
  simp only [Tr.kids] at hl2 hq
  clear hsl H1 H2 H3
  obtain ⟨c, h1, h2, h3⟩ := fam_some hq
  have H1 := Lib.hid h1
  have H2 := Lib.hid h2
  have H3 := Lib.hid h3
  clear h1 h2 h3
  clear hq
  obtain ⟨A1, c1, rfl, hl1, hc1, hK1⟩ := InT.mk_iff.1 hT
  obtain ⟨b2, o2, rfl, hkid2⟩ := InK.kid hK1 (by omega)
  obtain ⟨x1, x2, x3, x4, x5, hx0, hx1, hx2, hxT⟩ := hkid2 0 (by omega)
  simp only [Nat.mul_zero, Nat.add_zero] at hx0 hx1 hx2
  have Sx := Lib.hid hxT
  clear hxT
  obtain ⟨y1, y2, y3, y4, y5, hy0, hy1, hy2, hyT⟩ := hkid2 1 (by omega)
  simp only [Nat.mul_one] at hy0 hy1 hy2
  have Sy := Lib.hid hyT
  clear hyT
  obtain ⟨v1, v2, v3, v4, v5, hv0, hv1, hv2, hvT⟩ := hkid2 2 (by omega)
  simp only [Nat.reduceMul] at hv0 hv1 hv2
  have Sv := Lib.hid hvT
  clear hvT
  rw [hl2] at hl1 ⊢
  clear hT hK1 hkid2
  have bj_2 := e2.blk bj_1
  obtain ⟨zj0, zj1, zj2, zj3, zj4⟩ := own5 bj_2
  have lj := lt_of_blk bj_2
  have br_2 := e2.blk br_1
  obtain ⟨zr0, zr1, zr2, yr0, yr1, yr2⟩ := own3 br_2
  have lr := lt_of_blk br_2
  obtain ⟨w3, hw3⟩ : ∃ x, x = w2.alloc (.cells #[.int .i64 ka, .int .i64 na, .slice (some ⟨b2, o2, none⟩) 3 c1] 27) := ⟨_, rfl⟩
  have e3 : Ext w2 w3 := hw3 ▸ (Ext.refl w2).alloc _
  have bq_3 := heap_alloc_new w2 (.cells #[.int .i64 ka, .int .i64 na, .slice (some ⟨b2, o2, none⟩) 3 c1] 27)
  rw [← hw3] at bq_3
  have s3 : w2.heap.size < w3.heap.size := lt_of_blk bq_3
  go_wp2_with fail
  rw [← hw3]
  clear hw3
  clear zj0 zj1 zj2 zj3 zj4 lj zr0 zr1 zr2 yr0 yr1 yr2 lr
  have X2_3 := e3
  replace hx0 := X2_3.cell hx0
  replace hx1 := X2_3.cell hx1
  replace hx2 := X2_3.cell hx2
  replace hy0 := X2_3.cell hy0
  replace hy1 := X2_3.cell hy1
  replace hy2 := X2_3.cell hy2
  replace hv0 := X2_3.cell hv0
  replace hv1 := X2_3.cell hv1
  replace hv2 := X2_3.cell hv2
  have bj_3 := e3.blk bj_2
  obtain ⟨zj0, zj1, zj2, zj3, zj4⟩ := own5 bj_3
  have lj := lt_of_blk bj_3
  have br_3 := e3.blk br_2
  obtain ⟨zr0, zr1, zr2, yr0, yr1, yr2⟩ := own3 br_3
  have lr := lt_of_blk br_3
  obtain ⟨zq0, zq1, zq2, -⟩ := own3 bq_3
  have lq := lt_of_blk bq_3
  have X1_2 := e2
  have X1_3 := X1_2.trans e3
  have HNN := Lib.hid (show ∀ w z, EG (w3.drew, []) (w, z) → ∀ b, w.heap.size ≤ b → Mz M z b from fun w z h => h.news ((fun w h => ((HJ.out.ext X1_3).ext h).hN) w ((Ext.refl w3).drew.trans h.1)))
  refine wp_region_held_drew (S := fun _ => True) (by kernel_rfl) trivial (fun _ => ?_)
  refine ordG w3 6 63 #[true, true, true, true, true, true, false] 1 [Sp.val (.agg #[.slice A G.length ca, .int .i64 k, .int .i64 n, .slice (some ⟨b, o, none⟩) ks.length ct, .func (.func 35) #[] #[.pointer (some ⟨p1, 0, none⟩), .pointer (some ⟨p2, 0, none⟩)]]), Sp.val (.pointer (some ⟨w2.heap.size, 2, none⟩)), Sp.val (.slice (some ⟨b2, o2, none⟩) 3 c1), Sp.val (.pointer (some ⟨b2, o2, none⟩)), Sp.val (.agg #[.int .i64 x1, .int .i64 x2, .slice x3 x4 x5]), Sp.val (.int .i64 c)] (by kernel_rfl) rfl (by kernel_rfl) (by kernel_rfl) (by kernel_rfl) ?steps_7 ?fin_7
  case steps_7 =>
    refine And.intro (.inr ?s0_7) (And.intro (.inr ?s1_7) (And.intro (.inr ?s2_7) (And.intro (.inr ?s3_7) (And.intro (.inr ?s4_7) (And.intro (.inr ?s5_7) (trivial))))))
    all_goals (intro a w z hE hold hdep; refine Ord.step_of rfl rfl ?_; intro K hK)
    case s0_7 => (have f1 := slot_at (show a.eval (.tmp 1) = .pointer (some ⟨w0.heap.size, 0, none⟩) from hold 1 (by kernel_rfl)); have q0 := hE.1.cell zj0; have q1 := hE.1.cell zj1; have q2 := hE.1.cell zj2; have q3 := hE.1.cell zj3; have q4 := hE.1.cell zj4; go_simp; exact hK _ _ ⟨_, z, rfl, hE.id, rfl⟩)
    case s1_7 => (have f4 := slot_at (show a.eval (.tmp 4) = .pointer (some ⟨w2.heap.size, 0, none⟩) from hold 4 (by kernel_rfl)); go_simp; exact hK _ _ ⟨_, z, rfl, hE.id, rfl⟩)
    case s2_7 => (have f20 := slot_at (show a.eval (.tmp 20) = .pointer (some ⟨w2.heap.size, 2, none⟩) from hdep 1 20 (by kernel_rfl)); have q0 := hE.1.cell zq2; go_simp; exact hK _ _ ⟨_, z, rfl, hE.id, rfl⟩)
    case s3_7 => (have f21 := slot_at (show a.eval (.tmp 21) = .slice (some ⟨b2, o2, none⟩) 3 c1 from hdep 2 21 (by kernel_rfl)); go_simp; exact hK _ _ ⟨_, z, rfl, hE.id, rfl⟩)
    case s4_7 => (have f22 := slot_at (show a.eval (.tmp 22) = .pointer (some ⟨b2, o2, none⟩) from hdep 3 22 (by kernel_rfl)); have q0 := hE.1.cell hx0; have q1 := hE.1.cell hx1; have q2 := hE.1.cell hx2; go_simp; exact hK _ _ ⟨_, z, rfl, hE.id, rfl⟩)
    case s5_7 => (have f19 := slot_at (show a.eval (.tmp 19) = .agg #[.slice A G.length ca, .int .i64 k, .int .i64 n, .slice (some ⟨b, o, none⟩) ks.length ct, .func (.func 35) #[] #[.pointer (some ⟨p1, 0, none⟩), .pointer (some ⟨p2, 0, none⟩)]] from hdep 0 19 (by kernel_rfl)); have f23 := slot_at (show a.eval (.tmp 23) = .agg #[.int .i64 x1, .int .i64 x2, .slice x3 x4 x5] from hdep 4 23 (by kernel_rfl)); go_simp; go_at_call 70; refine (family_any k n ca ct hlt hct w M ((HJ.out.ext X1_3).ext ((Ext.refl _).drew.trans hE.1)) 0 (by rw [HKS.out]; decide) (kd ka2 0) _ ((Sx.out.later X2_3).later ((Ext.refl _).drew.trans hE.1)) c H1.out).mono ?_; rintro e w' ⟨rfl, e'⟩; exact hK _ _ ⟨_, z, rfl, EG.same hE e', rfl⟩)
  case fin_7 =>
    intro v w' z hE' hG
    have v5_ : v 5 = .int .i64 c := hG 5 (by decide) rfl
    rw [Ord.putN_all]
    simp only [Ord.putO, Ord.dstOf, List.getElem?_toArray, List.getElem?_cons_zero, List.getElem?_cons_succ, Option.bind_some, Act.put, List.setIfInBounds_toArray, List.set_cons_zero, List.set_cons_succ]
    rw [v5_]
    clear hG v5_
    have e4 : Ext w3 w' := (Ext.refl w3).drew.trans hE'.1
    clear hE'
    obtain ⟨w4, rfl⟩ : ∃ x, x = w' := ⟨_, rfl⟩
    have s4 := e4.size
    refine wpAnyH_take (i := 6) (v := ?v6_7) rfl (by kernel_rfl) (by kernel_rfl) (by kernel_rfl) (fun _ _ _ h => h) (Or.inl ⟨by rfl, ?hy6_7⟩) trivial ?rest6_7
    case hy6_7 => (intro w hSw; go_simp; (try with_reducible rfl))
    try simp only [Act.put, List.getElem_toArray, List.getElem_cons_succ, List.getElem_cons_zero, List.setIfInBounds_toArray, List.set_cons_zero, List.set_cons_succ]
    refine wpAnyH_done (by kernel_rfl) ?_ _
    clear zj0 zj1 zj2 zj3 zj4 lj zr0 zr1 zr2 yr0 yr1 yr2 lr zq0 zq1 zq2 lq
    by_cases hc0 : c = 0
    case neg =>
      obtain rfl := H3.out hc0
      have t1 : (c != 0) = true := by simp [hc0]
      clear hc0 H3 hk00 hk01 hk02 hx0 hx1 hx2 hy0 hy1 hy2 hv0 hv1 hv2
      have bj_4 := e4.blk bj_3
      obtain ⟨zj0, zj1, zj2, zj3, zj4⟩ := own5 bj_4
      have lj := lt_of_blk bj_4
      have br_4 := e4.blk br_3
      obtain ⟨zr0, zr1, zr2, yr0, yr1, yr2⟩ := own3 br_4
      have lr := lt_of_blk br_4
      have bq_4 := e4.blk bq_3
      obtain ⟨zq0, zq1, zq2, -⟩ := own3 bq_4
      have lq := lt_of_blk bq_4
      have X0_1 := e1
      have X0_2 := X0_1.trans e2
      have X0_3 := X0_2.trans e3
      have X0_4 := X0_3.trans e4
      go_wp2_with fail
      refine bodyPost_ret (v := .tuple #[.agg #[.int .i64 0, .int .i64 0, .slice none 0 0], .int .i64 c]) (by simp [results, Try.results56, go_sem, zr0, zr1, zr2]) rfl ⟨_, rfl, leafT _ _ 0 0, (X0_4.set3 (by omega) _ _ _)⟩
    have hq := H2.out hc0
    subst hc0
    clear H2 H3
    obtain ⟨⟨T2, c⟩, hTT⟩ : ∃ q, mkV (.mk 5 0 [kd ks 0, kd ka2 1]) = q := ⟨_, rfl⟩
    have HMQ : Hid (MadQ (.mk 5 0 [kd ks 0, kd ka2 1]) true (T2, c)) := Lib.hid (by have := madQ1 (.mk 5 0 [kd ks 0, kd ka2 1]); rwa [hTT] at this)
    rw [hTT] at hq
    obtain ⟨d, h1, h2, h3, h4⟩ := has_code hq
    simp only at h1 h2
    have H1 := Lib.hid h1
    have H2 := Lib.hid h2
    have H3 := Lib.hid h3
    have H4 := Lib.hid h4
    clear h1 h2 h3 h4
    clear hq hTT
    have X0_1 := e1
    have X0_2 := X0_1.trans e2
    have X0_3 := X0_2.trans e3
    have X0_4 := X0_3.trans e4
    replace hk00 := X0_4.cell hk00
    replace hk01 := X0_4.cell hk01
    replace hk02 := X0_4.cell hk02
    have bj_4 := e4.blk bj_3
    obtain ⟨zj0, zj1, zj2, zj3, zj4⟩ := own5 bj_4
    have lj := lt_of_blk bj_4
    have br_4 := e4.blk br_3
    obtain ⟨zr0, zr1, zr2, yr0, yr1, yr2⟩ := own3 br_4
    have lr := lt_of_blk br_4
    have bq_4 := e4.blk bq_3
    obtain ⟨zq0, zq1, zq2, -⟩ := own3 bq_4
    have lq := lt_of_blk bq_4
    obtain ⟨w5, hw5⟩ : ∃ x, x = w4.alloc (.cells #[.int .i64 k01, .int .i64 k02, .slice k03 k04 k05] 27) := ⟨_, rfl⟩
    have e5 : Ext w4 w5 := hw5 ▸ (Ext.refl w4).alloc _
    have bp_5 := heap_alloc_new w4 (.cells #[.int .i64 k01, .int .i64 k02, .slice k03 k04 k05] 27)
    rw [← hw5] at bp_5
    have s5 : w4.heap.size < w5.heap.size := lt_of_blk bp_5
    go_wp2_with fail
    rw [← hw5]
    clear hw5
    clear zj0 zj1 zj2 zj3 zj4 lj zr0 zr1 zr2 yr0 yr1 yr2 lr zq0 zq1 zq2 lq
    have X3_4 := e4
    have X3_5 := X3_4.trans e5
    replace hx0 := X3_5.cell hx0
    replace hx1 := X3_5.cell hx1
    replace hx2 := X3_5.cell hx2
    replace hy0 := X3_5.cell hy0
    replace hy1 := X3_5.cell hy1
    replace hy2 := X3_5.cell hy2
    replace hv0 := X3_5.cell hv0
    replace hv1 := X3_5.cell hv1
    replace hv2 := X3_5.cell hv2
    have bj_5 := e5.blk bj_4
    obtain ⟨zj0, zj1, zj2, zj3, zj4⟩ := own5 bj_5
    have lj := lt_of_blk bj_5
    have br_5 := e5.blk br_4
    obtain ⟨zr0, zr1, zr2, yr0, yr1, yr2⟩ := own3 br_5
    have lr := lt_of_blk br_5
    have bq_5 := e5.blk bq_4
    obtain ⟨zq0, zq1, zq2, -⟩ := own3 bq_5
    have lq := lt_of_blk bq_5
    obtain ⟨zp0, zp1, zp2, -⟩ := own3 bp_5
    have lp := lt_of_blk bp_5
    have X1_4 := X1_3.trans e4
    have X1_5 := X1_4.trans e5
    have X2_4 := X2_3.trans e4
    have X2_5 := X2_4.trans e5
    have HNN := Lib.hid (show ∀ w z, EG (w5.drew, []) (w, z) → ∀ b, w.heap.size ≤ b → Mz M z b from fun w z h => h.news ((fun w h => ((HJ.out.ext X1_5).ext h).hN) w ((Ext.refl w5).drew.trans h.1)))
    refine wp_region_held_drew (S := fun _ => True) (by kernel_rfl) trivial (fun _ => ?_)
    refine ordX w5 12 63 10 #[true, true, true, true, true, true, true, true, true, true, true, true, false, false] #[true, true, true, true, true, true, true, true, true, true, false, true, false, false] 2 [Sp.val (.agg #[.int .i64 k01, .int .i64 k02, .slice k03 k04 k05]), Sp.val (.pointer (some ⟨w2.heap.size, 2, none⟩)), Sp.val (.slice (some ⟨b2, o2, none⟩) 3 c1), Sp.val (.pointer (some ⟨b2, o2 + 3, none⟩)), Sp.val (.agg #[.int .i64 y1, .int .i64 y2, .slice y3 y4 y5]), Sp.row M [kd ks 0, kd ka2 1], Sp.tree M (.mk 5 0 [kd ks 0, kd ka2 1]), Sp.two M T2 (.int .i64 c), Sp.two M T2 (.int .i64 c), Sp.tree M T2, Sp.val (.int .i64 c), Sp.box w5] (by kernel_rfl) rfl (by kernel_rfl) (by kernel_rfl) (by kernel_rfl) rfl (by decide) (by kernel_rfl) (by kernel_rfl) (by kernel_rfl) (by kernel_rfl) (by kernel_rfl) (fun _ _ _ _ h => h) ?hx_8 ?steps_8 ?fin_8
    case hx_8 => (intro a w z hE hold hdep; obtain ⟨u34, f34, h34⟩ : ∃ u, a.eval (.tmp 34) = .tuple #[u, .int .i64 c] ∧ InT w (Mz M z) T2 u := hdep 8 34 (by kernel_rfl); replace f34 := slot_at f34; exact ⟨.int .i64 c, Or.inl ⟨by rfl, fun w'' _ => by go_simp⟩, rfl⟩)
    case steps_8 =>
      refine And.intro (.inr ?s0_8) (And.intro (.inr ?s1_8) (And.intro (.inr ?s2_8) (And.intro (.inr ?s3_8) (And.intro (.inr ?s4_8) (And.intro (.inr ?s5_8) (And.intro (.inr ?s6_8) (And.intro (.inr ?s7_8) (And.intro (.inr ?s8_8) (And.intro (.inr ?s9_8) (And.intro (.inr ?s10_8) (And.intro (.inr ?s11_8) (trivial))))))))))))
      all_goals (intro a w z hE hold hdep; refine Ord.step_of rfl rfl ?_; intro K hK)
      case s0_8 => (have f7 := slot_at (show a.eval (.tmp 7) = .pointer (some ⟨w4.heap.size, 0, none⟩) from hold 7 (by kernel_rfl)); have q0 := hE.1.cell zp0; have q1 := hE.1.cell zp1; have q2 := hE.1.cell zp2; go_simp; exact hK _ _ ⟨_, z, rfl, hE.id, rfl⟩)
      case s1_8 => (have f4 := slot_at (show a.eval (.tmp 4) = .pointer (some ⟨w2.heap.size, 0, none⟩) from hold 4 (by kernel_rfl)); go_simp; exact hK _ _ ⟨_, z, rfl, hE.id, rfl⟩)
      case s2_8 => (have f36 := slot_at (show a.eval (.tmp 36) = .pointer (some ⟨w2.heap.size, 2, none⟩) from hdep 1 36 (by kernel_rfl)); have q0 := hE.1.cell zq2; go_simp; exact hK _ _ ⟨_, z, rfl, hE.id, rfl⟩)
      case s3_8 => (have f37 := slot_at (show a.eval (.tmp 37) = .slice (some ⟨b2, o2, none⟩) 3 c1 from hdep 2 37 (by kernel_rfl)); go_simp; exact hK _ _ ⟨_, z, rfl, hE.id, rfl⟩)
      case s4_8 => (have f38 := slot_at (show a.eval (.tmp 38) = .pointer (some ⟨b2, o2 + 3, none⟩) from hdep 3 38 (by kernel_rfl)); have q0 := hE.1.cell hy0; have q1 := hE.1.cell hy1; have q2 := hE.1.cell hy2; go_simp; exact hK _ _ ⟨_, z, rfl, hE.id, rfl⟩)
      case s5_8 => (have f35 := slot_at (show a.eval (.tmp 35) = .agg #[.int .i64 k01, .int .i64 k02, .slice k03 k04 k05] from hdep 0 35 (by kernel_rfl)); have f39 := slot_at (show a.eval (.tmp 39) = .agg #[.int .i64 y1, .int .i64 y2, .slice y3 y4 y5] from hdep 4 39 (by kernel_rfl)); go_simp; refine hK _ _ ⟨_, z, rfl, EG.same hE ((Ext.refl _).alloc _), ⟨_, 2, rfl, Nat.le_refl _, by decide, InK.news2 (InT.oldG (M := M) (HM.out ▸ InT.later (InT.keep KT0.out e1 (g := w0.heap.size + 1) (Nat.le_succ _)) X1_5) hE) (InT.oldG (M := M) (Sy.out.later X2_5) hE) (HNN.out w z hE _ (Nat.le_refl _))⟩⟩)
      case s6_8 => (obtain ⟨A40, c40, f40, g40_1, g40_2, g40_3⟩ : ∃ A c, a.eval (.tmp 40) = .slice A 2 c ∧ 2 ≤ c ∧ c ≤ maxLen ∧ InK w (Mz M z) A [kd ks 0, kd ka2 1] := hdep 5 40 (by kernel_rfl); replace f40 := slot_at f40; go_simp; go_at_call 14; refine (node_any w 5 A40 2 c40).mono ?_; rintro e w' ⟨rfl, e'⟩; exact hK _ _ ⟨_, z, rfl, EG.same hE e', InT.mk_iff.2 ⟨A40, c40, rfl, g40_1, g40_2, g40_3.later e'⟩⟩)
      case s7_8 => (have h41 : InT w (Mz M z) (.mk 5 0 [kd ks 0, kd ka2 1]) (a.eval (.tmp 41)) := hdep 6 41 (by kernel_rfl); obtain ⟨d41_1, d41_2, d41_3, d41_4, d41_5, f41⟩ := h41.three; rw [f41] at h41; replace f41 := slot_at f41; go_simp; go_at_call 44; refine (HMQ.out w (Mz M z) _ h41).mono ?_; rintro e w' ⟨u, rfl, hu, e'⟩; exact hK _ _ ⟨_, z, rfl, EG.same hE e', u, rfl, hu⟩)
      case s8_8 => (obtain ⟨u42, f42, h42⟩ : ∃ u, a.eval (.tmp 42) = .tuple #[u, .int .i64 c] ∧ InT w (Mz M z) T2 u := hdep 7 42 (by kernel_rfl); replace f42 := slot_at f42; go_simp; exact hK _ _ ⟨_, z, rfl, hE.id, _, rfl, h42⟩)
      case s9_8 => (obtain ⟨u34, f34, h34⟩ : ∃ u, a.eval (.tmp 34) = .tuple #[u, .int .i64 c] ∧ InT w (Mz M z) T2 u := hdep 8 34 (by kernel_rfl); replace f34 := slot_at f34; go_simp; exact hK _ _ ⟨_, z, rfl, hE.id, h34⟩)
      case s10_8 => (obtain ⟨u34, f34, h34⟩ : ∃ u, a.eval (.tmp 34) = .tuple #[u, .int .i64 c] ∧ InT w (Mz M z) T2 u := hdep 8 34 (by kernel_rfl); replace f34 := slot_at f34; go_simp; exact hK _ _ ⟨_, z, rfl, hE.id, rfl⟩)
      case s11_8 => (go_simp; exact hK _ _ ⟨_, _, rfl, EG.box hE, _, rfl, List.mem_cons_self .., (show w5.heap.size ≤ w.heap.size from hE.1.size), heap_alloc_new _ _⟩)
    case fin_8 =>
      intro v w' z hE' hG
      have t9_ : InT w' (Mz M z) T2 (v 9) := hG 9 (by decide) rfl
      obtain ⟨a9_1, a9_2, a9_3, a9_4, a9_5, v9_⟩ := t9_.three
      rw [v9_] at t9_
      have T9_ := Lib.hid t9_
      clear t9_
      obtain ⟨g11_, v11_, gz11_, bl11_, bx11_⟩ : ∃ g, v 11 = .pointer (some ⟨g, 0, none⟩) ∧ g ∈ z ∧ w5.heap.size ≤ g ∧ w'.heap[g]? = _ := hG 11 (by decide) rfl
      have v10_ : v 10 = .int .i64 c := hG 10 (by decide) rfl
      rw [Ord.putN_all]
      simp only [Ord.putO, Ord.dstOf, List.getElem?_toArray, List.getElem?_cons_zero, List.getElem?_cons_succ, Option.bind_some, Act.put, List.setIfInBounds_toArray, List.set_cons_zero, List.set_cons_succ]
      rw [v9_, v11_, v10_]
      clear hG v9_ v11_ v10_
      clear zj0 zj1 zj2 zj3 zj4 lj zr0 zr1 zr2 yr0 yr1 yr2 lr zq0 zq1 zq2 lq zp0 zp1 zp2 lp
      have e' : Ext w5 w' := (Ext.refl w5).drew.trans hE'.1
      have gs11_ : g11_ < w'.heap.size := hE'.2.2.2 _ gz11_
      clear hE'
      obtain ⟨x0, x1, x2, x3, x4, x5⟩ := own3 bx11_
      refine wpAnyH_ready (rs := [12]) (by kernel_rfl) (by simp) ?_
      refine AllReadyH.cons rfl (fun K hK => ?_) AllReadyH.nil
      go_simp
      refine hK.out _ _ trivial (fun _ => ?_)
      clear hK K
      refine wpAnyH_take (i := 13) (v := ?v13_8) rfl (by kernel_rfl) (by kernel_rfl) (by kernel_rfl) (fun _ _ _ h => h) (Or.inl ⟨by rfl, ?hy13_8⟩) trivial ?rest13_8
      case hy13_8 => (intro w hSw; go_simp; (try with_reducible rfl))
      try simp only [Act.put, List.getElem_toArray, List.getElem_cons_succ, List.getElem_cons_zero, List.setIfInBounds_toArray, List.set_cons_zero, List.set_cons_succ]
      refine wpAnyH_done (by kernel_rfl) ?_ _
      clear x0 x1 x2 x3 x4 x5
      have bw_6 := blk_setCell (blk_setCell (blk_setCell bx11_ 0 (.int .i64 a9_1)) 1 (.int .i64 a9_2)) 2 (.slice a9_3 a9_4 a9_5)
      have e6 : Ext w5 (((w'.setCell ⟨g11_, 0, none⟩ (.int .i64 a9_1)).setCell ⟨g11_, 1, none⟩ (.int .i64 a9_2)).setCell ⟨g11_, 2, none⟩ (.slice a9_3 a9_4 a9_5)) := ((e'.setCell bl11_ _).setCell bl11_ _).setCell bl11_ _
      have HTw : Hid (InT (((w'.setCell ⟨g11_, 0, none⟩ (.int .i64 a9_1)).setCell ⟨g11_, 1, none⟩ (.int .i64 a9_2)).setCell ⟨g11_, 2, none⟩ (.slice a9_3 a9_4 a9_5)) M T2 (.agg #[.int .i64 a9_1, .int .i64 a9_2, .slice a9_3 a9_4 a9_5])) := Lib.hid (InT.ret (InT.mono (fun b hb => ⟨hb.1, fun h => hb.2 (h ▸ gz11_)⟩) (fun _ _ => rfl) T9_.out) _ _ _)
      obtain ⟨w6, hw6⟩ : ∃ x, x = (((w'.setCell ⟨g11_, 0, none⟩ (.int .i64 a9_1)).setCell ⟨g11_, 1, none⟩ (.int .i64 a9_2)).setCell ⟨g11_, 2, none⟩ (.slice a9_3 a9_4 a9_5)) := ⟨_, rfl⟩
      rw [← hw6] at bw_6 e6 HTw ⊢
      clear hw6 T9_ gz11_ bx11_ e' gs11_
      have s6 := e6.size
      clear hk00 hk01 hk02 hx0 hx1 hx2 hy0 hy1 hy2
      have bj_6 := e6.blk bj_5
      obtain ⟨zj0, zj1, zj2, zj3, zj4⟩ := own5 bj_6
      have lj := lt_of_blk bj_6
      have br_6 := e6.blk br_5
      obtain ⟨zr0, zr1, zr2, yr0, yr1, yr2⟩ := own3 br_6
      have lr := lt_of_blk br_6
      have bq_6 := e6.blk bq_5
      obtain ⟨zq0, zq1, zq2, -⟩ := own3 bq_6
      have lq := lt_of_blk bq_6
      have bp_6 := e6.blk bp_5
      obtain ⟨zp0, zp1, zp2, -⟩ := own3 bp_6
      have lp := lt_of_blk bp_6
      obtain ⟨zw0, zw1, zw2, -⟩ := own3 bw_6
      have lw := lt_of_blk bw_6
      go_wp2_with fail
      clear zj0 zj1 zj2 zj3 zj4 lj zr0 zr1 zr2 yr0 yr1 yr2 lr zq0 zq1 zq2 lq zp0 zp1 zp2 lp zw0 zw1 zw2 lw
      have X1_6 := X1_5.trans e6
      refine (jhas_any k n ca ct hlt hct w6 M (HJ.out.ext X1_6) 2 (by rw [HKS.out]; decide) T2 _ (HTw.out.later (Ext.refl w6)) c d H1.out H2.out).mono ?_
      rintro e w7 ⟨rfl, e7⟩
      have s7 := e7.size
      by_cases hc0 : d = 0
      case neg =>
        obtain rfl := H4.out hc0
        have t1 : (d != 0) = true := by simp [hc0]
        clear hc0 H4
        clear hv0 hv1 hv2
        have bj_7 := e7.blk bj_6
        obtain ⟨zj0, zj1, zj2, zj3, zj4⟩ := own5 bj_7
        have lj := lt_of_blk bj_7
        have br_7 := e7.blk br_6
        obtain ⟨zr0, zr1, zr2, yr0, yr1, yr2⟩ := own3 br_7
        have lr := lt_of_blk br_7
        have bq_7 := e7.blk bq_6
        obtain ⟨zq0, zq1, zq2, -⟩ := own3 bq_7
        have lq := lt_of_blk bq_7
        have bp_7 := e7.blk bp_6
        obtain ⟨zp0, zp1, zp2, -⟩ := own3 bp_7
        have lp := lt_of_blk bp_7
        have bw_7 := e7.blk bw_6
        obtain ⟨zw0, zw1, zw2, -⟩ := own3 bw_7
        have lw := lt_of_blk bw_7
        have X0_5 := X0_4.trans e5
        have X0_6 := X0_5.trans e6
        have X0_7 := X0_6.trans e7
        go_wp2_with fail
        refine bodyPost_ret (v := .tuple #[.agg #[.int .i64 0, .int .i64 0, .slice none 0 0], .int .i64 d]) (by simp [results, Try.results56, go_sem, zr0, zr1, zr2]) rfl ⟨_, rfl, leafT _ _ 0 0, (X0_7.set3 (by omega) _ _ _)⟩
      have hq := H3.out hc0
      subst hc0
      clear H3 H4
      obtain ⟨⟨T2, c⟩, hTT⟩ : ∃ q, mkV (.mk 5 0 [kd ks 0, kd ka2 2]) = q := ⟨_, rfl⟩
      obtain rfl : r = (T2, c) := by rw [hTT] at hq; simpa using hq.symm
      have HMQ : Hid (MadQ (.mk 5 0 [kd ks 0, kd ka2 2]) true (T2, c)) := Lib.hid (by have := madQ1 (.mk 5 0 [kd ks 0, kd ka2 2]); rwa [hTT] at this)
      clear hq hTT
      have bj_7 := e7.blk bj_6
      obtain ⟨zj0, zj1, zj2, zj3, zj4⟩ := own5 bj_7
      have lj := lt_of_blk bj_7
      have br_7 := e7.blk br_6
      obtain ⟨zr0, zr1, zr2, yr0, yr1, yr2⟩ := own3 br_7
      have lr := lt_of_blk br_7
      have bq_7 := e7.blk bq_6
      obtain ⟨zq0, zq1, zq2, -⟩ := own3 bq_7
      have lq := lt_of_blk bq_7
      have bp_7 := e7.blk bp_6
      obtain ⟨zp0, zp1, zp2, -⟩ := own3 bp_7
      have lp := lt_of_blk bp_7
      have bw_7 := e7.blk bw_6
      obtain ⟨zw0, zw1, zw2, -⟩ := own3 bw_7
      have lw := lt_of_blk bw_7
      go_wp2_with fail
      clear zj0 zj1 zj2 zj3 zj4 lj zr0 zr1 zr2 yr0 yr1 yr2 lr zq0 zq1 zq2 lq zp0 zp1 zp2 lp zw0 zw1 zw2 lw
      have X5_6 := e6
      have X5_7 := X5_6.trans e7
      replace hv0 := X5_7.cell hv0
      replace hv1 := X5_7.cell hv1
      replace hv2 := X5_7.cell hv2
      obtain ⟨zj0, zj1, zj2, zj3, zj4⟩ := own5 bj_7
      have lj := lt_of_blk bj_7
      obtain ⟨zr0, zr1, zr2, yr0, yr1, yr2⟩ := own3 br_7
      have lr := lt_of_blk br_7
      obtain ⟨zq0, zq1, zq2, -⟩ := own3 bq_7
      have lq := lt_of_blk bq_7
      obtain ⟨zp0, zp1, zp2, -⟩ := own3 bp_7
      have lp := lt_of_blk bp_7
      obtain ⟨zw0, zw1, zw2, -⟩ := own3 bw_7
      have lw := lt_of_blk bw_7
      have X1_7 := X1_6.trans e7
      have X2_6 := X2_5.trans e6
      have X2_7 := X2_6.trans e7
      have HNN := Lib.hid (show ∀ w z, EG (w7.drew, []) (w, z) → ∀ b, w.heap.size ≤ b → Mz M z b from fun w z h => h.news ((fun w h => ((HJ.out.ext X1_7).ext h).hN) w ((Ext.refl w7).drew.trans h.1)))
      refine wp_region_held_drew (S := fun _ => True) (by kernel_rfl) trivial (fun _ => ?_)
      refine ordG w7 10 63 #[true, true, true, true, true, true, true, true, true, true, false, false] 2 [Sp.val (.agg #[.int .i64 k01, .int .i64 k02, .slice k03 k04 k05]), Sp.val (.pointer (some ⟨w2.heap.size, 2, none⟩)), Sp.val (.slice (some ⟨b2, o2, none⟩) 3 c1), Sp.val (.pointer (some ⟨b2, o2 + 6, none⟩)), Sp.val (.agg #[.int .i64 v1, .int .i64 v2, .slice v3 v4 v5]), Sp.row M [kd ks 0, kd ka2 2], Sp.tree M (.mk 5 0 [kd ks 0, kd ka2 2]), Sp.two M T2 (.int .i64 c), Sp.tree M T2, Sp.val (.int .i64 c)] (by kernel_rfl) rfl (by kernel_rfl) (by kernel_rfl) (by kernel_rfl) ?steps_9 ?fin_9
      case steps_9 =>
        refine And.intro (.inr ?s0_9) (And.intro (.inr ?s1_9) (And.intro (.inr ?s2_9) (And.intro (.inr ?s3_9) (And.intro (.inr ?s4_9) (And.intro (.inr ?s5_9) (And.intro (.inr ?s6_9) (And.intro (.inr ?s7_9) (And.intro (.inr ?s8_9) (And.intro (.inr ?s9_9) (trivial))))))))))
        all_goals (intro a w z hE hold hdep; refine Ord.step_of rfl rfl ?_; intro K hK)
        case s0_9 => (have f7 := slot_at (show a.eval (.tmp 7) = .pointer (some ⟨w4.heap.size, 0, none⟩) from hold 7 (by kernel_rfl)); have q0 := hE.1.cell zp0; have q1 := hE.1.cell zp1; have q2 := hE.1.cell zp2; go_simp; exact hK _ _ ⟨_, z, rfl, hE.id, rfl⟩)
        case s1_9 => (have f4 := slot_at (show a.eval (.tmp 4) = .pointer (some ⟨w2.heap.size, 0, none⟩) from hold 4 (by kernel_rfl)); go_simp; exact hK _ _ ⟨_, z, rfl, hE.id, rfl⟩)
        case s2_9 => (have f54 := slot_at (show a.eval (.tmp 54) = .pointer (some ⟨w2.heap.size, 2, none⟩) from hdep 1 54 (by kernel_rfl)); have q0 := hE.1.cell zq2; go_simp; exact hK _ _ ⟨_, z, rfl, hE.id, rfl⟩)
        case s3_9 => (have f55 := slot_at (show a.eval (.tmp 55) = .slice (some ⟨b2, o2, none⟩) 3 c1 from hdep 2 55 (by kernel_rfl)); go_simp; exact hK _ _ ⟨_, z, rfl, hE.id, rfl⟩)
        case s4_9 => (have f56 := slot_at (show a.eval (.tmp 56) = .pointer (some ⟨b2, o2 + 6, none⟩) from hdep 3 56 (by kernel_rfl)); have q0 := hE.1.cell hv0; have q1 := hE.1.cell hv1; have q2 := hE.1.cell hv2; go_simp; exact hK _ _ ⟨_, z, rfl, hE.id, rfl⟩)
        case s5_9 => (have f53 := slot_at (show a.eval (.tmp 53) = .agg #[.int .i64 k01, .int .i64 k02, .slice k03 k04 k05] from hdep 0 53 (by kernel_rfl)); have f57 := slot_at (show a.eval (.tmp 57) = .agg #[.int .i64 v1, .int .i64 v2, .slice v3 v4 v5] from hdep 4 57 (by kernel_rfl)); go_simp; refine hK _ _ ⟨_, z, rfl, EG.same hE ((Ext.refl _).alloc _), ⟨_, 2, rfl, Nat.le_refl _, by decide, InK.news2 (InT.oldG (M := M) (HM.out ▸ InT.later (InT.keep KT0.out e1 (g := w0.heap.size + 1) (Nat.le_succ _)) X1_7) hE) (InT.oldG (M := M) (Sv.out.later X2_7) hE) (HNN.out w z hE _ (Nat.le_refl _))⟩⟩)
        case s6_9 => (obtain ⟨A58, c58, f58, g58_1, g58_2, g58_3⟩ : ∃ A c, a.eval (.tmp 58) = .slice A 2 c ∧ 2 ≤ c ∧ c ≤ maxLen ∧ InK w (Mz M z) A [kd ks 0, kd ka2 2] := hdep 5 58 (by kernel_rfl); replace f58 := slot_at f58; go_simp; go_at_call 14; refine (node_any w 5 A58 2 c58).mono ?_; rintro e w' ⟨rfl, e'⟩; exact hK _ _ ⟨_, z, rfl, EG.same hE e', InT.mk_iff.2 ⟨A58, c58, rfl, g58_1, g58_2, g58_3.later e'⟩⟩)
        case s7_9 => (have h59 : InT w (Mz M z) (.mk 5 0 [kd ks 0, kd ka2 2]) (a.eval (.tmp 59)) := hdep 6 59 (by kernel_rfl); obtain ⟨d59_1, d59_2, d59_3, d59_4, d59_5, f59⟩ := h59.three; rw [f59] at h59; replace f59 := slot_at f59; go_simp; go_at_call 44; refine (HMQ.out w (Mz M z) _ h59).mono ?_; rintro e w' ⟨u, rfl, hu, e'⟩; exact hK _ _ ⟨_, z, rfl, EG.same hE e', u, rfl, hu⟩)
        case s8_9 => (obtain ⟨u60, f60, h60⟩ : ∃ u, a.eval (.tmp 60) = .tuple #[u, .int .i64 c] ∧ InT w (Mz M z) T2 u := hdep 7 60 (by kernel_rfl); replace f60 := slot_at f60; go_simp; exact hK _ _ ⟨_, z, rfl, hE.id, h60⟩)
        case s9_9 => (obtain ⟨u60, f60, h60⟩ : ∃ u, a.eval (.tmp 60) = .tuple #[u, .int .i64 c] ∧ InT w (Mz M z) T2 u := hdep 7 60 (by kernel_rfl); replace f60 := slot_at f60; go_simp; exact hK _ _ ⟨_, z, rfl, hE.id, rfl⟩)
      case fin_9 =>
        intro v w' z hE' hG
        have t8_ : InT w' (Mz M z) T2 (v 8) := hG 8 (by decide) rfl
        obtain ⟨a8_1, a8_2, a8_3, a8_4, a8_5, v8_⟩ := t8_.three
        rw [v8_] at t8_
        have T8_ := Lib.hid t8_
        clear t8_
        have v9_ : v 9 = .int .i64 c := hG 9 (by decide) rfl
        rw [Ord.putN_all]
        simp only [Ord.putO, Ord.dstOf, List.getElem?_toArray, List.getElem?_cons_zero, List.getElem?_cons_succ, Option.bind_some, Act.put, List.setIfInBounds_toArray, List.set_cons_zero, List.set_cons_succ]
        rw [v8_, v9_]
        clear hG v8_ v9_
        have e8 : Ext w7 w' := (Ext.refl w7).drew.trans hE'.1
        clear hE'
        obtain ⟨w8, rfl⟩ : ∃ x, x = w' := ⟨_, rfl⟩
        have s8 := e8.size
        clear hv0 hv1 hv2 zj0 zj1 zj2 zj3 zj4 lj zr0 zr1 zr2 yr0 yr1 yr2 lr zq0 zq1 zq2 lq zp0 zp1 zp2 lp zw0 zw1 zw2 lw
        have X0_5 := X0_4.trans e5
        have X0_6 := X0_5.trans e6
        have X0_7 := X0_6.trans e7
        have X0_8 := X0_7.trans e8
        have br_8 := e8.blk br_7
        obtain ⟨zr0, zr1, zr2, yr0, yr1, yr2⟩ := own3 br_8
        refine wpAnyH_ready (rs := [10]) (by kernel_rfl) (by simp) ?_
        refine AllReadyH.cons rfl (fun K hK => ?_) AllReadyH.nil
        go_simp
        refine hK.out _ _ trivial (fun _ => ?_)
        clear hK K
        refine wpAnyH_take (i := 11) (v := ?v11_9) rfl (by kernel_rfl) (by kernel_rfl) (by kernel_rfl) (fun _ _ _ h => h) (Or.inl ⟨by rfl, ?hy11_9⟩) trivial ?rest11_9
        case hy11_9 => (intro w hSw; go_simp; (try with_reducible rfl))
        try simp only [Act.put, List.getElem_toArray, List.getElem_cons_succ, List.getElem_cons_zero, List.setIfInBounds_toArray, List.set_cons_zero, List.set_cons_succ]
        refine wpAnyH_done (by kernel_rfl) ?_ _
        go_wp2_with fail
        refine bodyPost_ret (v := .tuple #[.agg #[.int .i64 a8_1, .int .i64 a8_2, .slice a8_3 a8_4 a8_5], .int .i64 c]) (by simp [results, Try.results56, go_sem, zr0, zr1, zr2]) rfl ⟨_, rfl, InT.ret (HM.out ▸ InT.mono (fun b hb => hb.1) (fun _ _ => rfl) T8_.out) _ _ _, (X0_8.set3 (by omega) _ _ _)⟩
set_option maxRecDepth 100000 in
set_option maxHeartbeats 8000000 in
theorem paired_any {wC : World} {p1 p2 : Nat} {A : Option Addr} {G : List Tr} {At : Option Addr} {ks : List Tr} {ty : Nat → An} (k n : Int) (ca ct : Nat) (hlt : ks.length ≤ ct) (hct : ct ≤ maxLen) (w0 : World) (N : Nat → Prop) (hJ : JOk wC w0 N p1 p2 A G At ks ty) (hks : ks.length = 3) (hv1 : valid sigT (kd ks 1) = true) (r : Tr × Int) (h : parV ty (kd ks 0) (kd ks 1) = some r) : Calls Try.prog 57 #[.agg #[.slice A G.length ca, .int .i64 k, .int .i64 n, .slice At ks.length ct, .func (.func 35) #[] #[.pointer (some ⟨p1, 0, none⟩), .pointer (some ⟨p2, 0, none⟩)]]] w0 (AnQ N w0 r) := by
  have HKS := Lib.hid hks
  have HV1 := Lib.hid hv1
  obtain ⟨sA, c, h1, h2, h3⟩ := thn_code h
  have H1 := Lib.hid h1
  have H2 := Lib.hid h2
  have H3 := Lib.hid h3
  clear h1 h2 h3
  clear h hv1
  obtain ⟨b, o, rfl, hkid⟩ := InK.kid hJ.hK (by omega)
  obtain ⟨k01, k02, k03, k04, k05, hk00, hk01, hk02, hkT0⟩ := hkid 0 (by omega)
  simp only [Nat.mul_zero, Nat.add_zero] at hk00 hk01 hk02
  have KT0 := Lib.hid hkT0
  clear hkT0
  obtain ⟨k11, k12, k13, k14, k15, hk10, hk11, hk12, hkT1⟩ := hkid 1 (by omega)
  simp only [Nat.mul_one] at hk10 hk11 hk12
  have KT1 := Lib.hid hkT1
  clear hkT1
  have hp0 : (0 : Int) < (ks.length : Int) := by omega
  have hq0 : 0 < ks.length := by omega
  have hp1 : (1 : Int) < (ks.length : Int) := by omega
  have hq1 : 1 < ks.length := by omega
  clear hkid
  clear hks
  obtain ⟨w1, hw1⟩ : ∃ x, x = ((w0.alloc (.cells #[.slice A G.length ca, .int .i64 k, .int .i64 n, .slice (some ⟨b, o, none⟩) ks.length ct, .func (.func 35) #[] #[.pointer (some ⟨p1, 0, none⟩), .pointer (some ⟨p2, 0, none⟩)]] 65)).alloc (.cells #[.int .i64 0, .int .i64 0, .slice none 0 0] 27)) := ⟨_, rfl⟩
  obtain ⟨bj_1, br_1, s1, e1⟩ := box2 hw1
  have HJ := Lib.hid (hJ.keep e1 (g := w0.heap.size + 1) (Nat.le_succ _) (by omega))
  obtain ⟨M, hM⟩ : ∃ M, M = (fun b => N b ∧ b ≠ w0.heap.size + 1) := ⟨_, rfl⟩
  rw [← hM] at HJ
  have HM := Lib.hid hM
  clear hM hJ
  go_enter Try.func57, Try.ntmps57
  go_wp2_with fail
  rw [← hw1]
  clear hw1
  refine (jlevel_any k n ca ct hlt hct w1 M (HJ.out.ext (Ext.refl w1)) 0 (by rw [HKS.out]; decide) _ H1.out).mono ?_
  rintro e w2 ⟨rfl, e2⟩
  have s2 := e2.size
  simp only
  by_cases hc0 : c = 0
  case neg =>
    obtain rfl := H3.out hc0
    have t1 : (c != 0) = true := by simp [hc0]
    clear hc0 H3
    clear hk00 hk01 hk02 hk10 hk11 hk12
    have bj_2 := e2.blk bj_1
    obtain ⟨zj0, zj1, zj2, zj3, zj4⟩ := own5 bj_2
    have lj := lt_of_blk bj_2
    have br_2 := e2.blk br_1
    obtain ⟨zr0, zr1, zr2, yr0, yr1, yr2⟩ := own3 br_2
    have lr := lt_of_blk br_2
    have X0_1 := e1
    have X0_2 := X0_1.trans e2
    go_wp2_with fail
    refine bodyPost_ret (v := .tuple #[.agg #[.int .i64 0, .int .i64 0, .slice none 0 0], .int .i64 c]) (by simp [results, Try.results57, go_sem, zr0, zr1, zr2]) rfl ⟨_, rfl, leafT _ _ 0 0, (X0_2.set3 (by omega) _ _ _)⟩
  have hq := H2.out hc0
  subst hc0
  clear H2 H3
  have HSH := Lib.hid (fun W (hN : ∀ b, W.heap.size ≤ b → M b) v (hv : Lies W (kd ks 0) v) => shaped_any (kd ks 0) 13 W M hN v hv)
  have hsp : (shpV (kd ks 0) 13).2 = 0 → (shpV (kd ks 0) 13).1.kids.length = 2 ∧ valid sigT (shpV (kd ks 0) 13).1 = true := fun h0 => by
    obtain ⟨q1, q2⟩ := shpV_ok h0
    obtain ⟨-, -, -, hv⟩ := hnfV_reds q1
    refine ⟨?_, hv⟩
    generalize (shpV (kd ks 0) 13).1 = X at q2 hv
    obtain ⟨a1, a2, a3⟩ := X
    have := (shape_kids' (valid_parts hv).1).1
    rw [show a1 = 13 from q2] at this
    have : opsT 13 = 2 := rfl
    simp only [Tr.kids]
    have h5 : sigT.ops 13 = opsT 13 := rfl
    omega
  obtain ⟨d, h1, h2, h3, h4⟩ := has_code2 hq
  generalize shpV (kd ks 0) 13 = sh at HSH hsp h1 h2 h3
  obtain ⟨⟨qk, qn, qs⟩, c⟩ := sh
  simp only [Tr.kids] at h1 h2 h3 hsp HSH
  have H1 := Lib.hid h1
  have H2 := Lib.hid h2
  have H3 := Lib.hid h3
  have H4 := Lib.hid h4
  have HSP := Lib.hid hsp
  clear h1 h2 h3 h4 hsp
  clear hq
  have X0_1 := e1
  have X0_2 := X0_1.trans e2
  replace hk00 := X0_2.cell hk00
  replace hk01 := X0_2.cell hk01
  replace hk02 := X0_2.cell hk02
  replace hk10 := X0_2.cell hk10
  replace hk11 := X0_2.cell hk11
  replace hk12 := X0_2.cell hk12
  have bj_2 := e2.blk bj_1
  obtain ⟨zj0, zj1, zj2, zj3, zj4⟩ := own5 bj_2
  have lj := lt_of_blk bj_2
  have br_2 := e2.blk br_1
  obtain ⟨zr0, zr1, zr2, yr0, yr1, yr2⟩ := own3 br_2
  have lr := lt_of_blk br_2
  go_wp2_with fail
  clear zj0 zj1 zj2 zj3 zj4 lj zr0 zr1 zr2 yr0 yr1 yr2 lr
  have X1_2 := e2
  refine (HSH.out w2 (HJ.out.ext X1_2).hN _ (InT.lies' (InT.later KT0.out X0_2))).mono ?_
  rintro e w3 ⟨u, rfl, hT, e3⟩
  have s3 := e3.size
  simp only at hT ⊢
  obtain ⟨A3, c1, rfl, hl3, hc3, hK3⟩ := InT.mk_iff.1 hT
  have T6 := Lib.hid hT
  clear hT hK3 HSH
  have bj_3 := e3.blk bj_2
  obtain ⟨zj0, zj1, zj2, zj3, zj4⟩ := own5 bj_3
  have lj := lt_of_blk bj_3
  have br_3 := e3.blk br_2
  obtain ⟨zr0, zr1, zr2, yr0, yr1, yr2⟩ := own3 br_3
  have lr := lt_of_blk br_3
  obtain ⟨w4, hw4⟩ : ∃ x, x = w3.alloc (.cells #[.int .i64 qk, .int .i64 qn, .slice A3 qs.length c1] 27) := ⟨_, rfl⟩
  have e4 : Ext w3 w4 := hw4 ▸ (Ext.refl w3).alloc _
  have bq_4 := heap_alloc_new w3 (.cells #[.int .i64 qk, .int .i64 qn, .slice A3 qs.length c1] 27)
  rw [← hw4] at bq_4
  have s4 : w3.heap.size < w4.heap.size := lt_of_blk bq_4
  go_wp2_with fail
  rw [← hw4]
  clear hw4
  clear zj0 zj1 zj2 zj3 zj4 lj zr0 zr1 zr2 yr0 yr1 yr2 lr
  have bj_4 := e4.blk bj_3
  obtain ⟨zj0, zj1, zj2, zj3, zj4⟩ := own5 bj_4
  have lj := lt_of_blk bj_4
  have br_4 := e4.blk br_3
  obtain ⟨zr0, zr1, zr2, yr0, yr1, yr2⟩ := own3 br_4
  have lr := lt_of_blk br_4
  obtain ⟨zq0, zq1, zq2, -⟩ := own3 bq_4
  have lq := lt_of_blk bq_4
  have X3_4 := e4
  have X1_3 := X1_2.trans e3
  have X1_4 := X1_3.trans e4
  have HNN := Lib.hid (show ∀ w z, EG (w4.drew, []) (w, z) → ∀ b, w.heap.size ≤ b → Mz M z b from fun w z h => h.news ((fun w h => ((HJ.out.ext X1_4).ext h).hN) w ((Ext.refl w4).drew.trans h.1)))
  refine wp_region_held_drew (S := fun _ => True) (by kernel_rfl) trivial (fun _ => ?_)
  refine ordG w4 5 67 #[true, true, true, true, true, false] 1 [Sp.val (.agg #[.slice A G.length ca, .int .i64 k, .int .i64 n, .slice (some ⟨b, o, none⟩) ks.length ct, .func (.func 35) #[] #[.pointer (some ⟨p1, 0, none⟩), .pointer (some ⟨p2, 0, none⟩)]]), Sp.val (.agg #[.int .i64 qk, .int .i64 qn, .slice A3 qs.length c1]), Sp.tree M (kd qs 0), Sp.val (.int .i64 c), Sp.val (.int .i64 d)] (by kernel_rfl) rfl (by kernel_rfl) (by kernel_rfl) (by kernel_rfl) ?steps_10 ?fin_10
  case steps_10 =>
    refine And.intro (.inr ?s0_10) (And.intro (.inr ?s1_10) (And.intro (.inr ?s2_10) (And.intro (.inr ?s3_10) (And.intro (.inr ?s4_10) (trivial)))))
    all_goals (intro a w z hE hold hdep; refine Ord.step_of rfl rfl ?_; intro K hK)
    case s0_10 => (have f1 := slot_at (show a.eval (.tmp 1) = .pointer (some ⟨w0.heap.size, 0, none⟩) from hold 1 (by kernel_rfl)); have q0 := hE.1.cell zj0; have q1 := hE.1.cell zj1; have q2 := hE.1.cell zj2; have q3 := hE.1.cell zj3; have q4 := hE.1.cell zj4; go_simp; exact hK _ _ ⟨_, z, rfl, hE.id, rfl⟩)
    case s1_10 => (have f6 := slot_at (show a.eval (.tmp 6) = .pointer (some ⟨w3.heap.size, 0, none⟩) from hold 6 (by kernel_rfl)); have q0 := hE.1.cell zq0; have q1 := hE.1.cell zq1; have q2 := hE.1.cell zq2; go_simp; exact hK _ _ ⟨_, z, rfl, hE.id, rfl⟩)
    case s2_10 => (have f30 := slot_at (show a.eval (.tmp 30) = .agg #[.int .i64 qk, .int .i64 qn, .slice A3 qs.length c1] from hdep 1 30 (by kernel_rfl)); go_simp; go_at_call 52; refine (sideOf_any (.mk qk qn qs) w (Mz M z) _ (InT.oldG (M := M) (T6.out.later X3_4) hE)).mono ?_; rintro e w' ⟨u, rfl, hu, e'⟩; exact hK _ _ ⟨_, z, rfl, EG.same hE e', hu⟩)
    case s3_10 => (have f7 := slot_at (show a.eval (.tmp 7) = .int .i64 c from hold 7 (by kernel_rfl)); go_simp; exact hK _ _ ⟨_, z, rfl, hE.id, rfl⟩)
    case s4_10 => (have f29 := slot_at (show a.eval (.tmp 29) = .agg #[.slice A G.length ca, .int .i64 k, .int .i64 n, .slice (some ⟨b, o, none⟩) ks.length ct, .func (.func 35) #[] #[.pointer (some ⟨p1, 0, none⟩), .pointer (some ⟨p2, 0, none⟩)]] from hdep 0 29 (by kernel_rfl)); have h31 : InT w (Mz M z) (kd qs 0) (a.eval (.tmp 31)) := hdep 2 31 (by kernel_rfl); obtain ⟨d31_1, d31_2, d31_3, d31_4, d31_5, f31⟩ := h31.three; rw [f31] at h31; replace f31 := slot_at f31; have f32 := slot_at (show a.eval (.tmp 32) = .int .i64 c from hdep 3 32 (by kernel_rfl)); go_simp; go_at_call 51; refine (jhas_any k n ca ct hlt hct w M ((HJ.out.ext X1_4).ext ((Ext.refl _).drew.trans hE.1)) 1 (by rw [HKS.out]; decide) (kd qs 0) _ (InT.mono (fun b hb => hb.1) (fun _ _ => rfl) h31) c d H1.out H2.out).mono ?_; rintro e w' ⟨rfl, e'⟩; exact hK _ _ ⟨_, z, rfl, EG.same hE e', rfl⟩)
  case fin_10 =>
    intro v w' z hE' hG
    have v4_ : v 4 = .int .i64 d := hG 4 (by decide) rfl
    rw [Ord.putN_all]
    simp only [Ord.putO, Ord.dstOf, List.getElem?_toArray, List.getElem?_cons_zero, List.getElem?_cons_succ, Option.bind_some, Act.put, List.setIfInBounds_toArray, List.set_cons_zero, List.set_cons_succ]
    rw [v4_]
    clear hG v4_
    have e5 : Ext w4 w' := (Ext.refl w4).drew.trans hE'.1
    clear hE'
    obtain ⟨w5, rfl⟩ : ∃ x, x = w' := ⟨_, rfl⟩
    have s5 := e5.size
    refine wpAnyH_take (i := 5) (v := ?v5_10) rfl (by kernel_rfl) (by kernel_rfl) (by kernel_rfl) (fun _ _ _ h => h) (Or.inl ⟨by rfl, ?hy5_10⟩) trivial ?rest5_10
    case hy5_10 => (intro w hSw; go_simp; (try with_reducible rfl))
    try simp only [Act.put, List.getElem_toArray, List.getElem_cons_succ, List.getElem_cons_zero, List.setIfInBounds_toArray, List.set_cons_zero, List.set_cons_succ]
    refine wpAnyH_done (by kernel_rfl) ?_ _
    clear zj0 zj1 zj2 zj3 zj4 lj zr0 zr1 zr2 yr0 yr1 yr2 lr zq0 zq1 zq2 lq
    by_cases hc0 : d = 0
    case neg =>
      obtain rfl := H4.out hc0
      have t1 : (d != 0) = true := by simp [hc0]
      clear hc0 H4 hk00 hk01 hk02 hk10 hk11 hk12
      have bj_5 := e5.blk bj_4
      obtain ⟨zj0, zj1, zj2, zj3, zj4⟩ := own5 bj_5
      have lj := lt_of_blk bj_5
      have br_5 := e5.blk br_4
      obtain ⟨zr0, zr1, zr2, yr0, yr1, yr2⟩ := own3 br_5
      have lr := lt_of_blk br_5
      have bq_5 := e5.blk bq_4
      obtain ⟨zq0, zq1, zq2, -⟩ := own3 bq_5
      have lq := lt_of_blk bq_5
      have X0_3 := X0_2.trans e3
      have X0_4 := X0_3.trans e4
      have X0_5 := X0_4.trans e5
      go_wp2_with fail
      refine bodyPost_ret (v := .tuple #[.agg #[.int .i64 0, .int .i64 0, .slice none 0 0], .int .i64 d]) (by simp [results, Try.results57, go_sem, zr0, zr1, zr2]) rfl ⟨_, rfl, leafT _ _ 0 0, (X0_5.set3 (by omega) _ _ _)⟩
    obtain ⟨hcc, hq⟩ := H3.out hc0
    subst hc0
    obtain ⟨hl2, hsv⟩ := HSP.out hcc
    clear H1 H2 H3 H4 hcc HSP
    have hs1 : valid sigT (kd qs 1) = true := kd_valid (t := .mk qk qn qs) hsv (by show 1 < qs.length; omega)
    have hi1 : (1 : Int) < (qs.length : Int) := by omega
    have hj1 : 1 < qs.length := by omega
    obtain ⟨X, hX⟩ : ∃ X, sbsT (kd ks 1) (kd qs 1) 0 0 = X := ⟨_, rfl⟩
    obtain ⟨⟨T2, c⟩, hTT⟩ : ∃ q, mkV X = q := ⟨_, rfl⟩
    rw [hX, hTT] at hq
    obtain ⟨d, h1, h2, h3, h4⟩ := has_code hq
    simp only at h1 h2
    have H1 := Lib.hid h1
    have H2 := Lib.hid h2
    have H3 := Lib.hid h3
    have H4 := Lib.hid h4
    clear h1 h2 h3 h4
    have X3_5 := X3_4.trans e5
    obtain ⟨A9, c9, he9, hl9, hc9, hK9⟩ := InT.mk_iff.1 (T6.out.later X3_5)
    simp only [Value.agg.injEq, Array.mk.injEq, List.cons.injEq, Value.slice.injEq, and_true, true_and] at he9
    obtain ⟨rfl, rfl⟩ := he9
    obtain ⟨b2, o2, rfl, hkid2⟩ := InK.kid hK9 (by omega)
    obtain ⟨y1, y2, y3, y4, y5, hy0, hy1, hy2, hyT⟩ := hkid2 1 (by omega)
    simp only [Nat.mul_one] at hy0 hy1 hy2
    have Sy := Lib.hid hyT
    clear hyT
    have HMQ : Hid (MadQ (okT X) (valid sigT X) (T2, c)) := Lib.hid (hTT ▸ madQ X)
    have HSQ : Hid (∀ vu, SubQ w5 (kd ks 1) _ vu (okT X) (valid sigT X)) := Lib.hid (fun vu => hX ▸ subQ Sy.out.lies' hs1 HV1.out)
    generalize okT X = T1 at HMQ HSQ
    generalize valid sigT X = zz at HMQ HSQ
    clear hq hX hTT hs1 hl2 hsv hK9 hkid2 hl9 hc9
    have bj_5 := e5.blk bj_4
    obtain ⟨zj0, zj1, zj2, zj3, zj4⟩ := own5 bj_5
    have lj := lt_of_blk bj_5
    have br_5 := e5.blk br_4
    obtain ⟨zr0, zr1, zr2, yr0, yr1, yr2⟩ := own3 br_5
    have lr := lt_of_blk br_5
    have bq_5 := e5.blk bq_4
    obtain ⟨zq0, zq1, zq2, -⟩ := own3 bq_5
    have lq := lt_of_blk bq_5
    go_wp2_with fail
    clear zj0 zj1 zj2 zj3 zj4 lj zr0 zr1 zr2 yr0 yr1 yr2 lr zq0 zq1 zq2 lq
    have X2_3 := e3
    have X2_4 := X2_3.trans e4
    have X2_5 := X2_4.trans e5
    replace hk00 := X2_5.cell hk00
    replace hk01 := X2_5.cell hk01
    replace hk02 := X2_5.cell hk02
    replace hk10 := X2_5.cell hk10
    replace hk11 := X2_5.cell hk11
    replace hk12 := X2_5.cell hk12
    obtain ⟨zj0, zj1, zj2, zj3, zj4⟩ := own5 bj_5
    have lj := lt_of_blk bj_5
    obtain ⟨zr0, zr1, zr2, yr0, yr1, yr2⟩ := own3 br_5
    have lr := lt_of_blk br_5
    obtain ⟨zq0, zq1, zq2, -⟩ := own3 bq_5
    have lq := lt_of_blk bq_5
    have X0_3 := X0_2.trans e3
    have X0_4 := X0_3.trans e4
    have X0_5 := X0_4.trans e5
    have X1_5 := X1_4.trans e5
    have HNN := Lib.hid (show ∀ w z, EG (w5.drew, []) (w, z) → ∀ b, w.heap.size ≤ b → Mz M z b from fun w z h => h.news ((fun w h => ((HJ.out.ext X1_5).ext h).hN) w ((Ext.refl w5).drew.trans h.1)))
    refine wp_region_held_drew (S := fun _ => True) (by kernel_rfl) trivial (fun _ => ?_)
    refine ordX w5 17 67 15 #[true, true, true, true, true, true, true, true, true, true, true, true, true, true, true, true, true, false, false] #[true, true, true, true, true, true, true, true, true, true, true, true, true, true, true, false, true, false, false] 2 [Sp.val (.pointer (some ⟨w3.heap.size, 2, none⟩)), Sp.val (.slice (some ⟨b2, o2, none⟩) qs.length c1), Sp.val (.pointer (some ⟨b2, o2 + 3, none⟩)), Sp.val (.agg #[.int .i64 y1, .int .i64 y2, .slice y3 y4 y5]), Sp.val (.pointer (some ⟨w0.heap.size, 1, none⟩)), Sp.val (.pointer (some ⟨w0.heap.size, 3, none⟩)), Sp.val (.slice (some ⟨b, o, none⟩) ks.length ct), Sp.val (.pointer (some ⟨b, o + 3, none⟩)), Sp.val (.agg #[.int .i64 k11, .int .i64 k12, .slice k13 k14 k15]), Sp.two M T1 (.bool zz), Sp.tree M T1, Sp.val (.bool zz), Sp.two M T2 (.int .i64 c), Sp.two M T2 (.int .i64 c), Sp.tree M T2, Sp.val (.int .i64 c), Sp.box w5] (by kernel_rfl) rfl (by kernel_rfl) (by kernel_rfl) (by kernel_rfl) rfl (by decide) (by kernel_rfl) (by kernel_rfl) (by kernel_rfl) (by kernel_rfl) (by kernel_rfl) (fun _ _ _ _ h => h) ?hx_11 ?steps_11 ?fin_11
    case hx_11 => (intro a w z hE hold hdep; obtain ⟨u38, f38, h38⟩ : ∃ u, a.eval (.tmp 38) = .tuple #[u, .int .i64 c] ∧ InT w (Mz M z) T2 u := hdep 13 38 (by kernel_rfl); replace f38 := slot_at f38; exact ⟨.int .i64 c, Or.inl ⟨by rfl, fun w'' _ => by go_simp⟩, rfl⟩)
    case steps_11 =>
      refine And.intro (.inr ?s0_11) (And.intro (.inr ?s1_11) (And.intro (.inr ?s2_11) (And.intro (.inr ?s3_11) (And.intro (.inr ?s4_11) (And.intro (.inr ?s5_11) (And.intro (.inr ?s6_11) (And.intro (.inr ?s7_11) (And.intro (.inr ?s8_11) (And.intro (.inr ?s9_11) (And.intro (.inr ?s10_11) (And.intro (.inr ?s11_11) (And.intro (.inr ?s12_11) (And.intro (.inr ?s13_11) (And.intro (.inr ?s14_11) (And.intro (.inr ?s15_11) (And.intro (.inr ?s16_11) (trivial)))))))))))))))))
      all_goals (intro a w z hE hold hdep; refine Ord.step_of rfl rfl ?_; intro K hK)
      case s0_11 => (have f6 := slot_at (show a.eval (.tmp 6) = .pointer (some ⟨w3.heap.size, 0, none⟩) from hold 6 (by kernel_rfl)); go_simp; exact hK _ _ ⟨_, z, rfl, hE.id, rfl⟩)
      case s1_11 => (have f39 := slot_at (show a.eval (.tmp 39) = .pointer (some ⟨w3.heap.size, 2, none⟩) from hdep 0 39 (by kernel_rfl)); have q0 := hE.1.cell zq2; go_simp; exact hK _ _ ⟨_, z, rfl, hE.id, rfl⟩)
      case s2_11 => (have f40 := slot_at (show a.eval (.tmp 40) = .slice (some ⟨b2, o2, none⟩) qs.length c1 from hdep 1 40 (by kernel_rfl)); go_simp; exact hK _ _ ⟨_, z, rfl, hE.id, rfl⟩)
      case s3_11 => (have f41 := slot_at (show a.eval (.tmp 41) = .pointer (some ⟨b2, o2 + 3, none⟩) from hdep 2 41 (by kernel_rfl)); have q0 := hE.1.cell hy0; have q1 := hE.1.cell hy1; have q2 := hE.1.cell hy2; go_simp; exact hK _ _ ⟨_, z, rfl, hE.id, rfl⟩)
      case s4_11 => (have f1 := slot_at (show a.eval (.tmp 1) = .pointer (some ⟨w0.heap.size, 0, none⟩) from hold 1 (by kernel_rfl)); go_simp; exact hK _ _ ⟨_, z, rfl, hE.id, rfl⟩)
      case s5_11 => (have f43 := slot_at (show a.eval (.tmp 43) = .pointer (some ⟨w0.heap.size, 1, none⟩) from hdep 4 43 (by kernel_rfl)); go_simp; exact hK _ _ ⟨_, z, rfl, hE.id, rfl⟩)
      case s6_11 => (have f44 := slot_at (show a.eval (.tmp 44) = .pointer (some ⟨w0.heap.size, 3, none⟩) from hdep 5 44 (by kernel_rfl)); have q0 := hE.1.cell zj3; go_simp; exact hK _ _ ⟨_, z, rfl, hE.id, rfl⟩)
      case s7_11 => (have f45 := slot_at (show a.eval (.tmp 45) = .slice (some ⟨b, o, none⟩) ks.length ct from hdep 6 45 (by kernel_rfl)); go_simp; exact hK _ _ ⟨_, z, rfl, hE.id, rfl⟩)
      case s8_11 => (have f46 := slot_at (show a.eval (.tmp 46) = .pointer (some ⟨b, o + 3, none⟩) from hdep 7 46 (by kernel_rfl)); have q0 := hE.1.cell hk10; have q1 := hE.1.cell hk11; have q2 := hE.1.cell hk12; go_simp; exact hK _ _ ⟨_, z, rfl, hE.id, rfl⟩)
      case s9_11 => (have f42 := slot_at (show a.eval (.tmp 42) = .agg #[.int .i64 y1, .int .i64 y2, .slice y3 y4 y5] from hdep 3 42 (by kernel_rfl)); have f47 := slot_at (show a.eval (.tmp 47) = .agg #[.int .i64 k11, .int .i64 k12, .slice k13 k14 k15] from hdep 8 47 (by kernel_rfl)); go_simp; go_at_call 53; refine (HSQ.out _ w (Mz M z) ((Ext.refl w5).trans ((Ext.refl _).drew.trans hE.1)) (InT.lies' (InT.later KT1.out (X0_5.trans ((Ext.refl _).drew.trans hE.1)))) (HNN.out w z hE)).mono ?_; rintro e w' ⟨u, rfl, hu, e'⟩; exact hK _ _ ⟨_, z, rfl, EG.same hE e', u, rfl, hu⟩)
      case s10_11 => (obtain ⟨u48, f48, h48⟩ : ∃ u, a.eval (.tmp 48) = .tuple #[u, .bool zz] ∧ InT w (Mz M z) T1 u := hdep 9 48 (by kernel_rfl); replace f48 := slot_at f48; go_simp; exact hK _ _ ⟨_, z, rfl, hE.id, h48⟩)
      case s11_11 => (obtain ⟨u48, f48, h48⟩ : ∃ u, a.eval (.tmp 48) = .tuple #[u, .bool zz] ∧ InT w (Mz M z) T1 u := hdep 9 48 (by kernel_rfl); replace f48 := slot_at f48; go_simp; exact hK _ _ ⟨_, z, rfl, hE.id, rfl⟩)
      case s12_11 => (have h49 : InT w (Mz M z) T1 (a.eval (.tmp 49)) := hdep 10 49 (by kernel_rfl); obtain ⟨d49_1, d49_2, d49_3, d49_4, d49_5, f49⟩ := h49.three; rw [f49] at h49; replace f49 := slot_at f49; have f50 := slot_at (show a.eval (.tmp 50) = .bool zz from hdep 11 50 (by kernel_rfl)); go_simp; go_at_call 44; refine (HMQ.out w (Mz M z) _ h49).mono ?_; rintro e w' ⟨u, rfl, hu, e'⟩; exact hK _ _ ⟨_, z, rfl, EG.same hE e', u, rfl, hu⟩)
      case s13_11 => (obtain ⟨u51, f51, h51⟩ : ∃ u, a.eval (.tmp 51) = .tuple #[u, .int .i64 c] ∧ InT w (Mz M z) T2 u := hdep 12 51 (by kernel_rfl); replace f51 := slot_at f51; go_simp; exact hK _ _ ⟨_, z, rfl, hE.id, _, rfl, h51⟩)
      case s14_11 => (obtain ⟨u38, f38, h38⟩ : ∃ u, a.eval (.tmp 38) = .tuple #[u, .int .i64 c] ∧ InT w (Mz M z) T2 u := hdep 13 38 (by kernel_rfl); replace f38 := slot_at f38; go_simp; exact hK _ _ ⟨_, z, rfl, hE.id, h38⟩)
      case s15_11 => (obtain ⟨u38, f38, h38⟩ : ∃ u, a.eval (.tmp 38) = .tuple #[u, .int .i64 c] ∧ InT w (Mz M z) T2 u := hdep 13 38 (by kernel_rfl); replace f38 := slot_at f38; go_simp; exact hK _ _ ⟨_, z, rfl, hE.id, rfl⟩)
      case s16_11 => (go_simp; exact hK _ _ ⟨_, _, rfl, EG.box hE, _, rfl, List.mem_cons_self .., (show w5.heap.size ≤ w.heap.size from hE.1.size), heap_alloc_new _ _⟩)
    case fin_11 =>
      intro v w' z hE' hG
      have t14_ : InT w' (Mz M z) T2 (v 14) := hG 14 (by decide) rfl
      obtain ⟨a14_1, a14_2, a14_3, a14_4, a14_5, v14_⟩ := t14_.three
      rw [v14_] at t14_
      have T14_ := Lib.hid t14_
      clear t14_
      obtain ⟨g16_, v16_, gz16_, bl16_, bx16_⟩ : ∃ g, v 16 = .pointer (some ⟨g, 0, none⟩) ∧ g ∈ z ∧ w5.heap.size ≤ g ∧ w'.heap[g]? = _ := hG 16 (by decide) rfl
      have v15_ : v 15 = .int .i64 c := hG 15 (by decide) rfl
      rw [Ord.putN_all]
      simp only [Ord.putO, Ord.dstOf, List.getElem?_toArray, List.getElem?_cons_zero, List.getElem?_cons_succ, Option.bind_some, Act.put, List.setIfInBounds_toArray, List.set_cons_zero, List.set_cons_succ]
      rw [v14_, v16_, v15_]
      clear hG v14_ v16_ v15_
      clear zj0 zj1 zj2 zj3 zj4 lj zr0 zr1 zr2 yr0 yr1 yr2 lr zq0 zq1 zq2 lq
      have e' : Ext w5 w' := (Ext.refl w5).drew.trans hE'.1
      have gs16_ : g16_ < w'.heap.size := hE'.2.2.2 _ gz16_
      clear hE'
      obtain ⟨x0, x1, x2, x3, x4, x5⟩ := own3 bx16_
      refine wpAnyH_ready (rs := [17]) (by kernel_rfl) (by simp) ?_
      refine AllReadyH.cons rfl (fun K hK => ?_) AllReadyH.nil
      go_simp
      refine hK.out _ _ trivial (fun _ => ?_)
      clear hK K
      refine wpAnyH_take (i := 18) (v := ?v18_11) rfl (by kernel_rfl) (by kernel_rfl) (by kernel_rfl) (fun _ _ _ h => h) (Or.inl ⟨by rfl, ?hy18_11⟩) trivial ?rest18_11
      case hy18_11 => (intro w hSw; go_simp; (try with_reducible rfl))
      try simp only [Act.put, List.getElem_toArray, List.getElem_cons_succ, List.getElem_cons_zero, List.setIfInBounds_toArray, List.set_cons_zero, List.set_cons_succ]
      refine wpAnyH_done (by kernel_rfl) ?_ _
      clear x0 x1 x2 x3 x4 x5
      have bw_6 := blk_setCell (blk_setCell (blk_setCell bx16_ 0 (.int .i64 a14_1)) 1 (.int .i64 a14_2)) 2 (.slice a14_3 a14_4 a14_5)
      have e6 : Ext w5 (((w'.setCell ⟨g16_, 0, none⟩ (.int .i64 a14_1)).setCell ⟨g16_, 1, none⟩ (.int .i64 a14_2)).setCell ⟨g16_, 2, none⟩ (.slice a14_3 a14_4 a14_5)) := ((e'.setCell bl16_ _).setCell bl16_ _).setCell bl16_ _
      have HTw : Hid (InT (((w'.setCell ⟨g16_, 0, none⟩ (.int .i64 a14_1)).setCell ⟨g16_, 1, none⟩ (.int .i64 a14_2)).setCell ⟨g16_, 2, none⟩ (.slice a14_3 a14_4 a14_5)) M T2 (.agg #[.int .i64 a14_1, .int .i64 a14_2, .slice a14_3 a14_4 a14_5])) := Lib.hid (InT.ret (InT.mono (fun b hb => ⟨hb.1, fun h => hb.2 (h ▸ gz16_)⟩) (fun _ _ => rfl) T14_.out) _ _ _)
      obtain ⟨w6, hw6⟩ : ∃ x, x = (((w'.setCell ⟨g16_, 0, none⟩ (.int .i64 a14_1)).setCell ⟨g16_, 1, none⟩ (.int .i64 a14_2)).setCell ⟨g16_, 2, none⟩ (.slice a14_3 a14_4 a14_5)) := ⟨_, rfl⟩
      rw [← hw6] at bw_6 e6 HTw ⊢
      clear hw6 T14_ gz16_ bx16_ e' gs16_
      have s6 := e6.size
      clear hk10 hk11 hk12 hy0 hy1 hy2
      have bj_6 := e6.blk bj_5
      obtain ⟨zj0, zj1, zj2, zj3, zj4⟩ := own5 bj_6
      have lj := lt_of_blk bj_6
      have br_6 := e6.blk br_5
      obtain ⟨zr0, zr1, zr2, yr0, yr1, yr2⟩ := own3 br_6
      have lr := lt_of_blk br_6
      have bq_6 := e6.blk bq_5
      obtain ⟨zq0, zq1, zq2, -⟩ := own3 bq_6
      have lq := lt_of_blk bq_6
      obtain ⟨zw0, zw1, zw2, -⟩ := own3 bw_6
      have lw := lt_of_blk bw_6
      go_wp2_with fail
      clear zj0 zj1 zj2 zj3 zj4 lj zr0 zr1 zr2 yr0 yr1 yr2 lr zq0 zq1 zq2 lq zw0 zw1 zw2 lw
      have X1_6 := X1_5.trans e6
      refine (jhas_any k n ca ct hlt hct w6 M (HJ.out.ext X1_6) 2 (by rw [HKS.out]; decide) T2 _ (HTw.out.later (Ext.refl w6)) c d H1.out H2.out).mono ?_
      rintro e w7 ⟨rfl, e7⟩
      have s7 := e7.size
      by_cases hc0 : d = 0
      case neg =>
        obtain rfl := H4.out hc0
        have t1 : (d != 0) = true := by simp [hc0]
        clear hc0 H4
        clear hk00 hk01 hk02
        have bj_7 := e7.blk bj_6
        obtain ⟨zj0, zj1, zj2, zj3, zj4⟩ := own5 bj_7
        have lj := lt_of_blk bj_7
        have br_7 := e7.blk br_6
        obtain ⟨zr0, zr1, zr2, yr0, yr1, yr2⟩ := own3 br_7
        have lr := lt_of_blk br_7
        have bq_7 := e7.blk bq_6
        obtain ⟨zq0, zq1, zq2, -⟩ := own3 bq_7
        have lq := lt_of_blk bq_7
        have bw_7 := e7.blk bw_6
        obtain ⟨zw0, zw1, zw2, -⟩ := own3 bw_7
        have lw := lt_of_blk bw_7
        have X0_6 := X0_5.trans e6
        have X0_7 := X0_6.trans e7
        go_wp2_with fail
        refine bodyPost_ret (v := .tuple #[.agg #[.int .i64 0, .int .i64 0, .slice none 0 0], .int .i64 d]) (by simp [results, Try.results57, go_sem, zr0, zr1, zr2]) rfl ⟨_, rfl, leafT _ _ 0 0, (X0_7.set3 (by omega) _ _ _)⟩
      obtain rfl : r = (kd ks 0, 0) := by simpa using (H3.out hc0).symm
      subst hc0
      clear H3 H4
      have X5_6 := e6
      have X5_7 := X5_6.trans e7
      replace hk00 := X5_7.cell hk00
      replace hk01 := X5_7.cell hk01
      replace hk02 := X5_7.cell hk02
      have X0_6 := X0_5.trans e6
      have X0_7 := X0_6.trans e7
      have bj_7 := e7.blk bj_6
      obtain ⟨zj0, zj1, zj2, zj3, zj4⟩ := own5 bj_7
      have lj := lt_of_blk bj_7
      have br_7 := e7.blk br_6
      obtain ⟨zr0, zr1, zr2, yr0, yr1, yr2⟩ := own3 br_7
      have lr := lt_of_blk br_7
      have bq_7 := e7.blk bq_6
      obtain ⟨zq0, zq1, zq2, -⟩ := own3 bq_7
      have lq := lt_of_blk bq_7
      have bw_7 := e7.blk bw_6
      obtain ⟨zw0, zw1, zw2, -⟩ := own3 bw_7
      have lw := lt_of_blk bw_7
      go_wp2_with fail
      refine bodyPost_ret (v := .tuple #[.agg #[.int .i64 k01, .int .i64 k02, .slice k03 k04 k05], .int .i64 0]) (by simp [results, Try.results57, go_sem, zr0, zr1, zr2]) rfl ⟨_, rfl, InT.ret (InT.keep KT0.out X0_7 (g := w0.heap.size + 1) (Nat.le_succ _)) _ _ _, (X0_7.set3 (by omega) _ _ _)⟩
end Go.Proofs.Ytdkamgafpphdjaa

/-
  Lemmas towards the law, 41: InfG.
-/
import Derived.Test.YtdkamgafpphdjaaEBN
namespace Go.Proofs.Ytdkamgafpphdjaa
open Go.RowKit
set_option linter.unusedVariables false
attribute [local go_sem ↓] Go.wp_at_zero Go.wp_at_succ
set_option maxRecDepth 100000 in
set_option maxHeartbeats 8000000 in
theorem inferForm_any {wC : World} {A : Option Addr} {ca : Nat} {G : List Tr} {inf : Tr → An} (hI : InfF wC A ca G inf) (w0 : World) (N : Nat → Prop) (hx : Ext wC w0) (hN : ∀ b, w0.heap.size ≤ b → N b) (hG : InK w0 N A G) (t : Tr) (v : Value) (ht : InT w0 N t v) (hv : valid sigT t = true) (kind : Int) (r : Tr × Int) (h : frmV (inf t) kind = some r) : Calls Try.prog 29 #[.slice A G.length ca, v, .int .i64 kind] w0 (AnQ N w0 r) := by
  obtain ⟨sA, c, h1, h2, h3⟩ := thn_code h
  obtain ⟨k, n, ks⟩ := t
  obtain ⟨At, ct, rfl, hl, hc, hK⟩ := InT.mk_iff.1 ht
  have HT := Lib.hid ht
  have HI := Lib.hid hI
  have HN := Lib.hid hN
  have HG := Lib.hid hG
  have HV := Lib.hid hv
  have H1 := Lib.hid h1
  have H2 := Lib.hid h2
  have H3 := Lib.hid h3
  clear h1 h2 h3
  clear h hK ht hI hN hG hv
  obtain ⟨w1, hw1⟩ : ∃ x, x = ((w0.alloc (.cells #[.int .i64 k, .int .i64 n, .slice At ks.length ct] 27)).alloc (.cells #[.int .i64 0, .int .i64 0, .slice none 0 0] 27)) := ⟨_, rfl⟩
  obtain ⟨bt_1, br_1, s1, e1⟩ := box2 hw1
  obtain ⟨M, hM⟩ : ∃ M, M = (fun b => N b ∧ b ≠ w0.heap.size + 1) := ⟨_, rfl⟩
  have HMN := Lib.hid (show ∀ b, w1.heap.size ≤ b → M b from hM ▸ newN HN.out e1.size (by omega))
  have HGM := Lib.hid (show InK w1 M A G from hM ▸ HG.out.keep e1 (Nat.le_succ _))
  have HTM := Lib.hid (show InT w1 M (.mk k n ks) _ from hM ▸ HT.out.keep e1 (Nat.le_succ _))
  have HM := Lib.hid hM
  clear hM
  go_enter Try.func29, Try.ntmps29
  go_wp2_with fail
  rw [← hw1]
  clear hw1
  refine (HI.out w1 M (hx.trans e1) HMN.out HGM.out _ _ HTM.out HV.out _ H1.out).mono ?_
  rintro e w2 ⟨u, rfl, hT, e2⟩
  have s2 := e2.size
  obtain ⟨a1, b1, A1, l1, c1, rfl⟩ := hT.three
  have T1 := Lib.hid hT
  clear hT
  by_cases hc0 : c = 0
  case neg =>
    obtain rfl := H3.out hc0
    have t1 : (c != 0) = true := by simp [hc0]
    clear hc0 H3
    have bt_2 := e2.blk bt_1
    obtain ⟨zt0, zt1, zt2, -⟩ := own3 bt_2
    have lt := lt_of_blk bt_2
    have br_2 := e2.blk br_1
    obtain ⟨zr0, zr1, zr2, yr0, yr1, yr2⟩ := own3 br_2
    have lr := lt_of_blk br_2
    clear lr
    have eq2 : Ext w2 (w2.alloc (.cells #[.int .i64 a1, .int .i64 b1, .slice A1 l1 c1] 27)) := (Ext.refl w2).alloc _
    have X0_1 := e1
    have X0_2 := X0_1.trans e2
    obtain ⟨pr0, pr1, pr2, or0, or1, or2⟩ := own3 (eq2.blk br_2)
    go_wp2_with fail
    refine bodyPost_ret (v := .tuple #[.agg #[.int .i64 0, .int .i64 0, .slice none 0 0], .int .i64 c]) (by simp [results, Try.results29, go_sem, pr0, pr1, pr2]) rfl ⟨_, rfl, leafT _ _ 0 0, ((X0_2.trans eq2).set3 (by omega) _ _ _)⟩
  obtain ⟨⟨⟨q1, q2, q3⟩, d⟩, hq⟩ : ∃ q, shpV sA kind = q := ⟨_, rfl⟩
  obtain rfl : r = (.mk q1 q2 q3, d) := by rw [← hq]; simpa using (H2.out hc0).symm
  subst hc0
  clear H2 H3
  have bt_2 := e2.blk bt_1
  obtain ⟨zt0, zt1, zt2, -⟩ := own3 bt_2
  have lt := lt_of_blk bt_2
  have br_2 := e2.blk br_1
  obtain ⟨zr0, zr1, zr2, yr0, yr1, yr2⟩ := own3 br_2
  have lr := lt_of_blk br_2
  obtain ⟨w3, hw3⟩ : ∃ x, x = w2.alloc (.cells #[.int .i64 a1, .int .i64 b1, .slice A1 l1 c1] 27) := ⟨_, rfl⟩
  have e3 : Ext w2 w3 := hw3 ▸ (Ext.refl w2).alloc _
  have bx_3 := heap_alloc_new w2 (.cells #[.int .i64 a1, .int .i64 b1, .slice A1 l1 c1] 27)
  rw [← hw3] at bx_3
  have s3 : w2.heap.size < w3.heap.size := lt_of_blk bx_3
  go_wp2_with fail
  rw [← hw3]
  clear hw3
  clear zt0 zt1 zt2 lt zr0 zr1 zr2 yr0 yr1 yr2 lr
  have X1_2 := e2
  have X1_3 := X1_2.trans e3
  have X2_3 := e3
  have HSH := Lib.hid (shaped_any sA kind w3 M (fun b hb => HMN.out b (by have := X1_3.size; omega)) _ (T1.out.lies'.ext X2_3))
  rw [hq] at HSH
  refine (HSH.out).mono ?_
  rintro e w4 ⟨u, rfl, hT, e4⟩
  have s4 := e4.size
  simp only at hT ⊢
  obtain ⟨a2, b2, A2, l2, c2, rfl⟩ := hT.three
  have T2 := Lib.hid hT
  clear hT hq HSH
  have bt_3 := e3.blk bt_2
  have bt_4 := e4.blk bt_3
  obtain ⟨zt0, zt1, zt2, -⟩ := own3 bt_4
  have lt := lt_of_blk bt_4
  have br_3 := e3.blk br_2
  have br_4 := e4.blk br_3
  obtain ⟨zr0, zr1, zr2, yr0, yr1, yr2⟩ := own3 br_4
  have lr := lt_of_blk br_4
  have bx_4 := e4.blk bx_3
  obtain ⟨zx0, zx1, zx2, -⟩ := own3 bx_4
  have lx := lt_of_blk bx_4
  have X0_1 := e1
  have X0_2 := X0_1.trans e2
  have X0_3 := X0_2.trans e3
  have X0_4 := X0_3.trans e4
  go_wp2_with fail
  refine bodyPost_ret (v := .tuple #[.agg #[.int .i64 a2, .int .i64 b2, .slice A2 l2 c2], .int .i64 d]) (by simp [results, Try.results29, go_sem, zr0, zr1, zr2]) rfl ⟨_, rfl, InT.ret (HM.out ▸ T2.out) _ _ _, (X0_4.set3 (by omega) _ _ _)⟩
set_option maxRecDepth 100000 in
set_option maxHeartbeats 8000000 in
theorem level_any {wC : World} {A : Option Addr} {ca : Nat} {G : List Tr} {inf : Tr → An} (hI : InfF wC A ca G inf) (w0 : World) (N : Nat → Prop) (hx : Ext wC w0) (hN : ∀ b, w0.heap.size ≤ b → N b) (hG : InK w0 N A G) (t : Tr) (v : Value) (ht : InT w0 N t v) (hv : valid sigT t = true) (r : Tr × Int) (h : frmV (inf t) 2 = some r) : Calls Try.prog 21 #[.slice A G.length ca, v] w0 fun e w' => e = .returned (.tuple #[.int .i64 r.1.num, .int .i64 r.2]) ∧ Ext w0 w' := by
  obtain ⟨⟨q1, q2, q3⟩, d⟩ := r
  have HH := Lib.hid h
  obtain ⟨k, n, ks⟩ := t
  obtain ⟨At, ct, rfl, hl, hc, hK⟩ := InT.mk_iff.1 ht
  have HT := Lib.hid ht
  have HI := Lib.hid hI
  have HN := Lib.hid hN
  have HG := Lib.hid hG
  have HV := Lib.hid hv
  clear h hK ht hI hN hG hv
  obtain ⟨w1, hw1⟩ : ∃ x, x = (w0.alloc (.cells #[.int .i64 k, .int .i64 n, .slice At ks.length ct] 27)) := ⟨_, rfl⟩
  obtain ⟨bt_1, s1, e1⟩ := box1 hw1
  go_enter Try.func21, Try.ntmps21
  go_wp2_with fail
  rw [← hw1]
  clear hw1
  refine (inferForm_any HI.out w1 N (hx.trans e1) (fun b hb => HN.out b (by have := e1.size; omega)) (HG.out.later e1) _ _ (HT.out.later e1) HV.out 2 _ HH.out).mono ?_
  rintro e w2 ⟨u, rfl, hT, e2⟩
  have s2 := e2.size
  obtain ⟨A1, c1, rfl, hl1, hc1, hK1⟩ := InT.mk_iff.1 hT
  clear hT hK1
  have X0_1 := e1
  have X0_2 := X0_1.trans e2
  go_wp2_with fail
  go_ret2
  exact ⟨rfl, X0_2.alloc _⟩
end Go.Proofs.Ytdkamgafpphdjaa

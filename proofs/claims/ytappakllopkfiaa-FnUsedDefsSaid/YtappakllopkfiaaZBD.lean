/-
  Lemmas towards the law, 30: Unf2.
-/
import Derived.Test.YtappakllopkfiaaZAU
import Derived.Test.YtappakllopkfiaaZBC
import Derived.Deep.RegionHeldLaw
namespace Go.Proofs.Ytappakllopkfiaa
open Go.RowKit
set_option linter.unusedVariables false
attribute [local go_sem ↓] Go.wp_at_zero Go.wp_at_succ
attribute [local go_sem] ldO
theorem uses_any (ks : List Tr) (n cap : Nat) (w : World) (A : Option Addr) (t : Tr) (v : Value) (h : LiesK w A ks) (hn : ks.length = n * 2) (hl : n ≤ cap) (hc : cap ≤ maxLen) (hin : Lies w t v) :
    Calls Try.prog 115 #[.slice A n cap, v] w fun e w' => e = .returned (.bool (dfV ks n && (valid sigT t && decide (mxf t 0 ≤ (n : Int))))) ∧ Ext w w' := by
  have hcc := hc
  unfold maxLen at hcc
  have H1 := Lib.hid (fun W (hW : Ext w W) => defsValid_any ks n cap W A (h.ext hW) hn hl hc)
  have H2 := Lib.hid (fun W (hW : Ext w W) => validTerm_any t W v (hin.ext hW))
  have H3 := fun (hv : valid sigT t = true) W (hW : Ext w W) => maxFree_any t W v (hin.ext hW) hv
  generalize mxf t 0 = x at H3 ⊢
  generalize dfV ks n = b1 at H1 ⊢
  generalize valid sigT t = b2 at H2 H3 ⊢
  obtain ⟨b3, d3⟩ : ∃ b, decide (x ≤ (n : Int)) = b := ⟨_, rfl⟩
  rw [d3]
  obtain ⟨k, m, ts⟩ := t
  obtain ⟨At, ct, rfl, -, -, -⟩ := Lies.mk_iff.1 hin
  have hE := (Ext.refl w).alloc (.cells #[.int .i64 k, .int .i64 m, .slice At ts.length ct] 44)
  have hb := heap_alloc_new w (.cells #[.int .i64 k, .int .i64 m, .slice At ts.length ct] 44)
  go_enter Try.func115, Try.ntmps115
  go_wp2_with fail
  refine (H1.out _ hE).mono ?_
  rintro e w1 ⟨rfl, e1⟩
  obtain ⟨x0, x1, x2, -, -, -⟩ := own3 (e1.blk hb)
  cases b1 with
  | false =>
    go_wp2_with fail
    go_ret
    exact ⟨rfl, hE.trans e1⟩
  | true =>
    go_wp2_with fail
    refine (H2.out _ (hE.trans e1)).mono ?_
    rintro e w2 ⟨rfl, e2⟩
    clear x0 x1 x2
    obtain ⟨x0, x1, x2, -, -, -⟩ := own3 ((e1.trans e2).blk hb)
    cases b2 with
    | false =>
      go_wp2_with fail
      go_ret
      exact ⟨rfl, (hE.trans e1).trans e2⟩
    | true =>
      have H3' := Lib.hid (H3 rfl)
      clear H3
      go_wp2_with fail
      refine (H3'.out _ ((hE.trans e1).trans e2)).mono ?_
      rintro e w3 ⟨rfl, e3⟩
      cases b3 with
      | false =>
        go_wp2_with fail
        go_ret
        exact ⟨rfl, ((hE.trans e1).trans e2).trans e3⟩
      | true =>
        go_wp2_with fail
        go_ret
        exact ⟨rfl, ((hE.trans e1).trans e2).trans e3⟩
theorem unfV_pos {ks : List Tr} {n : Nat} {t : Tr} (h : (dfV ks n && (valid sigT t && decide (mxf t 0 ≤ (n : Int)))) = true) : unfV ks n t = unfD ks n t := if_pos h
theorem unfV_neg {ks : List Tr} {n : Nat} {t : Tr} (h : (dfV ks n && (valid sigT t && decide (mxf t 0 ≤ (n : Int)))) = false) : unfV ks n t = (dflt0, false) := if_neg (by rw [h]; decide)
set_option maxRecDepth 100000 in
theorem unfoldTerm_any (ks : List Tr) (n cap : Nat) (w : World) (A : Option Addr) (t : Tr) (v : Value) (h : LiesK w A ks) (hn : ks.length = n * 2) (hl : n ≤ cap) (hc : cap ≤ maxLen) (hin : Lies w t v) :
    Calls Try.prog 44 #[.slice A n cap, v] w fun e w' => ∃ u, e = .returned (.tuple #[u, .bool (unfV ks n t).2]) ∧ Made w w' 44 (unfV ks n t).1 u ∧ Ext w w' := by
  have hcc := hc
  unfold maxLen at hcc
  have H1 := Lib.hid (fun W (hW : Ext w W) => uses_any ks n cap W A t v (h.ext hW) hn hl hc (hin.ext hW))
  have H2 : (dfV ks n && (valid sigT t && decide (mxf t 0 ≤ (n : Int)))) = true → ∀ W, Ext w W → Calls Try.prog 116 #[.slice A n cap, v] W fun e w' => ∃ u, e = .returned (.tuple #[u, .bool (unfV ks n t).2]) ∧ Made W w' 44 (unfV ks n t).1 u ∧ Ext W w' := fun hh W hW => by
    rw [unfV_pos hh]
    simp only [Bool.and_eq_true] at hh
    unfold dfV at hh
    rw [Bool.and_eq_true] at hh
    exact unfold_any ks n cap W A t v (h.ext hW) hn hl hc (fun t ht => (dvs_small hh.1.1 hn t ht).1) (hin.ext hW) hh.2.1
  have H3 := unfV_neg (ks := ks) (n := n) (t := t)
  generalize (dfV ks n && (valid sigT t && decide (mxf t 0 ≤ (n : Int)))) = b at H1 H2 H3
  generalize unfV ks n t = R at H2 H3 ⊢
  obtain ⟨rt, rb⟩ := R
  simp only [Prod.mk.injEq] at H2 H3 ⊢
  obtain ⟨k, m, ts⟩ := t
  obtain ⟨At, ct, rfl, -, -, -⟩ := Lies.mk_iff.1 hin
  have hE := ((Ext.refl w).alloc (.cells #[.int .i64 k, .int .i64 m, .slice At ts.length ct] 44)).alloc (.cells #[.int .i64 0, .int .i64 0, .slice none 0 0] 44)
  obtain ⟨hbT, hbR, hs1⟩ := blk2 (Ext.refl ((w.alloc (.cells #[.int .i64 k, .int .i64 m, .slice At ts.length ct] 44)).alloc (.cells #[.int .i64 0, .int .i64 0, .slice none 0 0] 44)))
  cases b with
  | false =>
    obtain ⟨z1, z2⟩ := H3 rfl
    subst z1
    subst z2
    clear H2 H3
    go_enter Try.func44, Try.ntmps44
    go_wp2_with fail
    refine (H1.out _ hE).mono ?_
    rintro e w1 ⟨rfl, e1⟩
    obtain ⟨s0, s1, s2, f0, f1, f2⟩ := own3 (e1.blk hbR)
    go_wp2_with fail
    refine bodyPost_ret (v := .tuple #[.agg #[.int .i64 0, .int .i64 0, .slice none 0 0], .bool false]) (by simp [results, Try.results44, go_sem, s0, s1, s2]) rfl ⟨_, rfl, Made.leaf _ _ _ _ _, ?_⟩
    exact ((((hE.trans e1).setCell (by simp) _).setCell (by simp) _).setCell (by simp) _)
  | true =>
    have H2' := Lib.hid (H2 rfl)
    clear H2 H3
    go_enter Try.func44, Try.ntmps44
    go_wp2_with fail
    refine (H1.out _ hE).mono ?_
    rintro e w1 ⟨rfl, e1⟩
    obtain ⟨x0, x1, x2, -, -, -⟩ := own3 (e1.blk hbT)
    go_wp2_with fail
    refine (H2'.out _ (hE.trans e1)).mono ?_
    rintro e w2 ⟨u, rfl, hM, e2⟩
    obtain ⟨a1, a2, a3, a4, a5, rfl⟩ := hM.three'
    obtain ⟨s0, s1, s2, f0, f1, f2⟩ := own3 ((e1.trans e2).blk hbR)
    go_wp2_with fail
    refine bodyPost_ret (v := .tuple #[.agg #[.int .i64 a1, .int .i64 a2, .slice a3 a4 a5], .bool rb]) (by simp [results, Try.results44, go_sem, s0, s1, s2]) rfl ⟨_, rfl, ?_, ?_⟩
    · exact Made.since (hM.after ((((Above.refl _ _).setCell (by have := e1.size; simp; omega) _).setCell (by have := e1.size; simp; omega) _).setCell (by have := e1.size; simp; omega) _)) (by have := (hE.trans e1).size; omega)
    · exact (((((hE.trans e1).trans e2).setCell (by simp) _).setCell (by simp) _).setCell (by simp) _)
set_option maxRecDepth 100000 in
set_option maxHeartbeats 2000000 in
theorem l9Unfold_any (ks : List Tr) (n cap : Nat) (w : World) (A : Option Addr) (t : Tr) (v : Value) (h : LiesK w A ks) (hn : ks.length = n * 2) (hl : n ≤ cap) (hc : cap ≤ maxLen) (hks : ∀ t ∈ ks, valid sigT t = true) (hin : Lies w t v) (hv : valid sigT t = true) :
    Calls Try.prog 119 #[.slice A n cap, v] w fun e w' => ∃ u, e = .returned (.tuple #[u, .bool (unfD ks n t).2]) ∧ Made w w' 44 (unfD ks n t).1 u ∧ Ext w w' := by
  have hcc := hc
  unfold maxLen at hcc
  obtain ⟨rt, hrt⟩ : ∃ rt, rt = (unfD ks n t).1 := ⟨_, rfl⟩
  obtain ⟨rb, hrb⟩ : ∃ rb, rb = (unfD ks n t).2 := ⟨_, rfl⟩
  have hr : unfD ks n t = (rt, rb) := by rw [hrt, hrb]
  rw [← hrt, ← hrb]
  clear hrt hrb
  have HR := Lib.hid hr
  have HKV := Lib.hid hks
  have HCP := Lib.hid (fun W (hW : Ext w W) => l1Copy_any t W v (hin.ext hW) (by have := (valid_parts hv).2; omega))
  obtain ⟨k, m, ts⟩ := t
  obtain ⟨At, ct, rfl, hlt, hct, hKt⟩ := Lies.mk_iff.1 hin
  have hE := ((Ext.refl w).alloc (.cells #[.int .i64 k, .int .i64 m, .slice At ts.length ct] 44)).alloc (.cells #[.int .i64 0, .int .i64 0, .slice none 0 0] 44)
  obtain ⟨hbT, hbR, hs1⟩ := blk2 (Ext.refl ((w.alloc (.cells #[.int .i64 k, .int .i64 m, .slice At ts.length ct] 44)).alloc (.cells #[.int .i64 0, .int .i64 0, .slice none 0 0] 44)))
  clear hr hks
  go_enter Try.func119, Try.ntmps119
  go_wp2_with fail
  refine (HCP.out _ hE).mono ?_
  rintro e w0 ⟨u0, rfl, hM0, e0⟩
  obtain ⟨A0, c0, rfl, hl0, hc0, hMK0⟩ := Made.mk_iff.1 hM0
  have hg0 : w.heap.size + 1 < w0.heap.size := lt_of_blk (e0.blk hbR)
  have hbR0 := e0.blk hbR
  have hE0 := hE.trans e0
  have hbO := heap_alloc_new w0 (.cells #[.int .i64 k, .int .i64 m, .slice A0 ts.length c0] 44)
  have hEw := hE0.alloc (.cells #[.int .i64 k, .int .i64 m, .slice A0 ts.length c0] 44)
  have hbRw := ((Ext.refl w0).alloc (.cells #[.int .i64 k, .int .i64 m, .slice A0 ts.length c0] 44)).blk hbR0
  have X1 := (Ext.refl w0).alloc (.cells #[.int .i64 k, .int .i64 m, .slice A0 ts.length c0] 44)
  clear hbT hbR hbR0
  go_wp2_with fail
  generalize World.alloc w0 _ = w1 at hbO hEw hbRw X1
  go_loopw [7] (fun i wr => ∃ (j : Nat) (k1 m1 : Int) (ts1 : List Tr) (A1 : Option Addr) (c1 : Nat), j ≤ n ∧ i = .int .i64 ((j : Int) - 1) ∧ wr.heap[w0.heap.size]? = some (.cells #[.int .i64 k1, .int .i64 m1, .slice A1 ts1.length c1] 44 (0, 0)) ∧ wr.heap[w.heap.size + 1]? = some (.cells #[.int .i64 0, .int .i64 0, .slice none 0 0] 44 (0, 0)) ∧ (∃ L, OwnT wr 44 (.mk k1 m1 ts1) (.agg #[.int .i64 k1, .int .i64 m1, .slice A1 ts1.length c1]) L ∧ Fresh w wr L ∧ ¬ w0.heap.size ∈ L ∧ ¬ (w.heap.size + 1) ∈ L) ∧ valid sigT (.mk k1 m1 ts1) = true ∧ unfD ks j (.mk k1 m1 ts1) = (rt, rb) ∧ Ext w wr) (fun i _ => (intOf i + 1).toNat)
  case atStart =>
    obtain ⟨L0, hO0, hF0⟩ := hM0
    exact ⟨n, k, m, ts, A0, c0, Nat.le_refl _, rfl, hbO, hbRw, ⟨L0, hO0.mono fun b hb => X1.heap b (hF0.2 b hb).2, hF0.mono (by have := hE.size; omega) X1.size, fun hm => by have := (hF0.2 _ hm).2; omega, fun hm => by have := (hF0.2 _ hm).1; simp at this; omega⟩, hv, HR.out, hEw⟩
  case round =>
    obtain ⟨j, k1, m1, ts1, A1, c1, hj, rfl, hb, hb2, ⟨L, hOL, hFL, hL1, hL2⟩, hv1, heq, hx⟩ := hrel
    have hin1 : Lies wr (.mk k1 m1 ts1) (.agg #[.int .i64 k1, .int .i64 m1, .slice A1 ts1.length c1]) := Made.lies ⟨L, hOL, hFL⟩
    have HV1 := Lib.hid hv1
    have HE := Lib.hid heq
    obtain ⟨x0, x1, x2, y0, y1, y2⟩ := own3 hb
    clear hv1 heq
    have hbl := lt_of_blk hb2
    have hbl0 := lt_of_blk hb
    rcases j with _ | j
    · have HE0 := HE.out
      simp only [unfD, Prod.mk.injEq] at HE0
      obtain ⟨q1, q2⟩ := HE0
      have HQ1 := Lib.hid q1
      have HQ2 := Lib.hid q2
      clear q1 q2 HE
      obtain ⟨s0, s1, s2, f0, f1, f2⟩ := own3 hb2
      have hz : ((0 : Nat) : Int) - 1 = -1 := by omega
      go_wp2_with fail
      refine bodyPost_ret (v := .tuple #[.agg #[.int .i64 k1, .int .i64 m1, .slice A1 ts1.length c1], .bool true]) (by simp [results, Try.results119, go_sem, s0, s1, s2]) rfl ⟨.agg #[.int .i64 k1, .int .i64 m1, .slice A1 ts1.length c1], by rw [← HQ2.out], ?_, ?_⟩
      · rw [← HQ1.out]
        refine ⟨L, hOL.mono fun b hb => ?_, hFL.mono (Nat.le_refl _) (by simp)⟩
        have hne : b ≠ w.heap.size + 1 := fun e => hL2 (e ▸ hb)
        rw [Below.heap_setCell _ _ _ _ hne, Below.heap_setCell _ _ _ _ hne, Below.heap_setCell _ _ _ _ hne]
      · exact (((hx.setCell (by simp) _).setCell (by simp) _).setCell (by simp) _)
    · obtain ⟨b, o, k3, n3, A3, p3, kids3, k2, n2, A2, p2, kids2, rfl, hbw, HK1, HK2, ⟨d0, d1, d2, c3, c4, c5⟩, -, ⟨l2, m2, hK2, hin2, hmem2⟩⟩ := h.getD (j := j) hx (by omega)
      have hg : ks.getD (j * 2 + 1) dflt0 = .mk k2 n2 kids2 := by
        rw [List.getD_eq_getElem?_getD, List.getElem?_eq_getElem (by omega), HK2.out]; rfl
      have hst : (if valid sigT (sbsT (.mk k2 n2 kids2) (.mk k1 m1 ts1) 0 0) = true then unfD ks j (sbsT (.mk k2 n2 kids2) (.mk k1 m1 ts1) 0 0) else (dflt0, false)) = (rt, rb) := by
        rw [← HE.out]; conv => rhs; unfold unfD
        rw [hg]
      have hp1 := valid_parts HV1.out
      have hp2 := valid_parts (HKV.out _ hmem2)
      have HSB := Lib.hid (fun W (hW : Ext wr W) => l2Subst_any (.mk k1 m1 ts1) W _ 0 (.mk k2 n2 kids2) _ 0 30 hp1.1 (hin1.ext hW) (by omega) hp2.1 (by omega) (hin2.ext hW) (by omega) (by omega) (by omega) (by omega))
      have hjn : ((j + 1 : Nat) : Int) - 1 = (j : Int) := by omega
      have hj' : (j : Int) < (n : Int) := by omega
      have HST := Lib.hid hst
      clear hg hst HE hp1 hp2
      rw [hjn]
      go_wp2_with fail
      have hbn : b ≠ w0.heap.size := by have := hE0.size; omega
      have HS := Lib.hid (show ∀ w' : World, w'.heap[b]? = wr.heap[b]? → w'.cell? ⟨b, o + j * 6 + 3, none⟩ = some (.int .i64 k2) ∧ w'.cell? ⟨b, o + j * 6 + 4, none⟩ = some (.int .i64 n2) ∧ w'.cell? ⟨b, o + j * 6 + 5, none⟩ = some (.slice A2 kids2.length p2) from fun w' hw' => ⟨(World.cell?_of_block (a := ⟨b, _, none⟩) hw').trans c3, (World.cell?_of_block (a := ⟨b, _, none⟩) hw').trans c4, (World.cell?_of_block (a := ⟨b, _, none⟩) hw').trans c5⟩)
      have hbr : b < wr.heap.size := by have := hx.size; omega
      have hEd : Ext wr wr.drew := (Ext.refl wr).drew
      have HB := Lib.hid hb
      clear hK2 hin2 hmem2 hOL hin1
      rw [show Op.load 44 (Operand.tmp 6) = ldO 44 6 from rfl]
      go_region_held_law (fun w' => w'.cell? ⟨b, o + j * 6 + 3, none⟩ = some (.int .i64 k2) ∧ w'.cell? ⟨b, o + j * 6 + 4, none⟩ = some (.int .i64 n2) ∧ w'.cell? ⟨b, o + j * 6 + 5, none⟩ = some (.slice A2 kids2.length p2))
        (first | exact HS.out _ ((Below.heap_setCell _ _ _ _ hbn).trans ((Below.heap_setCell _ _ _ _ hbn).trans ((Below.heap_setCell _ _ _ _ hbn).trans ((hEd.trans h4).heap b hbr)))) | exact HS.out _ ((hEd.trans h4).heap b hbr) | exact HS.out _ (hEd.heap b hbr))
        (first | (go_simp; go_at_call 164; refine (HSB.out _ hEd).mono ?_; rintro e w4 ⟨u, rfl, hM, h4⟩; obtain ⟨a1, a2, a3, a4, a5, rfl⟩ := hM.three'; obtain ⟨r0, r1, r2, g0, g1, g2⟩ := own3 ((hEd.trans h4).blk HB.out)))
      obtain ⟨r, hr⟩ : ∃ r, r = sbsT (.mk k2 n2 kids2) (.mk k1 m1 ts1) 0 0 := ⟨_, rfl⟩
      have hst := HST.out
      rw [← hr] at hst hM
      obtain ⟨L2, hO2, hF2⟩ := hM
      have hb4 := (hEd.trans h4).blk HB.out
      have hs4 := h4.size
      have hsd := hEd.size
      have hbO5 := blk_setCell (blk_setCell (blk_setCell hb4 0 (.int .i64 a1)) 1 (.int .i64 a2)) 2 (.slice a3 a4 a5)
      have hne : w.heap.size + 1 ≠ w0.heap.size := by omega
      have hbR5 := (Below.heap_setCell (w4) ⟨w0.heap.size, 0, none⟩ (.int .i64 a1) _ hne).trans ((hEd.trans h4).blk hb2)
      have hbR6 := (Below.heap_setCell (w4.setCell ⟨w0.heap.size, 0, none⟩ (.int .i64 a1)) ⟨w0.heap.size, 1, none⟩ (.int .i64 a2) _ hne).trans hbR5
      have hbR7 := (Below.heap_setCell ((w4.setCell ⟨w0.heap.size, 0, none⟩ (.int .i64 a1)).setCell ⟨w0.heap.size, 1, none⟩ (.int .i64 a2)) ⟨w0.heap.size, 2, none⟩ (.slice a3 a4 a5) _ hne).trans hbR6
      have hEx : Ext w (((w4.setCell ⟨w0.heap.size, 0, none⟩ (.int .i64 a1)).setCell ⟨w0.heap.size, 1, none⟩ (.int .i64 a2)).setCell ⟨w0.heap.size, 2, none⟩ (.slice a3 a4 a5)) := ((((hx.trans hEd).trans h4).setCell (by have := hE0.size; simp; omega) _).setCell (by have := hE0.size; simp; omega) _).setCell (by have := hE0.size; simp; omega) _
      have hO5 : OwnT (((w4.setCell ⟨w0.heap.size, 0, none⟩ (.int .i64 a1)).setCell ⟨w0.heap.size, 1, none⟩ (.int .i64 a2)).setCell ⟨w0.heap.size, 2, none⟩ (.slice a3 a4 a5)) 44 r (.agg #[.int .i64 a1, .int .i64 a2, .slice a3 a4 a5]) L2 := hO2.mono fun b hb => by
        have := (hF2.2 b hb).1
        have hne : b ≠ w0.heap.size := by omega
        rw [Below.heap_setCell _ _ _ _ hne, Below.heap_setCell _ _ _ _ hne, Below.heap_setCell _ _ _ _ hne]
      have hF5 : Fresh w (((w4.setCell ⟨w0.heap.size, 0, none⟩ (.int .i64 a1)).setCell ⟨w0.heap.size, 1, none⟩ (.int .i64 a2)).setCell ⟨w0.heap.size, 2, none⟩ (.slice a3 a4 a5)) L2 := hF2.mono (by have := hx.size; omega) (by simp)
      have hN1 : ¬ w0.heap.size ∈ L2 := fun hm => by have := (hF2.2 _ hm).1; omega
      have hN2 : ¬ (w.heap.size + 1) ∈ L2 := fun hm => by have := (hF2.2 _ hm).1; omega
      clear hbR5 hbR6 r0 r1 r2 g0 g1 g2 x0 x1 x2 y0 y1 y2 hb4 hO2 hF2 h4 HSB HS HB
      generalize World.setCell _ _ _ = wz at hbO5 hbR7 hEx hO5 hF5 ⊢
      obtain ⟨x0, x1, x2, -, -, -⟩ := own3 hbO5
      have HVZ := Lib.hid (specValidTerm r wz _ (Made.lies ⟨L2, hO5, hF5⟩))
      obtain ⟨vb, hvb⟩ : ∃ vb, vb = valid sigT r := ⟨_, rfl⟩
      rw [← hvb] at hst HVZ
      have HVB := Lib.hid hvb
      clear hvb hr
      go_wp2_with fail
      refine HVZ.out.mono ?_
      rintro e w5 ⟨rfl, e5⟩
      clear x0 x1 x2
      obtain ⟨s0, s1, s2, f0, f1, f2⟩ := own3 (e5.blk hbR7)
      cases vb with
      | false =>
        simp only [Bool.false_eq_true, if_false, Prod.mk.injEq] at hst
        obtain ⟨z1, z2⟩ := hst
        have Z1 := Lib.hid z1
        have Z2 := Lib.hid z2
        clear z1 z2
        go_wp2_with fail
        refine bodyPost_ret (v := .tuple #[.agg #[.int .i64 0, .int .i64 0, .slice none 0 0], .bool false]) (by simp [results, Try.results119, go_sem, s0, s1, s2]) rfl ⟨.agg #[.int .i64 0, .int .i64 0, .slice none 0 0], by rw [← Z2.out], by rw [← Z1.out]; exact Made.leaf _ _ _ _ _, ?_⟩
        exact ((((hEx.trans e5).setCell (by simp) _).setCell (by simp) _).setCell (by simp) _)
      | true =>
        simp only [if_true] at hst
        have Z := Lib.hid hst
        clear hst
        obtain ⟨rk, rm, rts⟩ := r
        obtain ⟨A5, c5, e6, hl5, hc5, hK5⟩ := OwnT.mk_iff.1 hO5
        simp only [Value.agg.injEq, Array.mk.injEq, List.cons.injEq, Value.int.injEq, Value.slice.injEq, and_true, true_and] at e6
        obtain ⟨rfl, rfl, rfl, rfl, rfl⟩ := e6
        go_wp2_with fail
        go_roundw
        case rel => exact ⟨j, _, _, rts, _, _, by omega, rfl, e5.blk hbO5, e5.blk hbR7, ⟨L2, hO5.mono fun b hb => e5.heap b (hF5.2 b hb).2, hF5.mono (Nat.le_refl _) e5.size, hN1, hN2⟩, HVB.out.symm, Z.out, hEx.trans e5⟩
        case measure => simp [intOf]
set_option maxRecDepth 100000 in
theorem specUnfoldTerm_any (ks : List Tr) (n cap : Nat) (w : World) (A : Option Addr) (t : Tr) (v : Value) (h : LiesK w A ks) (hn : ks.length = n * 2) (hl : n ≤ cap) (hc : cap ≤ maxLen) (hin : Lies w t v) :
    Calls Try.prog 45 #[.slice A n cap, v] w fun e w' => ∃ u, e = .returned (.tuple #[u, .bool (unfV ks n t).2]) ∧ Made w w' 44 (unfV ks n t).1 u ∧ Ext w w' := by
  have hcc := hc
  unfold maxLen at hcc
  have K1 := Lib.hid (fun W (hW : Ext w W) => specDefsValid_any ks n cap W A (h.ext hW) hn hl hc)
  have K2 := Lib.hid (fun W (hW : Ext w W) => specValidTerm t W v (hin.ext hW))
  have K3 := Lib.hid (fun W (hW : Ext w W) => specMaxFree_any t W v (hin.ext hW))
  have H2 : (dfV ks n && (valid sigT t && decide (mxf t 0 ≤ (n : Int)))) = true → ∀ W, Ext w W → Calls Try.prog 119 #[.slice A n cap, v] W fun e w' => ∃ u, e = .returned (.tuple #[u, .bool (unfV ks n t).2]) ∧ Made W w' 44 (unfV ks n t).1 u ∧ Ext W w' := fun hh W hW => by
    rw [unfV_pos hh]
    simp only [Bool.and_eq_true] at hh
    unfold dfV at hh
    rw [Bool.and_eq_true] at hh
    exact l9Unfold_any ks n cap W A t v (h.ext hW) hn hl hc (fun t ht => (dvs_small hh.1.1 hn t ht).1) (hin.ext hW) hh.2.1
  have H3 := unfV_neg (ks := ks) (n := n) (t := t)
  have hmx : valid sigT t = true → mxV t = mxf t 0 := fun h => by unfold mxV; rw [h]; rfl
  generalize mxV t = y at K3 hmx
  generalize dfV ks n = b1 at K1 H2 H3
  generalize valid sigT t = b2 at K2 H2 H3 hmx
  generalize unfV ks n t = R at H2 H3 ⊢
  obtain ⟨rt, rb⟩ := R
  simp only [Prod.mk.injEq] at H2 H3 ⊢
  obtain ⟨k, m, ts⟩ := t
  obtain ⟨At, ct, rfl, -, -, -⟩ := Lies.mk_iff.1 hin
  have hE := ((Ext.refl w).alloc (.cells #[.int .i64 k, .int .i64 m, .slice At ts.length ct] 44)).alloc (.cells #[.int .i64 0, .int .i64 0, .slice none 0 0] 44)
  obtain ⟨hbT, hbR, hs1⟩ := blk2 (Ext.refl ((w.alloc (.cells #[.int .i64 k, .int .i64 m, .slice At ts.length ct] 44)).alloc (.cells #[.int .i64 0, .int .i64 0, .slice none 0 0] 44)))
  have HX := Lib.hid hmx
  have H2' := Lib.hid H2
  have H3' := Lib.hid H3
  clear hmx H2 H3
  have OUT : ∀ wz, Ext w wz → (b1 && (b2 && decide (mxf (.mk k m ts) 0 ≤ (n : Int)))) = false → ∃ u, Ending.returned (Value.tuple #[.agg #[.int .i64 0, .int .i64 0, .slice none 0 0], .bool false]) = Ending.returned (.tuple #[u, .bool rb]) ∧ Made w wz 44 rt u ∧ Ext w wz := fun wz hz hb => by
    obtain ⟨z1, z2⟩ := H3'.out hb
    exact ⟨_, by rw [z2], by rw [z1]; exact Made.leaf _ _ _ _ _, hz⟩
  have HOUT := Lib.hid OUT
  clear OUT
  go_enter Try.func45, Try.ntmps45
  go_wp2_with fail
  refine (K1.out _ hE).mono ?_
  rintro e w1 ⟨rfl, e1⟩
  obtain ⟨x0, x1, x2, -, -, -⟩ := own3 (e1.blk hbT)
  obtain ⟨s0, s1, s2, f0, f1, f2⟩ := own3 (e1.blk hbR)
  have hl1 := e1.size
  cases b1 with
  | false =>
    go_wp2_with fail
    refine bodyPost_ret (v := .tuple #[.agg #[.int .i64 0, .int .i64 0, .slice none 0 0], .bool false]) (by simp [results, Try.results45, go_sem, s0, s1, s2]) rfl (HOUT.out _ ?_ rfl)
    exact ((((hE.trans e1).setCell (by simp) _).setCell (by simp) _).setCell (by simp) _)
  | true =>
    clear s0 s1 s2 f0 f1 f2
    go_wp2_with fail
    refine (K2.out _ (hE.trans e1)).mono ?_
    rintro e w2 ⟨rfl, e2⟩
    have e12 := e1.trans e2
    clear x0 x1 x2
    obtain ⟨x0, x1, x2, -, -, -⟩ := own3 (e12.blk hbT)
    obtain ⟨s0, s1, s2, f0, f1, f2⟩ := own3 (e12.blk hbR)
    cases b2 with
    | false =>
      go_wp2_with fail
      refine bodyPost_ret (v := .tuple #[.agg #[.int .i64 0, .int .i64 0, .slice none 0 0], .bool false]) (by simp [results, Try.results45, go_sem, s0, s1, s2]) rfl (HOUT.out _ ?_ rfl)
      exact ((((hE.trans e12).setCell (by simp) _).setCell (by simp) _).setCell (by simp) _)
    | true =>
      clear s0 s1 s2 f0 f1 f2
      go_wp2_with fail
      refine (K3.out _ (hE.trans e12)).mono ?_
      rintro e w3 ⟨rfl, e3⟩
      have e13 := e12.trans e3
      clear x0 x1 x2
      obtain ⟨x0, x1, x2, -, -, -⟩ := own3 (e13.blk hbT)
      obtain ⟨s0, s1, s2, f0, f1, f2⟩ := own3 (e13.blk hbR)
      have hy := HX.out trivial
      by_cases hb3 : mxf (.mk k m ts) 0 ≤ (n : Int)
      · have d3 : decide ((n : Int) < y) = false := decide_eq_false (by omega)
        have H2'' := Lib.hid (H2'.out (by rw [decide_eq_true hb3]; rfl))
        clear s0 s1 s2 f0 f1 f2 H2' H3' HOUT
        go_wp2_with fail
        refine (H2''.out _ (hE.trans e13)).mono ?_
        rintro e w4 ⟨u, rfl, hM, e4⟩
        obtain ⟨a1, a2, a3, a4, a5, rfl⟩ := hM.three'
        obtain ⟨s0, s1, s2, f0, f1, f2⟩ := own3 ((e13.trans e4).blk hbR)
        go_wp2_with fail
        refine bodyPost_ret (v := .tuple #[.agg #[.int .i64 a1, .int .i64 a2, .slice a3 a4 a5], .bool rb]) (by simp [results, Try.results45, go_sem, s0, s1, s2]) rfl ⟨_, rfl, ?_, ?_⟩
        · exact Made.since (hM.after ((((Above.refl _ _).setCell (by have := e13.size; simp; omega) _).setCell (by have := e13.size; simp; omega) _).setCell (by have := e13.size; simp; omega) _)) (by have := (hE.trans e13).size; omega)
        · exact (((((hE.trans e13).trans e4).setCell (by simp) _).setCell (by simp) _).setCell (by simp) _)
      · have d3 : decide ((n : Int) < y) = true := decide_eq_true (by omega)
        go_wp2_with fail
        refine bodyPost_ret (v := .tuple #[.agg #[.int .i64 0, .int .i64 0, .slice none 0 0], .bool false]) (by simp [results, Try.results45, go_sem, s0, s1, s2]) rfl (HOUT.out _ ?_ (by rw [decide_eq_false (show ¬ mxf (.mk k m ts) 0 ≤ (n : Int) from by omega)]; rfl))
        exact ((((hE.trans e13).setCell (by simp) _).setCell (by simp) _).setCell (by simp) _)
end Go.Proofs.Ytappakllopkfiaa

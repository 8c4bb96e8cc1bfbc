/-
  PROVED: the law FnExtractMove returns true for every input: proofs are removed.
  CONDITIONS: none.
-/
import Derived.Test.YtpbmlpngafpoeaaRows
import Derived.Test.YtpbmlpngafpoeaaLift
import Derived.Test.YtpbmlpngafpoeaaDrawEx
import Derived.Test.YtpbmlpngafpoeaaExShape
import Derived.Test.YtpbmlpngafpoeaaSame
import Derived.Test.YtpbmlpngafpoeaaSpExtract
import Derived.Test.YtpbmlpngafpoeaaExtractTop
import Derived.Test.YtpbmlpngafpoeaaNat
import Derived.Deep.RegionHeld3
namespace Go.Proofs.Ytpbmlpngafpoeaa.extractMove
open Go.RowKit Go.ChangeShapes Go.WideShapes Go.ChangeAt
set_option linter.unusedVariables false

theorem own : ownKnob Try.prog.godebug = none := by kernel_rfl

theorem ex1 {t c : Tr} {z : Bool} (h : exV t = (c, z)) (w : World) (v : Value) (hin : Lies w t v) : Calls Try.prog 44 #[v] w fun e w' => ∃ u, e = .returned (.tuple #[u, .bool z]) ∧ Lies w' c u ∧ Ext w w' := by
  have := extractTerm_any t w v hin
  rw [h] at this
  exact this.mono fun e w' ⟨u, h1, h2, h3⟩ => ⟨u, h1, h2.lies, h3⟩
theorem ex2 {t c : Tr} {z : Bool} (h : exV t = (c, z)) (w : World) (v : Value) (hin : Lies w t v) : Calls Try.prog 45 #[v] w fun e w' => ∃ u, e = .returned (.tuple #[u, .bool z]) ∧ Lies w' c u ∧ Ext w w' := by
  have := specExtractTerm_any t w v hin
  rw [h] at this
  exact this
theorem cs1 (c : Tr) (w : World) (v u : Value) (h : Lies w c v) (k : Lies w c u) : Calls Try.prog 46 #[v, u] w fun e w' => e = .returned (.bool true) ∧ Ext w w' := by
  have := sameCode_any c w c v u h k
  rw [eqTr_self] at this
  exact this
theorem exTop {t c : Tr} {z : Bool} (h : exV t = (c, z)) (hz : z = true) : c = exT t := by
  subst hz
  unfold exV at h
  split at h
  · simp only [Prod.mk.injEq, and_true] at h
    exact h.symm
  · simp at h
theorem exMove (t z : Tr) : exT (.mk 12 0 [z, z, t]) = exT t := by
  rw [exT, exS, exS, exS, exS]
  rfl
theorem exRefl (t : Tr) : exT (.mk 11 0 [t]) = .mk 10 0 [] := by
  rw [exT]
  rfl
theorem lies_three {w : World} {t u v : Tr} {a0 a1 a2 b0 b1 b2 c0 c1 c2 : Value} {e : TypeId} {k n : Int} (h1 : Lies w t (.agg #[a0, a1, a2])) (h2 : Lies w u (.agg #[b0, b1, b2])) (h3 : Lies w v (.agg #[c0, c1, c2])) {g : Nat} (hg : g = w.heap.size) :
    Lies (w.alloc (.cells #[a0, a1, a2, b0, b1, b2, c0, c1, c2] e)) (.mk k n [t, u, v]) (.agg #[.int .i64 k, .int .i64 n, .slice (some ⟨g, 0, none⟩) 3 3]) := by
  have f : ∀ {t : Tr} {x : Value}, Lies w t x → From 0 w t x := fun h => InT.mono (fun b hb => ⟨Nat.zero_le _, hb⟩) (fun _ _ => rfl) h
  have h := FromK.three (B := 0) (e := e) (f h1) (f h2) (f h3) (Nat.zero_le _) hg
  exact Lies.mk (ks := [t, u, v]) (cap := 3) (by simp) (by decide) (InK.mono (fun b hb => hb.2) (fun _ _ => rfl) h)
theorem lies_one {w : World} {t : Tr} {a0 a1 a2 : Value} {e : TypeId} {k n : Int} (h1 : Lies w t (.agg #[a0, a1, a2])) {g : Nat} (hg : g = w.heap.size) :
    Lies (w.alloc (.cells #[a0, a1, a2] e)) (.mk k n [t]) (.agg #[.int .i64 k, .int .i64 n, .slice (some ⟨g, 0, none⟩) 1 1]) := by
  have f : ∀ {t : Tr} {x : Value}, Lies w t x → From 0 w t x := fun h => InT.mono (fun b hb => ⟨Nat.zero_le _, hb⟩) (fun _ _ => rfl) h
  have h := FromK.one (B := 0) (e := e) (f h1) (Nat.zero_le _) hg
  exact Lies.mk (ks := [t]) (cap := 1) (by simp) (by decide) (InK.mono (fun b hb => hb.2) (fun _ _ => rfl) h)
set_option maxRecDepth 100000 in
set_option maxHeartbeats 4000000 in
theorem walk (w0 : World) (A : Option Addr) (cap : Nat) (bs : List Int) (hl : bs.length ≤ cap) (hc : cap ≤ maxLen) (hB : Bytes w0 w0.heap.size A bs) :
    Calls Try.prog 8 #[.slice A bs.length cap] w0 fun e w' => e = .returned (.bool true) ∧ Ext w0 w' := by
  have hcc := hc
  unfold maxLen at hcc
  by_cases hn : 1048576 < (bs.length : Int)
  · have d1 : decide (1048576 < (bs.length : Int)) = true := decide_eq_true hn
    go_enter Try.func8, Try.ntmps8
    go_wp2_with fail
    go_ret
    exact ⟨rfl, Ext.refl _⟩
  have d1 : decide (1048576 < (bs.length : Int)) = false := decide_eq_false hn
  go_enter Try.func8, Try.ntmps8
  go_wp2_with fail
  refine (drawExtractTerm_any w0 A cap bs hl hc hB).mono ?_
  rintro e w1 ⟨⟨k0, m0, ks0⟩, u, rfl, hL0, e1⟩
  have s1 : w0.heap.size ≤ w1.heap.size := e1.size
  obtain ⟨A0, cap0, rfl, hl0, hc0, hK0⟩ := Lies.mk_iff.1 hL0
  obtain ⟨w2, hw2⟩ : ∃ w2, w2 = w1.alloc (.cells #[.int .i64 k0, .int .i64 m0, .slice A0 ks0.length cap0] 42) := ⟨_, rfl⟩
  have e2 : Ext w1 w2 := hw2 ▸ (Ext.refl w1).alloc _
  have b2 := heap_alloc_new w1 (.cells #[.int .i64 k0, .int .i64 m0, .slice A0 ks0.length cap0] 42)
  rw [← hw2] at b2
  have s2 : w1.heap.size < w2.heap.size := lt_of_blk b2
  go_wp2_with fail
  rw [← hw2]
  clear hw2
  obtain ⟨⟨k1, m1, ks1⟩, z, hcz⟩ : ∃ c z, exV (.mk k0 m0 ks0) = (c, z) := ⟨_, _, rfl⟩
  have HCZ := Lib.hid hcz
  clear hcz
  have X1_2 : Ext w1 w2 := (Ext.refl w1).trans e2
  refine (ex1 HCZ.out w2 _ (hL0.ext X1_2)).mono ?_
  rintro e w3 ⟨u, rfl, hL1, e3⟩
  have s3 : w2.heap.size ≤ w3.heap.size := e3.size
  obtain ⟨A1, cap1, rfl, hl1, hc1, hK1⟩ := Lies.mk_iff.1 hL1
  obtain ⟨w4, hw4⟩ : ∃ w4, w4 = w3.alloc (.cells #[.int .i64 k1, .int .i64 m1, .slice A1 ks1.length cap1] 55) := ⟨_, rfl⟩
  have e4 : Ext w3 w4 := hw4 ▸ (Ext.refl w3).alloc _
  have b4 := heap_alloc_new w3 (.cells #[.int .i64 k1, .int .i64 m1, .slice A1 ks1.length cap1] 55)
  rw [← hw4] at b4
  have s4 : w3.heap.size < w4.heap.size := lt_of_blk b4
  have ba0_3 := e3.blk b2
  obtain ⟨za00, za01, za02, -, -, -⟩ := own3 ba0_3
  have lza0 := lt_of_blk ba0_3
  go_wp2_with fail
  rw [← hw4]
  clear hw4
  clear za00 za01 za02 lza0
  have X1_3 : Ext w1 w3 := X1_2.trans e3
  have X1_4 : Ext w1 w4 := X1_3.trans e4
  refine (ex2 HCZ.out w4 _ (hL0.ext X1_4)).mono ?_
  rintro e w5 ⟨u, rfl, hL2, e5⟩
  have s5 : w4.heap.size ≤ w5.heap.size := e5.size
  obtain ⟨A2, cap2, rfl, hl2, hc2, hK2⟩ := Lies.mk_iff.1 hL2
  obtain ⟨w6, hw6⟩ : ∃ w6, w6 = w5.alloc (.cells #[.int .i64 k1, .int .i64 m1, .slice A2 ks1.length cap2] 55) := ⟨_, rfl⟩
  have e6 : Ext w5 w6 := hw6 ▸ (Ext.refl w5).alloc _
  have b6 := heap_alloc_new w5 (.cells #[.int .i64 k1, .int .i64 m1, .slice A2 ks1.length cap2] 55)
  rw [← hw6] at b6
  have s6 : w5.heap.size < w6.heap.size := lt_of_blk b6
  have hz1 : (z != z) = false := by simp
  have hz2 : (z == z) = true := by simp
  have ba0_4 := e4.blk ba0_3
  have ba0_5 := e5.blk ba0_4
  obtain ⟨za00, za01, za02, -, -, -⟩ := own3 ba0_5
  have lza0 := lt_of_blk ba0_5
  have ba1_5 := e5.blk b4
  obtain ⟨za10, za11, za12, -, -, -⟩ := own3 ba1_5
  have lza1 := lt_of_blk ba1_5
  go_wp2_with fail
  rw [← hw6]
  clear hw6
  clear za00 za01 za02 lza0 za10 za11 za12 lza1
  have X3_4 : Ext w3 w4 := (Ext.refl w3).trans e4
  have X3_5 : Ext w3 w5 := X3_4.trans e5
  have X3_6 : Ext w3 w6 := X3_5.trans e6
  have X5_6 : Ext w5 w6 := (Ext.refl w5).trans e6
  refine (cs1 _ w6 _ _ (hL1.ext X3_6) (hL2.ext X5_6)).mono ?_
  rintro e w7 ⟨rfl, e7⟩
  have s7 : w6.heap.size ≤ w7.heap.size := e7.size
  cases z with
  | false =>
    have ba0_6 := e6.blk ba0_5
    have ba0_7 := e7.blk ba0_6
    obtain ⟨za00, za01, za02, -, -, -⟩ := own3 ba0_7
    have lza0 := lt_of_blk ba0_7
    have ba1_6 := e6.blk ba1_5
    have ba1_7 := e7.blk ba1_6
    obtain ⟨za10, za11, za12, -, -, -⟩ := own3 ba1_7
    have lza1 := lt_of_blk ba1_7
    have ba2_7 := e7.blk b6
    obtain ⟨za20, za21, za22, -, -, -⟩ := own3 ba2_7
    have lza2 := lt_of_blk ba2_7
    go_wp2_with fail
    clear za00 za01 za02 lza0 za10 za11 za12 lza1 za20 za21 za22 lza2
    have X3_7 : Ext w3 w7 := X3_6.trans e7
    have X5_7 : Ext w5 w7 := X5_6.trans e7
    refine (cs1 _ w7 _ _ (hL1.ext X3_7) (hL2.ext X5_7)).mono ?_
    rintro e w8 ⟨rfl, e8⟩
    have s8 : w7.heap.size ≤ w8.heap.size := e8.size
    have ba0_8 := e8.blk ba0_7
    obtain ⟨za00, za01, za02, -, -, -⟩ := own3 ba0_8
    have lza0 := lt_of_blk ba0_8
    have ba1_8 := e8.blk ba1_7
    obtain ⟨za10, za11, za12, -, -, -⟩ := own3 ba1_8
    have lza1 := lt_of_blk ba1_8
    have ba2_8 := e8.blk ba2_7
    obtain ⟨za20, za21, za22, -, -, -⟩ := own3 ba2_8
    have lza2 := lt_of_blk ba2_8
    go_wp2_with fail
    clear za00 za01 za02 lza0 za10 za11 za12 lza1 za20 za21 za22 lza2
    have X0_1 : Ext w0 w1 := (Ext.refl w0).trans e1
    have X0_2 : Ext w0 w2 := X0_1.trans e2
    have X0_3 : Ext w0 w3 := X0_2.trans e3
    have X0_4 : Ext w0 w4 := X0_3.trans e4
    have X0_5 : Ext w0 w5 := X0_4.trans e5
    have X0_6 : Ext w0 w6 := X0_5.trans e6
    have X0_7 : Ext w0 w7 := X0_6.trans e7
    have X0_8 : Ext w0 w8 := X0_7.trans e8
    go_ret
    exact ⟨rfl, X0_8⟩
  | true =>
    have HT := Lib.hid (exTop HCZ.out rfl)
    clear hz1 hz2
    obtain ⟨w8, hw8⟩ : ∃ w8, w8 = w7.alloc (.cells #[.int .i64 7, .int .i64 0, .slice none 0 0] 42) := ⟨_, rfl⟩
    have e8 : Ext w7 w8 := hw8 ▸ (Ext.refl w7).alloc _
    have b8 := heap_alloc_new w7 (.cells #[.int .i64 7, .int .i64 0, .slice none 0 0] 42)
    rw [← hw8] at b8
    have s8 : w7.heap.size < w8.heap.size := lt_of_blk b8
    have X1_5 : Ext w1 w5 := X1_4.trans e5
    have X1_6 : Ext w1 w6 := X1_5.trans e6
    have X1_7 : Ext w1 w7 := X1_6.trans e7
    have X1_8 : Ext w1 w8 := X1_7.trans e8
    obtain ⟨w9, hw9⟩ : ∃ w9, w9 = w8.alloc (.cells #[.int .i64 7, .int .i64 0, .slice none 0 0, .int .i64 7, .int .i64 0, .slice none 0 0, .int .i64 k0, .int .i64 m0, .slice A0 ks0.length cap0] 42) := ⟨_, rfl⟩
    have e9 : Ext w8 w9 := hw9 ▸ (Ext.refl w8).alloc _
    have hM3 := lies_three (k := 12) (n := 0) (e := 42) (Lies.leaf w8 7 0) (Lies.leaf w8 7 0) (hL0.ext X1_8) rfl
    rw [← hw9, show w8.heap.size = w7.heap.size + 1 by rw [hw8]; simp] at hM3
    have s9 : w8.heap.size ≤ w9.heap.size := e9.size
    have ba0_6 := e6.blk ba0_5
    have ba0_7 := e7.blk ba0_6
    obtain ⟨za00, za01, za02, -, -, -⟩ := own3 ba0_7
    have lza0 := lt_of_blk ba0_7
    have ba1_6 := e6.blk ba1_5
    have ba1_7 := e7.blk ba1_6
    obtain ⟨za10, za11, za12, -, -, -⟩ := own3 ba1_7
    have lza1 := lt_of_blk ba1_7
    have ba2_7 := e7.blk b6
    obtain ⟨za20, za21, za22, -, -, -⟩ := own3 ba2_7
    have lza2 := lt_of_blk ba2_7
    go_wp2_with fail
    rw [← hw8, ← hw9]
    clear hw8 hw9 za00 za01 za02 lza0 za10 za11 za12 lza1 za20 za21 za22 lza2
    obtain ⟨x, p, hxp⟩ : ∃ c z, exV (.mk 12 0 [(.mk 7 0 []), (.mk 7 0 []), (.mk k0 m0 ks0)]) = (c, z) := ⟨_, _, rfl⟩
    have HXP := Lib.hid hxp
    clear hxp
    refine (ex1 HXP.out w9 _ hM3).mono ?_
    rintro e w10 ⟨u, rfl, hL3, e10⟩
    have s10 : w9.heap.size ≤ w10.heap.size := e10.size
    obtain ⟨k3, m3, ks3⟩ := x
    obtain ⟨A3, cap3, rfl, hl3, hc3, hK3⟩ := Lies.mk_iff.1 hL3
    obtain ⟨w11, hw11⟩ : ∃ w11, w11 = w10.alloc (.cells #[.int .i64 k3, .int .i64 m3, .slice A3 ks3.length cap3] 55) := ⟨_, rfl⟩
    have e11 : Ext w10 w11 := hw11 ▸ (Ext.refl w10).alloc _
    have b11 := heap_alloc_new w10 (.cells #[.int .i64 k3, .int .i64 m3, .slice A3 ks3.length cap3] 55)
    rw [← hw11] at b11
    have s11 : w10.heap.size < w11.heap.size := lt_of_blk b11
    have X1_9 : Ext w1 w9 := X1_8.trans e9
    have X1_10 : Ext w1 w10 := X1_9.trans e10
    have X1_11 : Ext w1 w11 := X1_10.trans e11
    obtain ⟨w12, hw12⟩ : ∃ w12, w12 = w11.alloc (.cells #[.int .i64 k0, .int .i64 m0, .slice A0 ks0.length cap0] 42) := ⟨_, rfl⟩
    have e12 : Ext w11 w12 := hw12 ▸ (Ext.refl w11).alloc _
    have hM4 := lies_one (k := 11) (n := 0) (e := 42) (hL0.ext X1_11) rfl
    rw [← hw12, show w11.heap.size = w10.heap.size + 1 by rw [hw11]; simp] at hM4
    have s12 : w11.heap.size ≤ w12.heap.size := e12.size
    have ba0_8 := e8.blk ba0_7
    have ba0_9 := e9.blk ba0_8
    have ba0_10 := e10.blk ba0_9
    obtain ⟨za00, za01, za02, -, -, -⟩ := own3 ba0_10
    have lza0 := lt_of_blk ba0_10
    have ba1_8 := e8.blk ba1_7
    have ba1_9 := e9.blk ba1_8
    have ba1_10 := e10.blk ba1_9
    obtain ⟨za10, za11, za12, -, -, -⟩ := own3 ba1_10
    have lza1 := lt_of_blk ba1_10
    have ba2_8 := e8.blk ba2_7
    have ba2_9 := e9.blk ba2_8
    have ba2_10 := e10.blk ba2_9
    obtain ⟨za20, za21, za22, -, -, -⟩ := own3 ba2_10
    have lza2 := lt_of_blk ba2_10
    have ba3_9 := e9.blk b8
    have ba3_10 := e10.blk ba3_9
    obtain ⟨za30, za31, za32, -, -, -⟩ := own3 ba3_10
    have lza3 := lt_of_blk ba3_10
    go_wp2_with fail
    rw [← hw11, ← hw12]
    clear hw11 hw12 za00 za01 za02 lza0 za10 za11 za12 lza1 za20 za21 za22 lza2 za30 za31 za32 lza3
    obtain ⟨y, q, hyq⟩ : ∃ c z, exV (.mk 11 0 [(.mk k0 m0 ks0)]) = (c, z) := ⟨_, _, rfl⟩
    have HYQ := Lib.hid hyq
    clear hyq
    refine (ex1 HYQ.out w12 _ hM4).mono ?_
    rintro e w13 ⟨u, rfl, hL4, e13⟩
    have s13 : w12.heap.size ≤ w13.heap.size := e13.size
    obtain ⟨k4, m4, ks4⟩ := y
    obtain ⟨A4, cap4, rfl, hl4, hc4, hK4⟩ := Lies.mk_iff.1 hL4
    obtain ⟨w14, hw14⟩ : ∃ w14, w14 = w13.alloc (.cells #[.int .i64 k4, .int .i64 m4, .slice A4 ks4.length cap4] 55) := ⟨_, rfl⟩
    have e14 : Ext w13 w14 := hw14 ▸ (Ext.refl w13).alloc _
    have b14 := heap_alloc_new w13 (.cells #[.int .i64 k4, .int .i64 m4, .slice A4 ks4.length cap4] 55)
    rw [← hw14] at b14
    have s14 : w13.heap.size < w14.heap.size := lt_of_blk b14
    cases p with
    | false =>
      cases q with
      | false =>
        have ba0_11 := e11.blk ba0_10
        have ba0_12 := e12.blk ba0_11
        have ba0_13 := e13.blk ba0_12
        obtain ⟨za00, za01, za02, -, -, -⟩ := own3 ba0_13
        have lza0 := lt_of_blk ba0_13
        have ba1_11 := e11.blk ba1_10
        have ba1_12 := e12.blk ba1_11
        have ba1_13 := e13.blk ba1_12
        obtain ⟨za10, za11, za12, -, -, -⟩ := own3 ba1_13
        have lza1 := lt_of_blk ba1_13
        have ba2_11 := e11.blk ba2_10
        have ba2_12 := e12.blk ba2_11
        have ba2_13 := e13.blk ba2_12
        obtain ⟨za20, za21, za22, -, -, -⟩ := own3 ba2_13
        have lza2 := lt_of_blk ba2_13
        have ba3_11 := e11.blk ba3_10
        have ba3_12 := e12.blk ba3_11
        have ba3_13 := e13.blk ba3_12
        obtain ⟨za30, za31, za32, -, -, -⟩ := own3 ba3_13
        have lza3 := lt_of_blk ba3_13
        have ba4_12 := e12.blk b11
        have ba4_13 := e13.blk ba4_12
        obtain ⟨za40, za41, za42, -, -, -⟩ := own3 ba4_13
        have lza4 := lt_of_blk ba4_13
        go_wp2_with fail
        rw [← hw14]
        clear hw14
        clear za00 za01 za02 lza0 za10 za11 za12 lza1 za20 za21 za22 lza2 za30 za31 za32 lza3 za40 za41 za42 lza4
        have X0_1 : Ext w0 w1 := (Ext.refl w0).trans e1
        have X0_2 : Ext w0 w2 := X0_1.trans e2
        have X0_3 : Ext w0 w3 := X0_2.trans e3
        have X0_4 : Ext w0 w4 := X0_3.trans e4
        have X0_5 : Ext w0 w5 := X0_4.trans e5
        have X0_6 : Ext w0 w6 := X0_5.trans e6
        have X0_7 : Ext w0 w7 := X0_6.trans e7
        have X0_8 : Ext w0 w8 := X0_7.trans e8
        have X0_9 : Ext w0 w9 := X0_8.trans e9
        have X0_10 : Ext w0 w10 := X0_9.trans e10
        have X0_11 : Ext w0 w11 := X0_10.trans e11
        have X0_12 : Ext w0 w12 := X0_11.trans e12
        have X0_13 : Ext w0 w13 := X0_12.trans e13
        have X0_14 : Ext w0 w14 := X0_13.trans e14
        go_ret
        exact ⟨rfl, X0_14⟩
      | true =>
        have HY := Lib.hid ((exTop HYQ.out rfl).trans (exRefl _))
        have ba0_11 := e11.blk ba0_10
        have ba0_12 := e12.blk ba0_11
        have ba0_13 := e13.blk ba0_12
        obtain ⟨za00, za01, za02, -, -, -⟩ := own3 ba0_13
        have lza0 := lt_of_blk ba0_13
        have ba1_11 := e11.blk ba1_10
        have ba1_12 := e12.blk ba1_11
        have ba1_13 := e13.blk ba1_12
        obtain ⟨za10, za11, za12, -, -, -⟩ := own3 ba1_13
        have lza1 := lt_of_blk ba1_13
        have ba2_11 := e11.blk ba2_10
        have ba2_12 := e12.blk ba2_11
        have ba2_13 := e13.blk ba2_12
        obtain ⟨za20, za21, za22, -, -, -⟩ := own3 ba2_13
        have lza2 := lt_of_blk ba2_13
        have ba3_11 := e11.blk ba3_10
        have ba3_12 := e12.blk ba3_11
        have ba3_13 := e13.blk ba3_12
        obtain ⟨za30, za31, za32, -, -, -⟩ := own3 ba3_13
        have lza3 := lt_of_blk ba3_13
        have ba4_12 := e12.blk b11
        have ba4_13 := e13.blk ba4_12
        obtain ⟨za40, za41, za42, -, -, -⟩ := own3 ba4_13
        have lza4 := lt_of_blk ba4_13
        go_wp2_with fail
        rw [← hw14]
        clear hw14
        clear za00 za01 za02 lza0 za10 za11 za12 lza1 za20 za21 za22 lza2 za30 za31 za32 lza3 za40 za41 za42 lza4
        have X13_14 : Ext w13 w14 := (Ext.refl w13).trans e14
        refine (cs1 (.mk 10 0 []) w14 _ _ (by rw [← HY.out]; exact (hL4.ext X13_14)) (Lies.leaf _ _ _)).mono ?_
        rintro e w15 ⟨rfl, e15⟩
        have s15 : w14.heap.size ≤ w15.heap.size := e15.size
        have ba0_14 := e14.blk ba0_13
        have ba0_15 := e15.blk ba0_14
        obtain ⟨za00, za01, za02, -, -, -⟩ := own3 ba0_15
        have lza0 := lt_of_blk ba0_15
        have ba1_14 := e14.blk ba1_13
        have ba1_15 := e15.blk ba1_14
        obtain ⟨za10, za11, za12, -, -, -⟩ := own3 ba1_15
        have lza1 := lt_of_blk ba1_15
        have ba2_14 := e14.blk ba2_13
        have ba2_15 := e15.blk ba2_14
        obtain ⟨za20, za21, za22, -, -, -⟩ := own3 ba2_15
        have lza2 := lt_of_blk ba2_15
        have ba3_14 := e14.blk ba3_13
        have ba3_15 := e15.blk ba3_14
        obtain ⟨za30, za31, za32, -, -, -⟩ := own3 ba3_15
        have lza3 := lt_of_blk ba3_15
        have ba4_14 := e14.blk ba4_13
        have ba4_15 := e15.blk ba4_14
        obtain ⟨za40, za41, za42, -, -, -⟩ := own3 ba4_15
        have lza4 := lt_of_blk ba4_15
        have ba5_15 := e15.blk b14
        obtain ⟨za50, za51, za52, -, -, -⟩ := own3 ba5_15
        have lza5 := lt_of_blk ba5_15
        go_wp2_with fail
        clear za00 za01 za02 lza0 za10 za11 za12 lza1 za20 za21 za22 lza2 za30 za31 za32 lza3 za40 za41 za42 lza4 za50 za51 za52 lza5
        have X0_1 : Ext w0 w1 := (Ext.refl w0).trans e1
        have X0_2 : Ext w0 w2 := X0_1.trans e2
        have X0_3 : Ext w0 w3 := X0_2.trans e3
        have X0_4 : Ext w0 w4 := X0_3.trans e4
        have X0_5 : Ext w0 w5 := X0_4.trans e5
        have X0_6 : Ext w0 w6 := X0_5.trans e6
        have X0_7 : Ext w0 w7 := X0_6.trans e7
        have X0_8 : Ext w0 w8 := X0_7.trans e8
        have X0_9 : Ext w0 w9 := X0_8.trans e9
        have X0_10 : Ext w0 w10 := X0_9.trans e10
        have X0_11 : Ext w0 w11 := X0_10.trans e11
        have X0_12 : Ext w0 w12 := X0_11.trans e12
        have X0_13 : Ext w0 w13 := X0_12.trans e13
        have X0_14 : Ext w0 w14 := X0_13.trans e14
        have X0_15 : Ext w0 w15 := X0_14.trans e15
        go_ret
        exact ⟨rfl, X0_15⟩
    | true =>
      have HX := Lib.hid (((exTop HXP.out rfl).trans (exMove _ _)).trans HT.out.symm)
      have ba0_11 := e11.blk ba0_10
      have ba0_12 := e12.blk ba0_11
      have ba0_13 := e13.blk ba0_12
      obtain ⟨za00, za01, za02, -, -, -⟩ := own3 ba0_13
      have lza0 := lt_of_blk ba0_13
      have ba1_11 := e11.blk ba1_10
      have ba1_12 := e12.blk ba1_11
      have ba1_13 := e13.blk ba1_12
      obtain ⟨za10, za11, za12, -, -, -⟩ := own3 ba1_13
      have lza1 := lt_of_blk ba1_13
      have ba2_11 := e11.blk ba2_10
      have ba2_12 := e12.blk ba2_11
      have ba2_13 := e13.blk ba2_12
      obtain ⟨za20, za21, za22, -, -, -⟩ := own3 ba2_13
      have lza2 := lt_of_blk ba2_13
      have ba3_11 := e11.blk ba3_10
      have ba3_12 := e12.blk ba3_11
      have ba3_13 := e13.blk ba3_12
      obtain ⟨za30, za31, za32, -, -, -⟩ := own3 ba3_13
      have lza3 := lt_of_blk ba3_13
      have ba4_12 := e12.blk b11
      have ba4_13 := e13.blk ba4_12
      obtain ⟨za40, za41, za42, -, -, -⟩ := own3 ba4_13
      have lza4 := lt_of_blk ba4_13
      go_wp2_with fail
      rw [← hw14]
      clear hw14
      clear za00 za01 za02 lza0 za10 za11 za12 lza1 za20 za21 za22 lza2 za30 za31 za32 lza3 za40 za41 za42 lza4
      have X10_11 : Ext w10 w11 := (Ext.refl w10).trans e11
      have X10_12 : Ext w10 w12 := X10_11.trans e12
      have X10_13 : Ext w10 w13 := X10_12.trans e13
      have X10_14 : Ext w10 w14 := X10_13.trans e14
      have X3_7 : Ext w3 w7 := X3_6.trans e7
      have X3_8 : Ext w3 w8 := X3_7.trans e8
      have X3_9 : Ext w3 w9 := X3_8.trans e9
      have X3_10 : Ext w3 w10 := X3_9.trans e10
      have X3_11 : Ext w3 w11 := X3_10.trans e11
      have X3_12 : Ext w3 w12 := X3_11.trans e12
      have X3_13 : Ext w3 w13 := X3_12.trans e13
      have X3_14 : Ext w3 w14 := X3_13.trans e14
      refine (cs1 (.mk k1 m1 ks1) w14 _ _ (by rw [← HX.out]; exact (hL3.ext X10_14)) (hL1.ext X3_14)).mono ?_
      rintro e w15 ⟨rfl, e15⟩
      have s15 : w14.heap.size ≤ w15.heap.size := e15.size
      cases q with
      | false =>
        have ba0_14 := e14.blk ba0_13
        have ba0_15 := e15.blk ba0_14
        obtain ⟨za00, za01, za02, -, -, -⟩ := own3 ba0_15
        have lza0 := lt_of_blk ba0_15
        have ba1_14 := e14.blk ba1_13
        have ba1_15 := e15.blk ba1_14
        obtain ⟨za10, za11, za12, -, -, -⟩ := own3 ba1_15
        have lza1 := lt_of_blk ba1_15
        have ba2_14 := e14.blk ba2_13
        have ba2_15 := e15.blk ba2_14
        obtain ⟨za20, za21, za22, -, -, -⟩ := own3 ba2_15
        have lza2 := lt_of_blk ba2_15
        have ba3_14 := e14.blk ba3_13
        have ba3_15 := e15.blk ba3_14
        obtain ⟨za30, za31, za32, -, -, -⟩ := own3 ba3_15
        have lza3 := lt_of_blk ba3_15
        have ba4_14 := e14.blk ba4_13
        have ba4_15 := e15.blk ba4_14
        obtain ⟨za40, za41, za42, -, -, -⟩ := own3 ba4_15
        have lza4 := lt_of_blk ba4_15
        have ba5_15 := e15.blk b14
        obtain ⟨za50, za51, za52, -, -, -⟩ := own3 ba5_15
        have lza5 := lt_of_blk ba5_15
        go_wp2_with fail
        clear za00 za01 za02 lza0 za10 za11 za12 lza1 za20 za21 za22 lza2 za30 za31 za32 lza3 za40 za41 za42 lza4 za50 za51 za52 lza5
        have X0_1 : Ext w0 w1 := (Ext.refl w0).trans e1
        have X0_2 : Ext w0 w2 := X0_1.trans e2
        have X0_3 : Ext w0 w3 := X0_2.trans e3
        have X0_4 : Ext w0 w4 := X0_3.trans e4
        have X0_5 : Ext w0 w5 := X0_4.trans e5
        have X0_6 : Ext w0 w6 := X0_5.trans e6
        have X0_7 : Ext w0 w7 := X0_6.trans e7
        have X0_8 : Ext w0 w8 := X0_7.trans e8
        have X0_9 : Ext w0 w9 := X0_8.trans e9
        have X0_10 : Ext w0 w10 := X0_9.trans e10
        have X0_11 : Ext w0 w11 := X0_10.trans e11
        have X0_12 : Ext w0 w12 := X0_11.trans e12
        have X0_13 : Ext w0 w13 := X0_12.trans e13
        have X0_14 : Ext w0 w14 := X0_13.trans e14
        have X0_15 : Ext w0 w15 := X0_14.trans e15
        go_ret
        exact ⟨rfl, X0_15⟩
      | true =>
        have HY := Lib.hid ((exTop HYQ.out rfl).trans (exRefl _))
        have ba0_14 := e14.blk ba0_13
        have ba0_15 := e15.blk ba0_14
        obtain ⟨za00, za01, za02, -, -, -⟩ := own3 ba0_15
        have lza0 := lt_of_blk ba0_15
        have ba1_14 := e14.blk ba1_13
        have ba1_15 := e15.blk ba1_14
        obtain ⟨za10, za11, za12, -, -, -⟩ := own3 ba1_15
        have lza1 := lt_of_blk ba1_15
        have ba2_14 := e14.blk ba2_13
        have ba2_15 := e15.blk ba2_14
        obtain ⟨za20, za21, za22, -, -, -⟩ := own3 ba2_15
        have lza2 := lt_of_blk ba2_15
        have ba3_14 := e14.blk ba3_13
        have ba3_15 := e15.blk ba3_14
        obtain ⟨za30, za31, za32, -, -, -⟩ := own3 ba3_15
        have lza3 := lt_of_blk ba3_15
        have ba4_14 := e14.blk ba4_13
        have ba4_15 := e15.blk ba4_14
        obtain ⟨za40, za41, za42, -, -, -⟩ := own3 ba4_15
        have lza4 := lt_of_blk ba4_15
        have ba5_15 := e15.blk b14
        obtain ⟨za50, za51, za52, -, -, -⟩ := own3 ba5_15
        have lza5 := lt_of_blk ba5_15
        go_wp2_with fail
        clear za00 za01 za02 lza0 za10 za11 za12 lza1 za20 za21 za22 lza2 za30 za31 za32 lza3 za40 za41 za42 lza4 za50 za51 za52 lza5
        have X13_14 : Ext w13 w14 := (Ext.refl w13).trans e14
        have X13_15 : Ext w13 w15 := X13_14.trans e15
        refine (cs1 (.mk 10 0 []) w15 _ _ (by rw [← HY.out]; exact (hL4.ext X13_15)) (Lies.leaf _ _ _)).mono ?_
        rintro e w16 ⟨rfl, e16⟩
        have s16 : w15.heap.size ≤ w16.heap.size := e16.size
        have ba0_16 := e16.blk ba0_15
        obtain ⟨za00, za01, za02, -, -, -⟩ := own3 ba0_16
        have lza0 := lt_of_blk ba0_16
        have ba1_16 := e16.blk ba1_15
        obtain ⟨za10, za11, za12, -, -, -⟩ := own3 ba1_16
        have lza1 := lt_of_blk ba1_16
        have ba2_16 := e16.blk ba2_15
        obtain ⟨za20, za21, za22, -, -, -⟩ := own3 ba2_16
        have lza2 := lt_of_blk ba2_16
        have ba3_16 := e16.blk ba3_15
        obtain ⟨za30, za31, za32, -, -, -⟩ := own3 ba3_16
        have lza3 := lt_of_blk ba3_16
        have ba4_16 := e16.blk ba4_15
        obtain ⟨za40, za41, za42, -, -, -⟩ := own3 ba4_16
        have lza4 := lt_of_blk ba4_16
        have ba5_16 := e16.blk ba5_15
        obtain ⟨za50, za51, za52, -, -, -⟩ := own3 ba5_16
        have lza5 := lt_of_blk ba5_16
        go_wp2_with fail
        clear za00 za01 za02 lza0 za10 za11 za12 lza1 za20 za21 za22 lza2 za30 za31 za32 lza3 za40 za41 za42 lza4 za50 za51 za52 lza5
        have X0_1 : Ext w0 w1 := (Ext.refl w0).trans e1
        have X0_2 : Ext w0 w2 := X0_1.trans e2
        have X0_3 : Ext w0 w3 := X0_2.trans e3
        have X0_4 : Ext w0 w4 := X0_3.trans e4
        have X0_5 : Ext w0 w5 := X0_4.trans e5
        have X0_6 : Ext w0 w6 := X0_5.trans e6
        have X0_7 : Ext w0 w7 := X0_6.trans e7
        have X0_8 : Ext w0 w8 := X0_7.trans e8
        have X0_9 : Ext w0 w9 := X0_8.trans e9
        have X0_10 : Ext w0 w10 := X0_9.trans e10
        have X0_11 : Ext w0 w11 := X0_10.trans e11
        have X0_12 : Ext w0 w12 := X0_11.trans e12
        have X0_13 : Ext w0 w13 := X0_12.trans e13
        have X0_14 : Ext w0 w14 := X0_13.trans e14
        have X0_15 : Ext w0 w15 := X0_14.trans e15
        have X0_16 : Ext w0 w16 := X0_15.trans e16
        go_ret
        exact ⟨rfl, X0_16⟩

set_option maxRecDepth 100000 in
theorem lifted (os : Os) (started : os.Started) (H : Type) (enc : TypeId × Value → H) :
    ReturnsInHanded {} Try.checked os 8 .any (Rows.fnExtractMoveSpec.pre6 enc Try.prog Try.f8 Rows.fnExtractMoveRow.domain false) (Rows.fnExtractMoveSpec.post enc Try.prog Try.f8 false true false false) := by
  refine law_lift (C := Try.checked) (fn := Try.f8) (tb := 4) own started (by kernel_rfl) Try.func8 (by kernel_rfl) (by kernel_rfl) rfl Try.underlying4 rfl
    (fun ds h => by
      match ds, h with
      | [d1], _ => exact ⟨rfl, rfl, rfl⟩)
    (ChangeSpec.witness6 (enc := enc) (C := Try.checked) false ⟨#[], #[.slice none 0 0], []⟩ 8 (by kernel_rfl) (by kernel_rfl) (by kernel_rfl) (by kernel_rfl)) ?_
  intro W base args ds p hval hA hlt
  rw [Try.params8] at hA hval
  obtain ⟨v0, vs0, d0, ds0, p0, q0, hargs, rfl, rfl, h0, r0⟩ := trodAll_cons hA
  obtain ⟨rfl, rfl, rfl⟩ := trodAll_nil r0
  obtain rfl : args = #[v0] := by cases args; simp_all
  obtain ⟨A0, cap0, bs0, rfl, hl0, hc0, ha0⟩ := open_bytes Try.underlying64 Try.underlying5 (by kernel_rfl) (hval 0 64 v0 rfl rfl) h0
  exact walk W A0 cap0 bs0 hl0 hc0 ha0.1

theorem over : Rows.fnExtractMoveRow.holds Try.pinned (OpenSpec.ofChange Rows.fnExtractMoveSpec) :=
  OpenClaim.holds_of_wide 8 Try.f8 rfl rfl rfl rfl rfl rfl rfl ⟨rfl, rfl, rfl, rfl, rfl⟩ rfl rfl rfl rfl rfl (by kernel_rfl) Try.func8 (by kernel_rfl)
    (of_decide_eq_true (by kernel_rfl)) (by unfold Func.isWrapper; first | (rw [if_pos (by decide +kernel)]; kernel_rfl) | (rw [if_neg (by decide +kernel)]; exact ⟨rfl, rfl⟩))
    (fun os started H enc _ => lifted os started H enc)

theorem proved : Rows.FnExtractMoveSaid := over
#print axioms proved
end Go.Proofs.Ytpbmlpngafpoeaa.extractMove

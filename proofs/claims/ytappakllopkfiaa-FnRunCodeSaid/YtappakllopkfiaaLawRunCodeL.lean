/-
  PROVED: the law FnRunCode returns true for every input: values are final.
  CONDITIONS: none.
-/
import Derived.Test.YtappakllopkfiaaRows
import Derived.Test.YtappakllopkfiaaLift
import Derived.Test.YtappakllopkfiaaDrawC
import Derived.Test.YtappakllopkfiaaRunS
import Derived.Test.YtappakllopkfiaaSame
import Derived.Test.YtappakllopkfiaaExShape
import Derived.Deep.RegionHeld3
namespace Go.Proofs.Ytappakllopkfiaa.runCodeL
open Go.RowKit Go.ChangeShapes Go.WideShapes Go.ChangeAt
set_option linter.unusedVariables false

theorem own : ownKnob Try.prog.godebug = none := by kernel_rfl

theorem frFacts {c v : Tr} {x : Int} (h : runV c x = (v, 0)) : valid sigC v = true ∧ runV v 0 = (v, 0) ∧ runV c 200 = (v, 0) := by
  unfold runV at h
  split at h
  · rename_i hc
    simp only [Bool.and_eq_true, Bool.not_eq_true'] at hc
    obtain ⟨⟨h1, h2⟩, h3⟩ := hc
    have hr := inR_iff.1 h3
    obtain ⟨g1, g2, g3, g4⟩ := runC_value x.toNat c v h1 h2 h
    refine ⟨g2, ?_, ?_⟩
    · have := runV_good (c := v) (f := 0) g2 g3 (by omega)
      rw [runC_of_value 0 v g1] at this
      exact this
    · have := runV_good (c := c) (f := 200) h1 h2 (by omega)
      rw [g4 200 (by omega)] at this
      exact this
  · simp at h
theorem rc1 {c v : Tr} {x k : Int} (h : runV c x = (v, k)) (w : World) (u : Value) (hin : Lies w c u) : Calls Try.prog 17 #[u, .int .i64 x] w fun e w' => ∃ y, e = .returned (.tuple #[y, .int .i64 k]) ∧ Lies w' v y ∧ Ext w w' := by
  have := runCode_any c x w u hin
  rw [h] at this
  exact this.mono fun e w' ⟨y, h1, h2, h3⟩ => ⟨y, h1, h2.lies, h3⟩
theorem rc2 {c v : Tr} {x k : Int} (h : runV c x = (v, k)) (w : World) (u : Value) (hin : Lies w c u) : Calls Try.prog 15 #[u, .int .i64 x] w fun e w' => ∃ y, e = .returned (.tuple #[y, .int .i64 k]) ∧ Lies w' v y ∧ Ext w w' := by
  have := specRunCode_any c x w u hin
  rw [h] at this
  exact this
theorem cs1 (c : Tr) (w : World) (v u : Value) (h : Lies w c v) (k : Lies w c u) : Calls Try.prog 22 #[v, u] w fun e w' => e = .returned (.bool true) ∧ Ext w w' := by
  have := sameCode_any c w c v u h k
  rw [eqTr_self] at this
  exact this
theorem va1 {c : Tr} (hv : valid sigC c = true) (w : World) (v : Value) (hin : Lies w c v) : Calls Try.prog 23 #[v] w fun e w' => e = .returned (.bool true) ∧ Ext w w' := by
  have := validCode_any c w v hin
  rw [hv] at this
  exact this
set_option maxRecDepth 100000 in
set_option maxHeartbeats 4000000 in
theorem walk (w0 : World) (A : Option Addr) (cap : Nat) (bs : List Int) (hl : bs.length ≤ cap) (hc : cap ≤ maxLen) (hB : Bytes w0 w0.heap.size A bs) :
    Calls Try.prog 4 #[.slice A bs.length cap] w0 fun e w' => e = .returned (.bool true) ∧ Ext w0 w' := by
  have hcc := hc
  unfold maxLen at hcc
  by_cases hn : 1048576 < (bs.length : Int)
  · have d1 : decide (1048576 < (bs.length : Int)) = true := decide_eq_true hn
    go_enter Try.func4, Try.ntmps4
    go_wp2_with fail
    go_ret
    exact ⟨rfl, Ext.refl _⟩
  have d1 : decide (1048576 < (bs.length : Int)) = false := decide_eq_false hn
  go_enter Try.func4, Try.ntmps4
  go_wp2_with fail
  refine (drawRunCode_any w0 A cap bs hl hc hB).mono ?_
  rintro e w1 ⟨⟨k0, m0, ks0⟩, u, x, rfl, hcn0, hx1, hx2, hF0, e1⟩
  have s1 : w0.heap.size ≤ w1.heap.size := e1.size
  have hL0 := hF0.lies
  obtain ⟨A0, cap0, rfl, hl0, hc0, hK0⟩ := Lies.mk_iff.1 hL0
  clear hF0 hcn0
  obtain ⟨w2, hw2⟩ : ∃ w2, w2 = w1.alloc (.cells #[.int .i64 k0, .int .i64 m0, .slice A0 ks0.length cap0] 28) := ⟨_, rfl⟩
  have e2 : Ext w1 w2 := hw2 ▸ (Ext.refl w1).alloc _
  have b2 := heap_alloc_new w1 (.cells #[.int .i64 k0, .int .i64 m0, .slice A0 ks0.length cap0] 28)
  rw [← hw2] at b2
  have s2 : w1.heap.size < w2.heap.size := lt_of_blk b2
  obtain ⟨⟨k1, m1, ks1⟩, kk, hz⟩ : ∃ v k, runV (.mk k0 m0 ks0) x = (v, k) := ⟨_, _, rfl⟩
  have HZ := Lib.hid hz
  clear hz
  go_wp2_with fail
  rw [← hw2]
  clear hw2
  have X1_2 : Ext w1 w2 := (Ext.refl w1).trans e2
  refine (rc1 HZ.out w2 _ (hL0.ext X1_2)).mono ?_
  rintro e w3 ⟨u, rfl, hL4, e3⟩
  have s3 : w2.heap.size ≤ w3.heap.size := e3.size
  obtain ⟨A4, cap4, rfl, hl4, hc4, hK4⟩ := Lies.mk_iff.1 hL4
  obtain ⟨w4, hw4⟩ : ∃ w4, w4 = w3.alloc (.cells #[.int .i64 k1, .int .i64 m1, .slice A4 ks1.length cap4] 28) := ⟨_, rfl⟩
  have e4 : Ext w3 w4 := hw4 ▸ (Ext.refl w3).alloc _
  have b4 := heap_alloc_new w3 (.cells #[.int .i64 k1, .int .i64 m1, .slice A4 ks1.length cap4] 28)
  rw [← hw4] at b4
  have s4 : w3.heap.size < w4.heap.size := lt_of_blk b4
  have ba0_3 := e3.blk b2
  obtain ⟨za00, za01, za02, -, -, -⟩ := own3 ba0_3
  have lza0 := lt_of_blk ba0_3
  go_wp2_with fail
  rw [← hw4]
  clear hw4
  clear za00 za01 za02 lza0
  have X1_3 : Ext w1 w3 := X1_2.trans e3
  have X1_4 : Ext w1 w4 := X1_3.trans e4
  refine (rc2 HZ.out w4 _ (hL0.ext X1_4)).mono ?_
  rintro e w5 ⟨u, rfl, hL6, e5⟩
  have s5 : w4.heap.size ≤ w5.heap.size := e5.size
  obtain ⟨A6, cap6, rfl, hl6, hc6, hK6⟩ := Lies.mk_iff.1 hL6
  obtain ⟨w6, hw6⟩ : ∃ w6, w6 = w5.alloc (.cells #[.int .i64 k1, .int .i64 m1, .slice A6 ks1.length cap6] 28) := ⟨_, rfl⟩
  have e6 : Ext w5 w6 := hw6 ▸ (Ext.refl w5).alloc _
  have b6 := heap_alloc_new w5 (.cells #[.int .i64 k1, .int .i64 m1, .slice A6 ks1.length cap6] 28)
  rw [← hw6] at b6
  have s6 : w5.heap.size < w6.heap.size := lt_of_blk b6
  have hz1 : (kk != kk) = false := by simp
  have hz2 : (kk == kk) = true := by simp
  have ba0_4 := e4.blk ba0_3
  have ba0_5 := e5.blk ba0_4
  obtain ⟨za00, za01, za02, -, -, -⟩ := own3 ba0_5
  have lza0 := lt_of_blk ba0_5
  have ba4_5 := e5.blk b4
  obtain ⟨za40, za41, za42, -, -, -⟩ := own3 ba4_5
  have lza4 := lt_of_blk ba4_5
  go_wp2_with fail
  rw [← hw6]
  clear hw6
  clear za00 za01 za02 lza0 za40 za41 za42 lza4
  have X3_4 : Ext w3 w4 := (Ext.refl w3).trans e4
  have X3_5 : Ext w3 w5 := X3_4.trans e5
  have X3_6 : Ext w3 w6 := X3_5.trans e6
  have X5_6 : Ext w5 w6 := (Ext.refl w5).trans e6
  refine (cs1 (.mk k1 m1 ks1) w6 _ _ (hL4.ext X3_6) (hL6.ext X5_6)).mono ?_
  rintro e w7 ⟨rfl, e7⟩
  have s7 : w6.heap.size ≤ w7.heap.size := e7.size
  by_cases hk0 : kk = 0
  · subst hk0
    obtain ⟨fv, fr, ft⟩ := frFacts HZ.out
    have FV := Lib.hid fv
    have FR := Lib.hid fr
    have FT := Lib.hid ft
    clear fv fr ft
    have ba0_6 := e6.blk ba0_5
    have ba0_7 := e7.blk ba0_6
    obtain ⟨za00, za01, za02, -, -, -⟩ := own3 ba0_7
    have lza0 := lt_of_blk ba0_7
    have ba4_6 := e6.blk ba4_5
    have ba4_7 := e7.blk ba4_6
    obtain ⟨za40, za41, za42, -, -, -⟩ := own3 ba4_7
    have lza4 := lt_of_blk ba4_7
    have ba6_7 := e7.blk b6
    obtain ⟨za60, za61, za62, -, -, -⟩ := own3 ba6_7
    have lza6 := lt_of_blk ba6_7
    go_wp2_with fail
    clear za00 za01 za02 lza0 za40 za41 za42 lza4 za60 za61 za62 lza6
    have X3_7 : Ext w3 w7 := X3_6.trans e7
    refine (rc1 FR.out w7 _ (hL4.ext X3_7)).mono ?_
    rintro e w8 ⟨u, rfl, hL8, e8⟩
    have s8 : w7.heap.size ≤ w8.heap.size := e8.size
    obtain ⟨A8, cap8, rfl, hl8, hc8, hK8⟩ := Lies.mk_iff.1 hL8
    obtain ⟨w9, hw9⟩ : ∃ w9, w9 = w8.alloc (.cells #[.int .i64 k1, .int .i64 m1, .slice A8 ks1.length cap8] 28) := ⟨_, rfl⟩
    have e9 : Ext w8 w9 := hw9 ▸ (Ext.refl w8).alloc _
    have b9 := heap_alloc_new w8 (.cells #[.int .i64 k1, .int .i64 m1, .slice A8 ks1.length cap8] 28)
    rw [← hw9] at b9
    have s9 : w8.heap.size < w9.heap.size := lt_of_blk b9
    have ba0_8 := e8.blk ba0_7
    obtain ⟨za00, za01, za02, -, -, -⟩ := own3 ba0_8
    have lza0 := lt_of_blk ba0_8
    have ba4_8 := e8.blk ba4_7
    obtain ⟨za40, za41, za42, -, -, -⟩ := own3 ba4_8
    have lza4 := lt_of_blk ba4_8
    have ba6_8 := e8.blk ba6_7
    obtain ⟨za60, za61, za62, -, -, -⟩ := own3 ba6_8
    have lza6 := lt_of_blk ba6_8
    go_wp2_with fail
    rw [← hw9]
    clear hw9
    clear za00 za01 za02 lza0 za40 za41 za42 lza4 za60 za61 za62 lza6
    have X1_5 : Ext w1 w5 := X1_4.trans e5
    have X1_6 : Ext w1 w6 := X1_5.trans e6
    have X1_7 : Ext w1 w7 := X1_6.trans e7
    have X1_8 : Ext w1 w8 := X1_7.trans e8
    have X1_9 : Ext w1 w9 := X1_8.trans e9
    refine (rc1 FT.out w9 _ (hL0.ext X1_9)).mono ?_
    rintro e w10 ⟨u, rfl, hL10, e10⟩
    have s10 : w9.heap.size ≤ w10.heap.size := e10.size
    obtain ⟨A10, cap10, rfl, hl10, hc10, hK10⟩ := Lies.mk_iff.1 hL10
    obtain ⟨w11, hw11⟩ : ∃ w11, w11 = w10.alloc (.cells #[.int .i64 k1, .int .i64 m1, .slice A10 ks1.length cap10] 28) := ⟨_, rfl⟩
    have e11 : Ext w10 w11 := hw11 ▸ (Ext.refl w10).alloc _
    have b11 := heap_alloc_new w10 (.cells #[.int .i64 k1, .int .i64 m1, .slice A10 ks1.length cap10] 28)
    rw [← hw11] at b11
    have s11 : w10.heap.size < w11.heap.size := lt_of_blk b11
    have ba0_9 := e9.blk ba0_8
    have ba0_10 := e10.blk ba0_9
    obtain ⟨za00, za01, za02, -, -, -⟩ := own3 ba0_10
    have lza0 := lt_of_blk ba0_10
    have ba4_9 := e9.blk ba4_8
    have ba4_10 := e10.blk ba4_9
    obtain ⟨za40, za41, za42, -, -, -⟩ := own3 ba4_10
    have lza4 := lt_of_blk ba4_10
    have ba6_9 := e9.blk ba6_8
    have ba6_10 := e10.blk ba6_9
    obtain ⟨za60, za61, za62, -, -, -⟩ := own3 ba6_10
    have lza6 := lt_of_blk ba6_10
    have ba8_10 := e10.blk b9
    obtain ⟨za80, za81, za82, -, -, -⟩ := own3 ba8_10
    have lza8 := lt_of_blk ba8_10
    go_wp2_with fail
    rw [← hw11]
    clear hw11
    clear za00 za01 za02 lza0 za40 za41 za42 lza4 za60 za61 za62 lza6 za80 za81 za82 lza8
    have X3_8 : Ext w3 w8 := X3_7.trans e8
    have X3_9 : Ext w3 w9 := X3_8.trans e9
    have X3_10 : Ext w3 w10 := X3_9.trans e10
    have X3_11 : Ext w3 w11 := X3_10.trans e11
    refine (va1 FV.out w11 _ (hL4.ext X3_11)).mono ?_
    rintro e w12 ⟨rfl, e12⟩
    have s12 : w11.heap.size ≤ w12.heap.size := e12.size
    have ba0_11 := e11.blk ba0_10
    have ba0_12 := e12.blk ba0_11
    obtain ⟨za00, za01, za02, -, -, -⟩ := own3 ba0_12
    have lza0 := lt_of_blk ba0_12
    have ba4_11 := e11.blk ba4_10
    have ba4_12 := e12.blk ba4_11
    obtain ⟨za40, za41, za42, -, -, -⟩ := own3 ba4_12
    have lza4 := lt_of_blk ba4_12
    have ba6_11 := e11.blk ba6_10
    have ba6_12 := e12.blk ba6_11
    obtain ⟨za60, za61, za62, -, -, -⟩ := own3 ba6_12
    have lza6 := lt_of_blk ba6_12
    have ba8_11 := e11.blk ba8_10
    have ba8_12 := e12.blk ba8_11
    obtain ⟨za80, za81, za82, -, -, -⟩ := own3 ba8_12
    have lza8 := lt_of_blk ba8_12
    have ba10_12 := e12.blk b11
    obtain ⟨za100, za101, za102, -, -, -⟩ := own3 ba10_12
    have lza10 := lt_of_blk ba10_12
    go_wp2_with fail
    clear za00 za01 za02 lza0 za40 za41 za42 lza4 za60 za61 za62 lza6 za80 za81 za82 lza8 za100 za101 za102 lza10
    have X8_9 : Ext w8 w9 := (Ext.refl w8).trans e9
    have X8_10 : Ext w8 w10 := X8_9.trans e10
    have X8_11 : Ext w8 w11 := X8_10.trans e11
    have X8_12 : Ext w8 w12 := X8_11.trans e12
    have X3_12 : Ext w3 w12 := X3_11.trans e12
    refine (cs1 (.mk k1 m1 ks1) w12 _ _ (hL8.ext X8_12) (hL4.ext X3_12)).mono ?_
    rintro e w13 ⟨rfl, e13⟩
    have s13 : w12.heap.size ≤ w13.heap.size := e13.size
    have ba0_13 := e13.blk ba0_12
    obtain ⟨za00, za01, za02, -, -, -⟩ := own3 ba0_13
    have lza0 := lt_of_blk ba0_13
    have ba4_13 := e13.blk ba4_12
    obtain ⟨za40, za41, za42, -, -, -⟩ := own3 ba4_13
    have lza4 := lt_of_blk ba4_13
    have ba6_13 := e13.blk ba6_12
    obtain ⟨za60, za61, za62, -, -, -⟩ := own3 ba6_13
    have lza6 := lt_of_blk ba6_13
    have ba8_13 := e13.blk ba8_12
    obtain ⟨za80, za81, za82, -, -, -⟩ := own3 ba8_13
    have lza8 := lt_of_blk ba8_13
    have ba10_13 := e13.blk ba10_12
    obtain ⟨za100, za101, za102, -, -, -⟩ := own3 ba10_13
    have lza10 := lt_of_blk ba10_13
    go_wp2_with fail
    clear za00 za01 za02 lza0 za40 za41 za42 lza4 za60 za61 za62 lza6 za80 za81 za82 lza8 za100 za101 za102 lza10
    have X10_11 : Ext w10 w11 := (Ext.refl w10).trans e11
    have X10_12 : Ext w10 w12 := X10_11.trans e12
    have X10_13 : Ext w10 w13 := X10_12.trans e13
    have X3_13 : Ext w3 w13 := X3_12.trans e13
    refine (cs1 (.mk k1 m1 ks1) w13 _ _ (hL10.ext X10_13) (hL4.ext X3_13)).mono ?_
    rintro e w14 ⟨rfl, e14⟩
    have s14 : w13.heap.size ≤ w14.heap.size := e14.size
    have ba0_14 := e14.blk ba0_13
    obtain ⟨za00, za01, za02, -, -, -⟩ := own3 ba0_14
    have lza0 := lt_of_blk ba0_14
    have ba4_14 := e14.blk ba4_13
    obtain ⟨za40, za41, za42, -, -, -⟩ := own3 ba4_14
    have lza4 := lt_of_blk ba4_14
    have ba6_14 := e14.blk ba6_13
    obtain ⟨za60, za61, za62, -, -, -⟩ := own3 ba6_14
    have lza6 := lt_of_blk ba6_14
    have ba8_14 := e14.blk ba8_13
    obtain ⟨za80, za81, za82, -, -, -⟩ := own3 ba8_14
    have lza8 := lt_of_blk ba8_14
    have ba10_14 := e14.blk ba10_13
    obtain ⟨za100, za101, za102, -, -, -⟩ := own3 ba10_14
    have lza10 := lt_of_blk ba10_14
    go_wp2_with fail
    clear za00 za01 za02 lza0 za40 za41 za42 lza4 za60 za61 za62 lza6 za80 za81 za82 lza8 za100 za101 za102 lza10
    have X0_1 : Ext w0 w1 := (Ext.refl w0).trans e1
    have X0_2 : Ext w0 w2 := X0_1.trans e2
    have X0_3 : Ext w0 w3 := X0_2.trans e3
    have X0_4 : Ext w0 w4 := X0_3.trans e4
    have X0_5 : Ext w0 w5 := X0_4.trans e5
    have X0_6 : Ext w0 w6 := X0_5.trans e6
    have X0_7 : Ext w0 w7 := X0_6.trans e7
    have X0_8 : Ext w0 w8 := X0_7.trans e8
    have X0_9 : Ext w0 w9 := X0_8.trans e9
    have X0_10 : Ext w0 w10 := X0_9.trans e10
    have X0_11 : Ext w0 w11 := X0_10.trans e11
    have X0_12 : Ext w0 w12 := X0_11.trans e12
    have X0_13 : Ext w0 w13 := X0_12.trans e13
    have X0_14 : Ext w0 w14 := X0_13.trans e14
    go_ret
    exact ⟨rfl, X0_14⟩
  · have hkb : (kk != 0) = true := by simp [hk0]
    have ba0_6 := e6.blk ba0_5
    have ba0_7 := e7.blk ba0_6
    obtain ⟨za00, za01, za02, -, -, -⟩ := own3 ba0_7
    have lza0 := lt_of_blk ba0_7
    have ba4_6 := e6.blk ba4_5
    have ba4_7 := e7.blk ba4_6
    obtain ⟨za40, za41, za42, -, -, -⟩ := own3 ba4_7
    have lza4 := lt_of_blk ba4_7
    have ba6_7 := e7.blk b6
    obtain ⟨za60, za61, za62, -, -, -⟩ := own3 ba6_7
    have lza6 := lt_of_blk ba6_7
    go_wp2_with fail
    clear za00 za01 za02 lza0 za40 za41 za42 lza4 za60 za61 za62 lza6
    have X3_7 : Ext w3 w7 := X3_6.trans e7
    have X5_7 : Ext w5 w7 := X5_6.trans e7
    refine (cs1 (.mk k1 m1 ks1) w7 _ _ (hL4.ext X3_7) (hL6.ext X5_7)).mono ?_
    rintro e w8 ⟨rfl, e8⟩
    have s8 : w7.heap.size ≤ w8.heap.size := e8.size
    have ba0_8 := e8.blk ba0_7
    obtain ⟨za00, za01, za02, -, -, -⟩ := own3 ba0_8
    have lza0 := lt_of_blk ba0_8
    have ba4_8 := e8.blk ba4_7
    obtain ⟨za40, za41, za42, -, -, -⟩ := own3 ba4_8
    have lza4 := lt_of_blk ba4_8
    have ba6_8 := e8.blk ba6_7
    obtain ⟨za60, za61, za62, -, -, -⟩ := own3 ba6_8
    have lza6 := lt_of_blk ba6_8
    go_wp2_with fail
    clear za00 za01 za02 lza0 za40 za41 za42 lza4 za60 za61 za62 lza6
    have X0_1 : Ext w0 w1 := (Ext.refl w0).trans e1
    have X0_2 : Ext w0 w2 := X0_1.trans e2
    have X0_3 : Ext w0 w3 := X0_2.trans e3
    have X0_4 : Ext w0 w4 := X0_3.trans e4
    have X0_5 : Ext w0 w5 := X0_4.trans e5
    have X0_6 : Ext w0 w6 := X0_5.trans e6
    have X0_7 : Ext w0 w7 := X0_6.trans e7
    have X0_8 : Ext w0 w8 := X0_7.trans e8
    go_ret
    exact ⟨rfl, X0_8⟩

set_option maxRecDepth 100000 in
theorem lifted (os : Os) (started : os.Started) (H : Type) (enc : TypeId × Value → H) :
    ReturnsInHanded {} Try.checked os 4 .any (Rows.fnRunCodeSpec.pre6 enc Try.prog Try.f4 Rows.fnRunCodeRow.domain false) (Rows.fnRunCodeSpec.post enc Try.prog Try.f4 false true false false) := by
  refine law_lift (C := Try.checked) (fn := Try.f4) (tb := 4) own started (by kernel_rfl) Try.func4 (by kernel_rfl) (by kernel_rfl) rfl Try.underlying4 rfl
    (fun ds h => by
      match ds, h with
      | [d1], _ => exact ⟨rfl, rfl, rfl⟩)
    (ChangeSpec.witness6 (enc := enc) (C := Try.checked) false ⟨#[], #[.slice none 0 0], []⟩ 8 (by kernel_rfl) (by kernel_rfl) (by kernel_rfl) (by kernel_rfl)) ?_
  intro W base args ds p hval hA hlt
  rw [Try.params4] at hA hval
  obtain ⟨v0, vs0, d0, ds0, p0, q0, hargs, rfl, rfl, h0, r0⟩ := trodAll_cons hA
  obtain ⟨rfl, rfl, rfl⟩ := trodAll_nil r0
  obtain rfl : args = #[v0] := by cases args; simp_all
  obtain ⟨A0, cap0, bs0, rfl, hl0, hc0, ha0⟩ := open_bytes Try.underlying35 Try.underlying5 (by kernel_rfl) (hval 0 35 v0 rfl rfl) h0
  exact walk W A0 cap0 bs0 hl0 hc0 ha0.1

theorem over : Rows.fnRunCodeRow.holds Try.pinned (OpenSpec.ofChange Rows.fnRunCodeSpec) :=
  OpenClaim.holds_of_wide 4 Try.f4 rfl rfl rfl rfl rfl rfl rfl ⟨rfl, rfl, rfl, rfl, rfl⟩ rfl rfl rfl rfl rfl (by kernel_rfl) Try.func4 (by kernel_rfl)
    (of_decide_eq_true (by kernel_rfl)) (by unfold Func.isWrapper; first | (rw [if_pos (by decide +kernel)]; kernel_rfl) | (rw [if_neg (by decide +kernel)]; exact ⟨rfl, rfl⟩))
    (fun os started H enc _ => lifted os started H enc)

theorem proved : Rows.FnRunCodeSaid := over
#print axioms proved
end Go.Proofs.Ytappakllopkfiaa.runCodeL

/-
  PROVED: the law FnPutAt returns true for every input: parts can be replaced.
  CONDITIONS: none.
-/
import Derived.Test.YtjgdckkeojehoaaRows
import Derived.Test.YtjgdckkeojehoaaLift
import Derived.Test.YtjgdckkeojehoaaPut4
import Derived.Test.YtjgdckkeojehoaaPath
import Derived.Test.YtjgdckkeojehoaaExShape
import Derived.Test.YtjgdckkeojehoaaSame
import Derived.Deep.RegionHeld3
namespace Go.Proofs.Ytjgdckkeojehoaa.putAtL
open Go.RowKit Go.ChangeShapes Go.WideShapes Go.ChangeAt
set_option linter.unusedVariables false

theorem own : ownKnob Try.prog.godebug = none := by kernel_rfl

theorem atV_true {t u : Tr} {p : List Int} (h : atV t p = (u, true)) : valid sigT t = true ∧ atT t p = some u := by
  unfold atV at h
  split at h
  · rename_i hv
    cases e : atT t p with
    | none => rw [e] at h; simp at h
    | some x => rw [e] at h; simp at h; subst h; exact ⟨hv, rfl⟩
  · simp at h
theorem atV_of {t u : Tr} {p : List Int} (hv : valid sigT t = true) (h : atT t p = some u) : atV t p = (u, true) := by
  unfold atV
  rw [if_pos hv, h]
  rfl
theorem valid_part {t u : Tr} {p : List Int} (hv : valid sigT t = true) (h : atT t p = some u) : valid sigT u = true := by
  obtain ⟨h1, h2⟩ := cnt_of_valid hv
  unfold valid
  rw [Bool.and_eq_true, decide_eq_true_eq]
  exact ⟨shape_up (atT_shape p t u 30 h2 h) (by omega), Nat.le_trans (atT_cnt p t u h) h1⟩
theorem same1 (c : Tr) (w : World) (v u : Value) (h : Lies w c v) (k : Lies w c u) : Calls Try.prog 20 #[v, u] w fun e w' => e = .returned (.bool true) ∧ Ext w w' := by
  have := sameTerm_any c w c v u h k
  rw [eqTr_self] at this
  exact this
theorem pa1 {t u x : Tr} {p : List Int} {z : Bool} (h : putV t p u = (x, z)) (w : World) (vt vu : Value) (hT : Lies w t vt) (hU : Lies w u vu) (A : Option Addr) (n cap : Nat) (hp : PFs w A n cap p) (hn : n ≤ 1000) : Calls Try.prog 18 #[vt, .slice A n cap, vu] w fun e w' => ∃ y, e = .returned (.tuple #[y, .bool z]) ∧ Lies w' x y ∧ Ext w w' := by
  have := putAt_any t u p w vt vu hT hU A n cap hp hn
  rw [h] at this
  exact this.mono fun e w' ⟨y, h1, h2, h3⟩ => ⟨y, h1, h2.lies, h3⟩
theorem pa2 {t u x : Tr} {p : List Int} {z : Bool} (h : putV t p u = (x, z)) (w : World) (vt vu : Value) (hT : Lies w t vt) (hU : Lies w u vu) (A : Option Addr) (n cap : Nat) (hp : PFs w A n cap p) (hn : n ≤ 1000) : Calls Try.prog 19 #[vt, .slice A n cap, vu] w fun e w' => ∃ y, e = .returned (.tuple #[y, .bool z]) ∧ Lies w' x y ∧ Ext w w' := by
  have := specPutAt_any t u p w vt vu hT hU A n cap hp hn
  rw [h] at this
  exact this.mono fun e w' ⟨y, h1, h2, h3⟩ => ⟨y, h1, h2.lies, h3⟩
theorem ta1 {t u : Tr} {p : List Int} {z : Bool} (h : atV t p = (u, z)) (w : World) (v : Value) (hin : Lies w t v) (A : Option Addr) (n cap : Nat) (hp : PFs w A n cap p) : Calls Try.prog 14 #[v, .slice A n cap] w fun e w' => ∃ x, e = .returned (.tuple #[x, .bool z]) ∧ Lies w' u x ∧ Ext w w' := by
  obtain ⟨rfl, hl, hc, hP⟩ := hp
  have := termAt_any t p w v hin A cap hl hc hP
  rw [h] at this
  exact this.mono fun e w' ⟨y, h1, h2, h3⟩ => ⟨y, h1, h2.lies, h3⟩
theorem ptFacts {t u x : Tr} {p : List Int} (h : putV t p u = (x, true)) : ∃ (o : Tr) (cx ct co cu : Int), atV x p = (u, true) ∧ atV t p = (o, true) ∧ putV x p o = (t, true) ∧ cntV sigT x = cx ∧ cntV sigT t = ct ∧ cntV sigT o = co ∧ cntV sigT u = cu ∧ cx = ct - co + cu ∧ 0 ≤ ct ∧ ct ≤ 400 ∧ 0 ≤ co ∧ co ≤ 400 ∧ 0 ≤ cu ∧ cu ≤ 400 := by
  unfold putV at h
  split at h
  · rename_i hh
    simp only [Bool.and_eq_true] at hh
    obtain ⟨h1, h2, h3, h4⟩ := hh
    simp only [Prod.mk.injEq, and_true] at h
    subst h
    obtain ⟨o, ho⟩ := Option.isSome_iff_exists.1 h3
    obtain ⟨g1, g2⟩ := atT_putA p t u o ho
    have g3 := cnt_putA p t u o ho
    have h5 := valid_part h1 ho
    have c1 := (cnt_of_valid h1).1
    have c2 := (cnt_of_valid h2).1
    have c3 := (cnt_of_valid h5).1
    refine ⟨o, _, _, _, _, atV_of h4 g1, atV_of h1 ho, ?_, rfl, rfl, rfl, rfl, ?_, ?_, ?_, ?_, ?_, ?_, ?_⟩
    · unfold putV
      rw [g1, g2, h4, h5, h1]
      rfl
    all_goals (unfold cntV; simp only [h1, h2, h4, h5, if_true]; omega)
  · simp at h
set_option maxRecDepth 100000 in
set_option maxHeartbeats 8000000 in
theorem walk (w0 : World) (A : Option Addr) (cap : Nat) (bs : List Int) (hl : bs.length ≤ cap) (hc : cap ≤ maxLen) (hB : Bytes w0 w0.heap.size A bs) :
    Calls Try.prog 4 #[.slice A bs.length cap] w0 fun e w' => e = .returned (.bool true) ∧ Ext w0 w' := by
  have hcc := hc
  unfold maxLen at hcc
  by_cases hn : 1048576 < (bs.length : Int)
  · have d1 : decide (1048576 < (bs.length : Int)) = true := decide_eq_true hn
    go_enter Try.func4, Try.ntmps4
    go_wp2_with fail
    go_ret
    exact ⟨rfl, Ext.refl _⟩
  have d1 : decide (1048576 < (bs.length : Int)) = false := decide_eq_false hn
  go_enter Try.func4, Try.ntmps4
  go_wp2_with fail
  refine (drawPutAt_any w0 A cap bs hl hc hB).mono ?_
  rintro e w1 ⟨⟨k0, m0, ks0⟩, u, x, p, ⟨k5, m5, ks5⟩, y, rfl, hct, hcs, hpl, hL0, hPA, hL5, e1⟩
  have s1 : w0.heap.size ≤ w1.heap.size := e1.size
  obtain ⟨A0, cap0, rfl, hl0, hc0, hK0⟩ := Lies.mk_iff.1 hL0
  obtain ⟨A5, cap5, rfl, hl5, hc5, hK5⟩ := Lies.mk_iff.1 hL5
  obtain ⟨Ap, cp, rfl, hp1, hp2, hNp⟩ := hPA.slice (fun _ h => h)
  obtain ⟨np, hnp⟩ : ∃ n, p.length = n := ⟨_, rfl⟩
  have HPF : PFs w1 Ap np cp p := ⟨hnp, by omega, hp2, hNp⟩
  rw [hnp] at hpl hp1 ⊢
  have hnp9 : np ≤ 1000 := by omega
  clear hnp hNp hPA
  obtain ⟨w2, hw2⟩ : ∃ w2, w2 = w1.alloc (.cells #[.int .i64 k0, .int .i64 m0, .slice A0 ks0.length cap0] 25) := ⟨_, rfl⟩
  have e2 : Ext w1 w2 := hw2 ▸ (Ext.refl w1).alloc _
  have b2 := heap_alloc_new w1 (.cells #[.int .i64 k0, .int .i64 m0, .slice A0 ks0.length cap0] 25)
  rw [← hw2] at b2
  have s2 : w1.heap.size < w2.heap.size := lt_of_blk b2
  obtain ⟨w3, hw3⟩ : ∃ w3, w3 = w2.alloc (.cells #[.int .i64 k5, .int .i64 m5, .slice A5 ks5.length cap5] 25) := ⟨_, rfl⟩
  have e3 : Ext w2 w3 := hw3 ▸ (Ext.refl w2).alloc _
  have b3 := heap_alloc_new w2 (.cells #[.int .i64 k5, .int .i64 m5, .slice A5 ks5.length cap5] 25)
  rw [← hw3] at b3
  have s3 : w2.heap.size < w3.heap.size := lt_of_blk b3
  rw [show w2.heap.size = w1.heap.size + 1 by rw [hw2]; simp] at b3
  go_wp2_with fail
  rw [← hw2]
  rw [← hw3]
  clear hw2 hw3
  obtain ⟨⟨k6, m6, ks6⟩, z, hz⟩ : ∃ x z, putV (.mk k0 m0 ks0) p (.mk k5 m5 ks5) = (x, z) := ⟨_, _, rfl⟩
  have HZ := Lib.hid hz
  clear hz
  have X1_2 : Ext w1 w2 := (Ext.refl w1).trans e2
  have X1_3 : Ext w1 w3 := X1_2.trans e3
  refine (pa1 HZ.out w3 _ _ (hL0.ext X1_3) (hL5.ext X1_3) Ap np cp (HPF.ext X1_3) hnp9).mono ?_
  rintro e w4 ⟨u, rfl, hL6, e4⟩
  have s4 : w3.heap.size ≤ w4.heap.size := e4.size
  obtain ⟨A6, cap6, rfl, hl6, hc6, hK6⟩ := Lies.mk_iff.1 hL6
  obtain ⟨w5, hw5⟩ : ∃ w5, w5 = w4.alloc (.cells #[.int .i64 k6, .int .i64 m6, .slice A6 ks6.length cap6] 25) := ⟨_, rfl⟩
  have e5 : Ext w4 w5 := hw5 ▸ (Ext.refl w4).alloc _
  have b5 := heap_alloc_new w4 (.cells #[.int .i64 k6, .int .i64 m6, .slice A6 ks6.length cap6] 25)
  rw [← hw5] at b5
  have s5 : w4.heap.size < w5.heap.size := lt_of_blk b5
  have ba0_3 := e3.blk b2
  have ba0_4 := e4.blk ba0_3
  obtain ⟨za00, za01, za02, -, -, -⟩ := own3 ba0_4
  have lza0 := lt_of_blk ba0_4
  have ba5_4 := e4.blk b3
  obtain ⟨za50, za51, za52, -, -, -⟩ := own3 ba5_4
  have lza5 := lt_of_blk ba5_4
  go_wp2_with fail
  rw [← hw5]
  clear hw5
  clear za00 za01 za02 lza0 za50 za51 za52 lza5
  have X1_4 : Ext w1 w4 := X1_3.trans e4
  have X1_5 : Ext w1 w5 := X1_4.trans e5
  refine (pa2 HZ.out w5 _ _ (hL0.ext X1_5) (hL5.ext X1_5) Ap np cp (HPF.ext X1_5) hnp9).mono ?_
  rintro e w6 ⟨u, rfl, hL8, e6⟩
  have s6 : w5.heap.size ≤ w6.heap.size := e6.size
  obtain ⟨A8, cap8, rfl, hl8, hc8, hK8⟩ := Lies.mk_iff.1 hL8
  obtain ⟨w7, hw7⟩ : ∃ w7, w7 = w6.alloc (.cells #[.int .i64 k6, .int .i64 m6, .slice A8 ks6.length cap8] 25) := ⟨_, rfl⟩
  have e7 : Ext w6 w7 := hw7 ▸ (Ext.refl w6).alloc _
  have b7 := heap_alloc_new w6 (.cells #[.int .i64 k6, .int .i64 m6, .slice A8 ks6.length cap8] 25)
  rw [← hw7] at b7
  have s7 : w6.heap.size < w7.heap.size := lt_of_blk b7
  have hz1 : (z != z) = false := by simp
  have hz2 : (z == z) = true := by simp
  have ba0_5 := e5.blk ba0_4
  have ba0_6 := e6.blk ba0_5
  obtain ⟨za00, za01, za02, -, -, -⟩ := own3 ba0_6
  have lza0 := lt_of_blk ba0_6
  have ba5_5 := e5.blk ba5_4
  have ba5_6 := e6.blk ba5_5
  obtain ⟨za50, za51, za52, -, -, -⟩ := own3 ba5_6
  have lza5 := lt_of_blk ba5_6
  have ba6_6 := e6.blk b5
  obtain ⟨za60, za61, za62, -, -, -⟩ := own3 ba6_6
  have lza6 := lt_of_blk ba6_6
  go_wp2_with fail
  rw [← hw7]
  clear hw7
  clear za00 za01 za02 lza0 za50 za51 za52 lza5 za60 za61 za62 lza6
  have X4_5 : Ext w4 w5 := (Ext.refl w4).trans e5
  have X4_6 : Ext w4 w6 := X4_5.trans e6
  have X4_7 : Ext w4 w7 := X4_6.trans e7
  have X6_7 : Ext w6 w7 := (Ext.refl w6).trans e7
  refine (same1 _ w7 _ _ (hL6.ext X4_7) (hL8.ext X6_7)).mono ?_
  rintro e w8 ⟨rfl, e8⟩
  have s8 : w7.heap.size ≤ w8.heap.size := e8.size
  cases z with
  | false =>
    have ba0_7 := e7.blk ba0_6
    have ba0_8 := e8.blk ba0_7
    obtain ⟨za00, za01, za02, -, -, -⟩ := own3 ba0_8
    have lza0 := lt_of_blk ba0_8
    have ba5_7 := e7.blk ba5_6
    have ba5_8 := e8.blk ba5_7
    obtain ⟨za50, za51, za52, -, -, -⟩ := own3 ba5_8
    have lza5 := lt_of_blk ba5_8
    have ba6_7 := e7.blk ba6_6
    have ba6_8 := e8.blk ba6_7
    obtain ⟨za60, za61, za62, -, -, -⟩ := own3 ba6_8
    have lza6 := lt_of_blk ba6_8
    have ba8_8 := e8.blk b7
    obtain ⟨za80, za81, za82, -, -, -⟩ := own3 ba8_8
    have lza8 := lt_of_blk ba8_8
    go_wp2_with fail
    clear za00 za01 za02 lza0 za50 za51 za52 lza5 za60 za61 za62 lza6 za80 za81 za82 lza8
    have X4_8 : Ext w4 w8 := X4_7.trans e8
    have X6_8 : Ext w6 w8 := X6_7.trans e8
    refine (same1 _ w8 _ _ (hL6.ext X4_8) (hL8.ext X6_8)).mono ?_
    rintro e w9 ⟨rfl, e9⟩
    have s9 : w8.heap.size ≤ w9.heap.size := e9.size
    have ba0_9 := e9.blk ba0_8
    obtain ⟨za00, za01, za02, -, -, -⟩ := own3 ba0_9
    have lza0 := lt_of_blk ba0_9
    have ba5_9 := e9.blk ba5_8
    obtain ⟨za50, za51, za52, -, -, -⟩ := own3 ba5_9
    have lza5 := lt_of_blk ba5_9
    have ba6_9 := e9.blk ba6_8
    obtain ⟨za60, za61, za62, -, -, -⟩ := own3 ba6_9
    have lza6 := lt_of_blk ba6_9
    have ba8_9 := e9.blk ba8_8
    obtain ⟨za80, za81, za82, -, -, -⟩ := own3 ba8_9
    have lza8 := lt_of_blk ba8_9
    go_wp2_with fail
    clear za00 za01 za02 lza0 za50 za51 za52 lza5 za60 za61 za62 lza6 za80 za81 za82 lza8
    have X0_1 : Ext w0 w1 := (Ext.refl w0).trans e1
    have X0_2 : Ext w0 w2 := X0_1.trans e2
    have X0_3 : Ext w0 w3 := X0_2.trans e3
    have X0_4 : Ext w0 w4 := X0_3.trans e4
    have X0_5 : Ext w0 w5 := X0_4.trans e5
    have X0_6 : Ext w0 w6 := X0_5.trans e6
    have X0_7 : Ext w0 w7 := X0_6.trans e7
    have X0_8 : Ext w0 w8 := X0_7.trans e8
    have X0_9 : Ext w0 w9 := X0_8.trans e9
    go_ret
    exact ⟨rfl, X0_9⟩
  | true =>
    obtain ⟨⟨k12, m12, ks12⟩, cx, ct, co, cu, f1, f2, f3, f4, f5, f6, f7, f8, i1, i2, i3, i4, i5, i6⟩ := ptFacts HZ.out
    have F1 := Lib.hid f1
    have F2 := Lib.hid f2
    have F3 := Lib.hid f3
    have F4 := Lib.hid f4
    have F5 := Lib.hid f5
    have F6 := Lib.hid f6
    have F7 := Lib.hid f7
    have w1a : IntKind.i64.wrap (ct - co) = ct - co := IntWalk.i64_in _ ⟨by omega, by omega⟩
    have w2a : IntKind.i64.wrap (ct - co + cu) = ct - co + cu := IntWalk.i64_in _ ⟨by omega, by omega⟩
    have weq : (cx == ct - co + cu) = true := by rw [f8]; simp
    clear f1 f2 f3 f4 f5 f6 f7 f8 hz1 hz2
    have ba0_7 := e7.blk ba0_6
    have ba0_8 := e8.blk ba0_7
    obtain ⟨za00, za01, za02, -, -, -⟩ := own3 ba0_8
    have lza0 := lt_of_blk ba0_8
    have ba5_7 := e7.blk ba5_6
    have ba5_8 := e8.blk ba5_7
    obtain ⟨za50, za51, za52, -, -, -⟩ := own3 ba5_8
    have lza5 := lt_of_blk ba5_8
    have ba6_7 := e7.blk ba6_6
    have ba6_8 := e8.blk ba6_7
    obtain ⟨za60, za61, za62, -, -, -⟩ := own3 ba6_8
    have lza6 := lt_of_blk ba6_8
    have ba8_8 := e8.blk b7
    obtain ⟨za80, za81, za82, -, -, -⟩ := own3 ba8_8
    have lza8 := lt_of_blk ba8_8
    go_wp2_with fail
    clear za00 za01 za02 lza0 za50 za51 za52 lza5 za60 za61 za62 lza6 za80 za81 za82 lza8
    have X4_8 : Ext w4 w8 := X4_7.trans e8
    have X1_6 : Ext w1 w6 := X1_5.trans e6
    have X1_7 : Ext w1 w7 := X1_6.trans e7
    have X1_8 : Ext w1 w8 := X1_7.trans e8
    refine (ta1 F1.out w8 _ (hL6.ext X4_8) Ap np cp (HPF.ext X1_8)).mono ?_
    rintro e w9 ⟨u, rfl, hL10, e9⟩
    have s9 : w8.heap.size ≤ w9.heap.size := e9.size
    obtain ⟨A10, cap10, rfl, hl10, hc10, hK10⟩ := Lies.mk_iff.1 hL10
    obtain ⟨w10, hw10⟩ : ∃ w10, w10 = w9.alloc (.cells #[.int .i64 k5, .int .i64 m5, .slice A10 ks5.length cap10] 25) := ⟨_, rfl⟩
    have e10 : Ext w9 w10 := hw10 ▸ (Ext.refl w9).alloc _
    have b10 := heap_alloc_new w9 (.cells #[.int .i64 k5, .int .i64 m5, .slice A10 ks5.length cap10] 25)
    rw [← hw10] at b10
    have s10 : w9.heap.size < w10.heap.size := lt_of_blk b10
    have ba0_9 := e9.blk ba0_8
    obtain ⟨za00, za01, za02, -, -, -⟩ := own3 ba0_9
    have lza0 := lt_of_blk ba0_9
    have ba5_9 := e9.blk ba5_8
    obtain ⟨za50, za51, za52, -, -, -⟩ := own3 ba5_9
    have lza5 := lt_of_blk ba5_9
    have ba6_9 := e9.blk ba6_8
    obtain ⟨za60, za61, za62, -, -, -⟩ := own3 ba6_9
    have lza6 := lt_of_blk ba6_9
    have ba8_9 := e9.blk ba8_8
    obtain ⟨za80, za81, za82, -, -, -⟩ := own3 ba8_9
    have lza8 := lt_of_blk ba8_9
    go_wp2_with fail
    rw [← hw10]
    clear hw10
    clear za00 za01 za02 lza0 za50 za51 za52 lza5 za60 za61 za62 lza6 za80 za81 za82 lza8
    have X1_9 : Ext w1 w9 := X1_8.trans e9
    have X1_10 : Ext w1 w10 := X1_9.trans e10
    refine (ta1 F2.out w10 _ (hL0.ext X1_10) Ap np cp (HPF.ext X1_10)).mono ?_
    rintro e w11 ⟨u, rfl, hL12, e11⟩
    have s11 : w10.heap.size ≤ w11.heap.size := e11.size
    obtain ⟨A12, cap12, rfl, hl12, hc12, hK12⟩ := Lies.mk_iff.1 hL12
    obtain ⟨w12, hw12⟩ : ∃ w12, w12 = w11.alloc (.cells #[.int .i64 k12, .int .i64 m12, .slice A12 ks12.length cap12] 25) := ⟨_, rfl⟩
    have e12 : Ext w11 w12 := hw12 ▸ (Ext.refl w11).alloc _
    have b12 := heap_alloc_new w11 (.cells #[.int .i64 k12, .int .i64 m12, .slice A12 ks12.length cap12] 25)
    rw [← hw12] at b12
    have s12 : w11.heap.size < w12.heap.size := lt_of_blk b12
    have ba0_10 := e10.blk ba0_9
    have ba0_11 := e11.blk ba0_10
    obtain ⟨za00, za01, za02, -, -, -⟩ := own3 ba0_11
    have lza0 := lt_of_blk ba0_11
    have ba5_10 := e10.blk ba5_9
    have ba5_11 := e11.blk ba5_10
    obtain ⟨za50, za51, za52, -, -, -⟩ := own3 ba5_11
    have lza5 := lt_of_blk ba5_11
    have ba6_10 := e10.blk ba6_9
    have ba6_11 := e11.blk ba6_10
    obtain ⟨za60, za61, za62, -, -, -⟩ := own3 ba6_11
    have lza6 := lt_of_blk ba6_11
    have ba8_10 := e10.blk ba8_9
    have ba8_11 := e11.blk ba8_10
    obtain ⟨za80, za81, za82, -, -, -⟩ := own3 ba8_11
    have lza8 := lt_of_blk ba8_11
    have ba10_11 := e11.blk b10
    obtain ⟨za100, za101, za102, -, -, -⟩ := own3 ba10_11
    have lza10 := lt_of_blk ba10_11
    go_wp2_with fail
    rw [← hw12]
    clear hw12
    clear za00 za01 za02 lza0 za50 za51 za52 lza5 za60 za61 za62 lza6 za80 za81 za82 lza8 za100 za101 za102 lza10
    have X4_9 : Ext w4 w9 := X4_8.trans e9
    have X4_10 : Ext w4 w10 := X4_9.trans e10
    have X4_11 : Ext w4 w11 := X4_10.trans e11
    have X4_12 : Ext w4 w12 := X4_11.trans e12
    have X11_12 : Ext w11 w12 := (Ext.refl w11).trans e12
    have X1_11 : Ext w1 w11 := X1_10.trans e11
    have X1_12 : Ext w1 w12 := X1_11.trans e12
    refine (pa1 F3.out w12 _ _ (hL6.ext X4_12) (hL12.ext X11_12) Ap np cp (HPF.ext X1_12) hnp9).mono ?_
    rintro e w13 ⟨u, rfl, hL14, e13⟩
    have s13 : w12.heap.size ≤ w13.heap.size := e13.size
    obtain ⟨A14, cap14, rfl, hl14, hc14, hK14⟩ := Lies.mk_iff.1 hL14
    obtain ⟨w14, hw14⟩ : ∃ w14, w14 = w13.alloc (.cells #[.int .i64 k0, .int .i64 m0, .slice A14 ks0.length cap14] 25) := ⟨_, rfl⟩
    have e14 : Ext w13 w14 := hw14 ▸ (Ext.refl w13).alloc _
    have b14 := heap_alloc_new w13 (.cells #[.int .i64 k0, .int .i64 m0, .slice A14 ks0.length cap14] 25)
    rw [← hw14] at b14
    have s14 : w13.heap.size < w14.heap.size := lt_of_blk b14
    have ba0_12 := e12.blk ba0_11
    have ba0_13 := e13.blk ba0_12
    obtain ⟨za00, za01, za02, -, -, -⟩ := own3 ba0_13
    have lza0 := lt_of_blk ba0_13
    have ba5_12 := e12.blk ba5_11
    have ba5_13 := e13.blk ba5_12
    obtain ⟨za50, za51, za52, -, -, -⟩ := own3 ba5_13
    have lza5 := lt_of_blk ba5_13
    have ba6_12 := e12.blk ba6_11
    have ba6_13 := e13.blk ba6_12
    obtain ⟨za60, za61, za62, -, -, -⟩ := own3 ba6_13
    have lza6 := lt_of_blk ba6_13
    have ba8_12 := e12.blk ba8_11
    have ba8_13 := e13.blk ba8_12
    obtain ⟨za80, za81, za82, -, -, -⟩ := own3 ba8_13
    have lza8 := lt_of_blk ba8_13
    have ba10_12 := e12.blk ba10_11
    have ba10_13 := e13.blk ba10_12
    obtain ⟨za100, za101, za102, -, -, -⟩ := own3 ba10_13
    have lza10 := lt_of_blk ba10_13
    have ba12_13 := e13.blk b12
    obtain ⟨za120, za121, za122, -, -, -⟩ := own3 ba12_13
    have lza12 := lt_of_blk ba12_13
    go_wp2_with fail
    rw [← hw14]
    clear hw14
    clear za00 za01 za02 lza0 za50 za51 za52 lza5 za60 za61 za62 lza6 za80 za81 za82 lza8 za100 za101 za102 lza10 za120 za121 za122 lza12
    have X9_10 : Ext w9 w10 := (Ext.refl w9).trans e10
    have X9_11 : Ext w9 w11 := X9_10.trans e11
    have X9_12 : Ext w9 w12 := X9_11.trans e12
    have X9_13 : Ext w9 w13 := X9_12.trans e13
    have X9_14 : Ext w9 w14 := X9_13.trans e14
    have X1_13 : Ext w1 w13 := X1_12.trans e13
    have X1_14 : Ext w1 w14 := X1_13.trans e14
    have X13_14 : Ext w13 w14 := (Ext.refl w13).trans e14
    have X4_13 : Ext w4 w13 := X4_12.trans e13
    have X4_14 : Ext w4 w14 := X4_13.trans e14
    have X11_13 : Ext w11 w13 := X11_12.trans e13
    have X11_14 : Ext w11 w14 := X11_13.trans e14
    have ba0_14 := e14.blk ba0_13
    obtain ⟨za00, za01, za02, -, -, -⟩ := own3 ba0_14
    have lza0 := lt_of_blk ba0_14
    have ba5_14 := e14.blk ba5_13
    obtain ⟨za50, za51, za52, -, -, -⟩ := own3 ba5_14
    have lza5 := lt_of_blk ba5_14
    have ba6_14 := e14.blk ba6_13
    obtain ⟨za60, za61, za62, -, -, -⟩ := own3 ba6_14
    have lza6 := lt_of_blk ba6_14
    have ba10_14 := e14.blk ba10_13
    obtain ⟨za100, za101, za102, -, -, -⟩ := own3 ba10_14
    have lza10 := lt_of_blk ba10_14
    have ba12_14 := e14.blk ba12_13
    obtain ⟨za120, za121, za122, -, -, -⟩ := own3 ba12_14
    have lza12 := lt_of_blk ba12_14
    obtain ⟨za140, za141, za142, -, -, -⟩ := own3 b14
    have lza14 := lt_of_blk b14
    have hkeep : ∀ w', Ext w14 w' → w'.cell? ⟨w1.heap.size, 0, none⟩ = some (.int .i64 k0) ∧ w'.cell? ⟨w1.heap.size, 1, none⟩ = some (.int .i64 m0) ∧ w'.cell? ⟨w1.heap.size, 2, none⟩ = some (.slice A0 ks0.length cap0) ∧ w'.cell? ⟨w1.heap.size + 1, 0, none⟩ = some (.int .i64 k5) ∧ w'.cell? ⟨w1.heap.size + 1, 1, none⟩ = some (.int .i64 m5) ∧ w'.cell? ⟨w1.heap.size + 1, 2, none⟩ = some (.slice A5 ks5.length cap5) ∧ w'.cell? ⟨w4.heap.size, 0, none⟩ = some (.int .i64 k6) ∧ w'.cell? ⟨w4.heap.size, 1, none⟩ = some (.int .i64 m6) ∧ w'.cell? ⟨w4.heap.size, 2, none⟩ = some (.slice A6 ks6.length cap6) ∧ w'.cell? ⟨w9.heap.size, 0, none⟩ = some (.int .i64 k5) ∧ w'.cell? ⟨w9.heap.size, 1, none⟩ = some (.int .i64 m5) ∧ w'.cell? ⟨w9.heap.size, 2, none⟩ = some (.slice A10 ks5.length cap10) ∧ w'.cell? ⟨w11.heap.size, 0, none⟩ = some (.int .i64 k12) ∧ w'.cell? ⟨w11.heap.size, 1, none⟩ = some (.int .i64 m12) ∧ w'.cell? ⟨w11.heap.size, 2, none⟩ = some (.slice A12 ks12.length cap12) ∧ w'.cell? ⟨w13.heap.size, 0, none⟩ = some (.int .i64 k0) ∧ w'.cell? ⟨w13.heap.size, 1, none⟩ = some (.int .i64 m0) ∧ w'.cell? ⟨w13.heap.size, 2, none⟩ = some (.slice A14 ks0.length cap14) := fun w' hk => ⟨hk.cell za00, hk.cell za01, hk.cell za02, hk.cell za50, hk.cell za51, hk.cell za52, hk.cell za60, hk.cell za61, hk.cell za62, hk.cell za100, hk.cell za101, hk.cell za102, hk.cell za120, hk.cell za121, hk.cell za122, hk.cell za140, hk.cell za141, hk.cell za142⟩
    have HKEEP := Lib.hid hkeep
    clear hkeep
    go_region_held3 (fun w' => w'.cell? ⟨w1.heap.size, 0, none⟩ = some (.int .i64 k0) ∧ w'.cell? ⟨w1.heap.size, 1, none⟩ = some (.int .i64 m0) ∧ w'.cell? ⟨w1.heap.size, 2, none⟩ = some (.slice A0 ks0.length cap0) ∧ w'.cell? ⟨w1.heap.size + 1, 0, none⟩ = some (.int .i64 k5) ∧ w'.cell? ⟨w1.heap.size + 1, 1, none⟩ = some (.int .i64 m5) ∧ w'.cell? ⟨w1.heap.size + 1, 2, none⟩ = some (.slice A5 ks5.length cap5) ∧ w'.cell? ⟨w4.heap.size, 0, none⟩ = some (.int .i64 k6) ∧ w'.cell? ⟨w4.heap.size, 1, none⟩ = some (.int .i64 m6) ∧ w'.cell? ⟨w4.heap.size, 2, none⟩ = some (.slice A6 ks6.length cap6) ∧ w'.cell? ⟨w9.heap.size, 0, none⟩ = some (.int .i64 k5) ∧ w'.cell? ⟨w9.heap.size, 1, none⟩ = some (.int .i64 m5) ∧ w'.cell? ⟨w9.heap.size, 2, none⟩ = some (.slice A10 ks5.length cap10) ∧ w'.cell? ⟨w11.heap.size, 0, none⟩ = some (.int .i64 k12) ∧ w'.cell? ⟨w11.heap.size, 1, none⟩ = some (.int .i64 m12) ∧ w'.cell? ⟨w11.heap.size, 2, none⟩ = some (.slice A12 ks12.length cap12) ∧ w'.cell? ⟨w13.heap.size, 0, none⟩ = some (.int .i64 k0) ∧ w'.cell? ⟨w13.heap.size, 1, none⟩ = some (.int .i64 m0) ∧ w'.cell? ⟨w13.heap.size, 2, none⟩ = some (.slice A14 ks0.length cap14))
      (first | exact HKEEP.out _ (((((((Ext.refl w14).drew.trans ed15_0).trans ed15_1).trans ed15_2).trans ed15_3).trans ed15_4).trans ed15_5) | exact HKEEP.out _ ((((((Ext.refl w14).drew.trans ed15_0).trans ed15_1).trans ed15_2).trans ed15_3).trans ed15_4) | exact HKEEP.out _ (((((Ext.refl w14).drew.trans ed15_0).trans ed15_1).trans ed15_2).trans ed15_3) | exact HKEEP.out _ ((((Ext.refl w14).drew.trans ed15_0).trans ed15_1).trans ed15_2) | exact HKEEP.out _ (((Ext.refl w14).drew.trans ed15_0).trans ed15_1) | exact HKEEP.out _ ((Ext.refl w14).drew.trans ed15_0) | exact HKEEP.out _ (Ext.refl w14).drew)
      (first | (go_at_call 20; (with_reducible show Calls _ _ #[.agg #[.int .i64 k5, _, _], .agg #[.int .i64 k5, _, _]] _ _); refine (same1 _ _ _ _ ((hL10.ext X9_14).ext (Ext.refl w14).drew) ((hL5.ext X1_14).ext (Ext.refl w14).drew)).mono ?_; rintro e wd15_0 ⟨rfl, ed15_0⟩) | (go_at_call 20; (with_reducible show Calls _ _ #[.agg #[.int .i64 k0, _, _], .agg #[.int .i64 k0, _, _]] _ _); refine (same1 _ _ _ _ ((hL14.ext X13_14).ext ((Ext.refl w14).drew.trans ed15_0)) ((hL0.ext X1_14).ext ((Ext.refl w14).drew.trans ed15_0))).mono ?_; rintro e wd15_1 ⟨rfl, ed15_1⟩) | (go_at_call 21; (with_reducible show Calls _ _ #[.agg #[.int .i64 k6, _, _]] _ _); refine (countTerm_any (.mk k6 m6 ks6) _ _ ((hL6.ext X4_14).ext (((Ext.refl w14).drew.trans ed15_0).trans ed15_1))).mono ?_; rw [F4.out]; rintro e wd15_2 ⟨rfl, ed15_2⟩) | (go_at_call 21; (with_reducible show Calls _ _ #[.agg #[.int .i64 k0, _, _]] _ _); refine (countTerm_any (.mk k0 m0 ks0) _ _ ((hL0.ext X1_14).ext ((((Ext.refl w14).drew.trans ed15_0).trans ed15_1).trans ed15_2))).mono ?_; rw [F5.out]; rintro e wd15_3 ⟨rfl, ed15_3⟩) | (go_at_call 21; (with_reducible show Calls _ _ #[.agg #[.int .i64 k12, _, _]] _ _); refine (countTerm_any (.mk k12 m12 ks12) _ _ ((hL12.ext X11_14).ext (((((Ext.refl w14).drew.trans ed15_0).trans ed15_1).trans ed15_2).trans ed15_3))).mono ?_; rw [F6.out]; rintro e wd15_4 ⟨rfl, ed15_4⟩) | (go_at_call 21; (with_reducible show Calls _ _ #[.agg #[.int .i64 k5, _, _]] _ _); refine (countTerm_any (.mk k5 m5 ks5) _ _ ((hL5.ext X1_14).ext ((((((Ext.refl w14).drew.trans ed15_0).trans ed15_1).trans ed15_2).trans ed15_3).trans ed15_4))).mono ?_; rw [F7.out]; rintro e wd15_5 ⟨rfl, ed15_5⟩))
    have ed15 := (((((((Ext.refl w14).drew.trans ed15_0).trans ed15_1).trans ed15_2).trans ed15_3).trans ed15_4).trans ed15_5)
    clear HKEEP za00 za01 za02 lza0 za50 za51 za52 lza5 za60 za61 za62 lza6 za100 za101 za102 lza10 za120 za121 za122 lza12 za140 za141 za142 lza14
    have X0_1 : Ext w0 w1 := (Ext.refl w0).trans e1
    have X0_2 : Ext w0 w2 := X0_1.trans e2
    have X0_3 : Ext w0 w3 := X0_2.trans e3
    have X0_4 : Ext w0 w4 := X0_3.trans e4
    have X0_5 : Ext w0 w5 := X0_4.trans e5
    have X0_6 : Ext w0 w6 := X0_5.trans e6
    have X0_7 : Ext w0 w7 := X0_6.trans e7
    have X0_8 : Ext w0 w8 := X0_7.trans e8
    have X0_9 : Ext w0 w9 := X0_8.trans e9
    have X0_10 : Ext w0 w10 := X0_9.trans e10
    have X0_11 : Ext w0 w11 := X0_10.trans e11
    have X0_12 : Ext w0 w12 := X0_11.trans e12
    have X0_13 : Ext w0 w13 := X0_12.trans e13
    have X0_14 : Ext w0 w14 := X0_13.trans e14
    go_wp2_with fail
    go_ret
    exact ⟨rfl, X0_14.trans ed15⟩

set_option maxRecDepth 100000 in
theorem lifted (os : Os) (started : os.Started) (H : Type) (enc : TypeId × Value → H) :
    ReturnsInHanded {} Try.checked os 4 .any (Rows.fnPutAtSpec.pre6 enc Try.prog Try.f4 Rows.fnPutAtRow.domain false) (Rows.fnPutAtSpec.post enc Try.prog Try.f4 false true false false) := by
  refine law_lift (C := Try.checked) (fn := Try.f4) (tb := 4) own started (by kernel_rfl) Try.func4 (by kernel_rfl) (by kernel_rfl) rfl Try.underlying4 rfl
    (fun ds h => by
      match ds, h with
      | [d1], _ => exact ⟨rfl, rfl, rfl⟩)
    (ChangeSpec.witness6 (enc := enc) (C := Try.checked) false ⟨#[], #[.slice none 0 0], []⟩ 8 (by kernel_rfl) (by kernel_rfl) (by kernel_rfl) (by kernel_rfl)) ?_
  intro W base args ds p hval hA hlt
  rw [Try.params4] at hA hval
  obtain ⟨v0, vs0, d0, ds0, p0, q0, hargs, rfl, rfl, h0, r0⟩ := trodAll_cons hA
  obtain ⟨rfl, rfl, rfl⟩ := trodAll_nil r0
  obtain rfl : args = #[v0] := by cases args; simp_all
  obtain ⟨A0, cap0, bs0, rfl, hl0, hc0, ha0⟩ := open_bytes Try.underlying22 Try.underlying5 (by kernel_rfl) (hval 0 22 v0 rfl rfl) h0
  exact walk W A0 cap0 bs0 hl0 hc0 ha0.1

theorem over : Rows.fnPutAtRow.holds Try.pinned (OpenSpec.ofChange Rows.fnPutAtSpec) :=
  OpenClaim.holds_of_wide 4 Try.f4 rfl rfl rfl rfl rfl rfl rfl ⟨rfl, rfl, rfl, rfl, rfl⟩ rfl rfl rfl rfl rfl (by kernel_rfl) Try.func4 (by kernel_rfl)
    (of_decide_eq_true (by kernel_rfl)) (by unfold Func.isWrapper; first | (rw [if_pos (by decide +kernel)]; kernel_rfl) | (rw [if_neg (by decide +kernel)]; exact ⟨rfl, rfl⟩))
    (fun os started H enc _ => lifted os started H enc)

theorem proved : Rows.FnPutAtSaid := over
#print axioms proved
end Go.Proofs.Ytjgdckkeojehoaa.putAtL

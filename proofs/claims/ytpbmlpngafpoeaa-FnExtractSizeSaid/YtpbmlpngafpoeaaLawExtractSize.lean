/-
  PROVED: the law FnExtractSize returns true for every input: extraction shrinks.
  CONDITIONS: none.
-/
import Derived.Test.YtpbmlpngafpoeaaRows
import Derived.Test.YtpbmlpngafpoeaaLift
import Derived.Test.YtpbmlpngafpoeaaDrawEx
import Derived.Test.YtpbmlpngafpoeaaExShape
import Derived.Test.YtpbmlpngafpoeaaSame
import Derived.Test.YtpbmlpngafpoeaaSpExtract
import Derived.Test.YtpbmlpngafpoeaaExtractTop
import Derived.Deep.RegionHeld3
namespace Go.Proofs.Ytpbmlpngafpoeaa.extractSize
open Go.RowKit Go.ChangeShapes Go.WideShapes Go.ChangeAt
set_option linter.unusedVariables false

theorem own : ownKnob Try.prog.godebug = none := by kernel_rfl

theorem ex1 {t c : Tr} {z : Bool} (h : exV t = (c, z)) (w : World) (v : Value) (hin : Lies w t v) : Calls Try.prog 44 #[v] w fun e w' => ∃ u, e = .returned (.tuple #[u, .bool z]) ∧ Lies w' c u ∧ Ext w w' := by
  have := extractTerm_any t w v hin
  rw [h] at this
  exact this.mono fun e w' ⟨u, h1, h2, h3⟩ => ⟨u, h1, h2.lies, h3⟩
theorem ex2 {t c : Tr} {z : Bool} (h : exV t = (c, z)) (w : World) (v : Value) (hin : Lies w t v) : Calls Try.prog 45 #[v] w fun e w' => ∃ u, e = .returned (.tuple #[u, .bool z]) ∧ Lies w' c u ∧ Ext w w' := by
  have := specExtractTerm_any t w v hin
  rw [h] at this
  exact this
theorem cs1 (c : Tr) (w : World) (v u : Value) (h : Lies w c v) (k : Lies w c u) : Calls Try.prog 46 #[v, u] w fun e w' => e = .returned (.bool true) ∧ Ext w w' := by
  have := sameCode_any c w c v u h k
  rw [eqTr_self] at this
  exact this
theorem exFacts {t c : Tr} (h : exV t = (c, true)) : valid sigT t = true ∧ valid sigC c = true ∧ cnt c ≤ cnt t ∧ 0 < cnt c := by
  unfold exV at h
  split at h
  · rename_i hv
    simp only [Prod.mk.injEq, and_true] at h
    subst h
    have hv' := hv
    unfold valid at hv'
    rw [Bool.and_eq_true, decide_eq_true_eq] at hv'
    have hcn := cnt_exT t 30 hv'.1
    refine ⟨hv, ?_, hcn, cnt_pos _⟩
    unfold valid
    rw [Bool.and_eq_true, decide_eq_true_eq]
    exact ⟨exT_shape t 30 hv'.1, by omega⟩
  · simp at h
set_option maxRecDepth 100000 in
set_option maxHeartbeats 4000000 in
theorem walk (w0 : World) (A : Option Addr) (cap : Nat) (bs : List Int) (hl : bs.length ≤ cap) (hc : cap ≤ maxLen) (hB : Bytes w0 w0.heap.size A bs) :
    Calls Try.prog 9 #[.slice A bs.length cap] w0 fun e w' => e = .returned (.bool true) ∧ Ext w0 w' := by
  have hcc := hc
  unfold maxLen at hcc
  by_cases hn : 1048576 < (bs.length : Int)
  · have d1 : decide (1048576 < (bs.length : Int)) = true := decide_eq_true hn
    go_enter Try.func9, Try.ntmps9
    go_wp2_with fail
    go_ret
    exact ⟨rfl, Ext.refl _⟩
  have d1 : decide (1048576 < (bs.length : Int)) = false := decide_eq_false hn
  go_enter Try.func9, Try.ntmps9
  go_wp2_with fail
  refine (drawExtractTerm_any w0 A cap bs hl hc hB).mono ?_
  rintro e w1 ⟨⟨k0, m0, ks0⟩, u, rfl, hL0, e1⟩
  have s1 : w0.heap.size ≤ w1.heap.size := e1.size
  obtain ⟨A0, cap0, rfl, hl0, hc0, hK0⟩ := Lies.mk_iff.1 hL0
  obtain ⟨w2, hw2⟩ : ∃ w2, w2 = w1.alloc (.cells #[.int .i64 k0, .int .i64 m0, .slice A0 ks0.length cap0] 42) := ⟨_, rfl⟩
  have e2 : Ext w1 w2 := hw2 ▸ (Ext.refl w1).alloc _
  have b2 := heap_alloc_new w1 (.cells #[.int .i64 k0, .int .i64 m0, .slice A0 ks0.length cap0] 42)
  rw [← hw2] at b2
  have s2 : w1.heap.size < w2.heap.size := lt_of_blk b2
  go_wp2_with fail
  rw [← hw2]
  clear hw2
  obtain ⟨⟨k1, m1, ks1⟩, z, hcz⟩ : ∃ c z, exV (.mk k0 m0 ks0) = (c, z) := ⟨_, _, rfl⟩
  have HCZ := Lib.hid hcz
  clear hcz
  have X1_2 : Ext w1 w2 := (Ext.refl w1).trans e2
  refine (ex1 HCZ.out w2 _ (hL0.ext X1_2)).mono ?_
  rintro e w3 ⟨u, rfl, hL1, e3⟩
  have s3 : w2.heap.size ≤ w3.heap.size := e3.size
  obtain ⟨A1, cap1, rfl, hl1, hc1, hK1⟩ := Lies.mk_iff.1 hL1
  obtain ⟨w4, hw4⟩ : ∃ w4, w4 = w3.alloc (.cells #[.int .i64 k1, .int .i64 m1, .slice A1 ks1.length cap1] 55) := ⟨_, rfl⟩
  have e4 : Ext w3 w4 := hw4 ▸ (Ext.refl w3).alloc _
  have b4 := heap_alloc_new w3 (.cells #[.int .i64 k1, .int .i64 m1, .slice A1 ks1.length cap1] 55)
  rw [← hw4] at b4
  have s4 : w3.heap.size < w4.heap.size := lt_of_blk b4
  have ba0_3 := e3.blk b2
  obtain ⟨za00, za01, za02, -, -, -⟩ := own3 ba0_3
  have lza0 := lt_of_blk ba0_3
  go_wp2_with fail
  rw [← hw4]
  clear hw4
  clear za00 za01 za02 lza0
  have X1_3 : Ext w1 w3 := X1_2.trans e3
  have X1_4 : Ext w1 w4 := X1_3.trans e4
  refine (ex2 HCZ.out w4 _ (hL0.ext X1_4)).mono ?_
  rintro e w5 ⟨u, rfl, hL2, e5⟩
  have s5 : w4.heap.size ≤ w5.heap.size := e5.size
  obtain ⟨A2, cap2, rfl, hl2, hc2, hK2⟩ := Lies.mk_iff.1 hL2
  obtain ⟨w6, hw6⟩ : ∃ w6, w6 = w5.alloc (.cells #[.int .i64 k1, .int .i64 m1, .slice A2 ks1.length cap2] 55) := ⟨_, rfl⟩
  have e6 : Ext w5 w6 := hw6 ▸ (Ext.refl w5).alloc _
  have b6 := heap_alloc_new w5 (.cells #[.int .i64 k1, .int .i64 m1, .slice A2 ks1.length cap2] 55)
  rw [← hw6] at b6
  have s6 : w5.heap.size < w6.heap.size := lt_of_blk b6
  have hz1 : (z != z) = false := by simp
  have hz2 : (z == z) = true := by simp
  have ba0_4 := e4.blk ba0_3
  have ba0_5 := e5.blk ba0_4
  obtain ⟨za00, za01, za02, -, -, -⟩ := own3 ba0_5
  have lza0 := lt_of_blk ba0_5
  have ba1_5 := e5.blk b4
  obtain ⟨za10, za11, za12, -, -, -⟩ := own3 ba1_5
  have lza1 := lt_of_blk ba1_5
  go_wp2_with fail
  rw [← hw6]
  clear hw6
  clear za00 za01 za02 lza0 za10 za11 za12 lza1
  have X3_4 : Ext w3 w4 := (Ext.refl w3).trans e4
  have X3_5 : Ext w3 w5 := X3_4.trans e5
  have X3_6 : Ext w3 w6 := X3_5.trans e6
  have X5_6 : Ext w5 w6 := (Ext.refl w5).trans e6
  refine (cs1 _ w6 _ _ (hL1.ext X3_6) (hL2.ext X5_6)).mono ?_
  rintro e w7 ⟨rfl, e7⟩
  have s7 : w6.heap.size ≤ w7.heap.size := e7.size
  cases z with
  | false =>
    have ba0_6 := e6.blk ba0_5
    have ba0_7 := e7.blk ba0_6
    obtain ⟨za00, za01, za02, -, -, -⟩ := own3 ba0_7
    have lza0 := lt_of_blk ba0_7
    have ba1_6 := e6.blk ba1_5
    have ba1_7 := e7.blk ba1_6
    obtain ⟨za10, za11, za12, -, -, -⟩ := own3 ba1_7
    have lza1 := lt_of_blk ba1_7
    have ba2_7 := e7.blk b6
    obtain ⟨za20, za21, za22, -, -, -⟩ := own3 ba2_7
    have lza2 := lt_of_blk ba2_7
    go_wp2_with fail
    clear za00 za01 za02 lza0 za10 za11 za12 lza1 za20 za21 za22 lza2
    have X3_7 : Ext w3 w7 := X3_6.trans e7
    have X5_7 : Ext w5 w7 := X5_6.trans e7
    refine (cs1 _ w7 _ _ (hL1.ext X3_7) (hL2.ext X5_7)).mono ?_
    rintro e w8 ⟨rfl, e8⟩
    have s8 : w7.heap.size ≤ w8.heap.size := e8.size
    have ba0_8 := e8.blk ba0_7
    obtain ⟨za00, za01, za02, -, -, -⟩ := own3 ba0_8
    have lza0 := lt_of_blk ba0_8
    have ba1_8 := e8.blk ba1_7
    obtain ⟨za10, za11, za12, -, -, -⟩ := own3 ba1_8
    have lza1 := lt_of_blk ba1_8
    have ba2_8 := e8.blk ba2_7
    obtain ⟨za20, za21, za22, -, -, -⟩ := own3 ba2_8
    have lza2 := lt_of_blk ba2_8
    go_wp2_with fail
    clear za00 za01 za02 lza0 za10 za11 za12 lza1 za20 za21 za22 lza2
    have X0_1 : Ext w0 w1 := (Ext.refl w0).trans e1
    have X0_2 : Ext w0 w2 := X0_1.trans e2
    have X0_3 : Ext w0 w3 := X0_2.trans e3
    have X0_4 : Ext w0 w4 := X0_3.trans e4
    have X0_5 : Ext w0 w5 := X0_4.trans e5
    have X0_6 : Ext w0 w6 := X0_5.trans e6
    have X0_7 : Ext w0 w7 := X0_6.trans e7
    have X0_8 : Ext w0 w8 := X0_7.trans e8
    go_ret
    exact ⟨rfl, X0_8⟩
  | true =>
    obtain ⟨hvt, hvc, hnc, hn0⟩ := exFacts HCZ.out
    have hct : cntV sigT (.mk k0 m0 ks0) = (cnt (.mk k0 m0 ks0) : Int) := by unfold cntV; rw [if_pos hvt]
    have hcc' : cntV sigC (.mk k1 m1 ks1) = (cnt (.mk k1 m1 ks1) : Int) := by unfold cntV; rw [if_pos hvc]
    have hnc2 : (cnt (.mk k1 m1 ks1) : Int) ≤ (cnt (.mk k0 m0 ks0) : Int) := by omega
    have hn2 : (0 : Int) < (cnt (.mk k1 m1 ks1) : Int) := by omega
    clear hnc hn0
    obtain ⟨nt, hnt⟩ : ∃ n : Int, (cnt (.mk k0 m0 ks0) : Int) = n := ⟨_, rfl⟩
    obtain ⟨nc, hnc'⟩ : ∃ n : Int, (cnt (.mk k1 m1 ks1) : Int) = n := ⟨_, rfl⟩
    rw [hnt] at hct
    rw [hnc'] at hcc'
    rw [hnt, hnc'] at hnc2
    rw [hnc'] at hn2
    have dd1 : decide (nc ≤ nt) = true := decide_eq_true hnc2
    have dd2 : decide (0 < nc) = true := decide_eq_true hn2
    have HV := Lib.hid hvc
    have HCT := Lib.hid hct
    have HCC := Lib.hid hcc'
    clear hvt hvc hct hcc' hnt hnc'
    have ba0_6 := e6.blk ba0_5
    have ba0_7 := e7.blk ba0_6
    obtain ⟨za00, za01, za02, -, -, -⟩ := own3 ba0_7
    have lza0 := lt_of_blk ba0_7
    have ba1_6 := e6.blk ba1_5
    have ba1_7 := e7.blk ba1_6
    obtain ⟨za10, za11, za12, -, -, -⟩ := own3 ba1_7
    have lza1 := lt_of_blk ba1_7
    have ba2_7 := e7.blk b6
    obtain ⟨za20, za21, za22, -, -, -⟩ := own3 ba2_7
    have lza2 := lt_of_blk ba2_7
    go_wp2_with fail
    clear za00 za01 za02 lza0 za10 za11 za12 lza1 za20 za21 za22 lza2
    have X1_5 : Ext w1 w5 := X1_4.trans e5
    have X1_6 : Ext w1 w6 := X1_5.trans e6
    have X1_7 : Ext w1 w7 := X1_6.trans e7
    have X3_7 : Ext w3 w7 := X3_6.trans e7
    obtain ⟨za00, za01, za02, -, -, -⟩ := own3 ba0_7
    have lza0 := lt_of_blk ba0_7
    obtain ⟨za10, za11, za12, -, -, -⟩ := own3 ba1_7
    have lza1 := lt_of_blk ba1_7
    obtain ⟨za20, za21, za22, -, -, -⟩ := own3 ba2_7
    have lza2 := lt_of_blk ba2_7
    have hkeep : ∀ w', Ext w7 w' → w'.cell? ⟨w1.heap.size, 0, none⟩ = some (.int .i64 k0) ∧ w'.cell? ⟨w1.heap.size, 1, none⟩ = some (.int .i64 m0) ∧ w'.cell? ⟨w1.heap.size, 2, none⟩ = some (.slice A0 ks0.length cap0) ∧ w'.cell? ⟨w3.heap.size, 0, none⟩ = some (.int .i64 k1) ∧ w'.cell? ⟨w3.heap.size, 1, none⟩ = some (.int .i64 m1) ∧ w'.cell? ⟨w3.heap.size, 2, none⟩ = some (.slice A1 ks1.length cap1) ∧ w'.cell? ⟨w5.heap.size, 0, none⟩ = some (.int .i64 k1) ∧ w'.cell? ⟨w5.heap.size, 1, none⟩ = some (.int .i64 m1) ∧ w'.cell? ⟨w5.heap.size, 2, none⟩ = some (.slice A2 ks1.length cap2) := fun w' hk => ⟨hk.cell za00, hk.cell za01, hk.cell za02, hk.cell za10, hk.cell za11, hk.cell za12, hk.cell za20, hk.cell za21, hk.cell za22⟩
    have HKEEP := Lib.hid hkeep
    clear hkeep
    go_region_held3 (fun w' => w'.cell? ⟨w1.heap.size, 0, none⟩ = some (.int .i64 k0) ∧ w'.cell? ⟨w1.heap.size, 1, none⟩ = some (.int .i64 m0) ∧ w'.cell? ⟨w1.heap.size, 2, none⟩ = some (.slice A0 ks0.length cap0) ∧ w'.cell? ⟨w3.heap.size, 0, none⟩ = some (.int .i64 k1) ∧ w'.cell? ⟨w3.heap.size, 1, none⟩ = some (.int .i64 m1) ∧ w'.cell? ⟨w3.heap.size, 2, none⟩ = some (.slice A1 ks1.length cap1) ∧ w'.cell? ⟨w5.heap.size, 0, none⟩ = some (.int .i64 k1) ∧ w'.cell? ⟨w5.heap.size, 1, none⟩ = some (.int .i64 m1) ∧ w'.cell? ⟨w5.heap.size, 2, none⟩ = some (.slice A2 ks1.length cap2))
      (first | exact HKEEP.out _ (((((Ext.refl w7).drew.trans ed8_0).trans ed8_1).trans ed8_2).trans ed8_3) | exact HKEEP.out _ ((((Ext.refl w7).drew.trans ed8_0).trans ed8_1).trans ed8_2) | exact HKEEP.out _ (((Ext.refl w7).drew.trans ed8_0).trans ed8_1) | exact HKEEP.out _ ((Ext.refl w7).drew.trans ed8_0) | exact HKEEP.out _ (Ext.refl w7).drew)
      (first | (go_at_call 47; refine (validCode_any (.mk k1 m1 ks1) _ _ ((hL1.ext X3_7).ext (Ext.refl w7).drew)).mono ?_; rw [HV.out]; rintro e wd8_0 ⟨rfl, ed8_0⟩) | (go_at_call 48; refine (countCode_any (.mk k1 m1 ks1) _ _ ((hL1.ext X3_7).ext ((Ext.refl w7).drew.trans ed8_0))).mono ?_; rw [HCC.out]; rintro e wd8_1 ⟨rfl, ed8_1⟩) | (go_at_call 49; refine (countTerm_any (.mk k0 m0 ks0) _ _ ((hL0.ext X1_7).ext (((Ext.refl w7).drew.trans ed8_0).trans ed8_1))).mono ?_; rw [HCT.out]; rintro e wd8_2 ⟨rfl, ed8_2⟩) | (go_at_call 48; refine (countCode_any (.mk k1 m1 ks1) _ _ ((hL1.ext X3_7).ext ((((Ext.refl w7).drew.trans ed8_0).trans ed8_1).trans ed8_2))).mono ?_; rw [HCC.out]; rintro e wd8_3 ⟨rfl, ed8_3⟩))
    have ed8 := (((((Ext.refl w7).drew.trans ed8_0).trans ed8_1).trans ed8_2).trans ed8_3)
    clear HKEEP za00 za01 za02 lza0 za10 za11 za12 lza1 za20 za21 za22 lza2
    have X0_1 : Ext w0 w1 := (Ext.refl w0).trans e1
    have X0_2 : Ext w0 w2 := X0_1.trans e2
    have X0_3 : Ext w0 w3 := X0_2.trans e3
    have X0_4 : Ext w0 w4 := X0_3.trans e4
    have X0_5 : Ext w0 w5 := X0_4.trans e5
    have X0_6 : Ext w0 w6 := X0_5.trans e6
    have X0_7 : Ext w0 w7 := X0_6.trans e7
    go_wp2_with fail
    go_ret
    exact ⟨rfl, X0_7.trans ed8⟩

set_option maxRecDepth 100000 in
theorem lifted (os : Os) (started : os.Started) (H : Type) (enc : TypeId × Value → H) :
    ReturnsInHanded {} Try.checked os 9 .any (Rows.fnExtractSizeSpec.pre6 enc Try.prog Try.f9 Rows.fnExtractSizeRow.domain false) (Rows.fnExtractSizeSpec.post enc Try.prog Try.f9 false true false false) := by
  refine law_lift (C := Try.checked) (fn := Try.f9) (tb := 4) own started (by kernel_rfl) Try.func9 (by kernel_rfl) (by kernel_rfl) rfl Try.underlying4 rfl
    (fun ds h => by
      match ds, h with
      | [d1], _ => exact ⟨rfl, rfl, rfl⟩)
    (ChangeSpec.witness6 (enc := enc) (C := Try.checked) false ⟨#[], #[.slice none 0 0], []⟩ 8 (by kernel_rfl) (by kernel_rfl) (by kernel_rfl) (by kernel_rfl)) ?_
  intro W base args ds p hval hA hlt
  rw [Try.params9] at hA hval
  obtain ⟨v0, vs0, d0, ds0, p0, q0, hargs, rfl, rfl, h0, r0⟩ := trodAll_cons hA
  obtain ⟨rfl, rfl, rfl⟩ := trodAll_nil r0
  obtain rfl : args = #[v0] := by cases args; simp_all
  obtain ⟨A0, cap0, bs0, rfl, hl0, hc0, ha0⟩ := open_bytes Try.underlying64 Try.underlying5 (by kernel_rfl) (hval 0 64 v0 rfl rfl) h0
  exact walk W A0 cap0 bs0 hl0 hc0 ha0.1

theorem over : Rows.fnExtractSizeRow.holds Try.pinned (OpenSpec.ofChange Rows.fnExtractSizeSpec) :=
  OpenClaim.holds_of_wide 9 Try.f9 rfl rfl rfl rfl rfl rfl rfl ⟨rfl, rfl, rfl, rfl, rfl⟩ rfl rfl rfl rfl rfl (by kernel_rfl) Try.func9 (by kernel_rfl)
    (of_decide_eq_true (by kernel_rfl)) (by unfold Func.isWrapper; first | (rw [if_pos (by decide +kernel)]; kernel_rfl) | (rw [if_neg (by decide +kernel)]; exact ⟨rfl, rfl⟩))
    (fun os started H enc _ => lifted os started H enc)

theorem proved : Rows.FnExtractSizeSaid := over
#print axioms proved
end Go.Proofs.Ytpbmlpngafpoeaa.extractSize

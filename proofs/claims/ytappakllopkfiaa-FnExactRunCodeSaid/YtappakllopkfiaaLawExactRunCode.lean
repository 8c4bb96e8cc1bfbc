/-
  PROVED: the law FnExactRunCode returns true for every input: the program's RunCode returns what the reference's returns.
  CONDITIONS: none.
-/
import Derived.Test.YtappakllopkfiaaRows
import Derived.Test.YtappakllopkfiaaLift
import Derived.Test.YtappakllopkfiaaRunS
import Derived.Test.YtappakllopkfiaaRunP
import Derived.Test.YtappakllopkfiaaExShape
import Derived.Test.YtappakllopkfiaaTo
import Derived.Test.YtappakllopkfiaaSz
import Derived.Test.YtappakllopkfiaaEq
import Derived.Test.YtappakllopkfiaaMark
import Derived.Deep.RegionHeld3
namespace Go.Proofs.Ytappakllopkfiaa.exRunCode
open Go.RowKit Go.ChangeShapes Go.WideShapes Go.ChangeAt
set_option linter.unusedVariables false

theorem own : ownKnob Try.prog.godebug = none := by kernel_rfl
theorem tyCode : TreeTy Try.prog 24 22 3 (fld "Kind" 3 0 0) (fld "N" 3 1 8) (fld "Kids" 22 2 16) := ⟨Try.underlying24, Try.underlying22, Try.underlying3, rfl, rfl, rfl, rfl, rfl, rfl, by kernel_rfl, by kernel_rfl, by kernel_rfl⟩

theorem runC_cnt : ∀ (f : Nat) (c : Tr), valid sigC c = true → cnt (runC f c).1 ≤ 400
  | 0, c, h => by
    unfold runC
    split
    · exact (valid_parts h).2
    · split <;> simp [dflt, cnt, cnts]
  | f + 1, c, h => by
    unfold runC
    split
    · exact (valid_parts h).2
    · split
      · simp [dflt, cnt, cnts]
      · split
        · rename_i h2
          exact runC_cnt f _ h2
        · simp [dflt, cnt, cnts]
theorem runV_cnt (c : Tr) (f : Int) : cnt (runV c f).1 ≤ 400 := by
  unfold runV
  split
  · rename_i h
    simp only [Bool.and_eq_true] at h
    exact runC_cnt _ _ h.1.1
  · simp [dflt, cnt, cnts]
set_option maxRecDepth 100000 in
set_option maxHeartbeats 4000000 in
theorem walk (w0 : World) (t0 : Tr) (v0 : Value) (ha0 : Lies w0 t0 v0) (x1 : Int) (wf1 : (Lit.int .i64 x1).wf = true) :
    Calls Try.prog 3 #[v0, .int .i64 x1] w0 fun e w' => e = .returned (.bool true) ∧ Ext w0 w' := by
  obtain ⟨k0, m0, ks0⟩ := t0
  obtain ⟨A0, cap0, rfl, hl0, hc0, hK0⟩ := Lies.mk_iff.1 ha0
  have hcc0 := hc0
  unfold maxLen at hcc0
  go_enter Try.func3, Try.ntmps3
  obtain ⟨w1, hw1⟩ : ∃ w1, w1 = w0.alloc (.cells #[.int .i64 k0, .int .i64 m0, .slice A0 ks0.length cap0] 24) := ⟨_, rfl⟩
  have e1 : Ext w0 w1 := hw1 ▸ (Ext.refl w0).alloc _
  have b1 := heap_alloc_new w0 (.cells #[.int .i64 k0, .int .i64 m0, .slice A0 ks0.length cap0] 24)
  rw [← hw1] at b1
  have s1 : w0.heap.size < w1.heap.size := lt_of_blk b1
  go_wp2_with fail
  rw [← hw1]
  clear hw1
  have X0_1 : Ext w0 w1 := (Ext.refl w0).trans e1
  refine (szCode_any (.mk k0 m0 ks0) w1 _ _ 1048576 (fun _ h => h) (ha0.ext X0_1) (by omega) (by omega)).mono ?_
  rintro e w2 ⟨rfl, e2'⟩
  have e2 : Ext w1 w2 := e2'
  clear e2'
  have s2 : w1.heap.size ≤ w2.heap.size := e2.size
  have hz0 := szT_le (.mk k0 m0 ks0) 1048576 (by omega)
  have hf0 := szT_le_cnt (t := .mk k0 m0 ks0) (left := 1048576) (by omega)
  simp only [Tr.kids] at hf0
  generalize szT (.mk k0 m0 ks0) 1048576 = q0 at hz0 hf0
  by_cases hq0 : q0 < 0
  · have hd : decide (q0 < 0) = true := decide_eq_true hq0
    have ba0_2 := e2.blk b1
    obtain ⟨za00, za01, za02, -, -, -⟩ := own3 ba0_2
    have lza0 := lt_of_blk ba0_2
    go_wp2_with fail
    clear za00 za01 za02 lza0
    have X0_2 : Ext w0 w2 := X0_1.trans e2
    go_ret
    exact ⟨rfl, X0_2⟩
  have hd0 : decide (q0 < 0) = false := decide_eq_false hq0
  replace hf0 := hf0 hq0
  obtain ⟨R, hR⟩ : ∃ r, r = runV (.mk k0 m0 ks0) x1 := ⟨_, rfl⟩
  have hcnt := runV_cnt (.mk k0 m0 ks0) x1
  have HS := fun W vv (h4 : Lies W (.mk k0 m0 ks0) vv) => specRunCode_any (.mk k0 m0 ks0) x1 W vv h4
  have HI := fun W vv (h4 : Lies W (.mk k0 m0 ks0) vv) => runCode_any (.mk k0 m0 ks0) x1 W vv h4
  rw [← hR] at HS HI hcnt
  have HS := Lib.hid HS
  have HI := Lib.hid HI
  clear hR
  obtain ⟨⟨kr0, mr0, rs0⟩, br1⟩ := R
  simp only [cnt] at hcnt
  -- the reference's answer
  have ba0_2 := e2.blk b1
  obtain ⟨za00, za01, za02, -, -, -⟩ := own3 ba0_2
  have lza0 := lt_of_blk ba0_2
  go_wp2_with fail
  clear za00 za01 za02 lza0
  have X0_2 : Ext w0 w2 := X0_1.trans e2
  refine (toCode_any (.mk k0 m0 ks0) w2 _ (ha0.ext X0_2) (by simp only [cnt]; omega)).mono ?_
  rintro e w3 ⟨u, rfl, hMs0, e3⟩
  have s3 : w2.heap.size ≤ w3.heap.size := e3.size
  obtain ⟨Bs0, cs0, rfl, hls0, hcs0, hMKs0⟩ := Made.mk_iff.1 hMs0
  have ba0_3 := e3.blk ba0_2
  obtain ⟨za00, za01, za02, -, -, -⟩ := own3 ba0_3
  have lza0 := lt_of_blk ba0_3
  go_wp2_with fail
  clear za00 za01 za02 lza0
  refine (HS.out w3 _ (hMs0.lies.ext (Ext.refl w3))).mono ?_
  rintro e w4 ⟨u, rfl, hMw0, e4⟩
  have s4 : w3.heap.size ≤ w4.heap.size := e4.size
  obtain ⟨Bw0, cw0, rfl, hlw0, hcw0, hKw0⟩ := Lies.mk_iff.1 hMw0
  obtain ⟨w5, hw5⟩ : ∃ w5, w5 = w4.alloc (.cells #[.int .i64 kr0, .int .i64 mr0, .slice Bw0 rs0.length cw0] 28) := ⟨_, rfl⟩
  have e5 : Ext w4 w5 := hw5 ▸ (Ext.refl w4).alloc _
  have b5 := heap_alloc_new w4 (.cells #[.int .i64 kr0, .int .i64 mr0, .slice Bw0 rs0.length cw0] 28)
  rw [← hw5] at b5
  have s5 : w4.heap.size < w5.heap.size := lt_of_blk b5
  have ba0_4 := e4.blk ba0_3
  obtain ⟨za00, za01, za02, -, -, -⟩ := own3 ba0_4
  have lza0 := lt_of_blk ba0_4
  go_wp2_with fail
  rw [← hw5]
  clear hw5
  clear za00 za01 za02 lza0
  have X0_3 : Ext w0 w3 := X0_2.trans e3
  have X0_4 : Ext w0 w4 := X0_3.trans e4
  have X0_5 : Ext w0 w5 := X0_4.trans e5
  refine (toCode_any (.mk k0 m0 ks0) w5 _ (ha0.ext X0_5) (by simp only [cnt]; omega)).mono ?_
  rintro e w6 ⟨u, rfl, hMp0, e6⟩
  have s6 : w5.heap.size ≤ w6.heap.size := e6.size
  obtain ⟨Bp0, cp0, rfl, hlp0, hcp0, hMKp0⟩ := Made.mk_iff.1 hMp0
  obtain ⟨Lp0, hOp0, hFp0⟩ := hMKp0
  obtain ⟨w7, hw7⟩ : ∃ w7, w7 = w6.alloc (.cells #[.int .i64 k0, .int .i64 m0, .slice Bp0 ks0.length cp0] 28) := ⟨_, rfl⟩
  have e7 : Ext w6 w7 := hw7 ▸ (Ext.refl w6).alloc _
  have b7 := heap_alloc_new w6 (.cells #[.int .i64 k0, .int .i64 m0, .slice Bp0 ks0.length cp0] 28)
  rw [← hw7] at b7
  have s7 : w6.heap.size < w7.heap.size := lt_of_blk b7
  have ba0_5 := e5.blk ba0_4
  have ba0_6 := e6.blk ba0_5
  obtain ⟨za00, za01, za02, -, -, -⟩ := own3 ba0_6
  have lza0 := lt_of_blk ba0_6
  have bw0_6 := e6.blk b5
  obtain ⟨zw00, zw01, zw02, -, -, -⟩ := own3 bw0_6
  have lzw0 := lt_of_blk bw0_6
  go_wp2_with fail
  rw [← hw7]
  clear hw7
  clear za00 za01 za02 lza0 zw00 zw01 zw02 lzw0
  -- the program's answer
  have op0_7 := hOp0.mono (fun x hx => e7.heap x (by have := (hFp0.2 x hx).2; omega))
  refine (HI.out w7 _ (Lies.mk (k := k0) (n := m0) hlp0 hcp0 (MadeK.lies ⟨Lp0, op0_7, hFp0.mono (Nat.le_refl _) (by omega)⟩))).mono ?_
  rintro e w8 ⟨u, rfl, hMg0, e8⟩
  have s8 : w7.heap.size ≤ w8.heap.size := e8.size
  obtain ⟨Bg0, cg0, rfl, hlg0, hcg0, hKg0⟩ := Made.mk_iff.1 hMg0
  obtain ⟨Lg0, hOg0, hFg0⟩ := hKg0
  obtain ⟨w9, hw9⟩ : ∃ w9, w9 = w8.alloc (.cells #[.int .i64 kr0, .int .i64 mr0, .slice Bg0 rs0.length cg0] 28) := ⟨_, rfl⟩
  have e9 : Ext w8 w9 := hw9 ▸ (Ext.refl w8).alloc _
  have b9 := heap_alloc_new w8 (.cells #[.int .i64 kr0, .int .i64 mr0, .slice Bg0 rs0.length cg0] 28)
  rw [← hw9] at b9
  have s9 : w8.heap.size < w9.heap.size := lt_of_blk b9
  have hbb1 : (br1 != br1) = false := by simp
  have ba0_7 := e7.blk ba0_6
  have ba0_8 := e8.blk ba0_7
  obtain ⟨za00, za01, za02, -, -, -⟩ := own3 ba0_8
  have lza0 := lt_of_blk ba0_8
  have bw0_7 := e7.blk bw0_6
  have bw0_8 := e8.blk bw0_7
  obtain ⟨zw00, zw01, zw02, -, -, -⟩ := own3 bw0_8
  have lzw0 := lt_of_blk bw0_8
  have bp0_8 := e8.blk b7
  obtain ⟨zp00, zp01, zp02, -, -, -⟩ := own3 bp0_8
  have lzp0 := lt_of_blk bp0_8
  go_wp2_with fail
  rw [← hw9]
  clear hw9
  clear za00 za01 za02 lza0 zw00 zw01 zw02 lzw0 zp00 zp01 zp02 lzp0
  have og0_9 := hOg0.mono (fun x hx => e9.heap x (by have := (hFg0.2 x hx).2; omega))
  have X4_5 : Ext w4 w5 := (Ext.refl w4).trans e5
  have X4_6 : Ext w4 w6 := X4_5.trans e6
  have X4_7 : Ext w4 w7 := X4_6.trans e7
  have X4_8 : Ext w4 w8 := X4_7.trans e8
  have X4_9 : Ext w4 w9 := X4_8.trans e9
  refine (eqCode_any (.mk kr0 mr0 rs0) w9 (.mk kr0 mr0 rs0) _ _ (Lies.mk (k := kr0) (n := mr0) hlg0 hcg0 (MadeK.lies ⟨Lg0, og0_9, hFg0.mono (Nat.le_refl _) (by omega)⟩)) (hMw0.ext X4_9)).mono ?_
  rw [eqTr_self]
  rintro e w10 ⟨rfl, e10⟩
  have s10 : w9.heap.size ≤ w10.heap.size := e10.size
  have ba0_9 := e9.blk ba0_8
  have ba0_10 := e10.blk ba0_9
  obtain ⟨za00, za01, za02, -, -, -⟩ := own3 ba0_10
  have lza0 := lt_of_blk ba0_10
  have bw0_9 := e9.blk bw0_8
  have bw0_10 := e10.blk bw0_9
  obtain ⟨zw00, zw01, zw02, -, -, -⟩ := own3 bw0_10
  have lzw0 := lt_of_blk bw0_10
  have bp0_9 := e9.blk bp0_8
  have bp0_10 := e10.blk bp0_9
  obtain ⟨zp00, zp01, zp02, -, -, -⟩ := own3 bp0_10
  have lzp0 := lt_of_blk bp0_10
  have bg0_10 := e10.blk b9
  obtain ⟨zg00, zg01, zg02, -, -, -⟩ := own3 bg0_10
  have lzg0 := lt_of_blk bg0_10
  go_wp2_with fail
  clear za00 za01 za02 lza0 zw00 zw01 zw02 lzw0 zp00 zp01 zp02 lzp0 zg00 zg01 zg02 lzg0
  -- the arguments are as they were
  have op0_8 := op0_7.mono (fun x hx => e8.heap x (by have := (hFp0.2 x hx).2; omega))
  have op0_9 := op0_8.mono (fun x hx => e9.heap x (by have := (hFp0.2 x hx).2; omega))
  have op0_10 := op0_9.mono (fun x hx => e10.heap x (by have := (hFp0.2 x hx).2; omega))
  have X0_6 : Ext w0 w6 := X0_5.trans e6
  have X0_7 : Ext w0 w7 := X0_6.trans e7
  have X0_8 : Ext w0 w8 := X0_7.trans e8
  have X0_9 : Ext w0 w9 := X0_8.trans e9
  have X0_10 : Ext w0 w10 := X0_9.trans e10
  obtain ⟨za00, za01, za02, -, -, -⟩ := own3 ba0_10
  have lza0 := lt_of_blk ba0_10
  obtain ⟨zw00, zw01, zw02, -, -, -⟩ := own3 bw0_10
  have lzw0 := lt_of_blk bw0_10
  obtain ⟨zp00, zp01, zp02, -, -, -⟩ := own3 bp0_10
  have lzp0 := lt_of_blk bp0_10
  obtain ⟨zg00, zg01, zg02, -, -, -⟩ := own3 bg0_10
  have lzg0 := lt_of_blk bg0_10
  have hkeep : ∀ w', Ext w10 w' → w'.cell? ⟨w0.heap.size, 0, none⟩ = some (.int .i64 k0) ∧ w'.cell? ⟨w0.heap.size, 1, none⟩ = some (.int .i64 m0) ∧ w'.cell? ⟨w0.heap.size, 2, none⟩ = some (.slice A0 ks0.length cap0) ∧ w'.cell? ⟨w4.heap.size, 0, none⟩ = some (.int .i64 kr0) ∧ w'.cell? ⟨w4.heap.size, 1, none⟩ = some (.int .i64 mr0) ∧ w'.cell? ⟨w4.heap.size, 2, none⟩ = some (.slice Bw0 rs0.length cw0) ∧ w'.cell? ⟨w6.heap.size, 0, none⟩ = some (.int .i64 k0) ∧ w'.cell? ⟨w6.heap.size, 1, none⟩ = some (.int .i64 m0) ∧ w'.cell? ⟨w6.heap.size, 2, none⟩ = some (.slice Bp0 ks0.length cp0) ∧ w'.cell? ⟨w8.heap.size, 0, none⟩ = some (.int .i64 kr0) ∧ w'.cell? ⟨w8.heap.size, 1, none⟩ = some (.int .i64 mr0) ∧ w'.cell? ⟨w8.heap.size, 2, none⟩ = some (.slice Bg0 rs0.length cg0) := fun w' hk => ⟨hk.cell za00, hk.cell za01, hk.cell za02, hk.cell zw00, hk.cell zw01, hk.cell zw02, hk.cell zp00, hk.cell zp01, hk.cell zp02, hk.cell zg00, hk.cell zg01, hk.cell zg02⟩
  have HKEEP := Lib.hid hkeep
  clear hkeep
  go_region_held3 (fun w' => w'.cell? ⟨w0.heap.size, 0, none⟩ = some (.int .i64 k0) ∧ w'.cell? ⟨w0.heap.size, 1, none⟩ = some (.int .i64 m0) ∧ w'.cell? ⟨w0.heap.size, 2, none⟩ = some (.slice A0 ks0.length cap0) ∧ w'.cell? ⟨w4.heap.size, 0, none⟩ = some (.int .i64 kr0) ∧ w'.cell? ⟨w4.heap.size, 1, none⟩ = some (.int .i64 mr0) ∧ w'.cell? ⟨w4.heap.size, 2, none⟩ = some (.slice Bw0 rs0.length cw0) ∧ w'.cell? ⟨w6.heap.size, 0, none⟩ = some (.int .i64 k0) ∧ w'.cell? ⟨w6.heap.size, 1, none⟩ = some (.int .i64 m0) ∧ w'.cell? ⟨w6.heap.size, 2, none⟩ = some (.slice Bp0 ks0.length cp0) ∧ w'.cell? ⟨w8.heap.size, 0, none⟩ = some (.int .i64 kr0) ∧ w'.cell? ⟨w8.heap.size, 1, none⟩ = some (.int .i64 mr0) ∧ w'.cell? ⟨w8.heap.size, 2, none⟩ = some (.slice Bg0 rs0.length cg0))
    (first | exact HKEEP.out _ (((Ext.refl w10).drew.trans ed11_0).trans ed11_1) | exact HKEEP.out _ ((Ext.refl w10).drew.trans ed11_0) | exact HKEEP.out _ (Ext.refl w10).drew)
    (first | (go_at_call 16; refine (toCode_any (.mk k0 m0 ks0) _ _ (ha0.ext (X0_10.trans (Ext.refl w10).drew)) (by simp only [cnt]; omega)).mono ?_; rintro e wd11_0 ⟨u, rfl, hMc0, ed11_0⟩) | (go_at_call 18; refine (eqCode_any (.mk k0 m0 ks0) _ (.mk k0 m0 ks0) _ _ ((Lies.mk (k := k0) (n := m0) hlp0 hcp0 (MadeK.lies ⟨Lp0, op0_10, hFp0.mono (Nat.le_refl _) (by omega)⟩)).ext ((Ext.refl w10).drew.trans ed11_0)) hMc0.lies).mono ?_; rw [eqTr_self]; rintro e wd11_1 ⟨rfl, ed11_1⟩))
  have ed11 := (((Ext.refl w10).drew.trans ed11_0).trans ed11_1)
  clear HKEEP za00 za01 za02 lza0 zw00 zw01 zw02 lzw0 zp00 zp01 zp02 lzp0 zg00 zg01 zg02 lzg0
  clear hMc0
  obtain ⟨w11, hw11⟩ : ∃ x, x = wd11_1 := ⟨_, rfl⟩
  rw [← hw11] at ed11 ⊢
  clear hw11
  have e11 : Ext w10 w11 := ed11
  have s11 : w10.heap.size ≤ w11.heap.size := e11.size
  have ba0_11 := e11.blk ba0_10
  obtain ⟨za00, za01, za02, -, -, -⟩ := own3 ba0_11
  have lza0 := lt_of_blk ba0_11
  have bw0_11 := e11.blk bw0_10
  obtain ⟨zw00, zw01, zw02, -, -, -⟩ := own3 bw0_11
  have lzw0 := lt_of_blk bw0_11
  have bp0_11 := e11.blk bp0_10
  obtain ⟨zp00, zp01, zp02, -, -, -⟩ := own3 bp0_11
  have lzp0 := lt_of_blk bp0_11
  have bg0_11 := e11.blk bg0_10
  obtain ⟨zg00, zg01, zg02, -, -, -⟩ := own3 bg0_11
  have lzg0 := lt_of_blk bg0_11
  go_wp2_with fail
  clear za00 za01 za02 lza0 zw00 zw01 zw02 lzw0 zp00 zp01 zp02 lzp0 zg00 zg01 zg02 lzg0
  -- the arguments are marked
  have op0_11 := op0_10.mono (fun x hx => e11.heap x (by have := (hFp0.2 x hx).2; omega))
  refine (markCode_any w11 k0 m0 _ _ ks0 Lp0 (1) op0_11 hFp0.1 hlp0 hcp0 (by omega) (by omega)).mono ?_
  rintro e w12 ⟨rfl, -, o12⟩
  have s12 : w11.heap.size ≤ w12.heap.size := o12.size
  have hk0 : decide (1 + 2 * (cnts ks0 : Int) < 0) = false := decide_eq_false (by omega)
  have ba0_12 := (o12.block _ (by omega) (fun hm => by have := hFp0.2 _ hm; omega)).trans ba0_11
  obtain ⟨za00, za01, za02, -, -, -⟩ := own3 ba0_12
  have lza0 := lt_of_blk ba0_12
  have bw0_12 := (o12.block _ (by omega) (fun hm => by have := hFp0.2 _ hm; omega)).trans bw0_11
  obtain ⟨zw00, zw01, zw02, -, -, -⟩ := own3 bw0_12
  have lzw0 := lt_of_blk bw0_12
  have bp0_12 := (o12.block _ (by omega) (fun hm => by have := hFp0.2 _ hm; omega)).trans bp0_11
  obtain ⟨zp00, zp01, zp02, -, -, -⟩ := own3 bp0_12
  have lzp0 := lt_of_blk bp0_12
  have bg0_12 := (o12.block _ (by omega) (fun hm => by have := hFp0.2 _ hm; omega)).trans bg0_11
  obtain ⟨zg00, zg01, zg02, -, -, -⟩ := own3 bg0_12
  have lzg0 := lt_of_blk bg0_12
  go_wp2_with fail
  clear za00 za01 za02 lza0 zw00 zw01 zw02 lzw0 zp00 zp01 zp02 lzp0 zg00 zg01 zg02 lzg0
  have og0_10 := og0_9.mono (fun x hx => e10.heap x (by have := (hFg0.2 x hx).2; omega))
  have og0_11 := og0_10.mono (fun x hx => e11.heap x (by have := (hFg0.2 x hx).2; omega))
  have og0_12 := og0_11.mono (fun x hx => o12.block x (by have := (hFg0.2 x hx).2; omega) (fun hm => by have := hFg0.2 x hx; have := hFp0.2 x hm; omega))
  have X4_10 : Ext w4 w10 := X4_9.trans e10
  have X4_11 : Ext w4 w11 := X4_10.trans e11
  have X4_12 : Ext w4 w12 := o12.ext X4_11 (fun b hb => by have := (hFp0.2 b hb).1; omega)
  refine (eqCode_any (.mk kr0 mr0 rs0) w12 (.mk kr0 mr0 rs0) _ _ (Lies.mk (k := kr0) (n := mr0) hlg0 hcg0 (MadeK.lies ⟨Lg0, og0_12, hFg0.mono (Nat.le_refl _) (by omega)⟩)) (hMw0.ext X4_12)).mono ?_
  rw [eqTr_self]
  rintro e w13 ⟨rfl, e13⟩
  have s13 : w12.heap.size ≤ w13.heap.size := e13.size
  have ba0_13 := e13.blk ba0_12
  obtain ⟨za00, za01, za02, -, -, -⟩ := own3 ba0_13
  have lza0 := lt_of_blk ba0_13
  have bw0_13 := e13.blk bw0_12
  obtain ⟨zw00, zw01, zw02, -, -, -⟩ := own3 bw0_13
  have lzw0 := lt_of_blk bw0_13
  have bp0_13 := e13.blk bp0_12
  obtain ⟨zp00, zp01, zp02, -, -, -⟩ := own3 bp0_13
  have lzp0 := lt_of_blk bp0_13
  have bg0_13 := e13.blk bg0_12
  obtain ⟨zg00, zg01, zg02, -, -, -⟩ := own3 bg0_13
  have lzg0 := lt_of_blk bg0_13
  go_wp2_with fail
  clear za00 za01 za02 lza0 zw00 zw01 zw02 lzw0 zp00 zp01 zp02 lzp0 zg00 zg01 zg02 lzg0
  -- the answer is marked
  have og0_13 := og0_12.mono (fun x hx => e13.heap x (by have := (hFg0.2 x hx).2; omega))
  refine (markCode_any w13 kr0 mr0 _ _ rs0 Lg0 1 og0_13 hFg0.1 hlg0 hcg0 (by omega) (by omega)).mono ?_
  rintro e w14 ⟨rfl, hOm, o14⟩
  have s14 : w13.heap.size ≤ w14.heap.size := o14.size
  have hKm : LiesK w14 Bg0 (mkS rs0 1) := MadeK.lies ⟨Lg0, hOm, hFg0.mono (Nat.le_refl _) (by omega)⟩
  have hml := mkS_len rs0 1
  have hmc := cnt_mkS rs0 1
  have hmd := hdS_mk rs0 1 (by omega)
  have hlm : (mkS rs0 1).length ≤ cg0 := by omega
  have hH := fun w' (hw : Ext w14 w') => heldCode_any w' kr0 mr0 Bg0 cg0 (mkS rs0 1) 1 (hKm.ext hw) hlm hcg0 (by omega) (by omega)
  rw [hml, hmd] at hH
  have HH := Lib.hid hH
  clear hH hmd hOm
  have hm0 : decide (1 + 2 * (cnts rs0 : Int) < 0) = false := decide_eq_false (by omega)
  have hmm : (1 + 2 * (cnts rs0 : Int) != 1 + 2 * (cnts rs0 : Int)) = false := by simp
  have ba0_14 := (o14.block _ (by omega) (fun hm => by have := hFg0.2 _ hm; omega)).trans ba0_13
  obtain ⟨za00, za01, za02, -, -, -⟩ := own3 ba0_14
  have lza0 := lt_of_blk ba0_14
  have bw0_14 := (o14.block _ (by omega) (fun hm => by have := hFg0.2 _ hm; omega)).trans bw0_13
  obtain ⟨zw00, zw01, zw02, -, -, -⟩ := own3 bw0_14
  have lzw0 := lt_of_blk bw0_14
  have bp0_14 := (o14.block _ (by omega) (fun hm => by have := hFg0.2 _ hm; omega)).trans bp0_13
  obtain ⟨zp00, zp01, zp02, -, -, -⟩ := own3 bp0_14
  have lzp0 := lt_of_blk bp0_14
  have bg0_14 := (o14.block _ (by omega) (fun hm => by have := hFg0.2 _ hm; omega)).trans bg0_13
  obtain ⟨zg00, zg01, zg02, -, -, -⟩ := own3 bg0_14
  have lzg0 := lt_of_blk bg0_14
  go_wp2_with fail
  clear za00 za01 za02 lza0 zw00 zw01 zw02 lzw0 zp00 zp01 zp02 lzp0 zg00 zg01 zg02 lzg0
  refine (HH.out w14 (Ext.refl w14)).mono ?_
  rintro e w15 ⟨rfl, e15⟩
  have s15 : w14.heap.size ≤ w15.heap.size := e15.size
  have ba0_15 := e15.blk ba0_14
  obtain ⟨za00, za01, za02, -, -, -⟩ := own3 ba0_15
  have lza0 := lt_of_blk ba0_15
  have bw0_15 := e15.blk bw0_14
  obtain ⟨zw00, zw01, zw02, -, -, -⟩ := own3 bw0_15
  have lzw0 := lt_of_blk bw0_15
  have bp0_15 := e15.blk bp0_14
  obtain ⟨zp00, zp01, zp02, -, -, -⟩ := own3 bp0_15
  have lzp0 := lt_of_blk bp0_15
  have bg0_15 := e15.blk bg0_14
  obtain ⟨zg00, zg01, zg02, -, -, -⟩ := own3 bg0_15
  have lzg0 := lt_of_blk bg0_15
  go_wp2_with fail
  clear za00 za01 za02 lza0 zw00 zw01 zw02 lzw0 zp00 zp01 zp02 lzp0 zg00 zg01 zg02 lzg0
  -- once more
  have X0_11 : Ext w0 w11 := X0_10.trans e11
  have X0_12 : Ext w0 w12 := o12.ext X0_11 (fun b hb => by have := (hFp0.2 b hb).1; omega)
  have X0_13 : Ext w0 w13 := X0_12.trans e13
  have X0_14 : Ext w0 w14 := o14.ext X0_13 (fun b hb => by have := (hFg0.2 b hb).1; omega)
  have X0_15 : Ext w0 w15 := X0_14.trans e15
  refine (toCode_any (.mk k0 m0 ks0) w15 _ (ha0.ext X0_15) (by simp only [cnt]; omega)).mono ?_
  rintro e w16 ⟨u, rfl, hMh0, e16⟩
  have s16 : w15.heap.size ≤ w16.heap.size := e16.size
  obtain ⟨Bh0, ch0, rfl, hlh0, hch0, hMKh0⟩ := Made.mk_iff.1 hMh0
  have ba0_16 := e16.blk ba0_15
  obtain ⟨za00, za01, za02, -, -, -⟩ := own3 ba0_16
  have lza0 := lt_of_blk ba0_16
  have bw0_16 := e16.blk bw0_15
  obtain ⟨zw00, zw01, zw02, -, -, -⟩ := own3 bw0_16
  have lzw0 := lt_of_blk bw0_16
  have bp0_16 := e16.blk bp0_15
  obtain ⟨zp00, zp01, zp02, -, -, -⟩ := own3 bp0_16
  have lzp0 := lt_of_blk bp0_16
  have bg0_16 := e16.blk bg0_15
  obtain ⟨zg00, zg01, zg02, -, -, -⟩ := own3 bg0_16
  have lzg0 := lt_of_blk bg0_16
  go_wp2_with fail
  clear za00 za01 za02 lza0 zw00 zw01 zw02 lzw0 zp00 zp01 zp02 lzp0 zg00 zg01 zg02 lzg0
  refine (HI.out w16 _ (hMh0.lies.ext (Ext.refl w16))).mono ?_
  rintro e w17 ⟨u, rfl, hMh0, e17⟩
  have s17 : w16.heap.size ≤ w17.heap.size := e17.size
  obtain ⟨Bh0, ch0, rfl, hlh0, hch0, hKh0⟩ := Made.mk_iff.1 hMh0
  obtain ⟨Lh0, hOh0, hFh0⟩ := hKh0
  obtain ⟨w18, hw18⟩ : ∃ w18, w18 = w17.alloc (.cells #[.int .i64 kr0, .int .i64 mr0, .slice Bh0 rs0.length ch0] 28) := ⟨_, rfl⟩
  have e18 : Ext w17 w18 := hw18 ▸ (Ext.refl w17).alloc _
  have b18 := heap_alloc_new w17 (.cells #[.int .i64 kr0, .int .i64 mr0, .slice Bh0 rs0.length ch0] 28)
  rw [← hw18] at b18
  have s18 : w17.heap.size < w18.heap.size := lt_of_blk b18
  have ba0_17 := e17.blk ba0_16
  obtain ⟨za00, za01, za02, -, -, -⟩ := own3 ba0_17
  have lza0 := lt_of_blk ba0_17
  have bw0_17 := e17.blk bw0_16
  obtain ⟨zw00, zw01, zw02, -, -, -⟩ := own3 bw0_17
  have lzw0 := lt_of_blk bw0_17
  have bp0_17 := e17.blk bp0_16
  obtain ⟨zp00, zp01, zp02, -, -, -⟩ := own3 bp0_17
  have lzp0 := lt_of_blk bp0_17
  have bg0_17 := e17.blk bg0_16
  obtain ⟨zg00, zg01, zg02, -, -, -⟩ := own3 bg0_17
  have lzg0 := lt_of_blk bg0_17
  go_wp2_with fail
  rw [← hw18]
  clear hw18
  clear za00 za01 za02 lza0 zw00 zw01 zw02 lzw0 zp00 zp01 zp02 lzp0 zg00 zg01 zg02 lzg0
  have oh0_18 := hOh0.mono (fun x hx => e18.heap x (by have := (hFh0.2 x hx).2; omega))
  have X4_13 : Ext w4 w13 := X4_12.trans e13
  have X4_14 : Ext w4 w14 := o14.ext X4_13 (fun b hb => by have := (hFg0.2 b hb).1; omega)
  have X4_15 : Ext w4 w15 := X4_14.trans e15
  have X4_16 : Ext w4 w16 := X4_15.trans e16
  have X4_17 : Ext w4 w17 := X4_16.trans e17
  have X4_18 : Ext w4 w18 := X4_17.trans e18
  refine (eqCode_any (.mk kr0 mr0 rs0) w18 (.mk kr0 mr0 rs0) _ _ (Lies.mk (k := kr0) (n := mr0) hlh0 hch0 (MadeK.lies ⟨Lh0, oh0_18, hFh0.mono (Nat.le_refl _) (by omega)⟩)) (hMw0.ext X4_18)).mono ?_
  rw [eqTr_self]
  rintro e w19 ⟨rfl, e19⟩
  have s19 : w18.heap.size ≤ w19.heap.size := e19.size
  have ba0_18 := e18.blk ba0_17
  have ba0_19 := e19.blk ba0_18
  obtain ⟨za00, za01, za02, -, -, -⟩ := own3 ba0_19
  have lza0 := lt_of_blk ba0_19
  have bw0_18 := e18.blk bw0_17
  have bw0_19 := e19.blk bw0_18
  obtain ⟨zw00, zw01, zw02, -, -, -⟩ := own3 bw0_19
  have lzw0 := lt_of_blk bw0_19
  have bp0_18 := e18.blk bp0_17
  have bp0_19 := e19.blk bp0_18
  obtain ⟨zp00, zp01, zp02, -, -, -⟩ := own3 bp0_19
  have lzp0 := lt_of_blk bp0_19
  have bg0_18 := e18.blk bg0_17
  have bg0_19 := e19.blk bg0_18
  obtain ⟨zg00, zg01, zg02, -, -, -⟩ := own3 bg0_19
  have lzg0 := lt_of_blk bg0_19
  have bh0_19 := e19.blk b18
  obtain ⟨zh00, zh01, zh02, -, -, -⟩ := own3 bh0_19
  have lzh0 := lt_of_blk bh0_19
  go_wp2_with fail
  clear za00 za01 za02 lza0 zw00 zw01 zw02 lzw0 zp00 zp01 zp02 lzp0 zg00 zg01 zg02 lzg0 zh00 zh01 zh02 lzh0
  obtain ⟨za00, za01, za02, -, -, -⟩ := own3 ba0_19
  have lza0 := lt_of_blk ba0_19
  obtain ⟨zw00, zw01, zw02, -, -, -⟩ := own3 bw0_19
  have lzw0 := lt_of_blk bw0_19
  obtain ⟨zp00, zp01, zp02, -, -, -⟩ := own3 bp0_19
  have lzp0 := lt_of_blk bp0_19
  obtain ⟨zg00, zg01, zg02, -, -, -⟩ := own3 bg0_19
  have lzg0 := lt_of_blk bg0_19
  obtain ⟨zh00, zh01, zh02, -, -, -⟩ := own3 bh0_19
  have lzh0 := lt_of_blk bh0_19
  go_wp2_with fail
  clear za00 za01 za02 lza0 zw00 zw01 zw02 lzw0 zp00 zp01 zp02 lzp0 zg00 zg01 zg02 lzg0 zh00 zh01 zh02 lzh0
  have X14_15 : Ext w14 w15 := (Ext.refl w14).trans e15
  have X14_16 : Ext w14 w16 := X14_15.trans e16
  have X14_17 : Ext w14 w17 := X14_16.trans e17
  have X14_18 : Ext w14 w18 := X14_17.trans e18
  have X14_19 : Ext w14 w19 := X14_18.trans e19
  refine (HH.out w19 X14_19).mono ?_
  rintro e w20 ⟨rfl, e20⟩
  have s20 : w19.heap.size ≤ w20.heap.size := e20.size
  have ba0_20 := e20.blk ba0_19
  obtain ⟨za00, za01, za02, -, -, -⟩ := own3 ba0_20
  have lza0 := lt_of_blk ba0_20
  have bw0_20 := e20.blk bw0_19
  obtain ⟨zw00, zw01, zw02, -, -, -⟩ := own3 bw0_20
  have lzw0 := lt_of_blk bw0_20
  have bp0_20 := e20.blk bp0_19
  obtain ⟨zp00, zp01, zp02, -, -, -⟩ := own3 bp0_20
  have lzp0 := lt_of_blk bp0_20
  have bg0_20 := e20.blk bg0_19
  obtain ⟨zg00, zg01, zg02, -, -, -⟩ := own3 bg0_20
  have lzg0 := lt_of_blk bg0_20
  have bh0_20 := e20.blk bh0_19
  obtain ⟨zh00, zh01, zh02, -, -, -⟩ := own3 bh0_20
  have lzh0 := lt_of_blk bh0_20
  go_wp2_with fail
  clear za00 za01 za02 lza0 zw00 zw01 zw02 lzw0 zp00 zp01 zp02 lzp0 zg00 zg01 zg02 lzg0 zh00 zh01 zh02 lzh0
  have X0_16 : Ext w0 w16 := X0_15.trans e16
  have X0_17 : Ext w0 w17 := X0_16.trans e17
  have X0_18 : Ext w0 w18 := X0_17.trans e18
  have X0_19 : Ext w0 w19 := X0_18.trans e19
  have X0_20 : Ext w0 w20 := X0_19.trans e20
  go_ret
  exact ⟨rfl, X0_20⟩

set_option maxRecDepth 100000 in
theorem lifted (os : Os) (started : os.Started) (H : Type) (enc : TypeId × Value → H) :
    ReturnsInHanded {} Try.checked os 3 .any (Rows.fnExactRunCodeSpec.pre6 enc Try.prog Try.f3 Rows.fnExactRunCodeRow.domain false) (Rows.fnExactRunCodeSpec.post enc Try.prog Try.f3 false true false false) := by
  refine law_lift (C := Try.checked) (fn := Try.f3) (tb := 4) own started (by kernel_rfl) Try.func3 (by kernel_rfl) (by kernel_rfl) rfl Try.underlying4 rfl
    (fun ds h => by
      match ds, h with
      | [d1, d2], _ => exact ⟨rfl, rfl, rfl⟩)
    (ChangeSpec.witness6 (enc := enc) (C := Try.checked) false ⟨#[], #[.agg #[.int .i64 0, .int .i64 0, .slice none 0 0], .int .i64 0], []⟩ 8 (by kernel_rfl) (by kernel_rfl) (by kernel_rfl) (by kernel_rfl)) ?_
  intro W base args ds p hval hA hlt
  rw [Try.params3] at hA hval
  obtain ⟨v0, vs0, d0, ds0, p0, q0, hargs, rfl, rfl, h0, r0⟩ := trodAll_cons hA
  obtain ⟨v1, vs1, d1, ds1, p1, q1, rfl, rfl, rfl, h1, r1⟩ := trodAll_cons r0
  obtain ⟨rfl, rfl, rfl⟩ := trodAll_nil r1
  obtain rfl : args = #[v0, v1] := by cases args; simp_all
  obtain ⟨a0, ha0⟩ := open_tree tyCode (hval 0 24 v0 rfl rfl) h0
  obtain ⟨a1, rfl, rfl, rfl, w1⟩ := open_int Try.underlying3 (hval 1 3 v1 rfl rfl) h1
  exact walk W a0 v0 ha0 a1 w1

theorem over : Rows.fnExactRunCodeRow.holds Try.pinned (OpenSpec.ofChange Rows.fnExactRunCodeSpec) :=
  OpenClaim.holds_of_wide 3 Try.f3 rfl rfl rfl rfl rfl rfl rfl ⟨rfl, rfl, rfl, rfl, rfl⟩ rfl rfl rfl rfl rfl (by kernel_rfl) Try.func3 (by kernel_rfl)
    (of_decide_eq_true (by kernel_rfl)) (by unfold Func.isWrapper; first | (rw [if_pos (by decide +kernel)]; kernel_rfl) | (rw [if_neg (by decide +kernel)]; exact ⟨rfl, rfl⟩))
    (fun os started H enc _ => lifted os started H enc)

theorem proved : Rows.FnExactRunCodeSaid := over
#print axioms proved
end Go.Proofs.Ytappakllopkfiaa.exRunCode

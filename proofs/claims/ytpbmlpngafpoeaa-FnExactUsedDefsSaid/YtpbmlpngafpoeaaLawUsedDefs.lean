/-
  PROVED: the law FnExactUsedDefs returns true for every input: the program's UsedDefs returns what the reference's returns.
  CONDITIONS: none.
-/
import Derived.Test.YtpbmlpngafpoeaaRows
import Derived.Test.YtpbmlpngafpoeaaLift
import Derived.Test.YtpbmlpngafpoeaaUsed3
import Derived.Test.YtpbmlpngafpoeaaDefKit
import Derived.Test.YtpbmlpngafpoeaaLiftD
import Derived.Deep.RegionHeld3
namespace Go.Proofs.Ytpbmlpngafpoeaa.exUsedDefs
open Go.RowKit Go.ChangeShapes Go.WideShapes Go.ChangeAt
set_option linter.unusedVariables false

theorem own : ownKnob Try.prog.godebug = none := by kernel_rfl
theorem tyTerm : TreeTy Try.prog 37 35 3 (fld "Kind" 3 0 0) (fld "N" 3 1 8) (fld "Kids" 35 2 16) := ⟨Try.underlying37, Try.underlying35, Try.underlying3, rfl, rfl, rfl, rfl, rfl, rfl, by kernel_rfl, by kernel_rfl, by kernel_rfl⟩
theorem tyDef : DefTy Try.prog 83 22 37 (fld "Type" 37 0 0) (fld "Body" 37 3 40) := ⟨Try.underlying83, Try.underlying22, rfl, rfl, rfl, rfl, by kernel_rfl⟩

theorem outI_len : ∀ (s : List Bool) (i : Nat), (outI s i).length ≤ s.length
  | [], _ => by simp [outI]
  | b :: s, i => by
    have := outI_len s (i + 1)
    unfold outI
    split <;> simp <;> omega
theorem usD_len (ks : List Tr) : ∀ (j : Nat) (s : List Bool), (usD ks j s).length = s.length
  | 0, _ => rfl
  | j + 1, s => by
    unfold usD
    rw [usD_len ks j]
    split
    · exact markF_len _ _ _
    · rfl
theorem usedV_len {ks : List Tr} {n : Nat} (_ : ks.length = n * 2) (t : Tr) : (usedV ks n t).length ≤ n := by
  unfold usedV
  split
  · refine Nat.le_trans (outI_len _ _) ?_
    rw [usD_len, markF_len]
    simp
  · simp
set_option maxRecDepth 100000 in
set_option maxHeartbeats 4000000 in
theorem walk (w0 : World) (A0 : Option Addr) (n0 cap0 : Nat) (ks0 : List Tr) (hn0 : ks0.length = n0 * 2) (hl0 : n0 ≤ cap0) (hc0 : cap0 ≤ maxLen) (ha0 : LiesK w0 A0 ks0) (t1 : Tr) (v1 : Value) (ha1 : Lies w0 t1 v1) :
    Calls Try.prog 5 #[.slice A0 n0 cap0, v1] w0 fun e w' => e = .returned (.bool true) ∧ Ext w0 w' := by
  have hcc0 := hc0
  unfold maxLen at hcc0
  obtain ⟨k1, m1, ks1⟩ := t1
  obtain ⟨A1, cap1, rfl, hl1, hc1, hK1⟩ := Lies.mk_iff.1 ha1
  have hcc1 := hc1
  unfold maxLen at hcc1
  go_enter Try.func5, Try.ntmps5
  obtain ⟨w1, hw1⟩ : ∃ w1, w1 = w0.alloc (.cells #[.int .i64 k1, .int .i64 m1, .slice A1 ks1.length cap1] 37) := ⟨_, rfl⟩
  have e1 : Ext w0 w1 := hw1 ▸ (Ext.refl w0).alloc _
  have b1 := heap_alloc_new w0 (.cells #[.int .i64 k1, .int .i64 m1, .slice A1 ks1.length cap1] 37)
  rw [← hw1] at b1
  have s1 : w0.heap.size < w1.heap.size := lt_of_blk b1
  go_wp2_with fail
  rw [← hw1]
  clear hw1
  have X0_1 : Ext w0 w1 := (Ext.refl w0).trans e1
  refine (szDefS_any ks0 n0 cap0 w1 A0 1048576 (ha0.ext X0_1) hn0 hl0 hc0 (by omega) (by omega)).mono ?_
  rintro e w2 ⟨rfl, e2⟩
  have s2 : w1.heap.size ≤ w2.heap.size := e2.size
  have hz0 := szD_le ks0 n0 1048576 (by omega)
  have hf0 := fun h => szD_fit (left := 1048576) (by omega) hn0 h
  generalize szD ks0 n0 1048576 = q0 at hz0 hf0
  by_cases hq0 : q0 < 0
  · have hd : decide (q0 < 0) = true := decide_eq_true hq0
    have ba1_2 := e2.blk b1
    obtain ⟨za10, za11, za12, -, -, -⟩ := own3 ba1_2
    go_wp2_with fail
    clear za10 za11 za12
    have X0_2 : Ext w0 w2 := X0_1.trans e2
    go_ret
    exact ⟨rfl, X0_2⟩
  have hd0 : decide (q0 < 0) = false := decide_eq_false hq0
  obtain ⟨f0a, f0b, f0c, f0d⟩ := hf0 hq0
  have hcn0 : ∀ t ∈ ks0, cnt t ≤ 1048577 := fun t ht => by have := f0b t ht; omega
  have HCN0 := Lib.hid hcn0
  clear hf0 f0b hcn0
  have ba1_2 := e2.blk b1
  obtain ⟨za10, za11, za12, -, -, -⟩ := own3 ba1_2
  go_wp2_with fail
  clear za10 za11 za12
  have X0_2 : Ext w0 w2 := X0_1.trans e2
  refine (szTerm_any (.mk k1 m1 ks1) w2 _ _ q0 (fun _ h => h) (ha1.ext X0_2) (by omega) (by omega)).mono ?_
  rintro e w3 ⟨rfl, e3'⟩
  have e3 : Ext w2 w3 := e3'
  clear e3'
  have s3 : w2.heap.size ≤ w3.heap.size := e3.size
  have hz1 := szT_le (.mk k1 m1 ks1) q0 (by omega)
  have hf1 := szT_le_cnt (t := .mk k1 m1 ks1) (left := q0) (by omega)
  simp only [Tr.kids] at hf1
  generalize szT (.mk k1 m1 ks1) q0 = q1 at hz1 hf1
  by_cases hq1 : q1 < 0
  · have hd : decide (q1 < 0) = true := decide_eq_true hq1
    have ba1_3 := e3.blk ba1_2
    obtain ⟨za10, za11, za12, -, -, -⟩ := own3 ba1_3
    go_wp2_with fail
    clear za10 za11 za12
    have X0_3 : Ext w0 w3 := X0_2.trans e3
    go_ret
    exact ⟨rfl, X0_3⟩
  have hd1 : decide (q1 < 0) = false := decide_eq_false hq1
  replace hf1 := hf1 hq1
  obtain ⟨rs0, hrs0⟩ : ∃ r, r = usedV ks0 n0 (.mk k1 m1 ks1) := ⟨_, rfl⟩
  have hrl : rs0.length ≤ n0 := by rw [hrs0]; exact usedV_len hn0 _
  have HS := fun W B c vv h1 h2 h3 (h4 : Lies W (.mk k1 m1 ks1) vv) => specUsedDefs_any ks0 n0 c W B (.mk k1 m1 ks1) vv h1 hn0 h2 h3 h4 (by omega)
  have HI := fun W B c vv h1 h2 h3 (h4 : Lies W (.mk k1 m1 ks1) vv) => (usedDefs_any ks0 n0 c W B (.mk k1 m1 ks1) vv h1 hn0 h2 h3 h4 (by omega)).mono (fun e w' (h : _) => (show ∃ B c, e = .returned (.slice B (usedV ks0 n0 (.mk k1 m1 ks1)).length c) ∧ (usedV ks0 n0 (.mk k1 m1 ks1)).length ≤ c ∧ c ≤ maxLen ∧ (∃ L, OwnI w' 3 B (usedV ks0 n0 (.mk k1 m1 ks1)) L ∧ Fresh W w' L) ∧ Ext W w' from by obtain ⟨B, c, L, q1, q2, q3, q4, q5⟩ := h; exact ⟨B, c, q1, q2, q3, ⟨L, q4⟩, q5⟩))
  rw [← hrs0] at HS HI
  have HS := Lib.hid HS
  have HI := Lib.hid HI
  clear hrs0
  -- the reference's answer
  have ba1_3 := e3.blk ba1_2
  obtain ⟨za10, za11, za12, -, -, -⟩ := own3 ba1_3
  go_wp2_with fail
  clear za10 za11 za12
  have X0_3 : Ext w0 w3 := X0_2.trans e3
  obtain ⟨za10, za11, za12, -, -, -⟩ := own3 ba1_3
  have hkeep : ∀ w', Ext w3 w' → w'.cell? ⟨w0.heap.size, 0, none⟩ = some (.int .i64 k1) ∧ w'.cell? ⟨w0.heap.size, 1, none⟩ = some (.int .i64 m1) ∧ w'.cell? ⟨w0.heap.size, 2, none⟩ = some (.slice A1 ks1.length cap1) := fun w' hk => ⟨hk.cell za10, hk.cell za11, hk.cell za12⟩
  have HKEEP := Lib.hid hkeep
  clear hkeep
  go_region_held3 (fun w' => w'.cell? ⟨w0.heap.size, 0, none⟩ = some (.int .i64 k1) ∧ w'.cell? ⟨w0.heap.size, 1, none⟩ = some (.int .i64 m1) ∧ w'.cell? ⟨w0.heap.size, 2, none⟩ = some (.slice A1 ks1.length cap1))
    (first | exact HKEEP.out _ ((((Ext.refl w3).drew.trans ed4_0).trans ed4_1).trans ed4_2) | exact HKEEP.out _ (((Ext.refl w3).drew.trans ed4_0).trans ed4_1) | exact HKEEP.out _ ((Ext.refl w3).drew.trans ed4_0) | exact HKEEP.out _ (Ext.refl w3).drew)
    (first | (go_at_call 15; refine (toDefS_any ks0 n0 cap0 _ A0 (ha0.ext (X0_3.trans (Ext.refl w3).drew)) hn0 hl0 hc0 HCN0.out (by omega)).mono ?_; rintro e wd4_0 ⟨Bs0, rfl, hMs0, ed4_0⟩) | (go_at_call 26; refine (toTerm_any (.mk k1 m1 ks1) _ _ (ha1.ext (X0_3.trans ((Ext.refl w3).drew.trans ed4_0))) (by simp only [cnt]; omega)).mono ?_; rintro e wd4_1 ⟨u, rfl, hMs1, ed4_1⟩; obtain ⟨Bs1, cs1, rfl, hls1, hcs1, hMKs1⟩ := Made.mk_iff.1 hMs1) | (go_at_call 25; refine (HS.out _ _ _ _ (hMs0.lies.ext ((Ext.refl _).trans ed4_1)) (Nat.le_refl _) (by unfold maxLen; omega) (hMs1.lies.ext (Ext.refl _))).mono ?_; rintro e wd4_2 ⟨Bw0, cw0, rfl, hlw0, hcw0, hMw0, ed4_2⟩))
  have ed4 := ((((Ext.refl w3).drew.trans ed4_0).trans ed4_1).trans ed4_2)
  clear HKEEP za10 za11 za12
  clear hcs1 hls1 hMKs1 hMs1 hMs0
  obtain ⟨w4, hw4⟩ : ∃ x, x = wd4_2 := ⟨_, rfl⟩
  rw [← hw4] at hMw0 ed4 ⊢
  clear hw4
  have e4 : Ext w3 w4 := ed4
  have s4 : w3.heap.size ≤ w4.heap.size := e4.size
  have ba1_4 := e4.blk ba1_3
  obtain ⟨za10, za11, za12, -, -, -⟩ := own3 ba1_4
  go_wp2_with fail
  clear za10 za11 za12
  have X0_4 : Ext w0 w4 := X0_3.trans e4
  refine (toDefS_any ks0 n0 cap0 w4 A0 (ha0.ext X0_4) hn0 hl0 hc0 HCN0.out (by omega)).mono ?_
  rintro e w5 ⟨Bp0, rfl, hMp0, e5⟩
  have s5 : w4.heap.size ≤ w5.heap.size := e5.size
  obtain ⟨Lp0, hOp0, hFp0⟩ := hMp0
  have ba1_5 := e5.blk ba1_4
  obtain ⟨za10, za11, za12, -, -, -⟩ := own3 ba1_5
  go_wp2_with fail
  clear za10 za11 za12
  have X0_5 : Ext w0 w5 := X0_4.trans e5
  refine (toTerm_any (.mk k1 m1 ks1) w5 _ (ha1.ext X0_5) (by simp only [cnt]; omega)).mono ?_
  rintro e w6 ⟨u, rfl, hMp1, e6⟩
  have s6 : w5.heap.size ≤ w6.heap.size := e6.size
  obtain ⟨Bp1, cp1, rfl, hlp1, hcp1, hMKp1⟩ := Made.mk_iff.1 hMp1
  obtain ⟨Lp1, hOp1, hFp1⟩ := hMKp1
  obtain ⟨w7, hw7⟩ : ∃ w7, w7 = w6.alloc (.cells #[.int .i64 k1, .int .i64 m1, .slice Bp1 ks1.length cp1] 42) := ⟨_, rfl⟩
  have e7 : Ext w6 w7 := hw7 ▸ (Ext.refl w6).alloc _
  have b7 := heap_alloc_new w6 (.cells #[.int .i64 k1, .int .i64 m1, .slice Bp1 ks1.length cp1] 42)
  rw [← hw7] at b7
  have s7 : w6.heap.size < w7.heap.size := lt_of_blk b7
  have ba1_6 := e6.blk ba1_5
  obtain ⟨za10, za11, za12, -, -, -⟩ := own3 ba1_6
  go_wp2_with fail
  rw [← hw7]
  clear hw7
  clear za10 za11 za12
  -- the program's answer
  have op0_6 := hOp0.mono (fun x hx => e6.heap x (by have := (hFp0.2 x hx).2; omega))
  have op0_7 := op0_6.mono (fun x hx => e7.heap x (by have := (hFp0.2 x hx).2; omega))
  have op1_7 := hOp1.mono (fun x hx => e7.heap x (by have := (hFp1.2 x hx).2; omega))
  refine (HI.out w7 _ _ _ (MadeD.lies ⟨Lp0, op0_7, hFp0.mono (Nat.le_refl _) (by omega)⟩) (Nat.le_refl _) (by unfold maxLen; omega) (Lies.mk (k := k1) (n := m1) hlp1 hcp1 (MadeK.lies ⟨Lp1, op1_7, hFp1.mono (Nat.le_refl _) (by omega)⟩))).mono ?_
  rintro e w8 ⟨Bg0, cg0, rfl, hlg0, hcg0, hMg0, e8⟩
  have s8 : w7.heap.size ≤ w8.heap.size := e8.size
  obtain ⟨Lg0, hOg0, hFg0⟩ := hMg0
  have ba1_7 := e7.blk ba1_6
  have ba1_8 := e8.blk ba1_7
  obtain ⟨za10, za11, za12, -, -, -⟩ := own3 ba1_8
  have bp1_8 := e8.blk b7
  obtain ⟨zp10, zp11, zp12, -, -, -⟩ := own3 bp1_8
  go_wp2_with fail
  clear za10 za11 za12 zp10 zp11 zp12
  have X4_5 : Ext w4 w5 := (Ext.refl w4).trans e5
  have X4_6 : Ext w4 w6 := X4_5.trans e6
  have X4_7 : Ext w4 w7 := X4_6.trans e7
  have X4_8 : Ext w4 w8 := X4_7.trans e8
  refine (eqIntS_any rs0 rs0 w8 _ _ _ _ (OwnI.nums hOg0) hlg0 hcg0 (hMw0.ext X4_8) hlw0 hcw0).mono ?_
  rw [decide_eq_true rfl]
  rintro e w9 ⟨rfl, e9⟩
  have s9 : w8.heap.size ≤ w9.heap.size := e9.size
  have ba1_9 := e9.blk ba1_8
  obtain ⟨za10, za11, za12, -, -, -⟩ := own3 ba1_9
  have bp1_9 := e9.blk bp1_8
  obtain ⟨zp10, zp11, zp12, -, -, -⟩ := own3 bp1_9
  go_wp2_with fail
  clear za10 za11 za12 zp10 zp11 zp12
  -- the arguments are as they were
  have X0_6 : Ext w0 w6 := X0_5.trans e6
  have X0_7 : Ext w0 w7 := X0_6.trans e7
  have X0_8 : Ext w0 w8 := X0_7.trans e8
  have X0_9 : Ext w0 w9 := X0_8.trans e9
  refine (toDefS_any ks0 n0 cap0 w9 A0 (ha0.ext X0_9) hn0 hl0 hc0 HCN0.out (by omega)).mono ?_
  rintro e w10 ⟨Bc0, rfl, hMc0, e10⟩
  have s10 : w9.heap.size ≤ w10.heap.size := e10.size
  have ba1_10 := e10.blk ba1_9
  obtain ⟨za10, za11, za12, -, -, -⟩ := own3 ba1_10
  have bp1_10 := e10.blk bp1_9
  obtain ⟨zp10, zp11, zp12, -, -, -⟩ := own3 bp1_10
  go_wp2_with fail
  clear za10 za11 za12 zp10 zp11 zp12
  have op0_8 := op0_7.mono (fun x hx => e8.heap x (by have := (hFp0.2 x hx).2; omega))
  have op0_9 := op0_8.mono (fun x hx => e9.heap x (by have := (hFp0.2 x hx).2; omega))
  have op0_10 := op0_9.mono (fun x hx => e10.heap x (by have := (hFp0.2 x hx).2; omega))
  refine (eqDefS_any ks0 ks0 n0 n0 w10 _ _ _ _ (MadeD.lies ⟨Lp0, op0_10, hFp0.mono (Nat.le_refl _) (by omega)⟩) hn0 (Nat.le_refl _) (by unfold maxLen; omega) (hMc0.lies.ext (Ext.refl w10)) hn0 (Nat.le_refl _) (by unfold maxLen; omega)).mono ?_
  rw [eqTs_self]
  rintro e w11 ⟨rfl, e11⟩
  have s11 : w10.heap.size ≤ w11.heap.size := e11.size
  have ba1_11 := e11.blk ba1_10
  obtain ⟨za10, za11, za12, -, -, -⟩ := own3 ba1_11
  have bp1_11 := e11.blk bp1_10
  obtain ⟨zp10, zp11, zp12, -, -, -⟩ := own3 bp1_11
  go_wp2_with fail
  clear za10 za11 za12 zp10 zp11 zp12
  have op1_8 := op1_7.mono (fun x hx => e8.heap x (by have := (hFp1.2 x hx).2; omega))
  have op1_9 := op1_8.mono (fun x hx => e9.heap x (by have := (hFp1.2 x hx).2; omega))
  have op1_10 := op1_9.mono (fun x hx => e10.heap x (by have := (hFp1.2 x hx).2; omega))
  have op1_11 := op1_10.mono (fun x hx => e11.heap x (by have := (hFp1.2 x hx).2; omega))
  have X0_10 : Ext w0 w10 := X0_9.trans e10
  have X0_11 : Ext w0 w11 := X0_10.trans e11
  obtain ⟨za10, za11, za12, -, -, -⟩ := own3 ba1_11
  obtain ⟨zp10, zp11, zp12, -, -, -⟩ := own3 bp1_11
  have hkeep : ∀ w', Ext w11 w' → w'.cell? ⟨w0.heap.size, 0, none⟩ = some (.int .i64 k1) ∧ w'.cell? ⟨w0.heap.size, 1, none⟩ = some (.int .i64 m1) ∧ w'.cell? ⟨w0.heap.size, 2, none⟩ = some (.slice A1 ks1.length cap1) ∧ w'.cell? ⟨w6.heap.size, 0, none⟩ = some (.int .i64 k1) ∧ w'.cell? ⟨w6.heap.size, 1, none⟩ = some (.int .i64 m1) ∧ w'.cell? ⟨w6.heap.size, 2, none⟩ = some (.slice Bp1 ks1.length cp1) := fun w' hk => ⟨hk.cell za10, hk.cell za11, hk.cell za12, hk.cell zp10, hk.cell zp11, hk.cell zp12⟩
  have HKEEP := Lib.hid hkeep
  clear hkeep
  go_region_held3 (fun w' => w'.cell? ⟨w0.heap.size, 0, none⟩ = some (.int .i64 k1) ∧ w'.cell? ⟨w0.heap.size, 1, none⟩ = some (.int .i64 m1) ∧ w'.cell? ⟨w0.heap.size, 2, none⟩ = some (.slice A1 ks1.length cap1) ∧ w'.cell? ⟨w6.heap.size, 0, none⟩ = some (.int .i64 k1) ∧ w'.cell? ⟨w6.heap.size, 1, none⟩ = some (.int .i64 m1) ∧ w'.cell? ⟨w6.heap.size, 2, none⟩ = some (.slice Bp1 ks1.length cp1))
    (first | exact HKEEP.out _ (((Ext.refl w11).drew.trans ed12_0).trans ed12_1) | exact HKEEP.out _ ((Ext.refl w11).drew.trans ed12_0) | exact HKEEP.out _ (Ext.refl w11).drew)
    (first | (go_at_call 26; refine (toTerm_any (.mk k1 m1 ks1) _ _ (ha1.ext (X0_11.trans (Ext.refl w11).drew)) (by simp only [cnt]; omega)).mono ?_; rintro e wd12_0 ⟨u, rfl, hMc1, ed12_0⟩) | (go_at_call 29; refine (eqTerm_any (.mk k1 m1 ks1) _ (.mk k1 m1 ks1) _ _ ((Lies.mk (k := k1) (n := m1) hlp1 hcp1 (MadeK.lies ⟨Lp1, op1_11, hFp1.mono (Nat.le_refl _) (by omega)⟩)).ext ((Ext.refl w11).drew.trans ed12_0)) hMc1.lies).mono ?_; rw [eqTr_self]; rintro e wd12_1 ⟨rfl, ed12_1⟩))
  have ed12 := (((Ext.refl w11).drew.trans ed12_0).trans ed12_1)
  clear HKEEP za10 za11 za12 zp10 zp11 zp12
  clear hMc1
  obtain ⟨w12, hw12⟩ : ∃ x, x = wd12_1 := ⟨_, rfl⟩
  rw [← hw12] at ed12 ⊢
  clear hw12
  have e12 : Ext w11 w12 := ed12
  have s12 : w11.heap.size ≤ w12.heap.size := e12.size
  have ba1_12 := e12.blk ba1_11
  obtain ⟨za10, za11, za12, -, -, -⟩ := own3 ba1_12
  have bp1_12 := e12.blk bp1_11
  obtain ⟨zp10, zp11, zp12, -, -, -⟩ := own3 bp1_12
  go_wp2_with fail
  clear za10 za11 za12 zp10 zp11 zp12
  -- the arguments are marked
  have op0_11 := op0_10.mono (fun x hx => e11.heap x (by have := (hFp0.2 x hx).2; omega))
  have op0_12 := op0_11.mono (fun x hx => e12.heap x (by have := (hFp0.2 x hx).2; omega))
  refine (markDefS_any ks0 n0 n0 w12 _ Lp0 (1) op0_12 hFp0.1 hn0 (Nat.le_refl _) (by unfold maxLen; omega) (by omega) (by omega)).mono ?_
  rintro e w13 ⟨rfl, o13⟩
  have s13 : w12.heap.size ≤ w13.heap.size := o13.size
  have ba1_13 := (o13.block _ (by omega) (fun hm => by have := hFp0.2 _ hm; omega)).trans ba1_12
  obtain ⟨za10, za11, za12, -, -, -⟩ := own3 ba1_13
  have bp1_13 := (o13.block _ (by omega) (fun hm => by have := hFp0.2 _ hm; omega)).trans bp1_12
  obtain ⟨zp10, zp11, zp12, -, -, -⟩ := own3 bp1_13
  go_wp2_with fail
  clear za10 za11 za12 zp10 zp11 zp12
  have op1_12 := op1_11.mono (fun x hx => e12.heap x (by have := (hFp1.2 x hx).2; omega))
  have op1_13 := op1_12.mono (fun x hx => o13.block x (by have := (hFp1.2 x hx).2; omega) (fun hm => by have := hFp1.2 x hx; have := hFp0.2 x hm; omega))
  refine (markTerm_any w13 k1 m1 _ _ ks1 Lp1 (1 + 2 * (cnts ks0 : Int)) op1_13 hFp1.1 hlp1 hcp1 (by omega) (by omega)).mono ?_
  rintro e w14 ⟨rfl, -, o14⟩
  have s14 : w13.heap.size ≤ w14.heap.size := o14.size
  have hk0 : decide (1 + 2 * (cnts ks0 : Int) + 2 * (cnts ks1 : Int) < 0) = false := decide_eq_false (by omega)
  have ba1_14 := (o14.block _ (by omega) (fun hm => by have := hFp1.2 _ hm; omega)).trans ba1_13
  obtain ⟨za10, za11, za12, -, -, -⟩ := own3 ba1_14
  have bp1_14 := (o14.block _ (by omega) (fun hm => by have := hFp1.2 _ hm; omega)).trans bp1_13
  obtain ⟨zp10, zp11, zp12, -, -, -⟩ := own3 bp1_14
  go_wp2_with fail
  clear za10 za11 za12 zp10 zp11 zp12
  have og0_9 := hOg0.mono (fun x hx => e9.heap x (by have := (hFg0.2 x hx).2; omega))
  have og0_10 := og0_9.mono (fun x hx => e10.heap x (by have := (hFg0.2 x hx).2; omega))
  have og0_11 := og0_10.mono (fun x hx => e11.heap x (by have := (hFg0.2 x hx).2; omega))
  have og0_12 := og0_11.mono (fun x hx => e12.heap x (by have := (hFg0.2 x hx).2; omega))
  have og0_13 := og0_12.mono (fun x hx => o13.block x (by have := (hFg0.2 x hx).2; omega) (fun hm => by have := hFg0.2 x hx; have := hFp0.2 x hm; omega))
  have og0_14 := og0_13.mono (fun x hx => o14.block x (by have := (hFg0.2 x hx).2; omega) (fun hm => by have := hFg0.2 x hx; have := hFp1.2 x hm; omega))
  have X4_9 : Ext w4 w9 := X4_8.trans e9
  have X4_10 : Ext w4 w10 := X4_9.trans e10
  have X4_11 : Ext w4 w11 := X4_10.trans e11
  have X4_12 : Ext w4 w12 := X4_11.trans e12
  have X4_13 : Ext w4 w13 := o13.ext X4_12 (fun b hb => by have := (hFp0.2 b hb).1; omega)
  have X4_14 : Ext w4 w14 := o14.ext X4_13 (fun b hb => by have := (hFp1.2 b hb).1; omega)
  refine (eqIntS_any rs0 rs0 w14 _ _ _ _ (OwnI.nums og0_14) hlg0 hcg0 (hMw0.ext X4_14) hlw0 hcw0).mono ?_
  rw [decide_eq_true rfl]
  rintro e w15 ⟨rfl, e15⟩
  have s15 : w14.heap.size ≤ w15.heap.size := e15.size
  have ba1_15 := e15.blk ba1_14
  obtain ⟨za10, za11, za12, -, -, -⟩ := own3 ba1_15
  have bp1_15 := e15.blk bp1_14
  obtain ⟨zp10, zp11, zp12, -, -, -⟩ := own3 bp1_15
  go_wp2_with fail
  clear za10 za11 za12 zp10 zp11 zp12
  -- the answer is marked
  have og0_15 := og0_14.mono (fun x hx => e15.heap x (by have := (hFg0.2 x hx).2; omega))
  refine (markIntS_any rs0 w15 _ _ Lg0 1 og0_15 hlg0 hcg0 (by omega) (by omega)).mono ?_
  rintro e w16 ⟨rfl, hOm, o16⟩
  have s16 : w15.heap.size ≤ w16.heap.size := o16.size
  have hKm : Nums w16 Bg0 (mkI rs0.length 1) := hOm.nums
  have hH := fun w' (hw : Ext w16 w') => heldIntS_any rs0.length w' Bg0 cg0 1 (hKm.ext hw) hlg0 hcg0 (by omega) (by omega)
  have HH := Lib.hid hH
  clear hH hOm
  have hm0 : decide (1 + (rs0.length : Int) < 0) = false := decide_eq_false (by omega)
  have hmm : (1 + (rs0.length : Int) != 1 + (rs0.length : Int)) = false := by simp
  have ba1_16 := (o16.block _ (by omega) (fun hm => by have := hFg0.2 _ hm; omega)).trans ba1_15
  obtain ⟨za10, za11, za12, -, -, -⟩ := own3 ba1_16
  have bp1_16 := (o16.block _ (by omega) (fun hm => by have := hFg0.2 _ hm; omega)).trans bp1_15
  obtain ⟨zp10, zp11, zp12, -, -, -⟩ := own3 bp1_16
  go_wp2_with fail
  clear za10 za11 za12 zp10 zp11 zp12
  refine (HH.out w16 (Ext.refl w16)).mono ?_
  rintro e w17 ⟨rfl, e17⟩
  have s17 : w16.heap.size ≤ w17.heap.size := e17.size
  have ba1_17 := e17.blk ba1_16
  obtain ⟨za10, za11, za12, -, -, -⟩ := own3 ba1_17
  have bp1_17 := e17.blk bp1_16
  obtain ⟨zp10, zp11, zp12, -, -, -⟩ := own3 bp1_17
  go_wp2_with fail
  clear za10 za11 za12 zp10 zp11 zp12
  -- once more
  have X0_12 : Ext w0 w12 := X0_11.trans e12
  have X0_13 : Ext w0 w13 := o13.ext X0_12 (fun b hb => by have := (hFp0.2 b hb).1; omega)
  have X0_14 : Ext w0 w14 := o14.ext X0_13 (fun b hb => by have := (hFp1.2 b hb).1; omega)
  have X0_15 : Ext w0 w15 := X0_14.trans e15
  have X0_16 : Ext w0 w16 := o16.ext X0_15 (fun b hb => by have := (hFg0.2 b hb).1; omega)
  have X0_17 : Ext w0 w17 := X0_16.trans e17
  obtain ⟨za10, za11, za12, -, -, -⟩ := own3 ba1_17
  obtain ⟨zp10, zp11, zp12, -, -, -⟩ := own3 bp1_17
  have hkeep : ∀ w', Ext w17 w' → w'.cell? ⟨w0.heap.size, 0, none⟩ = some (.int .i64 k1) ∧ w'.cell? ⟨w0.heap.size, 1, none⟩ = some (.int .i64 m1) ∧ w'.cell? ⟨w0.heap.size, 2, none⟩ = some (.slice A1 ks1.length cap1) ∧ w'.cell? ⟨w6.heap.size, 0, none⟩ = some (.int .i64 k1) ∧ w'.cell? ⟨w6.heap.size, 1, none⟩ = some (.int .i64 m1) ∧ w'.cell? ⟨w6.heap.size, 2, none⟩ = some (.slice Bp1 ks1.length cp1) := fun w' hk => ⟨hk.cell za10, hk.cell za11, hk.cell za12, hk.cell zp10, hk.cell zp11, hk.cell zp12⟩
  have HKEEP := Lib.hid hkeep
  clear hkeep
  go_region_held3 (fun w' => w'.cell? ⟨w0.heap.size, 0, none⟩ = some (.int .i64 k1) ∧ w'.cell? ⟨w0.heap.size, 1, none⟩ = some (.int .i64 m1) ∧ w'.cell? ⟨w0.heap.size, 2, none⟩ = some (.slice A1 ks1.length cap1) ∧ w'.cell? ⟨w6.heap.size, 0, none⟩ = some (.int .i64 k1) ∧ w'.cell? ⟨w6.heap.size, 1, none⟩ = some (.int .i64 m1) ∧ w'.cell? ⟨w6.heap.size, 2, none⟩ = some (.slice Bp1 ks1.length cp1))
    (first | exact HKEEP.out _ ((((Ext.refl w17).drew.trans ed18_0).trans ed18_1).trans ed18_2) | exact HKEEP.out _ (((Ext.refl w17).drew.trans ed18_0).trans ed18_1) | exact HKEEP.out _ ((Ext.refl w17).drew.trans ed18_0) | exact HKEEP.out _ (Ext.refl w17).drew)
    (first | (go_at_call 15; refine (toDefS_any ks0 n0 cap0 _ A0 (ha0.ext (X0_17.trans (Ext.refl w17).drew)) hn0 hl0 hc0 HCN0.out (by omega)).mono ?_; rintro e wd18_0 ⟨Bj0, rfl, hMj0, ed18_0⟩) | (go_at_call 26; refine (toTerm_any (.mk k1 m1 ks1) _ _ (ha1.ext (X0_17.trans ((Ext.refl w17).drew.trans ed18_0))) (by simp only [cnt]; omega)).mono ?_; rintro e wd18_1 ⟨u, rfl, hMj1, ed18_1⟩; obtain ⟨Bj1, cj1, rfl, hlj1, hcj1, hMKj1⟩ := Made.mk_iff.1 hMj1) | (go_at_call 27; refine (HI.out _ _ _ _ (hMj0.lies.ext ((Ext.refl _).trans ed18_1)) (Nat.le_refl _) (by unfold maxLen; omega) (hMj1.lies.ext (Ext.refl _))).mono ?_; rintro e wd18_2 ⟨Bh0, ch0, rfl, hlh0, hch0, hMh0, ed18_2⟩))
  have ed18 := ((((Ext.refl w17).drew.trans ed18_0).trans ed18_1).trans ed18_2)
  clear HKEEP za10 za11 za12 zp10 zp11 zp12
  clear hcj1 hlj1 hMKj1 hMj1 hMj0
  obtain ⟨w18, hw18⟩ : ∃ x, x = wd18_2 := ⟨_, rfl⟩
  rw [← hw18] at hMh0 ed18 ⊢
  clear hw18
  have e18 : Ext w17 w18 := ed18
  have s18 : w17.heap.size ≤ w18.heap.size := e18.size
  replace hMh0 : Nums w18 Bh0 rs0 := by obtain ⟨L, hO, -⟩ := hMh0; exact hO.nums
  have ba1_18 := e18.blk ba1_17
  obtain ⟨za10, za11, za12, -, -, -⟩ := own3 ba1_18
  have bp1_18 := e18.blk bp1_17
  obtain ⟨zp10, zp11, zp12, -, -, -⟩ := own3 bp1_18
  go_wp2_with fail
  clear za10 za11 za12 zp10 zp11 zp12
  obtain ⟨za10, za11, za12, -, -, -⟩ := own3 ba1_18
  obtain ⟨zp10, zp11, zp12, -, -, -⟩ := own3 bp1_18
  go_wp2_with fail
  clear za10 za11 za12 zp10 zp11 zp12
  have X4_15 : Ext w4 w15 := X4_14.trans e15
  have X4_16 : Ext w4 w16 := o16.ext X4_15 (fun b hb => by have := (hFg0.2 b hb).1; omega)
  have X4_17 : Ext w4 w17 := X4_16.trans e17
  have X4_18 : Ext w4 w18 := X4_17.trans e18
  refine (eqIntS_any rs0 rs0 w18 _ _ _ _ (hMh0.ext (Ext.refl w18)) hlh0 hch0 (hMw0.ext X4_18) hlw0 hcw0).mono ?_
  rw [decide_eq_true rfl]
  rintro e w19 ⟨rfl, e19⟩
  have s19 : w18.heap.size ≤ w19.heap.size := e19.size
  have ba1_19 := e19.blk ba1_18
  obtain ⟨za10, za11, za12, -, -, -⟩ := own3 ba1_19
  have bp1_19 := e19.blk bp1_18
  obtain ⟨zp10, zp11, zp12, -, -, -⟩ := own3 bp1_19
  go_wp2_with fail
  clear za10 za11 za12 zp10 zp11 zp12
  obtain ⟨za10, za11, za12, -, -, -⟩ := own3 ba1_19
  obtain ⟨zp10, zp11, zp12, -, -, -⟩ := own3 bp1_19
  go_wp2_with fail
  clear za10 za11 za12 zp10 zp11 zp12
  have X16_17 : Ext w16 w17 := (Ext.refl w16).trans e17
  have X16_18 : Ext w16 w18 := X16_17.trans e18
  have X16_19 : Ext w16 w19 := X16_18.trans e19
  refine (HH.out w19 X16_19).mono ?_
  rintro e w20 ⟨rfl, e20⟩
  have s20 : w19.heap.size ≤ w20.heap.size := e20.size
  have ba1_20 := e20.blk ba1_19
  obtain ⟨za10, za11, za12, -, -, -⟩ := own3 ba1_20
  have bp1_20 := e20.blk bp1_19
  obtain ⟨zp10, zp11, zp12, -, -, -⟩ := own3 bp1_20
  go_wp2_with fail
  clear za10 za11 za12 zp10 zp11 zp12
  have X0_18 : Ext w0 w18 := X0_17.trans e18
  have X0_19 : Ext w0 w19 := X0_18.trans e19
  have X0_20 : Ext w0 w20 := X0_19.trans e20
  go_ret
  exact ⟨rfl, X0_20⟩

set_option maxRecDepth 100000 in
theorem lifted (os : Os) (started : os.Started) (H : Type) (enc : TypeId × Value → H) :
    ReturnsInHanded {} Try.checked os 5 .any (Rows.fnExactUsedDefsSpec.pre6 enc Try.prog Try.f5 Rows.fnExactUsedDefsRow.domain false) (Rows.fnExactUsedDefsSpec.post enc Try.prog Try.f5 false true false false) := by
  refine law_lift (C := Try.checked) (fn := Try.f5) (tb := 4) own started (by kernel_rfl) Try.func5 (by kernel_rfl) (by kernel_rfl) rfl Try.underlying4 rfl
    (fun ds h => by
      match ds, h with
      | [d1, d2], _ => exact ⟨rfl, rfl, rfl⟩)
    (ChangeSpec.witness6 (enc := enc) (C := Try.checked) false ⟨#[], #[.slice none 0 0, .agg #[.int .i64 0, .int .i64 0, .slice none 0 0]], []⟩ 8 (by kernel_rfl) (by kernel_rfl) (by kernel_rfl) (by kernel_rfl)) ?_
  intro W base args ds p hval hA hlt
  rw [Try.params5] at hA hval
  obtain ⟨v0, vs0, d0, ds0, p0, q0, hargs, rfl, rfl, h0, r0⟩ := trodAll_cons hA
  obtain ⟨v1, vs1, d1, ds1, p1, q1, rfl, rfl, rfl, h1, r1⟩ := trodAll_cons r0
  obtain ⟨rfl, rfl, rfl⟩ := trodAll_nil r1
  obtain rfl : args = #[v0, v1] := by cases args; simp_all
  obtain ⟨A0, n0, cap0, ks0, rfl, hn0, hl0, hc0, ha0⟩ := open_defs tyDef tyTerm (hval 0 22 v0 rfl rfl) h0
  obtain ⟨a1, ha1⟩ := open_tree tyTerm (hval 1 37 v1 rfl rfl) h1
  exact walk W A0 n0 cap0 ks0 hn0 hl0 hc0 ha0 a1 v1 ha1

theorem over : Rows.fnExactUsedDefsRow.holds Try.pinned (OpenSpec.ofChange Rows.fnExactUsedDefsSpec) :=
  OpenClaim.holds_of_wide 5 Try.f5 rfl rfl rfl rfl rfl rfl rfl ⟨rfl, rfl, rfl, rfl, rfl⟩ rfl rfl rfl rfl rfl (by kernel_rfl) Try.func5 (by kernel_rfl)
    (of_decide_eq_true (by kernel_rfl)) (by unfold Func.isWrapper; first | (rw [if_pos (by decide +kernel)]; kernel_rfl) | (rw [if_neg (by decide +kernel)]; exact ⟨rfl, rfl⟩))
    (fun os started H enc _ => lifted os started H enc)

theorem proved : Rows.FnExactUsedDefsSaid := over
#print axioms proved
end Go.Proofs.Ytpbmlpngafpoeaa.exUsedDefs

/-
  PROVED: the law FnExactUnfoldTerm returns true for every input: the program's UnfoldTerm returns what the reference's returns.
  CONDITIONS: none.
-/
import Derived.Test.YtpbmlpngafpoeaaRows
import Derived.Test.YtpbmlpngafpoeaaLift
import Derived.Test.YtpbmlpngafpoeaaUnf2
import Derived.Test.YtpbmlpngafpoeaaDefKit
import Derived.Test.YtpbmlpngafpoeaaLiftD
import Derived.Deep.RegionHeld3
namespace Go.Proofs.Ytpbmlpngafpoeaa.exUnfoldTerm
open Go.RowKit Go.ChangeShapes Go.WideShapes Go.ChangeAt
set_option linter.unusedVariables false

theorem own : ownKnob Try.prog.godebug = none := by kernel_rfl
theorem tyTerm : TreeTy Try.prog 37 35 3 (fld "Kind" 3 0 0) (fld "N" 3 1 8) (fld "Kids" 35 2 16) := ⟨Try.underlying37, Try.underlying35, Try.underlying3, rfl, rfl, rfl, rfl, rfl, rfl, by kernel_rfl, by kernel_rfl, by kernel_rfl⟩
theorem tyDef : DefTy Try.prog 83 22 37 (fld "Type" 37 0 0) (fld "Body" 37 3 40) := ⟨Try.underlying83, Try.underlying22, rfl, rfl, rfl, rfl, by kernel_rfl⟩

structure Kept (p : Prop) : Prop where
  out : p
theorem once {T p : Prop} (h : Kept T → p) (k : T) : p := h ⟨k⟩
theorem unfD_cnt (ks : List Tr) : ∀ (j : Nat) (t : Tr), valid sigT t = true → cnt (unfD ks j t).1 ≤ 400
  | 0, t, h => (valid_parts h).2
  | j + 1, t, h => by
    unfold unfD
    by_cases hv : valid sigT (sbsT (ks.getD (j * 2 + 1) dflt0) t 0 0) = true
    · rw [if_pos hv]; exact unfD_cnt ks j _ hv
    · rw [if_neg hv]; simp [dflt0, cnt, cnts]
theorem unfV_cnt {ks : List Tr} {n : Nat} (_ : ks.length = n * 2) {t : Tr} : cnt (unfV ks n t).1 ≤ 400 := by
  unfold unfV
  split
  · rename_i h
    simp only [Bool.and_eq_true] at h
    exact unfD_cnt ks n t h.2.1
  · simp [dflt0, cnt, cnts]
set_option maxRecDepth 100000 in
set_option maxHeartbeats 4000000 in
theorem walk (w0 : World) (A0 : Option Addr) (n0 cap0 : Nat) (ks0 : List Tr) (hn0 : ks0.length = n0 * 2) (hl0 : n0 ≤ cap0) (hc0 : cap0 ≤ maxLen) (ha0 : LiesK w0 A0 ks0) (t1 : Tr) (v1 : Value) (ha1 : Lies w0 t1 v1) :
    Calls Try.prog 7 #[.slice A0 n0 cap0, v1] w0 fun e w' => e = .returned (.bool true) ∧ Ext w0 w' := by
  have hcc0 := hc0
  unfold maxLen at hcc0
  obtain ⟨k1, m1, ks1⟩ := t1
  obtain ⟨A1, cap1, rfl, hl1, hc1, hK1⟩ := Lies.mk_iff.1 ha1
  have hcc1 := hc1
  unfold maxLen at hcc1
  go_enter Try.func7, Try.ntmps7
  obtain ⟨w1, hw1⟩ : ∃ w1, w1 = w0.alloc (.cells #[.int .i64 k1, .int .i64 m1, .slice A1 ks1.length cap1] 37) := ⟨_, rfl⟩
  have e1 : Ext w0 w1 := hw1 ▸ (Ext.refl w0).alloc _
  have b1 := heap_alloc_new w0 (.cells #[.int .i64 k1, .int .i64 m1, .slice A1 ks1.length cap1] 37)
  rw [← hw1] at b1
  have s1 : w0.heap.size < w1.heap.size := lt_of_blk b1
  go_wp2_with fail
  rw [← hw1]
  clear hw1
  have X0_1 : Ext w0 w1 := (Ext.refl w0).trans e1
  refine (szDefS_any ks0 n0 cap0 w1 A0 1048576 (ha0.ext X0_1) hn0 hl0 hc0 (by omega) (by omega)).mono ?_
  rintro e w2 ⟨rfl, e2⟩
  have s2 : w1.heap.size ≤ w2.heap.size := e2.size
  have hz0 := szD_le ks0 n0 1048576 (by omega)
  have hf0 := fun h => szD_fit (left := 1048576) (by omega) hn0 h
  generalize szD ks0 n0 1048576 = q0 at hz0 hf0
  by_cases hq0 : q0 < 0
  · have hd : decide (q0 < 0) = true := decide_eq_true hq0
    have ba1_2 := e2.blk b1
    obtain ⟨za10, za11, za12, -, -, -⟩ := own3 ba1_2
    go_wp2_with fail
    clear za10 za11 za12
    have X0_2 : Ext w0 w2 := X0_1.trans e2
    go_ret
    exact ⟨rfl, X0_2⟩
  have hd0 : decide (q0 < 0) = false := decide_eq_false hq0
  obtain ⟨f0a, f0b, f0c, f0d⟩ := hf0 hq0
  have hcn0 : ∀ t ∈ ks0, cnt t ≤ 1048577 := fun t ht => by have := f0b t ht; omega
  have HCN0 := Lib.hid hcn0
  clear hf0 f0b hcn0
  have ba1_2 := e2.blk b1
  obtain ⟨za10, za11, za12, -, -, -⟩ := own3 ba1_2
  go_wp2_with fail
  clear za10 za11 za12
  have X0_2 : Ext w0 w2 := X0_1.trans e2
  refine (szTerm_any (.mk k1 m1 ks1) w2 _ _ q0 (fun _ h => h) (ha1.ext X0_2) (by omega) (by omega)).mono ?_
  rintro e w3 ⟨rfl, e3'⟩
  have e3 : Ext w2 w3 := e3'
  clear e3'
  have s3 : w2.heap.size ≤ w3.heap.size := e3.size
  have hz1 := szT_le (.mk k1 m1 ks1) q0 (by omega)
  have hf1 := szT_le_cnt (t := .mk k1 m1 ks1) (left := q0) (by omega)
  simp only [Tr.kids] at hf1
  generalize szT (.mk k1 m1 ks1) q0 = q1 at hz1 hf1
  by_cases hq1 : q1 < 0
  · have hd : decide (q1 < 0) = true := decide_eq_true hq1
    have ba1_3 := e3.blk ba1_2
    obtain ⟨za10, za11, za12, -, -, -⟩ := own3 ba1_3
    go_wp2_with fail
    clear za10 za11 za12
    have X0_3 : Ext w0 w3 := X0_2.trans e3
    go_ret
    exact ⟨rfl, X0_3⟩
  have hd1 : decide (q1 < 0) = false := decide_eq_false hq1
  replace hf1 := hf1 hq1
  obtain ⟨R, hR⟩ : ∃ r, r = unfV ks0 n0 (.mk k1 m1 ks1) := ⟨_, rfl⟩
  have hcnt := unfV_cnt (hn0) (t := .mk k1 m1 ks1)
  have HS := fun W B c vv h1 h2 h3 (h4 : Lies W (.mk k1 m1 ks1) vv) => specUnfoldTerm_any ks0 n0 c W B (.mk k1 m1 ks1) vv h1 hn0 h2 h3 h4
  have HI := fun W B c vv h1 h2 h3 (h4 : Lies W (.mk k1 m1 ks1) vv) => unfoldTerm_any ks0 n0 c W B (.mk k1 m1 ks1) vv h1 hn0 h2 h3 h4
  rw [← hR] at HS HI hcnt
  have HS := Lib.hid HS
  have HI := Lib.hid HI
  clear hR
  obtain ⟨⟨kr0, mr0, rs0⟩, br1⟩ := R
  simp only [cnt] at hcnt
  -- the reference's answer
  have ba1_3 := e3.blk ba1_2
  obtain ⟨za10, za11, za12, -, -, -⟩ := own3 ba1_3
  go_wp2_with fail
  clear za10 za11 za12
  have X0_3 : Ext w0 w3 := X0_2.trans e3
  obtain ⟨za10, za11, za12, -, -, -⟩ := own3 ba1_3
  have hkeep : ∀ w', Ext w3 w' → w'.cell? ⟨w0.heap.size, 0, none⟩ = some (.int .i64 k1) ∧ w'.cell? ⟨w0.heap.size, 1, none⟩ = some (.int .i64 m1) ∧ w'.cell? ⟨w0.heap.size, 2, none⟩ = some (.slice A1 ks1.length cap1) := fun w' hk => ⟨hk.cell za10, hk.cell za11, hk.cell za12⟩
  have HKEEP := Lib.hid hkeep
  clear hkeep
  apply once
  case h =>
    intro REST
    go_region_held3 (fun w' => w'.cell? ⟨w0.heap.size, 0, none⟩ = some (.int .i64 k1) ∧ w'.cell? ⟨w0.heap.size, 1, none⟩ = some (.int .i64 m1) ∧ w'.cell? ⟨w0.heap.size, 2, none⟩ = some (.slice A1 ks1.length cap1))
      (first | exact HKEEP.out _ (by exact (Ext.refl w3).drew) | exact HKEEP.out _ (by exact ((Ext.refl w3).alloc _).drew) | exact HKEEP.out _ (by exact hs0) | exact HKEEP.out _ (by exact hs0.alloc _) | exact HKEEP.out _ (by exact hs1) | exact HKEEP.out _ (by exact hs1.alloc _) | exact HKEEP.out _ (by exact hs2) | exact HKEEP.out _ (by exact hs2.alloc _) | exact HKEEP.out _ (by exact ((hs2.setCell (p := ⟨w3.heap.size, 0, none⟩) (Nat.le_refl _) _).setCell (p := ⟨w3.heap.size, 1, none⟩) (Nat.le_refl _) _).setCell (p := ⟨w3.heap.size, 2, none⟩) (Nat.le_refl _) _) | exact HKEEP.out _ (by exact ((hs2.setCell (p := ⟨ws0.heap.size, 0, none⟩) hs0.size _).setCell (p := ⟨ws0.heap.size, 1, none⟩) hs0.size _).setCell (p := ⟨ws0.heap.size, 2, none⟩) hs0.size _) | exact HKEEP.out _ (by exact ((hs2.setCell (p := ⟨ws1.heap.size, 0, none⟩) hs1.size _).setCell (p := ⟨ws1.heap.size, 1, none⟩) hs1.size _).setCell (p := ⟨ws1.heap.size, 2, none⟩) hs1.size _))
      (first | (go_at_call 15; refine (toDefS_any ks0 n0 cap0 _ A0 (ha0.ext (X0_3.trans (by first | exact (Ext.refl w3).drew | exact ((Ext.refl w3).alloc _).drew))) hn0 hl0 hc0 HCN0.out (by omega)).mono ?_; rintro e ws0 ⟨Bs0, rfl, hMs0, es0⟩; have hs0 : Ext w3 ws0 := Ext.trans (by first | exact (Ext.refl w3).drew | exact ((Ext.refl w3).alloc _).drew) es0; (first | (have qs0 := Ext.blk es0 (heap_alloc_new w3 (.cells #[.int .i64 0, .int .i64 0, .slice none 0 0] 42))) | (have qs0 := trivial))) | (go_at_call 26; refine (toTerm_any (.mk k1 m1 ks1) _ _ (ha1.ext (X0_3.trans (by first | exact (Ext.refl w3).drew | exact ((Ext.refl w3).alloc _).drew | exact hs0 | exact hs0.alloc _))) (by simp only [cnt]; omega)).mono ?_; rintro e ws1 ⟨u, rfl, hMs1, es1⟩; have hs1 : Ext w3 ws1 := Ext.trans (by first | exact (Ext.refl w3).drew | exact ((Ext.refl w3).alloc _).drew | exact hs0 | exact hs0.alloc _) es1; have ks0_s1 : Ext ws0 ws1 := (by first | exact es1 | exact ((Ext.refl _).alloc _).trans es1); obtain ⟨Bs1, cs1, rfl, hls1, hcs1, hMKs1⟩ := Made.mk_iff.1 hMs1; (first | (have qs1 := Ext.blk es1 qs0) | (have qs1 := Ext.blk es1 (heap_alloc_new ws0 (.cells #[.int .i64 0, .int .i64 0, .slice none 0 0] 42))) | (have qs1 := trivial))) | (go_at_call 40; refine (HS.out _ _ _ _ (hMs0.lies.ext (by first | exact ks0_s1 | exact ks0_s1.alloc _)) (Nat.le_refl _) (by unfold maxLen; omega) (hMs1.lies.ext (by first | exact Ext.refl _ | exact (Ext.refl _).alloc _))).mono ?_; rintro e ws2 ⟨u, rfl, hMw0, es2⟩; have hs2 : Ext w3 ws2 := Ext.trans (by first | exact (Ext.refl w3).drew | exact ((Ext.refl w3).alloc _).drew | exact hs0 | exact hs0.alloc _ | exact hs1 | exact hs1.alloc _) es2; have ks1_s2 : Ext ws1 ws2 := (by first | exact es2 | exact ((Ext.refl _).alloc _).trans es2); have ks0_s2 := ks0_s1.trans ks1_s2; obtain ⟨Bw0, cw0, rfl, hlw0, hcw0, hKw0⟩ := Made.mk_iff.1 hMw0; (first | (have qs2 := Ext.blk es2 qs1; obtain ⟨sa, sb, sc, fa, fb, fc⟩ := own3 qs2) | (have qs2 := Ext.blk es2 (heap_alloc_new ws1 (.cells #[.int .i64 0, .int .i64 0, .slice none 0 0] 42)); obtain ⟨sa, sb, sc, fa, fb, fc⟩ := own3 qs2) | (have qs2 := trivial))))
    all_goals (first
      | (have en : Ext w3 (ws2.alloc (.cells #[.int .i64 kr0, .int .i64 mr0, .slice Bw0 rs0.length cw0] 42)) := hs2.alloc _; have bn := heap_alloc_new ws2 (.cells #[.int .i64 kr0, .int .i64 mr0, .slice Bw0 rs0.length cw0] 42); have ln := hMw0.lies.ext ((Ext.refl ws2).alloc (.cells #[.int .i64 kr0, .int .i64 mr0, .slice Bw0 rs0.length cw0] 42)); obtain ⟨w4, hw4⟩ : ∃ x, x = ws2.alloc (.cells #[.int .i64 kr0, .int .i64 mr0, .slice Bw0 rs0.length cw0] 42) := ⟨_, rfl⟩; rw [← hw4]; rw [← hw4] at en bn ln; clear hw4; obtain ⟨g4, hg4⟩ : ∃ x, x = ws2.heap.size := ⟨_, rfl⟩; rw [← hg4] at bn ⊢; clear hg4)
      | (have en : Ext w3 (((ws2.setCell ⟨w3.heap.size, 0, none⟩ (.int .i64 kr0)).setCell ⟨w3.heap.size, 1, none⟩ (.int .i64 mr0)).setCell ⟨w3.heap.size, 2, none⟩ (.slice Bw0 rs0.length cw0)) := (((hs2.setCell (p := ⟨w3.heap.size, 0, none⟩) (Nat.le_refl _) _).setCell (p := ⟨w3.heap.size, 1, none⟩) (Nat.le_refl _) _).setCell (p := ⟨w3.heap.size, 2, none⟩) (Nat.le_refl _) _); have bn := blk_setCell (blk_setCell (blk_setCell qs2 0 (.int .i64 kr0)) 1 (.int .i64 mr0)) 2 (.slice Bw0 rs0.length cw0); have ln := (hMw0.after (((((Above.refl _ _).setCell (p := ⟨w3.heap.size, 0, none⟩) (by first | (show w3.heap.size < (World.alloc _ _).heap.size; simp) | (have := lt_of_blk qs1; exact this) | (have := lt_of_blk qs1; omega)) (.int .i64 kr0))).setCell (p := ⟨w3.heap.size, 1, none⟩) (by first | (show w3.heap.size < (World.alloc _ _).heap.size; simp) | (have := lt_of_blk qs1; exact this) | (have := lt_of_blk qs1; omega)) (.int .i64 mr0)).setCell (p := ⟨w3.heap.size, 2, none⟩) (by first | (show w3.heap.size < (World.alloc _ _).heap.size; simp) | (have := lt_of_blk qs1; exact this) | (have := lt_of_blk qs1; omega)) (.slice Bw0 rs0.length cw0))).lies; obtain ⟨w4, hw4⟩ : ∃ x, x = (((ws2.setCell ⟨w3.heap.size, 0, none⟩ (.int .i64 kr0)).setCell ⟨w3.heap.size, 1, none⟩ (.int .i64 mr0)).setCell ⟨w3.heap.size, 2, none⟩ (.slice Bw0 rs0.length cw0)) := ⟨_, rfl⟩; rw [← hw4]; rw [← hw4] at en bn ln; clear hw4; obtain ⟨g4, hg4⟩ : ∃ x, x = w3.heap.size := ⟨_, rfl⟩; rw [← hg4] at bn ⊢; clear hg4)
      | (have en : Ext w3 (((ws2.setCell ⟨ws0.heap.size, 0, none⟩ (.int .i64 kr0)).setCell ⟨ws0.heap.size, 1, none⟩ (.int .i64 mr0)).setCell ⟨ws0.heap.size, 2, none⟩ (.slice Bw0 rs0.length cw0)) := (((hs2.setCell (p := ⟨ws0.heap.size, 0, none⟩) hs0.size _).setCell (p := ⟨ws0.heap.size, 1, none⟩) hs0.size _).setCell (p := ⟨ws0.heap.size, 2, none⟩) hs0.size _); have bn := blk_setCell (blk_setCell (blk_setCell qs2 0 (.int .i64 kr0)) 1 (.int .i64 mr0)) 2 (.slice Bw0 rs0.length cw0); have ln := (hMw0.after (((((Above.refl _ _).setCell (p := ⟨ws0.heap.size, 0, none⟩) (by first | (show ws0.heap.size < (World.alloc _ _).heap.size; simp) | (have := lt_of_blk qs1; exact this) | (have := lt_of_blk qs1; omega)) (.int .i64 kr0))).setCell (p := ⟨ws0.heap.size, 1, none⟩) (by first | (show ws0.heap.size < (World.alloc _ _).heap.size; simp) | (have := lt_of_blk qs1; exact this) | (have := lt_of_blk qs1; omega)) (.int .i64 mr0)).setCell (p := ⟨ws0.heap.size, 2, none⟩) (by first | (show ws0.heap.size < (World.alloc _ _).heap.size; simp) | (have := lt_of_blk qs1; exact this) | (have := lt_of_blk qs1; omega)) (.slice Bw0 rs0.length cw0))).lies; obtain ⟨w4, hw4⟩ : ∃ x, x = (((ws2.setCell ⟨ws0.heap.size, 0, none⟩ (.int .i64 kr0)).setCell ⟨ws0.heap.size, 1, none⟩ (.int .i64 mr0)).setCell ⟨ws0.heap.size, 2, none⟩ (.slice Bw0 rs0.length cw0)) := ⟨_, rfl⟩; rw [← hw4]; rw [← hw4] at en bn ln; clear hw4; obtain ⟨g4, hg4⟩ : ∃ x, x = ws0.heap.size := ⟨_, rfl⟩; rw [← hg4] at bn ⊢; clear hg4)
      | (have en : Ext w3 (((ws2.setCell ⟨ws1.heap.size, 0, none⟩ (.int .i64 kr0)).setCell ⟨ws1.heap.size, 1, none⟩ (.int .i64 mr0)).setCell ⟨ws1.heap.size, 2, none⟩ (.slice Bw0 rs0.length cw0)) := (((hs2.setCell (p := ⟨ws1.heap.size, 0, none⟩) hs1.size _).setCell (p := ⟨ws1.heap.size, 1, none⟩) hs1.size _).setCell (p := ⟨ws1.heap.size, 2, none⟩) hs1.size _); have bn := blk_setCell (blk_setCell (blk_setCell qs2 0 (.int .i64 kr0)) 1 (.int .i64 mr0)) 2 (.slice Bw0 rs0.length cw0); have ln := (hMw0.after (((((Above.refl _ _).setCell (p := ⟨ws1.heap.size, 0, none⟩) (by first | (show ws1.heap.size < (World.alloc _ _).heap.size; simp) | (have := lt_of_blk qs1; exact this) | (have := lt_of_blk qs1; omega)) (.int .i64 kr0))).setCell (p := ⟨ws1.heap.size, 1, none⟩) (by first | (show ws1.heap.size < (World.alloc _ _).heap.size; simp) | (have := lt_of_blk qs1; exact this) | (have := lt_of_blk qs1; omega)) (.int .i64 mr0)).setCell (p := ⟨ws1.heap.size, 2, none⟩) (by first | (show ws1.heap.size < (World.alloc _ _).heap.size; simp) | (have := lt_of_blk qs1; exact this) | (have := lt_of_blk qs1; omega)) (.slice Bw0 rs0.length cw0))).lies; obtain ⟨w4, hw4⟩ : ∃ x, x = (((ws2.setCell ⟨ws1.heap.size, 0, none⟩ (.int .i64 kr0)).setCell ⟨ws1.heap.size, 1, none⟩ (.int .i64 mr0)).setCell ⟨ws1.heap.size, 2, none⟩ (.slice Bw0 rs0.length cw0)) := ⟨_, rfl⟩; rw [← hw4]; rw [← hw4] at en bn ln; clear hw4; obtain ⟨g4, hg4⟩ : ∃ x, x = ws1.heap.size := ⟨_, rfl⟩; rw [← hg4] at bn ⊢; clear hg4))
    all_goals clear hMw0 hKw0 hcs1 hls1 hMKs1 hMs1 hMs0
    all_goals rename_i hheld
    all_goals clear hheld
    all_goals revert ln
    all_goals revert bn
    all_goals revert en
    all_goals revert g4
    all_goals revert w4
    all_goals revert hcw0
    all_goals revert hlw0
    all_goals revert cw0
    all_goals revert Bw0
    all_goals revert cs1
    all_goals revert Bs1
    all_goals revert Bs0
    all_goals exact REST.out
  case k =>
    intro Bs0 Bs1 cs1 Bw0 cw0 hlw0 hcw0 w4 g4 en bn ln
    have e4 := en
    have b4 := bn
    clear en bn
    have lg4 := lt_of_blk b4
    have s4 : w3.heap.size ≤ w4.heap.size := e4.size
    clear HKEEP za10 za11 za12
    have hMw0 := ln
    clear ln
    have ba1_4 := e4.blk ba1_3
    obtain ⟨za10, za11, za12, -, -, -⟩ := own3 ba1_4
    obtain ⟨zw00, zw01, zw02, -, -, -⟩ := own3 b4
    have lzw0 := lt_of_blk b4
    go_wp2_with fail
    clear za10 za11 za12 zw00 zw01 zw02 lzw0
    have X0_4 : Ext w0 w4 := X0_3.trans e4
    refine (toDefS_any ks0 n0 cap0 w4 A0 (ha0.ext X0_4) hn0 hl0 hc0 HCN0.out (by omega)).mono ?_
    rintro e w5 ⟨Bp0, rfl, hMp0, e5⟩
    have s5 : w4.heap.size ≤ w5.heap.size := e5.size
    obtain ⟨Lp0, hOp0, hFp0⟩ := hMp0
    have ba1_5 := e5.blk ba1_4
    obtain ⟨za10, za11, za12, -, -, -⟩ := own3 ba1_5
    have bw0_5 := e5.blk b4
    obtain ⟨zw00, zw01, zw02, -, -, -⟩ := own3 bw0_5
    have lzw0 := lt_of_blk bw0_5
    go_wp2_with fail
    clear za10 za11 za12 zw00 zw01 zw02 lzw0
    have X0_5 : Ext w0 w5 := X0_4.trans e5
    refine (toTerm_any (.mk k1 m1 ks1) w5 _ (ha1.ext X0_5) (by simp only [cnt]; omega)).mono ?_
    rintro e w6 ⟨u, rfl, hMp1, e6⟩
    have s6 : w5.heap.size ≤ w6.heap.size := e6.size
    obtain ⟨Bp1, cp1, rfl, hlp1, hcp1, hMKp1⟩ := Made.mk_iff.1 hMp1
    obtain ⟨Lp1, hOp1, hFp1⟩ := hMKp1
    obtain ⟨w7, hw7⟩ : ∃ w7, w7 = w6.alloc (.cells #[.int .i64 k1, .int .i64 m1, .slice Bp1 ks1.length cp1] 42) := ⟨_, rfl⟩
    have e7 : Ext w6 w7 := hw7 ▸ (Ext.refl w6).alloc _
    have b7 := heap_alloc_new w6 (.cells #[.int .i64 k1, .int .i64 m1, .slice Bp1 ks1.length cp1] 42)
    rw [← hw7] at b7
    have s7 : w6.heap.size < w7.heap.size := lt_of_blk b7
    have ba1_6 := e6.blk ba1_5
    obtain ⟨za10, za11, za12, -, -, -⟩ := own3 ba1_6
    have bw0_6 := e6.blk bw0_5
    obtain ⟨zw00, zw01, zw02, -, -, -⟩ := own3 bw0_6
    have lzw0 := lt_of_blk bw0_6
    go_wp2_with fail
    rw [← hw7]
    clear hw7
    clear za10 za11 za12 zw00 zw01 zw02 lzw0
    -- the program's answer
    have op0_6 := hOp0.mono (fun x hx => e6.heap x (by have := (hFp0.2 x hx).2; omega))
    have op0_7 := op0_6.mono (fun x hx => e7.heap x (by have := (hFp0.2 x hx).2; omega))
    have op1_7 := hOp1.mono (fun x hx => e7.heap x (by have := (hFp1.2 x hx).2; omega))
    refine (HI.out w7 _ _ _ (MadeD.lies ⟨Lp0, op0_7, hFp0.mono (Nat.le_refl _) (by omega)⟩) (Nat.le_refl _) (by unfold maxLen; omega) (Lies.mk (k := k1) (n := m1) hlp1 hcp1 (MadeK.lies ⟨Lp1, op1_7, hFp1.mono (Nat.le_refl _) (by omega)⟩))).mono ?_
    rintro e w8 ⟨u, rfl, hMg0, e8⟩
    have s8 : w7.heap.size ≤ w8.heap.size := e8.size
    obtain ⟨Bg0, cg0, rfl, hlg0, hcg0, hKg0⟩ := Made.mk_iff.1 hMg0
    obtain ⟨Lg0, hOg0, hFg0⟩ := hKg0
    obtain ⟨w9, hw9⟩ : ∃ w9, w9 = w8.alloc (.cells #[.int .i64 kr0, .int .i64 mr0, .slice Bg0 rs0.length cg0] 42) := ⟨_, rfl⟩
    have e9 : Ext w8 w9 := hw9 ▸ (Ext.refl w8).alloc _
    have b9 := heap_alloc_new w8 (.cells #[.int .i64 kr0, .int .i64 mr0, .slice Bg0 rs0.length cg0] 42)
    rw [← hw9] at b9
    have s9 : w8.heap.size < w9.heap.size := lt_of_blk b9
    have hbb1 : (br1 != br1) = false := by simp
    have ba1_7 := e7.blk ba1_6
    have ba1_8 := e8.blk ba1_7
    obtain ⟨za10, za11, za12, -, -, -⟩ := own3 ba1_8
    have bw0_7 := e7.blk bw0_6
    have bw0_8 := e8.blk bw0_7
    obtain ⟨zw00, zw01, zw02, -, -, -⟩ := own3 bw0_8
    have lzw0 := lt_of_blk bw0_8
    have bp1_8 := e8.blk b7
    obtain ⟨zp10, zp11, zp12, -, -, -⟩ := own3 bp1_8
    go_wp2_with fail
    rw [← hw9]
    clear hw9
    clear za10 za11 za12 zw00 zw01 zw02 lzw0 zp10 zp11 zp12
    have og0_9 := hOg0.mono (fun x hx => e9.heap x (by have := (hFg0.2 x hx).2; omega))
    have X4_5 : Ext w4 w5 := (Ext.refl w4).trans e5
    have X4_6 : Ext w4 w6 := X4_5.trans e6
    have X4_7 : Ext w4 w7 := X4_6.trans e7
    have X4_8 : Ext w4 w8 := X4_7.trans e8
    have X4_9 : Ext w4 w9 := X4_8.trans e9
    refine (eqTerm_any (.mk kr0 mr0 rs0) w9 (.mk kr0 mr0 rs0) _ _ (Lies.mk (k := kr0) (n := mr0) hlg0 hcg0 (MadeK.lies ⟨Lg0, og0_9, hFg0.mono (Nat.le_refl _) (by omega)⟩)) (hMw0.ext X4_9)).mono ?_
    rw [eqTr_self]
    rintro e w10 ⟨rfl, e10⟩
    have s10 : w9.heap.size ≤ w10.heap.size := e10.size
    have ba1_9 := e9.blk ba1_8
    have ba1_10 := e10.blk ba1_9
    obtain ⟨za10, za11, za12, -, -, -⟩ := own3 ba1_10
    have bw0_9 := e9.blk bw0_8
    have bw0_10 := e10.blk bw0_9
    obtain ⟨zw00, zw01, zw02, -, -, -⟩ := own3 bw0_10
    have lzw0 := lt_of_blk bw0_10
    have bp1_9 := e9.blk bp1_8
    have bp1_10 := e10.blk bp1_9
    obtain ⟨zp10, zp11, zp12, -, -, -⟩ := own3 bp1_10
    have bg0_10 := e10.blk b9
    obtain ⟨zg00, zg01, zg02, -, -, -⟩ := own3 bg0_10
    go_wp2_with fail
    clear za10 za11 za12 zw00 zw01 zw02 lzw0 zp10 zp11 zp12 zg00 zg01 zg02
    -- the arguments are as they were
    have X0_6 : Ext w0 w6 := X0_5.trans e6
    have X0_7 : Ext w0 w7 := X0_6.trans e7
    have X0_8 : Ext w0 w8 := X0_7.trans e8
    have X0_9 : Ext w0 w9 := X0_8.trans e9
    have X0_10 : Ext w0 w10 := X0_9.trans e10
    refine (toDefS_any ks0 n0 cap0 w10 A0 (ha0.ext X0_10) hn0 hl0 hc0 HCN0.out (by omega)).mono ?_
    rintro e w11 ⟨Bc0, rfl, hMc0, e11⟩
    have s11 : w10.heap.size ≤ w11.heap.size := e11.size
    have ba1_11 := e11.blk ba1_10
    obtain ⟨za10, za11, za12, -, -, -⟩ := own3 ba1_11
    have bw0_11 := e11.blk bw0_10
    obtain ⟨zw00, zw01, zw02, -, -, -⟩ := own3 bw0_11
    have lzw0 := lt_of_blk bw0_11
    have bp1_11 := e11.blk bp1_10
    obtain ⟨zp10, zp11, zp12, -, -, -⟩ := own3 bp1_11
    have bg0_11 := e11.blk bg0_10
    obtain ⟨zg00, zg01, zg02, -, -, -⟩ := own3 bg0_11
    go_wp2_with fail
    clear za10 za11 za12 zw00 zw01 zw02 lzw0 zp10 zp11 zp12 zg00 zg01 zg02
    have op0_8 := op0_7.mono (fun x hx => e8.heap x (by have := (hFp0.2 x hx).2; omega))
    have op0_9 := op0_8.mono (fun x hx => e9.heap x (by have := (hFp0.2 x hx).2; omega))
    have op0_10 := op0_9.mono (fun x hx => e10.heap x (by have := (hFp0.2 x hx).2; omega))
    have op0_11 := op0_10.mono (fun x hx => e11.heap x (by have := (hFp0.2 x hx).2; omega))
    refine (eqDefS_any ks0 ks0 n0 n0 w11 _ _ _ _ (MadeD.lies ⟨Lp0, op0_11, hFp0.mono (Nat.le_refl _) (by omega)⟩) hn0 (Nat.le_refl _) (by unfold maxLen; omega) (hMc0.lies.ext (Ext.refl w11)) hn0 (Nat.le_refl _) (by unfold maxLen; omega)).mono ?_
    rw [eqTs_self]
    rintro e w12 ⟨rfl, e12⟩
    have s12 : w11.heap.size ≤ w12.heap.size := e12.size
    have ba1_12 := e12.blk ba1_11
    obtain ⟨za10, za11, za12, -, -, -⟩ := own3 ba1_12
    have bw0_12 := e12.blk bw0_11
    obtain ⟨zw00, zw01, zw02, -, -, -⟩ := own3 bw0_12
    have lzw0 := lt_of_blk bw0_12
    have bp1_12 := e12.blk bp1_11
    obtain ⟨zp10, zp11, zp12, -, -, -⟩ := own3 bp1_12
    have bg0_12 := e12.blk bg0_11
    obtain ⟨zg00, zg01, zg02, -, -, -⟩ := own3 bg0_12
    go_wp2_with fail
    clear za10 za11 za12 zw00 zw01 zw02 lzw0 zp10 zp11 zp12 zg00 zg01 zg02
    have op1_8 := op1_7.mono (fun x hx => e8.heap x (by have := (hFp1.2 x hx).2; omega))
    have op1_9 := op1_8.mono (fun x hx => e9.heap x (by have := (hFp1.2 x hx).2; omega))
    have op1_10 := op1_9.mono (fun x hx => e10.heap x (by have := (hFp1.2 x hx).2; omega))
    have op1_11 := op1_10.mono (fun x hx => e11.heap x (by have := (hFp1.2 x hx).2; omega))
    have op1_12 := op1_11.mono (fun x hx => e12.heap x (by have := (hFp1.2 x hx).2; omega))
    have X0_11 : Ext w0 w11 := X0_10.trans e11
    have X0_12 : Ext w0 w12 := X0_11.trans e12
    obtain ⟨za10, za11, za12, -, -, -⟩ := own3 ba1_12
    obtain ⟨zw00, zw01, zw02, -, -, -⟩ := own3 bw0_12
    have lzw0 := lt_of_blk bw0_12
    obtain ⟨zp10, zp11, zp12, -, -, -⟩ := own3 bp1_12
    obtain ⟨zg00, zg01, zg02, -, -, -⟩ := own3 bg0_12
    have hkeep : ∀ w', Ext w12 w' → w'.cell? ⟨w0.heap.size, 0, none⟩ = some (.int .i64 k1) ∧ w'.cell? ⟨w0.heap.size, 1, none⟩ = some (.int .i64 m1) ∧ w'.cell? ⟨w0.heap.size, 2, none⟩ = some (.slice A1 ks1.length cap1) ∧ w'.cell? ⟨g4, 0, none⟩ = some (.int .i64 kr0) ∧ w'.cell? ⟨g4, 1, none⟩ = some (.int .i64 mr0) ∧ w'.cell? ⟨g4, 2, none⟩ = some (.slice Bw0 rs0.length cw0) ∧ w'.cell? ⟨w6.heap.size, 0, none⟩ = some (.int .i64 k1) ∧ w'.cell? ⟨w6.heap.size, 1, none⟩ = some (.int .i64 m1) ∧ w'.cell? ⟨w6.heap.size, 2, none⟩ = some (.slice Bp1 ks1.length cp1) ∧ w'.cell? ⟨w8.heap.size, 0, none⟩ = some (.int .i64 kr0) ∧ w'.cell? ⟨w8.heap.size, 1, none⟩ = some (.int .i64 mr0) ∧ w'.cell? ⟨w8.heap.size, 2, none⟩ = some (.slice Bg0 rs0.length cg0) := fun w' hk => ⟨hk.cell za10, hk.cell za11, hk.cell za12, hk.cell zw00, hk.cell zw01, hk.cell zw02, hk.cell zp10, hk.cell zp11, hk.cell zp12, hk.cell zg00, hk.cell zg01, hk.cell zg02⟩
    have HKEEP := Lib.hid hkeep
    clear hkeep
    go_region_held3 (fun w' => w'.cell? ⟨w0.heap.size, 0, none⟩ = some (.int .i64 k1) ∧ w'.cell? ⟨w0.heap.size, 1, none⟩ = some (.int .i64 m1) ∧ w'.cell? ⟨w0.heap.size, 2, none⟩ = some (.slice A1 ks1.length cap1) ∧ w'.cell? ⟨g4, 0, none⟩ = some (.int .i64 kr0) ∧ w'.cell? ⟨g4, 1, none⟩ = some (.int .i64 mr0) ∧ w'.cell? ⟨g4, 2, none⟩ = some (.slice Bw0 rs0.length cw0) ∧ w'.cell? ⟨w6.heap.size, 0, none⟩ = some (.int .i64 k1) ∧ w'.cell? ⟨w6.heap.size, 1, none⟩ = some (.int .i64 m1) ∧ w'.cell? ⟨w6.heap.size, 2, none⟩ = some (.slice Bp1 ks1.length cp1) ∧ w'.cell? ⟨w8.heap.size, 0, none⟩ = some (.int .i64 kr0) ∧ w'.cell? ⟨w8.heap.size, 1, none⟩ = some (.int .i64 mr0) ∧ w'.cell? ⟨w8.heap.size, 2, none⟩ = some (.slice Bg0 rs0.length cg0))
      (first | exact HKEEP.out _ (((Ext.refl w12).drew.trans ed13_0).trans ed13_1) | exact HKEEP.out _ ((Ext.refl w12).drew.trans ed13_0) | exact HKEEP.out _ (Ext.refl w12).drew)
      (first | (go_at_call 26; refine (toTerm_any (.mk k1 m1 ks1) _ _ (ha1.ext (X0_12.trans (Ext.refl w12).drew)) (by simp only [cnt]; omega)).mono ?_; rintro e wd13_0 ⟨u, rfl, hMc1, ed13_0⟩) | (go_at_call 29; refine (eqTerm_any (.mk k1 m1 ks1) _ (.mk k1 m1 ks1) _ _ ((Lies.mk (k := k1) (n := m1) hlp1 hcp1 (MadeK.lies ⟨Lp1, op1_12, hFp1.mono (Nat.le_refl _) (by omega)⟩)).ext ((Ext.refl w12).drew.trans ed13_0)) hMc1.lies).mono ?_; rw [eqTr_self]; rintro e wd13_1 ⟨rfl, ed13_1⟩))
    have ed13 := (((Ext.refl w12).drew.trans ed13_0).trans ed13_1)
    clear HKEEP za10 za11 za12 zw00 zw01 zw02 lzw0 zp10 zp11 zp12 zg00 zg01 zg02
    clear hMc1
    obtain ⟨w13, hw13⟩ : ∃ x, x = wd13_1 := ⟨_, rfl⟩
    rw [← hw13] at ed13 ⊢
    clear hw13
    have e13 : Ext w12 w13 := ed13
    have s13 : w12.heap.size ≤ w13.heap.size := e13.size
    have ba1_13 := e13.blk ba1_12
    obtain ⟨za10, za11, za12, -, -, -⟩ := own3 ba1_13
    have bw0_13 := e13.blk bw0_12
    obtain ⟨zw00, zw01, zw02, -, -, -⟩ := own3 bw0_13
    have lzw0 := lt_of_blk bw0_13
    have bp1_13 := e13.blk bp1_12
    obtain ⟨zp10, zp11, zp12, -, -, -⟩ := own3 bp1_13
    have bg0_13 := e13.blk bg0_12
    obtain ⟨zg00, zg01, zg02, -, -, -⟩ := own3 bg0_13
    go_wp2_with fail
    clear za10 za11 za12 zw00 zw01 zw02 lzw0 zp10 zp11 zp12 zg00 zg01 zg02
    -- the arguments are marked
    have op0_12 := op0_11.mono (fun x hx => e12.heap x (by have := (hFp0.2 x hx).2; omega))
    have op0_13 := op0_12.mono (fun x hx => e13.heap x (by have := (hFp0.2 x hx).2; omega))
    refine (markDefS_any ks0 n0 n0 w13 _ Lp0 (1) op0_13 hFp0.1 hn0 (Nat.le_refl _) (by unfold maxLen; omega) (by omega) (by omega)).mono ?_
    rintro e w14 ⟨rfl, o14⟩
    have s14 : w13.heap.size ≤ w14.heap.size := o14.size
    have ba1_14 := (o14.block _ (by omega) (fun hm => by have := hFp0.2 _ hm; omega)).trans ba1_13
    obtain ⟨za10, za11, za12, -, -, -⟩ := own3 ba1_14
    have bw0_14 := (o14.block _ (by omega) (fun hm => by have := hFp0.2 _ hm; omega)).trans bw0_13
    obtain ⟨zw00, zw01, zw02, -, -, -⟩ := own3 bw0_14
    have lzw0 := lt_of_blk bw0_14
    have bp1_14 := (o14.block _ (by omega) (fun hm => by have := hFp0.2 _ hm; omega)).trans bp1_13
    obtain ⟨zp10, zp11, zp12, -, -, -⟩ := own3 bp1_14
    have bg0_14 := (o14.block _ (by omega) (fun hm => by have := hFp0.2 _ hm; omega)).trans bg0_13
    obtain ⟨zg00, zg01, zg02, -, -, -⟩ := own3 bg0_14
    go_wp2_with fail
    clear za10 za11 za12 zw00 zw01 zw02 lzw0 zp10 zp11 zp12 zg00 zg01 zg02
    have op1_13 := op1_12.mono (fun x hx => e13.heap x (by have := (hFp1.2 x hx).2; omega))
    have op1_14 := op1_13.mono (fun x hx => o14.block x (by have := (hFp1.2 x hx).2; omega) (fun hm => by have := hFp1.2 x hx; have := hFp0.2 x hm; omega))
    refine (markTerm_any w14 k1 m1 _ _ ks1 Lp1 (1 + 2 * (cnts ks0 : Int)) op1_14 hFp1.1 hlp1 hcp1 (by omega) (by omega)).mono ?_
    rintro e w15 ⟨rfl, -, o15⟩
    have s15 : w14.heap.size ≤ w15.heap.size := o15.size
    have hk0 : decide (1 + 2 * (cnts ks0 : Int) + 2 * (cnts ks1 : Int) < 0) = false := decide_eq_false (by omega)
    have ba1_15 := (o15.block _ (by omega) (fun hm => by have := hFp1.2 _ hm; omega)).trans ba1_14
    obtain ⟨za10, za11, za12, -, -, -⟩ := own3 ba1_15
    have bw0_15 := (o15.block _ (by omega) (fun hm => by have := hFp1.2 _ hm; omega)).trans bw0_14
    obtain ⟨zw00, zw01, zw02, -, -, -⟩ := own3 bw0_15
    have lzw0 := lt_of_blk bw0_15
    have bp1_15 := (o15.block _ (by omega) (fun hm => by have := hFp1.2 _ hm; omega)).trans bp1_14
    obtain ⟨zp10, zp11, zp12, -, -, -⟩ := own3 bp1_15
    have bg0_15 := (o15.block _ (by omega) (fun hm => by have := hFp1.2 _ hm; omega)).trans bg0_14
    obtain ⟨zg00, zg01, zg02, -, -, -⟩ := own3 bg0_15
    go_wp2_with fail
    clear za10 za11 za12 zw00 zw01 zw02 lzw0 zp10 zp11 zp12 zg00 zg01 zg02
    have og0_10 := og0_9.mono (fun x hx => e10.heap x (by have := (hFg0.2 x hx).2; omega))
    have og0_11 := og0_10.mono (fun x hx => e11.heap x (by have := (hFg0.2 x hx).2; omega))
    have og0_12 := og0_11.mono (fun x hx => e12.heap x (by have := (hFg0.2 x hx).2; omega))
    have og0_13 := og0_12.mono (fun x hx => e13.heap x (by have := (hFg0.2 x hx).2; omega))
    have og0_14 := og0_13.mono (fun x hx => o14.block x (by have := (hFg0.2 x hx).2; omega) (fun hm => by have := hFg0.2 x hx; have := hFp0.2 x hm; omega))
    have og0_15 := og0_14.mono (fun x hx => o15.block x (by have := (hFg0.2 x hx).2; omega) (fun hm => by have := hFg0.2 x hx; have := hFp1.2 x hm; omega))
    have X4_10 : Ext w4 w10 := X4_9.trans e10
    have X4_11 : Ext w4 w11 := X4_10.trans e11
    have X4_12 : Ext w4 w12 := X4_11.trans e12
    have X4_13 : Ext w4 w13 := X4_12.trans e13
    have X4_14 : Ext w4 w14 := o14.ext X4_13 (fun b hb => by have := (hFp0.2 b hb).1; omega)
    have X4_15 : Ext w4 w15 := o15.ext X4_14 (fun b hb => by have := (hFp1.2 b hb).1; omega)
    refine (eqTerm_any (.mk kr0 mr0 rs0) w15 (.mk kr0 mr0 rs0) _ _ (Lies.mk (k := kr0) (n := mr0) hlg0 hcg0 (MadeK.lies ⟨Lg0, og0_15, hFg0.mono (Nat.le_refl _) (by omega)⟩)) (hMw0.ext X4_15)).mono ?_
    rw [eqTr_self]
    rintro e w16 ⟨rfl, e16⟩
    have s16 : w15.heap.size ≤ w16.heap.size := e16.size
    have ba1_16 := e16.blk ba1_15
    obtain ⟨za10, za11, za12, -, -, -⟩ := own3 ba1_16
    have bw0_16 := e16.blk bw0_15
    obtain ⟨zw00, zw01, zw02, -, -, -⟩ := own3 bw0_16
    have lzw0 := lt_of_blk bw0_16
    have bp1_16 := e16.blk bp1_15
    obtain ⟨zp10, zp11, zp12, -, -, -⟩ := own3 bp1_16
    have bg0_16 := e16.blk bg0_15
    obtain ⟨zg00, zg01, zg02, -, -, -⟩ := own3 bg0_16
    go_wp2_with fail
    clear za10 za11 za12 zw00 zw01 zw02 lzw0 zp10 zp11 zp12 zg00 zg01 zg02
    -- the answer is marked
    have og0_16 := og0_15.mono (fun x hx => e16.heap x (by have := (hFg0.2 x hx).2; omega))
    refine (markTerm_any w16 kr0 mr0 _ _ rs0 Lg0 1 og0_16 hFg0.1 hlg0 hcg0 (by omega) (by omega)).mono ?_
    rintro e w17 ⟨rfl, hOm, o17⟩
    have s17 : w16.heap.size ≤ w17.heap.size := o17.size
    have hKm : LiesK w17 Bg0 (mkS rs0 1) := MadeK.lies ⟨Lg0, hOm, hFg0.mono (Nat.le_refl _) (by omega)⟩
    have hml := mkS_len rs0 1
    have hmc := cnt_mkS rs0 1
    have hmd := hdS_mk rs0 1 (by omega)
    have hlm : (mkS rs0 1).length ≤ cg0 := by omega
    have hH := fun w' (hw : Ext w17 w') => heldTerm_any w' kr0 mr0 Bg0 cg0 (mkS rs0 1) 1 (hKm.ext hw) hlm hcg0 (by omega) (by omega)
    rw [hml, hmd] at hH
    have HH := Lib.hid hH
    clear hH hmd hOm
    have hm0 : decide (1 + 2 * (cnts rs0 : Int) < 0) = false := decide_eq_false (by omega)
    have hmm : (1 + 2 * (cnts rs0 : Int) != 1 + 2 * (cnts rs0 : Int)) = false := by simp
    have ba1_17 := (o17.block _ (by omega) (fun hm => by have := hFg0.2 _ hm; omega)).trans ba1_16
    obtain ⟨za10, za11, za12, -, -, -⟩ := own3 ba1_17
    have bw0_17 := (o17.block _ (by omega) (fun hm => by have := hFg0.2 _ hm; omega)).trans bw0_16
    obtain ⟨zw00, zw01, zw02, -, -, -⟩ := own3 bw0_17
    have lzw0 := lt_of_blk bw0_17
    have bp1_17 := (o17.block _ (by omega) (fun hm => by have := hFg0.2 _ hm; omega)).trans bp1_16
    obtain ⟨zp10, zp11, zp12, -, -, -⟩ := own3 bp1_17
    have bg0_17 := (o17.block _ (by omega) (fun hm => by have := hFg0.2 _ hm; omega)).trans bg0_16
    obtain ⟨zg00, zg01, zg02, -, -, -⟩ := own3 bg0_17
    go_wp2_with fail
    clear za10 za11 za12 zw00 zw01 zw02 lzw0 zp10 zp11 zp12 zg00 zg01 zg02
    refine (HH.out w17 (Ext.refl w17)).mono ?_
    rintro e w18 ⟨rfl, e18⟩
    have s18 : w17.heap.size ≤ w18.heap.size := e18.size
    have ba1_18 := e18.blk ba1_17
    obtain ⟨za10, za11, za12, -, -, -⟩ := own3 ba1_18
    have bw0_18 := e18.blk bw0_17
    obtain ⟨zw00, zw01, zw02, -, -, -⟩ := own3 bw0_18
    have lzw0 := lt_of_blk bw0_18
    have bp1_18 := e18.blk bp1_17
    obtain ⟨zp10, zp11, zp12, -, -, -⟩ := own3 bp1_18
    have bg0_18 := e18.blk bg0_17
    obtain ⟨zg00, zg01, zg02, -, -, -⟩ := own3 bg0_18
    go_wp2_with fail
    clear za10 za11 za12 zw00 zw01 zw02 lzw0 zp10 zp11 zp12 zg00 zg01 zg02
    -- once more
    have X0_13 : Ext w0 w13 := X0_12.trans e13
    have X0_14 : Ext w0 w14 := o14.ext X0_13 (fun b hb => by have := (hFp0.2 b hb).1; omega)
    have X0_15 : Ext w0 w15 := o15.ext X0_14 (fun b hb => by have := (hFp1.2 b hb).1; omega)
    have X0_16 : Ext w0 w16 := X0_15.trans e16
    have X0_17 : Ext w0 w17 := o17.ext X0_16 (fun b hb => by have := (hFg0.2 b hb).1; omega)
    have X0_18 : Ext w0 w18 := X0_17.trans e18
    obtain ⟨za10, za11, za12, -, -, -⟩ := own3 ba1_18
    obtain ⟨zw00, zw01, zw02, -, -, -⟩ := own3 bw0_18
    have lzw0 := lt_of_blk bw0_18
    obtain ⟨zp10, zp11, zp12, -, -, -⟩ := own3 bp1_18
    obtain ⟨zg00, zg01, zg02, -, -, -⟩ := own3 bg0_18
    have hkeep : ∀ w', Ext w18 w' → w'.cell? ⟨w0.heap.size, 0, none⟩ = some (.int .i64 k1) ∧ w'.cell? ⟨w0.heap.size, 1, none⟩ = some (.int .i64 m1) ∧ w'.cell? ⟨w0.heap.size, 2, none⟩ = some (.slice A1 ks1.length cap1) := fun w' hk => ⟨hk.cell za10, hk.cell za11, hk.cell za12⟩
    have HKEEP := Lib.hid hkeep
    clear hkeep
    apply once
    case h =>
      intro REST
      go_region_held3 (fun w' => w'.cell? ⟨w0.heap.size, 0, none⟩ = some (.int .i64 k1) ∧ w'.cell? ⟨w0.heap.size, 1, none⟩ = some (.int .i64 m1) ∧ w'.cell? ⟨w0.heap.size, 2, none⟩ = some (.slice A1 ks1.length cap1))
        (first | exact HKEEP.out _ (by exact (Ext.refl w18).drew) | exact HKEEP.out _ (by exact ((Ext.refl w18).alloc _).drew) | exact HKEEP.out _ (by exact hj0) | exact HKEEP.out _ (by exact hj0.alloc _) | exact HKEEP.out _ (by exact hj1) | exact HKEEP.out _ (by exact hj1.alloc _) | exact HKEEP.out _ (by exact hj2) | exact HKEEP.out _ (by exact hj2.alloc _) | exact HKEEP.out _ (by exact ((hj2.setCell (p := ⟨w18.heap.size, 0, none⟩) (Nat.le_refl _) _).setCell (p := ⟨w18.heap.size, 1, none⟩) (Nat.le_refl _) _).setCell (p := ⟨w18.heap.size, 2, none⟩) (Nat.le_refl _) _) | exact HKEEP.out _ (by exact ((hj2.setCell (p := ⟨wj0.heap.size, 0, none⟩) hj0.size _).setCell (p := ⟨wj0.heap.size, 1, none⟩) hj0.size _).setCell (p := ⟨wj0.heap.size, 2, none⟩) hj0.size _) | exact HKEEP.out _ (by exact ((hj2.setCell (p := ⟨wj1.heap.size, 0, none⟩) hj1.size _).setCell (p := ⟨wj1.heap.size, 1, none⟩) hj1.size _).setCell (p := ⟨wj1.heap.size, 2, none⟩) hj1.size _))
        (first | (go_at_call 15; refine (toDefS_any ks0 n0 cap0 _ A0 (ha0.ext (X0_18.trans (by first | exact (Ext.refl w18).drew | exact ((Ext.refl w18).alloc _).drew))) hn0 hl0 hc0 HCN0.out (by omega)).mono ?_; rintro e wj0 ⟨Bj0, rfl, hMj0, ej0⟩; have hj0 : Ext w18 wj0 := Ext.trans (by first | exact (Ext.refl w18).drew | exact ((Ext.refl w18).alloc _).drew) ej0; (first | (have qj0 := Ext.blk ej0 (heap_alloc_new w18 (.cells #[.int .i64 0, .int .i64 0, .slice none 0 0] 42))) | (have qj0 := trivial))) | (go_at_call 26; refine (toTerm_any (.mk k1 m1 ks1) _ _ (ha1.ext (X0_18.trans (by first | exact (Ext.refl w18).drew | exact ((Ext.refl w18).alloc _).drew | exact hj0 | exact hj0.alloc _))) (by simp only [cnt]; omega)).mono ?_; rintro e wj1 ⟨u, rfl, hMj1, ej1⟩; have hj1 : Ext w18 wj1 := Ext.trans (by first | exact (Ext.refl w18).drew | exact ((Ext.refl w18).alloc _).drew | exact hj0 | exact hj0.alloc _) ej1; have kj0_j1 : Ext wj0 wj1 := (by first | exact ej1 | exact ((Ext.refl _).alloc _).trans ej1); obtain ⟨Bj1, cj1, rfl, hlj1, hcj1, hMKj1⟩ := Made.mk_iff.1 hMj1; (first | (have qj1 := Ext.blk ej1 qj0) | (have qj1 := Ext.blk ej1 (heap_alloc_new wj0 (.cells #[.int .i64 0, .int .i64 0, .slice none 0 0] 42))) | (have qj1 := trivial))) | (go_at_call 41; refine (HI.out _ _ _ _ (hMj0.lies.ext (by first | exact kj0_j1 | exact kj0_j1.alloc _)) (Nat.le_refl _) (by unfold maxLen; omega) (hMj1.lies.ext (by first | exact Ext.refl _ | exact (Ext.refl _).alloc _))).mono ?_; rintro e wj2 ⟨u, rfl, hMh0, ej2⟩; have hj2 : Ext w18 wj2 := Ext.trans (by first | exact (Ext.refl w18).drew | exact ((Ext.refl w18).alloc _).drew | exact hj0 | exact hj0.alloc _ | exact hj1 | exact hj1.alloc _) ej2; have kj1_j2 : Ext wj1 wj2 := (by first | exact ej2 | exact ((Ext.refl _).alloc _).trans ej2); have kj0_j2 := kj0_j1.trans kj1_j2; obtain ⟨Bh0, ch0, rfl, hlh0, hch0, hKh0⟩ := Made.mk_iff.1 hMh0; (first | (have qj2 := Ext.blk ej2 qj1; obtain ⟨sa, sb, sc, fa, fb, fc⟩ := own3 qj2) | (have qj2 := Ext.blk ej2 (heap_alloc_new wj1 (.cells #[.int .i64 0, .int .i64 0, .slice none 0 0] 42)); obtain ⟨sa, sb, sc, fa, fb, fc⟩ := own3 qj2) | (have qj2 := trivial))))
      all_goals (first
        | (have en : Ext w18 (wj2.alloc (.cells #[.int .i64 kr0, .int .i64 mr0, .slice Bh0 rs0.length ch0] 42)) := hj2.alloc _; have bn := heap_alloc_new wj2 (.cells #[.int .i64 kr0, .int .i64 mr0, .slice Bh0 rs0.length ch0] 42); have ln := hMh0.lies.ext ((Ext.refl wj2).alloc (.cells #[.int .i64 kr0, .int .i64 mr0, .slice Bh0 rs0.length ch0] 42)); obtain ⟨w19, hw19⟩ : ∃ x, x = wj2.alloc (.cells #[.int .i64 kr0, .int .i64 mr0, .slice Bh0 rs0.length ch0] 42) := ⟨_, rfl⟩; rw [← hw19]; rw [← hw19] at en bn ln; clear hw19; obtain ⟨g19, hg19⟩ : ∃ x, x = wj2.heap.size := ⟨_, rfl⟩; rw [← hg19] at bn ⊢; clear hg19)
        | (have en : Ext w18 (((wj2.setCell ⟨w18.heap.size, 0, none⟩ (.int .i64 kr0)).setCell ⟨w18.heap.size, 1, none⟩ (.int .i64 mr0)).setCell ⟨w18.heap.size, 2, none⟩ (.slice Bh0 rs0.length ch0)) := (((hj2.setCell (p := ⟨w18.heap.size, 0, none⟩) (Nat.le_refl _) _).setCell (p := ⟨w18.heap.size, 1, none⟩) (Nat.le_refl _) _).setCell (p := ⟨w18.heap.size, 2, none⟩) (Nat.le_refl _) _); have bn := blk_setCell (blk_setCell (blk_setCell qj2 0 (.int .i64 kr0)) 1 (.int .i64 mr0)) 2 (.slice Bh0 rs0.length ch0); have ln := (hMh0.after (((((Above.refl _ _).setCell (p := ⟨w18.heap.size, 0, none⟩) (by first | (show w18.heap.size < (World.alloc _ _).heap.size; simp) | (have := lt_of_blk qj1; exact this) | (have := lt_of_blk qj1; omega)) (.int .i64 kr0))).setCell (p := ⟨w18.heap.size, 1, none⟩) (by first | (show w18.heap.size < (World.alloc _ _).heap.size; simp) | (have := lt_of_blk qj1; exact this) | (have := lt_of_blk qj1; omega)) (.int .i64 mr0)).setCell (p := ⟨w18.heap.size, 2, none⟩) (by first | (show w18.heap.size < (World.alloc _ _).heap.size; simp) | (have := lt_of_blk qj1; exact this) | (have := lt_of_blk qj1; omega)) (.slice Bh0 rs0.length ch0))).lies; obtain ⟨w19, hw19⟩ : ∃ x, x = (((wj2.setCell ⟨w18.heap.size, 0, none⟩ (.int .i64 kr0)).setCell ⟨w18.heap.size, 1, none⟩ (.int .i64 mr0)).setCell ⟨w18.heap.size, 2, none⟩ (.slice Bh0 rs0.length ch0)) := ⟨_, rfl⟩; rw [← hw19]; rw [← hw19] at en bn ln; clear hw19; obtain ⟨g19, hg19⟩ : ∃ x, x = w18.heap.size := ⟨_, rfl⟩; rw [← hg19] at bn ⊢; clear hg19)
        | (have en : Ext w18 (((wj2.setCell ⟨wj0.heap.size, 0, none⟩ (.int .i64 kr0)).setCell ⟨wj0.heap.size, 1, none⟩ (.int .i64 mr0)).setCell ⟨wj0.heap.size, 2, none⟩ (.slice Bh0 rs0.length ch0)) := (((hj2.setCell (p := ⟨wj0.heap.size, 0, none⟩) hj0.size _).setCell (p := ⟨wj0.heap.size, 1, none⟩) hj0.size _).setCell (p := ⟨wj0.heap.size, 2, none⟩) hj0.size _); have bn := blk_setCell (blk_setCell (blk_setCell qj2 0 (.int .i64 kr0)) 1 (.int .i64 mr0)) 2 (.slice Bh0 rs0.length ch0); have ln := (hMh0.after (((((Above.refl _ _).setCell (p := ⟨wj0.heap.size, 0, none⟩) (by first | (show wj0.heap.size < (World.alloc _ _).heap.size; simp) | (have := lt_of_blk qj1; exact this) | (have := lt_of_blk qj1; omega)) (.int .i64 kr0))).setCell (p := ⟨wj0.heap.size, 1, none⟩) (by first | (show wj0.heap.size < (World.alloc _ _).heap.size; simp) | (have := lt_of_blk qj1; exact this) | (have := lt_of_blk qj1; omega)) (.int .i64 mr0)).setCell (p := ⟨wj0.heap.size, 2, none⟩) (by first | (show wj0.heap.size < (World.alloc _ _).heap.size; simp) | (have := lt_of_blk qj1; exact this) | (have := lt_of_blk qj1; omega)) (.slice Bh0 rs0.length ch0))).lies; obtain ⟨w19, hw19⟩ : ∃ x, x = (((wj2.setCell ⟨wj0.heap.size, 0, none⟩ (.int .i64 kr0)).setCell ⟨wj0.heap.size, 1, none⟩ (.int .i64 mr0)).setCell ⟨wj0.heap.size, 2, none⟩ (.slice Bh0 rs0.length ch0)) := ⟨_, rfl⟩; rw [← hw19]; rw [← hw19] at en bn ln; clear hw19; obtain ⟨g19, hg19⟩ : ∃ x, x = wj0.heap.size := ⟨_, rfl⟩; rw [← hg19] at bn ⊢; clear hg19)
        | (have en : Ext w18 (((wj2.setCell ⟨wj1.heap.size, 0, none⟩ (.int .i64 kr0)).setCell ⟨wj1.heap.size, 1, none⟩ (.int .i64 mr0)).setCell ⟨wj1.heap.size, 2, none⟩ (.slice Bh0 rs0.length ch0)) := (((hj2.setCell (p := ⟨wj1.heap.size, 0, none⟩) hj1.size _).setCell (p := ⟨wj1.heap.size, 1, none⟩) hj1.size _).setCell (p := ⟨wj1.heap.size, 2, none⟩) hj1.size _); have bn := blk_setCell (blk_setCell (blk_setCell qj2 0 (.int .i64 kr0)) 1 (.int .i64 mr0)) 2 (.slice Bh0 rs0.length ch0); have ln := (hMh0.after (((((Above.refl _ _).setCell (p := ⟨wj1.heap.size, 0, none⟩) (by first | (show wj1.heap.size < (World.alloc _ _).heap.size; simp) | (have := lt_of_blk qj1; exact this) | (have := lt_of_blk qj1; omega)) (.int .i64 kr0))).setCell (p := ⟨wj1.heap.size, 1, none⟩) (by first | (show wj1.heap.size < (World.alloc _ _).heap.size; simp) | (have := lt_of_blk qj1; exact this) | (have := lt_of_blk qj1; omega)) (.int .i64 mr0)).setCell (p := ⟨wj1.heap.size, 2, none⟩) (by first | (show wj1.heap.size < (World.alloc _ _).heap.size; simp) | (have := lt_of_blk qj1; exact this) | (have := lt_of_blk qj1; omega)) (.slice Bh0 rs0.length ch0))).lies; obtain ⟨w19, hw19⟩ : ∃ x, x = (((wj2.setCell ⟨wj1.heap.size, 0, none⟩ (.int .i64 kr0)).setCell ⟨wj1.heap.size, 1, none⟩ (.int .i64 mr0)).setCell ⟨wj1.heap.size, 2, none⟩ (.slice Bh0 rs0.length ch0)) := ⟨_, rfl⟩; rw [← hw19]; rw [← hw19] at en bn ln; clear hw19; obtain ⟨g19, hg19⟩ : ∃ x, x = wj1.heap.size := ⟨_, rfl⟩; rw [← hg19] at bn ⊢; clear hg19))
      all_goals clear hMh0 hKh0 hcj1 hlj1 hMKj1 hMj1 hMj0
      all_goals rename_i hheld
      all_goals clear hheld
      all_goals revert ln
      all_goals revert bn
      all_goals revert en
      all_goals revert g19
      all_goals revert w19
      all_goals revert hch0
      all_goals revert hlh0
      all_goals revert ch0
      all_goals revert Bh0
      all_goals revert cj1
      all_goals revert Bj1
      all_goals revert Bj0
      all_goals exact REST.out
    case k =>
      intro Bj0 Bj1 cj1 Bh0 ch0 hlh0 hch0 w19 g19 en bn ln
      have e19 := en
      have b19 := bn
      clear en bn
      have lg19 := lt_of_blk b19
      have s19 : w18.heap.size ≤ w19.heap.size := e19.size
      clear HKEEP za10 za11 za12 zw00 zw01 zw02 lzw0 zp10 zp11 zp12 zg00 zg01 zg02
      have hMh0 := ln
      clear ln
      have ba1_19 := e19.blk ba1_18
      obtain ⟨za10, za11, za12, -, -, -⟩ := own3 ba1_19
      have bw0_19 := e19.blk bw0_18
      obtain ⟨zw00, zw01, zw02, -, -, -⟩ := own3 bw0_19
      have lzw0 := lt_of_blk bw0_19
      have bp1_19 := e19.blk bp1_18
      obtain ⟨zp10, zp11, zp12, -, -, -⟩ := own3 bp1_19
      have bg0_19 := e19.blk bg0_18
      obtain ⟨zg00, zg01, zg02, -, -, -⟩ := own3 bg0_19
      obtain ⟨zh00, zh01, zh02, -, -, -⟩ := own3 b19
      have lzh0 := lt_of_blk b19
      go_wp2_with fail
      clear za10 za11 za12 zw00 zw01 zw02 lzw0 zp10 zp11 zp12 zg00 zg01 zg02 zh00 zh01 zh02 lzh0
      have X4_16 : Ext w4 w16 := X4_15.trans e16
      have X4_17 : Ext w4 w17 := o17.ext X4_16 (fun b hb => by have := (hFg0.2 b hb).1; omega)
      have X4_18 : Ext w4 w18 := X4_17.trans e18
      have X4_19 : Ext w4 w19 := X4_18.trans e19
      refine (eqTerm_any (.mk kr0 mr0 rs0) w19 (.mk kr0 mr0 rs0) _ _ (hMh0.ext (Ext.refl w19)) (hMw0.ext X4_19)).mono ?_
      rw [eqTr_self]
      rintro e w20 ⟨rfl, e20⟩
      have s20 : w19.heap.size ≤ w20.heap.size := e20.size
      have ba1_20 := e20.blk ba1_19
      obtain ⟨za10, za11, za12, -, -, -⟩ := own3 ba1_20
      have bw0_20 := e20.blk bw0_19
      obtain ⟨zw00, zw01, zw02, -, -, -⟩ := own3 bw0_20
      have lzw0 := lt_of_blk bw0_20
      have bp1_20 := e20.blk bp1_19
      obtain ⟨zp10, zp11, zp12, -, -, -⟩ := own3 bp1_20
      have bg0_20 := e20.blk bg0_19
      obtain ⟨zg00, zg01, zg02, -, -, -⟩ := own3 bg0_20
      have bh0_20 := e20.blk b19
      obtain ⟨zh00, zh01, zh02, -, -, -⟩ := own3 bh0_20
      have lzh0 := lt_of_blk bh0_20
      go_wp2_with fail
      clear za10 za11 za12 zw00 zw01 zw02 lzw0 zp10 zp11 zp12 zg00 zg01 zg02 zh00 zh01 zh02 lzh0
      obtain ⟨za10, za11, za12, -, -, -⟩ := own3 ba1_20
      obtain ⟨zw00, zw01, zw02, -, -, -⟩ := own3 bw0_20
      have lzw0 := lt_of_blk bw0_20
      obtain ⟨zp10, zp11, zp12, -, -, -⟩ := own3 bp1_20
      obtain ⟨zg00, zg01, zg02, -, -, -⟩ := own3 bg0_20
      obtain ⟨zh00, zh01, zh02, -, -, -⟩ := own3 bh0_20
      have lzh0 := lt_of_blk bh0_20
      go_wp2_with fail
      clear za10 za11 za12 zw00 zw01 zw02 lzw0 zp10 zp11 zp12 zg00 zg01 zg02 zh00 zh01 zh02 lzh0
      have X17_18 : Ext w17 w18 := (Ext.refl w17).trans e18
      have X17_19 : Ext w17 w19 := X17_18.trans e19
      have X17_20 : Ext w17 w20 := X17_19.trans e20
      refine (HH.out w20 X17_20).mono ?_
      rintro e w21 ⟨rfl, e21⟩
      have s21 : w20.heap.size ≤ w21.heap.size := e21.size
      have ba1_21 := e21.blk ba1_20
      obtain ⟨za10, za11, za12, -, -, -⟩ := own3 ba1_21
      have bw0_21 := e21.blk bw0_20
      obtain ⟨zw00, zw01, zw02, -, -, -⟩ := own3 bw0_21
      have lzw0 := lt_of_blk bw0_21
      have bp1_21 := e21.blk bp1_20
      obtain ⟨zp10, zp11, zp12, -, -, -⟩ := own3 bp1_21
      have bg0_21 := e21.blk bg0_20
      obtain ⟨zg00, zg01, zg02, -, -, -⟩ := own3 bg0_21
      have bh0_21 := e21.blk bh0_20
      obtain ⟨zh00, zh01, zh02, -, -, -⟩ := own3 bh0_21
      have lzh0 := lt_of_blk bh0_21
      go_wp2_with fail
      clear za10 za11 za12 zw00 zw01 zw02 lzw0 zp10 zp11 zp12 zg00 zg01 zg02 zh00 zh01 zh02 lzh0
      have X0_19 : Ext w0 w19 := X0_18.trans e19
      have X0_20 : Ext w0 w20 := X0_19.trans e20
      have X0_21 : Ext w0 w21 := X0_20.trans e21
      go_ret
      exact ⟨rfl, X0_21⟩

set_option maxRecDepth 100000 in
theorem lifted (os : Os) (started : os.Started) (H : Type) (enc : TypeId × Value → H) :
    ReturnsInHanded {} Try.checked os 7 .any (Rows.fnExactUnfoldTermSpec.pre6 enc Try.prog Try.f7 Rows.fnExactUnfoldTermRow.domain false) (Rows.fnExactUnfoldTermSpec.post enc Try.prog Try.f7 false true false false) := by
  refine law_lift (C := Try.checked) (fn := Try.f7) (tb := 4) own started (by kernel_rfl) Try.func7 (by kernel_rfl) (by kernel_rfl) rfl Try.underlying4 rfl
    (fun ds h => by
      match ds, h with
      | [d1, d2], _ => exact ⟨rfl, rfl, rfl⟩)
    (ChangeSpec.witness6 (enc := enc) (C := Try.checked) false ⟨#[], #[.slice none 0 0, .agg #[.int .i64 0, .int .i64 0, .slice none 0 0]], []⟩ 8 (by kernel_rfl) (by kernel_rfl) (by kernel_rfl) (by kernel_rfl)) ?_
  intro W base args ds p hval hA hlt
  rw [Try.params7] at hA hval
  obtain ⟨v0, vs0, d0, ds0, p0, q0, hargs, rfl, rfl, h0, r0⟩ := trodAll_cons hA
  obtain ⟨v1, vs1, d1, ds1, p1, q1, rfl, rfl, rfl, h1, r1⟩ := trodAll_cons r0
  obtain ⟨rfl, rfl, rfl⟩ := trodAll_nil r1
  obtain rfl : args = #[v0, v1] := by cases args; simp_all
  obtain ⟨A0, n0, cap0, ks0, rfl, hn0, hl0, hc0, ha0⟩ := open_defs tyDef tyTerm (hval 0 22 v0 rfl rfl) h0
  obtain ⟨a1, ha1⟩ := open_tree tyTerm (hval 1 37 v1 rfl rfl) h1
  exact walk W A0 n0 cap0 ks0 hn0 hl0 hc0 ha0 a1 v1 ha1

theorem over : Rows.fnExactUnfoldTermRow.holds Try.pinned (OpenSpec.ofChange Rows.fnExactUnfoldTermSpec) :=
  OpenClaim.holds_of_wide 7 Try.f7 rfl rfl rfl rfl rfl rfl rfl ⟨rfl, rfl, rfl, rfl, rfl⟩ rfl rfl rfl rfl rfl (by kernel_rfl) Try.func7 (by kernel_rfl)
    (of_decide_eq_true (by kernel_rfl)) (by unfold Func.isWrapper; first | (rw [if_pos (by decide +kernel)]; kernel_rfl) | (rw [if_neg (by decide +kernel)]; exact ⟨rfl, rfl⟩))
    (fun os started H enc _ => lifted os started H enc)

theorem proved : Rows.FnExactUnfoldTermSaid := over
#print axioms proved
end Go.Proofs.Ytpbmlpngafpoeaa.exUnfoldTerm

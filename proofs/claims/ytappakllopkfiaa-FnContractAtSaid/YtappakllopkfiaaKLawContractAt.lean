/-
  PROVED: the law FnContractAt returns true for every input: contractions preserve normal terms.
  CONDITIONS: none.
-/
import Derived.Test.YtappakllopkfiaaKAB
import Derived.Test.YtappakllopkfiaaKBM
import Derived.Test.YtappakllopkfiaaKBP
import Derived.Test.YtappakllopkfiaaKBQ
import Derived.Test.YtappakllopkfiaaKBR
import Derived.Test.YtappakllopkfiaaKBS
import Derived.Deep.RegionHeld3
import Derived.Test.YtappakllopkfiaaRows
namespace Go.Proofs.Ytappakllopkfiaa.contractAtL
open Go.RowKit Go.ChangeShapes Go.WideShapes Go.ChangeAt
set_option linter.unusedVariables false

theorem own : ownKnob Try.prog.godebug = none := by kernel_rfl

theorem same1 (c : Tr) (w : World) (v u : Value) (h : Lies w c v) (k : Lies w c u) : Calls Try.prog 34 #[v, u] w fun e w' => e = .returned (.bool true) ∧ Ext w w' := by
  have := sameTerm_any c w c v u h k
  rw [eqTr_self] at this
  exact this
theorem ca2 {t u : Tr} {p : List Int} {z : Bool} (h : conP t p = (u, z)) (w : World) (v : Value) (hin : Lies w t v) (A : Option Addr) (n cap : Nat) (hp : PFs w A n cap p) : Calls Try.prog 33 #[v, .slice A n cap] w fun e w' => ∃ x, e = .returned (.tuple #[x, .bool z]) ∧ Lies w' u x ∧ Ext w w' := by
  have := contractAt_any t p w v hin A n cap hp
  rw [h] at this
  exact this.mono fun e w' ⟨r, h1, h2, h3⟩ => ⟨r, h1, h2.lies, h3⟩
theorem ca3 {t u : Tr} {p : List Int} {z : Bool} (h : conP t p = (u, z)) (w : World) (v : Value) (hin : Lies w t v) (A : Option Addr) (n cap : Nat) (hp : PFs w A n cap p) : Calls Try.prog 40 #[v, .slice A n cap] w fun e w' => ∃ x, e = .returned (.tuple #[x, .bool z]) ∧ Lies w' u x ∧ Ext w w' := by
  have := specContractAt_any t p w v hin A n cap hp
  rw [h] at this
  exact this
theorem no1 {t x : Tr} {s : Int} (h : normV t 200 = (x, s)) (w : World) (v : Value) (hin : Lies w t v) : Calls Try.prog 41 #[v, .int .i64 200] w fun e w' => ∃ r, e = .returned (.tuple #[r, .int .i64 s]) ∧ Lies w' x r ∧ Ext w w' := by
  have := normalize_any t 200 w v hin
  rw [h] at this
  exact this.mono fun e w' ⟨r, h1, h2, h3⟩ => ⟨r, h1, h2.lies, h3⟩
theorem mf1 {t : Tr} {m : Int} (h : mxV t = m) (w : World) (v : Value) (hin : Lies w t v) : Calls Try.prog 42 #[v] w fun e w' => e = .returned (.int .i64 m) ∧ Ext w w' := by
  have := maxFreeTop_any t w v hin
  rw [h] at this
  exact this
theorem caFacts {t x : Tr} {p : List Int} (h : conP t p = (x, true)) : ∃ (a b : Tr) (f g mx mt : Int), normV t 200 = (a, f) ∧ normV x 200 = (b, g) ∧ mxV x = mx ∧ mxV t = mt ∧ mx ≤ mt ∧ (f = 0 → g = 0 → a = b) := by
  unfold conP at h
  split at h
  · rename_i hh
    rw [Bool.and_eq_true] at hh
    unfold conV at h
    split at h
    · rename_i hx
      simp only [Prod.mk.injEq, and_true] at h
      subst h
      refine ⟨(normV t 200).1, (normV (conA t p) 200).1, (normV t 200).2, (normV (conA t p) 200).2, mxV (conA t p), mxV t, rfl, rfl, rfl, rfl, ?_, ?_⟩
      · unfold mxV
        rw [if_pos hx, if_pos hh.1]
        exact mxf_conA hh.2 (Int.le_refl _)
      · have e1 : normV t 200 = nrmC 200 t := by unfold normV; rw [hh.1]; rfl
        have e2 : normV (conA t p) 200 = nrmC 200 (conA t p) := by unfold normV; rw [hx]; rfl
        rw [e1, e2]
        intro h1 h2
        obtain ⟨r1, n1, -⟩ := nrmC_reds 200 t (nrmC 200 t).1 hh.1 (by rw [← h1])
        obtain ⟨r2, n2, -⟩ := nrmC_reds 200 _ (nrmC 200 (conA t p)).1 hx (by rw [← h2])
        exact Reds.unique r1 ((Reds.one (con_par hh.2)).trans r2) n1 n2
    · cases h
  · cases h
set_option maxRecDepth 100000 in
set_option maxHeartbeats 40000000 in
theorem walk (w0 : World) (A : Option Addr) (cap : Nat) (bs : List Int) (hl : bs.length ≤ cap) (hc : cap ≤ maxLen) (hB : Bytes w0 w0.heap.size A bs) :
    Calls Try.prog 8 #[.slice A bs.length cap] w0 fun e w' => e = .returned (.bool true) ∧ Ext w0 w' := by
  have hcc := hc
  unfold maxLen at hcc
  by_cases hn : 1048576 < (bs.length : Int)
  · have d1 : decide (1048576 < (bs.length : Int)) = true := decide_eq_true hn
    go_enter Try.func8, Try.ntmps8
    go_wp2_with fail
    go_ret
    exact ⟨rfl, Ext.refl _⟩
  have d1 : decide (1048576 < (bs.length : Int)) = false := decide_eq_false hn
  go_enter Try.func8, Try.ntmps8
  go_wp2_with fail
  refine (drawContractAt_any w0 A cap bs hl hc hB).mono ?_
  rintro e w1 ⟨⟨k0, m0, ks0⟩, u, x, p, rfl, hct, hpl, hL0, hPA, e1⟩
  have s1 : w0.heap.size ≤ w1.heap.size := e1.size
  obtain ⟨A0, cap0, rfl, hl0, hc0, hK0⟩ := Lies.mk_iff.1 hL0
  obtain ⟨Ap, cp, rfl, hp1, hp2, hNp⟩ := hPA.slice (fun _ h => h)
  obtain ⟨np, hnp⟩ : ∃ n, p.length = n := ⟨_, rfl⟩
  have HPF : PFs w1 Ap np cp p := ⟨hnp, by omega, hp2, hNp⟩
  rw [hnp] at hpl hp1 ⊢
  have hnp9 : np ≤ 1000 := by omega
  clear hnp hNp hPA
  obtain ⟨w2, hw2⟩ : ∃ w2, w2 = w1.alloc (.cells #[.int .i64 k0, .int .i64 m0, .slice A0 ks0.length cap0] 44) := ⟨_, rfl⟩
  have e2 : Ext w1 w2 := hw2 ▸ (Ext.refl w1).alloc _
  have b2 := heap_alloc_new w1 (.cells #[.int .i64 k0, .int .i64 m0, .slice A0 ks0.length cap0] 44)
  rw [← hw2] at b2
  have s2 : w1.heap.size < w2.heap.size := lt_of_blk b2
  go_wp2_with fail
  rw [← hw2]
  clear hw2
  obtain ⟨⟨k1, m1, ks1⟩, z, hz⟩ : ∃ x z, conP (.mk k0 m0 ks0) p = (x, z) := ⟨_, _, rfl⟩
  have HZ := Lib.hid hz
  clear hz
  have X1_2 : Ext w1 w2 := (Ext.refl w1).trans e2
  refine (ca2 HZ.out w2 _ (hL0.ext X1_2) Ap np cp (HPF.ext X1_2)).mono ?_
  rintro e w3 ⟨u, rfl, hL1, e3⟩
  have s3 : w2.heap.size ≤ w3.heap.size := e3.size
  obtain ⟨A1, cap1, rfl, hl1, hc1, hK1⟩ := Lies.mk_iff.1 hL1
  obtain ⟨w4, hw4⟩ : ∃ w4, w4 = w3.alloc (.cells #[.int .i64 k1, .int .i64 m1, .slice A1 ks1.length cap1] 44) := ⟨_, rfl⟩
  have e4 : Ext w3 w4 := hw4 ▸ (Ext.refl w3).alloc _
  have b4 := heap_alloc_new w3 (.cells #[.int .i64 k1, .int .i64 m1, .slice A1 ks1.length cap1] 44)
  rw [← hw4] at b4
  have s4 : w3.heap.size < w4.heap.size := lt_of_blk b4
  have ba0_3 := e3.blk b2
  obtain ⟨za00, za01, za02, -, -, -⟩ := own3 ba0_3
  have lza0 := lt_of_blk ba0_3
  go_wp2_with fail
  rw [← hw4]
  clear hw4
  clear za00 za01 za02 lza0
  have X1_3 : Ext w1 w3 := X1_2.trans e3
  have X1_4 : Ext w1 w4 := X1_3.trans e4
  refine (ca3 HZ.out w4 _ (hL0.ext X1_4) Ap np cp (HPF.ext X1_4)).mono ?_
  rintro e w5 ⟨u, rfl, hL2, e5⟩
  have s5 : w4.heap.size ≤ w5.heap.size := e5.size
  obtain ⟨A2, cap2, rfl, hl2, hc2, hK2⟩ := Lies.mk_iff.1 hL2
  obtain ⟨w6, hw6⟩ : ∃ w6, w6 = w5.alloc (.cells #[.int .i64 k1, .int .i64 m1, .slice A2 ks1.length cap2] 44) := ⟨_, rfl⟩
  have e6 : Ext w5 w6 := hw6 ▸ (Ext.refl w5).alloc _
  have b6 := heap_alloc_new w5 (.cells #[.int .i64 k1, .int .i64 m1, .slice A2 ks1.length cap2] 44)
  rw [← hw6] at b6
  have s6 : w5.heap.size < w6.heap.size := lt_of_blk b6
  have hz1 : (z != z) = false := by simp
  have hz2 : (z == z) = true := by simp
  have ba0_4 := e4.blk ba0_3
  have ba0_5 := e5.blk ba0_4
  obtain ⟨za00, za01, za02, -, -, -⟩ := own3 ba0_5
  have lza0 := lt_of_blk ba0_5
  have ba1_5 := e5.blk b4
  obtain ⟨za10, za11, za12, -, -, -⟩ := own3 ba1_5
  have lza1 := lt_of_blk ba1_5
  go_wp2_with fail
  rw [← hw6]
  clear hw6
  clear za00 za01 za02 lza0 za10 za11 za12 lza1
  have X3_4 : Ext w3 w4 := (Ext.refl w3).trans e4
  have X3_5 : Ext w3 w5 := X3_4.trans e5
  have X3_6 : Ext w3 w6 := X3_5.trans e6
  have X5_6 : Ext w5 w6 := (Ext.refl w5).trans e6
  refine (same1 _ w6 _ _ (hL1.ext X3_6) (hL2.ext X5_6)).mono ?_
  rintro e w7 ⟨rfl, e7⟩
  have s7 : w6.heap.size ≤ w7.heap.size := e7.size
  cases z with
  | false =>
    have ba0_6 := e6.blk ba0_5
    have ba0_7 := e7.blk ba0_6
    obtain ⟨za00, za01, za02, -, -, -⟩ := own3 ba0_7
    have lza0 := lt_of_blk ba0_7
    have ba1_6 := e6.blk ba1_5
    have ba1_7 := e7.blk ba1_6
    obtain ⟨za10, za11, za12, -, -, -⟩ := own3 ba1_7
    have lza1 := lt_of_blk ba1_7
    have ba2_7 := e7.blk b6
    obtain ⟨za20, za21, za22, -, -, -⟩ := own3 ba2_7
    have lza2 := lt_of_blk ba2_7
    go_wp2_with fail
    clear za00 za01 za02 lza0 za10 za11 za12 lza1 za20 za21 za22 lza2
    have X3_7 : Ext w3 w7 := X3_6.trans e7
    have X5_7 : Ext w5 w7 := X5_6.trans e7
    refine (same1 _ w7 _ _ (hL1.ext X3_7) (hL2.ext X5_7)).mono ?_
    rintro e w8 ⟨rfl, e8⟩
    have s8 : w7.heap.size ≤ w8.heap.size := e8.size
    have ba0_8 := e8.blk ba0_7
    obtain ⟨za00, za01, za02, -, -, -⟩ := own3 ba0_8
    have lza0 := lt_of_blk ba0_8
    have ba1_8 := e8.blk ba1_7
    obtain ⟨za10, za11, za12, -, -, -⟩ := own3 ba1_8
    have lza1 := lt_of_blk ba1_8
    have ba2_8 := e8.blk ba2_7
    obtain ⟨za20, za21, za22, -, -, -⟩ := own3 ba2_8
    have lza2 := lt_of_blk ba2_8
    go_wp2_with fail
    clear za00 za01 za02 lza0 za10 za11 za12 lza1 za20 za21 za22 lza2
    have X0_1 : Ext w0 w1 := (Ext.refl w0).trans e1
    have X0_2 : Ext w0 w2 := X0_1.trans e2
    have X0_3 : Ext w0 w3 := X0_2.trans e3
    have X0_4 : Ext w0 w4 := X0_3.trans e4
    have X0_5 : Ext w0 w5 := X0_4.trans e5
    have X0_6 : Ext w0 w6 := X0_5.trans e6
    have X0_7 : Ext w0 w7 := X0_6.trans e7
    have X0_8 : Ext w0 w8 := X0_7.trans e8
    go_ret
    exact ⟨rfl, X0_8⟩
  | true =>
    obtain ⟨⟨k3, m3, ks3⟩, ⟨k4, m4, ks4⟩, f, q, mx, mt, f1, f2, f3, f4, f5, f6⟩ := caFacts HZ.out
    have F1 := Lib.hid f1
    have F2 := Lib.hid f2
    have F3 := Lib.hid f3
    have F4 := Lib.hid f4
    have F6 := Lib.hid f6
    have hmm : decide (mx ≤ mt) = true := decide_eq_true f5
    clear f1 f2 f3 f4 f5 f6 hz1 hz2
    have ba0_6 := e6.blk ba0_5
    have ba0_7 := e7.blk ba0_6
    obtain ⟨za00, za01, za02, -, -, -⟩ := own3 ba0_7
    have lza0 := lt_of_blk ba0_7
    have ba1_6 := e6.blk ba1_5
    have ba1_7 := e7.blk ba1_6
    obtain ⟨za10, za11, za12, -, -, -⟩ := own3 ba1_7
    have lza1 := lt_of_blk ba1_7
    have ba2_7 := e7.blk b6
    obtain ⟨za20, za21, za22, -, -, -⟩ := own3 ba2_7
    have lza2 := lt_of_blk ba2_7
    go_wp2_with fail
    clear za00 za01 za02 lza0 za10 za11 za12 lza1 za20 za21 za22 lza2
    have X1_5 : Ext w1 w5 := X1_4.trans e5
    have X1_6 : Ext w1 w6 := X1_5.trans e6
    have X1_7 : Ext w1 w7 := X1_6.trans e7
    refine (no1 F1.out w7 _ (hL0.ext X1_7)).mono ?_
    rintro e w8 ⟨u, rfl, hL3, e8⟩
    have s8 : w7.heap.size ≤ w8.heap.size := e8.size
    obtain ⟨A3, cap3, rfl, hl3, hc3, hK3⟩ := Lies.mk_iff.1 hL3
    obtain ⟨w9, hw9⟩ : ∃ w9, w9 = w8.alloc (.cells #[.int .i64 k3, .int .i64 m3, .slice A3 ks3.length cap3] 44) := ⟨_, rfl⟩
    have e9 : Ext w8 w9 := hw9 ▸ (Ext.refl w8).alloc _
    have b9 := heap_alloc_new w8 (.cells #[.int .i64 k3, .int .i64 m3, .slice A3 ks3.length cap3] 44)
    rw [← hw9] at b9
    have s9 : w8.heap.size < w9.heap.size := lt_of_blk b9
    have ba0_8 := e8.blk ba0_7
    obtain ⟨za00, za01, za02, -, -, -⟩ := own3 ba0_8
    have lza0 := lt_of_blk ba0_8
    have ba1_8 := e8.blk ba1_7
    obtain ⟨za10, za11, za12, -, -, -⟩ := own3 ba1_8
    have lza1 := lt_of_blk ba1_8
    have ba2_8 := e8.blk ba2_7
    obtain ⟨za20, za21, za22, -, -, -⟩ := own3 ba2_8
    have lza2 := lt_of_blk ba2_8
    go_wp2_with fail
    rw [← hw9]
    clear hw9
    clear za00 za01 za02 lza0 za10 za11 za12 lza1 za20 za21 za22 lza2
    have X3_7 : Ext w3 w7 := X3_6.trans e7
    have X3_8 : Ext w3 w8 := X3_7.trans e8
    have X3_9 : Ext w3 w9 := X3_8.trans e9
    refine (no1 F2.out w9 _ (hL1.ext X3_9)).mono ?_
    rintro e w10 ⟨u, rfl, hL4, e10⟩
    have s10 : w9.heap.size ≤ w10.heap.size := e10.size
    obtain ⟨A4, cap4, rfl, hl4, hc4, hK4⟩ := Lies.mk_iff.1 hL4
    obtain ⟨w11, hw11⟩ : ∃ w11, w11 = w10.alloc (.cells #[.int .i64 k4, .int .i64 m4, .slice A4 ks4.length cap4] 44) := ⟨_, rfl⟩
    have e11 : Ext w10 w11 := hw11 ▸ (Ext.refl w10).alloc _
    have b11 := heap_alloc_new w10 (.cells #[.int .i64 k4, .int .i64 m4, .slice A4 ks4.length cap4] 44)
    rw [← hw11] at b11
    have s11 : w10.heap.size < w11.heap.size := lt_of_blk b11
    have hff : (f != 0) = !(f == 0) := rfl
    clear hff
    by_cases hf : f = 0
    · subst hf
      by_cases hq : q = 0
      · subst hq
        have heq := F6.out rfl rfl
        simp only [Tr.mk.injEq] at heq
        obtain ⟨rfl, rfl, rfl⟩ := heq
        have ba0_9 := e9.blk ba0_8
        have ba0_10 := e10.blk ba0_9
        obtain ⟨za00, za01, za02, -, -, -⟩ := own3 ba0_10
        have lza0 := lt_of_blk ba0_10
        have ba1_9 := e9.blk ba1_8
        have ba1_10 := e10.blk ba1_9
        obtain ⟨za10, za11, za12, -, -, -⟩ := own3 ba1_10
        have lza1 := lt_of_blk ba1_10
        have ba2_9 := e9.blk ba2_8
        have ba2_10 := e10.blk ba2_9
        obtain ⟨za20, za21, za22, -, -, -⟩ := own3 ba2_10
        have lza2 := lt_of_blk ba2_10
        have ba3_10 := e10.blk b9
        obtain ⟨za30, za31, za32, -, -, -⟩ := own3 ba3_10
        have lza3 := lt_of_blk ba3_10
        go_wp2_with fail
        rw [← hw11]
        clear hw11
        clear za00 za01 za02 lza0 za10 za11 za12 lza1 za20 za21 za22 lza2 za30 za31 za32 lza3
        have X8_9 : Ext w8 w9 := (Ext.refl w8).trans e9
        have X8_10 : Ext w8 w10 := X8_9.trans e10
        have X8_11 : Ext w8 w11 := X8_10.trans e11
        have X10_11 : Ext w10 w11 := (Ext.refl w10).trans e11
        have ba0_11 := e11.blk ba0_10
        obtain ⟨za00, za01, za02, -, -, -⟩ := own3 ba0_11
        have lza0 := lt_of_blk ba0_11
        have ba1_11 := e11.blk ba1_10
        obtain ⟨za10, za11, za12, -, -, -⟩ := own3 ba1_11
        have lza1 := lt_of_blk ba1_11
        have ba2_11 := e11.blk ba2_10
        obtain ⟨za20, za21, za22, -, -, -⟩ := own3 ba2_11
        have lza2 := lt_of_blk ba2_11
        have ba3_11 := e11.blk ba3_10
        obtain ⟨za30, za31, za32, -, -, -⟩ := own3 ba3_11
        have lza3 := lt_of_blk ba3_11
        obtain ⟨za40, za41, za42, -, -, -⟩ := own3 b11
        have lza4 := lt_of_blk b11
        have X1_8 : Ext w1 w8 := X1_7.trans e8
        have X1_9 : Ext w1 w9 := X1_8.trans e9
        have X1_10 : Ext w1 w10 := X1_9.trans e10
        have X1_11 : Ext w1 w11 := X1_10.trans e11
        have X3_10 : Ext w3 w10 := X3_9.trans e10
        have X3_11 : Ext w3 w11 := X3_10.trans e11
        have X0_1 : Ext w0 w1 := (Ext.refl w0).trans e1
        have X0_2 : Ext w0 w2 := X0_1.trans e2
        have X0_3 : Ext w0 w3 := X0_2.trans e3
        have X0_4 : Ext w0 w4 := X0_3.trans e4
        have X0_5 : Ext w0 w5 := X0_4.trans e5
        have X0_6 : Ext w0 w6 := X0_5.trans e6
        have X0_7 : Ext w0 w7 := X0_6.trans e7
        have X0_8 : Ext w0 w8 := X0_7.trans e8
        have X0_9 : Ext w0 w9 := X0_8.trans e9
        have X0_10 : Ext w0 w10 := X0_9.trans e10
        have X0_11 : Ext w0 w11 := X0_10.trans e11
        have HKEEP := Lib.hid (show ∀ w', Ext w11 w' → w'.cell? ⟨w1.heap.size, 0, none⟩ = some (.int .i64 k0) ∧ w'.cell? ⟨w1.heap.size, 1, none⟩ = some (.int .i64 m0) ∧ w'.cell? ⟨w1.heap.size, 2, none⟩ = some (.slice A0 ks0.length cap0) ∧ w'.cell? ⟨w3.heap.size, 0, none⟩ = some (.int .i64 k1) ∧ w'.cell? ⟨w3.heap.size, 1, none⟩ = some (.int .i64 m1) ∧ w'.cell? ⟨w3.heap.size, 2, none⟩ = some (.slice A1 ks1.length cap1) ∧ w'.cell? ⟨w8.heap.size, 0, none⟩ = some (.int .i64 k3) ∧ w'.cell? ⟨w8.heap.size, 1, none⟩ = some (.int .i64 m3) ∧ w'.cell? ⟨w8.heap.size, 2, none⟩ = some (.slice A3 ks3.length cap3) ∧ w'.cell? ⟨w10.heap.size, 0, none⟩ = some (.int .i64 k3) ∧ w'.cell? ⟨w10.heap.size, 1, none⟩ = some (.int .i64 m3) ∧ w'.cell? ⟨w10.heap.size, 2, none⟩ = some (.slice A4 ks3.length cap4) from fun w' hk => ⟨hk.cell za00, hk.cell za01, hk.cell za02, hk.cell za10, hk.cell za11, hk.cell za12, hk.cell za30, hk.cell za31, hk.cell za32, hk.cell za40, hk.cell za41, hk.cell za42⟩)
        refine wp_region_held_drew (S := fun w' => w'.cell? ⟨w1.heap.size, 0, none⟩ = some (.int .i64 k0) ∧ w'.cell? ⟨w1.heap.size, 1, none⟩ = some (.int .i64 m0) ∧ w'.cell? ⟨w1.heap.size, 2, none⟩ = some (.slice A0 ks0.length cap0) ∧ w'.cell? ⟨w3.heap.size, 0, none⟩ = some (.int .i64 k1) ∧ w'.cell? ⟨w3.heap.size, 1, none⟩ = some (.int .i64 m1) ∧ w'.cell? ⟨w3.heap.size, 2, none⟩ = some (.slice A1 ks1.length cap1) ∧ w'.cell? ⟨w8.heap.size, 0, none⟩ = some (.int .i64 k3) ∧ w'.cell? ⟨w8.heap.size, 1, none⟩ = some (.int .i64 m3) ∧ w'.cell? ⟨w8.heap.size, 2, none⟩ = some (.slice A3 ks3.length cap3) ∧ w'.cell? ⟨w10.heap.size, 0, none⟩ = some (.int .i64 k3) ∧ w'.cell? ⟨w10.heap.size, 1, none⟩ = some (.int .i64 m3) ∧ w'.cell? ⟨w10.heap.size, 2, none⟩ = some (.slice A4 ks3.length cap4)) (by kernel_rfl) (HKEEP.out _ (Ext.refl w11).drew) (fun hHeld => ?_)
        refine wpAnyH_take (i := 0) (v := ?va0) rfl (by kernel_rfl) (by kernel_rfl) (by kernel_rfl) (fun _ _ _ h => h) (Or.inl ⟨by rfl, ?hya0⟩) (by assumption) ?resta0
        case hya0 => (intro w hSw; (try dsimp only at hSw); go_simp; (try with_reducible rfl))
        try simp only [Act.put, List.getElem_toArray, List.getElem_cons_zero, List.setIfInBounds_toArray, List.set_cons_zero, List.set_cons_succ]
        refine wpAnyH_take (i := 2) (v := ?va2) rfl (by kernel_rfl) (by kernel_rfl) (by kernel_rfl) (fun _ _ _ h => h) (Or.inl ⟨by rfl, ?hya2⟩) (by assumption) ?resta2
        case hya2 => (intro w hSw; (try dsimp only at hSw); go_simp; (try with_reducible rfl))
        try simp only [Act.put, List.getElem_toArray, List.getElem_cons_succ, List.getElem_cons_zero, List.setIfInBounds_toArray, List.set_cons_zero, List.set_cons_succ]
        refine wpAnyH_ready (rs := [1]) (by kernel_rfl) (by simp) ?_
        refine AllReadyH.cons rfl (fun K hK => ?_) AllReadyH.nil
        (go_simp; go_at_call 42; refine (mf1 F3.out _ _ ((hL1.ext X3_11).ext (Ext.refl w11).drew)).mono ?_; rintro e wd0 ⟨rfl, ed0⟩; dsimp only)
        refine hK.out _ _ (HKEEP.out _ ((Ext.refl w11).drew.trans ed0)) (fun hHeld => ?_)
        clear hK K
        try simp only [Act.put, List.getElem_toArray, List.getElem_cons_succ, List.getElem_cons_zero, List.setIfInBounds_toArray, List.set_cons_zero, List.set_cons_succ]
        refine wpAnyH_ready (rs := [3]) (by kernel_rfl) (by simp) ?_
        refine AllReadyH.cons rfl (fun K hK => ?_) AllReadyH.nil
        (go_simp; go_at_call 42; refine (mf1 F4.out _ _ ((hL0.ext X1_11).ext ((Ext.refl w11).drew.trans ed0))).mono ?_; rintro e wd1 ⟨rfl, ed1⟩; dsimp only)
        refine hK.out _ _ (HKEEP.out _ (((Ext.refl w11).drew.trans ed0).trans ed1)) (fun hHeld => ?_)
        clear hK K
        try simp only [Act.put, List.getElem_toArray, List.getElem_cons_succ, List.getElem_cons_zero, List.setIfInBounds_toArray, List.set_cons_zero, List.set_cons_succ]
        refine wpAnyH_take (i := 4) (v := ?va4) rfl (by kernel_rfl) (by kernel_rfl) (by kernel_rfl) (fun _ _ _ h => h) (Or.inl ⟨by rfl, ?hya4⟩) (by assumption) ?resta4
        case hya4 => (intro w hSw; (try dsimp only at hSw); go_simp; (try with_reducible rfl))
        try simp only [Act.put, List.getElem_toArray, List.getElem_cons_succ, List.getElem_cons_zero, List.setIfInBounds_toArray, List.set_cons_zero, List.set_cons_succ]
        refine wpAnyH_take (i := 5) (v := ?va5) rfl (by kernel_rfl) (by kernel_rfl) (by kernel_rfl) (fun _ _ _ h => h) (Or.inl ⟨by rfl, ?hya5⟩) (by assumption) ?resta5
        case hya5 => (intro w hSw; (try dsimp only at hSw); go_simp; (try with_reducible rfl))
        try simp only [Act.put, List.getElem_toArray, List.getElem_cons_succ, List.getElem_cons_zero, List.setIfInBounds_toArray, List.set_cons_zero, List.set_cons_succ]
        refine wpAnyH_take (i := 6) (v := ?va6) rfl (by kernel_rfl) (by kernel_rfl) (by kernel_rfl) (fun _ _ _ h => h) (Or.inl ⟨by rfl, ?hya6⟩) (by assumption) ?resta6
        case hya6 => (intro w hSw; (try dsimp only at hSw); go_simp; (try with_reducible rfl))
        try simp only [Act.put, List.getElem_toArray, List.getElem_cons_succ, List.getElem_cons_zero, List.setIfInBounds_toArray, List.set_cons_zero, List.set_cons_succ]
        refine wpAnyH_take (i := 7) (v := ?va7) rfl (by kernel_rfl) (by kernel_rfl) (by kernel_rfl) (fun _ _ _ h => h) (Or.inl ⟨by rfl, ?hya7⟩) (by assumption) ?resta7
        case hya7 => (intro w hSw; (try dsimp only at hSw); go_simp; (try with_reducible rfl))
        try simp only [Act.put, List.getElem_toArray, List.getElem_cons_succ, List.getElem_cons_zero, List.setIfInBounds_toArray, List.set_cons_zero, List.set_cons_succ]
        refine wpAnyH_take (i := 8) (v := ?va8) rfl (by kernel_rfl) (by kernel_rfl) (by kernel_rfl) (fun _ _ _ h => h) (Or.inl ⟨by rfl, ?hya8⟩) (by assumption) ?resta8
        case hya8 => (intro w hSw; (try dsimp only at hSw); go_simp; (try with_reducible rfl))
        try simp only [Act.put, List.getElem_toArray, List.getElem_cons_succ, List.getElem_cons_zero, List.setIfInBounds_toArray, List.set_cons_zero, List.set_cons_succ]
        refine wpAnyH_take (i := 9) (v := ?va9) rfl (by kernel_rfl) (by kernel_rfl) (by kernel_rfl) (fun _ _ _ h => h) (Or.inl ⟨by rfl, ?hya9⟩) (by assumption) ?resta9
        case hya9 => (intro w hSw; (try dsimp only at hSw); go_simp; (try with_reducible rfl))
        try simp only [Act.put, List.getElem_toArray, List.getElem_cons_succ, List.getElem_cons_zero, List.setIfInBounds_toArray, List.set_cons_zero, List.set_cons_succ]
        refine wpAnyH_take (i := 10) (v := ?va10) rfl (by kernel_rfl) (by kernel_rfl) (by kernel_rfl) (fun _ _ _ h => h) (Or.inl ⟨by rfl, ?hya10⟩) (by assumption) ?resta10
        case hya10 => (intro w hSw; (try dsimp only at hSw); go_simp; (try with_reducible rfl))
        try simp only [Act.put, List.getElem_toArray, List.getElem_cons_succ, List.getElem_cons_zero, List.setIfInBounds_toArray, List.set_cons_zero, List.set_cons_succ]
        refine wpAnyH_take (i := 11) (v := ?va11) rfl (by kernel_rfl) (by kernel_rfl) (by kernel_rfl) (fun _ _ _ h => h) (Or.inl ⟨by rfl, ?hya11⟩) (by assumption) ?resta11
        case hya11 => (intro w hSw; (try dsimp only at hSw); go_simp; (try with_reducible rfl))
        try simp only [Act.put, List.getElem_toArray, List.getElem_cons_succ, List.getElem_cons_zero, List.setIfInBounds_toArray, List.set_cons_zero, List.set_cons_succ]
        refine wpAnyH_take (i := 12) (v := ?va12) rfl (by kernel_rfl) (by kernel_rfl) (by kernel_rfl) (fun _ _ _ h => h) (Or.inl ⟨by rfl, ?hya12⟩) (by assumption) ?resta12
        case hya12 => (intro w hSw; (try dsimp only at hSw); go_simp; (try with_reducible rfl))
        try simp only [Act.put, List.getElem_toArray, List.getElem_cons_succ, List.getElem_cons_zero, List.setIfInBounds_toArray, List.set_cons_zero, List.set_cons_succ]
        refine wpAnyH_take (i := 13) (v := ?va13) rfl (by kernel_rfl) (by kernel_rfl) (by kernel_rfl) (fun _ _ _ h => h) (Or.inl ⟨by rfl, ?hya13⟩) (by assumption) ?resta13
        case hya13 => (intro w hSw; (try dsimp only at hSw); go_simp; (try with_reducible rfl))
        try simp only [Act.put, List.getElem_toArray, List.getElem_cons_succ, List.getElem_cons_zero, List.setIfInBounds_toArray, List.set_cons_zero, List.set_cons_succ]
        refine wpAnyH_take (i := 14) (v := ?va14) rfl (by kernel_rfl) (by kernel_rfl) (by kernel_rfl) (fun _ _ _ h => h) (Or.inl ⟨by rfl, ?hya14⟩) (by assumption) ?resta14
        case hya14 => (intro w hSw; (try dsimp only at hSw); go_simp; (try with_reducible rfl))
        try simp only [Act.put, List.getElem_toArray, List.getElem_cons_succ, List.getElem_cons_zero, List.setIfInBounds_toArray, List.set_cons_zero, List.set_cons_succ]
        refine wpAnyH_ready (rs := [15]) (by kernel_rfl) (by simp) ?_
        refine AllReadyH.cons rfl (fun K hK => ?_) AllReadyH.nil
        (go_simp; go_at_call 34; refine (same1 _ _ _ _ ((hL3.ext X8_11).ext (((Ext.refl w11).drew.trans ed0).trans ed1)) ((hL4.ext X10_11).ext (((Ext.refl w11).drew.trans ed0).trans ed1))).mono ?_; rintro e wd2 ⟨rfl, ed2⟩; dsimp only)
        refine hK.out _ _ (HKEEP.out _ ((((Ext.refl w11).drew.trans ed0).trans ed1).trans ed2)) (fun hHeld => ?_)
        clear hK K
        try simp only [Act.put, List.getElem_toArray, List.getElem_cons_succ, List.getElem_cons_zero, List.setIfInBounds_toArray, List.set_cons_zero, List.set_cons_succ]
        refine wpAnyH_take (i := 16) (v := ?va16) rfl (by kernel_rfl) (by kernel_rfl) (by kernel_rfl) (fun _ _ _ h => h) (Or.inl ⟨by rfl, ?hya16⟩) (by assumption) ?resta16
        case hya16 => (intro w hSw; (try dsimp only at hSw); go_simp; (try with_reducible rfl))
        try simp only [Act.put, List.getElem_toArray, List.getElem_cons_succ, List.getElem_cons_zero, List.setIfInBounds_toArray, List.set_cons_zero, List.set_cons_succ]
        refine wpAnyH_take (i := 17) (v := ?va17) rfl (by kernel_rfl) (by kernel_rfl) (by kernel_rfl) (fun _ _ _ h => h) (Or.inl ⟨by rfl, ?hya17⟩) (by assumption) ?resta17
        case hya17 => (intro w hSw; (try dsimp only at hSw); go_simp; (try with_reducible rfl))
        try simp only [Act.put, List.getElem_toArray, List.getElem_cons_succ, List.getElem_cons_zero, List.setIfInBounds_toArray, List.set_cons_zero, List.set_cons_succ]
        refine wpAnyH_take (i := 18) (v := ?va18) rfl (by kernel_rfl) (by kernel_rfl) (by kernel_rfl) (fun _ _ _ h => h) (Or.inl ⟨by rfl, ?hya18⟩) (by assumption) ?resta18
        case hya18 => (intro w hSw; (try dsimp only at hSw); go_simp; (try with_reducible rfl))
        try simp only [Act.put, List.getElem_toArray, List.getElem_cons_succ, List.getElem_cons_zero, List.setIfInBounds_toArray, List.set_cons_zero, List.set_cons_succ]
        refine wpAnyH_done (by kernel_rfl) ?_ _
        have hfin := ((Ext.refl w11).drew.trans ed0).trans ed1
        go_wp2_with fail
        go_ret
        exact ⟨rfl, (X0_11).trans hfin |>.trans ed2⟩
      · have hq1 : (q != 0) = true := by simpa using hq
        have ba0_9 := e9.blk ba0_8
        have ba0_10 := e10.blk ba0_9
        obtain ⟨za00, za01, za02, -, -, -⟩ := own3 ba0_10
        have lza0 := lt_of_blk ba0_10
        have ba1_9 := e9.blk ba1_8
        have ba1_10 := e10.blk ba1_9
        obtain ⟨za10, za11, za12, -, -, -⟩ := own3 ba1_10
        have lza1 := lt_of_blk ba1_10
        have ba2_9 := e9.blk ba2_8
        have ba2_10 := e10.blk ba2_9
        obtain ⟨za20, za21, za22, -, -, -⟩ := own3 ba2_10
        have lza2 := lt_of_blk ba2_10
        have ba3_10 := e10.blk b9
        obtain ⟨za30, za31, za32, -, -, -⟩ := own3 ba3_10
        have lza3 := lt_of_blk ba3_10
        go_wp2_with fail
        rw [← hw11]
        clear hw11
        clear za00 za01 za02 lza0 za10 za11 za12 lza1 za20 za21 za22 lza2 za30 za31 za32 lza3
        have ba0_11 := e11.blk ba0_10
        obtain ⟨za00, za01, za02, -, -, -⟩ := own3 ba0_11
        have lza0 := lt_of_blk ba0_11
        have ba1_11 := e11.blk ba1_10
        obtain ⟨za10, za11, za12, -, -, -⟩ := own3 ba1_11
        have lza1 := lt_of_blk ba1_11
        have ba2_11 := e11.blk ba2_10
        obtain ⟨za20, za21, za22, -, -, -⟩ := own3 ba2_11
        have lza2 := lt_of_blk ba2_11
        have ba3_11 := e11.blk ba3_10
        obtain ⟨za30, za31, za32, -, -, -⟩ := own3 ba3_11
        have lza3 := lt_of_blk ba3_11
        obtain ⟨za40, za41, za42, -, -, -⟩ := own3 b11
        have lza4 := lt_of_blk b11
        have X1_8 : Ext w1 w8 := X1_7.trans e8
        have X1_9 : Ext w1 w9 := X1_8.trans e9
        have X1_10 : Ext w1 w10 := X1_9.trans e10
        have X1_11 : Ext w1 w11 := X1_10.trans e11
        have X3_10 : Ext w3 w10 := X3_9.trans e10
        have X3_11 : Ext w3 w11 := X3_10.trans e11
        have X0_1 : Ext w0 w1 := (Ext.refl w0).trans e1
        have X0_2 : Ext w0 w2 := X0_1.trans e2
        have X0_3 : Ext w0 w3 := X0_2.trans e3
        have X0_4 : Ext w0 w4 := X0_3.trans e4
        have X0_5 : Ext w0 w5 := X0_4.trans e5
        have X0_6 : Ext w0 w6 := X0_5.trans e6
        have X0_7 : Ext w0 w7 := X0_6.trans e7
        have X0_8 : Ext w0 w8 := X0_7.trans e8
        have X0_9 : Ext w0 w9 := X0_8.trans e9
        have X0_10 : Ext w0 w10 := X0_9.trans e10
        have X0_11 : Ext w0 w11 := X0_10.trans e11
        have HKEEP := Lib.hid (show ∀ w', Ext w11 w' → w'.cell? ⟨w1.heap.size, 0, none⟩ = some (.int .i64 k0) ∧ w'.cell? ⟨w1.heap.size, 1, none⟩ = some (.int .i64 m0) ∧ w'.cell? ⟨w1.heap.size, 2, none⟩ = some (.slice A0 ks0.length cap0) ∧ w'.cell? ⟨w3.heap.size, 0, none⟩ = some (.int .i64 k1) ∧ w'.cell? ⟨w3.heap.size, 1, none⟩ = some (.int .i64 m1) ∧ w'.cell? ⟨w3.heap.size, 2, none⟩ = some (.slice A1 ks1.length cap1) from fun w' hk => ⟨hk.cell za00, hk.cell za01, hk.cell za02, hk.cell za10, hk.cell za11, hk.cell za12⟩)
        refine wp_region_held_drew (S := fun w' => w'.cell? ⟨w1.heap.size, 0, none⟩ = some (.int .i64 k0) ∧ w'.cell? ⟨w1.heap.size, 1, none⟩ = some (.int .i64 m0) ∧ w'.cell? ⟨w1.heap.size, 2, none⟩ = some (.slice A0 ks0.length cap0) ∧ w'.cell? ⟨w3.heap.size, 0, none⟩ = some (.int .i64 k1) ∧ w'.cell? ⟨w3.heap.size, 1, none⟩ = some (.int .i64 m1) ∧ w'.cell? ⟨w3.heap.size, 2, none⟩ = some (.slice A1 ks1.length cap1)) (by kernel_rfl) (HKEEP.out _ (Ext.refl w11).drew) (fun hHeld => ?_)
        refine wpAnyH_take (i := 0) (v := ?vb0) rfl (by kernel_rfl) (by kernel_rfl) (by kernel_rfl) (fun _ _ _ h => h) (Or.inl ⟨by rfl, ?hyb0⟩) (by assumption) ?restb0
        case hyb0 => (intro w hSw; (try dsimp only at hSw); go_simp; (try with_reducible rfl))
        try simp only [Act.put, List.getElem_toArray, List.getElem_cons_zero, List.setIfInBounds_toArray, List.set_cons_zero, List.set_cons_succ]
        refine wpAnyH_take (i := 2) (v := ?vb2) rfl (by kernel_rfl) (by kernel_rfl) (by kernel_rfl) (fun _ _ _ h => h) (Or.inl ⟨by rfl, ?hyb2⟩) (by assumption) ?restb2
        case hyb2 => (intro w hSw; (try dsimp only at hSw); go_simp; (try with_reducible rfl))
        try simp only [Act.put, List.getElem_toArray, List.getElem_cons_succ, List.getElem_cons_zero, List.setIfInBounds_toArray, List.set_cons_zero, List.set_cons_succ]
        refine wpAnyH_ready (rs := [1]) (by kernel_rfl) (by simp) ?_
        refine AllReadyH.cons rfl (fun K hK => ?_) AllReadyH.nil
        (go_simp; go_at_call 42; refine (mf1 F3.out _ _ ((hL1.ext X3_11).ext (Ext.refl w11).drew)).mono ?_; rintro e wd0 ⟨rfl, ed0⟩; dsimp only)
        refine hK.out _ _ (HKEEP.out _ ((Ext.refl w11).drew.trans ed0)) (fun hHeld => ?_)
        clear hK K
        try simp only [Act.put, List.getElem_toArray, List.getElem_cons_succ, List.getElem_cons_zero, List.setIfInBounds_toArray, List.set_cons_zero, List.set_cons_succ]
        refine wpAnyH_ready (rs := [3]) (by kernel_rfl) (by simp) ?_
        refine AllReadyH.cons rfl (fun K hK => ?_) AllReadyH.nil
        (go_simp; go_at_call 42; refine (mf1 F4.out _ _ ((hL0.ext X1_11).ext ((Ext.refl w11).drew.trans ed0))).mono ?_; rintro e wd1 ⟨rfl, ed1⟩; dsimp only)
        refine hK.out _ _ (HKEEP.out _ (((Ext.refl w11).drew.trans ed0).trans ed1)) (fun hHeld => ?_)
        clear hK K
        try simp only [Act.put, List.getElem_toArray, List.getElem_cons_succ, List.getElem_cons_zero, List.setIfInBounds_toArray, List.set_cons_zero, List.set_cons_succ]
        refine wpAnyH_take (i := 4) (v := ?vb4) rfl (by kernel_rfl) (by kernel_rfl) (by kernel_rfl) (fun _ _ _ h => h) (Or.inl ⟨by rfl, ?hyb4⟩) (by assumption) ?restb4
        case hyb4 => (intro w hSw; (try dsimp only at hSw); go_simp; (try with_reducible rfl))
        try simp only [Act.put, List.getElem_toArray, List.getElem_cons_succ, List.getElem_cons_zero, List.setIfInBounds_toArray, List.set_cons_zero, List.set_cons_succ]
        refine wpAnyH_take (i := 5) (v := ?vb5) rfl (by kernel_rfl) (by kernel_rfl) (by kernel_rfl) (fun _ _ _ h => h) (Or.inl ⟨by rfl, ?hyb5⟩) (by assumption) ?restb5
        case hyb5 => (intro w hSw; (try dsimp only at hSw); go_simp; (try with_reducible rfl))
        try simp only [Act.put, List.getElem_toArray, List.getElem_cons_succ, List.getElem_cons_zero, List.setIfInBounds_toArray, List.set_cons_zero, List.set_cons_succ]
        refine wpAnyH_take (i := 6) (v := ?vb6) rfl (by kernel_rfl) (by kernel_rfl) (by kernel_rfl) (fun _ _ _ h => h) (Or.inl ⟨by rfl, ?hyb6⟩) (by assumption) ?restb6
        case hyb6 => (intro w hSw; (try dsimp only at hSw); go_simp; (try with_reducible rfl))
        try simp only [Act.put, List.getElem_toArray, List.getElem_cons_succ, List.getElem_cons_zero, List.setIfInBounds_toArray, List.set_cons_zero, List.set_cons_succ]
        refine wpAnyH_take (i := 7) (v := ?vb7) rfl (by kernel_rfl) (by kernel_rfl) (by kernel_rfl) (fun _ _ _ h => h) (Or.inl ⟨by rfl, ?hyb7⟩) (by assumption) ?restb7
        case hyb7 => (intro w hSw; (try dsimp only at hSw); go_simp; (try with_reducible rfl))
        try simp only [Act.put, List.getElem_toArray, List.getElem_cons_succ, List.getElem_cons_zero, List.setIfInBounds_toArray, List.set_cons_zero, List.set_cons_succ]
        refine wpAnyH_take (i := 8) (v := ?vb8) rfl (by kernel_rfl) (by kernel_rfl) (by kernel_rfl) (fun _ _ _ h => h) (Or.inl ⟨by rfl, ?hyb8⟩) (by assumption) ?restb8
        case hyb8 => (intro w hSw; (try dsimp only at hSw); go_simp; (try with_reducible rfl))
        try simp only [Act.put, List.getElem_toArray, List.getElem_cons_succ, List.getElem_cons_zero, List.setIfInBounds_toArray, List.set_cons_zero, List.set_cons_succ]
        refine wpAnyH_take (i := 9) (v := ?vb9) rfl (by kernel_rfl) (by kernel_rfl) (by kernel_rfl) (fun _ _ _ h => h) (Or.inl ⟨by rfl, ?hyb9⟩) (by assumption) ?restb9
        case hyb9 => (intro w hSw; (try dsimp only at hSw); go_simp; (try with_reducible rfl))
        try simp only [Act.put, List.getElem_toArray, List.getElem_cons_succ, List.getElem_cons_zero, List.setIfInBounds_toArray, List.set_cons_zero, List.set_cons_succ]
        refine wpAnyH_take (i := 10) (v := ?vb10) rfl (by kernel_rfl) (by kernel_rfl) (by kernel_rfl) (fun _ _ _ h => h) (Or.inl ⟨by rfl, ?hyb10⟩) (by assumption) ?restb10
        case hyb10 => (intro w hSw; (try dsimp only at hSw); go_simp; (try with_reducible rfl))
        try simp only [Act.put, List.getElem_toArray, List.getElem_cons_succ, List.getElem_cons_zero, List.setIfInBounds_toArray, List.set_cons_zero, List.set_cons_succ]
        refine wpAnyH_take (i := 11) (v := ?vb11) rfl (by kernel_rfl) (by kernel_rfl) (by kernel_rfl) (fun _ _ _ h => h) (Or.inl ⟨by rfl, ?hyb11⟩) (by assumption) ?restb11
        case hyb11 => (intro w hSw; (try dsimp only at hSw); go_simp; (try with_reducible rfl))
        try simp only [Act.put, List.getElem_toArray, List.getElem_cons_succ, List.getElem_cons_zero, List.setIfInBounds_toArray, List.set_cons_zero, List.set_cons_succ]
        refine wpAnyH_take (i := 12) (v := ?vb12) rfl (by kernel_rfl) (by kernel_rfl) (by kernel_rfl) (fun _ _ _ h => h) (Or.inl ⟨by rfl, ?hyb12⟩) (by assumption) ?restb12
        case hyb12 => (intro w hSw; (try dsimp only at hSw); go_simp; (try with_reducible rfl))
        try simp only [Act.put, List.getElem_toArray, List.getElem_cons_succ, List.getElem_cons_zero, List.setIfInBounds_toArray, List.set_cons_zero, List.set_cons_succ]
        refine wpAnyH_take (i := 13) (v := undef) rfl (by kernel_rfl) (by kernel_rfl) (by kernel_rfl) (fun _ _ _ h => h) (Or.inr ⟨by rfl, rfl⟩) (by assumption) ?_
        try simp only [Act.put, List.getElem_toArray, List.getElem_cons_succ, List.getElem_cons_zero, List.setIfInBounds_toArray, List.set_cons_zero, List.set_cons_succ]
        refine wpAnyH_take (i := 14) (v := undef) rfl (by kernel_rfl) (by kernel_rfl) (by kernel_rfl) (fun _ _ _ h => h) (Or.inr ⟨by rfl, rfl⟩) (by assumption) ?_
        try simp only [Act.put, List.getElem_toArray, List.getElem_cons_succ, List.getElem_cons_zero, List.setIfInBounds_toArray, List.set_cons_zero, List.set_cons_succ]
        refine wpAnyH_take (i := 15) (v := undef) rfl (by kernel_rfl) (by kernel_rfl) (by kernel_rfl) (fun _ _ _ h => h) (Or.inr ⟨by rfl, rfl⟩) (by assumption) ?_
        try simp only [Act.put, List.getElem_toArray, List.getElem_cons_succ, List.getElem_cons_zero, List.setIfInBounds_toArray, List.set_cons_zero, List.set_cons_succ]
        refine wpAnyH_take (i := 16) (v := ?vb16) rfl (by kernel_rfl) (by kernel_rfl) (by kernel_rfl) (fun _ _ _ h => h) (Or.inl ⟨by rfl, ?hyb16⟩) (by assumption) ?restb16
        case hyb16 => (intro w hSw; (try dsimp only at hSw); go_simp; (try with_reducible rfl))
        try simp only [Act.put, List.getElem_toArray, List.getElem_cons_succ, List.getElem_cons_zero, List.setIfInBounds_toArray, List.set_cons_zero, List.set_cons_succ]
        refine wpAnyH_take (i := 17) (v := ?vb17) rfl (by kernel_rfl) (by kernel_rfl) (by kernel_rfl) (fun _ _ _ h => h) (Or.inl ⟨by rfl, ?hyb17⟩) (by assumption) ?restb17
        case hyb17 => (intro w hSw; (try dsimp only at hSw); go_simp; (try with_reducible rfl))
        try simp only [Act.put, List.getElem_toArray, List.getElem_cons_succ, List.getElem_cons_zero, List.setIfInBounds_toArray, List.set_cons_zero, List.set_cons_succ]
        refine wpAnyH_take (i := 18) (v := ?vb18) rfl (by kernel_rfl) (by kernel_rfl) (by kernel_rfl) (fun _ _ _ h => h) (Or.inl ⟨by rfl, ?hyb18⟩) (by assumption) ?restb18
        case hyb18 => (intro w hSw; (try dsimp only at hSw); go_simp; (try with_reducible rfl))
        try simp only [Act.put, List.getElem_toArray, List.getElem_cons_succ, List.getElem_cons_zero, List.setIfInBounds_toArray, List.set_cons_zero, List.set_cons_succ]
        refine wpAnyH_done (by kernel_rfl) ?_ _
        have hfin := ((Ext.refl w11).drew.trans ed0).trans ed1
        go_wp2_with fail
        go_ret
        exact ⟨rfl, X0_11.trans hfin⟩
    · have hf1 : (f != 0) = true := by simpa using hf
      have ba0_9 := e9.blk ba0_8
      have ba0_10 := e10.blk ba0_9
      obtain ⟨za00, za01, za02, -, -, -⟩ := own3 ba0_10
      have lza0 := lt_of_blk ba0_10
      have ba1_9 := e9.blk ba1_8
      have ba1_10 := e10.blk ba1_9
      obtain ⟨za10, za11, za12, -, -, -⟩ := own3 ba1_10
      have lza1 := lt_of_blk ba1_10
      have ba2_9 := e9.blk ba2_8
      have ba2_10 := e10.blk ba2_9
      obtain ⟨za20, za21, za22, -, -, -⟩ := own3 ba2_10
      have lza2 := lt_of_blk ba2_10
      have ba3_10 := e10.blk b9
      obtain ⟨za30, za31, za32, -, -, -⟩ := own3 ba3_10
      have lza3 := lt_of_blk ba3_10
      go_wp2_with fail
      rw [← hw11]
      clear hw11
      clear za00 za01 za02 lza0 za10 za11 za12 lza1 za20 za21 za22 lza2 za30 za31 za32 lza3
      have ba0_11 := e11.blk ba0_10
      obtain ⟨za00, za01, za02, -, -, -⟩ := own3 ba0_11
      have lza0 := lt_of_blk ba0_11
      have ba1_11 := e11.blk ba1_10
      obtain ⟨za10, za11, za12, -, -, -⟩ := own3 ba1_11
      have lza1 := lt_of_blk ba1_11
      have ba2_11 := e11.blk ba2_10
      obtain ⟨za20, za21, za22, -, -, -⟩ := own3 ba2_11
      have lza2 := lt_of_blk ba2_11
      have ba3_11 := e11.blk ba3_10
      obtain ⟨za30, za31, za32, -, -, -⟩ := own3 ba3_11
      have lza3 := lt_of_blk ba3_11
      obtain ⟨za40, za41, za42, -, -, -⟩ := own3 b11
      have lza4 := lt_of_blk b11
      have X1_8 : Ext w1 w8 := X1_7.trans e8
      have X1_9 : Ext w1 w9 := X1_8.trans e9
      have X1_10 : Ext w1 w10 := X1_9.trans e10
      have X1_11 : Ext w1 w11 := X1_10.trans e11
      have X3_10 : Ext w3 w10 := X3_9.trans e10
      have X3_11 : Ext w3 w11 := X3_10.trans e11
      have X0_1 : Ext w0 w1 := (Ext.refl w0).trans e1
      have X0_2 : Ext w0 w2 := X0_1.trans e2
      have X0_3 : Ext w0 w3 := X0_2.trans e3
      have X0_4 : Ext w0 w4 := X0_3.trans e4
      have X0_5 : Ext w0 w5 := X0_4.trans e5
      have X0_6 : Ext w0 w6 := X0_5.trans e6
      have X0_7 : Ext w0 w7 := X0_6.trans e7
      have X0_8 : Ext w0 w8 := X0_7.trans e8
      have X0_9 : Ext w0 w9 := X0_8.trans e9
      have X0_10 : Ext w0 w10 := X0_9.trans e10
      have X0_11 : Ext w0 w11 := X0_10.trans e11
      have HKEEP := Lib.hid (show ∀ w', Ext w11 w' → w'.cell? ⟨w1.heap.size, 0, none⟩ = some (.int .i64 k0) ∧ w'.cell? ⟨w1.heap.size, 1, none⟩ = some (.int .i64 m0) ∧ w'.cell? ⟨w1.heap.size, 2, none⟩ = some (.slice A0 ks0.length cap0) ∧ w'.cell? ⟨w3.heap.size, 0, none⟩ = some (.int .i64 k1) ∧ w'.cell? ⟨w3.heap.size, 1, none⟩ = some (.int .i64 m1) ∧ w'.cell? ⟨w3.heap.size, 2, none⟩ = some (.slice A1 ks1.length cap1) from fun w' hk => ⟨hk.cell za00, hk.cell za01, hk.cell za02, hk.cell za10, hk.cell za11, hk.cell za12⟩)
      refine wp_region_held_drew (S := fun w' => w'.cell? ⟨w1.heap.size, 0, none⟩ = some (.int .i64 k0) ∧ w'.cell? ⟨w1.heap.size, 1, none⟩ = some (.int .i64 m0) ∧ w'.cell? ⟨w1.heap.size, 2, none⟩ = some (.slice A0 ks0.length cap0) ∧ w'.cell? ⟨w3.heap.size, 0, none⟩ = some (.int .i64 k1) ∧ w'.cell? ⟨w3.heap.size, 1, none⟩ = some (.int .i64 m1) ∧ w'.cell? ⟨w3.heap.size, 2, none⟩ = some (.slice A1 ks1.length cap1)) (by kernel_rfl) (HKEEP.out _ (Ext.refl w11).drew) (fun hHeld => ?_)
      refine wpAnyH_take (i := 0) (v := ?vc0) rfl (by kernel_rfl) (by kernel_rfl) (by kernel_rfl) (fun _ _ _ h => h) (Or.inl ⟨by rfl, ?hyc0⟩) (by assumption) ?restc0
      case hyc0 => (intro w hSw; (try dsimp only at hSw); go_simp; (try with_reducible rfl))
      try simp only [Act.put, List.getElem_toArray, List.getElem_cons_zero, List.setIfInBounds_toArray, List.set_cons_zero, List.set_cons_succ]
      refine wpAnyH_take (i := 2) (v := ?vc2) rfl (by kernel_rfl) (by kernel_rfl) (by kernel_rfl) (fun _ _ _ h => h) (Or.inl ⟨by rfl, ?hyc2⟩) (by assumption) ?restc2
      case hyc2 => (intro w hSw; (try dsimp only at hSw); go_simp; (try with_reducible rfl))
      try simp only [Act.put, List.getElem_toArray, List.getElem_cons_succ, List.getElem_cons_zero, List.setIfInBounds_toArray, List.set_cons_zero, List.set_cons_succ]
      refine wpAnyH_ready (rs := [1]) (by kernel_rfl) (by simp) ?_
      refine AllReadyH.cons rfl (fun K hK => ?_) AllReadyH.nil
      (go_simp; go_at_call 42; refine (mf1 F3.out _ _ ((hL1.ext X3_11).ext (Ext.refl w11).drew)).mono ?_; rintro e wd0 ⟨rfl, ed0⟩; dsimp only)
      refine hK.out _ _ (HKEEP.out _ ((Ext.refl w11).drew.trans ed0)) (fun hHeld => ?_)
      clear hK K
      try simp only [Act.put, List.getElem_toArray, List.getElem_cons_succ, List.getElem_cons_zero, List.setIfInBounds_toArray, List.set_cons_zero, List.set_cons_succ]
      refine wpAnyH_ready (rs := [3]) (by kernel_rfl) (by simp) ?_
      refine AllReadyH.cons rfl (fun K hK => ?_) AllReadyH.nil
      (go_simp; go_at_call 42; refine (mf1 F4.out _ _ ((hL0.ext X1_11).ext ((Ext.refl w11).drew.trans ed0))).mono ?_; rintro e wd1 ⟨rfl, ed1⟩; dsimp only)
      refine hK.out _ _ (HKEEP.out _ (((Ext.refl w11).drew.trans ed0).trans ed1)) (fun hHeld => ?_)
      clear hK K
      try simp only [Act.put, List.getElem_toArray, List.getElem_cons_succ, List.getElem_cons_zero, List.setIfInBounds_toArray, List.set_cons_zero, List.set_cons_succ]
      refine wpAnyH_take (i := 4) (v := ?vc4) rfl (by kernel_rfl) (by kernel_rfl) (by kernel_rfl) (fun _ _ _ h => h) (Or.inl ⟨by rfl, ?hyc4⟩) (by assumption) ?restc4
      case hyc4 => (intro w hSw; (try dsimp only at hSw); go_simp; (try with_reducible rfl))
      try simp only [Act.put, List.getElem_toArray, List.getElem_cons_succ, List.getElem_cons_zero, List.setIfInBounds_toArray, List.set_cons_zero, List.set_cons_succ]
      refine wpAnyH_take (i := 5) (v := ?vc5) rfl (by kernel_rfl) (by kernel_rfl) (by kernel_rfl) (fun _ _ _ h => h) (Or.inl ⟨by rfl, ?hyc5⟩) (by assumption) ?restc5
      case hyc5 => (intro w hSw; (try dsimp only at hSw); go_simp; (try with_reducible rfl))
      try simp only [Act.put, List.getElem_toArray, List.getElem_cons_succ, List.getElem_cons_zero, List.setIfInBounds_toArray, List.set_cons_zero, List.set_cons_succ]
      refine wpAnyH_take (i := 6) (v := ?vc6) rfl (by kernel_rfl) (by kernel_rfl) (by kernel_rfl) (fun _ _ _ h => h) (Or.inl ⟨by rfl, ?hyc6⟩) (by assumption) ?restc6
      case hyc6 => (intro w hSw; (try dsimp only at hSw); go_simp; (try with_reducible rfl))
      try simp only [Act.put, List.getElem_toArray, List.getElem_cons_succ, List.getElem_cons_zero, List.setIfInBounds_toArray, List.set_cons_zero, List.set_cons_succ]
      refine wpAnyH_take (i := 7) (v := ?vc7) rfl (by kernel_rfl) (by kernel_rfl) (by kernel_rfl) (fun _ _ _ h => h) (Or.inl ⟨by rfl, ?hyc7⟩) (by assumption) ?restc7
      case hyc7 => (intro w hSw; (try dsimp only at hSw); go_simp; (try with_reducible rfl))
      try simp only [Act.put, List.getElem_toArray, List.getElem_cons_succ, List.getElem_cons_zero, List.setIfInBounds_toArray, List.set_cons_zero, List.set_cons_succ]
      refine wpAnyH_take (i := 8) (v := ?vc8) rfl (by kernel_rfl) (by kernel_rfl) (by kernel_rfl) (fun _ _ _ h => h) (Or.inl ⟨by rfl, ?hyc8⟩) (by assumption) ?restc8
      case hyc8 => (intro w hSw; (try dsimp only at hSw); go_simp; (try with_reducible rfl))
      try simp only [Act.put, List.getElem_toArray, List.getElem_cons_succ, List.getElem_cons_zero, List.setIfInBounds_toArray, List.set_cons_zero, List.set_cons_succ]
      refine wpAnyH_take (i := 9) (v := undef) rfl (by kernel_rfl) (by kernel_rfl) (by kernel_rfl) (fun _ _ _ h => h) (Or.inr ⟨by rfl, rfl⟩) (by assumption) ?_
      try simp only [Act.put, List.getElem_toArray, List.getElem_cons_succ, List.getElem_cons_zero, List.setIfInBounds_toArray, List.set_cons_zero, List.set_cons_succ]
      refine wpAnyH_take (i := 10) (v := undef) rfl (by kernel_rfl) (by kernel_rfl) (by kernel_rfl) (fun _ _ _ h => h) (Or.inr ⟨by rfl, rfl⟩) (by assumption) ?_
      try simp only [Act.put, List.getElem_toArray, List.getElem_cons_succ, List.getElem_cons_zero, List.setIfInBounds_toArray, List.set_cons_zero, List.set_cons_succ]
      refine wpAnyH_take (i := 11) (v := ?vc11) rfl (by kernel_rfl) (by kernel_rfl) (by kernel_rfl) (fun _ _ _ h => h) (Or.inl ⟨by rfl, ?hyc11⟩) (by assumption) ?restc11
      case hyc11 => (intro w hSw; (try dsimp only at hSw); go_simp; (try with_reducible rfl))
      try simp only [Act.put, List.getElem_toArray, List.getElem_cons_succ, List.getElem_cons_zero, List.setIfInBounds_toArray, List.set_cons_zero, List.set_cons_succ]
      refine wpAnyH_take (i := 12) (v := ?vc12) rfl (by kernel_rfl) (by kernel_rfl) (by kernel_rfl) (fun _ _ _ h => h) (Or.inl ⟨by rfl, ?hyc12⟩) (by assumption) ?restc12
      case hyc12 => (intro w hSw; (try dsimp only at hSw); go_simp; (try with_reducible rfl))
      try simp only [Act.put, List.getElem_toArray, List.getElem_cons_succ, List.getElem_cons_zero, List.setIfInBounds_toArray, List.set_cons_zero, List.set_cons_succ]
      refine wpAnyH_take (i := 13) (v := undef) rfl (by kernel_rfl) (by kernel_rfl) (by kernel_rfl) (fun _ _ _ h => h) (Or.inr ⟨by rfl, rfl⟩) (by assumption) ?_
      try simp only [Act.put, List.getElem_toArray, List.getElem_cons_succ, List.getElem_cons_zero, List.setIfInBounds_toArray, List.set_cons_zero, List.set_cons_succ]
      refine wpAnyH_take (i := 14) (v := undef) rfl (by kernel_rfl) (by kernel_rfl) (by kernel_rfl) (fun _ _ _ h => h) (Or.inr ⟨by rfl, rfl⟩) (by assumption) ?_
      try simp only [Act.put, List.getElem_toArray, List.getElem_cons_succ, List.getElem_cons_zero, List.setIfInBounds_toArray, List.set_cons_zero, List.set_cons_succ]
      refine wpAnyH_take (i := 15) (v := undef) rfl (by kernel_rfl) (by kernel_rfl) (by kernel_rfl) (fun _ _ _ h => h) (Or.inr ⟨by rfl, rfl⟩) (by assumption) ?_
      try simp only [Act.put, List.getElem_toArray, List.getElem_cons_succ, List.getElem_cons_zero, List.setIfInBounds_toArray, List.set_cons_zero, List.set_cons_succ]
      refine wpAnyH_take (i := 16) (v := ?vc16) rfl (by kernel_rfl) (by kernel_rfl) (by kernel_rfl) (fun _ _ _ h => h) (Or.inl ⟨by rfl, ?hyc16⟩) (by assumption) ?restc16
      case hyc16 => (intro w hSw; (try dsimp only at hSw); go_simp; (try with_reducible rfl))
      try simp only [Act.put, List.getElem_toArray, List.getElem_cons_succ, List.getElem_cons_zero, List.setIfInBounds_toArray, List.set_cons_zero, List.set_cons_succ]
      refine wpAnyH_take (i := 17) (v := ?vc17) rfl (by kernel_rfl) (by kernel_rfl) (by kernel_rfl) (fun _ _ _ h => h) (Or.inl ⟨by rfl, ?hyc17⟩) (by assumption) ?restc17
      case hyc17 => (intro w hSw; (try dsimp only at hSw); go_simp; (try with_reducible rfl))
      try simp only [Act.put, List.getElem_toArray, List.getElem_cons_succ, List.getElem_cons_zero, List.setIfInBounds_toArray, List.set_cons_zero, List.set_cons_succ]
      refine wpAnyH_take (i := 18) (v := ?vc18) rfl (by kernel_rfl) (by kernel_rfl) (by kernel_rfl) (fun _ _ _ h => h) (Or.inl ⟨by rfl, ?hyc18⟩) (by assumption) ?restc18
      case hyc18 => (intro w hSw; (try dsimp only at hSw); go_simp; (try with_reducible rfl))
      try simp only [Act.put, List.getElem_toArray, List.getElem_cons_succ, List.getElem_cons_zero, List.setIfInBounds_toArray, List.set_cons_zero, List.set_cons_succ]
      refine wpAnyH_done (by kernel_rfl) ?_ _
      have hfin := ((Ext.refl w11).drew.trans ed0).trans ed1
      go_wp2_with fail
      go_ret
      exact ⟨rfl, X0_11.trans hfin⟩

set_option maxRecDepth 100000 in
theorem lifted (os : Os) (started : os.Started) (H : Type) (enc : TypeId × Value → H) :
    ReturnsInHanded {} Try.checked os 8 .any (Rows.fnContractAtSpec.pre6 enc Try.prog Try.f8 Rows.fnContractAtRow.domain false) (Rows.fnContractAtSpec.post enc Try.prog Try.f8 false true false false) := by
  refine law_lift (C := Try.checked) (fn := Try.f8) (tb := 4) own started (by kernel_rfl) Try.func8 (by kernel_rfl) (by kernel_rfl) rfl Try.underlying4 rfl
    (fun ds h => by
      match ds, h with
      | [d1], _ => exact ⟨rfl, rfl, rfl⟩)
    (ChangeSpec.witness6 (enc := enc) (C := Try.checked) false ⟨#[], #[.slice none 0 0], []⟩ 8 (by kernel_rfl) (by kernel_rfl) (by kernel_rfl) (by kernel_rfl)) ?_
  intro W base args ds p hval hA hlt
  rw [Try.params8] at hA hval
  obtain ⟨v0, vs0, d0, ds0, p0, q0, hargs, rfl, rfl, h0, r0⟩ := trodAll_cons hA
  obtain ⟨rfl, rfl, rfl⟩ := trodAll_nil r0
  obtain rfl : args = #[v0] := by cases args; simp_all
  obtain ⟨A0, cap0, bs0, rfl, hl0, hc0, ha0⟩ := open_bytes Try.underlying35 Try.underlying5 (by kernel_rfl) (hval 0 35 v0 rfl rfl) h0
  exact walk W A0 cap0 bs0 hl0 hc0 ha0.1

theorem over : Rows.fnContractAtRow.holds Try.pinned (OpenSpec.ofChange Rows.fnContractAtSpec) :=
  OpenClaim.holds_of_wide 8 Try.f8 rfl rfl rfl rfl rfl rfl rfl ⟨rfl, rfl, rfl, rfl, rfl⟩ rfl rfl rfl rfl rfl (by kernel_rfl) Try.func8 (by kernel_rfl)
    (of_decide_eq_true (by kernel_rfl)) (by unfold Func.isWrapper; first | (rw [if_pos (by decide +kernel)]; kernel_rfl) | (rw [if_neg (by decide +kernel)]; exact ⟨rfl, rfl⟩))
    (fun os started H enc _ => lifted os started H enc)

theorem proved : Rows.FnContractAtSaid := over
#print axioms proved
end Go.Proofs.Ytappakllopkfiaa.contractAtL

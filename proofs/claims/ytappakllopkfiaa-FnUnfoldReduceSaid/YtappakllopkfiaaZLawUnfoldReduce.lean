/-
  PROVED: the law FnUnfoldReduce returns true for every input: unfolding the normal term leads to the same normal term as unfolding the term.
  CONDITIONS: none.
-/
import Derived.Test.YtappakllopkfiaaZAB
import Derived.Test.YtappakllopkfiaaZAX
import Derived.Test.YtappakllopkfiaaZBD
import Derived.Test.YtappakllopkfiaaZBG
import Derived.Test.YtappakllopkfiaaZBP
import Derived.Deep.RegionHeld3
import Derived.Test.YtappakllopkfiaaRows
namespace Go.Proofs.Ytappakllopkfiaa.unfoldReduceL
open Go.RowKit Go.ChangeShapes Go.WideShapes Go.ChangeAt
set_option linter.unusedVariables false

theorem own : ownKnob Try.prog.godebug = none := by kernel_rfl

theorem same1 (c : Tr) (w : World) (v u : Value) (h : Lies w c v) (k : Lies w c u) : Calls Try.prog 34 #[v, u] w fun e w' => e = .returned (.bool true) ∧ Ext w w' := by
  have := sameTerm_any c w c v u h k
  rw [eqTr_self] at this
  exact this
theorem u1 {t x : Tr} {z : Bool} {ks : List Tr} {n : Nat} (h : unfV ks n t = (x, z)) (w : World) (v : Value) (hin : Lies w t v) (A : Option Addr) (cap : Nat) (hK : LiesK w A ks) (hn : ks.length = n * 2) (hl : n ≤ cap) (hc : cap ≤ maxLen) : Calls Try.prog 44 #[.slice A n cap, v] w fun e w' => ∃ u, e = .returned (.tuple #[u, .bool z]) ∧ Lies w' x u ∧ Ext w w' := by
  have := unfoldTerm_any ks n cap w A t v hK hn hl hc hin
  rw [h] at this
  exact this.mono fun e w' ⟨r, h1, h2, h3⟩ => ⟨r, h1, h2.lies, h3⟩
theorem u2 {t x : Tr} {z : Bool} {ks : List Tr} {n : Nat} (h : unfV ks n t = (x, z)) (w : World) (v : Value) (hin : Lies w t v) (A : Option Addr) (cap : Nat) (hK : LiesK w A ks) (hn : ks.length = n * 2) (hl : n ≤ cap) (hc : cap ≤ maxLen) : Calls Try.prog 45 #[.slice A n cap, v] w fun e w' => ∃ u, e = .returned (.tuple #[u, .bool z]) ∧ Lies w' x u ∧ Ext w w' := by
  have := specUnfoldTerm_any ks n cap w A t v hK hn hl hc hin
  rw [h] at this
  exact this.mono fun e w' ⟨r, h1, h2, h3⟩ => ⟨r, h1, h2.lies, h3⟩
theorem unfV_parts {t x : Tr} {ks : List Tr} {n : Nat} (h : unfV ks n t = (x, true)) : dfV ks n = true ∧ valid sigT t = true ∧ mxf t 0 ≤ (n : Int) ∧ unfD ks n t = (x, true) := by
  unfold unfV at h
  split at h
  · rename_i hh
    simp only [Bool.and_eq_true, decide_eq_true_eq] at hh
    exact ⟨hh.1, hh.2.1, hh.2.2, h⟩
  · cases h
theorem no1 {t x : Tr} {s : Int} (h : normV t 200 = (x, s)) (w : World) (v : Value) (hin : Lies w t v) : Calls Try.prog 41 #[v, .int .i64 200] w fun e w' => ∃ r, e = .returned (.tuple #[r, .int .i64 s]) ∧ Lies w' x r ∧ Ext w w' := by
  have := normalize_any t 200 w v hin
  rw [h] at this
  exact this.mono fun e w' ⟨r, h1, h2, h3⟩ => ⟨r, h1, h2.lies, h3⟩
theorem cv1 {a b : Tr} {c : Int} (h : convV a b 200 = c) (w : World) (va vb : Value) (ha : Lies w a va) (hb : Lies w b vb) : Calls Try.prog 51 #[va, vb, .int .i64 200] w fun e w' => e = .returned (.int .i64 c) ∧ Ext w w' := by
  have := convertible_any a b 200 w va vb ha hb
  rw [h] at this
  exact this
theorem conv_reds {x y : Tr} (hx : valid sigT x = true) (hy : valid sigT y = true) (h : Reds x y) : convV x y 200 ≠ 2 := by
  unfold convV
  rw [hx, hy]
  split
  · split
    · decide
    · split
      · rename_i hh
        split
        · decide
        · rename_i hne
          obtain ⟨r1, n1, -⟩ := nrmC_reds _ x (nrmC (200 : Int).toNat x).1 hx (by rw [← hh.1])
          obtain ⟨r2, n2, -⟩ := nrmC_reds _ y (nrmC (200 : Int).toNat y).1 hy (by rw [← hh.2])
          exact absurd (Reds.unique r1 (h.trans r2) n1 n2) hne
      · decide
  · decide
theorem urFacts {t x n y : Tr} {ks : List Tr} {nl : Nat} (h1 : unfV ks nl t = (x, true)) (h2 : normV t 200 = (n, 0)) (h3 : unfV ks nl n = (y, true)) : ∃ c : Int, convV x y 200 = c ∧ (c != 2) = true := by
  obtain ⟨-, v1, -, e1⟩ := unfV_parts h1
  obtain ⟨-, v2, -, e3⟩ := unfV_parts h3
  have e2 : nrmC 200 t = (n, 0) := by
    unfold normV at h2
    rw [v1] at h2
    exact h2
  have hr := (nrmC_reds 200 t n v1 e2).1
  exact ⟨_, rfl, by simpa using conv_reds (unfD_valid ks nl t x v1 e1) (unfD_valid ks nl n y v2 e3) (unfD_reds ks nl t n x y hr e1 e3)⟩
set_option maxRecDepth 100000 in
set_option maxHeartbeats 4000000 in
theorem walk (w0 : World) (A : Option Addr) (cap : Nat) (bs : List Int) (hl : bs.length ≤ cap) (hc : cap ≤ maxLen) (hB : Bytes w0 w0.heap.size A bs) :
    Calls Try.prog 12 #[.slice A bs.length cap] w0 fun e w' => e = .returned (.bool true) ∧ Ext w0 w' := by
  have hcc := hc
  unfold maxLen at hcc
  by_cases hn : 1048576 < (bs.length : Int)
  · have d1 : decide (1048576 < (bs.length : Int)) = true := decide_eq_true hn
    go_enter Try.func12, Try.ntmps12
    go_wp2_with fail
    go_ret
    exact ⟨rfl, Ext.refl _⟩
  have d1 : decide (1048576 < (bs.length : Int)) = false := decide_eq_false hn
  go_enter Try.func12, Try.ntmps12
  go_wp2_with fail
  refine (drawUnfoldTerm_any w0 A cap bs hl hc hB).mono ?_
  rintro e w1 ⟨Al, nl, cl, ks, ⟨k0, m0, ks0⟩, u, rfl, hla, hlb, hlz, hln, hl9, hlc, hct, hFK, hF0, e1⟩
  have s1 : w0.heap.size ≤ w1.heap.size := e1.size
  have hL0 := hF0.lies
  obtain ⟨A0, cap0, rfl, hl0, hc0, hK0⟩ := Lies.mk_iff.1 hL0
  have hKs : LiesK w1 Al ks := InK.mono (fun b hb => hb.2) (fun _ _ => rfl) hFK
  clear hF0 hFK hlc
  obtain ⟨w2, hw2⟩ : ∃ w2, w2 = w1.alloc (.cells #[.int .i64 k0, .int .i64 m0, .slice A0 ks0.length cap0] 44) := ⟨_, rfl⟩
  have e2 : Ext w1 w2 := hw2 ▸ (Ext.refl w1).alloc _
  have b2 := heap_alloc_new w1 (.cells #[.int .i64 k0, .int .i64 m0, .slice A0 ks0.length cap0] 44)
  rw [← hw2] at b2
  have s2 : w1.heap.size < w2.heap.size := lt_of_blk b2
  go_wp2_with fail
  rw [← hw2]
  clear hw2
  obtain ⟨⟨k1, m1, ks1⟩, z, hz⟩ : ∃ x z, unfV ks nl (.mk k0 m0 ks0) = (x, z) := ⟨_, _, rfl⟩
  have HZ := Lib.hid hz
  clear hz
  have X1_2 : Ext w1 w2 := (Ext.refl w1).trans e2
  refine (u1 HZ.out w2 _ (hL0.ext X1_2) Al cl (hKs.ext X1_2) hln hla hlb).mono ?_
  rintro e w3 ⟨u, rfl, hL1, e3⟩
  have s3 : w2.heap.size ≤ w3.heap.size := e3.size
  obtain ⟨A1, cap1, rfl, hl1, hc1, hK1⟩ := Lies.mk_iff.1 hL1
  obtain ⟨w4, hw4⟩ : ∃ w4, w4 = w3.alloc (.cells #[.int .i64 k1, .int .i64 m1, .slice A1 ks1.length cap1] 44) := ⟨_, rfl⟩
  have e4 : Ext w3 w4 := hw4 ▸ (Ext.refl w3).alloc _
  have b4 := heap_alloc_new w3 (.cells #[.int .i64 k1, .int .i64 m1, .slice A1 ks1.length cap1] 44)
  rw [← hw4] at b4
  have s4 : w3.heap.size < w4.heap.size := lt_of_blk b4
  have ba0_3 := e3.blk b2
  obtain ⟨za00, za01, za02, -, -, -⟩ := own3 ba0_3
  have lza0 := lt_of_blk ba0_3
  go_wp2_with fail
  rw [← hw4]
  clear hw4
  clear za00 za01 za02 lza0
  have X1_3 : Ext w1 w3 := X1_2.trans e3
  have X1_4 : Ext w1 w4 := X1_3.trans e4
  refine (u2 HZ.out w4 _ (hL0.ext X1_4) Al cl (hKs.ext X1_4) hln hla hlb).mono ?_
  rintro e w5 ⟨u, rfl, hL2, e5⟩
  have s5 : w4.heap.size ≤ w5.heap.size := e5.size
  obtain ⟨A2, cap2, rfl, hl2, hc2, hK2⟩ := Lies.mk_iff.1 hL2
  obtain ⟨w6, hw6⟩ : ∃ w6, w6 = w5.alloc (.cells #[.int .i64 k1, .int .i64 m1, .slice A2 ks1.length cap2] 44) := ⟨_, rfl⟩
  have e6 : Ext w5 w6 := hw6 ▸ (Ext.refl w5).alloc _
  have b6 := heap_alloc_new w5 (.cells #[.int .i64 k1, .int .i64 m1, .slice A2 ks1.length cap2] 44)
  rw [← hw6] at b6
  have s6 : w5.heap.size < w6.heap.size := lt_of_blk b6
  obtain ⟨⟨k3, m3, ks3⟩, q, hq⟩ : ∃ x q, normV (.mk k0 m0 ks0) 200 = (x, q) := ⟨_, _, rfl⟩
  have HQ := Lib.hid hq
  clear hq
  have ba0_4 := e4.blk ba0_3
  have ba0_5 := e5.blk ba0_4
  obtain ⟨za00, za01, za02, -, -, -⟩ := own3 ba0_5
  have lza0 := lt_of_blk ba0_5
  have ba1_5 := e5.blk b4
  obtain ⟨za10, za11, za12, -, -, -⟩ := own3 ba1_5
  have lza1 := lt_of_blk ba1_5
  go_wp2_with fail
  rw [← hw6]
  clear hw6
  clear za00 za01 za02 lza0 za10 za11 za12 lza1
  have X1_5 : Ext w1 w5 := X1_4.trans e5
  have X1_6 : Ext w1 w6 := X1_5.trans e6
  refine (no1 HQ.out w6 _ (hL0.ext X1_6)).mono ?_
  rintro e w7 ⟨u, rfl, hL3, e7⟩
  have s7 : w6.heap.size ≤ w7.heap.size := e7.size
  obtain ⟨A3, cap3, rfl, hl3, hc3, hK3⟩ := Lies.mk_iff.1 hL3
  obtain ⟨w8, hw8⟩ : ∃ w8, w8 = w7.alloc (.cells #[.int .i64 k3, .int .i64 m3, .slice A3 ks3.length cap3] 44) := ⟨_, rfl⟩
  have e8 : Ext w7 w8 := hw8 ▸ (Ext.refl w7).alloc _
  have b8 := heap_alloc_new w7 (.cells #[.int .i64 k3, .int .i64 m3, .slice A3 ks3.length cap3] 44)
  rw [← hw8] at b8
  have s8 : w7.heap.size < w8.heap.size := lt_of_blk b8
  have hz1 : (z != z) = false := by simp
  have hz2 : (z == z) = true := by simp
  have ba0_6 := e6.blk ba0_5
  have ba0_7 := e7.blk ba0_6
  obtain ⟨za00, za01, za02, -, -, -⟩ := own3 ba0_7
  have lza0 := lt_of_blk ba0_7
  have ba1_6 := e6.blk ba1_5
  have ba1_7 := e7.blk ba1_6
  obtain ⟨za10, za11, za12, -, -, -⟩ := own3 ba1_7
  have lza1 := lt_of_blk ba1_7
  have ba2_7 := e7.blk b6
  obtain ⟨za20, za21, za22, -, -, -⟩ := own3 ba2_7
  have lza2 := lt_of_blk ba2_7
  go_wp2_with fail
  rw [← hw8]
  clear hw8
  clear za00 za01 za02 lza0 za10 za11 za12 lza1 za20 za21 za22 lza2
  have X3_4 : Ext w3 w4 := (Ext.refl w3).trans e4
  have X3_5 : Ext w3 w5 := X3_4.trans e5
  have X3_6 : Ext w3 w6 := X3_5.trans e6
  have X3_7 : Ext w3 w7 := X3_6.trans e7
  have X3_8 : Ext w3 w8 := X3_7.trans e8
  have X5_6 : Ext w5 w6 := (Ext.refl w5).trans e6
  have X5_7 : Ext w5 w7 := X5_6.trans e7
  have X5_8 : Ext w5 w8 := X5_7.trans e8
  refine (same1 _ w8 _ _ (hL1.ext X3_8) (hL2.ext X5_8)).mono ?_
  rintro e w9 ⟨rfl, e9⟩
  have s9 : w8.heap.size ≤ w9.heap.size := e9.size
  cases z with
  | false =>
    have ba0_8 := e8.blk ba0_7
    have ba0_9 := e9.blk ba0_8
    obtain ⟨za00, za01, za02, -, -, -⟩ := own3 ba0_9
    have lza0 := lt_of_blk ba0_9
    have ba1_8 := e8.blk ba1_7
    have ba1_9 := e9.blk ba1_8
    obtain ⟨za10, za11, za12, -, -, -⟩ := own3 ba1_9
    have lza1 := lt_of_blk ba1_9
    have ba2_8 := e8.blk ba2_7
    have ba2_9 := e9.blk ba2_8
    obtain ⟨za20, za21, za22, -, -, -⟩ := own3 ba2_9
    have lza2 := lt_of_blk ba2_9
    have ba3_9 := e9.blk b8
    obtain ⟨za30, za31, za32, -, -, -⟩ := own3 ba3_9
    have lza3 := lt_of_blk ba3_9
    go_wp2_with fail
    clear za00 za01 za02 lza0 za10 za11 za12 lza1 za20 za21 za22 lza2 za30 za31 za32 lza3
    have X3_9 : Ext w3 w9 := X3_8.trans e9
    have X5_9 : Ext w5 w9 := X5_8.trans e9
    refine (same1 _ w9 _ _ (hL1.ext X3_9) (hL2.ext X5_9)).mono ?_
    rintro e w10 ⟨rfl, e10⟩
    have s10 : w9.heap.size ≤ w10.heap.size := e10.size
    have ba0_10 := e10.blk ba0_9
    obtain ⟨za00, za01, za02, -, -, -⟩ := own3 ba0_10
    have lza0 := lt_of_blk ba0_10
    have ba1_10 := e10.blk ba1_9
    obtain ⟨za10, za11, za12, -, -, -⟩ := own3 ba1_10
    have lza1 := lt_of_blk ba1_10
    have ba2_10 := e10.blk ba2_9
    obtain ⟨za20, za21, za22, -, -, -⟩ := own3 ba2_10
    have lza2 := lt_of_blk ba2_10
    have ba3_10 := e10.blk ba3_9
    obtain ⟨za30, za31, za32, -, -, -⟩ := own3 ba3_10
    have lza3 := lt_of_blk ba3_10
    go_wp2_with fail
    clear za00 za01 za02 lza0 za10 za11 za12 lza1 za20 za21 za22 lza2 za30 za31 za32 lza3
    have X0_1 : Ext w0 w1 := (Ext.refl w0).trans e1
    have X0_2 : Ext w0 w2 := X0_1.trans e2
    have X0_3 : Ext w0 w3 := X0_2.trans e3
    have X0_4 : Ext w0 w4 := X0_3.trans e4
    have X0_5 : Ext w0 w5 := X0_4.trans e5
    have X0_6 : Ext w0 w6 := X0_5.trans e6
    have X0_7 : Ext w0 w7 := X0_6.trans e7
    have X0_8 : Ext w0 w8 := X0_7.trans e8
    have X0_9 : Ext w0 w9 := X0_8.trans e9
    have X0_10 : Ext w0 w10 := X0_9.trans e10
    go_ret
    exact ⟨rfl, X0_10⟩
  | true =>
    by_cases hq0 : q = 0
    · subst hq0
      obtain ⟨⟨k4, m4, ks4⟩, y, hy⟩ : ∃ x y, unfV ks nl (.mk k3 m3 ks3) = (x, y) := ⟨_, _, rfl⟩
      have HY := Lib.hid hy
      clear hy hz1 hz2
      have ba0_8 := e8.blk ba0_7
      have ba0_9 := e9.blk ba0_8
      obtain ⟨za00, za01, za02, -, -, -⟩ := own3 ba0_9
      have lza0 := lt_of_blk ba0_9
      have ba1_8 := e8.blk ba1_7
      have ba1_9 := e9.blk ba1_8
      obtain ⟨za10, za11, za12, -, -, -⟩ := own3 ba1_9
      have lza1 := lt_of_blk ba1_9
      have ba2_8 := e8.blk ba2_7
      have ba2_9 := e9.blk ba2_8
      obtain ⟨za20, za21, za22, -, -, -⟩ := own3 ba2_9
      have lza2 := lt_of_blk ba2_9
      have ba3_9 := e9.blk b8
      obtain ⟨za30, za31, za32, -, -, -⟩ := own3 ba3_9
      have lza3 := lt_of_blk ba3_9
      go_wp2_with fail
      clear za00 za01 za02 lza0 za10 za11 za12 lza1 za20 za21 za22 lza2 za30 za31 za32 lza3
      have X7_8 : Ext w7 w8 := (Ext.refl w7).trans e8
      have X7_9 : Ext w7 w9 := X7_8.trans e9
      have X1_7 : Ext w1 w7 := X1_6.trans e7
      have X1_8 : Ext w1 w8 := X1_7.trans e8
      have X1_9 : Ext w1 w9 := X1_8.trans e9
      refine (u1 HY.out w9 _ (hL3.ext X7_9) Al cl (hKs.ext X1_9) hln hla hlb).mono ?_
      rintro e w10 ⟨u, rfl, hL4, e10⟩
      have s10 : w9.heap.size ≤ w10.heap.size := e10.size
      obtain ⟨A4, cap4, rfl, hl4, hc4, hK4⟩ := Lies.mk_iff.1 hL4
      obtain ⟨w11, hw11⟩ : ∃ w11, w11 = w10.alloc (.cells #[.int .i64 k4, .int .i64 m4, .slice A4 ks4.length cap4] 44) := ⟨_, rfl⟩
      have e11 : Ext w10 w11 := hw11 ▸ (Ext.refl w10).alloc _
      have b11 := heap_alloc_new w10 (.cells #[.int .i64 k4, .int .i64 m4, .slice A4 ks4.length cap4] 44)
      rw [← hw11] at b11
      have s11 : w10.heap.size < w11.heap.size := lt_of_blk b11
      cases y with
      | false =>
        have ba0_10 := e10.blk ba0_9
        obtain ⟨za00, za01, za02, -, -, -⟩ := own3 ba0_10
        have lza0 := lt_of_blk ba0_10
        have ba1_10 := e10.blk ba1_9
        obtain ⟨za10, za11, za12, -, -, -⟩ := own3 ba1_10
        have lza1 := lt_of_blk ba1_10
        have ba2_10 := e10.blk ba2_9
        obtain ⟨za20, za21, za22, -, -, -⟩ := own3 ba2_10
        have lza2 := lt_of_blk ba2_10
        have ba3_10 := e10.blk ba3_9
        obtain ⟨za30, za31, za32, -, -, -⟩ := own3 ba3_10
        have lza3 := lt_of_blk ba3_10
        go_wp2_with fail
        rw [← hw11]
        clear hw11
        clear za00 za01 za02 lza0 za10 za11 za12 lza1 za20 za21 za22 lza2 za30 za31 za32 lza3
        have X0_1 : Ext w0 w1 := (Ext.refl w0).trans e1
        have X0_2 : Ext w0 w2 := X0_1.trans e2
        have X0_3 : Ext w0 w3 := X0_2.trans e3
        have X0_4 : Ext w0 w4 := X0_3.trans e4
        have X0_5 : Ext w0 w5 := X0_4.trans e5
        have X0_6 : Ext w0 w6 := X0_5.trans e6
        have X0_7 : Ext w0 w7 := X0_6.trans e7
        have X0_8 : Ext w0 w8 := X0_7.trans e8
        have X0_9 : Ext w0 w9 := X0_8.trans e9
        have X0_10 : Ext w0 w10 := X0_9.trans e10
        have X0_11 : Ext w0 w11 := X0_10.trans e11
        go_ret
        exact ⟨rfl, X0_11⟩
      | true =>
        obtain ⟨c, hc1, hc2⟩ := urFacts HZ.out HQ.out HY.out
        have HC := Lib.hid hc1
        clear hc1
        have ba0_10 := e10.blk ba0_9
        obtain ⟨za00, za01, za02, -, -, -⟩ := own3 ba0_10
        have lza0 := lt_of_blk ba0_10
        have ba1_10 := e10.blk ba1_9
        obtain ⟨za10, za11, za12, -, -, -⟩ := own3 ba1_10
        have lza1 := lt_of_blk ba1_10
        have ba2_10 := e10.blk ba2_9
        obtain ⟨za20, za21, za22, -, -, -⟩ := own3 ba2_10
        have lza2 := lt_of_blk ba2_10
        have ba3_10 := e10.blk ba3_9
        obtain ⟨za30, za31, za32, -, -, -⟩ := own3 ba3_10
        have lza3 := lt_of_blk ba3_10
        go_wp2_with fail
        rw [← hw11]
        clear hw11
        clear za00 za01 za02 lza0 za10 za11 za12 lza1 za20 za21 za22 lza2 za30 za31 za32 lza3
        have X3_9 : Ext w3 w9 := X3_8.trans e9
        have X3_10 : Ext w3 w10 := X3_9.trans e10
        have X3_11 : Ext w3 w11 := X3_10.trans e11
        have X10_11 : Ext w10 w11 := (Ext.refl w10).trans e11
        refine (cv1 HC.out w11 _ _ (hL1.ext X3_11) (hL4.ext X10_11)).mono ?_
        rintro e w12 ⟨rfl, e12⟩
        have s12 : w11.heap.size ≤ w12.heap.size := e12.size
        have ba0_11 := e11.blk ba0_10
        have ba0_12 := e12.blk ba0_11
        obtain ⟨za00, za01, za02, -, -, -⟩ := own3 ba0_12
        have lza0 := lt_of_blk ba0_12
        have ba1_11 := e11.blk ba1_10
        have ba1_12 := e12.blk ba1_11
        obtain ⟨za10, za11, za12, -, -, -⟩ := own3 ba1_12
        have lza1 := lt_of_blk ba1_12
        have ba2_11 := e11.blk ba2_10
        have ba2_12 := e12.blk ba2_11
        obtain ⟨za20, za21, za22, -, -, -⟩ := own3 ba2_12
        have lza2 := lt_of_blk ba2_12
        have ba3_11 := e11.blk ba3_10
        have ba3_12 := e12.blk ba3_11
        obtain ⟨za30, za31, za32, -, -, -⟩ := own3 ba3_12
        have lza3 := lt_of_blk ba3_12
        have ba4_12 := e12.blk b11
        obtain ⟨za40, za41, za42, -, -, -⟩ := own3 ba4_12
        have lza4 := lt_of_blk ba4_12
        go_wp2_with fail
        clear za00 za01 za02 lza0 za10 za11 za12 lza1 za20 za21 za22 lza2 za30 za31 za32 lza3 za40 za41 za42 lza4
        have X0_1 : Ext w0 w1 := (Ext.refl w0).trans e1
        have X0_2 : Ext w0 w2 := X0_1.trans e2
        have X0_3 : Ext w0 w3 := X0_2.trans e3
        have X0_4 : Ext w0 w4 := X0_3.trans e4
        have X0_5 : Ext w0 w5 := X0_4.trans e5
        have X0_6 : Ext w0 w6 := X0_5.trans e6
        have X0_7 : Ext w0 w7 := X0_6.trans e7
        have X0_8 : Ext w0 w8 := X0_7.trans e8
        have X0_9 : Ext w0 w9 := X0_8.trans e9
        have X0_10 : Ext w0 w10 := X0_9.trans e10
        have X0_11 : Ext w0 w11 := X0_10.trans e11
        have X0_12 : Ext w0 w12 := X0_11.trans e12
        go_ret
        exact ⟨rfl, X0_12⟩
    · have hqb : (q != 0) = true := by simpa using hq0
      have ba0_8 := e8.blk ba0_7
      have ba0_9 := e9.blk ba0_8
      obtain ⟨za00, za01, za02, -, -, -⟩ := own3 ba0_9
      have lza0 := lt_of_blk ba0_9
      have ba1_8 := e8.blk ba1_7
      have ba1_9 := e9.blk ba1_8
      obtain ⟨za10, za11, za12, -, -, -⟩ := own3 ba1_9
      have lza1 := lt_of_blk ba1_9
      have ba2_8 := e8.blk ba2_7
      have ba2_9 := e9.blk ba2_8
      obtain ⟨za20, za21, za22, -, -, -⟩ := own3 ba2_9
      have lza2 := lt_of_blk ba2_9
      have ba3_9 := e9.blk b8
      obtain ⟨za30, za31, za32, -, -, -⟩ := own3 ba3_9
      have lza3 := lt_of_blk ba3_9
      go_wp2_with fail
      clear za00 za01 za02 lza0 za10 za11 za12 lza1 za20 za21 za22 lza2 za30 za31 za32 lza3
      have X3_9 : Ext w3 w9 := X3_8.trans e9
      have X5_9 : Ext w5 w9 := X5_8.trans e9
      refine (same1 _ w9 _ _ (hL1.ext X3_9) (hL2.ext X5_9)).mono ?_
      rintro e w10 ⟨rfl, e10⟩
      have s10 : w9.heap.size ≤ w10.heap.size := e10.size
      have ba0_10 := e10.blk ba0_9
      obtain ⟨za00, za01, za02, -, -, -⟩ := own3 ba0_10
      have lza0 := lt_of_blk ba0_10
      have ba1_10 := e10.blk ba1_9
      obtain ⟨za10, za11, za12, -, -, -⟩ := own3 ba1_10
      have lza1 := lt_of_blk ba1_10
      have ba2_10 := e10.blk ba2_9
      obtain ⟨za20, za21, za22, -, -, -⟩ := own3 ba2_10
      have lza2 := lt_of_blk ba2_10
      have ba3_10 := e10.blk ba3_9
      obtain ⟨za30, za31, za32, -, -, -⟩ := own3 ba3_10
      have lza3 := lt_of_blk ba3_10
      go_wp2_with fail
      clear za00 za01 za02 lza0 za10 za11 za12 lza1 za20 za21 za22 lza2 za30 za31 za32 lza3
      have X0_1 : Ext w0 w1 := (Ext.refl w0).trans e1
      have X0_2 : Ext w0 w2 := X0_1.trans e2
      have X0_3 : Ext w0 w3 := X0_2.trans e3
      have X0_4 : Ext w0 w4 := X0_3.trans e4
      have X0_5 : Ext w0 w5 := X0_4.trans e5
      have X0_6 : Ext w0 w6 := X0_5.trans e6
      have X0_7 : Ext w0 w7 := X0_6.trans e7
      have X0_8 : Ext w0 w8 := X0_7.trans e8
      have X0_9 : Ext w0 w9 := X0_8.trans e9
      have X0_10 : Ext w0 w10 := X0_9.trans e10
      go_ret
      exact ⟨rfl, X0_10⟩

set_option maxRecDepth 100000 in
theorem lifted (os : Os) (started : os.Started) (H : Type) (enc : TypeId × Value → H) :
    ReturnsInHanded {} Try.checked os 12 .any (Rows.fnUnfoldReduceSpec.pre6 enc Try.prog Try.f12 Rows.fnUnfoldReduceRow.domain false) (Rows.fnUnfoldReduceSpec.post enc Try.prog Try.f12 false true false false) := by
  refine law_lift (C := Try.checked) (fn := Try.f12) (tb := 4) own started (by kernel_rfl) Try.func12 (by kernel_rfl) (by kernel_rfl) rfl Try.underlying4 rfl
    (fun ds h => by
      match ds, h with
      | [d1], _ => exact ⟨rfl, rfl, rfl⟩)
    (ChangeSpec.witness6 (enc := enc) (C := Try.checked) false ⟨#[], #[.slice none 0 0], []⟩ 8 (by kernel_rfl) (by kernel_rfl) (by kernel_rfl) (by kernel_rfl)) ?_
  intro W base args ds p hval hA hlt
  rw [Try.params12] at hA hval
  obtain ⟨v0, vs0, d0, ds0, p0, q0, hargs, rfl, rfl, h0, r0⟩ := trodAll_cons hA
  obtain ⟨rfl, rfl, rfl⟩ := trodAll_nil r0
  obtain rfl : args = #[v0] := by cases args; simp_all
  obtain ⟨A0, cap0, bs0, rfl, hl0, hc0, ha0⟩ := open_bytes Try.underlying35 Try.underlying5 (by kernel_rfl) (hval 0 35 v0 rfl rfl) h0
  exact walk W A0 cap0 bs0 hl0 hc0 ha0.1

theorem over : Rows.fnUnfoldReduceRow.holds Try.pinned (OpenSpec.ofChange Rows.fnUnfoldReduceSpec) :=
  OpenClaim.holds_of_wide 12 Try.f12 rfl rfl rfl rfl rfl rfl rfl ⟨rfl, rfl, rfl, rfl, rfl⟩ rfl rfl rfl rfl rfl (by kernel_rfl) Try.func12 (by kernel_rfl)
    (of_decide_eq_true (by kernel_rfl)) (by unfold Func.isWrapper; first | (rw [if_pos (by decide +kernel)]; kernel_rfl) | (rw [if_neg (by decide +kernel)]; exact ⟨rfl, rfl⟩))
    (fun os started H enc _ => lifted os started H enc)

theorem proved : Rows.FnUnfoldReduceSaid := over
#print axioms proved
end Go.Proofs.Ytappakllopkfiaa.unfoldReduceL

/-
  PROVED: the law FnFirstRedex returns true for every input: a step contracts the first redex.
  CONDITIONS: none.
-/
import Derived.Test.YtappakllopkfiaaRows
import Derived.Test.YtappakllopkfiaaLift
import Derived.Test.YtappakllopkfiaaDrawPl
import Derived.Test.YtappakllopkfiaaPlaces3
import Derived.Test.YtappakllopkfiaaStepT
import Derived.Deep.RegionHeld3
namespace Go.Proofs.Ytappakllopkfiaa.firstRedex
open Go.RowKit Go.ChangeShapes Go.WideShapes Go.ChangeAt
set_option linter.unusedVariables false

theorem own : ownKnob Try.prog.godebug = none := by kernel_rfl

theorem same1 (c : Tr) (w : World) (v u : Value) (h : Lies w c v) (k : Lies w c u) : Calls Try.prog 34 #[v, u] w fun e w' => e = .returned (.bool true) ∧ Ext w w' := by
  have := sameTerm_any c w c v u h k
  rw [eqTr_self] at this
  exact this
theorem ca1 {t u : Tr} {p : List Int} {z : Bool} (h : conP t p = (u, z)) (w : World) (v : Value) (hin : Lies w t v) (A : Option Addr) (n cap : Nat) (hp : PFs w A n cap p) : Calls Try.prog 33 #[v, .slice A n cap] w fun e w' => ∃ x, e = .returned (.tuple #[x, .bool z]) ∧ From w.heap.size w' u x ∧ Ext w w' := by
  have := contractAt_any t p w v hin A n cap hp
  rw [h] at this
  exact this.mono fun e w' ⟨r, h1, h2, h3⟩ => ⟨r, h1, From.made h2, h3⟩
theorem st1 {t y : Tr} {s : Int} (h : stepV t = (y, s)) (w : World) (v : Value) (hin : Lies w t v) : Calls Try.prog 32 #[v] w fun e w' => ∃ x, e = .returned (.tuple #[x, .int .i64 s]) ∧ Lies w' y x ∧ Ext w w' := by
  have := stepTerm_any t w v hin
  rw [h] at this
  exact this.mono fun e w' ⟨r, h1, h2, h3⟩ => ⟨r, h1, h2.lies, h3⟩
theorem frFacts (t : Tr) : (plV true t = [] ∧ ((stepV t).2 != 1) = true) ∨ (∃ p l y c, ∃ z : Bool, plV true t = p :: l ∧ stepV t = (y, if z = true then 1 else 2) ∧ conP t p = (c, z) ∧ (z = true → c = y)) := by
  cases h : valid sigT t with
  | false =>
    left
    unfold plV stepV
    rw [h]
    simp
  | true =>
    have hh := plc_head t []
    have e : plV true t = plc isRdx t [] := by unfold plV; rw [h]; simp
    rw [e]
    cases ho : outT t with
    | none =>
      left
      rw [ho] at hh
      refine ⟨List.head?_eq_none_iff.1 hh, ?_⟩
      unfold stepV stepO
      rw [h, if_pos rfl, ho]
      rfl
    | some p =>
      right
      rw [ho] at hh
      have hr := outT_at t p ho
      cases hp : plc isRdx t [] with
      | nil => rw [hp] at hh; cases hh
      | cons a l =>
        rw [hp] at hh
        have hap : a = p := by simpa using hh
        subst hap
        have hs : stepV t = if valid sigT (conA t a) = true then (conA t a, 1) else (dflt0, 2) := by unfold stepV stepO; rw [h, if_pos rfl, ho]
        have hc : conP t a = if valid sigT (conA t a) = true then (conA t a, true) else (dflt0, false) := by unfold conP conV; rw [h, hr, Bool.and_self, if_pos rfl]
        by_cases hv : valid sigT (conA t a) = true
        · rw [if_pos hv] at hs hc
          exact ⟨a, l, _, _, true, rfl, by rw [hs]; rfl, hc, fun _ => rfl⟩
        · rw [if_neg hv] at hs hc
          exact ⟨a, l, _, _, false, rfl, by rw [hs]; rfl, hc, fun h => by cases h⟩
set_option maxRecDepth 100000 in
set_option maxHeartbeats 4000000 in
theorem walk (w0 : World) (A : Option Addr) (cap : Nat) (bs : List Int) (hl : bs.length ≤ cap) (hc : cap ≤ maxLen) (hB : Bytes w0 w0.heap.size A bs) :
    Calls Try.prog 6 #[.slice A bs.length cap] w0 fun e w' => e = .returned (.bool true) ∧ Ext w0 w' := by
  have hcc := hc
  unfold maxLen at hcc
  by_cases hn : 1048576 < (bs.length : Int)
  · have d1 : decide (1048576 < (bs.length : Int)) = true := decide_eq_true hn
    go_enter Try.func6, Try.ntmps6
    go_wp2_with fail
    go_ret
    exact ⟨rfl, Ext.refl _⟩
  have d1 : decide (1048576 < (bs.length : Int)) = false := decide_eq_false hn
  go_enter Try.func6, Try.ntmps6
  go_wp2_with fail
  refine (drawRedexPlaces_any w0 A cap bs hl hc hB).mono ?_
  rintro e w1 ⟨⟨k0, m0, ks0⟩, u, rfl, hct, hF0, e1⟩
  have s1 : w0.heap.size ≤ w1.heap.size := e1.size
  have hL0 := hF0.lies
  obtain ⟨A0, cap0, rfl, hl0, hc0, hK0⟩ := Lies.mk_iff.1 hL0
  clear hF0
  obtain ⟨w2, hw2⟩ : ∃ w2, w2 = w1.alloc (.cells #[.int .i64 k0, .int .i64 m0, .slice A0 ks0.length cap0] 44) := ⟨_, rfl⟩
  have e2 : Ext w1 w2 := hw2 ▸ (Ext.refl w1).alloc _
  have b2 := heap_alloc_new w1 (.cells #[.int .i64 k0, .int .i64 m0, .slice A0 ks0.length cap0] 44)
  rw [← hw2] at b2
  have s2 : w1.heap.size < w2.heap.size := lt_of_blk b2
  go_wp2_with fail
  rw [← hw2]
  clear hw2
  have X1_2 : Ext w1 w2 := (Ext.refl w1).trans e2
  refine (plcR_top (.mk k0 m0 ks0) w2 _ (hL0.ext X1_2)).mono ?_
  rintro e w3 ⟨x, rfl, hG3, e3⟩
  have s3 : w2.heap.size ≤ w3.heap.size := e3.size
  obtain ⟨ps, hps⟩ : ∃ ps, plV true (.mk k0 m0 ks0) = ps := ⟨_, rfl⟩
  rw [hps] at hG3
  have HPS := Lib.hid hps
  clear hps
  obtain ⟨B3, c3, rfl⟩ := hG3.form
  obtain ⟨L, hL⟩ : ∃ L, ps.length = L := ⟨_, rfl⟩
  rw [hL] at hG3 ⊢
  have HL := Lib.hid hL
  clear hL
  have ba0_3 := e3.blk b2
  obtain ⟨za00, za01, za02, -, -, -⟩ := own3 ba0_3
  have lza0 := lt_of_blk ba0_3
  go_wp2_with fail
  clear za00 za01 za02 lza0
  have X1_3 : Ext w1 w3 := X1_2.trans e3
  refine (specRedexPlaces_any (.mk k0 m0 ks0) w3 _ (hL0.ext X1_3)).mono ?_
  rintro e w4 ⟨y, rfl, hG4, e4⟩
  have s4 : w3.heap.size ≤ w4.heap.size := e4.size
  rw [HPS.out] at hG4
  obtain ⟨B4, c4, rfl⟩ := hG4.form
  rw [HL.out]
  clear hG4
  have hLL : ((L : Int) != (L : Int)) = false := by simp
  have hLE : ((L : Int) == (L : Int)) = true := by simp
  obtain ⟨⟨k1, m1, ks1⟩, s, hst⟩ : ∃ y s, stepV (.mk k0 m0 ks0) = (y, s) := ⟨_, _, rfl⟩
  have HST := Lib.hid hst
  clear hst
  have ba0_4 := e4.blk ba0_3
  obtain ⟨za00, za01, za02, -, -, -⟩ := own3 ba0_4
  have lza0 := lt_of_blk ba0_4
  go_wp2_with fail
  clear za00 za01 za02 lza0
  have X1_4 : Ext w1 w4 := X1_3.trans e4
  refine (st1 HST.out w4 _ (hL0.ext X1_4)).mono ?_
  rintro e w5 ⟨u, rfl, hL1, e5⟩
  have s5 : w4.heap.size ≤ w5.heap.size := e5.size
  obtain ⟨A1, cap1, rfl, hl1, hc1, hK1⟩ := Lies.mk_iff.1 hL1
  obtain ⟨w6, hw6⟩ : ∃ w6, w6 = w5.alloc (.cells #[.int .i64 k1, .int .i64 m1, .slice A1 ks1.length cap1] 44) := ⟨_, rfl⟩
  have e6 : Ext w5 w6 := hw6 ▸ (Ext.refl w5).alloc _
  have b6 := heap_alloc_new w5 (.cells #[.int .i64 k1, .int .i64 m1, .slice A1 ks1.length cap1] 44)
  rw [← hw6] at b6
  have s6 : w5.heap.size < w6.heap.size := lt_of_blk b6
  have hcs := frFacts (.mk k0 m0 ks0)
  rw [HPS.out, HST.out] at hcs
  rcases hcs with ⟨hps0, hs⟩ | ⟨p, l, y, c, z, hps0, hy, hca, hyc⟩
  · skip
    have hl0 : L = 0 := by rw [← HL.out, hps0]; rfl
    subst hl0
    clear hps0
    have ba0_5 := e5.blk ba0_4
    obtain ⟨za00, za01, za02, -, -, -⟩ := own3 ba0_5
    have lza0 := lt_of_blk ba0_5
    go_wp2_with fail
    rw [← hw6]
    clear hw6
    clear za00 za01 za02 lza0
    have X0_1 : Ext w0 w1 := (Ext.refl w0).trans e1
    have X0_2 : Ext w0 w2 := X0_1.trans e2
    have X0_3 : Ext w0 w3 := X0_2.trans e3
    have X0_4 : Ext w0 w4 := X0_3.trans e4
    have X0_5 : Ext w0 w5 := X0_4.trans e5
    have X0_6 : Ext w0 w6 := X0_5.trans e6
    go_ret
    exact ⟨rfl, X0_6⟩
  · skip
    have hl0 : L ≠ 0 := by rw [← HL.out, hps0]; simp
    simp only [Prod.mk.injEq] at hy
    obtain ⟨hy1, hy2⟩ := hy
    have hb0 : (L == 0) = false := beq_eq_false_iff_ne.2 hl0
    have hb1 : ((L : Int) == 0) = false := beq_eq_false_iff_ne.2 (by omega)
    have hb2 : decide (L = 0) = false := decide_eq_false hl0
    have hb3 : decide ((L : Int) = 0) = false := decide_eq_false (by omega)
    have X3_4 : Ext w3 w4 := (Ext.refl w3).trans e4
    have X3_5 : Ext w3 w5 := X3_4.trans e5
    have hG3L := hG3.ext X3_5
    clear hG3
    obtain ⟨A3, cc3, he3, hl3, hm3, hn3, hc3⟩ := hG3L.slice
    rw [HL.out] at he3
    simp only [Value.slice.injEq, true_and] at he3
    obtain ⟨rfl, rfl⟩ := he3
    rw [HL.out] at hl3
    unfold maxLen at hm3
    obtain ⟨b3, u3, h3b, c3j, P3⟩ := hc3 0 (by rw [hps0]; simp)
    subst h3b
    obtain ⟨Au3, cu3, rfl, l3a, l3b, N3⟩ := P3.slice (fun b hb => hb.2.1)
    have hp0 : ps[0]'(by rw [hps0]; simp) = p := by simp [hps0]
    rw [hp0] at c3j l3a N3
    clear P3 hc3 hG3L hp0 hps0
    obtain ⟨np, hnp⟩ : ∃ n, p.length = n := ⟨_, rfl⟩
    have HPF : PFs w5 Au3 np cu3 p := ⟨hnp, by omega, l3b, N3⟩
    rw [hnp] at c3j
    have HCA := Lib.hid hca
    have hLi : (0 : Int) < (L : Int) := by omega
    have hLn : 0 < L := by omega
    clear hca N3 hnp
    cases z with
    | false =>
      have hs2 : s = 2 := hy2
      subst hs2
      clear hyc hy2
      have ba0_5 := e5.blk ba0_4
      obtain ⟨za00, za01, za02, -, -, -⟩ := own3 ba0_5
      have lza0 := lt_of_blk ba0_5
      go_wp2_with fail
      rw [← hw6]
      clear hw6
      clear za00 za01 za02 lza0
      have X5_6 : Ext w5 w6 := (Ext.refl w5).trans e6
      have c3n := (X5_6).cell c3j
      have X1_5 : Ext w1 w5 := X1_4.trans e5
      have X1_6 : Ext w1 w6 := X1_5.trans e6
      have ba0_6 := e6.blk ba0_5
      obtain ⟨za00, za01, za02, -, -, -⟩ := own3 ba0_6
      have lza0 := lt_of_blk ba0_6
      obtain ⟨za10, za11, za12, -, -, -⟩ := own3 b6
      have lza1 := lt_of_blk b6
      have HK7 := Lib.hid (show ∀ w', Ext w6 w' → w'.cell? ⟨w1.heap.size, 0, none⟩ = some (.int .i64 k0) ∧ w'.cell? ⟨w1.heap.size, 1, none⟩ = some (.int .i64 m0) ∧ w'.cell? ⟨w1.heap.size, 2, none⟩ = some (.slice A0 ks0.length cap0) ∧ w'.cell? ⟨b3, 0, none⟩ = some (.slice Au3 np cu3) from fun w' hw => ⟨hw.cell za00, hw.cell za01, hw.cell za02, hw.cell c3n⟩)
      have X0 : Ext w6 w6.drew := (Ext.refl w6).drew
      go_region_held3 (fun w' => w'.cell? ⟨w1.heap.size, 0, none⟩ = some (.int .i64 k0) ∧ w'.cell? ⟨w1.heap.size, 1, none⟩ = some (.int .i64 m0) ∧ w'.cell? ⟨w1.heap.size, 2, none⟩ = some (.slice A0 ks0.length cap0) ∧ w'.cell? ⟨b3, 0, none⟩ = some (.slice Au3 np cu3))
        (first | exact HK7.out _ (((hxd.setCell (p := ⟨w6.heap.size, 0, none⟩) (Nat.le_refl _) _).setCell (p := ⟨w6.heap.size, 1, none⟩) (Nat.le_refl _) _).setCell (p := ⟨w6.heap.size, 2, none⟩) (Nat.le_refl _) _) | exact HK7.out _ (hxd.alloc _) | exact HK7.out _ hxd | exact HK7.out _ X0 | exact HK7.out _ (X0.alloc _) | exact HK7.out _ ((Ext.refl w6).alloc _).drew)
        (first | (go_at_call 33; refine (ca1 HCA.out _ _ ((hL0.ext X1_6).ext (by first | exact X0 | exact X0.alloc _ | exact ((Ext.refl w6).alloc _).drew)) _ _ _ (HPF.ext (X5_6.trans (by first | exact X0 | exact X0.alloc _ | exact ((Ext.refl w6).alloc _).drew)))).mono ?_; rintro e wd ⟨u, rfl, hFd, ed⟩; have hxd : Ext w6 wd := (by first | exact X0.trans ed | exact (X0.alloc _).trans ed | exact (((Ext.refl w6).alloc _).drew).trans ed); have hFd2 := hFd; obtain ⟨ya, yb, yc, yd, ye, rfl⟩ := hFd2.three; clear hFd2; (first | (have qb : wd.heap[w6.heap.size]? = some (.cells #[.int .i64 0, .int .i64 0, .slice none 0 0] 44 (0, 0)) := ed.blk (heap_alloc_new w6.drew (.cells #[.int .i64 0, .int .i64 0, .slice none 0 0] 44)); obtain ⟨sa, sb, sc, fa, fb, fc⟩ := own3 qb) | (have qb : wd.heap[w6.heap.size]? = some (.cells #[.int .i64 0, .int .i64 0, .slice none 0 0] 44 (0, 0)) := ed.blk (heap_alloc_new w6 (.cells #[.int .i64 0, .int .i64 0, .slice none 0 0] 44)); obtain ⟨sa, sb, sc, fa, fb, fc⟩ := own3 qb) | (have qb := trivial))))
      all_goals (first
        | (have en : Ext w6 (wd.alloc (.cells #[.int .i64 ya, .int .i64 yb, .slice yc yd ye] 44)) := hxd.alloc _; have bn := heap_alloc_new wd (.cells #[.int .i64 ya, .int .i64 yb, .slice yc yd ye] 44); have ln := hFd.lies.ext ((Ext.refl wd).alloc (.cells #[.int .i64 ya, .int .i64 yb, .slice yc yd ye] 44)); obtain ⟨w7, hw7⟩ : ∃ x, x = wd.alloc (.cells #[.int .i64 ya, .int .i64 yb, .slice yc yd ye] 44) := ⟨_, rfl⟩; rw [← hw7]; rw [← hw7] at en bn ln; clear hw7; obtain ⟨g7, hg7⟩ : ∃ x, x = wd.heap.size := ⟨_, rfl⟩; rw [← hg7] at bn ⊢; clear hg7)
        | (have en : Ext w6 (((wd.setCell ⟨w6.heap.size, 0, none⟩ (.int .i64 ya)).setCell ⟨w6.heap.size, 1, none⟩ (.int .i64 yb)).setCell ⟨w6.heap.size, 2, none⟩ (.slice yc yd ye)) := (((hxd.setCell (p := ⟨w6.heap.size, 0, none⟩) (Nat.le_refl _) _).setCell (p := ⟨w6.heap.size, 1, none⟩) (Nat.le_refl _) _).setCell (p := ⟨w6.heap.size, 2, none⟩) (Nat.le_refl _) _); have bn := blk_setCell (blk_setCell (blk_setCell qb 0 (.int .i64 ya)) 1 (.int .i64 yb)) 2 (.slice yc yd ye); have ln := (((hFd.set (p := ⟨w6.heap.size, 0, none⟩) (by simp) (.int .i64 ya)).set (p := ⟨w6.heap.size, 1, none⟩) (by simp) (.int .i64 yb)).set (p := ⟨w6.heap.size, 2, none⟩) (by simp) (.slice yc yd ye)).lies; obtain ⟨w7, hw7⟩ : ∃ x, x = (((wd.setCell ⟨w6.heap.size, 0, none⟩ (.int .i64 ya)).setCell ⟨w6.heap.size, 1, none⟩ (.int .i64 yb)).setCell ⟨w6.heap.size, 2, none⟩ (.slice yc yd ye)) := ⟨_, rfl⟩; rw [← hw7]; rw [← hw7] at en bn ln; clear hw7; obtain ⟨g7, hg7⟩ : ∃ x, x = w6.heap.size := ⟨_, rfl⟩; rw [← hg7] at bn ⊢; clear hg7))
      all_goals (
        try clear sa sb sc fa fb fc
        clear qb hxd hFd ed X0 HK7 za00 za01 za02 lza0 za10 za11 za12 lza1
        have e7 : Ext w6 w7 := en
        have b7 : w7.heap[g7]? = some (.cells #[.int .i64 ya, .int .i64 yb, .slice yc yd ye] 44 (0, 0)) := bn
        have l7 := ln
        clear en bn ln
        have lg7 := lt_of_blk b7
        have s7 : w6.heap.size ≤ w7.heap.size := e7.size
        have hL3 := l7
        clear l7
        have ba0_7 := e7.blk ba0_6
        obtain ⟨za00, za01, za02, -, -, -⟩ := own3 ba0_7
        have lza0 := lt_of_blk ba0_7
        have ba1_7 := e7.blk b6
        obtain ⟨za10, za11, za12, -, -, -⟩ := own3 ba1_7
        have lza1 := lt_of_blk ba1_7
        obtain ⟨zr70, zr71, zr72, -, -, -⟩ := own3 b7
        have lzr7 := lt_of_blk b7
        go_wp2_with fail
        clear za00 za01 za02 lza0 za10 za11 za12 lza1 zr70 zr71 zr72 lzr7
        have X0_1 : Ext w0 w1 := (Ext.refl w0).trans e1
        have X0_2 : Ext w0 w2 := X0_1.trans e2
        have X0_3 : Ext w0 w3 := X0_2.trans e3
        have X0_4 : Ext w0 w4 := X0_3.trans e4
        have X0_5 : Ext w0 w5 := X0_4.trans e5
        have X0_6 : Ext w0 w6 := X0_5.trans e6
        have X0_7 : Ext w0 w7 := X0_6.trans e7
        go_ret
        exact ⟨rfl, X0_7⟩)
    | true =>
      have hs2 : s = 1 := hy2
      subst hs2
      have hcy := hyc rfl
      subst hcy
      clear hyc hy2
      subst hy1
      have ba0_5 := e5.blk ba0_4
      obtain ⟨za00, za01, za02, -, -, -⟩ := own3 ba0_5
      have lza0 := lt_of_blk ba0_5
      go_wp2_with fail
      rw [← hw6]
      clear hw6
      clear za00 za01 za02 lza0
      have X5_6 : Ext w5 w6 := (Ext.refl w5).trans e6
      have c3n := (X5_6).cell c3j
      have X1_5 : Ext w1 w5 := X1_4.trans e5
      have X1_6 : Ext w1 w6 := X1_5.trans e6
      have ba0_6 := e6.blk ba0_5
      obtain ⟨za00, za01, za02, -, -, -⟩ := own3 ba0_6
      have lza0 := lt_of_blk ba0_6
      obtain ⟨za10, za11, za12, -, -, -⟩ := own3 b6
      have lza1 := lt_of_blk b6
      have HK7 := Lib.hid (show ∀ w', Ext w6 w' → w'.cell? ⟨w1.heap.size, 0, none⟩ = some (.int .i64 k0) ∧ w'.cell? ⟨w1.heap.size, 1, none⟩ = some (.int .i64 m0) ∧ w'.cell? ⟨w1.heap.size, 2, none⟩ = some (.slice A0 ks0.length cap0) ∧ w'.cell? ⟨b3, 0, none⟩ = some (.slice Au3 np cu3) from fun w' hw => ⟨hw.cell za00, hw.cell za01, hw.cell za02, hw.cell c3n⟩)
      have X0 : Ext w6 w6.drew := (Ext.refl w6).drew
      go_region_held3 (fun w' => w'.cell? ⟨w1.heap.size, 0, none⟩ = some (.int .i64 k0) ∧ w'.cell? ⟨w1.heap.size, 1, none⟩ = some (.int .i64 m0) ∧ w'.cell? ⟨w1.heap.size, 2, none⟩ = some (.slice A0 ks0.length cap0) ∧ w'.cell? ⟨b3, 0, none⟩ = some (.slice Au3 np cu3))
        (first | exact HK7.out _ (((hxd.setCell (p := ⟨w6.heap.size, 0, none⟩) (Nat.le_refl _) _).setCell (p := ⟨w6.heap.size, 1, none⟩) (Nat.le_refl _) _).setCell (p := ⟨w6.heap.size, 2, none⟩) (Nat.le_refl _) _) | exact HK7.out _ (hxd.alloc _) | exact HK7.out _ hxd | exact HK7.out _ X0 | exact HK7.out _ (X0.alloc _) | exact HK7.out _ ((Ext.refl w6).alloc _).drew)
        (first | (go_at_call 33; refine (ca1 HCA.out _ _ ((hL0.ext X1_6).ext (by first | exact X0 | exact X0.alloc _ | exact ((Ext.refl w6).alloc _).drew)) _ _ _ (HPF.ext (X5_6.trans (by first | exact X0 | exact X0.alloc _ | exact ((Ext.refl w6).alloc _).drew)))).mono ?_; rintro e wd ⟨u, rfl, hFd, ed⟩; have hxd : Ext w6 wd := (by first | exact X0.trans ed | exact (X0.alloc _).trans ed | exact (((Ext.refl w6).alloc _).drew).trans ed); have hFd2 := hFd; obtain ⟨ya, yb, yc, yd, ye, rfl⟩ := hFd2.three; clear hFd2; (first | (have qb : wd.heap[w6.heap.size]? = some (.cells #[.int .i64 0, .int .i64 0, .slice none 0 0] 44 (0, 0)) := ed.blk (heap_alloc_new w6.drew (.cells #[.int .i64 0, .int .i64 0, .slice none 0 0] 44)); obtain ⟨sa, sb, sc, fa, fb, fc⟩ := own3 qb) | (have qb : wd.heap[w6.heap.size]? = some (.cells #[.int .i64 0, .int .i64 0, .slice none 0 0] 44 (0, 0)) := ed.blk (heap_alloc_new w6 (.cells #[.int .i64 0, .int .i64 0, .slice none 0 0] 44)); obtain ⟨sa, sb, sc, fa, fb, fc⟩ := own3 qb) | (have qb := trivial))))
      all_goals (first
        | (have en : Ext w6 (wd.alloc (.cells #[.int .i64 ya, .int .i64 yb, .slice yc yd ye] 44)) := hxd.alloc _; have bn := heap_alloc_new wd (.cells #[.int .i64 ya, .int .i64 yb, .slice yc yd ye] 44); have ln := hFd.lies.ext ((Ext.refl wd).alloc (.cells #[.int .i64 ya, .int .i64 yb, .slice yc yd ye] 44)); obtain ⟨w7, hw7⟩ : ∃ x, x = wd.alloc (.cells #[.int .i64 ya, .int .i64 yb, .slice yc yd ye] 44) := ⟨_, rfl⟩; rw [← hw7]; rw [← hw7] at en bn ln; clear hw7; obtain ⟨g7, hg7⟩ : ∃ x, x = wd.heap.size := ⟨_, rfl⟩; rw [← hg7] at bn ⊢; clear hg7)
        | (have en : Ext w6 (((wd.setCell ⟨w6.heap.size, 0, none⟩ (.int .i64 ya)).setCell ⟨w6.heap.size, 1, none⟩ (.int .i64 yb)).setCell ⟨w6.heap.size, 2, none⟩ (.slice yc yd ye)) := (((hxd.setCell (p := ⟨w6.heap.size, 0, none⟩) (Nat.le_refl _) _).setCell (p := ⟨w6.heap.size, 1, none⟩) (Nat.le_refl _) _).setCell (p := ⟨w6.heap.size, 2, none⟩) (Nat.le_refl _) _); have bn := blk_setCell (blk_setCell (blk_setCell qb 0 (.int .i64 ya)) 1 (.int .i64 yb)) 2 (.slice yc yd ye); have ln := (((hFd.set (p := ⟨w6.heap.size, 0, none⟩) (by simp) (.int .i64 ya)).set (p := ⟨w6.heap.size, 1, none⟩) (by simp) (.int .i64 yb)).set (p := ⟨w6.heap.size, 2, none⟩) (by simp) (.slice yc yd ye)).lies; obtain ⟨w7, hw7⟩ : ∃ x, x = (((wd.setCell ⟨w6.heap.size, 0, none⟩ (.int .i64 ya)).setCell ⟨w6.heap.size, 1, none⟩ (.int .i64 yb)).setCell ⟨w6.heap.size, 2, none⟩ (.slice yc yd ye)) := ⟨_, rfl⟩; rw [← hw7]; rw [← hw7] at en bn ln; clear hw7; obtain ⟨g7, hg7⟩ : ∃ x, x = w6.heap.size := ⟨_, rfl⟩; rw [← hg7] at bn ⊢; clear hg7))
      all_goals (
        try clear sa sb sc fa fb fc
        clear qb hxd hFd ed X0 HK7 za00 za01 za02 lza0 za10 za11 za12 lza1
        have e7 : Ext w6 w7 := en
        have b7 : w7.heap[g7]? = some (.cells #[.int .i64 ya, .int .i64 yb, .slice yc yd ye] 44 (0, 0)) := bn
        have l7 := ln
        clear en bn ln
        have lg7 := lt_of_blk b7
        have s7 : w6.heap.size ≤ w7.heap.size := e7.size
        have hL3 := l7
        clear l7
        have ba0_7 := e7.blk ba0_6
        obtain ⟨za00, za01, za02, -, -, -⟩ := own3 ba0_7
        have lza0 := lt_of_blk ba0_7
        have ba1_7 := e7.blk b6
        obtain ⟨za10, za11, za12, -, -, -⟩ := own3 ba1_7
        have lza1 := lt_of_blk ba1_7
        obtain ⟨zr70, zr71, zr72, -, -, -⟩ := own3 b7
        have lzr7 := lt_of_blk b7
        go_wp2_with fail
        clear za00 za01 za02 lza0 za10 za11 za12 lza1 zr70 zr71 zr72 lzr7
        have X5_7 : Ext w5 w7 := X5_6.trans e7
        refine (same1 _ w7 _ _ (hL1.ext X5_7) (hL3.ext (Ext.refl w7))).mono ?_
        rintro e w8 ⟨rfl, e8⟩
        have s8 : w7.heap.size ≤ w8.heap.size := e8.size
        have ba0_8 := e8.blk ba0_7
        obtain ⟨za00, za01, za02, -, -, -⟩ := own3 ba0_8
        have lza0 := lt_of_blk ba0_8
        have ba1_8 := e8.blk ba1_7
        obtain ⟨za10, za11, za12, -, -, -⟩ := own3 ba1_8
        have lza1 := lt_of_blk ba1_8
        have br7_8 := e8.blk b7
        obtain ⟨zr70, zr71, zr72, -, -, -⟩ := own3 br7_8
        have lzr7 := lt_of_blk br7_8
        go_wp2_with fail
        clear za00 za01 za02 lza0 za10 za11 za12 lza1 zr70 zr71 zr72 lzr7
        have X0_1 : Ext w0 w1 := (Ext.refl w0).trans e1
        have X0_2 : Ext w0 w2 := X0_1.trans e2
        have X0_3 : Ext w0 w3 := X0_2.trans e3
        have X0_4 : Ext w0 w4 := X0_3.trans e4
        have X0_5 : Ext w0 w5 := X0_4.trans e5
        have X0_6 : Ext w0 w6 := X0_5.trans e6
        have X0_7 : Ext w0 w7 := X0_6.trans e7
        have X0_8 : Ext w0 w8 := X0_7.trans e8
        go_ret
        exact ⟨rfl, X0_8⟩)

set_option maxRecDepth 100000 in
theorem lifted (os : Os) (started : os.Started) (H : Type) (enc : TypeId × Value → H) :
    ReturnsInHanded {} Try.checked os 6 .any (Rows.fnFirstRedexSpec.pre6 enc Try.prog Try.f6 Rows.fnFirstRedexRow.domain false) (Rows.fnFirstRedexSpec.post enc Try.prog Try.f6 false true false false) := by
  refine law_lift (C := Try.checked) (fn := Try.f6) (tb := 4) own started (by kernel_rfl) Try.func6 (by kernel_rfl) (by kernel_rfl) rfl Try.underlying4 rfl
    (fun ds h => by
      match ds, h with
      | [d1], _ => exact ⟨rfl, rfl, rfl⟩)
    (ChangeSpec.witness6 (enc := enc) (C := Try.checked) false ⟨#[], #[.slice none 0 0], []⟩ 8 (by kernel_rfl) (by kernel_rfl) (by kernel_rfl) (by kernel_rfl)) ?_
  intro W base args ds p hval hA hlt
  rw [Try.params6] at hA hval
  obtain ⟨v0, vs0, d0, ds0, p0, q0, hargs, rfl, rfl, h0, r0⟩ := trodAll_cons hA
  obtain ⟨rfl, rfl, rfl⟩ := trodAll_nil r0
  obtain rfl : args = #[v0] := by cases args; simp_all
  obtain ⟨A0, cap0, bs0, rfl, hl0, hc0, ha0⟩ := open_bytes Try.underlying35 Try.underlying5 (by kernel_rfl) (hval 0 35 v0 rfl rfl) h0
  exact walk W A0 cap0 bs0 hl0 hc0 ha0.1

theorem over : Rows.fnFirstRedexRow.holds Try.pinned (OpenSpec.ofChange Rows.fnFirstRedexSpec) :=
  OpenClaim.holds_of_wide 6 Try.f6 rfl rfl rfl rfl rfl rfl rfl ⟨rfl, rfl, rfl, rfl, rfl⟩ rfl rfl rfl rfl rfl (by kernel_rfl) Try.func6 (by kernel_rfl)
    (of_decide_eq_true (by kernel_rfl)) (by unfold Func.isWrapper; first | (rw [if_pos (by decide +kernel)]; kernel_rfl) | (rw [if_neg (by decide +kernel)]; exact ⟨rfl, rfl⟩))
    (fun os started H enc _ => lifted os started H enc)

theorem proved : Rows.FnFirstRedexSaid := over
#print axioms proved
end Go.Proofs.Ytappakllopkfiaa.firstRedex

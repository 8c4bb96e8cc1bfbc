/-
  PROVED: the law FnRedexPlaces returns true for every input: redexes have places.
  CONDITIONS: none.
-/
import Derived.Test.YtjgdckkeojehoaaRows
import Derived.Test.YtjgdckkeojehoaaLift
import Derived.Test.YtjgdckkeojehoaaDrawPl
import Derived.Test.YtjgdckkeojehoaaPlaces3
import Derived.Test.YtjgdckkeojehoaaWalked2
import Derived.Test.YtjgdckkeojehoaaCountR
import Derived.Test.YtjgdckkeojehoaaExShape
import Derived.Deep.RegionHeld3
namespace Go.Proofs.Ytjgdckkeojehoaa.redexPlaces
open Go.RowKit Go.ChangeShapes Go.WideShapes Go.ChangeAt
set_option linter.unusedVariables false

theorem own : ownKnob Try.prog.godebug = none := by kernel_rfl

theorem atV_of {t u : Tr} {p : List Int} (hv : valid sigT t = true) (h : atT t p = some u) : atV t p = (u, true) := by
  unfold atV
  rw [if_pos hv, h]
  rfl
theorem valid_part {t u : Tr} {p : List Int} (hv : valid sigT t = true) (h : atT t p = some u) : valid sigT u = true := by
  obtain ⟨h1, h2⟩ := cnt_of_valid hv
  unfold valid
  rw [Bool.and_eq_true, decide_eq_true_eq]
  exact ⟨shape_up (atT_shape p t u 30 h2 h) (by omega), Nat.le_trans (atT_cnt p t u h) h1⟩
structure PF (w : World) (A : Option Addr) (n cap : Nat) (p : List Int) : Prop where
  hn : p.length = n
  hl : n ≤ cap
  hc : cap ≤ maxLen
  hP : Nums w A p
theorem PF.ext {w w' : World} {A : Option Addr} {n cap : Nat} {p : List Int} (h : PF w A n cap p) (he : Ext w w') : PF w' A n cap p := ⟨h.hn, h.hl, h.hc, h.hP.ext he⟩
theorem tm1 {t u : Tr} {p : List Int} {z : Bool} (h : atV t p = (u, z)) (w : World) (v : Value) (hin : Lies w t v) (A : Option Addr) (n cap : Nat) (hp : PF w A n cap p) : Calls Try.prog 14 #[v, .slice A n cap] w fun e w' => ∃ x, e = .returned (.tuple #[x, .bool z]) ∧ From w.heap.size w' u x ∧ Ext w w' := by
  obtain ⟨rfl, hl, hc, hP⟩ := hp
  have := termAt_any t p w v hin A cap hl hc hP
  rw [h] at this
  exact this
theorem rpFacts (t : Tr) : (cntRV t = ((plV true t).length : Int)) ∧ (∀ p ∈ plV true t, ∃ u r, atV t p = (u, true) ∧ rdxV u = r ∧ r ≠ 0) := by
  unfold plV cntRV
  cases h : valid sigT t with
  | false => exact ⟨by simp, fun p hp => by simp at hp⟩
  | true =>
    simp only [if_true]
    refine ⟨by rw [plc_len], fun p hp => ?_⟩
    obtain ⟨r, u, h1, h2, h3⟩ := plc_at _ _ _ _ hp
    rw [List.nil_append] at h1
    subst h1
    refine ⟨u, rdxT u, atV_of h h2, ?_, by simpa [isRdx] using h3⟩
    unfold rdxV
    rw [if_pos (valid_part h h2)]
set_option maxRecDepth 100000 in
set_option maxHeartbeats 4000000 in
theorem walk (w0 : World) (A : Option Addr) (cap : Nat) (bs : List Int) (hl : bs.length ≤ cap) (hc : cap ≤ maxLen) (hB : Bytes w0 w0.heap.size A bs) :
    Calls Try.prog 3 #[.slice A bs.length cap] w0 fun e w' => e = .returned (.bool true) ∧ Ext w0 w' := by
  have hcc := hc
  unfold maxLen at hcc
  by_cases hn : 1048576 < (bs.length : Int)
  · have d1 : decide (1048576 < (bs.length : Int)) = true := decide_eq_true hn
    go_enter Try.func3, Try.ntmps3
    go_wp2_with fail
    go_ret
    exact ⟨rfl, Ext.refl _⟩
  have d1 : decide (1048576 < (bs.length : Int)) = false := decide_eq_false hn
  go_enter Try.func3, Try.ntmps3
  go_wp2_with fail
  refine (drawRedexPlaces_any w0 A cap bs hl hc hB).mono ?_
  rintro e w1 ⟨⟨k0, m0, ks0⟩, u, rfl, hct, hF0, e1⟩
  have s1 : w0.heap.size ≤ w1.heap.size := e1.size
  have hL0 := hF0.lies
  obtain ⟨A0, cap0, rfl, hl0, hc0, hK0⟩ := Lies.mk_iff.1 hL0
  clear hF0
  obtain ⟨w2, hw2⟩ : ∃ w2, w2 = w1.alloc (.cells #[.int .i64 k0, .int .i64 m0, .slice A0 ks0.length cap0] 25) := ⟨_, rfl⟩
  have e2 : Ext w1 w2 := hw2 ▸ (Ext.refl w1).alloc _
  have b2 := heap_alloc_new w1 (.cells #[.int .i64 k0, .int .i64 m0, .slice A0 ks0.length cap0] 25)
  rw [← hw2] at b2
  have s2 : w1.heap.size < w2.heap.size := lt_of_blk b2
  go_wp2_with fail
  rw [← hw2]
  clear hw2
  have X1_2 : Ext w1 w2 := (Ext.refl w1).trans e2
  refine (plcR_top (.mk k0 m0 ks0) w2 _ (hL0.ext X1_2)).mono ?_
  rintro e w3 ⟨x, rfl, hG3, e3⟩
  have s3 : w2.heap.size ≤ w3.heap.size := e3.size
  obtain ⟨hcv, hok0⟩ := rpFacts (.mk k0 m0 ks0)
  obtain ⟨ps, hps⟩ : ∃ ps, plV true (.mk k0 m0 ks0) = ps := ⟨_, rfl⟩
  rw [hps] at hcv hok0 hG3
  have HPS := Lib.hid hps
  clear hps
  obtain ⟨B3, c3, rfl⟩ := hG3.form
  obtain ⟨L, hL⟩ : ∃ L, ps.length = L := ⟨_, rfl⟩
  rw [hL] at hcv hG3 ⊢
  have HL := Lib.hid hL
  clear hL
  have HOK := Lib.hid hok0
  have HCV := Lib.hid hcv
  clear hok0 hcv
  have ba0_3 := e3.blk b2
  obtain ⟨za00, za01, za02, -, -, -⟩ := own3 ba0_3
  have lza0 := lt_of_blk ba0_3
  go_wp2_with fail
  clear za00 za01 za02 lza0
  have X1_3 : Ext w1 w3 := X1_2.trans e3
  refine (specRedexPlaces_any (.mk k0 m0 ks0) w3 _ (hL0.ext X1_3)).mono ?_
  rintro e w4 ⟨y, rfl, hG4, e4⟩
  have s4 : w3.heap.size ≤ w4.heap.size := e4.size
  rw [HPS.out] at hG4
  obtain ⟨B4, c4, rfl⟩ := hG4.form
  rw [HL.out] at hG4 ⊢
  have hLL : ((L : Int) != (L : Int)) = false := by simp
  have ba0_4 := e4.blk ba0_3
  obtain ⟨za00, za01, za02, -, -, -⟩ := own3 ba0_4
  have lza0 := lt_of_blk ba0_4
  go_wp2_with fail
  clear za00 za01 za02 lza0
  have X1_4 : Ext w1 w4 := X1_3.trans e4
  refine (countRedexes_top (.mk k0 m0 ks0) w4 _ (hL0.ext X1_4)).mono ?_
  rw [HCV.out]
  rintro e w5 ⟨rfl, e5⟩
  have s5 : w4.heap.size ≤ w5.heap.size := e5.size
  have X3_4 : Ext w3 w4 := (Ext.refl w3).trans e4
  have X3_5 : Ext w3 w5 := X3_4.trans e5
  have X4_5 : Ext w4 w5 := (Ext.refl w4).trans e5
  have X1_5 : Ext w1 w5 := X1_4.trans e5
  have X0_1 : Ext w0 w1 := (Ext.refl w0).trans e1
  have X0_2 : Ext w0 w2 := X0_1.trans e2
  have X0_3 : Ext w0 w3 := X0_2.trans e3
  have X0_4 : Ext w0 w4 := X0_3.trans e4
  have X0_5 : Ext w0 w5 := X0_4.trans e5
  have hG3L := hG3.ext X3_5
  have hG4L := hG4.ext X4_5
  clear hG3 hG4
  have ba0_5 := e5.blk ba0_4
  obtain ⟨A3, cc3, he3, hl3, hm3, hn3, hc3⟩ := hG3L.slice
  obtain ⟨A4, cc4, he4, hl4, hm4, hn4, hc4⟩ := hG4L.slice
  rw [HL.out] at he3 he4
  simp only [Value.slice.injEq, true_and] at he3 he4
  obtain ⟨rfl, rfl⟩ := he3
  obtain ⟨rfl, rfl⟩ := he4
  rw [HL.out] at hl3 hl4
  unfold maxLen at hm3 hm4
  have hps : ps.length = L := HL.out
  have HPSL := Lib.hid hps
  clear hps
  have HC3 := Lib.hid hc3
  have HC4 := Lib.hid hc4
  clear hc3 hc4 hG3L hG4L
  obtain ⟨za00, za01, za02, -, -, -⟩ := own3 ba0_5
  have lza0 := lt_of_blk ba0_5
  go_wp2_with fail
  clear za00 za01 za02 lza0
  go_loopw [6] (fun i wr => ∃ (j : Nat), j ≤ L ∧ i = .int .i64 j ∧ Ext w5 wr) (fun i _ => L - (intOf i).toNat)
  case atStart => exact ⟨0, Nat.zero_le _, rfl, Ext.refl _⟩
  case round =>
    obtain ⟨j, hj, rfl, hx⟩ := hrel
    by_cases hlt : j < L
    · skip
      obtain ⟨w6, hw6⟩ : ∃ x, x = wr := ⟨_, rfl⟩
      subst hw6
      have e6 : Ext w5 w6 := hx
      clear hx
      have s6 : w5.heap.size ≤ w6.heap.size := e6.size
      have hjL : j < ps.length := by rw [HPSL.out]; omega
      obtain ⟨b3, u3, h3b, c3j, P3⟩ := HC3.out j hjL
      obtain ⟨b4, u4, h4b, c4j, P4⟩ := HC4.out j hjL
      subst h3b h4b
      obtain ⟨Au3, cu3, rfl, l3a, l3b, N3⟩ := P3.slice (fun b hb => hb.2.1)
      obtain ⟨Au4, cu4, rfl, l4a, l4b, N4⟩ := P4.slice (fun b hb => hb.2.1)
      obtain ⟨tu, rr, hat, hrv, hrn⟩ := HOK.out _ (List.getElem_mem hjL)
      clear P3 P4
      generalize ps[j] = pj at *
      have HAT := Lib.hid hat
      have HRV := Lib.hid hrv
      have hrb : (rr == 0) = false := beq_eq_false_iff_ne.2 hrn
      obtain ⟨np, hnp⟩ : ∃ n, pj.length = n := ⟨_, rfl⟩
      have HPF : PF w5 Au3 np cu3 pj := ⟨hnp, by omega, l3b, N3⟩
      have HDK := Lib.hid (fun W (hW : Ext w5 W) => dkInts_any pj pj W _ _ cu3 cu4 (N3.ext hW) l3a l3b (N4.ext hW) l4a l4b)
      rw [decide_eq_true rfl, hnp] at HDK
      rw [hnp] at c3j c4j
      have c3r := e6.cell c3j
      have c4r := e6.cell c4j
      have hj2 : (j : Int) < (L : Int) := by omega
      have hj0 : (0 : Int) ≤ (j : Int) := Int.natCast_nonneg _
      clear hat hrv hrn N3 N4 hj hnp
      have ba0_6 := e6.blk ba0_5
      obtain ⟨za00, za01, za02, -, -, -⟩ := own3 ba0_6
      have lza0 := lt_of_blk ba0_6
      go_wp2_with fail
      clear za00 za01 za02 lza0
      have X1_6 : Ext w1 w6 := X1_5.trans e6
      have X5_6 : Ext w5 w6 := (Ext.refl w5).trans e6
      obtain ⟨za00, za01, za02, -, -, -⟩ := own3 ba0_6
      have lza0 := lt_of_blk ba0_6
      have HK7 := Lib.hid (show ∀ w', Ext w6 w' → w'.cell? ⟨w1.heap.size, 0, none⟩ = some (.int .i64 k0) ∧ w'.cell? ⟨w1.heap.size, 1, none⟩ = some (.int .i64 m0) ∧ w'.cell? ⟨w1.heap.size, 2, none⟩ = some (.slice A0 ks0.length cap0) ∧ w'.cell? ⟨b3, j, none⟩ = some (.slice Au3 np cu3) from fun w' hw => ⟨hw.cell za00, hw.cell za01, hw.cell za02, hw.cell c3r⟩)
      have X0 : Ext w6 w6.drew := (Ext.refl w6).drew
      go_region_held3 (fun w' => w'.cell? ⟨w1.heap.size, 0, none⟩ = some (.int .i64 k0) ∧ w'.cell? ⟨w1.heap.size, 1, none⟩ = some (.int .i64 m0) ∧ w'.cell? ⟨w1.heap.size, 2, none⟩ = some (.slice A0 ks0.length cap0) ∧ w'.cell? ⟨b3, j, none⟩ = some (.slice Au3 np cu3))
        (first | exact HK7.out _ (((hxd.setCell (p := ⟨w6.heap.size, 0, none⟩) (Nat.le_refl _) _).setCell (p := ⟨w6.heap.size, 1, none⟩) (Nat.le_refl _) _).setCell (p := ⟨w6.heap.size, 2, none⟩) (Nat.le_refl _) _) | exact HK7.out _ (hxd.alloc _) | exact HK7.out _ hxd | exact HK7.out _ X0 | exact HK7.out _ (X0.alloc _) | exact HK7.out _ ((Ext.refl w6).alloc _).drew)
        (first | (go_at_call 14; refine (tm1 HAT.out _ _ ((hL0.ext X1_6).ext (by first | exact X0 | exact X0.alloc _ | exact ((Ext.refl w6).alloc _).drew)) _ _ _ (HPF.ext (X5_6.trans (by first | exact X0 | exact X0.alloc _ | exact ((Ext.refl w6).alloc _).drew)))).mono ?_; rintro e wd ⟨u, rfl, hFd, ed⟩; have hxd : Ext w6 wd := (by first | exact X0.trans ed | exact (X0.alloc _).trans ed | exact (((Ext.refl w6).alloc _).drew).trans ed); have hFd2 := hFd; obtain ⟨ya, yb, yc, yd, ye, rfl⟩ := hFd2.three; clear hFd2; (first | (have qb : wd.heap[w6.heap.size]? = some (.cells #[.int .i64 0, .int .i64 0, .slice none 0 0] 25 (0, 0)) := ed.blk (heap_alloc_new w6.drew (.cells #[.int .i64 0, .int .i64 0, .slice none 0 0] 25)); obtain ⟨sa, sb, sc, fa, fb, fc⟩ := own3 qb) | (have qb : wd.heap[w6.heap.size]? = some (.cells #[.int .i64 0, .int .i64 0, .slice none 0 0] 25 (0, 0)) := ed.blk (heap_alloc_new w6 (.cells #[.int .i64 0, .int .i64 0, .slice none 0 0] 25)); obtain ⟨sa, sb, sc, fa, fb, fc⟩ := own3 qb) | (have qb := trivial))))
      all_goals (first
        | (have en : Ext w6 (wd.alloc (.cells #[.int .i64 ya, .int .i64 yb, .slice yc yd ye] 25)) := hxd.alloc _; have bn := heap_alloc_new wd (.cells #[.int .i64 ya, .int .i64 yb, .slice yc yd ye] 25); have ln := hFd.lies.ext ((Ext.refl wd).alloc (.cells #[.int .i64 ya, .int .i64 yb, .slice yc yd ye] 25)); obtain ⟨w7, hw7⟩ : ∃ x, x = wd.alloc (.cells #[.int .i64 ya, .int .i64 yb, .slice yc yd ye] 25) := ⟨_, rfl⟩; rw [← hw7]; rw [← hw7] at en bn ln; clear hw7; obtain ⟨g7, hg7⟩ : ∃ x, x = wd.heap.size := ⟨_, rfl⟩; rw [← hg7] at bn ⊢; clear hg7)
        | (have en : Ext w6 (((wd.setCell ⟨w6.heap.size, 0, none⟩ (.int .i64 ya)).setCell ⟨w6.heap.size, 1, none⟩ (.int .i64 yb)).setCell ⟨w6.heap.size, 2, none⟩ (.slice yc yd ye)) := (((hxd.setCell (p := ⟨w6.heap.size, 0, none⟩) (Nat.le_refl _) _).setCell (p := ⟨w6.heap.size, 1, none⟩) (Nat.le_refl _) _).setCell (p := ⟨w6.heap.size, 2, none⟩) (Nat.le_refl _) _); have bn := blk_setCell (blk_setCell (blk_setCell qb 0 (.int .i64 ya)) 1 (.int .i64 yb)) 2 (.slice yc yd ye); have ln := (((hFd.set (p := ⟨w6.heap.size, 0, none⟩) (by simp) (.int .i64 ya)).set (p := ⟨w6.heap.size, 1, none⟩) (by simp) (.int .i64 yb)).set (p := ⟨w6.heap.size, 2, none⟩) (by simp) (.slice yc yd ye)).lies; obtain ⟨w7, hw7⟩ : ∃ x, x = (((wd.setCell ⟨w6.heap.size, 0, none⟩ (.int .i64 ya)).setCell ⟨w6.heap.size, 1, none⟩ (.int .i64 yb)).setCell ⟨w6.heap.size, 2, none⟩ (.slice yc yd ye)) := ⟨_, rfl⟩; rw [← hw7]; rw [← hw7] at en bn ln; clear hw7; obtain ⟨g7, hg7⟩ : ∃ x, x = w6.heap.size := ⟨_, rfl⟩; rw [← hg7] at bn ⊢; clear hg7))
      all_goals (
        try clear sa sb sc fa fb fc
        clear qb hxd hFd ed X0 HK7 za00 za01 za02 lza0
        have e7 : Ext w6 w7 := en
        have b7 : w7.heap[g7]? = some (.cells #[.int .i64 ya, .int .i64 yb, .slice yc yd ye] 25 (0, 0)) := bn
        have l7 := ln
        clear en bn ln
        have lg7 := lt_of_blk b7
        have s7 : w6.heap.size ≤ w7.heap.size := e7.size
        have hL3 := l7
        clear l7
        have c3n := e7.cell c3r
        have c4n := e7.cell c4r
        have ba0_7 := e7.blk ba0_6
        obtain ⟨za00, za01, za02, -, -, -⟩ := own3 ba0_7
        have lza0 := lt_of_blk ba0_7
        obtain ⟨zr70, zr71, zr72, -, -, -⟩ := own3 b7
        have lzr7 := lt_of_blk b7
        go_wp2_with fail
        clear za00 za01 za02 lza0 zr70 zr71 zr72 lzr7
        obtain ⟨za00, za01, za02, -, -, -⟩ := own3 ba0_7
        have lza0 := lt_of_blk ba0_7
        obtain ⟨zr70, zr71, zr72, -, -, -⟩ := own3 b7
        have lzr7 := lt_of_blk b7
        have HS := Lib.hid (show ∀ w', Ext w7 w' → w'.cell? ⟨b3, j, none⟩ = some (.slice Au3 np cu3) ∧ w'.cell? ⟨b4, j, none⟩ = some (.slice Au4 np cu4) ∧ w'.cell? ⟨g7, 0, none⟩ = some (.int .i64 ya) ∧ w'.cell? ⟨g7, 1, none⟩ = some (.int .i64 yb) ∧ w'.cell? ⟨g7, 2, none⟩ = some (.slice yc yd ye) from fun w' hw => ⟨hw.cell c3n, hw.cell c4n, hw.cell zr70, hw.cell zr71, hw.cell zr72⟩)
        have X0 : Ext w7 w7.drew := (Ext.refl w7).drew
        have X5_7 : Ext w5 w7 := X5_6.trans e7
        go_region_held3 (fun w' => w'.cell? ⟨b3, j, none⟩ = some (.slice Au3 np cu3) ∧ w'.cell? ⟨b4, j, none⟩ = some (.slice Au4 np cu4) ∧ w'.cell? ⟨g7, 0, none⟩ = some (.int .i64 ya) ∧ w'.cell? ⟨g7, 1, none⟩ = some (.int .i64 yb) ∧ w'.cell? ⟨g7, 2, none⟩ = some (.slice yc yd ye))
          (first | exact HS.out _ ((X0.trans ea).trans eb) | exact HS.out _ (X0.trans ea) | exact HS.out _ X0)
          (first | (go_at_call 15; refine (HDK.out _ (X5_7.trans X0)).mono ?_; rintro e wa ⟨rfl, ea⟩) | (go_at_call 16; refine (redexOf_any tu _ _ (hL3.ext (X0.trans ea))).mono ?_; rw [HRV.out]; rintro e wb ⟨rfl, eb⟩))
        have hend := X5_7.trans ((X0.trans ea).trans eb)
        go_wp2_with fail
        go_roundw
        case rel => exact ⟨j + 1, by omega, by go_num, hend⟩
        case measure => simp [intOf]; omega)
    · go_wp2_with fail
      go_ret
      exact ⟨rfl, X0_5.trans hx⟩

set_option maxRecDepth 100000 in
theorem lifted (os : Os) (started : os.Started) (H : Type) (enc : TypeId × Value → H) :
    ReturnsInHanded {} Try.checked os 3 .any (Rows.fnRedexPlacesSpec.pre6 enc Try.prog Try.f3 Rows.fnRedexPlacesRow.domain false) (Rows.fnRedexPlacesSpec.post enc Try.prog Try.f3 false true false false) := by
  refine law_lift (C := Try.checked) (fn := Try.f3) (tb := 4) own started (by kernel_rfl) Try.func3 (by kernel_rfl) (by kernel_rfl) rfl Try.underlying4 rfl
    (fun ds h => by
      match ds, h with
      | [d1], _ => exact ⟨rfl, rfl, rfl⟩)
    (ChangeSpec.witness6 (enc := enc) (C := Try.checked) false ⟨#[], #[.slice none 0 0], []⟩ 8 (by kernel_rfl) (by kernel_rfl) (by kernel_rfl) (by kernel_rfl)) ?_
  intro W base args ds p hval hA hlt
  rw [Try.params3] at hA hval
  obtain ⟨v0, vs0, d0, ds0, p0, q0, hargs, rfl, rfl, h0, r0⟩ := trodAll_cons hA
  obtain ⟨rfl, rfl, rfl⟩ := trodAll_nil r0
  obtain rfl : args = #[v0] := by cases args; simp_all
  obtain ⟨A0, cap0, bs0, rfl, hl0, hc0, ha0⟩ := open_bytes Try.underlying22 Try.underlying5 (by kernel_rfl) (hval 0 22 v0 rfl rfl) h0
  exact walk W A0 cap0 bs0 hl0 hc0 ha0.1

theorem over : Rows.fnRedexPlacesRow.holds Try.pinned (OpenSpec.ofChange Rows.fnRedexPlacesSpec) :=
  OpenClaim.holds_of_wide 3 Try.f3 rfl rfl rfl rfl rfl rfl rfl ⟨rfl, rfl, rfl, rfl, rfl⟩ rfl rfl rfl rfl rfl (by kernel_rfl) Try.func3 (by kernel_rfl)
    (of_decide_eq_true (by kernel_rfl)) (by unfold Func.isWrapper; first | (rw [if_pos (by decide +kernel)]; kernel_rfl) | (rw [if_neg (by decide +kernel)]; exact ⟨rfl, rfl⟩))
    (fun os started H enc _ => lifted os started H enc)

theorem proved : Rows.FnRedexPlacesSaid := over
#print axioms proved
end Go.Proofs.Ytjgdckkeojehoaa.redexPlaces

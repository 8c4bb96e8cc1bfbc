/-
  PROVED: the law FnTermAt returns true for every input: places compose.
  CONDITIONS: none.
-/
import Derived.Test.YtpbmlpngafpoeaaRows
import Derived.Test.YtpbmlpngafpoeaaLift
import Derived.Test.YtpbmlpngafpoeaaPath
import Derived.Test.YtpbmlpngafpoeaaWalked2
import Derived.Test.YtpbmlpngafpoeaaExShape
import Derived.Test.YtpbmlpngafpoeaaSame
import Derived.Deep.RegionHeld3
namespace Go.Proofs.Ytpbmlpngafpoeaa.termAtL
open Go.RowKit Go.ChangeShapes Go.WideShapes Go.ChangeAt
set_option linter.unusedVariables false

theorem own : ownKnob Try.prog.godebug = none := by kernel_rfl

theorem bndT_len : ∀ (a : List Int) (t : Tr), (bndT t a).length ≤ a.length
  | [], t => by cases t; simp [bndT]
  | i :: a, .mk k n ks => by
    rw [bndT]
    split
    · have := bndT_len a (kd ks i.toNat)
      rw [List.length_append, List.length_cons]
      split <;> simp <;> omega
    · simp
theorem atV_true {t u : Tr} {p : List Int} (h : atV t p = (u, true)) : valid sigT t = true ∧ atT t p = some u := by
  unfold atV at h
  split at h
  · rename_i hv
    cases e : atT t p with
    | none => rw [e] at h; simp at h
    | some x => rw [e] at h; simp at h; subst h; exact ⟨hv, rfl⟩
  · simp at h
theorem atV_of {t u : Tr} {p : List Int} (hv : valid sigT t = true) (h : atT t p = some u) : atV t p = (u, true) := by
  unfold atV
  rw [if_pos hv, h]
  rfl
theorem valid_part {t u : Tr} {p : List Int} (hv : valid sigT t = true) (h : atT t p = some u) : valid sigT u = true := by
  obtain ⟨h1, h2⟩ := cnt_of_valid hv
  unfold valid
  rw [Bool.and_eq_true, decide_eq_true_eq]
  exact ⟨shape_up (atT_shape p t u 30 h2 h) (by omega), Nat.le_trans (atT_cnt p t u h) h1⟩
theorem bndV_of {t u : Tr} {p : List Int} (h : atV t p = (u, true)) : bndV t p = (((bndT t p).length : Int), true) := by
  unfold bndV
  rw [h]
  rfl
theorem tmFacts {t u : Tr} {p : List Int} (k : Nat) (hp : p.length ≤ 29) (h : atV t p = (u, true)) : ∃ (y : Tr) (a b c : Int), atV t (p.take k) = (y, true) ∧ atV y (p.drop k) = (u, true) ∧ bndV t p = (a, true) ∧ bndV t (p.take k) = (b, true) ∧ bndV y (p.drop k) = (c, true) ∧ a = b + c ∧ 0 ≤ b ∧ b ≤ 29 ∧ 0 ≤ c ∧ c ≤ 29 := by
  obtain ⟨hv, h1⟩ := atV_true h
  have h2 := h1
  rw [← List.take_append_drop k p, atT_append] at h2
  cases e : atT t (p.take k) with
  | none => rw [e] at h2; cases h2
  | some y =>
    rw [e] at h2
    have h3 : atT y (p.drop k) = some u := h2
    have hy := atV_of hv e
    have hd := atV_of (valid_part hv e) h3
    have hb := bndT_append (p.take k) (p.drop k) t y e
    rw [List.take_append_drop] at hb
    have l1 := bndT_len (p.take k) t
    have l2 := bndT_len (p.drop k) y
    rw [List.length_take] at l1
    rw [List.length_drop] at l2
    exact ⟨y, _, _, _, hy, hd, bndV_of h, bndV_of hy, bndV_of hd, by rw [hb, List.length_append]; omega, by omega, by omega, by omega, by omega⟩
/-- A slice of numbers that holds p. -/
structure PF (w : World) (A : Option Addr) (n cap : Nat) (p : List Int) : Prop where
  hn : p.length = n
  hl : n ≤ cap
  hc : cap ≤ maxLen
  hP : Nums w A p
theorem PF.ext {w w' : World} {A : Option Addr} {n cap : Nat} {p : List Int} (h : PF w A n cap p) (he : Ext w w') : PF w' A n cap p := ⟨h.hn, h.hl, h.hc, h.hP.ext he⟩
theorem tm1 {t u : Tr} {p : List Int} {z : Bool} (h : atV t p = (u, z)) (w : World) (v : Value) (hin : Lies w t v) (A : Option Addr) (n cap : Nat) (hp : PF w A n cap p) : Calls Try.prog 58 #[v, .slice A n cap] w fun e w' => ∃ x, e = .returned (.tuple #[x, .bool z]) ∧ From w.heap.size w' u x ∧ Ext w w' := by
  obtain ⟨rfl, hl, hc, hP⟩ := hp
  have := termAt_any t p w v hin A cap hl hc hP
  rw [h] at this
  exact this
theorem tm2 {t u : Tr} {p : List Int} {z : Bool} (h : atV t p = (u, z)) (w : World) (v : Value) (hin : Lies w t v) (A : Option Addr) (n cap : Nat) (hp : PF w A n cap p) : Calls Try.prog 61 #[v, .slice A n cap] w fun e w' => ∃ x, e = .returned (.tuple #[x, .bool z]) ∧ Lies w' u x ∧ Ext w w' := by
  obtain ⟨rfl, hl, hc, hP⟩ := hp
  have := specTermAt_any t p w v hin A cap hl hc hP
  rw [h] at this
  exact this
theorem tm3 {t : Tr} {p : List Int} {a : Int} {z : Bool} (h : bndV t p = (a, z)) (w : World) (v : Value) (hin : Lies w t v) (A : Option Addr) (n cap : Nat) (hp : PF w A n cap p) : Calls Try.prog 63 #[v, .slice A n cap] w fun e w' => e = .returned (.tuple #[.int .i64 a, .bool z]) ∧ Ext w w' := by
  obtain ⟨rfl, hl, hc, hP⟩ := hp
  have := bindersAt_any t p w v hin A cap hl hc hP
  rw [h] at this
  exact this
theorem same1 (c : Tr) (w : World) (v u : Value) (h : Lies w c v) (k : Lies w c u) : Calls Try.prog 62 #[v, u] w fun e w' => e = .returned (.bool true) ∧ Ext w w' := by
  have := sameTerm_any c w c v u h k
  rw [eqTr_self] at this
  exact this
/-- The two parts of a place in memory. -/
theorem split_path {w : World} {b o : Nat} {p : List Int} (h : ∀ j (hj : j < p.length), w.cell? ⟨b, o + j, none⟩ = some (.int .i64 p[j])) (hb : b < w.heap.size) (k : Nat) : Nums w (some ⟨b, o, none⟩) (p.take k) ∧ Nums w (some ⟨b, o + k, none⟩) (p.drop k) := by
  refine ⟨.inr ⟨b, o, rfl, hb, fun j hj => ?_⟩, .inr ⟨b, o + k, rfl, hb, fun j hj => ?_⟩⟩
  · rw [List.length_take] at hj
    rw [h j (by omega), List.getElem_take]
  · rw [List.length_drop] at hj
    rw [Nat.add_assoc, h (k + j) (by omega), List.getElem_drop]
set_option maxRecDepth 100000 in
set_option maxHeartbeats 8000000 in
theorem walk (w0 : World) (A : Option Addr) (cap : Nat) (bs : List Int) (hl : bs.length ≤ cap) (hc : cap ≤ maxLen) (hB : Bytes w0 w0.heap.size A bs) (Am : Option Addr) (capm : Nat) (ms : List Int) (hlm : ms.length ≤ capm) (hcm : capm ≤ maxLen) (hBm : Bytes w0 w0.heap.size Am ms) :
    Calls Try.prog 12 #[.slice A bs.length cap, .slice Am ms.length capm] w0 fun e w' => e = .returned (.bool true) ∧ Ext w0 w' := by
  have hcc := hc
  unfold maxLen at hcc
  have hccm := hcm
  unfold maxLen at hccm
  by_cases hn : 1048576 < (bs.length : Int)
  · have d1 : decide (1048576 < (bs.length : Int)) = true := decide_eq_true hn
    go_enter Try.func12, Try.ntmps12
    go_wp2_with fail
    go_ret
    exact ⟨rfl, Ext.refl _⟩
  have d1 : decide (1048576 < (bs.length : Int)) = false := decide_eq_false hn
  by_cases hn2 : 1048576 < (ms.length : Int)
  · have d2 : decide (1048576 < (ms.length : Int)) = true := decide_eq_true hn2
    go_enter Try.func12, Try.ntmps12
    go_wp2_with fail
    go_ret
    exact ⟨rfl, Ext.refl _⟩
  have d2 : decide (1048576 < (ms.length : Int)) = false := decide_eq_false hn2
  go_enter Try.func12, Try.ntmps12
  go_wp2_with fail
  refine (drawTermAt_any w0 A cap bs hl hc hB).mono ?_
  rintro e w1 ⟨⟨k0, m0, ks0⟩, u, x, p, rfl, hct, hpl, hL0, hPA, e1⟩
  have s1 : w0.heap.size ≤ w1.heap.size := e1.size
  obtain ⟨A0, cap0, rfl, hl0, hc0, hK0⟩ := Lies.mk_iff.1 hL0
  obtain ⟨k, hk⟩ : ∃ k, k = ms.length % (p.length + 1) := ⟨_, rfl⟩
  have hkp : k ≤ p.length := by have := Nat.mod_lt ms.length (show p.length + 1 > 0 by omega); omega
  rcases hPA with ⟨rfl, rfl⟩ | ⟨bp, op, cp, rfl, hpc, hcp, hbp, hpcell⟩
  · skip
    have hk0 : k = 0 := by simp only [List.length_nil] at hkp; omega
    subst hk0
    obtain ⟨k, hk0⟩ : ∃ k : Nat, k = 0 := ⟨_, rfl⟩
    obtain ⟨p, hp0⟩ : ∃ p : List Int, p = [] := ⟨_, rfl⟩
    have HPF : PF w1 none 0 0 p := by rw [hp0]; exact ⟨rfl, Nat.le_refl _, Nat.zero_le _, .inl rfl⟩
    have HTF : PF w1 none 0 0 (p.take k) := by rw [hp0, List.take_nil]; exact ⟨rfl, Nat.le_refl _, Nat.zero_le _, .inl rfl⟩
    have HDF : PF w1 none 0 0 (p.drop k) := by rw [hp0, List.drop_nil]; exact ⟨rfl, Nat.le_refl _, Nat.zero_le _, .inl rfl⟩
    rw [← hp0] at hpl
    have HAD : Hid (k = k) := Lib.hid rfl
    clear hkp hk hp0 hk0
    obtain ⟨w2, hw2⟩ : ∃ w2, w2 = w1.alloc (.cells #[.int .i64 k0, .int .i64 m0, .slice A0 ks0.length cap0] 42) := ⟨_, rfl⟩
    have e2 : Ext w1 w2 := hw2 ▸ (Ext.refl w1).alloc _
    have b2 := heap_alloc_new w1 (.cells #[.int .i64 k0, .int .i64 m0, .slice A0 ks0.length cap0] 42)
    rw [← hw2] at b2
    have s2 : w1.heap.size < w2.heap.size := lt_of_blk b2
    go_wp2_with fail
    rw [← hw2]
    clear hw2
    obtain ⟨⟨k1, m1, ks1⟩, z, hz⟩ : ∃ x z, atV (.mk k0 m0 ks0) p = (x, z) := ⟨_, _, rfl⟩
    have HZ := Lib.hid hz
    clear hz
    have X1_2 : Ext w1 w2 := (Ext.refl w1).trans e2
    refine (tm1 HZ.out w2 _ (hL0.ext X1_2) none 0 0 (HPF.ext X1_2)).mono ?_
    rintro e w3 ⟨u, rfl, hF1, e3⟩
    have s3 : w2.heap.size ≤ w3.heap.size := e3.size
    have hL1 := hF1.lies
    clear hF1
    obtain ⟨A1, cap1, rfl, hl1, hc1, hK1⟩ := Lies.mk_iff.1 hL1
    obtain ⟨w4, hw4⟩ : ∃ w4, w4 = w3.alloc (.cells #[.int .i64 k1, .int .i64 m1, .slice A1 ks1.length cap1] 42) := ⟨_, rfl⟩
    have e4 : Ext w3 w4 := hw4 ▸ (Ext.refl w3).alloc _
    have b4 := heap_alloc_new w3 (.cells #[.int .i64 k1, .int .i64 m1, .slice A1 ks1.length cap1] 42)
    rw [← hw4] at b4
    have s4 : w3.heap.size < w4.heap.size := lt_of_blk b4
    have ba0_3 := e3.blk b2
    obtain ⟨za00, za01, za02, -, -, -⟩ := own3 ba0_3
    have lza0 := lt_of_blk ba0_3
    go_wp2_with fail
    rw [← hw4]
    clear hw4
    clear za00 za01 za02 lza0
    have X1_3 : Ext w1 w3 := X1_2.trans e3
    have X1_4 : Ext w1 w4 := X1_3.trans e4
    refine (tm2 HZ.out w4 _ (hL0.ext X1_4) none 0 0 (HPF.ext X1_4)).mono ?_
    rintro e w5 ⟨u, rfl, hL2, e5⟩
    have s5 : w4.heap.size ≤ w5.heap.size := e5.size
    obtain ⟨A2, cap2, rfl, hl2, hc2, hK2⟩ := Lies.mk_iff.1 hL2
    obtain ⟨w6, hw6⟩ : ∃ w6, w6 = w5.alloc (.cells #[.int .i64 k1, .int .i64 m1, .slice A2 ks1.length cap2] 42) := ⟨_, rfl⟩
    have e6 : Ext w5 w6 := hw6 ▸ (Ext.refl w5).alloc _
    have b6 := heap_alloc_new w5 (.cells #[.int .i64 k1, .int .i64 m1, .slice A2 ks1.length cap2] 42)
    rw [← hw6] at b6
    have s6 : w5.heap.size < w6.heap.size := lt_of_blk b6
    have hz1 : (z != z) = false := by simp
    have hz2 : (z == z) = true := by simp
    have ba0_4 := e4.blk ba0_3
    have ba0_5 := e5.blk ba0_4
    obtain ⟨za00, za01, za02, -, -, -⟩ := own3 ba0_5
    have lza0 := lt_of_blk ba0_5
    have ba1_5 := e5.blk b4
    obtain ⟨za10, za11, za12, -, -, -⟩ := own3 ba1_5
    have lza1 := lt_of_blk ba1_5
    go_wp2_with fail
    rw [← hw6]
    clear hw6
    clear za00 za01 za02 lza0 za10 za11 za12 lza1
    have X3_4 : Ext w3 w4 := (Ext.refl w3).trans e4
    have X3_5 : Ext w3 w5 := X3_4.trans e5
    have X3_6 : Ext w3 w6 := X3_5.trans e6
    have X5_6 : Ext w5 w6 := (Ext.refl w5).trans e6
    refine (same1 _ w6 _ _ (hL1.ext X3_6) (hL2.ext X5_6)).mono ?_
    rintro e w7 ⟨rfl, e7⟩
    have s7 : w6.heap.size ≤ w7.heap.size := e7.size
    cases z with
    | false =>
      have ba0_6 := e6.blk ba0_5
      have ba0_7 := e7.blk ba0_6
      obtain ⟨za00, za01, za02, -, -, -⟩ := own3 ba0_7
      have lza0 := lt_of_blk ba0_7
      have ba1_6 := e6.blk ba1_5
      have ba1_7 := e7.blk ba1_6
      obtain ⟨za10, za11, za12, -, -, -⟩ := own3 ba1_7
      have lza1 := lt_of_blk ba1_7
      have ba2_7 := e7.blk b6
      obtain ⟨za20, za21, za22, -, -, -⟩ := own3 ba2_7
      have lza2 := lt_of_blk ba2_7
      go_wp2_with fail
      clear za00 za01 za02 lza0 za10 za11 za12 lza1 za20 za21 za22 lza2
      have X3_7 : Ext w3 w7 := X3_6.trans e7
      have X5_7 : Ext w5 w7 := X5_6.trans e7
      refine (same1 _ w7 _ _ (hL1.ext X3_7) (hL2.ext X5_7)).mono ?_
      rintro e w8 ⟨rfl, e8⟩
      have s8 : w7.heap.size ≤ w8.heap.size := e8.size
      have ba0_8 := e8.blk ba0_7
      obtain ⟨za00, za01, za02, -, -, -⟩ := own3 ba0_8
      have lza0 := lt_of_blk ba0_8
      have ba1_8 := e8.blk ba1_7
      obtain ⟨za10, za11, za12, -, -, -⟩ := own3 ba1_8
      have lza1 := lt_of_blk ba1_8
      have ba2_8 := e8.blk ba2_7
      obtain ⟨za20, za21, za22, -, -, -⟩ := own3 ba2_8
      have lza2 := lt_of_blk ba2_8
      go_wp2_with fail
      clear za00 za01 za02 lza0 za10 za11 za12 lza1 za20 za21 za22 lza2
      have X0_1 : Ext w0 w1 := (Ext.refl w0).trans e1
      have X0_2 : Ext w0 w2 := X0_1.trans e2
      have X0_3 : Ext w0 w3 := X0_2.trans e3
      have X0_4 : Ext w0 w4 := X0_3.trans e4
      have X0_5 : Ext w0 w5 := X0_4.trans e5
      have X0_6 : Ext w0 w6 := X0_5.trans e6
      have X0_7 : Ext w0 w7 := X0_6.trans e7
      have X0_8 : Ext w0 w8 := X0_7.trans e8
      go_ret
      exact ⟨rfl, X0_8⟩
    | true =>
      obtain ⟨y, na, nb, nc, hy1, hy2, hy3, hy4, hy5, hy6, hb0, hb9, hc0', hc9⟩ := tmFacts k hpl HZ.out
      have HY1 := Lib.hid hy1
      have HY2 := Lib.hid hy2
      have HY3 := Lib.hid hy3
      have HY4 := Lib.hid hy4
      have HY5 := Lib.hid hy5
      clear hy1 hy2 hy3 hy4 hy5 hz1 hz2
      have hadd : IntKind.i64.wrap (nb + nc) = nb + nc := IntWalk.i64_in _ ⟨by omega, by omega⟩
      have heq : (na == nb + nc) = true := by rw [hy6]; simp
      have hsm : na = nb + nc := hy6
      clear hy6 hsm
      have ba0_6 := e6.blk ba0_5
      have ba0_7 := e7.blk ba0_6
      obtain ⟨za00, za01, za02, -, -, -⟩ := own3 ba0_7
      have lza0 := lt_of_blk ba0_7
      have ba1_6 := e6.blk ba1_5
      have ba1_7 := e7.blk ba1_6
      obtain ⟨za10, za11, za12, -, -, -⟩ := own3 ba1_7
      have lza1 := lt_of_blk ba1_7
      have ba2_7 := e7.blk b6
      obtain ⟨za20, za21, za22, -, -, -⟩ := own3 ba2_7
      have lza2 := lt_of_blk ba2_7
      go_wp2_with fail
      clear za00 za01 za02 lza0 za10 za11 za12 lza1 za20 za21 za22 lza2
      have X1_5 : Ext w1 w5 := X1_4.trans e5
      have X1_6 : Ext w1 w6 := X1_5.trans e6
      have X1_7 : Ext w1 w7 := X1_6.trans e7
      obtain ⟨za00, za01, za02, -, -, -⟩ := own3 ba0_7
      have lza0 := lt_of_blk ba0_7
      obtain ⟨za10, za11, za12, -, -, -⟩ := own3 ba1_7
      have lza1 := lt_of_blk ba1_7
      obtain ⟨za20, za21, za22, -, -, -⟩ := own3 ba2_7
      have lza2 := lt_of_blk ba2_7
      have HK8 := Lib.hid (show ∀ w', Ext w7 w' → w'.cell? ⟨w1.heap.size, 0, none⟩ = some (.int .i64 k0) ∧ w'.cell? ⟨w1.heap.size, 1, none⟩ = some (.int .i64 m0) ∧ w'.cell? ⟨w1.heap.size, 2, none⟩ = some (.slice A0 ks0.length cap0) from fun w' hw => ⟨hw.cell za00, hw.cell za01, hw.cell za02⟩)
      have X0 : Ext w7 w7.drew := (Ext.refl w7).drew
      go_region_held3 (fun w' => w'.cell? ⟨w1.heap.size, 0, none⟩ = some (.int .i64 k0) ∧ w'.cell? ⟨w1.heap.size, 1, none⟩ = some (.int .i64 m0) ∧ w'.cell? ⟨w1.heap.size, 2, none⟩ = some (.slice A0 ks0.length cap0))
        (first | exact HK8.out _ (((hxd.setCell (p := ⟨w7.heap.size, 0, none⟩) (Nat.le_refl _) _).setCell (p := ⟨w7.heap.size, 1, none⟩) (Nat.le_refl _) _).setCell (p := ⟨w7.heap.size, 2, none⟩) (Nat.le_refl _) _) | exact HK8.out _ (hxd.alloc _) | exact HK8.out _ hxd | exact HK8.out _ X0 | exact HK8.out _ (X0.alloc _) | exact HK8.out _ ((Ext.refl w7).alloc _).drew)
        (first | (go_at_call 58; (try rw [HAD.out]); refine (tm1 HY1.out _ _ ((hL0.ext X1_7).ext (by first | exact X0 | exact X0.alloc _ | exact ((Ext.refl w7).alloc _).drew)) none 0 0 (HTF.ext (X1_7.trans (by first | exact X0 | exact X0.alloc _ | exact ((Ext.refl w7).alloc _).drew)))).mono ?_; rintro e wd ⟨u, rfl, hFd, ed⟩; have hxd : Ext w7 wd := (by first | exact X0.trans ed | exact (X0.alloc _).trans ed | exact (((Ext.refl w7).alloc _).drew).trans ed); have hFd2 := hFd; obtain ⟨ya, yb, yc, yd, ye, rfl⟩ := hFd2.three; clear hFd2; (first | (have qb : wd.heap[w7.heap.size]? = some (.cells #[.int .i64 0, .int .i64 0, .slice none 0 0] 42 (0, 0)) := ed.blk (heap_alloc_new w7.drew (.cells #[.int .i64 0, .int .i64 0, .slice none 0 0] 42)); obtain ⟨sa, sb, sc, fa, fb, fc⟩ := own3 qb) | (have qb : wd.heap[w7.heap.size]? = some (.cells #[.int .i64 0, .int .i64 0, .slice none 0 0] 42 (0, 0)) := ed.blk (heap_alloc_new w7 (.cells #[.int .i64 0, .int .i64 0, .slice none 0 0] 42)); obtain ⟨sa, sb, sc, fa, fb, fc⟩ := own3 qb) | (have qb := trivial))))
      all_goals (first
        | (have en : Ext w7 (wd.alloc (.cells #[.int .i64 ya, .int .i64 yb, .slice yc yd ye] 42)) := hxd.alloc _; have bn := heap_alloc_new wd (.cells #[.int .i64 ya, .int .i64 yb, .slice yc yd ye] 42); have ln := hFd.lies.ext ((Ext.refl wd).alloc (.cells #[.int .i64 ya, .int .i64 yb, .slice yc yd ye] 42)); obtain ⟨w8, hw8⟩ : ∃ x, x = wd.alloc (.cells #[.int .i64 ya, .int .i64 yb, .slice yc yd ye] 42) := ⟨_, rfl⟩; rw [← hw8]; rw [← hw8] at en bn ln; clear hw8; obtain ⟨g8, hg8⟩ : ∃ x, x = wd.heap.size := ⟨_, rfl⟩; rw [← hg8] at bn ⊢; clear hg8)
        | (have en : Ext w7 (((wd.setCell ⟨w7.heap.size, 0, none⟩ (.int .i64 ya)).setCell ⟨w7.heap.size, 1, none⟩ (.int .i64 yb)).setCell ⟨w7.heap.size, 2, none⟩ (.slice yc yd ye)) := (((hxd.setCell (p := ⟨w7.heap.size, 0, none⟩) (Nat.le_refl _) _).setCell (p := ⟨w7.heap.size, 1, none⟩) (Nat.le_refl _) _).setCell (p := ⟨w7.heap.size, 2, none⟩) (Nat.le_refl _) _); have bn := blk_setCell (blk_setCell (blk_setCell qb 0 (.int .i64 ya)) 1 (.int .i64 yb)) 2 (.slice yc yd ye); have ln := (((hFd.set (p := ⟨w7.heap.size, 0, none⟩) (by simp) (.int .i64 ya)).set (p := ⟨w7.heap.size, 1, none⟩) (by simp) (.int .i64 yb)).set (p := ⟨w7.heap.size, 2, none⟩) (by simp) (.slice yc yd ye)).lies; obtain ⟨w8, hw8⟩ : ∃ x, x = (((wd.setCell ⟨w7.heap.size, 0, none⟩ (.int .i64 ya)).setCell ⟨w7.heap.size, 1, none⟩ (.int .i64 yb)).setCell ⟨w7.heap.size, 2, none⟩ (.slice yc yd ye)) := ⟨_, rfl⟩; rw [← hw8]; rw [← hw8] at en bn ln; clear hw8; obtain ⟨g8, hg8⟩ : ∃ x, x = w7.heap.size := ⟨_, rfl⟩; rw [← hg8] at bn ⊢; clear hg8))
      all_goals (
        try clear sa sb sc fa fb fc
        clear qb hxd hFd ed X0 HK8 za00 za01 za02 lza0 za10 za11 za12 lza1 za20 za21 za22 lza2
        have e8 : Ext w7 w8 := en
        have b8 : w8.heap[g8]? = some (.cells #[.int .i64 ya, .int .i64 yb, .slice yc yd ye] 42 (0, 0)) := bn
        have l8 := ln
        clear en bn ln
        have lg8 := lt_of_blk b8
        have s8 : w7.heap.size ≤ w8.heap.size := e8.size
        have hL3 := l8
        clear l8
        have ba0_8 := e8.blk ba0_7
        obtain ⟨za00, za01, za02, -, -, -⟩ := own3 ba0_8
        have lza0 := lt_of_blk ba0_8
        have ba1_8 := e8.blk ba1_7
        obtain ⟨za10, za11, za12, -, -, -⟩ := own3 ba1_8
        have lza1 := lt_of_blk ba1_8
        have ba2_8 := e8.blk ba2_7
        obtain ⟨za20, za21, za22, -, -, -⟩ := own3 ba2_8
        have lza2 := lt_of_blk ba2_8
        obtain ⟨zr80, zr81, zr82, -, -, -⟩ := own3 b8
        have lzr8 := lt_of_blk b8
        go_wp2_with fail
        clear za00 za01 za02 lza0 za10 za11 za12 lza1 za20 za21 za22 lza2 zr80 zr81 zr82 lzr8
        have X1_8 : Ext w1 w8 := X1_7.trans e8
        obtain ⟨za00, za01, za02, -, -, -⟩ := own3 ba0_8
        have lza0 := lt_of_blk ba0_8
        obtain ⟨za10, za11, za12, -, -, -⟩ := own3 ba1_8
        have lza1 := lt_of_blk ba1_8
        obtain ⟨za20, za21, za22, -, -, -⟩ := own3 ba2_8
        have lza2 := lt_of_blk ba2_8
        obtain ⟨zr80, zr81, zr82, -, -, -⟩ := own3 b8
        have lzr8 := lt_of_blk b8
        have HK9 := Lib.hid (show ∀ w', Ext w8 w' → w'.cell? ⟨g8, 0, none⟩ = some (.int .i64 ya) ∧ w'.cell? ⟨g8, 1, none⟩ = some (.int .i64 yb) ∧ w'.cell? ⟨g8, 2, none⟩ = some (.slice yc yd ye) from fun w' hw => ⟨hw.cell zr80, hw.cell zr81, hw.cell zr82⟩)
        have X0 : Ext w8 w8.drew := (Ext.refl w8).drew
        go_region_held3 (fun w' => w'.cell? ⟨g8, 0, none⟩ = some (.int .i64 ya) ∧ w'.cell? ⟨g8, 1, none⟩ = some (.int .i64 yb) ∧ w'.cell? ⟨g8, 2, none⟩ = some (.slice yc yd ye))
          (first | exact HK9.out _ (((hxd.setCell (p := ⟨w8.heap.size, 0, none⟩) (Nat.le_refl _) _).setCell (p := ⟨w8.heap.size, 1, none⟩) (Nat.le_refl _) _).setCell (p := ⟨w8.heap.size, 2, none⟩) (Nat.le_refl _) _) | exact HK9.out _ (hxd.alloc _) | exact HK9.out _ hxd | exact HK9.out _ X0 | exact HK9.out _ (X0.alloc _) | exact HK9.out _ ((Ext.refl w8).alloc _).drew)
          (first | (go_at_call 58; (try rw [HAD.out]); refine (tm1 HY2.out _ _ ((hL3.ext (Ext.refl w8)).ext (by first | exact X0 | exact X0.alloc _ | exact ((Ext.refl w8).alloc _).drew)) none 0 0 (HDF.ext (X1_8.trans (by first | exact X0 | exact X0.alloc _ | exact ((Ext.refl w8).alloc _).drew)))).mono ?_; rintro e wd ⟨u, rfl, hFd, ed⟩; have hxd : Ext w8 wd := (by first | exact X0.trans ed | exact (X0.alloc _).trans ed | exact (((Ext.refl w8).alloc _).drew).trans ed); have hFd2 := hFd; obtain ⟨za, zb, zc, zd, ze, rfl⟩ := hFd2.three; clear hFd2; (first | (have qb : wd.heap[w8.heap.size]? = some (.cells #[.int .i64 0, .int .i64 0, .slice none 0 0] 42 (0, 0)) := ed.blk (heap_alloc_new w8.drew (.cells #[.int .i64 0, .int .i64 0, .slice none 0 0] 42)); obtain ⟨sa, sb, sc, fa, fb, fc⟩ := own3 qb) | (have qb : wd.heap[w8.heap.size]? = some (.cells #[.int .i64 0, .int .i64 0, .slice none 0 0] 42 (0, 0)) := ed.blk (heap_alloc_new w8 (.cells #[.int .i64 0, .int .i64 0, .slice none 0 0] 42)); obtain ⟨sa, sb, sc, fa, fb, fc⟩ := own3 qb) | (have qb := trivial))))
        all_goals (first
          | (have en : Ext w8 (wd.alloc (.cells #[.int .i64 za, .int .i64 zb, .slice zc zd ze] 42)) := hxd.alloc _; have bn := heap_alloc_new wd (.cells #[.int .i64 za, .int .i64 zb, .slice zc zd ze] 42); have ln := hFd.lies.ext ((Ext.refl wd).alloc (.cells #[.int .i64 za, .int .i64 zb, .slice zc zd ze] 42)); obtain ⟨w9, hw9⟩ : ∃ x, x = wd.alloc (.cells #[.int .i64 za, .int .i64 zb, .slice zc zd ze] 42) := ⟨_, rfl⟩; rw [← hw9]; rw [← hw9] at en bn ln; clear hw9; obtain ⟨g9, hg9⟩ : ∃ x, x = wd.heap.size := ⟨_, rfl⟩; rw [← hg9] at bn ⊢; clear hg9)
          | (have en : Ext w8 (((wd.setCell ⟨w8.heap.size, 0, none⟩ (.int .i64 za)).setCell ⟨w8.heap.size, 1, none⟩ (.int .i64 zb)).setCell ⟨w8.heap.size, 2, none⟩ (.slice zc zd ze)) := (((hxd.setCell (p := ⟨w8.heap.size, 0, none⟩) (Nat.le_refl _) _).setCell (p := ⟨w8.heap.size, 1, none⟩) (Nat.le_refl _) _).setCell (p := ⟨w8.heap.size, 2, none⟩) (Nat.le_refl _) _); have bn := blk_setCell (blk_setCell (blk_setCell qb 0 (.int .i64 za)) 1 (.int .i64 zb)) 2 (.slice zc zd ze); have ln := (((hFd.set (p := ⟨w8.heap.size, 0, none⟩) (by simp) (.int .i64 za)).set (p := ⟨w8.heap.size, 1, none⟩) (by simp) (.int .i64 zb)).set (p := ⟨w8.heap.size, 2, none⟩) (by simp) (.slice zc zd ze)).lies; obtain ⟨w9, hw9⟩ : ∃ x, x = (((wd.setCell ⟨w8.heap.size, 0, none⟩ (.int .i64 za)).setCell ⟨w8.heap.size, 1, none⟩ (.int .i64 zb)).setCell ⟨w8.heap.size, 2, none⟩ (.slice zc zd ze)) := ⟨_, rfl⟩; rw [← hw9]; rw [← hw9] at en bn ln; clear hw9; obtain ⟨g9, hg9⟩ : ∃ x, x = w8.heap.size := ⟨_, rfl⟩; rw [← hg9] at bn ⊢; clear hg9))
        all_goals (
          try clear sa sb sc fa fb fc
          clear qb hxd hFd ed X0 HK9 za00 za01 za02 lza0 za10 za11 za12 lza1 za20 za21 za22 lza2 zr80 zr81 zr82 lzr8
          have e9 : Ext w8 w9 := en
          have b9 : w9.heap[g9]? = some (.cells #[.int .i64 za, .int .i64 zb, .slice zc zd ze] 42 (0, 0)) := bn
          have l9 := ln
          clear en bn ln
          have lg9 := lt_of_blk b9
          have s9 : w8.heap.size ≤ w9.heap.size := e9.size
          have hL4 := l9
          clear l9
          have ba0_9 := e9.blk ba0_8
          obtain ⟨za00, za01, za02, -, -, -⟩ := own3 ba0_9
          have lza0 := lt_of_blk ba0_9
          have ba1_9 := e9.blk ba1_8
          obtain ⟨za10, za11, za12, -, -, -⟩ := own3 ba1_9
          have lza1 := lt_of_blk ba1_9
          have ba2_9 := e9.blk ba2_8
          obtain ⟨za20, za21, za22, -, -, -⟩ := own3 ba2_9
          have lza2 := lt_of_blk ba2_9
          have br8_9 := e9.blk b8
          obtain ⟨zr80, zr81, zr82, -, -, -⟩ := own3 br8_9
          have lzr8 := lt_of_blk br8_9
          obtain ⟨zr90, zr91, zr92, -, -, -⟩ := own3 b9
          have lzr9 := lt_of_blk b9
          go_wp2_with fail
          clear za00 za01 za02 lza0 za10 za11 za12 lza1 za20 za21 za22 lza2 zr80 zr81 zr82 lzr8 zr90 zr91 zr92 lzr9
          have X1_9 : Ext w1 w9 := X1_8.trans e9
          refine (tm3 HY3.out w9 _ (hL0.ext X1_9) none 0 0 (HPF.ext X1_9)).mono ?_
          rintro e w10 ⟨rfl, e10⟩
          have s10 : w9.heap.size ≤ w10.heap.size := e10.size
          have ba0_10 := e10.blk ba0_9
          obtain ⟨za00, za01, za02, -, -, -⟩ := own3 ba0_10
          have lza0 := lt_of_blk ba0_10
          have ba1_10 := e10.blk ba1_9
          obtain ⟨za10, za11, za12, -, -, -⟩ := own3 ba1_10
          have lza1 := lt_of_blk ba1_10
          have ba2_10 := e10.blk ba2_9
          obtain ⟨za20, za21, za22, -, -, -⟩ := own3 ba2_10
          have lza2 := lt_of_blk ba2_10
          have br8_10 := e10.blk br8_9
          obtain ⟨zr80, zr81, zr82, -, -, -⟩ := own3 br8_10
          have lzr8 := lt_of_blk br8_10
          have br9_10 := e10.blk b9
          obtain ⟨zr90, zr91, zr92, -, -, -⟩ := own3 br9_10
          have lzr9 := lt_of_blk br9_10
          go_wp2_with fail
          clear za00 za01 za02 lza0 za10 za11 za12 lza1 za20 za21 za22 lza2 zr80 zr81 zr82 lzr8 zr90 zr91 zr92 lzr9
          have X1_10 : Ext w1 w10 := X1_9.trans e10
          obtain ⟨za00, za01, za02, -, -, -⟩ := own3 ba0_10
          have lza0 := lt_of_blk ba0_10
          obtain ⟨za10, za11, za12, -, -, -⟩ := own3 ba1_10
          have lza1 := lt_of_blk ba1_10
          obtain ⟨za20, za21, za22, -, -, -⟩ := own3 ba2_10
          have lza2 := lt_of_blk ba2_10
          obtain ⟨zr80, zr81, zr82, -, -, -⟩ := own3 br8_10
          have lzr8 := lt_of_blk br8_10
          obtain ⟨zr90, zr91, zr92, -, -, -⟩ := own3 br9_10
          have lzr9 := lt_of_blk br9_10
          have HK11 := Lib.hid (show ∀ w', Ext w10 w' → w'.cell? ⟨w1.heap.size, 0, none⟩ = some (.int .i64 k0) ∧ w'.cell? ⟨w1.heap.size, 1, none⟩ = some (.int .i64 m0) ∧ w'.cell? ⟨w1.heap.size, 2, none⟩ = some (.slice A0 ks0.length cap0) from fun w' hw => ⟨hw.cell za00, hw.cell za01, hw.cell za02⟩)
          have X0 : Ext w10 w10.drew := (Ext.refl w10).drew
          go_region_held3 (fun w' => w'.cell? ⟨w1.heap.size, 0, none⟩ = some (.int .i64 k0) ∧ w'.cell? ⟨w1.heap.size, 1, none⟩ = some (.int .i64 m0) ∧ w'.cell? ⟨w1.heap.size, 2, none⟩ = some (.slice A0 ks0.length cap0))
            (first | exact HK11.out _ (X0.trans ed11) | exact HK11.out _ X0)
            (first | (go_at_call 63; (try rw [HAD.out]); refine (tm3 HY4.out _ _ ((hL0.ext X1_10).ext X0) none 0 0 (HTF.ext (X1_10.trans X0))).mono ?_; rintro e w11 ⟨rfl, ed11⟩))
          have e11 : Ext w10 w11 := X0.trans ed11
          clear X0 ed11 HK11 za00 za01 za02 lza0 za10 za11 za12 lza1 za20 za21 za22 lza2 zr80 zr81 zr82 lzr8 zr90 zr91 zr92 lzr9
          have s11 : w10.heap.size ≤ w11.heap.size := e11.size
          have ba0_11 := e11.blk ba0_10
          obtain ⟨za00, za01, za02, -, -, -⟩ := own3 ba0_11
          have lza0 := lt_of_blk ba0_11
          have ba1_11 := e11.blk ba1_10
          obtain ⟨za10, za11, za12, -, -, -⟩ := own3 ba1_11
          have lza1 := lt_of_blk ba1_11
          have ba2_11 := e11.blk ba2_10
          obtain ⟨za20, za21, za22, -, -, -⟩ := own3 ba2_11
          have lza2 := lt_of_blk ba2_11
          have br8_11 := e11.blk br8_10
          obtain ⟨zr80, zr81, zr82, -, -, -⟩ := own3 br8_11
          have lzr8 := lt_of_blk br8_11
          have br9_11 := e11.blk br9_10
          obtain ⟨zr90, zr91, zr92, -, -, -⟩ := own3 br9_11
          have lzr9 := lt_of_blk br9_11
          go_wp2_with fail
          clear za00 za01 za02 lza0 za10 za11 za12 lza1 za20 za21 za22 lza2 zr80 zr81 zr82 lzr8 zr90 zr91 zr92 lzr9
          have X8_9 : Ext w8 w9 := (Ext.refl w8).trans e9
          have X8_10 : Ext w8 w10 := X8_9.trans e10
          have X8_11 : Ext w8 w11 := X8_10.trans e11
          have X1_11 : Ext w1 w11 := X1_10.trans e11
          obtain ⟨za00, za01, za02, -, -, -⟩ := own3 ba0_11
          have lza0 := lt_of_blk ba0_11
          obtain ⟨za10, za11, za12, -, -, -⟩ := own3 ba1_11
          have lza1 := lt_of_blk ba1_11
          obtain ⟨za20, za21, za22, -, -, -⟩ := own3 ba2_11
          have lza2 := lt_of_blk ba2_11
          obtain ⟨zr80, zr81, zr82, -, -, -⟩ := own3 br8_11
          have lzr8 := lt_of_blk br8_11
          obtain ⟨zr90, zr91, zr92, -, -, -⟩ := own3 br9_11
          have lzr9 := lt_of_blk br9_11
          have HK12 := Lib.hid (show ∀ w', Ext w11 w' → w'.cell? ⟨g8, 0, none⟩ = some (.int .i64 ya) ∧ w'.cell? ⟨g8, 1, none⟩ = some (.int .i64 yb) ∧ w'.cell? ⟨g8, 2, none⟩ = some (.slice yc yd ye) from fun w' hw => ⟨hw.cell zr80, hw.cell zr81, hw.cell zr82⟩)
          have X0 : Ext w11 w11.drew := (Ext.refl w11).drew
          go_region_held3 (fun w' => w'.cell? ⟨g8, 0, none⟩ = some (.int .i64 ya) ∧ w'.cell? ⟨g8, 1, none⟩ = some (.int .i64 yb) ∧ w'.cell? ⟨g8, 2, none⟩ = some (.slice yc yd ye))
            (first | exact HK12.out _ (X0.trans ed12) | exact HK12.out _ X0)
            (first | (go_at_call 63; (try rw [HAD.out]); refine (tm3 HY5.out _ _ ((hL3.ext X8_11).ext X0) none 0 0 (HDF.ext (X1_11.trans X0))).mono ?_; rintro e w12 ⟨rfl, ed12⟩))
          have e12 : Ext w11 w12 := X0.trans ed12
          clear X0 ed12 HK12 za00 za01 za02 lza0 za10 za11 za12 lza1 za20 za21 za22 lza2 zr80 zr81 zr82 lzr8 zr90 zr91 zr92 lzr9
          have s12 : w11.heap.size ≤ w12.heap.size := e12.size
          have ba0_12 := e12.blk ba0_11
          obtain ⟨za00, za01, za02, -, -, -⟩ := own3 ba0_12
          have lza0 := lt_of_blk ba0_12
          have ba1_12 := e12.blk ba1_11
          obtain ⟨za10, za11, za12, -, -, -⟩ := own3 ba1_12
          have lza1 := lt_of_blk ba1_12
          have ba2_12 := e12.blk ba2_11
          obtain ⟨za20, za21, za22, -, -, -⟩ := own3 ba2_12
          have lza2 := lt_of_blk ba2_12
          have br8_12 := e12.blk br8_11
          obtain ⟨zr80, zr81, zr82, -, -, -⟩ := own3 br8_12
          have lzr8 := lt_of_blk br8_12
          have br9_12 := e12.blk br9_11
          obtain ⟨zr90, zr91, zr92, -, -, -⟩ := own3 br9_12
          have lzr9 := lt_of_blk br9_12
          go_wp2_with fail
          clear za00 za01 za02 lza0 za10 za11 za12 lza1 za20 za21 za22 lza2 zr80 zr81 zr82 lzr8 zr90 zr91 zr92 lzr9
          have X9_10 : Ext w9 w10 := (Ext.refl w9).trans e10
          have X9_11 : Ext w9 w11 := X9_10.trans e11
          have X9_12 : Ext w9 w12 := X9_11.trans e12
          have X3_7 : Ext w3 w7 := X3_6.trans e7
          have X3_8 : Ext w3 w8 := X3_7.trans e8
          have X3_9 : Ext w3 w9 := X3_8.trans e9
          have X3_10 : Ext w3 w10 := X3_9.trans e10
          have X3_11 : Ext w3 w11 := X3_10.trans e11
          have X3_12 : Ext w3 w12 := X3_11.trans e12
          refine (same1 _ w12 _ _ (hL4.ext X9_12) (hL1.ext X3_12)).mono ?_
          rintro e w13 ⟨rfl, e13⟩
          have s13 : w12.heap.size ≤ w13.heap.size := e13.size
          have ba0_13 := e13.blk ba0_12
          obtain ⟨za00, za01, za02, -, -, -⟩ := own3 ba0_13
          have lza0 := lt_of_blk ba0_13
          have ba1_13 := e13.blk ba1_12
          obtain ⟨za10, za11, za12, -, -, -⟩ := own3 ba1_13
          have lza1 := lt_of_blk ba1_13
          have ba2_13 := e13.blk ba2_12
          obtain ⟨za20, za21, za22, -, -, -⟩ := own3 ba2_13
          have lza2 := lt_of_blk ba2_13
          have br8_13 := e13.blk br8_12
          obtain ⟨zr80, zr81, zr82, -, -, -⟩ := own3 br8_13
          have lzr8 := lt_of_blk br8_13
          have br9_13 := e13.blk br9_12
          obtain ⟨zr90, zr91, zr92, -, -, -⟩ := own3 br9_13
          have lzr9 := lt_of_blk br9_13
          go_wp2_with fail
          clear za00 za01 za02 lza0 za10 za11 za12 lza1 za20 za21 za22 lza2 zr80 zr81 zr82 lzr8 zr90 zr91 zr92 lzr9
          have X0_1 : Ext w0 w1 := (Ext.refl w0).trans e1
          have X0_2 : Ext w0 w2 := X0_1.trans e2
          have X0_3 : Ext w0 w3 := X0_2.trans e3
          have X0_4 : Ext w0 w4 := X0_3.trans e4
          have X0_5 : Ext w0 w5 := X0_4.trans e5
          have X0_6 : Ext w0 w6 := X0_5.trans e6
          have X0_7 : Ext w0 w7 := X0_6.trans e7
          have X0_8 : Ext w0 w8 := X0_7.trans e8
          have X0_9 : Ext w0 w9 := X0_8.trans e9
          have X0_10 : Ext w0 w10 := X0_9.trans e10
          have X0_11 : Ext w0 w11 := X0_10.trans e11
          have X0_12 : Ext w0 w12 := X0_11.trans e12
          have X0_13 : Ext w0 w13 := X0_12.trans e13
          go_ret
          exact ⟨rfl, X0_13⟩))
  · have hpcc := hcp
    unfold maxLen at hpcc
    have HSP := Lib.hid (split_path hpcell hbp k)
    obtain ⟨np, hnp⟩ : ∃ n, p.length = n := ⟨_, rfl⟩
    have HPF : PF w1 (some ⟨bp, op, none⟩) np cp p := ⟨hnp, by omega, hcp, .inr ⟨bp, op, rfl, hbp, hpcell⟩⟩
    have HTF : PF w1 (some ⟨bp, op, none⟩) k cp (p.take k) := ⟨by rw [List.length_take]; omega, by omega, hcp, HSP.out.1⟩
    have HDF : PF w1 (if cp = k then some ⟨bp, op, none⟩ else some ⟨bp, op + k, none⟩) (np - k) (cp - k) (p.drop k) := by
      refine ⟨by rw [List.length_drop]; omega, by omega, by omega, ?_⟩
      by_cases hck : cp = k
      · exact .inl (List.drop_of_length_le (by omega))
      · rw [if_neg hck]; exact HSP.out.2
    clear hpcell HSP
    rw [hnp] at hk hkp hpc ⊢
    have hpl2 : np ≤ 29 := by omega
    have hkc : (k : Int) ≤ (np : Int) := by omega
    have hkc0 : (0 : Int) ≤ (k : Int) := by omega
    have hkc2 : (k : Int) ≤ (cp : Int) := by omega
    have hplc : (np : Int) ≤ (cp : Int) := by omega
    have hrem : ((ms.length : Int) % ((np : Int) + 1)) = (k : Int) := by rw [hk]; exact (Int.natCast_emod ms.length (np + 1)).symm
    have hrem3 : ms.length % (np + 1) = k := hk.symm
    have hpp : ((np : Int) + 1 == 0) = false := beq_eq_false_iff_ne.2 (by omega)
    have hpw : IntKind.i64.wrap ((np : Int) + 1) = (np : Int) + 1 := IntWalk.i64_in _ ⟨by omega, by omega⟩
    obtain ⟨AD, hAD⟩ : ∃ AD, (if cp = k then some (⟨bp, op, none⟩ : Addr) else some ⟨bp, op + k, none⟩) = AD := ⟨_, rfl⟩
    rw [hAD] at HDF
    have HAD := Lib.hid hAD
    clear hk hnp hAD
    obtain ⟨w2, hw2⟩ : ∃ w2, w2 = w1.alloc (.cells #[.int .i64 k0, .int .i64 m0, .slice A0 ks0.length cap0] 42) := ⟨_, rfl⟩
    have e2 : Ext w1 w2 := hw2 ▸ (Ext.refl w1).alloc _
    have b2 := heap_alloc_new w1 (.cells #[.int .i64 k0, .int .i64 m0, .slice A0 ks0.length cap0] 42)
    rw [← hw2] at b2
    have s2 : w1.heap.size < w2.heap.size := lt_of_blk b2
    go_wp2_with fail
    rw [← hw2]
    clear hw2
    obtain ⟨⟨k1, m1, ks1⟩, z, hz⟩ : ∃ x z, atV (.mk k0 m0 ks0) p = (x, z) := ⟨_, _, rfl⟩
    have HZ := Lib.hid hz
    clear hz
    have X1_2 : Ext w1 w2 := (Ext.refl w1).trans e2
    refine (tm1 HZ.out w2 _ (hL0.ext X1_2) (some ⟨bp, op, none⟩) np cp (HPF.ext X1_2)).mono ?_
    rintro e w3 ⟨u, rfl, hF1, e3⟩
    have s3 : w2.heap.size ≤ w3.heap.size := e3.size
    have hL1 := hF1.lies
    clear hF1
    obtain ⟨A1, cap1, rfl, hl1, hc1, hK1⟩ := Lies.mk_iff.1 hL1
    obtain ⟨w4, hw4⟩ : ∃ w4, w4 = w3.alloc (.cells #[.int .i64 k1, .int .i64 m1, .slice A1 ks1.length cap1] 42) := ⟨_, rfl⟩
    have e4 : Ext w3 w4 := hw4 ▸ (Ext.refl w3).alloc _
    have b4 := heap_alloc_new w3 (.cells #[.int .i64 k1, .int .i64 m1, .slice A1 ks1.length cap1] 42)
    rw [← hw4] at b4
    have s4 : w3.heap.size < w4.heap.size := lt_of_blk b4
    have ba0_3 := e3.blk b2
    obtain ⟨za00, za01, za02, -, -, -⟩ := own3 ba0_3
    have lza0 := lt_of_blk ba0_3
    go_wp2_with fail
    rw [← hw4]
    clear hw4
    clear za00 za01 za02 lza0
    have X1_3 : Ext w1 w3 := X1_2.trans e3
    have X1_4 : Ext w1 w4 := X1_3.trans e4
    refine (tm2 HZ.out w4 _ (hL0.ext X1_4) (some ⟨bp, op, none⟩) np cp (HPF.ext X1_4)).mono ?_
    rintro e w5 ⟨u, rfl, hL2, e5⟩
    have s5 : w4.heap.size ≤ w5.heap.size := e5.size
    obtain ⟨A2, cap2, rfl, hl2, hc2, hK2⟩ := Lies.mk_iff.1 hL2
    obtain ⟨w6, hw6⟩ : ∃ w6, w6 = w5.alloc (.cells #[.int .i64 k1, .int .i64 m1, .slice A2 ks1.length cap2] 42) := ⟨_, rfl⟩
    have e6 : Ext w5 w6 := hw6 ▸ (Ext.refl w5).alloc _
    have b6 := heap_alloc_new w5 (.cells #[.int .i64 k1, .int .i64 m1, .slice A2 ks1.length cap2] 42)
    rw [← hw6] at b6
    have s6 : w5.heap.size < w6.heap.size := lt_of_blk b6
    have hz1 : (z != z) = false := by simp
    have hz2 : (z == z) = true := by simp
    have ba0_4 := e4.blk ba0_3
    have ba0_5 := e5.blk ba0_4
    obtain ⟨za00, za01, za02, -, -, -⟩ := own3 ba0_5
    have lza0 := lt_of_blk ba0_5
    have ba1_5 := e5.blk b4
    obtain ⟨za10, za11, za12, -, -, -⟩ := own3 ba1_5
    have lza1 := lt_of_blk ba1_5
    go_wp2_with fail
    rw [← hw6]
    clear hw6
    clear za00 za01 za02 lza0 za10 za11 za12 lza1
    have X3_4 : Ext w3 w4 := (Ext.refl w3).trans e4
    have X3_5 : Ext w3 w5 := X3_4.trans e5
    have X3_6 : Ext w3 w6 := X3_5.trans e6
    have X5_6 : Ext w5 w6 := (Ext.refl w5).trans e6
    refine (same1 _ w6 _ _ (hL1.ext X3_6) (hL2.ext X5_6)).mono ?_
    rintro e w7 ⟨rfl, e7⟩
    have s7 : w6.heap.size ≤ w7.heap.size := e7.size
    cases z with
    | false =>
      have ba0_6 := e6.blk ba0_5
      have ba0_7 := e7.blk ba0_6
      obtain ⟨za00, za01, za02, -, -, -⟩ := own3 ba0_7
      have lza0 := lt_of_blk ba0_7
      have ba1_6 := e6.blk ba1_5
      have ba1_7 := e7.blk ba1_6
      obtain ⟨za10, za11, za12, -, -, -⟩ := own3 ba1_7
      have lza1 := lt_of_blk ba1_7
      have ba2_7 := e7.blk b6
      obtain ⟨za20, za21, za22, -, -, -⟩ := own3 ba2_7
      have lza2 := lt_of_blk ba2_7
      go_wp2_with fail
      clear za00 za01 za02 lza0 za10 za11 za12 lza1 za20 za21 za22 lza2
      have X3_7 : Ext w3 w7 := X3_6.trans e7
      have X5_7 : Ext w5 w7 := X5_6.trans e7
      refine (same1 _ w7 _ _ (hL1.ext X3_7) (hL2.ext X5_7)).mono ?_
      rintro e w8 ⟨rfl, e8⟩
      have s8 : w7.heap.size ≤ w8.heap.size := e8.size
      have ba0_8 := e8.blk ba0_7
      obtain ⟨za00, za01, za02, -, -, -⟩ := own3 ba0_8
      have lza0 := lt_of_blk ba0_8
      have ba1_8 := e8.blk ba1_7
      obtain ⟨za10, za11, za12, -, -, -⟩ := own3 ba1_8
      have lza1 := lt_of_blk ba1_8
      have ba2_8 := e8.blk ba2_7
      obtain ⟨za20, za21, za22, -, -, -⟩ := own3 ba2_8
      have lza2 := lt_of_blk ba2_8
      go_wp2_with fail
      clear za00 za01 za02 lza0 za10 za11 za12 lza1 za20 za21 za22 lza2
      have X0_1 : Ext w0 w1 := (Ext.refl w0).trans e1
      have X0_2 : Ext w0 w2 := X0_1.trans e2
      have X0_3 : Ext w0 w3 := X0_2.trans e3
      have X0_4 : Ext w0 w4 := X0_3.trans e4
      have X0_5 : Ext w0 w5 := X0_4.trans e5
      have X0_6 : Ext w0 w6 := X0_5.trans e6
      have X0_7 : Ext w0 w7 := X0_6.trans e7
      have X0_8 : Ext w0 w8 := X0_7.trans e8
      go_ret
      exact ⟨rfl, X0_8⟩
    | true =>
      obtain ⟨y, na, nb, nc, hy1, hy2, hy3, hy4, hy5, hy6, hb0, hb9, hc0', hc9⟩ := tmFacts k hpl HZ.out
      have HY1 := Lib.hid hy1
      have HY2 := Lib.hid hy2
      have HY3 := Lib.hid hy3
      have HY4 := Lib.hid hy4
      have HY5 := Lib.hid hy5
      clear hy1 hy2 hy3 hy4 hy5 hz1 hz2
      have hadd : IntKind.i64.wrap (nb + nc) = nb + nc := IntWalk.i64_in _ ⟨by omega, by omega⟩
      have heq : (na == nb + nc) = true := by rw [hy6]; simp
      have hsm : na = nb + nc := hy6
      clear hy6 hsm
      have ba0_6 := e6.blk ba0_5
      have ba0_7 := e7.blk ba0_6
      obtain ⟨za00, za01, za02, -, -, -⟩ := own3 ba0_7
      have lza0 := lt_of_blk ba0_7
      have ba1_6 := e6.blk ba1_5
      have ba1_7 := e7.blk ba1_6
      obtain ⟨za10, za11, za12, -, -, -⟩ := own3 ba1_7
      have lza1 := lt_of_blk ba1_7
      have ba2_7 := e7.blk b6
      obtain ⟨za20, za21, za22, -, -, -⟩ := own3 ba2_7
      have lza2 := lt_of_blk ba2_7
      go_wp2_with fail
      clear za00 za01 za02 lza0 za10 za11 za12 lza1 za20 za21 za22 lza2
      have X1_5 : Ext w1 w5 := X1_4.trans e5
      have X1_6 : Ext w1 w6 := X1_5.trans e6
      have X1_7 : Ext w1 w7 := X1_6.trans e7
      obtain ⟨za00, za01, za02, -, -, -⟩ := own3 ba0_7
      have lza0 := lt_of_blk ba0_7
      obtain ⟨za10, za11, za12, -, -, -⟩ := own3 ba1_7
      have lza1 := lt_of_blk ba1_7
      obtain ⟨za20, za21, za22, -, -, -⟩ := own3 ba2_7
      have lza2 := lt_of_blk ba2_7
      have HK8 := Lib.hid (show ∀ w', Ext w7 w' → w'.cell? ⟨w1.heap.size, 0, none⟩ = some (.int .i64 k0) ∧ w'.cell? ⟨w1.heap.size, 1, none⟩ = some (.int .i64 m0) ∧ w'.cell? ⟨w1.heap.size, 2, none⟩ = some (.slice A0 ks0.length cap0) from fun w' hw => ⟨hw.cell za00, hw.cell za01, hw.cell za02⟩)
      have X0 : Ext w7 w7.drew := (Ext.refl w7).drew
      go_region_held3 (fun w' => w'.cell? ⟨w1.heap.size, 0, none⟩ = some (.int .i64 k0) ∧ w'.cell? ⟨w1.heap.size, 1, none⟩ = some (.int .i64 m0) ∧ w'.cell? ⟨w1.heap.size, 2, none⟩ = some (.slice A0 ks0.length cap0))
        (first | exact HK8.out _ (((hxd.setCell (p := ⟨w7.heap.size, 0, none⟩) (Nat.le_refl _) _).setCell (p := ⟨w7.heap.size, 1, none⟩) (Nat.le_refl _) _).setCell (p := ⟨w7.heap.size, 2, none⟩) (Nat.le_refl _) _) | exact HK8.out _ (hxd.alloc _) | exact HK8.out _ hxd | exact HK8.out _ X0 | exact HK8.out _ (X0.alloc _) | exact HK8.out _ ((Ext.refl w7).alloc _).drew)
        (first | (go_at_call 58; (try rw [HAD.out]); refine (tm1 HY1.out _ _ ((hL0.ext X1_7).ext (by first | exact X0 | exact X0.alloc _ | exact ((Ext.refl w7).alloc _).drew)) (some ⟨bp, op, none⟩) k cp (HTF.ext (X1_7.trans (by first | exact X0 | exact X0.alloc _ | exact ((Ext.refl w7).alloc _).drew)))).mono ?_; rintro e wd ⟨u, rfl, hFd, ed⟩; have hxd : Ext w7 wd := (by first | exact X0.trans ed | exact (X0.alloc _).trans ed | exact (((Ext.refl w7).alloc _).drew).trans ed); have hFd2 := hFd; obtain ⟨ya, yb, yc, yd, ye, rfl⟩ := hFd2.three; clear hFd2; (first | (have qb : wd.heap[w7.heap.size]? = some (.cells #[.int .i64 0, .int .i64 0, .slice none 0 0] 42 (0, 0)) := ed.blk (heap_alloc_new w7.drew (.cells #[.int .i64 0, .int .i64 0, .slice none 0 0] 42)); obtain ⟨sa, sb, sc, fa, fb, fc⟩ := own3 qb) | (have qb : wd.heap[w7.heap.size]? = some (.cells #[.int .i64 0, .int .i64 0, .slice none 0 0] 42 (0, 0)) := ed.blk (heap_alloc_new w7 (.cells #[.int .i64 0, .int .i64 0, .slice none 0 0] 42)); obtain ⟨sa, sb, sc, fa, fb, fc⟩ := own3 qb) | (have qb := trivial))))
      all_goals (first
        | (have en : Ext w7 (wd.alloc (.cells #[.int .i64 ya, .int .i64 yb, .slice yc yd ye] 42)) := hxd.alloc _; have bn := heap_alloc_new wd (.cells #[.int .i64 ya, .int .i64 yb, .slice yc yd ye] 42); have ln := hFd.lies.ext ((Ext.refl wd).alloc (.cells #[.int .i64 ya, .int .i64 yb, .slice yc yd ye] 42)); obtain ⟨w8, hw8⟩ : ∃ x, x = wd.alloc (.cells #[.int .i64 ya, .int .i64 yb, .slice yc yd ye] 42) := ⟨_, rfl⟩; rw [← hw8]; rw [← hw8] at en bn ln; clear hw8; obtain ⟨g8, hg8⟩ : ∃ x, x = wd.heap.size := ⟨_, rfl⟩; rw [← hg8] at bn ⊢; clear hg8)
        | (have en : Ext w7 (((wd.setCell ⟨w7.heap.size, 0, none⟩ (.int .i64 ya)).setCell ⟨w7.heap.size, 1, none⟩ (.int .i64 yb)).setCell ⟨w7.heap.size, 2, none⟩ (.slice yc yd ye)) := (((hxd.setCell (p := ⟨w7.heap.size, 0, none⟩) (Nat.le_refl _) _).setCell (p := ⟨w7.heap.size, 1, none⟩) (Nat.le_refl _) _).setCell (p := ⟨w7.heap.size, 2, none⟩) (Nat.le_refl _) _); have bn := blk_setCell (blk_setCell (blk_setCell qb 0 (.int .i64 ya)) 1 (.int .i64 yb)) 2 (.slice yc yd ye); have ln := (((hFd.set (p := ⟨w7.heap.size, 0, none⟩) (by simp) (.int .i64 ya)).set (p := ⟨w7.heap.size, 1, none⟩) (by simp) (.int .i64 yb)).set (p := ⟨w7.heap.size, 2, none⟩) (by simp) (.slice yc yd ye)).lies; obtain ⟨w8, hw8⟩ : ∃ x, x = (((wd.setCell ⟨w7.heap.size, 0, none⟩ (.int .i64 ya)).setCell ⟨w7.heap.size, 1, none⟩ (.int .i64 yb)).setCell ⟨w7.heap.size, 2, none⟩ (.slice yc yd ye)) := ⟨_, rfl⟩; rw [← hw8]; rw [← hw8] at en bn ln; clear hw8; obtain ⟨g8, hg8⟩ : ∃ x, x = w7.heap.size := ⟨_, rfl⟩; rw [← hg8] at bn ⊢; clear hg8))
      all_goals (
        try clear sa sb sc fa fb fc
        clear qb hxd hFd ed X0 HK8 za00 za01 za02 lza0 za10 za11 za12 lza1 za20 za21 za22 lza2
        have e8 : Ext w7 w8 := en
        have b8 : w8.heap[g8]? = some (.cells #[.int .i64 ya, .int .i64 yb, .slice yc yd ye] 42 (0, 0)) := bn
        have l8 := ln
        clear en bn ln
        have lg8 := lt_of_blk b8
        have s8 : w7.heap.size ≤ w8.heap.size := e8.size
        have hL3 := l8
        clear l8
        have ba0_8 := e8.blk ba0_7
        obtain ⟨za00, za01, za02, -, -, -⟩ := own3 ba0_8
        have lza0 := lt_of_blk ba0_8
        have ba1_8 := e8.blk ba1_7
        obtain ⟨za10, za11, za12, -, -, -⟩ := own3 ba1_8
        have lza1 := lt_of_blk ba1_8
        have ba2_8 := e8.blk ba2_7
        obtain ⟨za20, za21, za22, -, -, -⟩ := own3 ba2_8
        have lza2 := lt_of_blk ba2_8
        obtain ⟨zr80, zr81, zr82, -, -, -⟩ := own3 b8
        have lzr8 := lt_of_blk b8
        go_wp2_with fail
        clear za00 za01 za02 lza0 za10 za11 za12 lza1 za20 za21 za22 lza2 zr80 zr81 zr82 lzr8
        have X1_8 : Ext w1 w8 := X1_7.trans e8
        obtain ⟨za00, za01, za02, -, -, -⟩ := own3 ba0_8
        have lza0 := lt_of_blk ba0_8
        obtain ⟨za10, za11, za12, -, -, -⟩ := own3 ba1_8
        have lza1 := lt_of_blk ba1_8
        obtain ⟨za20, za21, za22, -, -, -⟩ := own3 ba2_8
        have lza2 := lt_of_blk ba2_8
        obtain ⟨zr80, zr81, zr82, -, -, -⟩ := own3 b8
        have lzr8 := lt_of_blk b8
        have HK9 := Lib.hid (show ∀ w', Ext w8 w' → w'.cell? ⟨g8, 0, none⟩ = some (.int .i64 ya) ∧ w'.cell? ⟨g8, 1, none⟩ = some (.int .i64 yb) ∧ w'.cell? ⟨g8, 2, none⟩ = some (.slice yc yd ye) from fun w' hw => ⟨hw.cell zr80, hw.cell zr81, hw.cell zr82⟩)
        have X0 : Ext w8 w8.drew := (Ext.refl w8).drew
        go_region_held3 (fun w' => w'.cell? ⟨g8, 0, none⟩ = some (.int .i64 ya) ∧ w'.cell? ⟨g8, 1, none⟩ = some (.int .i64 yb) ∧ w'.cell? ⟨g8, 2, none⟩ = some (.slice yc yd ye))
          (first | exact HK9.out _ (((hxd.setCell (p := ⟨w8.heap.size, 0, none⟩) (Nat.le_refl _) _).setCell (p := ⟨w8.heap.size, 1, none⟩) (Nat.le_refl _) _).setCell (p := ⟨w8.heap.size, 2, none⟩) (Nat.le_refl _) _) | exact HK9.out _ (hxd.alloc _) | exact HK9.out _ hxd | exact HK9.out _ X0 | exact HK9.out _ (X0.alloc _) | exact HK9.out _ ((Ext.refl w8).alloc _).drew)
          (first | (go_at_call 58; (try rw [HAD.out]); refine (tm1 HY2.out _ _ ((hL3.ext (Ext.refl w8)).ext (by first | exact X0 | exact X0.alloc _ | exact ((Ext.refl w8).alloc _).drew)) AD (np - k) (cp - k) (HDF.ext (X1_8.trans (by first | exact X0 | exact X0.alloc _ | exact ((Ext.refl w8).alloc _).drew)))).mono ?_; rintro e wd ⟨u, rfl, hFd, ed⟩; have hxd : Ext w8 wd := (by first | exact X0.trans ed | exact (X0.alloc _).trans ed | exact (((Ext.refl w8).alloc _).drew).trans ed); have hFd2 := hFd; obtain ⟨za, zb, zc, zd, ze, rfl⟩ := hFd2.three; clear hFd2; (first | (have qb : wd.heap[w8.heap.size]? = some (.cells #[.int .i64 0, .int .i64 0, .slice none 0 0] 42 (0, 0)) := ed.blk (heap_alloc_new w8.drew (.cells #[.int .i64 0, .int .i64 0, .slice none 0 0] 42)); obtain ⟨sa, sb, sc, fa, fb, fc⟩ := own3 qb) | (have qb : wd.heap[w8.heap.size]? = some (.cells #[.int .i64 0, .int .i64 0, .slice none 0 0] 42 (0, 0)) := ed.blk (heap_alloc_new w8 (.cells #[.int .i64 0, .int .i64 0, .slice none 0 0] 42)); obtain ⟨sa, sb, sc, fa, fb, fc⟩ := own3 qb) | (have qb := trivial))))
        all_goals (first
          | (have en : Ext w8 (wd.alloc (.cells #[.int .i64 za, .int .i64 zb, .slice zc zd ze] 42)) := hxd.alloc _; have bn := heap_alloc_new wd (.cells #[.int .i64 za, .int .i64 zb, .slice zc zd ze] 42); have ln := hFd.lies.ext ((Ext.refl wd).alloc (.cells #[.int .i64 za, .int .i64 zb, .slice zc zd ze] 42)); obtain ⟨w9, hw9⟩ : ∃ x, x = wd.alloc (.cells #[.int .i64 za, .int .i64 zb, .slice zc zd ze] 42) := ⟨_, rfl⟩; rw [← hw9]; rw [← hw9] at en bn ln; clear hw9; obtain ⟨g9, hg9⟩ : ∃ x, x = wd.heap.size := ⟨_, rfl⟩; rw [← hg9] at bn ⊢; clear hg9)
          | (have en : Ext w8 (((wd.setCell ⟨w8.heap.size, 0, none⟩ (.int .i64 za)).setCell ⟨w8.heap.size, 1, none⟩ (.int .i64 zb)).setCell ⟨w8.heap.size, 2, none⟩ (.slice zc zd ze)) := (((hxd.setCell (p := ⟨w8.heap.size, 0, none⟩) (Nat.le_refl _) _).setCell (p := ⟨w8.heap.size, 1, none⟩) (Nat.le_refl _) _).setCell (p := ⟨w8.heap.size, 2, none⟩) (Nat.le_refl _) _); have bn := blk_setCell (blk_setCell (blk_setCell qb 0 (.int .i64 za)) 1 (.int .i64 zb)) 2 (.slice zc zd ze); have ln := (((hFd.set (p := ⟨w8.heap.size, 0, none⟩) (by simp) (.int .i64 za)).set (p := ⟨w8.heap.size, 1, none⟩) (by simp) (.int .i64 zb)).set (p := ⟨w8.heap.size, 2, none⟩) (by simp) (.slice zc zd ze)).lies; obtain ⟨w9, hw9⟩ : ∃ x, x = (((wd.setCell ⟨w8.heap.size, 0, none⟩ (.int .i64 za)).setCell ⟨w8.heap.size, 1, none⟩ (.int .i64 zb)).setCell ⟨w8.heap.size, 2, none⟩ (.slice zc zd ze)) := ⟨_, rfl⟩; rw [← hw9]; rw [← hw9] at en bn ln; clear hw9; obtain ⟨g9, hg9⟩ : ∃ x, x = w8.heap.size := ⟨_, rfl⟩; rw [← hg9] at bn ⊢; clear hg9))
        all_goals (
          try clear sa sb sc fa fb fc
          clear qb hxd hFd ed X0 HK9 za00 za01 za02 lza0 za10 za11 za12 lza1 za20 za21 za22 lza2 zr80 zr81 zr82 lzr8
          have e9 : Ext w8 w9 := en
          have b9 : w9.heap[g9]? = some (.cells #[.int .i64 za, .int .i64 zb, .slice zc zd ze] 42 (0, 0)) := bn
          have l9 := ln
          clear en bn ln
          have lg9 := lt_of_blk b9
          have s9 : w8.heap.size ≤ w9.heap.size := e9.size
          have hL4 := l9
          clear l9
          have ba0_9 := e9.blk ba0_8
          obtain ⟨za00, za01, za02, -, -, -⟩ := own3 ba0_9
          have lza0 := lt_of_blk ba0_9
          have ba1_9 := e9.blk ba1_8
          obtain ⟨za10, za11, za12, -, -, -⟩ := own3 ba1_9
          have lza1 := lt_of_blk ba1_9
          have ba2_9 := e9.blk ba2_8
          obtain ⟨za20, za21, za22, -, -, -⟩ := own3 ba2_9
          have lza2 := lt_of_blk ba2_9
          have br8_9 := e9.blk b8
          obtain ⟨zr80, zr81, zr82, -, -, -⟩ := own3 br8_9
          have lzr8 := lt_of_blk br8_9
          obtain ⟨zr90, zr91, zr92, -, -, -⟩ := own3 b9
          have lzr9 := lt_of_blk b9
          go_wp2_with fail
          clear za00 za01 za02 lza0 za10 za11 za12 lza1 za20 za21 za22 lza2 zr80 zr81 zr82 lzr8 zr90 zr91 zr92 lzr9
          have X1_9 : Ext w1 w9 := X1_8.trans e9
          refine (tm3 HY3.out w9 _ (hL0.ext X1_9) (some ⟨bp, op, none⟩) np cp (HPF.ext X1_9)).mono ?_
          rintro e w10 ⟨rfl, e10⟩
          have s10 : w9.heap.size ≤ w10.heap.size := e10.size
          have ba0_10 := e10.blk ba0_9
          obtain ⟨za00, za01, za02, -, -, -⟩ := own3 ba0_10
          have lza0 := lt_of_blk ba0_10
          have ba1_10 := e10.blk ba1_9
          obtain ⟨za10, za11, za12, -, -, -⟩ := own3 ba1_10
          have lza1 := lt_of_blk ba1_10
          have ba2_10 := e10.blk ba2_9
          obtain ⟨za20, za21, za22, -, -, -⟩ := own3 ba2_10
          have lza2 := lt_of_blk ba2_10
          have br8_10 := e10.blk br8_9
          obtain ⟨zr80, zr81, zr82, -, -, -⟩ := own3 br8_10
          have lzr8 := lt_of_blk br8_10
          have br9_10 := e10.blk b9
          obtain ⟨zr90, zr91, zr92, -, -, -⟩ := own3 br9_10
          have lzr9 := lt_of_blk br9_10
          go_wp2_with fail
          clear za00 za01 za02 lza0 za10 za11 za12 lza1 za20 za21 za22 lza2 zr80 zr81 zr82 lzr8 zr90 zr91 zr92 lzr9
          have X1_10 : Ext w1 w10 := X1_9.trans e10
          obtain ⟨za00, za01, za02, -, -, -⟩ := own3 ba0_10
          have lza0 := lt_of_blk ba0_10
          obtain ⟨za10, za11, za12, -, -, -⟩ := own3 ba1_10
          have lza1 := lt_of_blk ba1_10
          obtain ⟨za20, za21, za22, -, -, -⟩ := own3 ba2_10
          have lza2 := lt_of_blk ba2_10
          obtain ⟨zr80, zr81, zr82, -, -, -⟩ := own3 br8_10
          have lzr8 := lt_of_blk br8_10
          obtain ⟨zr90, zr91, zr92, -, -, -⟩ := own3 br9_10
          have lzr9 := lt_of_blk br9_10
          have HK11 := Lib.hid (show ∀ w', Ext w10 w' → w'.cell? ⟨w1.heap.size, 0, none⟩ = some (.int .i64 k0) ∧ w'.cell? ⟨w1.heap.size, 1, none⟩ = some (.int .i64 m0) ∧ w'.cell? ⟨w1.heap.size, 2, none⟩ = some (.slice A0 ks0.length cap0) from fun w' hw => ⟨hw.cell za00, hw.cell za01, hw.cell za02⟩)
          have X0 : Ext w10 w10.drew := (Ext.refl w10).drew
          go_region_held3 (fun w' => w'.cell? ⟨w1.heap.size, 0, none⟩ = some (.int .i64 k0) ∧ w'.cell? ⟨w1.heap.size, 1, none⟩ = some (.int .i64 m0) ∧ w'.cell? ⟨w1.heap.size, 2, none⟩ = some (.slice A0 ks0.length cap0))
            (first | exact HK11.out _ (X0.trans ed11) | exact HK11.out _ X0)
            (first | (go_at_call 63; (try rw [HAD.out]); refine (tm3 HY4.out _ _ ((hL0.ext X1_10).ext X0) (some ⟨bp, op, none⟩) k cp (HTF.ext (X1_10.trans X0))).mono ?_; rintro e w11 ⟨rfl, ed11⟩))
          have e11 : Ext w10 w11 := X0.trans ed11
          clear X0 ed11 HK11 za00 za01 za02 lza0 za10 za11 za12 lza1 za20 za21 za22 lza2 zr80 zr81 zr82 lzr8 zr90 zr91 zr92 lzr9
          have s11 : w10.heap.size ≤ w11.heap.size := e11.size
          have ba0_11 := e11.blk ba0_10
          obtain ⟨za00, za01, za02, -, -, -⟩ := own3 ba0_11
          have lza0 := lt_of_blk ba0_11
          have ba1_11 := e11.blk ba1_10
          obtain ⟨za10, za11, za12, -, -, -⟩ := own3 ba1_11
          have lza1 := lt_of_blk ba1_11
          have ba2_11 := e11.blk ba2_10
          obtain ⟨za20, za21, za22, -, -, -⟩ := own3 ba2_11
          have lza2 := lt_of_blk ba2_11
          have br8_11 := e11.blk br8_10
          obtain ⟨zr80, zr81, zr82, -, -, -⟩ := own3 br8_11
          have lzr8 := lt_of_blk br8_11
          have br9_11 := e11.blk br9_10
          obtain ⟨zr90, zr91, zr92, -, -, -⟩ := own3 br9_11
          have lzr9 := lt_of_blk br9_11
          go_wp2_with fail
          clear za00 za01 za02 lza0 za10 za11 za12 lza1 za20 za21 za22 lza2 zr80 zr81 zr82 lzr8 zr90 zr91 zr92 lzr9
          have X8_9 : Ext w8 w9 := (Ext.refl w8).trans e9
          have X8_10 : Ext w8 w10 := X8_9.trans e10
          have X8_11 : Ext w8 w11 := X8_10.trans e11
          have X1_11 : Ext w1 w11 := X1_10.trans e11
          obtain ⟨za00, za01, za02, -, -, -⟩ := own3 ba0_11
          have lza0 := lt_of_blk ba0_11
          obtain ⟨za10, za11, za12, -, -, -⟩ := own3 ba1_11
          have lza1 := lt_of_blk ba1_11
          obtain ⟨za20, za21, za22, -, -, -⟩ := own3 ba2_11
          have lza2 := lt_of_blk ba2_11
          obtain ⟨zr80, zr81, zr82, -, -, -⟩ := own3 br8_11
          have lzr8 := lt_of_blk br8_11
          obtain ⟨zr90, zr91, zr92, -, -, -⟩ := own3 br9_11
          have lzr9 := lt_of_blk br9_11
          have HK12 := Lib.hid (show ∀ w', Ext w11 w' → w'.cell? ⟨g8, 0, none⟩ = some (.int .i64 ya) ∧ w'.cell? ⟨g8, 1, none⟩ = some (.int .i64 yb) ∧ w'.cell? ⟨g8, 2, none⟩ = some (.slice yc yd ye) from fun w' hw => ⟨hw.cell zr80, hw.cell zr81, hw.cell zr82⟩)
          have X0 : Ext w11 w11.drew := (Ext.refl w11).drew
          go_region_held3 (fun w' => w'.cell? ⟨g8, 0, none⟩ = some (.int .i64 ya) ∧ w'.cell? ⟨g8, 1, none⟩ = some (.int .i64 yb) ∧ w'.cell? ⟨g8, 2, none⟩ = some (.slice yc yd ye))
            (first | exact HK12.out _ (X0.trans ed12) | exact HK12.out _ X0)
            (first | (go_at_call 63; (try rw [HAD.out]); refine (tm3 HY5.out _ _ ((hL3.ext X8_11).ext X0) AD (np - k) (cp - k) (HDF.ext (X1_11.trans X0))).mono ?_; rintro e w12 ⟨rfl, ed12⟩))
          have e12 : Ext w11 w12 := X0.trans ed12
          clear X0 ed12 HK12 za00 za01 za02 lza0 za10 za11 za12 lza1 za20 za21 za22 lza2 zr80 zr81 zr82 lzr8 zr90 zr91 zr92 lzr9
          have s12 : w11.heap.size ≤ w12.heap.size := e12.size
          have ba0_12 := e12.blk ba0_11
          obtain ⟨za00, za01, za02, -, -, -⟩ := own3 ba0_12
          have lza0 := lt_of_blk ba0_12
          have ba1_12 := e12.blk ba1_11
          obtain ⟨za10, za11, za12, -, -, -⟩ := own3 ba1_12
          have lza1 := lt_of_blk ba1_12
          have ba2_12 := e12.blk ba2_11
          obtain ⟨za20, za21, za22, -, -, -⟩ := own3 ba2_12
          have lza2 := lt_of_blk ba2_12
          have br8_12 := e12.blk br8_11
          obtain ⟨zr80, zr81, zr82, -, -, -⟩ := own3 br8_12
          have lzr8 := lt_of_blk br8_12
          have br9_12 := e12.blk br9_11
          obtain ⟨zr90, zr91, zr92, -, -, -⟩ := own3 br9_12
          have lzr9 := lt_of_blk br9_12
          go_wp2_with fail
          clear za00 za01 za02 lza0 za10 za11 za12 lza1 za20 za21 za22 lza2 zr80 zr81 zr82 lzr8 zr90 zr91 zr92 lzr9
          have X9_10 : Ext w9 w10 := (Ext.refl w9).trans e10
          have X9_11 : Ext w9 w11 := X9_10.trans e11
          have X9_12 : Ext w9 w12 := X9_11.trans e12
          have X3_7 : Ext w3 w7 := X3_6.trans e7
          have X3_8 : Ext w3 w8 := X3_7.trans e8
          have X3_9 : Ext w3 w9 := X3_8.trans e9
          have X3_10 : Ext w3 w10 := X3_9.trans e10
          have X3_11 : Ext w3 w11 := X3_10.trans e11
          have X3_12 : Ext w3 w12 := X3_11.trans e12
          refine (same1 _ w12 _ _ (hL4.ext X9_12) (hL1.ext X3_12)).mono ?_
          rintro e w13 ⟨rfl, e13⟩
          have s13 : w12.heap.size ≤ w13.heap.size := e13.size
          have ba0_13 := e13.blk ba0_12
          obtain ⟨za00, za01, za02, -, -, -⟩ := own3 ba0_13
          have lza0 := lt_of_blk ba0_13
          have ba1_13 := e13.blk ba1_12
          obtain ⟨za10, za11, za12, -, -, -⟩ := own3 ba1_13
          have lza1 := lt_of_blk ba1_13
          have ba2_13 := e13.blk ba2_12
          obtain ⟨za20, za21, za22, -, -, -⟩ := own3 ba2_13
          have lza2 := lt_of_blk ba2_13
          have br8_13 := e13.blk br8_12
          obtain ⟨zr80, zr81, zr82, -, -, -⟩ := own3 br8_13
          have lzr8 := lt_of_blk br8_13
          have br9_13 := e13.blk br9_12
          obtain ⟨zr90, zr91, zr92, -, -, -⟩ := own3 br9_13
          have lzr9 := lt_of_blk br9_13
          go_wp2_with fail
          clear za00 za01 za02 lza0 za10 za11 za12 lza1 za20 za21 za22 lza2 zr80 zr81 zr82 lzr8 zr90 zr91 zr92 lzr9
          have X0_1 : Ext w0 w1 := (Ext.refl w0).trans e1
          have X0_2 : Ext w0 w2 := X0_1.trans e2
          have X0_3 : Ext w0 w3 := X0_2.trans e3
          have X0_4 : Ext w0 w4 := X0_3.trans e4
          have X0_5 : Ext w0 w5 := X0_4.trans e5
          have X0_6 : Ext w0 w6 := X0_5.trans e6
          have X0_7 : Ext w0 w7 := X0_6.trans e7
          have X0_8 : Ext w0 w8 := X0_7.trans e8
          have X0_9 : Ext w0 w9 := X0_8.trans e9
          have X0_10 : Ext w0 w10 := X0_9.trans e10
          have X0_11 : Ext w0 w11 := X0_10.trans e11
          have X0_12 : Ext w0 w12 := X0_11.trans e12
          have X0_13 : Ext w0 w13 := X0_12.trans e13
          go_ret
          exact ⟨rfl, X0_13⟩))

set_option maxRecDepth 100000 in
theorem lifted (os : Os) (started : os.Started) (H : Type) (enc : TypeId × Value → H) :
    ReturnsInHanded {} Try.checked os 12 .any (Rows.fnTermAtSpec.pre6 enc Try.prog Try.f12 Rows.fnTermAtRow.domain false) (Rows.fnTermAtSpec.post enc Try.prog Try.f12 false true false false) := by
  refine law_lift (C := Try.checked) (fn := Try.f12) (tb := 4) own started (by kernel_rfl) Try.func12 (by kernel_rfl) (by kernel_rfl) rfl Try.underlying4 rfl
    (fun ds h => by
      match ds, h with
      | [d1, d2], _ => exact ⟨rfl, rfl, rfl⟩)
    (ChangeSpec.witness6 (enc := enc) (C := Try.checked) false ⟨#[], #[.slice none 0 0, .slice none 0 0], []⟩ 8 (by kernel_rfl) (by kernel_rfl) (by kernel_rfl) (by kernel_rfl)) ?_
  intro W base args ds p hval hA hlt
  rw [Try.params12] at hA hval
  obtain ⟨v0, vs0, d0, ds0, p0, q0, hargs, rfl, rfl, h0, r0⟩ := trodAll_cons hA
  obtain ⟨v1, vs1, d1, ds1, p1, q1, rfl, rfl, rfl, h1, r1⟩ := trodAll_cons r0
  obtain ⟨rfl, rfl, rfl⟩ := trodAll_nil r1
  obtain rfl : args = #[v0, v1] := by cases args; simp_all
  obtain ⟨A0, cap0, bs0, rfl, hl0, hc0, ha0⟩ := open_bytes Try.underlying64 Try.underlying5 (by kernel_rfl) (hval 0 64 v0 rfl rfl) h0
  obtain ⟨A1, cap1, bs1, rfl, hl1, hc1, ha1⟩ := open_bytes Try.underlying64 Try.underlying5 (by kernel_rfl) (hval 1 64 v1 rfl rfl) h1
  exact walk W A0 cap0 bs0 hl0 hc0 ha0.1 A1 cap1 bs1 hl1 hc1 ha1.1

theorem over : Rows.fnTermAtRow.holds Try.pinned (OpenSpec.ofChange Rows.fnTermAtSpec) :=
  OpenClaim.holds_of_wide 12 Try.f12 rfl rfl rfl rfl rfl rfl rfl ⟨rfl, rfl, rfl, rfl, rfl⟩ rfl rfl rfl rfl rfl (by kernel_rfl) Try.func12 (by kernel_rfl)
    (of_decide_eq_true (by kernel_rfl)) (by unfold Func.isWrapper; first | (rw [if_pos (by decide +kernel)]; kernel_rfl) | (rw [if_neg (by decide +kernel)]; exact ⟨rfl, rfl⟩))
    (fun os started H enc _ => lifted os started H enc)

theorem proved : Rows.FnTermAtSaid := over
#print axioms proved
end Go.Proofs.Ytpbmlpngafpoeaa.termAtL

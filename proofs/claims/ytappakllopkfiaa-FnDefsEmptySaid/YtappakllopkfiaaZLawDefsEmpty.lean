/-
  PROVED: the law FnDefsEmpty returns true for every input: without definitions, closed terms are unfolded to themselves, and others cannot be unfolded.
  CONDITIONS: none.
-/
import Derived.Test.YtappakllopkfiaaZAB
import Derived.Test.YtappakllopkfiaaZAX
import Derived.Test.YtappakllopkfiaaZBD
import Derived.Test.YtappakllopkfiaaZBG
import Derived.Deep.RegionHeld3
import Derived.Test.YtappakllopkfiaaRows
namespace Go.Proofs.Ytappakllopkfiaa.defsEmptyL
open Go.RowKit Go.ChangeShapes Go.WideShapes Go.ChangeAt
set_option linter.unusedVariables false

theorem own : ownKnob Try.prog.godebug = none := by kernel_rfl

theorem same1 (c : Tr) (w : World) (v u : Value) (h : Lies w c v) (k : Lies w c u) : Calls Try.prog 34 #[v, u] w fun e w' => e = .returned (.bool true) ∧ Ext w w' := by
  have := sameTerm_any c w c v u h k
  rw [eqTr_self] at this
  exact this
theorem u1 {t x : Tr} {z : Bool} {ks : List Tr} {n : Nat} (h : unfV ks n t = (x, z)) (w : World) (v : Value) (hin : Lies w t v) (A : Option Addr) (cap : Nat) (hK : LiesK w A ks) (hn : ks.length = n * 2) (hl : n ≤ cap) (hc : cap ≤ maxLen) : Calls Try.prog 44 #[.slice A n cap, v] w fun e w' => ∃ u, e = .returned (.tuple #[u, .bool z]) ∧ Lies w' x u ∧ Ext w w' := by
  have := unfoldTerm_any ks n cap w A t v hK hn hl hc hin
  rw [h] at this
  exact this.mono fun e w' ⟨r, h1, h2, h3⟩ => ⟨r, h1, h2.lies, h3⟩
theorem u2 {t x : Tr} {z : Bool} {ks : List Tr} {n : Nat} (h : unfV ks n t = (x, z)) (w : World) (v : Value) (hin : Lies w t v) (A : Option Addr) (cap : Nat) (hK : LiesK w A ks) (hn : ks.length = n * 2) (hl : n ≤ cap) (hc : cap ≤ maxLen) : Calls Try.prog 45 #[.slice A n cap, v] w fun e w' => ∃ u, e = .returned (.tuple #[u, .bool z]) ∧ Lies w' x u ∧ Ext w w' := by
  have := specUnfoldTerm_any ks n cap w A t v hK hn hl hc hin
  rw [h] at this
  exact this.mono fun e w' ⟨r, h1, h2, h3⟩ => ⟨r, h1, h2.lies, h3⟩
theorem unfV_parts {t x : Tr} {ks : List Tr} {n : Nat} (h : unfV ks n t = (x, true)) : dfV ks n = true ∧ valid sigT t = true ∧ mxf t 0 ≤ (n : Int) ∧ unfD ks n t = (x, true) := by
  unfold unfV at h
  split at h
  · rename_i hh
    simp only [Bool.and_eq_true, decide_eq_true_eq] at hh
    exact ⟨hh.1, hh.2.1, hh.2.2, h⟩
  · cases h
theorem mf1 {t : Tr} {m : Int} (h : mxV t = m) (w : World) (v : Value) (hin : Lies w t v) : Calls Try.prog 42 #[v] w fun e w' => e = .returned (.int .i64 m) ∧ Ext w w' := by
  have := maxFreeTop_any t w v hin
  rw [h] at this
  exact this
theorem deFacts (t : Tr) : ∃ (x : Tr) (z : Bool) (m : Int), unfV [] 0 t = (x, z) ∧ mxV t = m ∧ (m == 0) = z ∧ (z = true → x = t) := by
  refine ⟨(unfV [] 0 t).1, (unfV [] 0 t).2, mxV t, rfl, rfl, ?_, ?_⟩
  · unfold unfV mxV
    have hn := mxf_nonneg t 0
    have h0 : dfV [] 0 = true := by decide
    rw [h0]
    cases hv : valid sigT t with
    | false => simp
    | true =>
      by_cases h : mxf t 0 ≤ 0
      · have h1 : mxf t 0 = 0 := by omega
        simp [h1, unfD]
      · have h1 : mxf t 0 ≠ 0 := by omega
        simp [h, h1]
  · intro h
    have h2 : unfV [] 0 t = ((unfV [] 0 t).1, true) := by rw [← h]
    have h3 := (unfV_parts h2).2.2.2
    unfold unfD at h3
    rw [← congrArg Prod.fst h3]
set_option maxRecDepth 100000 in
set_option maxHeartbeats 4000000 in
theorem walk (w0 : World) (A : Option Addr) (cap : Nat) (bs : List Int) (hl : bs.length ≤ cap) (hc : cap ≤ maxLen) (hB : Bytes w0 w0.heap.size A bs) :
    Calls Try.prog 9 #[.slice A bs.length cap] w0 fun e w' => e = .returned (.bool true) ∧ Ext w0 w' := by
  have hcc := hc
  unfold maxLen at hcc
  by_cases hn : 1048576 < (bs.length : Int)
  · have d1 : decide (1048576 < (bs.length : Int)) = true := decide_eq_true hn
    go_enter Try.func9, Try.ntmps9
    go_wp2_with fail
    go_ret
    exact ⟨rfl, Ext.refl _⟩
  have d1 : decide (1048576 < (bs.length : Int)) = false := decide_eq_false hn
  go_enter Try.func9, Try.ntmps9
  go_wp2_with fail
  refine (drawUnfoldTerm_any w0 A cap bs hl hc hB).mono ?_
  rintro e w1 ⟨Al, nl, cl, ks, ⟨k0, m0, ks0⟩, u, rfl, hla, hlb, hlz, hln, hl9, hlc, hct, hFK, hF0, e1⟩
  have s1 : w0.heap.size ≤ w1.heap.size := e1.size
  have hL0 := hF0.lies
  obtain ⟨A0, cap0, rfl, hl0, hc0, hK0⟩ := Lies.mk_iff.1 hL0
  have hKs : LiesK w1 Al ks := InK.mono (fun b hb => hb.2) (fun _ _ => rfl) hFK
  clear hF0 hFK hlc
  obtain ⟨w2, hw2⟩ : ∃ w2, w2 = w1.alloc (.cells #[.int .i64 k0, .int .i64 m0, .slice A0 ks0.length cap0] 44) := ⟨_, rfl⟩
  have e2 : Ext w1 w2 := hw2 ▸ (Ext.refl w1).alloc _
  have b2 := heap_alloc_new w1 (.cells #[.int .i64 k0, .int .i64 m0, .slice A0 ks0.length cap0] 44)
  rw [← hw2] at b2
  have s2 : w1.heap.size < w2.heap.size := lt_of_blk b2
  go_wp2_with fail
  rw [← hw2]
  clear hw2
  obtain ⟨⟨k1, m1, ks1⟩, z, m, hz, hm, hzm, hxt⟩ := deFacts (.mk k0 m0 ks0)
  have HZ := Lib.hid hz
  have HM := Lib.hid hm
  have HZM := Lib.hid hzm
  have HXT := Lib.hid hxt
  clear hz hm hzm hxt hKs
  have X1_2 : Ext w1 w2 := (Ext.refl w1).trans e2
  refine (u1 HZ.out _ _ ((hL0.ext X1_2).ext ((Ext.refl _).alloc _)) _ 0 (.inl rfl) rfl (Nat.le_refl _) (Nat.zero_le _)).mono ?_
  rintro e w3 ⟨u, rfl, hL1, e3x⟩
  have e3 : Ext w2 w3 := Ext.trans ((Ext.refl w2).alloc _) e3x
  clear e3x
  have s3 : w2.heap.size ≤ w3.heap.size := e3.size
  obtain ⟨A1, cap1, rfl, hl1, hc1, hK1⟩ := Lies.mk_iff.1 hL1
  obtain ⟨w4, hw4⟩ : ∃ w4, w4 = w3.alloc (.cells #[.int .i64 k1, .int .i64 m1, .slice A1 ks1.length cap1] 44) := ⟨_, rfl⟩
  have e4 : Ext w3 w4 := hw4 ▸ (Ext.refl w3).alloc _
  have b4 := heap_alloc_new w3 (.cells #[.int .i64 k1, .int .i64 m1, .slice A1 ks1.length cap1] 44)
  rw [← hw4] at b4
  have s4 : w3.heap.size < w4.heap.size := lt_of_blk b4
  have ba0_3 := e3.blk b2
  obtain ⟨za00, za01, za02, -, -, -⟩ := own3 ba0_3
  have lza0 := lt_of_blk ba0_3
  go_wp2_with fail
  rw [← hw4]
  clear hw4
  clear za00 za01 za02 lza0
  have X1_3 : Ext w1 w3 := X1_2.trans e3
  have X1_4 : Ext w1 w4 := X1_3.trans e4
  refine (u2 HZ.out _ _ ((hL0.ext X1_4).ext ((Ext.refl _).alloc _)) _ 0 (.inl rfl) rfl (Nat.le_refl _) (Nat.zero_le _)).mono ?_
  rintro e w5 ⟨u, rfl, hL2, e5x⟩
  have e5 : Ext w4 w5 := Ext.trans ((Ext.refl w4).alloc _) e5x
  clear e5x
  have s5 : w4.heap.size ≤ w5.heap.size := e5.size
  obtain ⟨A2, cap2, rfl, hl2, hc2, hK2⟩ := Lies.mk_iff.1 hL2
  obtain ⟨w6, hw6⟩ : ∃ w6, w6 = w5.alloc (.cells #[.int .i64 k1, .int .i64 m1, .slice A2 ks1.length cap2] 44) := ⟨_, rfl⟩
  have e6 : Ext w5 w6 := hw6 ▸ (Ext.refl w5).alloc _
  have b6 := heap_alloc_new w5 (.cells #[.int .i64 k1, .int .i64 m1, .slice A2 ks1.length cap2] 44)
  rw [← hw6] at b6
  have s6 : w5.heap.size < w6.heap.size := lt_of_blk b6
  cases z with
  | false =>
    have hzm := HZM.out
    have ba0_4 := e4.blk ba0_3
    have ba0_5 := e5.blk ba0_4
    obtain ⟨za00, za01, za02, -, -, -⟩ := own3 ba0_5
    have lza0 := lt_of_blk ba0_5
    have ba1_5 := e5.blk b4
    obtain ⟨za10, za11, za12, -, -, -⟩ := own3 ba1_5
    have lza1 := lt_of_blk ba1_5
    go_wp2_with fail
    rw [← hw6]
    clear hw6
    clear za00 za01 za02 lza0 za10 za11 za12 lza1
    have X3_4 : Ext w3 w4 := (Ext.refl w3).trans e4
    have X3_5 : Ext w3 w5 := X3_4.trans e5
    have X3_6 : Ext w3 w6 := X3_5.trans e6
    have X5_6 : Ext w5 w6 := (Ext.refl w5).trans e6
    refine (same1 _ w6 _ _ (hL1.ext X3_6) (hL2.ext X5_6)).mono ?_
    rintro e w7 ⟨rfl, e7⟩
    have s7 : w6.heap.size ≤ w7.heap.size := e7.size
    have ba0_6 := e6.blk ba0_5
    have ba0_7 := e7.blk ba0_6
    obtain ⟨za00, za01, za02, -, -, -⟩ := own3 ba0_7
    have lza0 := lt_of_blk ba0_7
    have ba1_6 := e6.blk ba1_5
    have ba1_7 := e7.blk ba1_6
    obtain ⟨za10, za11, za12, -, -, -⟩ := own3 ba1_7
    have lza1 := lt_of_blk ba1_7
    have ba2_7 := e7.blk b6
    obtain ⟨za20, za21, za22, -, -, -⟩ := own3 ba2_7
    have lza2 := lt_of_blk ba2_7
    go_wp2_with fail
    clear za00 za01 za02 lza0 za10 za11 za12 lza1 za20 za21 za22 lza2
    have X1_5 : Ext w1 w5 := X1_4.trans e5
    have X1_6 : Ext w1 w6 := X1_5.trans e6
    have X1_7 : Ext w1 w7 := X1_6.trans e7
    refine (mf1 HM.out w7 _ (hL0.ext X1_7)).mono ?_
    rintro e w8 ⟨rfl, e8⟩
    have s8 : w7.heap.size ≤ w8.heap.size := e8.size
    have ba0_8 := e8.blk ba0_7
    obtain ⟨za00, za01, za02, -, -, -⟩ := own3 ba0_8
    have lza0 := lt_of_blk ba0_8
    have ba1_8 := e8.blk ba1_7
    obtain ⟨za10, za11, za12, -, -, -⟩ := own3 ba1_8
    have lza1 := lt_of_blk ba1_8
    have ba2_8 := e8.blk ba2_7
    obtain ⟨za20, za21, za22, -, -, -⟩ := own3 ba2_8
    have lza2 := lt_of_blk ba2_8
    go_wp2_with fail
    clear za00 za01 za02 lza0 za10 za11 za12 lza1 za20 za21 za22 lza2
    have X0_1 : Ext w0 w1 := (Ext.refl w0).trans e1
    have X0_2 : Ext w0 w2 := X0_1.trans e2
    have X0_3 : Ext w0 w3 := X0_2.trans e3
    have X0_4 : Ext w0 w4 := X0_3.trans e4
    have X0_5 : Ext w0 w5 := X0_4.trans e5
    have X0_6 : Ext w0 w6 := X0_5.trans e6
    have X0_7 : Ext w0 w7 := X0_6.trans e7
    have X0_8 : Ext w0 w8 := X0_7.trans e8
    go_ret
    exact ⟨rfl, X0_8⟩
  | true =>
    have hzm := HZM.out
    have ba0_4 := e4.blk ba0_3
    have ba0_5 := e5.blk ba0_4
    obtain ⟨za00, za01, za02, -, -, -⟩ := own3 ba0_5
    have lza0 := lt_of_blk ba0_5
    have ba1_5 := e5.blk b4
    obtain ⟨za10, za11, za12, -, -, -⟩ := own3 ba1_5
    have lza1 := lt_of_blk ba1_5
    go_wp2_with fail
    rw [← hw6]
    clear hw6
    clear za00 za01 za02 lza0 za10 za11 za12 lza1
    have X3_4 : Ext w3 w4 := (Ext.refl w3).trans e4
    have X3_5 : Ext w3 w5 := X3_4.trans e5
    have X3_6 : Ext w3 w6 := X3_5.trans e6
    have X5_6 : Ext w5 w6 := (Ext.refl w5).trans e6
    refine (same1 _ w6 _ _ (hL1.ext X3_6) (hL2.ext X5_6)).mono ?_
    rintro e w7 ⟨rfl, e7⟩
    have s7 : w6.heap.size ≤ w7.heap.size := e7.size
    have ba0_6 := e6.blk ba0_5
    have ba0_7 := e7.blk ba0_6
    obtain ⟨za00, za01, za02, -, -, -⟩ := own3 ba0_7
    have lza0 := lt_of_blk ba0_7
    have ba1_6 := e6.blk ba1_5
    have ba1_7 := e7.blk ba1_6
    obtain ⟨za10, za11, za12, -, -, -⟩ := own3 ba1_7
    have lza1 := lt_of_blk ba1_7
    have ba2_7 := e7.blk b6
    obtain ⟨za20, za21, za22, -, -, -⟩ := own3 ba2_7
    have lza2 := lt_of_blk ba2_7
    go_wp2_with fail
    clear za00 za01 za02 lza0 za10 za11 za12 lza1 za20 za21 za22 lza2
    have X1_5 : Ext w1 w5 := X1_4.trans e5
    have X1_6 : Ext w1 w6 := X1_5.trans e6
    have X1_7 : Ext w1 w7 := X1_6.trans e7
    refine (mf1 HM.out w7 _ (hL0.ext X1_7)).mono ?_
    rintro e w8 ⟨rfl, e8⟩
    have s8 : w7.heap.size ≤ w8.heap.size := e8.size
    have hm0 : m = 0 := by simpa using hzm
    have hxe := HXT.out (by simp)
    simp only [Tr.mk.injEq] at hxe
    obtain ⟨rfl, rfl, rfl⟩ := hxe
    clear HXT HZ
    have ba0_8 := e8.blk ba0_7
    obtain ⟨za00, za01, za02, -, -, -⟩ := own3 ba0_8
    have lza0 := lt_of_blk ba0_8
    have ba1_8 := e8.blk ba1_7
    obtain ⟨za10, za11, za12, -, -, -⟩ := own3 ba1_8
    have lza1 := lt_of_blk ba1_8
    have ba2_8 := e8.blk ba2_7
    obtain ⟨za20, za21, za22, -, -, -⟩ := own3 ba2_8
    have lza2 := lt_of_blk ba2_8
    go_wp2_with fail
    clear za00 za01 za02 lza0 za10 za11 za12 lza1 za20 za21 za22 lza2
    have X3_7 : Ext w3 w7 := X3_6.trans e7
    have X3_8 : Ext w3 w8 := X3_7.trans e8
    have X1_8 : Ext w1 w8 := X1_7.trans e8
    refine (same1 _ w8 _ _ (hL1.ext X3_8) (hL0.ext X1_8)).mono ?_
    rintro e w9 ⟨rfl, e9⟩
    have s9 : w8.heap.size ≤ w9.heap.size := e9.size
    have ba0_9 := e9.blk ba0_8
    obtain ⟨za00, za01, za02, -, -, -⟩ := own3 ba0_9
    have lza0 := lt_of_blk ba0_9
    have ba1_9 := e9.blk ba1_8
    obtain ⟨za10, za11, za12, -, -, -⟩ := own3 ba1_9
    have lza1 := lt_of_blk ba1_9
    have ba2_9 := e9.blk ba2_8
    obtain ⟨za20, za21, za22, -, -, -⟩ := own3 ba2_9
    have lza2 := lt_of_blk ba2_9
    go_wp2_with fail
    clear za00 za01 za02 lza0 za10 za11 za12 lza1 za20 za21 za22 lza2
    have X0_1 : Ext w0 w1 := (Ext.refl w0).trans e1
    have X0_2 : Ext w0 w2 := X0_1.trans e2
    have X0_3 : Ext w0 w3 := X0_2.trans e3
    have X0_4 : Ext w0 w4 := X0_3.trans e4
    have X0_5 : Ext w0 w5 := X0_4.trans e5
    have X0_6 : Ext w0 w6 := X0_5.trans e6
    have X0_7 : Ext w0 w7 := X0_6.trans e7
    have X0_8 : Ext w0 w8 := X0_7.trans e8
    have X0_9 : Ext w0 w9 := X0_8.trans e9
    go_ret
    exact ⟨rfl, X0_9⟩

set_option maxRecDepth 100000 in
theorem lifted (os : Os) (started : os.Started) (H : Type) (enc : TypeId × Value → H) :
    ReturnsInHanded {} Try.checked os 9 .any (Rows.fnDefsEmptySpec.pre6 enc Try.prog Try.f9 Rows.fnDefsEmptyRow.domain false) (Rows.fnDefsEmptySpec.post enc Try.prog Try.f9 false true false false) := by
  refine law_lift (C := Try.checked) (fn := Try.f9) (tb := 4) own started (by kernel_rfl) Try.func9 (by kernel_rfl) (by kernel_rfl) rfl Try.underlying4 rfl
    (fun ds h => by
      match ds, h with
      | [d1], _ => exact ⟨rfl, rfl, rfl⟩)
    (ChangeSpec.witness6 (enc := enc) (C := Try.checked) false ⟨#[], #[.slice none 0 0], []⟩ 8 (by kernel_rfl) (by kernel_rfl) (by kernel_rfl) (by kernel_rfl)) ?_
  intro W base args ds p hval hA hlt
  rw [Try.params9] at hA hval
  obtain ⟨v0, vs0, d0, ds0, p0, q0, hargs, rfl, rfl, h0, r0⟩ := trodAll_cons hA
  obtain ⟨rfl, rfl, rfl⟩ := trodAll_nil r0
  obtain rfl : args = #[v0] := by cases args; simp_all
  obtain ⟨A0, cap0, bs0, rfl, hl0, hc0, ha0⟩ := open_bytes Try.underlying35 Try.underlying5 (by kernel_rfl) (hval 0 35 v0 rfl rfl) h0
  exact walk W A0 cap0 bs0 hl0 hc0 ha0.1

theorem over : Rows.fnDefsEmptyRow.holds Try.pinned (OpenSpec.ofChange Rows.fnDefsEmptySpec) :=
  OpenClaim.holds_of_wide 9 Try.f9 rfl rfl rfl rfl rfl rfl rfl ⟨rfl, rfl, rfl, rfl, rfl⟩ rfl rfl rfl rfl rfl (by kernel_rfl) Try.func9 (by kernel_rfl)
    (of_decide_eq_true (by kernel_rfl)) (by unfold Func.isWrapper; first | (rw [if_pos (by decide +kernel)]; kernel_rfl) | (rw [if_neg (by decide +kernel)]; exact ⟨rfl, rfl⟩))
    (fun os started H enc _ => lifted os started H enc)

theorem proved : Rows.FnDefsEmptySaid := over
#print axioms proved
end Go.Proofs.Ytappakllopkfiaa.defsEmptyL

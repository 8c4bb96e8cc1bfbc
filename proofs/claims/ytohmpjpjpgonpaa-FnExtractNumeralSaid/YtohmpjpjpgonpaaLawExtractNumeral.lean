/-
  PROVED: the law FnExtractNumeral returns true for every input: numerals are values.
  CONDITIONS: none.
-/
import Derived.Test.YtohmpjpjpgonpaaRows
import Derived.Test.YtohmpjpjpgonpaaLift
import Derived.Test.YtohmpjpjpgonpaaNumeral
import Derived.Test.YtohmpjpjpgonpaaSame
import Derived.Deep.RegionHeld3
namespace Go.Proofs.Ytohmpjpjpgonpaa.extractNumeral
open Go.RowKit Go.ChangeShapes Go.WideShapes Go.ChangeAt
set_option linter.unusedVariables false

theorem own : ownKnob Try.prog.godebug = none := by kernel_rfl

set_option maxRecDepth 100000 in
set_option maxHeartbeats 4000000 in
theorem walk (w : World) (A : Option Addr) (cap : Nat) (bs : List Int) (hl : bs.length ≤ cap) (hc : cap ≤ maxLen) (hB : Bytes w w.heap.size A bs) :
    Calls Try.prog 14 #[.slice A bs.length cap] w fun e w' => e = .returned (.bool true) ∧ Ext w w' := by
  have hcc := hc
  unfold maxLen at hcc
  by_cases hn : 1048576 < (bs.length : Int)
  · have d1 : decide (1048576 < (bs.length : Int)) = true := decide_eq_true hn
    go_enter Try.func14, Try.ntmps14
    go_wp2_with fail
    go_ret
    exact ⟨rfl, Ext.refl _⟩
  have d1 : decide (1048576 < (bs.length : Int)) = false := decide_eq_false hn
  go_enter Try.func14, Try.ntmps14
  go_wp2_with fail
  refine (drawNumeral_any w A cap bs hl hc hB).mono ?_
  rintro e w1 ⟨x, rfl, h1⟩
  go_wp2_with fail
  refine (numeralAns_any x w1).mono ?_
  rintro e w2 ⟨u, rfl, hM, h2⟩
  have hL2 := hM.lies
  obtain ⟨a1, a2, a3, a4, a5, rfl⟩ := hM.three
  have hx3 := (Ext.refl w2).alloc (.cells #[.int .i64 a1, .int .i64 a2, .slice a3 a4 a5] 36)
  have hb3 := heap_alloc_new w2 (.cells #[.int .i64 a1, .int .i64 a2, .slice a3 a4 a5] 36)
  go_wp2_with fail
  generalize w2.alloc _ = w3 at hx3 hb3
  refine (specNumeralAns_any x w3).mono ?_
  rintro e w4 ⟨u, rfl, hL4, h4⟩
  obtain ⟨b1, b2, b3, b4, b5, rfl⟩ := hL4.three
  have hs24 : w2.heap.size < w4.heap.size := by have := lt_of_blk hb3; have := h4.size; omega
  obtain ⟨x0, x1, x2, -, -, -⟩ := own3 (h4.blk hb3)
  have h5 := (Ext.refl w4).alloc (.cells #[.int .i64 b1, .int .i64 b2, .slice b3 b4 b5] 36)
  have hx24 := hx3.trans (h4.trans h5)
  have hxx : ∀ z : Bool, (z != z) = false := fun z => by cases z <;> rfl
  have hyy : ∀ z : Bool, (z == z) = true := fun z => by cases z <;> rfl
  have hS := fun W (hW : Ext (w4.alloc (.cells #[.int .i64 b1, .int .i64 b2, .slice b3 b4 b5] 36)) W) => sameTerm_any (numAns x).1 W (numAns x).1 _ _ (hL2.ext (hx24.trans hW)) (hL4.ext (h5.trans hW))
  rw [eqTr_self] at hS
  have HS := Lib.hid hS
  clear hS
  by_cases hg : 0 ≤ x ∧ x ≤ 20
  · obtain ⟨m, rfl⟩ := Int.eq_ofNat_of_zero_le hg.1
    have hm : m ≤ 20 := by omega
    rw [numAns_good hm] at hL2 ⊢
    obtain ⟨f1, f2, f3, f4, f5, f6, f7⟩ := numFacts ⟨m, by omega⟩
    simp only at f1 f2 f3 f4 f5 f6 f7
    have hex : exV (numTr m) = (codNum m, true) := by unfold exV; rw [f1, f2]; rfl
    go_wp2_with fail
    refine (HS.out _ (Ext.refl _)).mono ?_
    rintro e w5 ⟨rfl, q5⟩
    have h25 := hx24.trans q5
    have h35 := (h4.trans h5).trans q5
    obtain ⟨x0, x1, x2, -, -, -⟩ := own3 (h35.blk hb3)
    have HX := Lib.hid (extractTerm_any (numTr m) w5 _ (hL2.ext h25))
    rw [hex] at HX
    clear f1 f2 hex hb3 HS
    go_wp2_with fail
    refine HX.out.mono ?_
    rintro e w6 ⟨u, rfl, hM6, q6⟩
    have hL6 := hM6.lies
    obtain ⟨c1, c2, c3, c4, c5, rfl⟩ := hM6.three'
    have q7 := (Ext.refl w6).alloc (.cells #[.int .i64 c1, .int .i64 c2, .slice c3 c4 c5] 31)
    have hb7 := heap_alloc_new w6 (.cells #[.int .i64 c1, .int .i64 c2, .slice c3 c4 c5] 31)
    clear x0 x1 x2
    go_wp2_with fail
    generalize w6.alloc _ = w7 at q7 hb7
    refine (runValue_any (codNum m) w7 _ 0 (hL6.ext q7) f3 f4 f5 (by omega) (by omega)).mono ?_
    rintro e w8 ⟨u, rfl, hM8, q8⟩
    have hL8 := hM8.lies
    obtain ⟨e1, e2, e3, e4, e5, rfl⟩ := hM8.three'
    have hs68 : w6.heap.size < w8.heap.size := by have := lt_of_blk hb7; have := q8.size; omega
    have q9 := (Ext.refl w8).alloc (.cells #[.int .i64 e1, .int .i64 e2, .slice e3 e4 e5] 31)
    go_wp2_with fail
    generalize w8.alloc _ = w9 at q9
    have HN := Lib.hid (numCode (codNum m) w9 _ (hL8.ext q9))
    rw [f6] at HN
    refine HN.out.mono ?_
    rintro e w10 ⟨rfl, q10⟩
    have q710 := q8.trans (q9.trans q10)
    obtain ⟨x0, x1, x2, -, -, -⟩ := own3 (q710.blk hb7)
    have HT := Lib.hid (countCode_any (codNum m) w10 _ (hL6.ext (q7.trans q710)))
    rw [f7] at HT
    have hfin := h1.trans (h2.trans (h25.trans (q6.trans (q7.trans q710))))
    clear f3 f4 f5 f6 f7
    go_wp2_with fail
    refine HT.out.mono ?_
    rintro e w11 ⟨rfl, q11⟩
    go_wp2_with fail
    go_ret
    exact ⟨rfl, hfin.trans q11⟩
  · rw [numAns_bad hg]
    go_wp2_with fail
    refine (HS.out _ (Ext.refl _)).mono ?_
    rintro e w5 ⟨rfl, q5⟩
    have h35 := (h4.trans h5).trans q5
    have hb5 := q5.blk (heap_alloc_new w4 (.cells #[.int .i64 b1, .int .i64 b2, .slice b3 b4 b5] 36))
    obtain ⟨x0, x1, x2, -, -, -⟩ := own3 (h35.blk hb3)
    obtain ⟨y0, y1, y2, -, -, -⟩ := own3 hb5
    clear hb3 hb5
    go_wp2_with fail
    refine (HS.out _ q5).mono ?_
    rintro e w6 ⟨rfl, q6⟩
    go_wp2_with fail
    go_ret
    exact ⟨rfl, h1.trans (h2.trans ((hx24.trans q5).trans q6))⟩

set_option maxRecDepth 100000 in
theorem lifted (os : Os) (started : os.Started) (H : Type) (enc : TypeId × Value → H) :
    ReturnsInHanded {} Try.checked os 14 .any (Rows.fnExtractNumeralSpec.pre6 enc Try.prog Try.f14 Rows.fnExtractNumeralRow.domain false) (Rows.fnExtractNumeralSpec.post enc Try.prog Try.f14 false true false false) := by
  refine law_lift (C := Try.checked) (fn := Try.f14) (tb := 4) own started (by kernel_rfl) Try.func14 (by kernel_rfl) (by kernel_rfl) rfl Try.underlying4 rfl
    (fun ds h => by
      match ds, h with
      | [d1], _ => exact ⟨rfl, rfl, rfl⟩)
    (ChangeSpec.witness6 (enc := enc) (C := Try.checked) false ⟨#[], #[.slice none 0 0], []⟩ 8 (by kernel_rfl) (by kernel_rfl) (by kernel_rfl) (by kernel_rfl)) ?_
  intro W base args ds p hval hA hlt
  rw [Try.params14] at hA hval
  obtain ⟨v0, vs0, d0, ds0, p0, q0, hargs, rfl, rfl, h0, r0⟩ := trodAll_cons hA
  obtain ⟨rfl, rfl, rfl⟩ := trodAll_nil r0
  obtain rfl : args = #[v0] := by cases args; simp_all
  obtain ⟨A0, cap0, bs0, rfl, hl0, hc0, ha0⟩ := open_bytes Try.underlying51 Try.underlying5 (by kernel_rfl) (hval 0 51 v0 rfl rfl) h0
  exact walk W A0 cap0 bs0 hl0 hc0 ha0.1

theorem over : Rows.fnExtractNumeralRow.holds Try.pinned (OpenSpec.ofChange Rows.fnExtractNumeralSpec) :=
  OpenClaim.holds_of_wide 14 Try.f14 rfl rfl rfl rfl rfl rfl rfl ⟨rfl, rfl, rfl, rfl, rfl⟩ rfl rfl rfl rfl rfl (by kernel_rfl) Try.func14 (by kernel_rfl)
    (of_decide_eq_true (by kernel_rfl)) (by unfold Func.isWrapper; first | (rw [if_pos (by decide +kernel)]; kernel_rfl) | (rw [if_neg (by decide +kernel)]; exact ⟨rfl, rfl⟩))
    (fun os started H enc _ => lifted os started H enc)

theorem proved : Rows.FnExtractNumeralSaid := over
#print axioms proved
end Go.Proofs.Ytohmpjpjpgonpaa.extractNumeral

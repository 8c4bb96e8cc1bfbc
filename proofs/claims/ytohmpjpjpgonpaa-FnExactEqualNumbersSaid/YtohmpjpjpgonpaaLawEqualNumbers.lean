/-
  PROVED: the law FnExactEqualNumbers returns true for every input: the program's EqualNumbers returns what the reference's returns.
  CONDITIONS: none.
-/
import Derived.Test.YtohmpjpjpgonpaaRows
import Derived.Test.YtohmpjpjpgonpaaLift
import Derived.Test.YtohmpjpjpgonpaaEqNum
import Derived.Test.YtohmpjpjpgonpaaEq
import Derived.Test.YtohmpjpjpgonpaaMark
import Derived.Deep.RegionHeld3
namespace Go.Proofs.Ytohmpjpjpgonpaa.exEqualNumbers
open Go.RowKit Go.ChangeShapes Go.WideShapes Go.ChangeAt
set_option linter.unusedVariables false

theorem own : ownKnob Try.prog.godebug = none := by kernel_rfl

set_option maxRecDepth 100000 in
set_option maxHeartbeats 1000000 in
theorem walk (w : World) (a : Int) (wa : (Lit.int .i64 a).wf = true) (b : Int) (wb : (Lit.int .i64 b).wf = true) :
    Calls Try.prog 5 #[.int .i64 a, .int .i64 b] w fun e w' => e = .returned (.bool true) ∧ Ext w w' := by
  have hcnt := cnt_eqNum a b
  obtain ⟨R, hR⟩ : ∃ R, R = eqNum a b := ⟨_, rfl⟩
  rw [← hR] at hcnt
  have HI := fun w => equalNumbers_any a b w
  have HS := fun w => specEqualNumbers_any a b w
  rw [← hR] at HI HS
  have HI := Lib.hid HI
  have HS := Lib.hid HS
  clear hR
  obtain ⟨⟨kk, nn, ks⟩, b⟩ := R
  simp only at hcnt
  go_enter Try.func5, Try.ntmps5
  go_wp2_with fail
  refine (HS.out _).mono ?_
  rintro e w1 ⟨u, rfl, hL, h1⟩
  obtain ⟨A1, c1, rfl, hl1, hc1, hK1⟩ := Lies.mk_iff.1 hL
  go_wp2_with fail
  have h2 := (Ext.refl w1).alloc (.cells #[.int .i64 kk, .int .i64 nn, .slice A1 ks.length c1] 36)
  have hb1 := heap_alloc_new w1 (.cells #[.int .i64 kk, .int .i64 nn, .slice A1 ks.length c1] 36)
  generalize w1.alloc _ = w2 at h2 hb1
  replace hL := hL.ext h2
  refine (HI.out _).mono ?_
  rintro e w3 ⟨u, rfl, hM, h3⟩
  obtain ⟨A3, c3, rfl, hl3, hc3, L, hO, hF⟩ := Made.mk_iff.1 hM
  have hs12 : w1.heap.size < w2.heap.size := lt_of_blk hb1
  have hs13 : w1.heap.size < w3.heap.size := by have := h3.size; omega
  obtain ⟨x0, x1, x2, -, -, -⟩ := own3 (h3.blk hb1)
  have h4 := (Ext.refl w3).alloc (.cells #[.int .i64 kk, .int .i64 nn, .slice A3 ks.length c3] 36)
  have hb3 := heap_alloc_new w3 (.cells #[.int .i64 kk, .int .i64 nn, .slice A3 ks.length c3] 36)
  clear hM
  go_wp2_with fail
  generalize w3.alloc _ = w4 at h4 hb3
  have hs34 : w3.heap.size < w4.heap.size := lt_of_blk hb3
  have hO4 : OwnK w4 36 A3 ks L := hO.mono fun b hb => h4.heap b (hF.2 b hb).2
  refine (eqTerm_any (.mk kk nn ks) w4 (.mk kk nn ks) _ _ (Lies.mk hl3 hc3 (MadeK.lies ⟨L, hO4, hF.mono (Nat.le_refl _) h4.size⟩)) (hL.ext (h3.trans h4))).mono ?_
  rw [eqTr_self]
  rintro e w5 ⟨rfl, h5⟩
  have hO5 : OwnK w5 36 A3 ks L := hO4.mono fun b hb => h5.heap b (Nat.lt_of_lt_of_le (hF.2 b hb).2 h4.size)
  have hb5 := h5.blk hb3
  obtain ⟨y0, y1, y2, -, -, -⟩ := own3 hb5
  have hbb : (b != b) = false := by cases b <;> rfl
  clear hO hO4 x0 x1 x2
  go_wp2_with fail
  refine (markTerm_any w5 kk nn A3 c3 ks L 1 hO5 hF.1 hl3 hc3 (by omega) (by simp only [cnt] at hcnt; omega)).mono ?_
  rintro e w6 ⟨rfl, hO6, h6⟩
  have h26 : Ext w2 w6 := h6.ext ((h3.trans h4).trans h5) (fun b hb => (hF.2 b hb).1)
  have hs56 := h6.size
  have hs45 := h5.size
  have hK6 : LiesK w6 A3 (mkS ks 1) := MadeK.lies ⟨L, hO6, hF.mono (Nat.le_refl _) (by omega)⟩
  have hb6 : w6.heap[w3.heap.size]? = some (.cells #[.int .i64 kk, .int .i64 nn, .slice A3 ks.length c3] 36 (0, 0)) := (h6.block _ (by omega) (fun hm => by have := (hF.2 _ hm).2; omega)).trans hb5
  have hml := mkS_len ks 1
  have hmc := cnt_mkS ks 1
  have hmd := hdS_mk ks 1 (by omega)
  have hcn : cnts ks ≤ 30 := by simp only [cnt] at hcnt; omega
  clear hO5 hO6 h6 y0 y1 y2
  obtain ⟨y0, y1, y2, -, -, -⟩ := own3 hb6
  go_wp2_with fail
  have hH := fun w' (hw : Ext w6 w') => heldTerm_any w' kk nn A3 c3 (mkS ks 1) 1 (hK6.ext hw) (by omega) hc3 (by omega) (by omega)
  rw [hml, hmd] at hH
  have HH := Lib.hid hH
  clear hH hmd
  refine (HH.out w6 (Ext.refl _)).mono ?_
  rintro e w7 ⟨rfl, h7⟩
  have hm0 : decide (1 + 2 * (cnts ks : Int) < 0) = false := decide_eq_false (by omega)
  have hmm : (1 + 2 * (cnts ks : Int) != 1 + 2 * (cnts ks : Int)) = false := by simp
  go_wp2_with fail
  refine (HI.out _).mono ?_
  rintro e w8 ⟨u, rfl, hM, h8⟩
  have hL8 := hM.lies
  obtain ⟨A8, c8, rfl, hl8, hc8, -⟩ := Made.mk_iff.1 hM
  have h68 := h7.trans h8
  have hs68 := h68.size
  have hs16 : w1.heap.size < w6.heap.size := by omega
  have hbt := (h26.trans h68).blk hb1
  have hb8 := h68.blk hb6
  obtain ⟨x0, x1, x2, -, -, -⟩ := own3 hbt
  have h9 := (Ext.refl w8).alloc (.cells #[.int .i64 kk, .int .i64 nn, .slice A8 ks.length c8] 36)
  have hs18 : w1.heap.size < w8.heap.size := by omega
  clear hM y0 y1 y2
  go_wp2_with fail
  generalize w8.alloc _ = w9 at h9
  refine (eqTerm_any (.mk kk nn ks) w9 (.mk kk nn ks) _ _ (hL8.ext h9) (hL.ext ((h26.trans h68).trans h9))).mono ?_
  rw [eqTr_self]
  rintro e w10 ⟨rfl, h10⟩
  have h610 : Ext w6 w10 := h68.trans (h9.trans h10)
  have h110 : Ext w w10 := (h1.trans h2).trans (h26.trans h610)
  obtain ⟨y0, y1, y2, -, -, -⟩ := own3 (h610.blk hb6)
  clear x0 x1 x2
  go_wp2_with fail
  refine (HH.out w10 h610).mono ?_
  rintro e w11 ⟨rfl, h11⟩
  go_wp2_with fail
  go_ret
  exact ⟨rfl, h110.trans h11⟩

set_option maxRecDepth 100000 in
theorem lifted (os : Os) (started : os.Started) (H : Type) (enc : TypeId × Value → H) :
    ReturnsInHanded {} Try.checked os 5 .any (Rows.fnExactEqualNumbersSpec.pre6 enc Try.prog Try.f5 Rows.fnExactEqualNumbersRow.domain false) (Rows.fnExactEqualNumbersSpec.post enc Try.prog Try.f5 false true false false) := by
  refine law_lift (C := Try.checked) (fn := Try.f5) (tb := 4) own started (by kernel_rfl) Try.func5 (by kernel_rfl) (by kernel_rfl) rfl Try.underlying4 rfl
    (fun ds h => by
      match ds, h with
      | [d1, d2], _ => exact ⟨rfl, rfl, rfl⟩)
    (ChangeSpec.witness6 (enc := enc) (C := Try.checked) false ⟨#[], #[.int .i64 0, .int .i64 0], []⟩ 8 (by kernel_rfl) (by kernel_rfl) (by kernel_rfl) (by kernel_rfl)) ?_
  intro W base args ds p hval hA hlt
  rw [Try.params5] at hA hval
  obtain ⟨v0, vs0, d0, ds0, p0, q0, hargs, rfl, rfl, h0, r0⟩ := trodAll_cons hA
  obtain ⟨v1, vs1, d1, ds1, p1, q1, rfl, rfl, rfl, h1, r1⟩ := trodAll_cons r0
  obtain ⟨rfl, rfl, rfl⟩ := trodAll_nil r1
  obtain rfl : args = #[v0, v1] := by cases args; simp_all
  obtain ⟨a0, rfl, rfl, rfl, w0⟩ := open_int Try.underlying3 (hval 0 3 v0 rfl rfl) h0
  obtain ⟨a1, rfl, rfl, rfl, w1⟩ := open_int Try.underlying3 (hval 1 3 v1 rfl rfl) h1
  exact walk W a0 w0 a1 w1

theorem over : Rows.fnExactEqualNumbersRow.holds Try.pinned (OpenSpec.ofChange Rows.fnExactEqualNumbersSpec) :=
  OpenClaim.holds_of_wide 5 Try.f5 rfl rfl rfl rfl rfl rfl rfl ⟨rfl, rfl, rfl, rfl, rfl⟩ rfl rfl rfl rfl rfl (by kernel_rfl) Try.func5 (by kernel_rfl)
    (of_decide_eq_true (by kernel_rfl)) (by unfold Func.isWrapper; first | (rw [if_pos (by decide +kernel)]; kernel_rfl) | (rw [if_neg (by decide +kernel)]; exact ⟨rfl, rfl⟩))
    (fun os started H enc _ => lifted os started H enc)

theorem proved : Rows.FnExactEqualNumbersSaid := over
#print axioms proved
end Go.Proofs.Ytohmpjpjpgonpaa.exEqualNumbers

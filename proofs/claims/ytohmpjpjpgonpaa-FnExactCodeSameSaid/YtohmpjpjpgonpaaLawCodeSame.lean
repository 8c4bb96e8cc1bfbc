/-
  PROVED: the law FnExactCodeSame returns true for every input: the program's CodeSame returns what the reference's returns.
  CONDITIONS: none.
-/
import Derived.Test.YtohmpjpjpgonpaaRows
import Derived.Test.YtohmpjpjpgonpaaLift
import Derived.Test.YtohmpjpjpgonpaaSz
import Derived.Test.YtohmpjpjpgonpaaTo
import Derived.Test.YtohmpjpjpgonpaaEq
import Derived.Test.YtohmpjpjpgonpaaSame
import Derived.Deep.RegionHeld3
namespace Go.Proofs.Ytohmpjpjpgonpaa.codeSame
open Go.RowKit Go.ChangeShapes Go.WideShapes Go.ChangeAt
set_option linter.unusedVariables false

theorem own : ownKnob Try.prog.godebug = none := by kernel_rfl
theorem tyCode : TreeTy Try.prog 26 24 3 (fld "Kind" 3 0 0) (fld "N" 3 1 8) (fld "Kids" 24 2 16) := ⟨Try.underlying26, Try.underlying24, Try.underlying3, rfl, rfl, rfl, rfl, rfl, rfl, by kernel_rfl, by kernel_rfl, by kernel_rfl⟩

set_option maxRecDepth 100000 in
set_option maxHeartbeats 1000000 in
theorem walk (w : World) (a b : Tr) (va vb : Value) (ha : Lies w a va) (hb : Lies w b vb) :
    Calls Try.prog 4 #[va, vb] w fun e w' => e = .returned (.bool true) ∧ Ext w w' := by
  obtain ⟨k, n, ks⟩ := a
  obtain ⟨A, cap, rfl, hl, hc, hK⟩ := Lies.mk_iff.1 ha
  obtain ⟨k', n', ks'⟩ := b
  obtain ⟨A', cap', rfl, hl', hc', hK'⟩ := Lies.mk_iff.1 hb
  go_enter Try.func4, Try.ntmps4
  go_wp2_with fail
  have hx := ((Ext.refl w).alloc (.cells #[.int .i64 k, .int .i64 n, .slice A ks.length cap] 26)).alloc (.cells #[.int .i64 k', .int .i64 n', .slice A' ks'.length cap'] 26)
  have hbk := blk2 (Ext.refl ((w.alloc (.cells #[.int .i64 k, .int .i64 n, .slice A ks.length cap] 26)).alloc (.cells #[.int .i64 k', .int .i64 n', .slice A' ks'.length cap'] 26)))
  generalize (w.alloc _).alloc _ = w1 at hx hbk
  obtain ⟨b1, b2, hs⟩ := hbk
  refine (szCode_any _ w1 _ _ 1048576 (fun _ h => h) (ha.ext hx) (by omega) (by omega)).mono ?_
  rintro e w2 ⟨rfl, h2⟩
  have h2' : Ext w1 w2 := h2
  obtain ⟨x0, x1, x2, -, -, -⟩ := own3 (h2'.blk b1)
  obtain ⟨y0, y1, y2, -, -, -⟩ := own3 (h2'.blk b2)
  have hle := szT_le (.mk k n ks) 1048576 (by omega)
  have hcn := szT_le_cnt (t := .mk k n ks) (left := 1048576) (by omega)
  generalize szT (.mk k n ks) 1048576 = q at hle hcn
  by_cases hq : q < 0
  · have hd : decide (q < 0) = true := by simpa using hq
    go_wp2_with fail
    go_ret
    exact ⟨rfl, hx.trans h2'⟩
  have hd : decide (q < 0) = false := by simpa using hq
  replace hcn := hcn hq
  go_wp2_with fail
  refine (szCode_any _ w2 _ _ q (fun _ h => h) (hb.ext (hx.trans h2')) (by omega) (by omega)).mono ?_
  rintro e w3 ⟨rfl, h3⟩
  have h3' : Ext w2 w3 := h3
  replace x0 := h3'.cell x0
  replace x1 := h3'.cell x1
  replace x2 := h3'.cell x2
  replace y0 := h3'.cell y0
  replace y1 := h3'.cell y1
  replace y2 := h3'.cell y2
  have hle' := szT_le (.mk k' n' ks') q (by omega)
  have hcn' := szT_le_cnt (t := .mk k' n' ks') (left := q) (by omega)
  generalize szT (.mk k' n' ks') q = r at hle' hcn'
  by_cases hr : r < 0
  · have hd' : decide (r < 0) = true := by simpa using hr
    go_wp2_with fail
    go_ret
    exact ⟨rfl, (hx.trans h2').trans h3'⟩
  have hd' : decide (r < 0) = false := by simpa using hr
  replace hcn' := hcn' hr
  simp only [Tr.kids] at hcn hcn'
  have hx3 : Ext w w3 := (hx.trans h2').trans h3'
  have hcells : ∀ w', Ext w3 w' → w'.cell? ⟨w.heap.size, 0, none⟩ = some (.int .i64 k) ∧ w'.cell? ⟨w.heap.size, 1, none⟩ = some (.int .i64 n) ∧ w'.cell? ⟨w.heap.size, 2, none⟩ = some (.slice A ks.length cap) ∧ w'.cell? ⟨w.heap.size + 1, 0, none⟩ = some (.int .i64 k') ∧ w'.cell? ⟨w.heap.size + 1, 1, none⟩ = some (.int .i64 n') ∧ w'.cell? ⟨w.heap.size + 1, 2, none⟩ = some (.slice A' ks'.length cap') :=
    fun w' h => ⟨h.cell x0, h.cell x1, h.cell x2, h.cell y0, h.cell y1, h.cell y2⟩
  have HC := Lib.hid hcells
  clear b1 b2 h2 h3 hcells
  go_wp2_with fail
  go_region_held3 (fun w' => w'.cell? ⟨w.heap.size, 0, none⟩ = some (.int .i64 k) ∧ w'.cell? ⟨w.heap.size, 1, none⟩ = some (.int .i64 n) ∧ w'.cell? ⟨w.heap.size, 2, none⟩ = some (.slice A ks.length cap) ∧ w'.cell? ⟨w.heap.size + 1, 0, none⟩ = some (.int .i64 k') ∧ w'.cell? ⟨w.heap.size + 1, 1, none⟩ = some (.int .i64 n') ∧ w'.cell? ⟨w.heap.size + 1, 2, none⟩ = some (.slice A' ks'.length cap'))
    (first | exact HC.out _ ((Ext.preDrew h4).trans (h5.trans h6)) | exact HC.out _ ((Ext.preDrew h4).trans h5) | exact HC.out _ (Ext.preDrew h4) | exact HC.out _ (Ext.refl _).drew)
    (first | (go_at_call_of 19 A; refine (toCode_any (.mk k n ks) _ _ (ha.ext hx3.drew) (by simp only [cnt]; omega)).mono ?_; rintro e w4 ⟨u, rfl, hM4, h4⟩; obtain ⟨B, c4, rfl, hl4, hc4, hK4⟩ := Made.mk_iff.1 hM4) | (go_at_call_of 19 A'; refine (toCode_any (.mk k' n' ks') _ _ (hb.ext (hx3.drew.trans h4)) (by simp only [cnt]; omega)).mono ?_; rintro e w5 ⟨u, rfl, hM5, h5⟩; obtain ⟨B', c5, rfl, hl5, hc5, hK5⟩ := Made.mk_iff.1 hM5) | (go_at_call 18; refine (specSameCode_any (.mk k n ks) _ (.mk k' n' ks') _ _ (hM4.lies.ext h5) hM5.lies).mono ?_; rintro e w6 ⟨rfl, h6⟩))
  have hx6 := (hx3.trans (Ext.preDrew h4)).trans (h5.trans h6)
  have hcells6 := fun w' h => HC.out w' (((Ext.preDrew h4).trans (h5.trans h6)).trans h)
  clear hM4 hM5 hK4 hK5 h4 h5 h6 x0 x1 x2 y0 y1 y2
  obtain ⟨x0, x1, x2, y0, y1, y2⟩ := hcells6 w6 (Ext.refl _)
  go_wp2_with fail
  refine (toCode_any (.mk k n ks) w6 _ (ha.ext hx6) (by simp only [cnt]; omega)).mono ?_
  rintro e w7 ⟨u, rfl, hM7, h7⟩
  obtain ⟨B7, c7, rfl, hl7, hc7, -⟩ := Made.mk_iff.1 hM7
  obtain ⟨x0, x1, x2, y0, y1, y2⟩ := hcells6 w7 h7
  have hb7 : w.heap.size + 1 < w7.heap.size := by have := World.block_lt_of_cell? _ _ y0; exact this
  go_wp2_with fail
  refine (toCode_any (.mk k' n' ks') _ _ (hb.ext (hx6.trans (h7.trans ((Ext.refl w7).alloc _)))) (by simp only [cnt]; omega)).mono ?_
  rintro e w8 ⟨u, rfl, hM8, h8⟩
  obtain ⟨B8, c8, rfl, hl8, hc8, -⟩ := Made.mk_iff.1 hM8
  obtain ⟨x0, x1, x2, y0, y1, y2⟩ := hcells6 w8 (h7.trans h8.pre)
  have hb8 : w7.heap.size < w8.heap.size := h8.size_alloc
  obtain ⟨z0, z1, z2, -, -, -⟩ := own3 h8.newBlk
  have hL7 := hM7.lies.ext h8.pre
  have hL8 := hM8.lies
  have h78 := h7.trans h8.pre
  have hx8 := hx6.trans h78
  have h8a := (Ext.refl w8).alloc (.cells #[.int .i64 k', .int .i64 n', .slice B8 ks'.length c8] 31)
  have hbk8 := blk1 (Ext.refl (w8.alloc (.cells #[.int .i64 k', .int .i64 n', .slice B8 ks'.length c8] 31)))
  clear hM7 hM8 h7 h8
  go_wp2_with fail
  generalize w8.alloc _ = w9 at h8a hbk8
  obtain ⟨a0, a1, a2, -, -, -⟩ := own3 hbk8.1
  refine (sameCode_any (.mk k n ks) _ (.mk k' n' ks') _ _ (hL7.ext h8a) (hL8.ext h8a)).mono ?_
  rintro e wa ⟨rfl, ha9⟩
  have hLx := hL7.ext (h8a.trans ha9)
  have hLy := hL8.ext (h8a.trans ha9)
  have hxa := hx8.trans (h8a.trans ha9)
  have hcellsa : ∀ w', Ext wa w' → w'.cell? ⟨w7.heap.size, 0, none⟩ = some (.int .i64 k) ∧ w'.cell? ⟨w7.heap.size, 1, none⟩ = some (.int .i64 n) ∧ w'.cell? ⟨w7.heap.size, 2, none⟩ = some (.slice B7 ks.length c7) ∧ w'.cell? ⟨w8.heap.size, 0, none⟩ = some (.int .i64 k') ∧ w'.cell? ⟨w8.heap.size, 1, none⟩ = some (.int .i64 n') ∧ w'.cell? ⟨w8.heap.size, 2, none⟩ = some (.slice B8 ks'.length c8) ∧
      w'.cell? ⟨w.heap.size, 0, none⟩ = some (.int .i64 k) ∧ w'.cell? ⟨w.heap.size, 1, none⟩ = some (.int .i64 n) ∧ w'.cell? ⟨w.heap.size, 2, none⟩ = some (.slice A ks.length cap) ∧ w'.cell? ⟨w.heap.size + 1, 0, none⟩ = some (.int .i64 k') ∧ w'.cell? ⟨w.heap.size + 1, 1, none⟩ = some (.int .i64 n') ∧ w'.cell? ⟨w.heap.size + 1, 2, none⟩ = some (.slice A' ks'.length cap') := fun w' h =>
    have he := (h8a.trans ha9).trans h
    have hf := ha9.trans h
    ⟨he.cell z0, he.cell z1, he.cell z2, hf.cell a0, hf.cell a1, hf.cell a2, he.cell x0, he.cell x1, he.cell x2, he.cell y0, he.cell y1, he.cell y2⟩
  have HD := Lib.hid hcellsa
  clear hcellsa x0 x1 x2 y0 y1 y2 z0 z1 z2 a0 a1 a2 hcells6 hbk8 hb7 hb8 hL7 hL8
  have hbb : ∀ x : Bool, (x != x) = false := fun x => by cases x <;> rfl
  have hbq := hbb (eqTr (.mk k n ks) (.mk k' n' ks'))
  clear hbb
  generalize eqTr (.mk k n ks) (.mk k' n' ks') = ee at hbq
  go_wp2_with fail
  go_region_held3 (fun w' => w'.cell? ⟨w7.heap.size, 0, none⟩ = some (.int .i64 k) ∧ w'.cell? ⟨w7.heap.size, 1, none⟩ = some (.int .i64 n) ∧ w'.cell? ⟨w7.heap.size, 2, none⟩ = some (.slice B7 ks.length c7) ∧ w'.cell? ⟨w8.heap.size, 0, none⟩ = some (.int .i64 k') ∧ w'.cell? ⟨w8.heap.size, 1, none⟩ = some (.int .i64 n') ∧ w'.cell? ⟨w8.heap.size, 2, none⟩ = some (.slice B8 ks'.length c8) ∧
      w'.cell? ⟨w.heap.size, 0, none⟩ = some (.int .i64 k) ∧ w'.cell? ⟨w.heap.size, 1, none⟩ = some (.int .i64 n) ∧ w'.cell? ⟨w.heap.size, 2, none⟩ = some (.slice A ks.length cap) ∧ w'.cell? ⟨w.heap.size + 1, 0, none⟩ = some (.int .i64 k') ∧ w'.cell? ⟨w.heap.size + 1, 1, none⟩ = some (.int .i64 n') ∧ w'.cell? ⟨w.heap.size + 1, 2, none⟩ = some (.slice A' ks'.length cap'))
    (first | exact HD.out _ ((Ext.preDrew hb1).trans hb2) | exact HD.out _ (Ext.preDrew hb1) | exact HD.out _ (Ext.refl _).drew)
    (first | (go_at_call 19; refine (toCode_any (.mk k n ks) _ _ (ha.ext hxa.drew) (by simp only [cnt]; omega)).mono ?_; rintro e wb ⟨u, rfl, hMb, hb1⟩; obtain ⟨Bb, cb, rfl, hlb, hcb, hKb⟩ := Made.mk_iff.1 hMb) | (go_at_call 21; refine (eqCode_any (.mk k n ks) _ (.mk k n ks) _ _ (hLx.ext (Ext.preDrew hb1)) hMb.lies).mono ?_; rw [eqTr_self]; rintro e wc ⟨rfl, hb2⟩))
  have hab := (Ext.preDrew hb1).trans hb2
  clear hMb hb1 hb2 hKb
  go_wp2_with fail
  go_region_held3 (fun w' => w'.cell? ⟨w7.heap.size, 0, none⟩ = some (.int .i64 k) ∧ w'.cell? ⟨w7.heap.size, 1, none⟩ = some (.int .i64 n) ∧ w'.cell? ⟨w7.heap.size, 2, none⟩ = some (.slice B7 ks.length c7) ∧ w'.cell? ⟨w8.heap.size, 0, none⟩ = some (.int .i64 k') ∧ w'.cell? ⟨w8.heap.size, 1, none⟩ = some (.int .i64 n') ∧ w'.cell? ⟨w8.heap.size, 2, none⟩ = some (.slice B8 ks'.length c8) ∧
      w'.cell? ⟨w.heap.size, 0, none⟩ = some (.int .i64 k) ∧ w'.cell? ⟨w.heap.size, 1, none⟩ = some (.int .i64 n) ∧ w'.cell? ⟨w.heap.size, 2, none⟩ = some (.slice A ks.length cap) ∧ w'.cell? ⟨w.heap.size + 1, 0, none⟩ = some (.int .i64 k') ∧ w'.cell? ⟨w.heap.size + 1, 1, none⟩ = some (.int .i64 n') ∧ w'.cell? ⟨w.heap.size + 1, 2, none⟩ = some (.slice A' ks'.length cap'))
    (first | exact HD.out _ (hab.trans ((Ext.preDrew hb1).trans hb2)) | exact HD.out _ (hab.trans (Ext.preDrew hb1)) | exact HD.out _ hab.drew)
    (first | (go_at_call 19; refine (toCode_any (.mk k' n' ks') _ _ (hb.ext (hxa.trans hab).drew) (by simp only [cnt]; omega)).mono ?_; rintro e wb ⟨u, rfl, hMb, hb1⟩; obtain ⟨Bb, cb, rfl, hlb, hcb, hKb⟩ := Made.mk_iff.1 hMb) | (go_at_call 21; refine (eqCode_any (.mk k' n' ks') _ (.mk k' n' ks') _ _ (hLy.ext (hab.trans (Ext.preDrew hb1))) hMb.lies).mono ?_; rw [eqTr_self]; rintro e wc ⟨rfl, hb2⟩))
  have hfin := hxa.trans (hab.trans ((Ext.preDrew hb1).trans hb2))
  clear hMb hb1 hb2 hKb
  go_wp2_with fail
  go_ret
  exact ⟨rfl, hfin⟩

set_option maxRecDepth 100000 in
theorem lifted (os : Os) (started : os.Started) (H : Type) (enc : TypeId × Value → H) :
    ReturnsInHanded {} Try.checked os 4 .any (Rows.fnExactCodeSameSpec.pre6 enc Try.prog Try.f4 Rows.fnExactCodeSameRow.domain false) (Rows.fnExactCodeSameSpec.post enc Try.prog Try.f4 false true false false) := by
  refine law_lift (C := Try.checked) (fn := Try.f4) (tb := 4) own started (by kernel_rfl) Try.func4 (by kernel_rfl) (by kernel_rfl) rfl Try.underlying4 rfl
    (fun ds h => by
      match ds, h with
      | [d1, d2], _ => exact ⟨rfl, rfl, rfl⟩)
    (ChangeSpec.witness6 (enc := enc) (C := Try.checked) false ⟨#[], #[.agg #[.int .i64 0, .int .i64 0, .slice none 0 0], .agg #[.int .i64 0, .int .i64 0, .slice none 0 0]], []⟩ 8 (by kernel_rfl) (by kernel_rfl) (by kernel_rfl) (by kernel_rfl)) ?_
  intro W base args ds p hval hA hlt
  rw [Try.params4] at hA hval
  obtain ⟨v0, vs0, d0, ds0, p0, q0, hargs, rfl, rfl, h0, r0⟩ := trodAll_cons hA
  obtain ⟨v1, vs1, d1, ds1, p1, q1, rfl, rfl, rfl, h1, r1⟩ := trodAll_cons r0
  obtain ⟨rfl, rfl, rfl⟩ := trodAll_nil r1
  obtain rfl : args = #[v0, v1] := by cases args; simp_all
  obtain ⟨a, ha⟩ := open_tree tyCode (hval 0 26 v0 rfl rfl) h0
  obtain ⟨b, hb⟩ := open_tree tyCode (hval 1 26 v1 rfl rfl) h1
  exact walk W a b v0 v1 ha hb

theorem over : Rows.fnExactCodeSameRow.holds Try.pinned (OpenSpec.ofChange Rows.fnExactCodeSameSpec) :=
  OpenClaim.holds_of_wide 4 Try.f4 rfl rfl rfl rfl rfl rfl rfl ⟨rfl, rfl, rfl, rfl, rfl⟩ rfl rfl rfl rfl rfl (by kernel_rfl) Try.func4 (by kernel_rfl)
    (of_decide_eq_true (by kernel_rfl)) (by unfold Func.isWrapper; first | (rw [if_pos (by decide +kernel)]; kernel_rfl) | (rw [if_neg (by decide +kernel)]; exact ⟨rfl, rfl⟩))
    (fun os started H enc _ => lifted os started H enc)

theorem proved : Rows.FnExactCodeSameSaid := over
#print axioms proved
end Go.Proofs.Ytohmpjpjpgonpaa.codeSame

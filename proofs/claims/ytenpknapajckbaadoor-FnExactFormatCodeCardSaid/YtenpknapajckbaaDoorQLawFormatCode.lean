/-
  PROVED: the law FnExactFormatCode returns true for every input: the program's FormatCode returns what the reference's returns.
  CONDITIONS: none.
-/
import Derived.Test.YtenpknapajckbaaDoorQAB
import Derived.Test.YtenpknapajckbaaDoorQAD
import Derived.Test.YtenpknapajckbaaDoorQAE
import Derived.Test.YtenpknapajckbaaDoorQAF
import Derived.Test.YtenpknapajckbaaDoorQAI
import Derived.Test.YtenpknapajckbaaDoorQAQ
import Derived.Test.YtenpknapajckbaaDoorQAR
import Derived.Test.YtenpknapajckbaaDoorQAS
import Derived.Deep.RegionHeld3
import Derived.LaidMore
import Derived.Lay
import Derived.ProofKit
import Derived.SevenTiedAt
import Derived.Test.YtenpknapajckbaaDoorCards
import Derived.Test.YtenpknapajckbaaDoorRows
import Derived.Test.YtenpknapajckbaaDoorTie
namespace Go.Proofs.YtenpknapajckbaaDoor.exFormatCode
open Go.RowKit Go.ChangeShapes Go.WideShapes Go.ChangeAt
set_option linter.unusedVariables false

theorem own : ownKnob Tryd.prog.godebug = none := by kernel_rfl
theorem tyCode : TreeTy Tryd.prog 24 22 3 (fld "Kind" 3 0 0) (fld "N" 3 1 8) (fld "Kids" 22 2 16) := ⟨Tryd.underlying24, Tryd.underlying22, Tryd.underlying3, rfl, rfl, rfl, rfl, rfl, rfl, by kernel_rfl, by kernel_rfl, by kernel_rfl⟩

theorem envOf {W : World} {X : Prop} (h : X) (hsh : W.ShapedOpen Tryd.prog) : EnvM W := envM_of hsh
set_option maxRecDepth 100000 in
set_option maxHeartbeats 4000000 in
theorem walk (w : World) (hE0 : EnvM w) (t : Tr) (v : Value) (ha : Lies w t v) :
    Calls Tryd.prog 3 #[v] w fun e w' => e = .returned (.bool true) ∧ Ext w w' := by
  obtain ⟨k, n, ks⟩ := t
  obtain ⟨A, cap, rfl, hl, hc, hK⟩ := Lies.mk_iff.1 ha
  go_enter Tryd.func3, Tryd.ntmps3
  go_wp2_with fail
  have hx := (Ext.refl w).alloc (.cells #[.int .i64 k, .int .i64 n, .slice A ks.length cap] 24)
  have hb := (blk1 (Ext.refl (w.alloc (.cells #[.int .i64 k, .int .i64 n, .slice A ks.length cap] 24)))).1
  generalize w.alloc _ = w1 at hx hb
  have hA := At.of_blk3 hb
  have hT := (At.lies ha).step hx
  clear hb ha
  refine (szCode_any _ w1 _ _ 1048576 (fun _ h => h) hT.now (by omega) (by omega)).mono ?_
  rintro e w2 ⟨rfl, h2⟩
  have h2' : Ext w1 w2 := h2
  have hle := szT_le (.mk k n ks) 1048576 (by omega)
  have hcn := szT_le_cnt (t := .mk k n ks) (left := 1048576) (by omega)
  generalize szT (.mk k n ks) 1048576 = q at hle hcn
  by_cases hq : q < 0
  · have hd : decide (q < 0) = true := decide_eq_true hq
    go_wp2_with fail
    go_ret
    exact ⟨rfl, hx.trans h2'⟩
  have hd : decide (q < 0) = false := decide_eq_false hq
  replace hcn := hcn hq
  simp only [Tr.kids] at hcn
  replace hA := hA.step h2'
  replace hT := hT.step h2'
  replace hx := hx.trans h2'
  clear h2 h2' hd
  obtain ⟨x0, x1, x2⟩ := hA.now
  go_wp2_with fail
  refine (toCode_any (.mk k n ks) w2 _ hT.now (by simp only [cnt]; omega)).mono ?_
  rintro e w3 ⟨u, rfl, hM, h3⟩
  have hL := hM.lies
  obtain ⟨B3, c3, rfl, -, -, -⟩ := Made.mk_iff.1 hM
  replace hA := hA.step h3
  replace hT := hT.step h3
  replace hx := hx.trans h3
  clear h3 hM x0 x1 x2
  obtain ⟨x0, x1, x2⟩ := hA.now
  go_wp2_with fail
  refine (formatCode_any (.mk k n ks) w3 _ hL).mono ?_
  rintro e w4 ⟨rfl, h4⟩
  replace hA := hA.step h4
  replace hT := hT.step h4
  replace hx := hx.trans h4
  clear h4 hL x0 x1 x2
  obtain ⟨x0, x1, x2⟩ := hA.now
  go_wp2_with fail
  refine (toCode_any (.mk k n ks) w4 _ hT.now (by simp only [cnt]; omega)).mono ?_
  rintro e w5 ⟨u, rfl, hM, h5⟩
  have hL := hM.lies
  obtain ⟨B5, c5, rfl, -, -, -⟩ := Made.mk_iff.1 hM
  have h6 := (Ext.refl w5).alloc (.cells #[.int .i64 k, .int .i64 n, .slice B5 ks.length c5] 29)
  have hb := (blk1 (Ext.refl (w5.alloc (.cells #[.int .i64 k, .int .i64 n, .slice B5 ks.length c5] 29)))).1
  replace hA := hA.step (h5.trans h6)
  replace hT := hT.step (h5.trans h6)
  replace hx := hx.trans (h5.trans h6)
  have hG := (At.lies hL).step h6
  clear h5 hM hL x0 x1 x2
  go_wp2_with fail
  generalize w5.alloc _ = w6 at hA hT hx hG hb h6
  have hB := At.of_blk3 hb
  clear hb h6
  refine (formatCodeI_any (.mk k n ks) w6 (hE0.ext hx) _ hG.now).mono ?_
  rintro e w7 ⟨rfl, h7⟩
  replace hA := hA.step h7
  replace hT := hT.step h7
  replace hx := hx.trans h7
  replace hG := hG.step h7
  replace hB := hB.step h7
  clear h7
  generalize ofL (fmtPV (.mk k n ks)) = r0
  go_wp2_with fail
  go_region_held3 (fun w' => (w'.cell? ⟨w5.heap.size, 0, none⟩ = some (.int .i64 k) ∧ w'.cell? ⟨w5.heap.size, 1, none⟩ = some (.int .i64 n) ∧ w'.cell? ⟨w5.heap.size, 2, none⟩ = some (.slice B5 ks.length c5)) ∧ w'.cell? ⟨w.heap.size, 0, none⟩ = some (.int .i64 k) ∧ w'.cell? ⟨w.heap.size, 1, none⟩ = some (.int .i64 n) ∧ w'.cell? ⟨w.heap.size, 2, none⟩ = some (.slice A ks.length cap))
    (first | exact ((hB.and hA).step ((Ext.preDrew h8).trans h9)).now | exact ((hB.and hA).step (Ext.preDrew h8)).now | exact ((hB.and hA).step (Ext.refl _).drew).now)
    (first | (go_at_call 8; refine (toCode_any (.mk k n ks) _ _ (hT.step (Ext.refl _).drew).now (by simp only [cnt]; omega)).mono ?_; rintro e w8 ⟨u, rfl, hM, h8⟩; obtain ⟨B8, c8, rfl, -, -, -⟩ := Made.mk_iff.1 hM) | (go_at_call 10; refine (eqCode_any (.mk k n ks) _ (.mk k n ks) _ _ (hG.step (Ext.preDrew h8)).now hM.lies).mono ?_; rw [eqTr_self]; rintro e w9 ⟨rfl, h9⟩))
  have hfin := hx.trans ((Ext.preDrew h8).trans h9)
  clear hM h8 h9
  go_wp2_with fail
  go_ret
  exact ⟨rfl, hfin⟩


set_option maxRecDepth 100000 in
theorem lifted (os : Os) (started : os.Started) (H : Type) (enc : TypeId × Value → H) :
    ReturnsInHanded {} Tryd.checked os 3 .any (fun w args => (Rows.fnExactFormatCodeSpec.pre enc Tryd.prog Tryd.f3 [] false w args ∧ laidMetH Tryd.prog Rows.fnExactFormatCodeRow.laid w) ∧ sizedMet enc Tryd.prog Tryd.f3 (OpenSpec.ofChange Rows.fnExactFormatCodeSpec) false w args) (Rows.fnExactFormatCodeSpec.post enc Tryd.prog Tryd.f3 false true false false) := by
  refine law_liftD (C := Tryd.checked) (fn := Tryd.f3) (tb := 4) (X := fun w _ => laidMetH Tryd.prog Rows.fnExactFormatCodeRow.laid w) (fun _ _ _ hh h => h.of_heap hh) own started (by kernel_rfl) Tryd.func3 (by kernel_rfl) (by kernel_rfl) rfl Tryd.underlying4 rfl
    (fun ds h => by
      match ds, h with
      | [d1], _ => exact ⟨rfl, rfl, rfl⟩)
    (ChangeSpec.witness_shaped (enc := enc) (C := Tryd.checked) (os := os) (X := fun w _ => laidMetH Tryd.prog Rows.fnExactFormatCodeRow.laid w) false (World.laidAll Tryd.prog os Rows.fnExactFormatCodeRow.laid) #[.agg #[.int .i64 0, .int .i64 0, .slice none 0 0]] 8 (World.laidAll_os _ _ _)
      (World.shaped_of_ZipB (by kernel_rfl) (by kernel_rfl)) (by kernel_rfl) (by kernel_rfl) (by kernel_rfl)
      (by rw [MakeChecks.laidMetH_plain _ _ _ (by kernel_rfl)]; exact laidMet_laidAll _ (by kernel_rfl) (by kernel_rfl))) ?_
  intro W base args ds p hval hA hlt hXW hsh
  rw [Tryd.params3] at hA hval
  obtain ⟨v0, vs0, d0, ds0, p0, q0, hargs, rfl, rfl, h0, r0⟩ := trodAll_cons hA
  obtain ⟨rfl, rfl, rfl⟩ := trodAll_nil r0
  obtain rfl : args = #[v0] := by cases args; simp_all
  obtain ⟨a0, ha0⟩ := open_tree tyCode (hval 0 24 v0 rfl rfl) h0
  exact walk W (envOf hXW hsh) a0 v0 ha0

theorem over : Rows.fnExactFormatCodeRow.holds Tryd.pinned (OpenSpec.ofChange Rows.fnExactFormatCodeSpec) :=
  OpenClaim.holds_of_wide 3 Tryd.f3 rfl rfl rfl rfl rfl rfl rfl ⟨rfl, rfl, rfl, rfl, rfl⟩ rfl rfl rfl rfl rfl (by kernel_rfl) Tryd.func3 (by kernel_rfl)
    (of_decide_eq_true (by kernel_rfl)) (by unfold Func.isWrapper; first | (rw [if_pos (by decide +kernel)]; kernel_rfl) | (rw [if_neg (by decide +kernel)]; exact ⟨rfl, rfl⟩))
    (fun os started H enc _ => lifted os started H enc)
/-- The tied card. -/
theorem proved : Rows.FnExactFormatCodeCardSaid :=
  Claim7.holds_tied_plain_at .later [] Rows.fnExactFormatCodeCard.laidKinds true Rows.fnExactFormatCodeCard.stood.harness false over (fun _ h => by cases h) (by kernel_rfl) (fun _ h => by cases h) fnExactFormatCode_row_tie rfl ⟨rfl, rfl⟩ (by kernel_rfl) rfl
    (fun f fn hf hfn => by
      obtain rfl : f = 3 := Option.some.inj ((show Tryd.prog.funcNamed "loop.example/depkernel/laws.FnExactFormatCode" = some 3 by kernel_rfl).symm.trans hf) |>.symm
      obtain rfl : fn = Tryd.f3 := (Option.some.inj (Tryd.func3.symm.trans hfn)).symm
      exact ⟨by kernel_rfl, fun j t ht => by
        rw [Tryd.params3] at ht
        have hm : t ∈ [24] := by simpa using Array.mem_of_getElem? ht
        have hall : ([24].all fun u => !Tryd.prog.wantsStandIn u) = true := by kernel_rfl
        exact (show Tryd.prog.wantsStandIn t = false by simpa using List.all_eq_true.1 hall t hm)⟩)
    (by kernel_rfl)
#print axioms proved
end Go.Proofs.YtenpknapajckbaaDoor.exFormatCode

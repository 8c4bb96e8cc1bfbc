/-
  PROVED: the law FnExactFormatDefs returns true for every input: the program's FormatDefs returns what the reference's returns.
  CONDITIONS: none.
-/
import Derived.Test.YtenpknapajckbaaDoorFAB
import Derived.Test.YtenpknapajckbaaDoorFAN
import Derived.Test.YtenpknapajckbaaDoorFAO
import Derived.Test.YtenpknapajckbaaDoorFBA
import Derived.Test.YtenpknapajckbaaDoorFBB
import Derived.Deep.RegionHeld3
import Derived.LaidMore
import Derived.Lay
import Derived.ProofKit
import Derived.SevenTiedAt
import Derived.Test.YtenpknapajckbaaDoorCards
import Derived.Test.YtenpknapajckbaaDoorRows
import Derived.Test.YtenpknapajckbaaDoorTie
namespace Go.Proofs.YtenpknapajckbaaDoor.exFormatDefs
open Go.RowKit Go.ChangeShapes Go.WideShapes Go.ChangeAt
set_option linter.unusedVariables false

theorem own : ownKnob Tryd.prog.godebug = none := by kernel_rfl
theorem tyTerm : TreeTy Tryd.prog 51 49 3 (fld "Kind" 3 0 0) (fld "N" 3 1 8) (fld "Kids" 49 2 16) := ⟨Tryd.underlying51, Tryd.underlying49, Tryd.underlying3, rfl, rfl, rfl, rfl, rfl, rfl, by kernel_rfl, by kernel_rfl, by kernel_rfl⟩
theorem tyDef : DefTy Tryd.prog 53 33 51 (fld "Type" 51 0 0) (fld "Body" 51 3 40) := ⟨Tryd.underlying53, Tryd.underlying33, rfl, rfl, rfl, rfl, by kernel_rfl⟩

theorem envOf {W : World} {X : Prop} (h : X) (hsh : W.ShapedOpen Tryd.prog) : EnvM W := envM_of hsh
set_option maxRecDepth 100000 in
set_option maxHeartbeats 4000000 in
theorem walk (w0 : World) (hE0 : EnvM w0) (A0 : Option Addr) (n0 cap0 : Nat) (ks0 : List Tr) (hn0 : ks0.length = n0 * 2) (hl0 : n0 ≤ cap0) (hc0 : cap0 ≤ maxLen) (ha0 : LiesK w0 A0 ks0) :
    Calls Tryd.prog 4 #[.slice A0 n0 cap0] w0 fun e w' => e = .returned (.bool true) ∧ Ext w0 w' := by
  have hcc0 := hc0
  unfold maxLen at hcc0
  go_enter Tryd.func4, Tryd.ntmps4
  go_wp2_with fail
  refine (szDefS_any ks0 n0 cap0 w0 A0 1048576 (ha0.ext (Ext.refl w0)) hn0 hl0 hc0 (by omega) (by omega)).mono ?_
  rintro e w1 ⟨rfl, e1⟩
  have s1 : w0.heap.size ≤ w1.heap.size := e1.size
  have hz0 := szD_le ks0 n0 1048576 (by omega)
  have hf0 := fun h => szD_fit (left := 1048576) (by omega) hn0 h
  generalize szD ks0 n0 1048576 = q0 at hz0 hf0
  by_cases hq0 : q0 < 0
  · have hd : decide (q0 < 0) = true := decide_eq_true hq0
    go_wp2_with fail
    have X0_1 : Ext w0 w1 := (Ext.refl w0).trans e1
    go_ret
    exact ⟨rfl, X0_1⟩
  have hd0 : decide (q0 < 0) = false := decide_eq_false hq0
  obtain ⟨f0a, f0b, f0c, f0d⟩ := hf0 hq0
  have hcn0 : ∀ t ∈ ks0, cnt t ≤ 1048577 := fun t ht => by have := f0b t ht; omega
  have HCN0 := Lib.hid hcn0
  clear hf0 f0b hcn0
  obtain ⟨S0, hS0⟩ : ∃ b, b = ofL (fmtDV ks0 n0) := ⟨_, rfl⟩
  have HS := fun W B c h1 h2 h3 => specFormatDefs_any ks0 n0 c W B h1 hn0 h2 h3
  have HI := fun W (hw : EnvM W) B c h1 h2 h3 => formatDefs_any ks0 n0 c W hw B h1 hn0 h2 h3
  rw [← hS0] at HS HI
  have HS := Lib.hid HS
  have HI := Lib.hid HI
  clear hS0
  -- the reference's answer
  go_wp2_with fail
  have X0_1 : Ext w0 w1 := (Ext.refl w0).trans e1
  refine (toDefS_any ks0 n0 cap0 w1 A0 (ha0.ext X0_1) hn0 hl0 hc0 HCN0.out (by omega)).mono ?_
  rintro e w2 ⟨Bs0, rfl, hMs0, e2⟩
  have s2 : w1.heap.size ≤ w2.heap.size := e2.size
  go_wp2_with fail
  refine (HS.out w2 _ _ (hMs0.lies.ext (Ext.refl w2)) (Nat.le_refl _) (by unfold maxLen; omega)).mono ?_
  rintro e w3 ⟨rfl, e3⟩
  have s3 : w2.heap.size ≤ w3.heap.size := e3.size
  go_wp2_with fail
  have X0_2 : Ext w0 w2 := X0_1.trans e2
  have X0_3 : Ext w0 w3 := X0_2.trans e3
  refine (toDefS_any ks0 n0 cap0 w3 A0 (ha0.ext X0_3) hn0 hl0 hc0 HCN0.out (by omega)).mono ?_
  rintro e w4 ⟨Bp0, rfl, hMp0, e4⟩
  have s4 : w3.heap.size ≤ w4.heap.size := e4.size
  obtain ⟨Lp0, hOp0, hFp0⟩ := hMp0
  go_wp2_with fail
  -- the program's answer
  have X0_4 : Ext w0 w4 := X0_3.trans e4
  refine (HI.out w4 (hE0.ext X0_4) _ _ (MadeD.lies ⟨Lp0, hOp0, hFp0.mono (Nat.le_refl _) (by omega)⟩) (Nat.le_refl _) (by unfold maxLen; omega)).mono ?_
  rintro e w5 ⟨rfl, e5⟩
  have s5 : w4.heap.size ≤ w5.heap.size := e5.size
  have hbb0 : True := trivial
  go_wp2_with fail
  -- the arguments are as they were
  have X0_5 : Ext w0 w5 := X0_4.trans e5
  refine (toDefS_any ks0 n0 cap0 w5 A0 (ha0.ext X0_5) hn0 hl0 hc0 HCN0.out (by omega)).mono ?_
  rintro e w6 ⟨Bc0, rfl, hMc0, e6⟩
  have s6 : w5.heap.size ≤ w6.heap.size := e6.size
  go_wp2_with fail
  have op0_5 := hOp0.mono (fun x hx => e5.heap x (by have := (hFp0.2 x hx).2; omega))
  have op0_6 := op0_5.mono (fun x hx => e6.heap x (by have := (hFp0.2 x hx).2; omega))
  refine (eqDefS_any ks0 ks0 n0 n0 w6 _ _ _ _ (MadeD.lies ⟨Lp0, op0_6, hFp0.mono (Nat.le_refl _) (by omega)⟩) hn0 (Nat.le_refl _) (by unfold maxLen; omega) (hMc0.lies.ext (Ext.refl w6)) hn0 (Nat.le_refl _) (by unfold maxLen; omega)).mono ?_
  rw [eqTs_self]
  rintro e w7 ⟨rfl, e7⟩
  have s7 : w6.heap.size ≤ w7.heap.size := e7.size
  go_wp2_with fail
  have X0_6 : Ext w0 w6 := X0_5.trans e6
  have X0_7 : Ext w0 w7 := X0_6.trans e7
  go_ret
  exact ⟨rfl, X0_7⟩


set_option maxRecDepth 100000 in
theorem lifted (os : Os) (started : os.Started) (H : Type) (enc : TypeId × Value → H) :
    ReturnsInHanded {} Tryd.checked os 4 .any (fun w args => (Rows.fnExactFormatDefsSpec.pre enc Tryd.prog Tryd.f4 [] false w args ∧ laidMetH Tryd.prog Rows.fnExactFormatDefsRow.laid w) ∧ sizedMet enc Tryd.prog Tryd.f4 (OpenSpec.ofChange Rows.fnExactFormatDefsSpec) false w args) (Rows.fnExactFormatDefsSpec.post enc Tryd.prog Tryd.f4 false true false false) := by
  refine law_liftD (C := Tryd.checked) (fn := Tryd.f4) (tb := 4) (X := fun w _ => laidMetH Tryd.prog Rows.fnExactFormatDefsRow.laid w) (fun _ _ _ hh h => h.of_heap hh) own started (by kernel_rfl) Tryd.func4 (by kernel_rfl) (by kernel_rfl) rfl Tryd.underlying4 rfl
    (fun ds h => by
      match ds, h with
      | [d1], _ => exact ⟨rfl, rfl, rfl⟩)
    (ChangeSpec.witness_shaped (enc := enc) (C := Tryd.checked) (os := os) (X := fun w _ => laidMetH Tryd.prog Rows.fnExactFormatDefsRow.laid w) false (World.laidAll Tryd.prog os Rows.fnExactFormatDefsRow.laid) #[.slice none 0 0] 8 (World.laidAll_os _ _ _)
      (World.shaped_of_ZipB (by kernel_rfl) (by kernel_rfl)) (by kernel_rfl) (by kernel_rfl) (by kernel_rfl)
      (by rw [MakeChecks.laidMetH_plain _ _ _ (by kernel_rfl)]; exact laidMet_laidAll _ (by kernel_rfl) (by kernel_rfl))) ?_
  intro W base args ds p hval hA hlt hXW hsh
  rw [Tryd.params4] at hA hval
  obtain ⟨v0, vs0, d0, ds0, p0, q0, hargs, rfl, rfl, h0, r0⟩ := trodAll_cons hA
  obtain ⟨rfl, rfl, rfl⟩ := trodAll_nil r0
  obtain rfl : args = #[v0] := by cases args; simp_all
  obtain ⟨A0, n0, cap0, ks0, rfl, hn0, hl0, hc0, ha0⟩ := open_defs tyDef tyTerm (hval 0 33 v0 rfl rfl) h0
  exact walk W (envOf hXW hsh) A0 n0 cap0 ks0 hn0 hl0 hc0 ha0

theorem over : Rows.fnExactFormatDefsRow.holds Tryd.pinned (OpenSpec.ofChange Rows.fnExactFormatDefsSpec) :=
  OpenClaim.holds_of_wide 4 Tryd.f4 rfl rfl rfl rfl rfl rfl rfl ⟨rfl, rfl, rfl, rfl, rfl⟩ rfl rfl rfl rfl rfl (by kernel_rfl) Tryd.func4 (by kernel_rfl)
    (of_decide_eq_true (by kernel_rfl)) (by unfold Func.isWrapper; first | (rw [if_pos (by decide +kernel)]; kernel_rfl) | (rw [if_neg (by decide +kernel)]; exact ⟨rfl, rfl⟩))
    (fun os started H enc _ => lifted os started H enc)
/-- The tied card. -/
theorem proved : Rows.FnExactFormatDefsCardSaid :=
  Claim7.holds_tied_plain_at .later [] Rows.fnExactFormatDefsCard.laidKinds true Rows.fnExactFormatDefsCard.stood.harness false over (fun _ h => by cases h) (by kernel_rfl) (fun _ h => by cases h) fnExactFormatDefs_row_tie rfl ⟨rfl, rfl⟩ (by kernel_rfl) rfl
    (fun f fn hf hfn => by
      obtain rfl : f = 4 := Option.some.inj ((show Tryd.prog.funcNamed "loop.example/depkernel/laws.FnExactFormatDefs" = some 4 by kernel_rfl).symm.trans hf) |>.symm
      obtain rfl : fn = Tryd.f4 := (Option.some.inj (Tryd.func4.symm.trans hfn)).symm
      exact ⟨by kernel_rfl, fun j t ht => by
        rw [Tryd.params4] at ht
        have hm : t ∈ [33] := by simpa using Array.mem_of_getElem? ht
        have hall : ([33].all fun u => !Tryd.prog.wantsStandIn u) = true := by kernel_rfl
        exact (show Tryd.prog.wantsStandIn t = false by simpa using List.all_eq_true.1 hall t hm)⟩)
    (by kernel_rfl)
#print axioms proved
end Go.Proofs.YtenpknapajckbaaDoor.exFormatDefs

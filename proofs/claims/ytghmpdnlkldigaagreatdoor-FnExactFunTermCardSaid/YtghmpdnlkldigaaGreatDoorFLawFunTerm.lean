/-
  PROVED: the law FnExactFunTerm returns true for every input: the program's FunTerm returns what the reference's returns.
  CONDITIONS: none.
-/
import Derived.Test.YtghmpdnlkldigaaGreatDoorFAB
import Derived.Test.YtghmpdnlkldigaaGreatDoorFBC
import Derived.Test.YtghmpdnlkldigaaGreatDoorFBD
import Derived.Test.YtghmpdnlkldigaaGreatDoorFBL
import Derived.Test.YtghmpdnlkldigaaGreatDoorFBM
import Derived.Deep.RegionHeld3
import Derived.LaidMore
import Derived.Lay
import Derived.ProofKit
import Derived.SevenTiedAt
import Derived.Test.YtghmpdnlkldigaaGreatDoorCards
import Derived.Test.YtghmpdnlkldigaaGreatDoorRows
import Derived.Test.YtghmpdnlkldigaaGreatDoorTie
namespace Go.Proofs.YtghmpdnlkldigaaGreatDoor.exFunTerm
open Go.RowKit Go.ChangeShapes Go.WideShapes Go.ChangeAt
set_option linter.unusedVariables false

theorem own : ownKnob Tryz.prog.godebug = none := by kernel_rfl

theorem envOf {W : World} (h : laidMetH Tryz.prog Rows.fnExactFunTermRow.laid W) (hsh : W.ShapedOpen Tryz.prog) : EnvR W := by
  rw [MakeChecks.laidMetH_plain _ _ _ (by kernel_rfl)] at h
  exact envR_of h hsh
set_option maxRecDepth 100000 in
set_option maxHeartbeats 4000000 in
theorem walk (w0 : World) (hE0 : EnvR w0) (k : Int) (wf : (Lit.int .i64 k).wf = true) :
    Calls Tryz.prog 5 #[.int .i64 k] w0 fun e w' => e = .returned (.bool true) ∧ Ext w0 w' := by
  have HS := Lib.hid (fun W => specFunTerm_any k W)
  have HI := Lib.hid (fun W (hx : Ext w0 W) => funTerm_any k W (hE0.ext hx))
  have hcnt : cnt ((fnV k).getD dflt0) ≤ 400 := by
    cases hp : fnV k with
    | none => simp [dflt0, cnt, cnts]
    | some t => exact (valid_parts (prsV_valid hp).1).2
  obtain ⟨P, hP⟩ : ∃ P, fnV k = P := ⟨_, rfl⟩
  rw [hP] at HS HI hcnt
  obtain ⟨bP, hbP⟩ : ∃ b, P.isSome = b := ⟨_, rfl⟩
  rw [hbP] at HS HI
  obtain ⟨T, hT⟩ : ∃ t, P.getD dflt0 = t := ⟨_, rfl⟩
  rw [hT] at HS HI hcnt
  clear hP hbP hT
  obtain ⟨kk, nn, rs⟩ := T
  simp only [cnt] at hcnt
  have hbb : (bP != bP) = false := by simp
  go_enter Tryz.func5, Tryz.ntmps5
  go_wp2_with fail
  refine (HS.out w0).mono ?_
  rintro e w1 ⟨u, rfl, hF, e1⟩
  have hL1 := hF.lies
  obtain ⟨A1, c1, rfl, hl1, hc1, hK1⟩ := Lies.mk_iff.1 hL1
  clear hF
  have en1 := (Ext.refl w1).alloc (.cells #[.int .i64 kk, .int .i64 nn, .slice A1 rs.length c1] 36)
  have b1 := heap_alloc_new w1 (.cells #[.int .i64 kk, .int .i64 nn, .slice A1 rs.length c1] 36)
  go_wp2_with fail
  obtain ⟨w2, hw2⟩ : ∃ w2, w2 = w1.alloc (.cells #[.int .i64 kk, .int .i64 nn, .slice A1 rs.length c1] 36) := ⟨_, rfl⟩
  rw [← hw2] at b1 en1 ⊢
  clear hw2
  have s2 : w1.heap.size < w2.heap.size := lt_of_blk b1
  have X2 := e1.trans en1
  refine (HI.out w2 X2).mono ?_
  rintro e w3 ⟨u, rfl, hM, e3⟩
  obtain ⟨A3, c3, rfl, hl3, hc3, L3, hO3, hF3⟩ := Made.mk_iff.1 hM
  have hL3 := hM.lies
  clear hM
  have s3 := e3.size
  have en3 := (Ext.refl w3).alloc (.cells #[.int .i64 kk, .int .i64 nn, .slice A3 rs.length c3] 36)
  have b3 := heap_alloc_new w3 (.cells #[.int .i64 kk, .int .i64 nn, .slice A3 rs.length c3] 36)
  obtain ⟨y0, y1, y2, -, -, -⟩ := own3 ((e3.trans en3).blk b1)
  obtain ⟨z0, z1, z2, -, -, -⟩ := own3 b3
  have hLa := hL3.ext en3
  have hLb := hL1.ext (en1.trans (e3.trans en3))
  go_wp2_with fail
  refine (eqTerm_any (.mk kk nn rs) _ (.mk kk nn rs) _ _ hLa hLb).mono ?_
  rw [eqTr_self]
  rintro e w5 ⟨rfl, e5⟩
  have e35 := en3.trans e5
  have hO5 : OwnK w5 36 A3 rs L3 := hO3.mono (fun b hb => e35.heap b (hF3.2 b hb).2)
  have b35 := e5.blk b3
  have s5 := lt_of_blk b35
  clear y0 y1 y2 z0 z1 z2 hLa hLb
  obtain ⟨z0, z1, z2, -, -, -⟩ := own3 b35
  go_wp2_with fail
  refine (markTerm_any w5 kk nn A3 c3 rs L3 1 hO5 hF3.1 hl3 hc3 (by omega) (by omega)).mono ?_
  rintro e w6 ⟨rfl, hO6, o6⟩
  have s6 := o6.size
  have Y6 : Ext w2 w6 := o6.ext (e3.trans e35) (fun b hb => (hF3.2 b hb).1)
  have hK6 : LiesK w6 A3 (mkS rs 1) := MadeK.lies ⟨L3, hO6, hF3.mono (Nat.le_refl _) (by omega)⟩
  have b36 := (o6.block _ s5 (fun hm => by have := (hF3.2 _ hm).2; omega)).trans b35
  have hml := mkS_len rs 1
  have hmc := cnt_mkS rs 1
  have hmd := hdS_mk rs 1 (by omega)
  have hH := fun w' (hw : Ext w6 w') => heldTerm_any w' kk nn A3 c3 (mkS rs 1) 1 (hK6.ext hw) (by omega) hc3 (by omega) (by omega)
  rw [hml, hmd] at hH
  have HH := Lib.hid hH
  have hm0 : decide (1 + 2 * (cnts rs : Int) < 0) = false := decide_eq_false (by omega)
  have hmm : (1 + 2 * (cnts rs : Int) != 1 + 2 * (cnts rs : Int)) = false := by simp
  clear hH hmd z0 z1 z2 hO5 hO6
  obtain ⟨z0, z1, z2, -, -, -⟩ := own3 b36
  go_wp2_with fail
  refine (HH.out w6 (Ext.refl _)).mono ?_
  rintro e w7 ⟨rfl, e7⟩
  have Y7 := Y6.trans e7
  clear z0 z1 z2
  go_wp2_with fail
  refine (HI.out w7 (X2.trans Y7)).mono ?_
  rintro e w8 ⟨u, rfl, hM, e8⟩
  obtain ⟨A8, c8, rfl, hl8, hc8, -⟩ := Made.mk_iff.1 hM
  have hL8 := hM.lies
  have en8 := (Ext.refl w8).alloc (.cells #[.int .i64 kk, .int .i64 nn, .slice A8 rs.length c8] 36)
  have b8 := heap_alloc_new w8 (.cells #[.int .i64 kk, .int .i64 nn, .slice A8 rs.length c8] 36)
  have Y8 := Y7.trans (e8.trans en8)
  obtain ⟨y0, y1, y2, -, -, -⟩ := own3 (Y8.blk b1)
  obtain ⟨z0, z1, z2, -, -, -⟩ := own3 b8
  have hLa := hL8.ext en8
  have hLb := hL1.ext (en1.trans Y8)
  have e68 := e7.trans (e8.trans en8)
  clear hM
  go_wp2_with fail
  refine (eqTerm_any (.mk kk nn rs) _ (.mk kk nn rs) _ _ hLa hLb).mono ?_
  rw [eqTr_self]
  rintro e w9 ⟨rfl, e9⟩
  have e69 := e68.trans e9
  clear y0 y1 y2 z0 z1 z2 hLa hLb
  obtain ⟨z0, z1, z2, -, -, -⟩ := own3 (e69.blk b36)
  go_wp2_with fail
  refine (HH.out w9 e69).mono ?_
  rintro e w10 ⟨rfl, e10⟩
  clear z0 z1 z2
  go_wp2_with fail
  go_ret
  exact ⟨rfl, X2.trans (Y6.trans (e69.trans e10))⟩

set_option maxRecDepth 100000 in
theorem lifted (os : Os) (started : os.Started) (H : Type) (enc : TypeId × Value → H) :
    ReturnsInHanded {} Tryz.checked os 5 .any (fun w args => (Rows.fnExactFunTermSpec.pre enc Tryz.prog Tryz.f5 [] false w args ∧ laidMetH Tryz.prog Rows.fnExactFunTermRow.laid w) ∧ sizedMet enc Tryz.prog Tryz.f5 (OpenSpec.ofChange Rows.fnExactFunTermSpec) false w args) (Rows.fnExactFunTermSpec.post enc Tryz.prog Tryz.f5 false true false false) := by
  refine law_liftD (C := Tryz.checked) (fn := Tryz.f5) (tb := 4) (X := fun w _ => laidMetH Tryz.prog Rows.fnExactFunTermRow.laid w) (fun _ _ _ hh h => h.of_heap hh) own started (by kernel_rfl) Tryz.func5 (by kernel_rfl) (by kernel_rfl) rfl Tryz.underlying4 rfl
    (fun ds h => by
      match ds, h with
      | [d1], _ => exact ⟨rfl, rfl, rfl⟩)
    (ChangeSpec.witness_shaped (enc := enc) (C := Tryz.checked) (os := os) (X := fun w _ => laidMetH Tryz.prog Rows.fnExactFunTermRow.laid w) false (World.laidAll Tryz.prog os Rows.fnExactFunTermRow.laid) #[.int .i64 0] 8 (World.laidAll_os _ _ _)
      (World.shaped_of_ZipB (by kernel_rfl) (by kernel_rfl)) (by kernel_rfl) (by kernel_rfl) (by kernel_rfl)
      (by rw [MakeChecks.laidMetH_plain _ _ _ (by kernel_rfl)]; exact laidMet_laidAll _ (by kernel_rfl) (by kernel_rfl))) ?_
  intro W base args ds p hval hA hlt hXW hsh
  rw [Tryz.params5] at hA hval
  obtain ⟨v0, vs0, d0, ds0, p0, q0, hargs, rfl, rfl, h0, r0⟩ := trodAll_cons hA
  obtain ⟨rfl, rfl, rfl⟩ := trodAll_nil r0
  obtain rfl : args = #[v0] := by cases args; simp_all
  obtain ⟨a0, rfl, rfl, rfl, w0⟩ := open_int Tryz.underlying3 (hval 0 3 v0 rfl rfl) h0
  exact walk W (envOf hXW hsh) a0 w0

theorem over : Rows.fnExactFunTermRow.holds Tryz.pinned (OpenSpec.ofChange Rows.fnExactFunTermSpec) :=
  OpenClaim.holds_of_wide 5 Tryz.f5 rfl rfl rfl rfl rfl rfl rfl ⟨rfl, rfl, rfl, rfl, rfl⟩ rfl rfl rfl rfl rfl (by kernel_rfl) Tryz.func5 (by kernel_rfl)
    (of_decide_eq_true (by kernel_rfl)) (by unfold Func.isWrapper; first | (rw [if_pos (by decide +kernel)]; kernel_rfl) | (rw [if_neg (by decide +kernel)]; exact ⟨rfl, rfl⟩))
    (fun os started H enc _ => lifted os started H enc)
/-- The tied card. -/
theorem proved : Rows.FnExactFunTermCardSaid :=
  Claim7.holds_tied_plain_at .later [] Rows.fnExactFunTermCard.laidKinds true Rows.fnExactFunTermCard.stood.harness true over (fun _ h => by cases h) (by kernel_rfl) (fun _ h => by cases h) fnExactFunTerm_row_tie rfl ⟨rfl, rfl⟩ (by kernel_rfl) rfl
    (fun f fn hf hfn => by
      obtain rfl : f = 5 := Option.some.inj ((show Tryz.prog.funcNamed "loop.example/depkernel/laws.FnExactFunTerm" = some 5 by kernel_rfl).symm.trans hf) |>.symm
      obtain rfl : fn = Tryz.f5 := (Option.some.inj (Tryz.func5.symm.trans hfn)).symm
      exact ⟨by kernel_rfl, fun j t ht => by
        rw [Tryz.params5] at ht
        have hm : t ∈ [3] := by simpa using Array.mem_of_getElem? ht
        have hall : ([3].all fun u => !Tryz.prog.wantsStandIn u) = true := by kernel_rfl
        exact (show Tryz.prog.wantsStandIn t = false by simpa using List.all_eq_true.1 hall t hm)⟩)
    (by kernel_rfl)
#print axioms proved
end Go.Proofs.YtghmpdnlkldigaaGreatDoor.exFunTerm

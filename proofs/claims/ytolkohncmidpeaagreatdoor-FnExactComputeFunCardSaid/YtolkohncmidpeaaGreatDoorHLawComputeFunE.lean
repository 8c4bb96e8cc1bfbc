/-
  PROVED: the law FnExactComputeFun returns true for every input: the program's ComputeFun returns what the reference's returns.
  CONDITIONS: none.
-/
import Derived.Test.YtolkohncmidpeaaGreatDoorHAB
import Derived.Test.YtolkohncmidpeaaGreatDoorHAM
import Derived.Test.YtolkohncmidpeaaGreatDoorHBM
import Derived.Deep.RegionHeld3
import Derived.LaidMore
import Derived.Lay
import Derived.ProofKit
import Derived.SevenTiedAt
import Derived.Test.YtolkohncmidpeaaGreatDoorCards
import Derived.Test.YtolkohncmidpeaaGreatDoorRows
import Derived.Test.YtolkohncmidpeaaGreatDoorTie
namespace Go.Proofs.YtolkohncmidpeaaGreatDoor.exComputeFun
open Go.RowKit Go.ChangeShapes Go.WideShapes Go.ChangeAt
set_option linter.unusedVariables false

theorem own : ownKnob Tryz.prog.godebug = none := by kernel_rfl

theorem envOf {W : World} (h : laidMetH Tryz.prog Rows.fnExactComputeFunRow.laid W) (hsh : W.ShapedOpen Tryz.prog) : EnvR W := by
  rw [MakeChecks.laidMetH_plain _ _ _ (by kernel_rfl)] at h
  exact envR_of h hsh
set_option maxRecDepth 100000 in
set_option maxHeartbeats 4000000 in
theorem walk (w : World) (hE0 : EnvR w) (f : Int) (wf : (Lit.int .i64 f).wf = true) (A : Option Addr) (cap : Nat) (ns : List Int) (hl : ns.length ≤ cap) (hc : cap ≤ maxLen) (h : Nums w A ns) (x : Int) (wx : (Lit.int .i64 x).wf = true) :
    Calls Tryz.prog 4 #[.int .i64 f, .slice A ns.length cap, .int .i64 x] w fun e w' => e = .returned (.bool true) ∧ Ext w w' := by
  have hcc := hc
  unfold maxLen at hcc
  by_cases hn : 1048576 < (ns.length : Int)
  · have d1 : decide (1048576 < (ns.length : Int)) = true := decide_eq_true hn
    go_enter Tryz.func4, Tryz.ntmps4
    go_wp2_with fail
    go_ret
    exact ⟨rfl, Ext.refl _⟩
  have d1 : decide (1048576 < (ns.length : Int)) = false := decide_eq_false hn
  go_enter Tryz.func4, Tryz.ntmps4
  go_wp2_with fail
  refine (toIntS_any ns w A cap h hl hc (by omega)).mono ?_
  rintro e w1 ⟨cs, rfl, hb, hcs, h1⟩
  have hN := nums_of_blk hb hcs
  clear hb hcs
  go_wp2_with fail
  refine (specComputeFun_any f ns x w1 _ ns.length (Nat.le_refl _) (by unfold maxLen; omega) hN).mono ?_
  rintro e w2 ⟨rfl, h2⟩
  have hx := h1.trans h2
  clear h1 h2 hN
  go_wp2_with fail
  refine (toIntS_any ns w2 A cap (h.ext hx) hl hc (by omega)).mono ?_
  rintro e w3 ⟨cs, rfl, hb, hcs, h3⟩
  have hN := nums_of_blk hb hcs
  replace hx := hx.trans h3
  clear hb hcs h3
  go_wp2_with fail
  refine (computeFun_any f ns x w3 (hE0.ext hx) _ ns.length (Nat.le_refl _) (by unfold maxLen; omega) hN).mono ?_
  rintro e w4 ⟨rfl, h4⟩
  replace hN := hN.ext h4
  replace hx := hx.trans h4
  clear h4
  have hq0 : ((cmpV f ns x).1 != (cmpV f ns x).1) = false := by simp
  have hq1 : ((cmpV f ns x).2 != (cmpV f ns x).2) = false := by simp
  generalize (cmpV f ns x).1 = r0 at hq0
  generalize (cmpV f ns x).2 = r1 at hq1
  go_wp2_with fail
  refine (toIntS_any ns w4 A cap (h.ext hx) hl hc (by omega)).mono ?_
  rintro e w5 ⟨cs, rfl, hb, hcs, h5⟩
  have hN2 := nums_of_blk hb hcs
  replace hx := hx.trans h5
  replace hN := hN.ext h5
  clear hb hcs h5
  go_wp2_with fail
  refine (eqIntS_any ns ns w5 _ _ ns.length ns.length hN (Nat.le_refl _) (by unfold maxLen; omega) hN2 (Nat.le_refl _) (by unfold maxLen; omega)).mono ?_
  rw [decide_eq_true rfl]
  rintro e w6 ⟨rfl, h6⟩
  replace hx := hx.trans h6
  clear h6 hN hN2
  go_wp2_with fail
  go_ret
  exact ⟨rfl, hx⟩

set_option maxRecDepth 100000 in
theorem lifted (os : Os) (started : os.Started) (H : Type) (enc : TypeId × Value → H) :
    ReturnsInHanded {} Tryz.checked os 4 .any (fun w args => (Rows.fnExactComputeFunSpec.pre enc Tryz.prog Tryz.f4 [] false w args ∧ laidMetH Tryz.prog Rows.fnExactComputeFunRow.laid w) ∧ sizedMet enc Tryz.prog Tryz.f4 (OpenSpec.ofChange Rows.fnExactComputeFunSpec) false w args) (Rows.fnExactComputeFunSpec.post enc Tryz.prog Tryz.f4 false true false false) := by
  refine law_liftD (C := Tryz.checked) (fn := Tryz.f4) (tb := 4) (X := fun w _ => laidMetH Tryz.prog Rows.fnExactComputeFunRow.laid w) (fun _ _ _ hh h => h.of_heap hh) own started (by kernel_rfl) Tryz.func4 (by kernel_rfl) (by kernel_rfl) rfl Tryz.underlying4 rfl
    (fun ds h => by
      match ds, h with
      | [d1, d2, d3], _ => exact ⟨rfl, rfl, rfl⟩)
    (ChangeSpec.witness_shaped (enc := enc) (C := Tryz.checked) (os := os) (X := fun w _ => laidMetH Tryz.prog Rows.fnExactComputeFunRow.laid w) false (World.laidAll Tryz.prog os Rows.fnExactComputeFunRow.laid) #[.int .i64 0, .slice none 0 0, .int .i64 0] 8 (World.laidAll_os _ _ _)
      (World.shaped_of_ZipB (by kernel_rfl) (by kernel_rfl)) (by kernel_rfl) (by kernel_rfl) (by kernel_rfl)
      (by rw [MakeChecks.laidMetH_plain _ _ _ (by kernel_rfl)]; exact laidMet_laidAll _ (by kernel_rfl) (by kernel_rfl))) ?_
  intro W base args ds p hval hA hlt hXW hsh
  rw [Tryz.params4] at hA hval
  obtain ⟨v0, vs0, d0, ds0, p0, q0, hargs, rfl, rfl, h0, r0⟩ := trodAll_cons hA
  obtain ⟨v1, vs1, d1, ds1, p1, q1, rfl, rfl, rfl, h1, r1⟩ := trodAll_cons r0
  obtain ⟨v2, vs2, d2, ds2, p2, q2, rfl, rfl, rfl, h2, r2⟩ := trodAll_cons r1
  obtain ⟨rfl, rfl, rfl⟩ := trodAll_nil r2
  obtain rfl : args = #[v0, v1, v2] := by cases args; simp_all
  obtain ⟨a0, rfl, rfl, rfl, w0⟩ := open_int Tryz.underlying3 (hval 0 3 v0 rfl rfl) h0
  obtain ⟨A1, cap1, ns1, rfl, hl1, hc1, ha1⟩ := open_nums Tryz.underlying32 Tryz.underlying3 (by kernel_rfl) (hval 1 32 v1 rfl rfl) h1
  obtain ⟨a2, rfl, rfl, rfl, w2⟩ := open_int Tryz.underlying3 (hval 2 3 v2 rfl rfl) h2
  exact walk W (envOf hXW hsh) a0 w0 A1 cap1 ns1 hl1 hc1 ha1 a2 w2

theorem over : Rows.fnExactComputeFunRow.holds Tryz.pinned (OpenSpec.ofChange Rows.fnExactComputeFunSpec) :=
  OpenClaim.holds_of_wide 4 Tryz.f4 rfl rfl rfl rfl rfl rfl rfl ⟨rfl, rfl, rfl, rfl, rfl⟩ rfl rfl rfl rfl rfl (by kernel_rfl) Tryz.func4 (by kernel_rfl)
    (of_decide_eq_true (by kernel_rfl)) (by unfold Func.isWrapper; first | (rw [if_pos (by decide +kernel)]; kernel_rfl) | (rw [if_neg (by decide +kernel)]; exact ⟨rfl, rfl⟩))
    (fun os started H enc _ => lifted os started H enc)
/-- The tied card. -/
theorem proved : Rows.FnExactComputeFunCardSaid :=
  Claim7.holds_tied_plain_at .later [] Rows.fnExactComputeFunCard.laidKinds true Rows.fnExactComputeFunCard.stood.harness true over (fun _ h => by cases h) (by kernel_rfl) (fun _ h => by cases h) fnExactComputeFun_row_tie rfl ⟨rfl, rfl⟩ (by kernel_rfl) rfl
    (fun f fn hf hfn => by
      obtain rfl : f = 4 := Option.some.inj ((show Tryz.prog.funcNamed "loop.example/depkernel/laws.FnExactComputeFun" = some 4 by kernel_rfl).symm.trans hf) |>.symm
      obtain rfl : fn = Tryz.f4 := (Option.some.inj (Tryz.func4.symm.trans hfn)).symm
      exact ⟨by kernel_rfl, fun j t ht => by
        rw [Tryz.params4] at ht
        have hm : t ∈ [3, 32, 3] := by simpa using Array.mem_of_getElem? ht
        have hall : ([3, 32, 3].all fun u => !Tryz.prog.wantsStandIn u) = true := by kernel_rfl
        exact (show Tryz.prog.wantsStandIn t = false by simpa using List.all_eq_true.1 hall t hm)⟩)
    (by kernel_rfl)
#print axioms proved
end Go.Proofs.YtolkohncmidpeaaGreatDoor.exComputeFun

/-
  PROVED: the law FnComputeFun returns true for every input: reduction computes.
  CONDITIONS: none.
-/
import Derived.Test.YtolkohncmidpeaaGreatDoorHAB
import Derived.Test.YtolkohncmidpeaaGreatDoorHBM
import Derived.Test.YtolkohncmidpeaaGreatDoorHBN
import Derived.Deep.RegionHeld3
import Derived.LaidMore
import Derived.Lay
import Derived.ProofKit
import Derived.SevenTiedAt
import Derived.Test.YtolkohncmidpeaaGreatDoorCards
import Derived.Test.YtolkohncmidpeaaGreatDoorRows
import Derived.Test.YtolkohncmidpeaaGreatDoorTie
namespace Go.Proofs.YtolkohncmidpeaaGreatDoor.computeFunL
open Go.RowKit Go.ChangeShapes Go.WideShapes Go.ChangeAt
set_option linter.unusedVariables false

theorem own : ownKnob Tryz.prog.godebug = none := by kernel_rfl

theorem envOf {W : World} (h : laidMetH Tryz.prog Rows.fnComputeFunRow.laid W) (hsh : W.ShapedOpen Tryz.prog) : EnvR W := by
  rw [MakeChecks.laidMetH_plain _ _ _ (by kernel_rfl)] at h
  exact envR_of h hsh
set_option maxRecDepth 100000 in
set_option maxHeartbeats 4000000 in
theorem walk (w : World) (hE0 : EnvR w) (A : Option Addr) (cap : Nat) (bs : List Int) (hl : bs.length ≤ cap) (hc : cap ≤ maxLen) (hB : Bytes w w.heap.size A bs) :
    Calls Tryz.prog 6 #[.slice A bs.length cap] w fun e w' => e = .returned (.bool true) ∧ Ext w w' := by
  have hcc := hc
  unfold maxLen at hcc
  by_cases hn : 1048576 < (bs.length : Int)
  · have d1 : decide (1048576 < (bs.length : Int)) = true := decide_eq_true hn
    go_enter Tryz.func6, Tryz.ntmps6
    go_wp2_with fail
    go_ret
    exact ⟨rfl, Ext.refl _⟩
  have d1 : decide (1048576 < (bs.length : Int)) = false := decide_eq_false hn
  go_enter Tryz.func6, Tryz.ntmps6
  go_wp2_with fail
  refine (drawComputeFun_any w A cap bs hl hc hB).mono ?_
  rintro e w1 ⟨f, x, B, c, ns, rfl, q1, q2, hN, h1⟩
  clear d1 hB
  go_wp2_with fail
  refine (computeFun_any f ns x w1 (hE0.ext h1) B c q1 q2 hN).mono ?_
  rintro e w2 ⟨rfl, h2⟩
  go_wp2_with fail
  refine (specComputeFun_any f ns x w2 B c q1 q2 (hN.ext h2)).mono ?_
  rintro e w3 ⟨rfl, h3⟩
  have hx := h1.trans (h2.trans h3)
  replace hN := hN.ext (h2.trans h3)
  clear h1 h2 h3
  obtain ⟨⟨n, k⟩, hq⟩ : ∃ q, cmpV f ns x = q := ⟨_, rfl⟩
  rw [hq]
  have hn0 : (n != n) = false := by simp
  have hn1 : (n == n) = true := by simp
  have hk0 : (k != k) = false := by simp
  have hk1 : (k == k) = true := by simp
  by_cases hk : k = 0
  · subst hk
    have hm := cmpV_val hq
    go_wp2_with fail
    refine (funValue_any f ns w3 B c q1 q2 hN).mono ?_
    rw [hm]
    rintro e w4 ⟨rfl, h4⟩
    clear hq hN hm
    go_wp2_with fail
    go_ret
    exact ⟨rfl, hx.trans h4⟩
  · have t1 : (k != 0) = true := by simp [hk]
    have t2 : (k == 0) = false := by simp [hk]
    have hz := cmpV_zero f x ns
    rw [hq] at hz
    simp only [hk, false_or] at hz
    subst hz
    have t3 : ((0 : Int) == 0) = true := rfl
    clear hk hq hN
    go_wp2_with fail
    go_ret
    exact ⟨rfl, hx⟩

set_option maxRecDepth 100000 in
theorem lifted (os : Os) (started : os.Started) (H : Type) (enc : TypeId × Value → H) :
    ReturnsInHanded {} Tryz.checked os 6 .any (fun w args => (Rows.fnComputeFunSpec.pre enc Tryz.prog Tryz.f6 [] false w args ∧ laidMetH Tryz.prog Rows.fnComputeFunRow.laid w) ∧ sizedMet enc Tryz.prog Tryz.f6 (OpenSpec.ofChange Rows.fnComputeFunSpec) false w args) (Rows.fnComputeFunSpec.post enc Tryz.prog Tryz.f6 false true false false) := by
  refine law_liftD (C := Tryz.checked) (fn := Tryz.f6) (tb := 4) (X := fun w _ => laidMetH Tryz.prog Rows.fnComputeFunRow.laid w) (fun _ _ _ hh h => h.of_heap hh) own started (by kernel_rfl) Tryz.func6 (by kernel_rfl) (by kernel_rfl) rfl Tryz.underlying4 rfl
    (fun ds h => by
      match ds, h with
      | [d1], _ => exact ⟨rfl, rfl, rfl⟩)
    (ChangeSpec.witness_shaped (enc := enc) (C := Tryz.checked) (os := os) (X := fun w _ => laidMetH Tryz.prog Rows.fnComputeFunRow.laid w) false (World.laidAll Tryz.prog os Rows.fnComputeFunRow.laid) #[.slice none 0 0] 8 (World.laidAll_os _ _ _)
      (World.shaped_of_ZipB (by kernel_rfl) (by kernel_rfl)) (by kernel_rfl) (by kernel_rfl) (by kernel_rfl)
      (by rw [MakeChecks.laidMetH_plain _ _ _ (by kernel_rfl)]; exact laidMet_laidAll _ (by kernel_rfl) (by kernel_rfl))) ?_
  intro W base args ds p hval hA hlt hXW hsh
  rw [Tryz.params6] at hA hval
  obtain ⟨v0, vs0, d0, ds0, p0, q0, hargs, rfl, rfl, h0, r0⟩ := trodAll_cons hA
  obtain ⟨rfl, rfl, rfl⟩ := trodAll_nil r0
  obtain rfl : args = #[v0] := by cases args; simp_all
  obtain ⟨A0, cap0, bs0, rfl, hl0, hc0, ha0⟩ := open_bytes Tryz.underlying22 Tryz.underlying5 (by kernel_rfl) (hval 0 22 v0 rfl rfl) h0
  exact walk W (envOf hXW hsh) A0 cap0 bs0 hl0 hc0 ha0.1

theorem over : Rows.fnComputeFunRow.holds Tryz.pinned (OpenSpec.ofChange Rows.fnComputeFunSpec) :=
  OpenClaim.holds_of_wide 6 Tryz.f6 rfl rfl rfl rfl rfl rfl rfl ⟨rfl, rfl, rfl, rfl, rfl⟩ rfl rfl rfl rfl rfl (by kernel_rfl) Tryz.func6 (by kernel_rfl)
    (of_decide_eq_true (by kernel_rfl)) (by unfold Func.isWrapper; first | (rw [if_pos (by decide +kernel)]; kernel_rfl) | (rw [if_neg (by decide +kernel)]; exact ⟨rfl, rfl⟩))
    (fun os started H enc _ => lifted os started H enc)
/-- The tied card. -/
theorem proved : Rows.FnComputeFunCardSaid :=
  Claim7.holds_tied_plain_at .later [] Rows.fnComputeFunCard.laidKinds true Rows.fnComputeFunCard.stood.harness true over (fun _ h => by cases h) (by kernel_rfl) (fun _ h => by cases h) fnComputeFun_row_tie rfl ⟨rfl, rfl⟩ (by kernel_rfl) rfl
    (fun f fn hf hfn => by
      obtain rfl : f = 6 := Option.some.inj ((show Tryz.prog.funcNamed "loop.example/depkernel/laws.FnComputeFun" = some 6 by kernel_rfl).symm.trans hf) |>.symm
      obtain rfl : fn = Tryz.f6 := (Option.some.inj (Tryz.func6.symm.trans hfn)).symm
      exact ⟨by kernel_rfl, fun j t ht => by
        rw [Tryz.params6] at ht
        have hm : t ∈ [22] := by simpa using Array.mem_of_getElem? ht
        have hall : ([22].all fun u => !Tryz.prog.wantsStandIn u) = true := by kernel_rfl
        exact (show Tryz.prog.wantsStandIn t = false by simpa using List.all_eq_true.1 hall t hm)⟩)
    (by kernel_rfl)
#print axioms proved
end Go.Proofs.YtolkohncmidpeaaGreatDoor.computeFunL

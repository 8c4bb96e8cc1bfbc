/-
  PROVED: the law FnExactParseDefs returns true for every input: the program's ParseDefs returns what the reference's returns.
  CONDITIONS: none.
-/
import Derived.Test.YtghmpdnlkldigaaGreatDoorDAB
import Derived.Test.YtghmpdnlkldigaaGreatDoorDBQ
import Derived.Test.YtghmpdnlkldigaaGreatDoorDBR
import Derived.Test.YtghmpdnlkldigaaGreatDoorDBS
import Derived.ChangeMaps5
import Derived.Deep.RegionHeld3
import Derived.LaidMore
import Derived.Lay
import Derived.ProofKit
import Derived.SevenTiedAt
import Derived.Test.YtghmpdnlkldigaaGreatDoorCards
import Derived.Test.YtghmpdnlkldigaaGreatDoorRows
import Derived.Test.YtghmpdnlkldigaaGreatDoorTie
namespace Go.Proofs.YtghmpdnlkldigaaGreatDoor.exParseDefs
open Go.RowKit Go.ChangeShapes Go.WideShapes Go.ChangeAt
set_option linter.unusedVariables false

theorem own : ownKnob Tryz.prog.godebug = none := by kernel_rfl

theorem envOf {W : World} (h : laidMetH Tryz.prog Rows.fnExactParseDefsRow.laid W) (hsh : W.ShapedOpen Tryz.prog) : EnvR W := by
  rw [MakeChecks.laidMetH_plain _ _ _ (by kernel_rfl)] at h
  exact envR_of h hsh
set_option maxRecDepth 100000 in
set_option maxHeartbeats 4000000 in
theorem walk (w0 : World) (hE0 : EnvR w0) (s : ByteArray) (hs : s.size ≤ maxLen) :
    Calls Tryz.prog 3 #[.string s] w0 fun e w' => e = .returned (.bool true) ∧ Ext w0 w' := by
  unfold maxLen at hs
  by_cases hn : 1048576 < (s.size : Int)
  · have d1 : decide (1048576 < (s.size : Int)) = true := decide_eq_true hn
    go_enter Tryz.func3, Tryz.ntmps3
    go_wp2_with fail
    go_ret
    exact ⟨rfl, Ext.refl _⟩
  have d1 : decide (1048576 < (s.size : Int)) = false := decide_eq_false hn
  have hl : s.data.toList.length = s.size := Array.length_toList
  have hsz : s.size ≤ 1048576 := by omega
  have HS := Lib.hid (fun W => specParseDefs_any s W (by omega))
  have HI := Lib.hid (fun W (hx : Ext w0 W) => (show Calls Tryz.prog 12 #[.string s] W (PdQ W (psD s.data.toList)) from by
    have := parseDefsI_any s.data.toList (by omega) W (hE0.ext hx)
    rwa [ofL_of] at this))
  have hcnt : 2 * (cnts ((psD s.data.toList).getD []) : Int) ≤ 1000000 := by
    cases hp : psD s.data.toList with
    | none => simp [cnts]
    | some ks =>
      obtain ⟨n, hn2⟩ := psD_even hp
      have hd := (psD_of hp).1
      rw [hn2, Nat.mul_div_cancel _ (by decide)] at hd
      obtain ⟨h9, hv⟩ := dfV_valid hd hn2
      have : ∀ (l : List Tr), (∀ t ∈ l, cnt t ≤ 400) → cnts l ≤ 400 * l.length := by
        intro l
        induction l with
        | nil => intro _; simp [cnts]
        | cons t l ih => intro h; have := ih (fun x hx => h x (List.mem_cons_of_mem _ hx)); have := h t (List.mem_cons_self ..); simp only [cnts, List.length_cons]; omega
      have := this ks (fun t ht => (valid_parts (hv t ht)).2)
      show 2 * (cnts ks : Int) ≤ _
      omega
  obtain ⟨P, hP⟩ : ∃ P, psD s.data.toList = P := ⟨_, rfl⟩
  rw [hP] at HS HI hcnt
  obtain ⟨ks, hks⟩ : ∃ ks, P.getD [] = ks := ⟨_, rfl⟩
  unfold PdQ at HI
  rw [hks] at HS HI hcnt
  obtain ⟨bP, hbP⟩ : ∃ b, P.isSome = b := ⟨_, rfl⟩
  rw [hbP] at HS HI
  clear hP hks hbP hl
  go_enter Tryz.func3, Tryz.ntmps3
  go_wp2_with fail
  refine (HS.out w0).mono ?_
  rintro e w1 ⟨A1, n, c1, rfl, hl1, hc1, hn, hK1, e1⟩
  have hkn := hn
  have HKN := Lib.hid hkn
  have hLs : LiesK w1 A1 ks := InK.mono (fun b hb => hb.2) (fun _ _ => rfl) hK1
  clear hn hkn
  go_wp2_with fail
  refine (HI.out w1 e1).mono ?_
  rintro e w2 ⟨A2, n2, c2, rfl, hl2, hc2, hn2, hM2, e2⟩
  obtain rfl : n2 = n := by have := HKN.out; omega
  obtain ⟨L2, hO2, hF2⟩ := hM2
  have hbb : (bP != bP) = false := by simp
  have X2 := e1.trans e2
  clear hn2
  go_wp2_with fail
  refine (eqDefS_any ks ks n2 n2 w2 _ _ _ _ (MadeD.lies ⟨L2, hO2, hF2⟩) HKN.out hl2 hc2 (hLs.ext e2) HKN.out hl1 hc1).mono ?_
  rw [eqTs_self]
  rintro e w3 ⟨rfl, e3⟩
  have X3 := X2.trans e3
  have O3 := hO2.mono (fun x hx => e3.heap x (hF2.2 x hx).2)
  go_wp2_with fail
  refine (markDefS2_any ks n2 c2 w3 A2 L2 1 O3 hF2.1 HKN.out hl2 hc2 (by omega) (by omega)).mono ?_
  rintro e w4 ⟨rfl, o4, O4⟩
  have s3 := e3.size
  have s4 := o4.size
  have hK4 : LiesK w4 A2 (mkS ks 1) := MadeD.lies ⟨L2, O4, hF2.mono (Nat.le_refl _) (by omega)⟩
  have X4 : Ext w0 w4 := o4.ext X3 (fun b hb => by have := (hF2.2 b hb).1; have := e1.size; omega)
  have Y4 : Ext w1 w4 := o4.ext (e2.trans e3) (fun b hb => by have := (hF2.2 b hb).1; omega)
  have HH := Lib.hid (fun W (hx : Ext w4 W) => heldDefS_mk ks n2 c2 1 W A2 (hK4.ext hx) HKN.out hl2 hc2 (by omega) (by omega))
  have hm0 : decide (1 + 2 * (cnts ks : Int) < 0) = false := decide_eq_false (by omega)
  have hmm : (1 + 2 * (cnts ks : Int) != 1 + 2 * (cnts ks : Int)) = false := by simp
  go_wp2_with fail
  refine (HH.out w4 (Ext.refl _)).mono ?_
  rintro e w5 ⟨rfl, e5⟩
  have X5 := X4.trans e5
  go_wp2_with fail
  refine (HI.out w5 X5).mono ?_
  rintro e w6 ⟨A6, n6, c6, rfl, hl6, hc6, hn6, hM6, e6⟩
  obtain rfl : n6 = n2 := by have := HKN.out; omega
  clear hn6
  go_wp2_with fail
  refine (eqDefS_any ks ks n6 n6 w6 _ _ _ _ hM6.lies HKN.out hl6 hc6 (hLs.ext ((Y4.trans e5).trans e6)) HKN.out hl1 hc1).mono ?_
  rw [eqTs_self]
  rintro e w7 ⟨rfl, e7⟩
  have Y7 := (e5.trans e6).trans e7
  go_wp2_with fail
  refine (HH.out w7 Y7).mono ?_
  rintro e w8 ⟨rfl, e8⟩
  go_wp2_with fail
  go_ret
  exact ⟨rfl, (X4.trans Y7).trans e8⟩

set_option maxRecDepth 100000 in
theorem lifted (os : Os) (started : os.Started) (H : Type) (enc : TypeId × Value → H) :
    ReturnsInHanded {} Tryz.checked os 3 .any (fun w args => (Rows.fnExactParseDefsSpec.pre enc Tryz.prog Tryz.f3 [] false w args ∧ laidMetH Tryz.prog Rows.fnExactParseDefsRow.laid w) ∧ sizedMet enc Tryz.prog Tryz.f3 (OpenSpec.ofChange Rows.fnExactParseDefsSpec) false w args) (Rows.fnExactParseDefsSpec.post enc Tryz.prog Tryz.f3 false true false false) := by
  refine law_liftD (C := Tryz.checked) (fn := Tryz.f3) (tb := 4) (X := fun w _ => laidMetH Tryz.prog Rows.fnExactParseDefsRow.laid w) (fun _ _ _ hh h => h.of_heap hh) own started (by kernel_rfl) Tryz.func3 (by kernel_rfl) (by kernel_rfl) rfl Tryz.underlying4 rfl
    (fun ds h => by
      match ds, h with
      | [d1], _ => exact ⟨rfl, rfl, rfl⟩)
    (ChangeSpec.witness_shaped (enc := enc) (C := Tryz.checked) (os := os) (X := fun w _ => laidMetH Tryz.prog Rows.fnExactParseDefsRow.laid w) false (World.laidAll Tryz.prog os Rows.fnExactParseDefsRow.laid) #[.string ⟨#[]⟩] 8 (World.laidAll_os _ _ _)
      (World.shaped_of_ZipB (by kernel_rfl) (by kernel_rfl)) (by kernel_rfl) (by kernel_rfl) (by kernel_rfl)
      (by rw [MakeChecks.laidMetH_plain _ _ _ (by kernel_rfl)]; exact laidMet_laidAll _ (by kernel_rfl) (by kernel_rfl))) ?_
  intro W base args ds p hval hA hlt hXW hsh
  rw [Tryz.params3] at hA hval
  obtain ⟨v0, vs0, d0, ds0, p0, q0, hargs, rfl, rfl, h0, r0⟩ := trodAll_cons hA
  obtain ⟨rfl, rfl, rfl⟩ := trodAll_nil r0
  obtain rfl : args = #[v0] := by cases args; simp_all
  obtain ⟨a0, rfl, rfl, rfl, hs0⟩ := Go.ChangeMaps.open_string Tryz.underlying9 (hval 0 9 v0 rfl rfl) h0
  exact walk W (envOf hXW hsh) a0 hs0

theorem over : Rows.fnExactParseDefsRow.holds Tryz.pinned (OpenSpec.ofChange Rows.fnExactParseDefsSpec) :=
  OpenClaim.holds_of_wide 3 Tryz.f3 rfl rfl rfl rfl rfl rfl rfl ⟨rfl, rfl, rfl, rfl, rfl⟩ rfl rfl rfl rfl rfl (by kernel_rfl) Tryz.func3 (by kernel_rfl)
    (of_decide_eq_true (by kernel_rfl)) (by unfold Func.isWrapper; first | (rw [if_pos (by decide +kernel)]; kernel_rfl) | (rw [if_neg (by decide +kernel)]; exact ⟨rfl, rfl⟩))
    (fun os started H enc _ => lifted os started H enc)
/-- The tied card. -/
theorem proved : Rows.FnExactParseDefsCardSaid :=
  Claim7.holds_tied_plain_at .later [] Rows.fnExactParseDefsCard.laidKinds true Rows.fnExactParseDefsCard.stood.harness true over (fun _ h => by cases h) (by kernel_rfl) (fun _ h => by cases h) fnExactParseDefs_row_tie rfl ⟨rfl, rfl⟩ (by kernel_rfl) rfl
    (fun f fn hf hfn => by
      obtain rfl : f = 3 := Option.some.inj ((show Tryz.prog.funcNamed "loop.example/depkernel/laws.FnExactParseDefs" = some 3 by kernel_rfl).symm.trans hf) |>.symm
      obtain rfl : fn = Tryz.f3 := (Option.some.inj (Tryz.func3.symm.trans hfn)).symm
      exact ⟨by kernel_rfl, fun j t ht => by
        rw [Tryz.params3] at ht
        have hm : t ∈ [9] := by simpa using Array.mem_of_getElem? ht
        have hall : ([9].all fun u => !Tryz.prog.wantsStandIn u) = true := by kernel_rfl
        exact (show Tryz.prog.wantsStandIn t = false by simpa using List.all_eq_true.1 hall t hm)⟩)
    (by kernel_rfl)
#print axioms proved
end Go.Proofs.YtghmpdnlkldigaaGreatDoor.exParseDefs

/-
  PROVED: the law FnDefsPrefix returns true for every input: prefixes of valid definitions are valid, and their text is a prefix.
  CONDITIONS: none.
-/
import Derived.Test.YtenpknapajckbaaDoorPAB
import Derived.Test.YtenpknapajckbaaDoorPBL
import Derived.Test.YtenpknapajckbaaDoorPBS
import Derived.Deep.RegionHeld3
import Derived.LaidMore
import Derived.Lay
import Derived.ProofKit
import Derived.SevenTiedAt
import Derived.Test.YtenpknapajckbaaDoorCards
import Derived.Test.YtenpknapajckbaaDoorRows
import Derived.Test.YtenpknapajckbaaDoorTie
namespace Go.Proofs.YtenpknapajckbaaDoor.defsPrefixL
open Go.RowKit Go.ChangeShapes Go.WideShapes Go.ChangeAt
set_option linter.unusedVariables false

theorem own : ownKnob Tryd.prog.godebug = none := by kernel_rfl

theorem envOf {W : World} {X : Prop} (h : X) (hsh : W.ShapedOpen Tryd.prog) : EnvM W := envM_of hsh
set_option maxRecDepth 100000 in
set_option maxHeartbeats 40000000 in
theorem walk (w0 : World) (hE0 : EnvM w0) (A : Option Addr) (cap : Nat) (bs : List Int) (hl : bs.length ≤ cap) (hc : cap ≤ maxLen) (hB : Bytes w0 w0.heap.size A bs) (Am : Option Addr) (capm : Nat) (ms : List Int) (hlm : ms.length ≤ capm) (hcm : capm ≤ maxLen) (hBm : Bytes w0 w0.heap.size Am ms) :
    Calls Tryd.prog 5 #[.slice A bs.length cap, .slice Am ms.length capm] w0 fun e w' => e = .returned (.bool true) ∧ Ext w0 w' := by
  have hcc := hc
  unfold maxLen at hcc
  have hccm := hcm
  unfold maxLen at hccm
  by_cases hn : 1048576 < (bs.length : Int)
  · have d1 : decide (1048576 < (bs.length : Int)) = true := decide_eq_true hn
    go_enter Tryd.func5, Tryd.ntmps5
    go_wp2_with fail
    go_ret
    exact ⟨rfl, Ext.refl _⟩
  have d1 : decide (1048576 < (bs.length : Int)) = false := decide_eq_false hn
  by_cases hn2 : 1048576 < (ms.length : Int)
  · have d2 : decide (1048576 < (ms.length : Int)) = true := decide_eq_true hn2
    go_enter Tryd.func5, Tryd.ntmps5
    go_wp2_with fail
    go_ret
    exact ⟨rfl, Ext.refl _⟩
  have d2 : decide (1048576 < (ms.length : Int)) = false := decide_eq_false hn2
  go_enter Tryd.func5, Tryd.ntmps5
  go_wp2_with fail
  refine (drawFormatDefs_any w0 A cap bs hl hc hB).mono ?_
  rintro e w1 ⟨B, n, c, ks, rfl, hnc, hcx, hnil, hkn, hn9, hK, e1⟩
  have HKN := Lib.hid hkn
  have hcc1 := hcx
  unfold maxLen at hcc1
  obtain ⟨S, hS⟩ : ∃ S, ofL (fmtDV ks n) = S := ⟨_, rfl⟩
  have HI := Lib.hid (fun W (hW : Ext w1 W) => hS ▸ formatDefs_any ks n c W (hE0.ext (e1.trans hW)) B (hK.ext hW) hkn hnc hcx)
  have HSP := Lib.hid (fun W (hW : Ext w1 W) => hS ▸ specFormatDefs_any ks n c W B (hK.ext hW) hkn hnc hcx)
  have HV := Lib.hid (fun W (hW : Ext w1 W) => defsValid_any ks n c W B (hK.ext hW) hkn hnc hcx)
  have HS := Lib.hid hS
  obtain ⟨k, hk⟩ : ∃ k, k = ms.length % (n + 1) := ⟨_, rfl⟩
  have hkp : k ≤ n := by have := Nat.mod_lt ms.length (show n + 1 > 0 by omega); omega
  have hrem : ((ms.length : Int) % ((n : Int) + 1)) = (k : Int) := by rw [hk]; exact (Int.natCast_emod ms.length (n + 1)).symm
  have hrem3 : ms.length % (n + 1) = k := hk.symm
  have hpp : ((n : Int) + 1 == 0) = false := beq_eq_false_iff_ne.2 (by omega)
  have hpw : IntKind.i64.wrap ((n : Int) + 1) = (n : Int) + 1 := IntWalk.i64_in _ ⟨by omega, by omega⟩
  have hkc : (k : Int) ≤ (n : Int) := by omega
  have hkc0 : (0 : Int) ≤ (k : Int) := by omega
  have hkc2 : (k : Int) ≤ (c : Int) := by omega
  have hplc : (n : Int) ≤ (c : Int) := by omega
  have hkcN : k ≤ c := by omega
  clear hS hk hkn
  go_wp2_with fail
  refine (HI.out w1 (Ext.refl _)).mono ?_
  rintro e w2 ⟨rfl, e2⟩
  go_wp2_with fail
  refine (HSP.out w2 e2).mono ?_
  rintro e w3 ⟨rfl, e3⟩
  have X3 := e2.trans e3
  go_wp2_with fail
  refine (HV.out w3 X3).mono ?_
  rintro e w4 ⟨rfl, e4⟩
  have X4 := X3.trans e4
  cases hz : dfV ks n with
  | false =>
    clear hz
    go_wp2_with fail
    refine (HSP.out w4 X4).mono ?_
    rintro e w5 ⟨rfl, e5⟩
    go_wp2_with fail
    go_ret
    exact ⟨rfl, (e1.trans X4).trans e5⟩
  | true =>
    obtain ⟨p1, p2, r, p3⟩ := prefix_facts hz HKN.out hkp
    have hK4 : LiesK w4 B (ks.take (k * 2)) := by
      rcases hK.ext X4 with h | ⟨b, o, rfl, hb, hin⟩
      · exact .inl (by rw [h]; simp)
      · exact .inr ⟨b, o, rfl, hb, InL.take (k * 2) hin⟩
    have HI2 := Lib.hid (fun W (hW : Ext w4 W) => formatDefs_any (ks.take (k * 2)) k c W (hE0.ext ((e1.trans X4).trans hW)) B (hK4.ext hW) p2 hkcN hcx)
    have HV2 := Lib.hid (fun W (hW : Ext w4 W) => defsValid_any (ks.take (k * 2)) k c W B (hK4.ext hW) p2 hkcN hcx)
    obtain ⟨U, hU⟩ : ∃ U, fmtDV (ks.take (k * 2)) k = U := ⟨_, rfl⟩
    rw [hU] at HI2 p3
    rw [p1] at HV2
    have hSl : S.size = U.length + r.length := by rw [← HS.out, p3, ofL_size, List.length_append]
    have hUl : (ofL U).size = U.length := ofL_size U
    have hle : decide ((U.length : Int) ≤ ((U.length + r.length : Nat) : Int)) = true := decide_eq_true (by omega)
    have hex : S.extract 0 U.length = ofL U := by
      rw [← HS.out, p3]
      apply ByteArray.ext
      simp [ofL]
    clear hz p1 p2 p3 hU hK4
    go_wp2_with fail
    refine (HI2.out w4 (Ext.refl _)).mono ?_
    rintro e w5 ⟨rfl, e5⟩
    go_wp2_with fail
    refine (HV2.out w5 e5).mono ?_
    rintro e w6 ⟨rfl, e6⟩
    go_wp2_with fail
    go_ret
    exact ⟨rfl, ((e1.trans X4).trans e5).trans e6⟩

set_option maxRecDepth 100000 in
theorem lifted (os : Os) (started : os.Started) (H : Type) (enc : TypeId × Value → H) :
    ReturnsInHanded {} Tryd.checked os 5 .any (fun w args => (Rows.fnDefsPrefixSpec.pre enc Tryd.prog Tryd.f5 [] false w args ∧ laidMetH Tryd.prog Rows.fnDefsPrefixRow.laid w) ∧ sizedMet enc Tryd.prog Tryd.f5 (OpenSpec.ofChange Rows.fnDefsPrefixSpec) false w args) (Rows.fnDefsPrefixSpec.post enc Tryd.prog Tryd.f5 false true false false) := by
  refine law_liftD (C := Tryd.checked) (fn := Tryd.f5) (tb := 4) (X := fun w _ => laidMetH Tryd.prog Rows.fnDefsPrefixRow.laid w) (fun _ _ _ hh h => h.of_heap hh) own started (by kernel_rfl) Tryd.func5 (by kernel_rfl) (by kernel_rfl) rfl Tryd.underlying4 rfl
    (fun ds h => by
      match ds, h with
      | [d1, d2], _ => exact ⟨rfl, rfl, rfl⟩)
    (ChangeSpec.witness_shaped (enc := enc) (C := Tryd.checked) (os := os) (X := fun w _ => laidMetH Tryd.prog Rows.fnDefsPrefixRow.laid w) false (World.laidAll Tryd.prog os Rows.fnDefsPrefixRow.laid) #[.slice none 0 0, .slice none 0 0] 8 (World.laidAll_os _ _ _)
      (World.shaped_of_ZipB (by kernel_rfl) (by kernel_rfl)) (by kernel_rfl) (by kernel_rfl) (by kernel_rfl)
      (by rw [MakeChecks.laidMetH_plain _ _ _ (by kernel_rfl)]; exact laidMet_laidAll _ (by kernel_rfl) (by kernel_rfl))) ?_
  intro W base args ds p hval hA hlt hXW hsh
  rw [Tryd.params5] at hA hval
  obtain ⟨v0, vs0, d0, ds0, p0, q0, hargs, rfl, rfl, h0, r0⟩ := trodAll_cons hA
  obtain ⟨v1, vs1, d1, ds1, p1, q1, rfl, rfl, rfl, h1, r1⟩ := trodAll_cons r0
  obtain ⟨rfl, rfl, rfl⟩ := trodAll_nil r1
  obtain rfl : args = #[v0, v1] := by cases args; simp_all
  obtain ⟨A0, cap0, bs0, rfl, hl0, hc0, ha0⟩ := open_bytes Tryd.underlying40 Tryd.underlying5 (by kernel_rfl) (hval 0 40 v0 rfl rfl) h0
  obtain ⟨A1, cap1, bs1, rfl, hl1, hc1, ha1⟩ := open_bytes Tryd.underlying40 Tryd.underlying5 (by kernel_rfl) (hval 1 40 v1 rfl rfl) h1
  exact walk W (envOf hXW hsh) A0 cap0 bs0 hl0 hc0 ha0.1 A1 cap1 bs1 hl1 hc1 ha1.1

theorem over : Rows.fnDefsPrefixRow.holds Tryd.pinned (OpenSpec.ofChange Rows.fnDefsPrefixSpec) :=
  OpenClaim.holds_of_wide 5 Tryd.f5 rfl rfl rfl rfl rfl rfl rfl ⟨rfl, rfl, rfl, rfl, rfl⟩ rfl rfl rfl rfl rfl (by kernel_rfl) Tryd.func5 (by kernel_rfl)
    (of_decide_eq_true (by kernel_rfl)) (by unfold Func.isWrapper; first | (rw [if_pos (by decide +kernel)]; kernel_rfl) | (rw [if_neg (by decide +kernel)]; exact ⟨rfl, rfl⟩))
    (fun os started H enc _ => lifted os started H enc)
/-- The tied card. -/
theorem proved : Rows.FnDefsPrefixCardSaid :=
  Claim7.holds_tied_plain_at .later [] Rows.fnDefsPrefixCard.laidKinds true Rows.fnDefsPrefixCard.stood.harness false over (fun _ h => by cases h) (by kernel_rfl) (fun _ h => by cases h) fnDefsPrefix_row_tie rfl ⟨rfl, rfl⟩ (by kernel_rfl) rfl
    (fun f fn hf hfn => by
      obtain rfl : f = 5 := Option.some.inj ((show Tryd.prog.funcNamed "loop.example/depkernel/laws.FnDefsPrefix" = some 5 by kernel_rfl).symm.trans hf) |>.symm
      obtain rfl : fn = Tryd.f5 := (Option.some.inj (Tryd.func5.symm.trans hfn)).symm
      exact ⟨by kernel_rfl, fun j t ht => by
        rw [Tryd.params5] at ht
        have hm : t ∈ [40, 40] := by simpa using Array.mem_of_getElem? ht
        have hall : ([40, 40].all fun u => !Tryd.prog.wantsStandIn u) = true := by kernel_rfl
        exact (show Tryd.prog.wantsStandIn t = false by simpa using List.all_eq_true.1 hall t hm)⟩)
    (by kernel_rfl)
#print axioms proved
end Go.Proofs.YtenpknapajckbaaDoor.defsPrefixL

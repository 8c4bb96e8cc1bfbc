/-
  PROVED: the law FnDefsText returns true for every input: formatting and parsing are inverse.
  CONDITIONS: none.
-/
import Derived.Test.YtolkohncmidpeaaGreatDoorGAB
import Derived.Test.YtolkohncmidpeaaGreatDoorGBI
import Derived.Test.YtolkohncmidpeaaGreatDoorGBJ
import Derived.Test.YtolkohncmidpeaaGreatDoorGBO
import Derived.Test.YtolkohncmidpeaaGreatDoorGBP
import Derived.Test.YtolkohncmidpeaaGreatDoorGBQ
import Derived.Test.YtolkohncmidpeaaGreatDoorGBR
import Derived.ChangeMaps5
import Derived.Deep.RegionHeld3
import Derived.LaidMore
import Derived.Lay
import Derived.ProofKit
import Derived.SevenTiedAt
import Derived.Test.YtolkohncmidpeaaGreatDoorCards
import Derived.Test.YtolkohncmidpeaaGreatDoorRows
import Derived.Test.YtolkohncmidpeaaGreatDoorTie
namespace Go.Proofs.YtolkohncmidpeaaGreatDoor.defsTextL
open Go.RowKit Go.ChangeShapes Go.WideShapes Go.ChangeAt
set_option linter.unusedVariables false

theorem own : ownKnob Tryz.prog.godebug = none := by kernel_rfl

theorem envOf {W : World} (h : laidMetH Tryz.prog Rows.fnDefsTextRow.laid W) (hsh : W.ShapedOpen Tryz.prog) : EnvR W := by
  rw [MakeChecks.laidMetH_plain _ _ _ (by kernel_rfl)] at h
  exact envR_of h hsh
theorem bytes_at {w0 w : World} {A : Option Addr} {bs : List Int} (h : Bytes w0 w0.heap.size A bs) (e : Ext w0 w) : Bytes w w.heap.size A bs := by
  have h2 := h.ext e
  have := e.size
  unfold Bytes at h2 ⊢
  exact h2.imp id (fun ⟨b, o, h3, h4, h5⟩ => ⟨b, o, h3, by omega, h5⟩)
theorem psD_nil : psD [] = some [] := by decide +kernel
/-- What is parsed from the text of definitions. -/
theorem psD_fmt {ks : List Tr} {n : Nat} (hn : ks.length = n * 2) : ∃ qs, psD (fmtDV ks n) = some qs ∧ (dfV ks n = true → qs = ks) := by
  unfold fmtDV
  by_cases hd : dfV ks n = true
  · rw [if_pos hd]
    exact ⟨ks, (back_fmt hn hd).1, fun _ => rfl⟩
  · rw [if_neg hd]
    exact ⟨[], psD_nil, fun h => absurd h hd⟩
theorem fmt_psD {l : List UInt8} {ks : List Tr} {n : Nat} (h : psD l = some ks) (hn : ks.length = n * 2) : fmtDV ks n = l := by
  obtain ⟨h1, h2⟩ := psD_of h
  rw [hn, Nat.mul_div_cancel _ (by decide)] at h1
  unfold fmtDV
  rw [if_pos h1, h2]
theorem fmtDV_small {ks : List Tr} {n : Nat} (hn : ks.length = n * 2) : (fmtDV ks n).length ≤ 1000000000 := by
  have := fmtDV_len ks n hn
  omega
set_option maxRecDepth 100000 in
set_option maxHeartbeats 40000000 in
theorem walk (w0 : World) (hE0 : EnvR w0) (A : Option Addr) (cap : Nat) (bs : List Int) (hl : bs.length ≤ cap) (hc : cap ≤ maxLen) (hB : Bytes w0 w0.heap.size A bs) (Am : Option Addr) (capm : Nat) (ms : List Int) (hlm : ms.length ≤ capm) (hcm : capm ≤ maxLen) (hBm : Bytes w0 w0.heap.size Am ms) :
    Calls Tryz.prog 3 #[.slice A bs.length cap, .slice Am ms.length capm] w0 fun e w' => e = .returned (.bool true) ∧ Ext w0 w' := by
  have hcc := hc
  unfold maxLen at hcc
  have hccm := hcm
  unfold maxLen at hccm
  by_cases hn : 1048576 < (bs.length : Int)
  · have d1 : decide (1048576 < (bs.length : Int)) = true := decide_eq_true hn
    go_enter Tryz.func3, Tryz.ntmps3
    go_wp2_with fail
    go_ret
    exact ⟨rfl, Ext.refl _⟩
  have d1 : decide (1048576 < (bs.length : Int)) = false := decide_eq_false hn
  by_cases hn2 : 1048576 < (ms.length : Int)
  · have d2 : decide (1048576 < (ms.length : Int)) = true := decide_eq_true hn2
    go_enter Tryz.func3, Tryz.ntmps3
    go_wp2_with fail
    go_ret
    exact ⟨rfl, Ext.refl _⟩
  have d2 : decide (1048576 < (ms.length : Int)) = false := decide_eq_false hn2
  go_enter Tryz.func3, Tryz.ntmps3
  go_wp2_with fail
  refine (drawFormatDefs_any w0 A cap bs hl hc hB).mono ?_
  rintro e w1 ⟨B, n, c, ks, rfl, hnc, hcx, hnil, hkn, hn9, hK, e1⟩
  have HKN := Lib.hid hkn
  have hcc1 := hcx
  unfold maxLen at hcc1
  obtain ⟨qs, hq1, hq2⟩ := psD_fmt hkn
  have hsm := fmtDV_small hkn
  have HI := Lib.hid (fun W (hW : Ext w1 W) => formatDefs_any ks n c W (hE0.1.ext (e1.trans hW)) B (hK.ext hW) hkn hnc hcx)
  have HSP := Lib.hid (fun W (hW : Ext w1 W) => specFormatDefs_any ks n c W B (hK.ext hW) hkn hnc hcx)
  have HV := Lib.hid (fun W (hW : Ext w1 W) => defsValid_any ks n c W B (hK.ext hW) hkn hnc hcx)
  have HVS := Lib.hid (fun W (hW : Ext w1 W) => specDefsValid_any ks n c W B (hK.ext hW) hkn hnc hcx)
  have HP := Lib.hid (fun W (hW : Ext w1 W) => (show Calls Tryz.prog 11 #[.string (ofL (fmtDV ks n))] W (PdQ W (some qs)) from by rw [← hq1]; exact parseDefsI_any (fmtDV ks n) hsm W (hE0.ext (e1.trans hW))))
  unfold PdQ at HP
  obtain ⟨S, hS⟩ : ∃ S, ofL (fmtDV ks n) = S := ⟨_, rfl⟩
  rw [hS] at HI HSP HP
  have HQ2 := Lib.hid hq2
  obtain ⟨z, hz⟩ : ∃ z, dfV ks n = z := ⟨_, rfl⟩
  rw [hz] at HV HVS HQ2
  have hzz : (z != z) = false := by simp
  have hSS : (S.toList == S.toList) = true := by simp
  have hSS2 : (S.toList != S.toList) = false := by simp
  clear hz hS hsm hq1 hq2 hkn
  go_wp2_with fail
  refine (HI.out w1 (Ext.refl _)).mono ?_
  rintro e w2 ⟨rfl, e2⟩
  go_wp2_with fail
  refine (HP.out w2 e2).mono ?_
  rintro e w3 ⟨A3, n3, c3, rfl, hl3, hc3, hn3, hM3, e3⟩
  have X3 := e2.trans e3
  have HN3 := Lib.hid hn3
  have hK3 : LiesK w3 A3 qs := hM3.lies
  have hcc3 := hc3
  unfold maxLen at hcc3
  clear hn3 hM3
  go_wp2_with fail
  refine (HSP.out w3 X3).mono ?_
  rintro e w4 ⟨rfl, e4⟩
  have X4 := X3.trans e4
  go_wp2_with fail
  refine (HV.out w4 X4).mono ?_
  rintro e w5 ⟨rfl, e5⟩
  have X5 := X4.trans e5
  go_wp2_with fail
  refine (HVS.out w5 X5).mono ?_
  rintro e w6 ⟨rfl, e6⟩
  have X6 := X5.trans e6
  go_wp2_with fail
  refine (HV.out w6 X6).mono ?_
  rintro e w7 ⟨rfl, e7⟩
  have X7 := X6.trans e7
  cases z with
  | false =>
    go_wp2_with fail
    refine (drawParseDefs_any w7 Am capm ms hlm hcm (bytes_at hBm (e1.trans X7))).mono ?_
    rintro e w8 ⟨s, rfl, hs, e8⟩
    have hsl : s.data.toList.length = s.size := Array.length_toList
    have HPI := Lib.hid (fun W (hW : Ext w8 W) => (show Calls Tryz.prog 11 #[.string s] W (PdQ W (psD s.data.toList)) from by
      have := parseDefsI_any s.data.toList (by omega) W (hE0.ext (((e1.trans X7).trans e8).trans hW))
      rwa [ofL_of] at this))
    have HPS := Lib.hid (fun W => specParseDefs_any s W (by omega))
    have HFB := Lib.hid (fun ks n (h : psD s.data.toList = some ks) (hn : ks.length = n * 2) => fmt_psD h hn)
    obtain ⟨P, hP⟩ : ∃ P, psD s.data.toList = P := ⟨_, rfl⟩
    rw [hP] at HPI HPS HFB
    unfold PdQ at HPI
    clear hP hsl
    go_wp2_with fail
    refine (HPI.out w8 (Ext.refl _)).mono ?_
    rintro e w9 ⟨A9, n9, c9, rfl, hl9, hc9, hn9', hM9, e9⟩
    have HN9 := Lib.hid hn9'
    have hK9 : LiesK w9 A9 (P.getD []) := hM9.lies
    have hcc9 := hc9
    unfold maxLen at hcc9
    clear hn9' hM9
    go_wp2_with fail
    refine (HPS.out w9).mono ?_
    rintro e w10 ⟨A10, n10, c10, rfl, hl10, hc10, hn10, hK10, e10⟩
    have hL10 : LiesK w10 A10 (P.getD []) := InK.mono (fun b hb => hb.2) (fun _ _ => rfl) hK10
    obtain rfl : n10 = n9 := by have := HN9.out; omega
    clear hn10 hK10
    have HD2 := Lib.hid (fun W (hW : Ext w10 W) => dkDefs_self (P.getD []) n10 W A9 A10 c9 c10 (hK9.ext (e10.trans hW)) HN9.out hl9 hc9 (hL10.ext hW) hl10 hc10)
    have hpp : (P.isSome == P.isSome) = true := by simp
    go_wp2_with fail
    refine (HD2.out w10 (Ext.refl _)).mono ?_
    rintro e w11 ⟨rfl, e11⟩
    cases P with
    | none =>
      have hnn : (!(none : Option (List Tr)).isSome) = true := rfl
      go_wp2_with fail
      go_ret
      exact ⟨rfl, ((((e1.trans X7).trans e8).trans e9).trans e10).trans e11⟩
    | some rs =>
      have HF := Lib.hid (fun W (hW : Ext w9 W) => formatDefs_any rs n10 c9 W (hE0.1.ext ((((e1.trans X7).trans e8).trans e9).trans hW)) A9 (hK9.ext hW) HN9.out hl9 hc9)
      rw [HFB.out rs n10 rfl HN9.out, ofL_of] at HF
      have hss : (s.toList == s.toList) = true := by simp
      go_wp2_with fail
      refine (HF.out w11 (e10.trans e11)).mono ?_
      rintro e w12 ⟨rfl, e12⟩
      go_wp2_with fail
      go_ret
      exact ⟨rfl, (((((e1.trans X7).trans e8).trans e9).trans e10).trans e11).trans e12⟩
  | true =>
    have hqk := HQ2.out rfl
    subst hqk
    obtain rfl : n3 = n := by have := HKN.out; have := HN3.out; simp only [Option.getD_some] at this; omega
    have HD := Lib.hid (fun W (hW : Ext w7 W) => dkDefs_self qs n3 W A3 B c3 c (hK3.ext ((((e4.trans e5).trans e6).trans e7).trans hW)) HKN.out hl3 hc3 (hK.ext (X7.trans hW)) hnc hcx)
    go_wp2_with fail
    refine (HD.out w7 (Ext.refl _)).mono ?_
    rintro e w8' ⟨rfl, e8'⟩
    replace X7 := X7.trans e8'
    clear HD
    generalize w8' = w7 at X7
    go_wp2_with fail
    refine (drawParseDefs_any w7 Am capm ms hlm hcm (bytes_at hBm (e1.trans X7))).mono ?_
    rintro e w8 ⟨s, rfl, hs, e8⟩
    have hsl : s.data.toList.length = s.size := Array.length_toList
    have HPI := Lib.hid (fun W (hW : Ext w8 W) => (show Calls Tryz.prog 11 #[.string s] W (PdQ W (psD s.data.toList)) from by
      have := parseDefsI_any s.data.toList (by omega) W (hE0.ext (((e1.trans X7).trans e8).trans hW))
      rwa [ofL_of] at this))
    have HPS := Lib.hid (fun W => specParseDefs_any s W (by omega))
    have HFB := Lib.hid (fun ks n (h : psD s.data.toList = some ks) (hn : ks.length = n * 2) => fmt_psD h hn)
    obtain ⟨P, hP⟩ : ∃ P, psD s.data.toList = P := ⟨_, rfl⟩
    rw [hP] at HPI HPS HFB
    unfold PdQ at HPI
    clear hP hsl
    go_wp2_with fail
    refine (HPI.out w8 (Ext.refl _)).mono ?_
    rintro e w9 ⟨A9, n9, c9, rfl, hl9, hc9, hn9', hM9, e9⟩
    have HN9 := Lib.hid hn9'
    have hK9 : LiesK w9 A9 (P.getD []) := hM9.lies
    have hcc9 := hc9
    unfold maxLen at hcc9
    clear hn9' hM9
    go_wp2_with fail
    refine (HPS.out w9).mono ?_
    rintro e w10 ⟨A10, n10, c10, rfl, hl10, hc10, hn10, hK10, e10⟩
    have hL10 : LiesK w10 A10 (P.getD []) := InK.mono (fun b hb => hb.2) (fun _ _ => rfl) hK10
    obtain rfl : n10 = n9 := by have := HN9.out; omega
    clear hn10 hK10
    have HD2 := Lib.hid (fun W (hW : Ext w10 W) => dkDefs_self (P.getD []) n10 W A9 A10 c9 c10 (hK9.ext (e10.trans hW)) HN9.out hl9 hc9 (hL10.ext hW) hl10 hc10)
    have hpp : (P.isSome == P.isSome) = true := by simp
    go_wp2_with fail
    refine (HD2.out w10 (Ext.refl _)).mono ?_
    rintro e w11 ⟨rfl, e11⟩
    cases P with
    | none =>
      have hnn : (!(none : Option (List Tr)).isSome) = true := rfl
      go_wp2_with fail
      go_ret
      exact ⟨rfl, ((((e1.trans X7).trans e8).trans e9).trans e10).trans e11⟩
    | some rs =>
      have HF := Lib.hid (fun W (hW : Ext w9 W) => formatDefs_any rs n10 c9 W (hE0.1.ext ((((e1.trans X7).trans e8).trans e9).trans hW)) A9 (hK9.ext hW) HN9.out hl9 hc9)
      rw [HFB.out rs n10 rfl HN9.out, ofL_of] at HF
      have hss : (s.toList == s.toList) = true := by simp
      go_wp2_with fail
      refine (HF.out w11 (e10.trans e11)).mono ?_
      rintro e w12 ⟨rfl, e12⟩
      go_wp2_with fail
      go_ret
      exact ⟨rfl, (((((e1.trans X7).trans e8).trans e9).trans e10).trans e11).trans e12⟩

set_option maxRecDepth 100000 in
theorem lifted (os : Os) (started : os.Started) (H : Type) (enc : TypeId × Value → H) :
    ReturnsInHanded {} Tryz.checked os 3 .any (fun w args => (Rows.fnDefsTextSpec.pre enc Tryz.prog Tryz.f3 [] false w args ∧ laidMetH Tryz.prog Rows.fnDefsTextRow.laid w) ∧ sizedMet enc Tryz.prog Tryz.f3 (OpenSpec.ofChange Rows.fnDefsTextSpec) false w args) (Rows.fnDefsTextSpec.post enc Tryz.prog Tryz.f3 false true false false) := by
  refine law_liftD (C := Tryz.checked) (fn := Tryz.f3) (tb := 4) (X := fun w _ => laidMetH Tryz.prog Rows.fnDefsTextRow.laid w) (fun _ _ _ hh h => h.of_heap hh) own started (by kernel_rfl) Tryz.func3 (by kernel_rfl) (by kernel_rfl) rfl Tryz.underlying4 rfl
    (fun ds h => by
      match ds, h with
      | [d1, d2], _ => exact ⟨rfl, rfl, rfl⟩)
    (ChangeSpec.witness_shaped (enc := enc) (C := Tryz.checked) (os := os) (X := fun w _ => laidMetH Tryz.prog Rows.fnDefsTextRow.laid w) false (World.laidAll Tryz.prog os Rows.fnDefsTextRow.laid) #[.slice none 0 0, .slice none 0 0] 8 (World.laidAll_os _ _ _)
      (World.shaped_of_ZipB (by kernel_rfl) (by kernel_rfl)) (by kernel_rfl) (by kernel_rfl) (by kernel_rfl)
      (by rw [MakeChecks.laidMetH_plain _ _ _ (by kernel_rfl)]; exact laidMet_laidAll _ (by kernel_rfl) (by kernel_rfl))) ?_
  intro W base args ds p hval hA hlt hXW hsh
  rw [Tryz.params3] at hA hval
  obtain ⟨v0, vs0, d0, ds0, p0, q0, hargs, rfl, rfl, h0, r0⟩ := trodAll_cons hA
  obtain ⟨v1, vs1, d1, ds1, p1, q1, rfl, rfl, rfl, h1, r1⟩ := trodAll_cons r0
  obtain ⟨rfl, rfl, rfl⟩ := trodAll_nil r1
  obtain rfl : args = #[v0, v1] := by cases args; simp_all
  obtain ⟨A0, cap0, bs0, rfl, hl0, hc0, ha0⟩ := open_bytes Tryz.underlying22 Tryz.underlying5 (by kernel_rfl) (hval 0 22 v0 rfl rfl) h0
  obtain ⟨A1, cap1, bs1, rfl, hl1, hc1, ha1⟩ := open_bytes Tryz.underlying22 Tryz.underlying5 (by kernel_rfl) (hval 1 22 v1 rfl rfl) h1
  exact walk W (envOf hXW hsh) A0 cap0 bs0 hl0 hc0 ha0.1 A1 cap1 bs1 hl1 hc1 ha1.1

theorem over : Rows.fnDefsTextRow.holds Tryz.pinned (OpenSpec.ofChange Rows.fnDefsTextSpec) :=
  OpenClaim.holds_of_wide 3 Tryz.f3 rfl rfl rfl rfl rfl rfl rfl ⟨rfl, rfl, rfl, rfl, rfl⟩ rfl rfl rfl rfl rfl (by kernel_rfl) Tryz.func3 (by kernel_rfl)
    (of_decide_eq_true (by kernel_rfl)) (by unfold Func.isWrapper; first | (rw [if_pos (by decide +kernel)]; kernel_rfl) | (rw [if_neg (by decide +kernel)]; exact ⟨rfl, rfl⟩))
    (fun os started H enc _ => lifted os started H enc)
/-- The tied card. -/
theorem proved : Rows.FnDefsTextCardSaid :=
  Claim7.holds_tied_plain_at .later [] Rows.fnDefsTextCard.laidKinds true Rows.fnDefsTextCard.stood.harness true over (fun _ h => by cases h) (by kernel_rfl) (fun _ h => by cases h) fnDefsText_row_tie rfl ⟨rfl, rfl⟩ (by kernel_rfl) rfl
    (fun f fn hf hfn => by
      obtain rfl : f = 3 := Option.some.inj ((show Tryz.prog.funcNamed "loop.example/depkernel/laws.FnDefsText" = some 3 by kernel_rfl).symm.trans hf) |>.symm
      obtain rfl : fn = Tryz.f3 := (Option.some.inj (Tryz.func3.symm.trans hfn)).symm
      exact ⟨by kernel_rfl, fun j t ht => by
        rw [Tryz.params3] at ht
        have hm : t ∈ [22, 22] := by simpa using Array.mem_of_getElem? ht
        have hall : ([22, 22].all fun u => !Tryz.prog.wantsStandIn u) = true := by kernel_rfl
        exact (show Tryz.prog.wantsStandIn t = false by simpa using List.all_eq_true.1 hall t hm)⟩)
    (by kernel_rfl)
#print axioms proved
end Go.Proofs.YtolkohncmidpeaaGreatDoor.defsTextL

/-
  PROVED: the law FnExactDefTypes returns true for every input: the program's DefTypes returns what the reference's returns.
  CONDITIONS: none.
-/
import Derived.Test.YtpbmlpngafpoeaaRows
import Derived.Test.YtpbmlpngafpoeaaLift
import Derived.Test.YtpbmlpngafpoeaaDefTypes
import Derived.Test.YtpbmlpngafpoeaaLiftD
import Derived.Deep.RegionHeld3
namespace Go.Proofs.Ytpbmlpngafpoeaa.exDefTypes
open Go.RowKit Go.ChangeShapes Go.WideShapes Go.ChangeAt
set_option linter.unusedVariables false

theorem own : ownKnob Try.prog.godebug = none := by kernel_rfl
theorem tyTerm : TreeTy Try.prog 37 35 3 (fld "Kind" 3 0 0) (fld "N" 3 1 8) (fld "Kids" 35 2 16) := ⟨Try.underlying37, Try.underlying35, Try.underlying3, rfl, rfl, rfl, rfl, rfl, rfl, by kernel_rfl, by kernel_rfl, by kernel_rfl⟩
theorem tyDef : DefTy Try.prog 83 22 37 (fld "Type" 37 0 0) (fld "Body" 37 3 40) := ⟨Try.underlying83, Try.underlying22, rfl, rfl, rfl, rfl, by kernel_rfl⟩

set_option maxRecDepth 100000 in
set_option maxHeartbeats 4000000 in
theorem walk (w0 : World) (A0 : Option Addr) (n0 cap0 : Nat) (ks0 : List Tr) (hn0 : ks0.length = n0 * 2) (hl0 : n0 ≤ cap0) (hc0 : cap0 ≤ maxLen) (ha0 : LiesK w0 A0 ks0) :
    Calls Try.prog 4 #[.slice A0 n0 cap0] w0 fun e w' => e = .returned (.bool true) ∧ Ext w0 w' := by
  have hcc0 := hc0
  unfold maxLen at hcc0
  go_enter Try.func4, Try.ntmps4
  go_wp2_with fail
  refine (szDefS_any ks0 n0 cap0 w0 A0 1048576 (ha0.ext (Ext.refl w0)) hn0 hl0 hc0 (by omega) (by omega)).mono ?_
  rintro e w1 ⟨rfl, e1⟩
  have s1 : w0.heap.size ≤ w1.heap.size := e1.size
  have hz0 := szD_le ks0 n0 1048576 (by omega)
  have hf0 := fun h => szD_fit (left := 1048576) (by omega) hn0 h
  generalize szD ks0 n0 1048576 = q0 at hz0 hf0
  by_cases hq0 : q0 < 0
  · have hd : decide (q0 < 0) = true := decide_eq_true hq0
    go_wp2_with fail
    have X0_1 : Ext w0 w1 := (Ext.refl w0).trans e1
    go_ret
    exact ⟨rfl, X0_1⟩
  have hd0 : decide (q0 < 0) = false := decide_eq_false hq0
  obtain ⟨f0a, f0b, f0c, f0d⟩ := hf0 hq0
  have hcn0 : ∀ t ∈ ks0, cnt t ≤ 1048577 := fun t ht => by have := f0b t ht; omega
  have HCN0 := Lib.hid hcn0
  clear hf0 f0b hcn0
  obtain ⟨rs0, hrs0⟩ : ∃ r, r = tysV ks0 n0 := ⟨_, rfl⟩
  obtain ⟨br1, hbr1⟩ : ∃ b, b = dfV ks0 n0 := ⟨_, rfl⟩
  have hrc : cnts rs0 ≤ cnts ks0 := by
    rw [hrs0]
    unfold tysV
    split
    · exact tys_cnts ks0
    · simp [cnts]
  have HS := fun W B c h1 h2 h3 => specDefTypes_any ks0 n0 c W B h1 hn0 h2 h3
  have HI := fun W B c h1 h2 h3 => defTypes_any ks0 n0 c W B h1 hn0 h2 h3 HCN0.out
  rw [← hrs0, ← hbr1] at HS HI
  have HS := Lib.hid HS
  have HI := Lib.hid HI
  clear hrs0 hbr1
  -- the reference's answer
  go_wp2_with fail
  have X0_1 : Ext w0 w1 := (Ext.refl w0).trans e1
  refine (toDefS_any ks0 n0 cap0 w1 A0 (ha0.ext X0_1) hn0 hl0 hc0 HCN0.out (by omega)).mono ?_
  rintro e w2 ⟨Bs0, rfl, hMs0, e2⟩
  have s2 : w1.heap.size ≤ w2.heap.size := e2.size
  go_wp2_with fail
  refine (HS.out w2 _ _ (hMs0.lies.ext (Ext.refl w2)) (Nat.le_refl _) (by unfold maxLen; omega)).mono ?_
  rintro e w3 ⟨Bw0, cw0, rfl, hlw0, hcw0, hMw0, e3⟩
  have s3 : w2.heap.size ≤ w3.heap.size := e3.size
  go_wp2_with fail
  have X0_2 : Ext w0 w2 := X0_1.trans e2
  have X0_3 : Ext w0 w3 := X0_2.trans e3
  refine (toDefS_any ks0 n0 cap0 w3 A0 (ha0.ext X0_3) hn0 hl0 hc0 HCN0.out (by omega)).mono ?_
  rintro e w4 ⟨Bp0, rfl, hMp0, e4⟩
  have s4 : w3.heap.size ≤ w4.heap.size := e4.size
  obtain ⟨Lp0, hOp0, hFp0⟩ := hMp0
  go_wp2_with fail
  -- the program's answer
  refine (HI.out w4 _ _ (MadeD.lies ⟨Lp0, hOp0, hFp0.mono (Nat.le_refl _) (by omega)⟩) (Nat.le_refl _) (by unfold maxLen; omega)).mono ?_
  rintro e w5 ⟨Bg0, cg0, rfl, hlg0, hcg0, hMg0, e5⟩
  have s5 : w4.heap.size ≤ w5.heap.size := e5.size
  obtain ⟨Lg0, hOg0, hFg0⟩ := hMg0
  have hbb1 : (br1 != br1) = false := by simp
  go_wp2_with fail
  have X3_4 : Ext w3 w4 := (Ext.refl w3).trans e4
  have X3_5 : Ext w3 w5 := X3_4.trans e5
  refine (eqTermS rs0 rs0 (fun t _ => eqTerm_any t) w5 _ _ _ _ (MadeK.lies ⟨Lg0, hOg0, hFg0.mono (Nat.le_refl _) (by omega)⟩) hlg0 hcg0 (hMw0.ext X3_5) hlw0 hcw0).mono ?_
  rw [eqTs_self]
  rintro e w6 ⟨rfl, e6⟩
  have s6 : w5.heap.size ≤ w6.heap.size := e6.size
  go_wp2_with fail
  -- the arguments are as they were
  have X0_4 : Ext w0 w4 := X0_3.trans e4
  have X0_5 : Ext w0 w5 := X0_4.trans e5
  have X0_6 : Ext w0 w6 := X0_5.trans e6
  refine (toDefS_any ks0 n0 cap0 w6 A0 (ha0.ext X0_6) hn0 hl0 hc0 HCN0.out (by omega)).mono ?_
  rintro e w7 ⟨Bc0, rfl, hMc0, e7⟩
  have s7 : w6.heap.size ≤ w7.heap.size := e7.size
  go_wp2_with fail
  have op0_5 := hOp0.mono (fun x hx => e5.heap x (by have := (hFp0.2 x hx).2; omega))
  have op0_6 := op0_5.mono (fun x hx => e6.heap x (by have := (hFp0.2 x hx).2; omega))
  have op0_7 := op0_6.mono (fun x hx => e7.heap x (by have := (hFp0.2 x hx).2; omega))
  refine (eqDefS_any ks0 ks0 n0 n0 w7 _ _ _ _ (MadeD.lies ⟨Lp0, op0_7, hFp0.mono (Nat.le_refl _) (by omega)⟩) hn0 (Nat.le_refl _) (by unfold maxLen; omega) (hMc0.lies.ext (Ext.refl w7)) hn0 (Nat.le_refl _) (by unfold maxLen; omega)).mono ?_
  rw [eqTs_self]
  rintro e w8 ⟨rfl, e8⟩
  have s8 : w7.heap.size ≤ w8.heap.size := e8.size
  go_wp2_with fail
  -- the arguments are marked
  have op0_8 := op0_7.mono (fun x hx => e8.heap x (by have := (hFp0.2 x hx).2; omega))
  refine (markDefS_any ks0 n0 n0 w8 _ Lp0 (1) op0_8 hFp0.1 hn0 (Nat.le_refl _) (by unfold maxLen; omega) (by omega) (by omega)).mono ?_
  rintro e w9 ⟨rfl, o9⟩
  have s9 : w8.heap.size ≤ w9.heap.size := o9.size
  have hk0 : decide (1 + 2 * (cnts ks0 : Int) < 0) = false := decide_eq_false (by omega)
  go_wp2_with fail
  have og0_6 := hOg0.mono (fun x hx => e6.heap x (by have := (hFg0.2 x hx).2; omega))
  have og0_7 := og0_6.mono (fun x hx => e7.heap x (by have := (hFg0.2 x hx).2; omega))
  have og0_8 := og0_7.mono (fun x hx => e8.heap x (by have := (hFg0.2 x hx).2; omega))
  have og0_9 := og0_8.mono (fun x hx => o9.block x (by have := (hFg0.2 x hx).2; omega) (fun hm => by have := hFg0.2 x hx; have := hFp0.2 x hm; omega))
  have X3_6 : Ext w3 w6 := X3_5.trans e6
  have X3_7 : Ext w3 w7 := X3_6.trans e7
  have X3_8 : Ext w3 w8 := X3_7.trans e8
  have X3_9 : Ext w3 w9 := o9.ext X3_8 (fun b hb => by have := (hFp0.2 b hb).1; omega)
  refine (eqTermS rs0 rs0 (fun t _ => eqTerm_any t) w9 _ _ _ _ (MadeK.lies ⟨Lg0, og0_9, hFg0.mono (Nat.le_refl _) (by omega)⟩) hlg0 hcg0 (hMw0.ext X3_9) hlw0 hcw0).mono ?_
  rw [eqTs_self]
  rintro e w10 ⟨rfl, e10⟩
  have s10 : w9.heap.size ≤ w10.heap.size := e10.size
  go_wp2_with fail
  -- the answer is marked
  have og0_10 := og0_9.mono (fun x hx => e10.heap x (by have := (hFg0.2 x hx).2; omega))
  refine (markTermS_any (.mk 0 0 rs0) w10 _ _ Lg0 1 og0_10 hFg0.1 hlg0 hcg0 (by omega) (by simp only [Tr.kids]; omega)).mono ?_
  rintro e w11 ⟨rfl, hOm, o11⟩
  have s11 : w10.heap.size ≤ w11.heap.size := o11.size
  simp only [Tr.kids] at hOm
  have hKm : LiesK w11 Bg0 (mkS rs0 1) := MadeK.lies ⟨Lg0, hOm, hFg0.mono (Nat.le_refl _) (by omega)⟩
  have hml := mkS_len rs0 1
  have hmc := cnt_mkS rs0 1
  have hmd := hdS_mk rs0 1 (by omega)
  have hlm : (mkS rs0 1).length ≤ cg0 := by omega
  have hH := fun w' (hw : Ext w11 w') => heldTermS_any (.mk 0 0 (mkS rs0 1)) w' Bg0 cg0 1 (hKm.ext hw) hlm hcg0 (by omega) (by simp only [Tr.kids]; omega)
  simp only [Tr.kids] at hH
  rw [hml, hmd] at hH
  have HH := Lib.hid hH
  clear hH hmd hOm
  simp only [Tr.kids]
  have hm0 : decide (1 + 2 * (cnts rs0 : Int) < 0) = false := decide_eq_false (by omega)
  have hmm : (1 + 2 * (cnts rs0 : Int) != 1 + 2 * (cnts rs0 : Int)) = false := by simp
  go_wp2_with fail
  refine (HH.out w11 (Ext.refl w11)).mono ?_
  rintro e w12 ⟨rfl, e12⟩
  have s12 : w11.heap.size ≤ w12.heap.size := e12.size
  go_wp2_with fail
  -- once more
  have X0_7 : Ext w0 w7 := X0_6.trans e7
  have X0_8 : Ext w0 w8 := X0_7.trans e8
  have X0_9 : Ext w0 w9 := o9.ext X0_8 (fun b hb => by have := (hFp0.2 b hb).1; omega)
  have X0_10 : Ext w0 w10 := X0_9.trans e10
  have X0_11 : Ext w0 w11 := o11.ext X0_10 (fun b hb => by have := (hFg0.2 b hb).1; omega)
  have X0_12 : Ext w0 w12 := X0_11.trans e12
  refine (toDefS_any ks0 n0 cap0 w12 A0 (ha0.ext X0_12) hn0 hl0 hc0 HCN0.out (by omega)).mono ?_
  rintro e w13 ⟨Bh0, rfl, hMh0, e13⟩
  have s13 : w12.heap.size ≤ w13.heap.size := e13.size
  go_wp2_with fail
  refine (HI.out w13 _ _ (hMh0.lies.ext (Ext.refl w13)) (Nat.le_refl _) (by unfold maxLen; omega)).mono ?_
  rintro e w14 ⟨Bh0, ch0, rfl, hlh0, hch0, hMh0, e14⟩
  have s14 : w13.heap.size ≤ w14.heap.size := e14.size
  obtain ⟨Lh0, hOh0, hFh0⟩ := hMh0
  go_wp2_with fail
  have X3_10 : Ext w3 w10 := X3_9.trans e10
  have X3_11 : Ext w3 w11 := o11.ext X3_10 (fun b hb => by have := (hFg0.2 b hb).1; omega)
  have X3_12 : Ext w3 w12 := X3_11.trans e12
  have X3_13 : Ext w3 w13 := X3_12.trans e13
  have X3_14 : Ext w3 w14 := X3_13.trans e14
  refine (eqTermS rs0 rs0 (fun t _ => eqTerm_any t) w14 _ _ _ _ (MadeK.lies ⟨Lh0, hOh0, hFh0.mono (Nat.le_refl _) (by omega)⟩) hlh0 hch0 (hMw0.ext X3_14) hlw0 hcw0).mono ?_
  rw [eqTs_self]
  rintro e w15 ⟨rfl, e15⟩
  have s15 : w14.heap.size ≤ w15.heap.size := e15.size
  go_wp2_with fail
  go_wp2_with fail
  have X11_12 : Ext w11 w12 := (Ext.refl w11).trans e12
  have X11_13 : Ext w11 w13 := X11_12.trans e13
  have X11_14 : Ext w11 w14 := X11_13.trans e14
  have X11_15 : Ext w11 w15 := X11_14.trans e15
  refine (HH.out w15 X11_15).mono ?_
  rintro e w16 ⟨rfl, e16⟩
  have s16 : w15.heap.size ≤ w16.heap.size := e16.size
  go_wp2_with fail
  have X0_13 : Ext w0 w13 := X0_12.trans e13
  have X0_14 : Ext w0 w14 := X0_13.trans e14
  have X0_15 : Ext w0 w15 := X0_14.trans e15
  have X0_16 : Ext w0 w16 := X0_15.trans e16
  go_ret
  exact ⟨rfl, X0_16⟩

set_option maxRecDepth 100000 in
theorem lifted (os : Os) (started : os.Started) (H : Type) (enc : TypeId × Value → H) :
    ReturnsInHanded {} Try.checked os 4 .any (Rows.fnExactDefTypesSpec.pre6 enc Try.prog Try.f4 Rows.fnExactDefTypesRow.domain false) (Rows.fnExactDefTypesSpec.post enc Try.prog Try.f4 false true false false) := by
  refine law_lift (C := Try.checked) (fn := Try.f4) (tb := 4) own started (by kernel_rfl) Try.func4 (by kernel_rfl) (by kernel_rfl) rfl Try.underlying4 rfl
    (fun ds h => by
      match ds, h with
      | [d1], _ => exact ⟨rfl, rfl, rfl⟩)
    (ChangeSpec.witness6 (enc := enc) (C := Try.checked) false ⟨#[], #[.slice none 0 0], []⟩ 8 (by kernel_rfl) (by kernel_rfl) (by kernel_rfl) (by kernel_rfl)) ?_
  intro W base args ds p hval hA hlt
  rw [Try.params4] at hA hval
  obtain ⟨v0, vs0, d0, ds0, p0, q0, hargs, rfl, rfl, h0, r0⟩ := trodAll_cons hA
  obtain ⟨rfl, rfl, rfl⟩ := trodAll_nil r0
  obtain rfl : args = #[v0] := by cases args; simp_all
  obtain ⟨A0, n0, cap0, ks0, rfl, hn0, hl0, hc0, ha0⟩ := open_defs tyDef tyTerm (hval 0 22 v0 rfl rfl) h0
  exact walk W A0 n0 cap0 ks0 hn0 hl0 hc0 ha0

theorem over : Rows.fnExactDefTypesRow.holds Try.pinned (OpenSpec.ofChange Rows.fnExactDefTypesSpec) :=
  OpenClaim.holds_of_wide 4 Try.f4 rfl rfl rfl rfl rfl rfl rfl ⟨rfl, rfl, rfl, rfl, rfl⟩ rfl rfl rfl rfl rfl (by kernel_rfl) Try.func4 (by kernel_rfl)
    (of_decide_eq_true (by kernel_rfl)) (by unfold Func.isWrapper; first | (rw [if_pos (by decide +kernel)]; kernel_rfl) | (rw [if_neg (by decide +kernel)]; exact ⟨rfl, rfl⟩))
    (fun os started H enc _ => lifted os started H enc)

theorem proved : Rows.FnExactDefTypesSaid := over
#print axioms proved
end Go.Proofs.Ytpbmlpngafpoeaa.exDefTypes

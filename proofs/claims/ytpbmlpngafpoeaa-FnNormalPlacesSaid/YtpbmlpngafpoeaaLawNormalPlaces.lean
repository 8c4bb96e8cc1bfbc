/-
  PROVED: the law FnNormalPlaces returns true for every input: a term is normal exactly if no place has a redex.
  CONDITIONS: none.
-/
import Derived.Test.YtpbmlpngafpoeaaRows
import Derived.Test.YtpbmlpngafpoeaaLift
import Derived.Test.YtpbmlpngafpoeaaDrawPl
import Derived.Test.YtpbmlpngafpoeaaPlaces3
import Derived.Deep.RegionHeld3
namespace Go.Proofs.Ytpbmlpngafpoeaa.normalPlaces
open Go.RowKit Go.ChangeShapes Go.WideShapes Go.ChangeAt
set_option linter.unusedVariables false

theorem own : ownKnob Try.prog.godebug = none := by kernel_rfl

theorem nrmCases (t : Tr) : (valid sigT t = false ∧ nrmV t = false ∧ (plV true t).length = 0) ∨ (valid sigT t = true ∧ nrmV t = true ∧ (plV true t).length = 0) ∨ (valid sigT t = true ∧ nrmV t = false ∧ (plV true t).length ≠ 0) := by
  cases h : valid sigT t with
  | false => exact .inl ⟨rfl, by unfold nrmV; rw [h]; rfl, by unfold plV; rw [h]; rfl⟩
  | true =>
    right
    have e : (plV true t).length = cntP isRdx t := by unfold plV; rw [h, if_pos rfl, if_pos rfl, plc_len]
    have e2 : nrmV t = decide (cntP isRdx t = 0) := by unfold nrmV; rw [h, cntP_nrm]; rfl
    rw [e, e2]
    by_cases h0 : cntP isRdx t = 0
    · exact .inl ⟨rfl, decide_eq_true h0, h0⟩
    · exact .inr ⟨rfl, decide_eq_false h0, h0⟩
set_option maxRecDepth 100000 in
set_option maxHeartbeats 4000000 in
theorem walk (w0 : World) (A : Option Addr) (cap : Nat) (bs : List Int) (hl : bs.length ≤ cap) (hc : cap ≤ maxLen) (hB : Bytes w0 w0.heap.size A bs) :
    Calls Try.prog 10 #[.slice A bs.length cap] w0 fun e w' => e = .returned (.bool true) ∧ Ext w0 w' := by
  have hcc := hc
  unfold maxLen at hcc
  by_cases hn : 1048576 < (bs.length : Int)
  · have d1 : decide (1048576 < (bs.length : Int)) = true := decide_eq_true hn
    go_enter Try.func10, Try.ntmps10
    go_wp2_with fail
    go_ret
    exact ⟨rfl, Ext.refl _⟩
  have d1 : decide (1048576 < (bs.length : Int)) = false := decide_eq_false hn
  go_enter Try.func10, Try.ntmps10
  go_wp2_with fail
  refine (drawRedexPlaces_any w0 A cap bs hl hc hB).mono ?_
  rintro e w1 ⟨⟨k0, m0, ks0⟩, u, rfl, hct, hF0, e1⟩
  have s1 : w0.heap.size ≤ w1.heap.size := e1.size
  have hL0 := hF0.lies
  obtain ⟨A0, cap0, rfl, hl0, hc0, hK0⟩ := Lies.mk_iff.1 hL0
  clear hF0
  obtain ⟨w2, hw2⟩ : ∃ w2, w2 = w1.alloc (.cells #[.int .i64 k0, .int .i64 m0, .slice A0 ks0.length cap0] 42) := ⟨_, rfl⟩
  have e2 : Ext w1 w2 := hw2 ▸ (Ext.refl w1).alloc _
  have b2 := heap_alloc_new w1 (.cells #[.int .i64 k0, .int .i64 m0, .slice A0 ks0.length cap0] 42)
  rw [← hw2] at b2
  have s2 : w1.heap.size < w2.heap.size := lt_of_blk b2
  go_wp2_with fail
  rw [← hw2]
  clear hw2
  have X1_2 : Ext w1 w2 := (Ext.refl w1).trans e2
  refine (plcR_top (.mk k0 m0 ks0) w2 _ (hL0.ext X1_2)).mono ?_
  rintro e w3 ⟨x, rfl, hG3, e3⟩
  have s3 : w2.heap.size ≤ w3.heap.size := e3.size
  obtain ⟨B3, c3, rfl⟩ := hG3.form
  clear hG3
  have hcs := nrmCases (.mk k0 m0 ks0)
  obtain ⟨ps, hps⟩ : ∃ ps, plV true (.mk k0 m0 ks0) = ps := ⟨_, rfl⟩
  obtain ⟨nv, hnv⟩ : ∃ b, nrmV (.mk k0 m0 ks0) = b := ⟨_, rfl⟩
  obtain ⟨z, hz⟩ : ∃ b, valid sigT (.mk k0 m0 ks0) = b := ⟨_, rfl⟩
  rw [hps, hnv, hz] at hcs
  rw [hps]
  have HPS := Lib.hid hps
  have HNV := Lib.hid hnv
  have HZ := Lib.hid hz
  clear hps hnv hz
  obtain ⟨L, hL⟩ : ∃ L, ps.length = L := ⟨_, rfl⟩
  rw [hL] at hcs ⊢
  have HL := Lib.hid hL
  clear hL
  rcases hcs with ⟨hz, hn, h0⟩ | ⟨hz, hn, h0⟩ | ⟨hz, hn, h0⟩
  · subst hz hn h0
    have ba0_3 := e3.blk b2
    obtain ⟨za00, za01, za02, -, -, -⟩ := own3 ba0_3
    have lza0 := lt_of_blk ba0_3
    go_wp2_with fail
    clear za00 za01 za02 lza0
    have X1_3 : Ext w1 w3 := X1_2.trans e3
    obtain ⟨za00, za01, za02, -, -, -⟩ := own3 ba0_3
    have lza0 := lt_of_blk ba0_3
    have HKEEP := Lib.hid (show ∀ w', Ext w3 w' → w'.cell? ⟨w1.heap.size, 0, none⟩ = some (.int .i64 k0) ∧ w'.cell? ⟨w1.heap.size, 1, none⟩ = some (.int .i64 m0) ∧ w'.cell? ⟨w1.heap.size, 2, none⟩ = some (.slice A0 ks0.length cap0) ∧ w1.heap.size < w'.heap.size from fun w' hk => ⟨hk.cell za00, hk.cell za01, hk.cell za02, by have := hk.size; omega⟩)
    have X0_1 : Ext w0 w1 := (Ext.refl w0).trans e1
    have X0_2 : Ext w0 w2 := X0_1.trans e2
    have X0_3 : Ext w0 w3 := X0_2.trans e3
    first | (go_region_law (first | (go_simp; go_at_call 52; refine (specRedexPlaces_any (.mk k0 m0 ks0) _ _ ((hL0.ext X1_3).ext (Ext.refl w3).drew)).mono ?_; rintro e wd0 ⟨y, rfl, hGy, ed0⟩; obtain ⟨By, cy, rfl⟩ := hGy.form; clear hGy; rw [HPS.out, HL.out]; obtain ⟨p0, p1, p2, p3⟩ := HKEEP.out _ ((Ext.refl w3).drew.trans ed0); dsimp only) | (go_simp; go_at_call 53; refine (normalTerm_any (.mk k0 m0 ks0) _ _ ((hL0.ext X1_3).ext ((Ext.refl w3).drew.trans ed0))).mono ?_; rw [HNV.out]; rintro e wd1 ⟨rfl, ed1⟩; obtain ⟨q0, q1, q2, q3⟩ := HKEEP.out _ (((Ext.refl w3).drew.trans ed0).trans ed1); dsimp only) | (go_simp; go_at_call 54; refine (validTerm_any (.mk k0 m0 ks0) _ _ ((hL0.ext X1_3).ext (((Ext.refl w3).drew.trans ed0).trans ed1))).mono ?_; rw [HZ.out]; rintro e wd2 ⟨rfl, ed2⟩; have hfin := (((Ext.refl w3).drew.trans ed0).trans ed1).trans ed2; dsimp only))) | fail
    all_goals (
      go_wp2_with fail
      go_ret
      exact ⟨rfl, X0_3.trans hfin⟩)
  · subst hz hn h0
    have ba0_3 := e3.blk b2
    obtain ⟨za00, za01, za02, -, -, -⟩ := own3 ba0_3
    have lza0 := lt_of_blk ba0_3
    go_wp2_with fail
    clear za00 za01 za02 lza0
    have X1_3 : Ext w1 w3 := X1_2.trans e3
    obtain ⟨za00, za01, za02, -, -, -⟩ := own3 ba0_3
    have lza0 := lt_of_blk ba0_3
    have hkeep : ∀ w', Ext w3 w' → w'.cell? ⟨w1.heap.size, 0, none⟩ = some (.int .i64 k0) ∧ w'.cell? ⟨w1.heap.size, 1, none⟩ = some (.int .i64 m0) ∧ w'.cell? ⟨w1.heap.size, 2, none⟩ = some (.slice A0 ks0.length cap0) := fun w' hk => ⟨hk.cell za00, hk.cell za01, hk.cell za02⟩
    have HKEEP := Lib.hid hkeep
    clear hkeep
    go_region_held3 (fun w' => w'.cell? ⟨w1.heap.size, 0, none⟩ = some (.int .i64 k0) ∧ w'.cell? ⟨w1.heap.size, 1, none⟩ = some (.int .i64 m0) ∧ w'.cell? ⟨w1.heap.size, 2, none⟩ = some (.slice A0 ks0.length cap0))
      (first | exact HKEEP.out _ ((((Ext.refl w3).drew.trans ed4_0).trans ed4_1).trans ed4_2) | exact HKEEP.out _ (((Ext.refl w3).drew.trans ed4_0).trans ed4_1) | exact HKEEP.out _ ((Ext.refl w3).drew.trans ed4_0) | exact HKEEP.out _ (Ext.refl w3).drew)
      (first | (go_at_call 52; refine (specRedexPlaces_any (.mk k0 m0 ks0) _ _ ((hL0.ext X1_3).ext (Ext.refl w3).drew)).mono ?_; rintro e wd4_0 ⟨y, rfl, hGy, ed4_0⟩; obtain ⟨By, cy, rfl⟩ := hGy.form; clear hGy; rw [HPS.out, HL.out]) | (go_at_call 53; refine (normalTerm_any (.mk k0 m0 ks0) _ _ ((hL0.ext X1_3).ext ((Ext.refl w3).drew.trans ed4_0))).mono ?_; rw [HNV.out]; rintro e wd4_1 ⟨rfl, ed4_1⟩) | (go_at_call 54; refine (validTerm_any (.mk k0 m0 ks0) _ _ ((hL0.ext X1_3).ext (((Ext.refl w3).drew.trans ed4_0).trans ed4_1))).mono ?_; rw [HZ.out]; rintro e wd4_2 ⟨rfl, ed4_2⟩))
    have ed4 := ((((Ext.refl w3).drew.trans ed4_0).trans ed4_1).trans ed4_2)
    clear HKEEP za00 za01 za02 lza0
    have X0_1 : Ext w0 w1 := (Ext.refl w0).trans e1
    have X0_2 : Ext w0 w2 := X0_1.trans e2
    have X0_3 : Ext w0 w3 := X0_2.trans e3
    go_wp2_with fail
    go_ret
    exact ⟨rfl, X0_3.trans ed4⟩
  · subst hz hn
    have hb0 : (L == 0) = false := beq_eq_false_iff_ne.2 h0
    have hb1 : ((L : Int) == 0) = false := beq_eq_false_iff_ne.2 (by omega)
    have hb2 : decide (L = 0) = false := decide_eq_false h0
    have hb3 : decide ((L : Int) = 0) = false := decide_eq_false (by omega)
    have ba0_3 := e3.blk b2
    obtain ⟨za00, za01, za02, -, -, -⟩ := own3 ba0_3
    have lza0 := lt_of_blk ba0_3
    go_wp2_with fail
    clear za00 za01 za02 lza0
    have X1_3 : Ext w1 w3 := X1_2.trans e3
    obtain ⟨za00, za01, za02, -, -, -⟩ := own3 ba0_3
    have lza0 := lt_of_blk ba0_3
    have hkeep : ∀ w', Ext w3 w' → w'.cell? ⟨w1.heap.size, 0, none⟩ = some (.int .i64 k0) ∧ w'.cell? ⟨w1.heap.size, 1, none⟩ = some (.int .i64 m0) ∧ w'.cell? ⟨w1.heap.size, 2, none⟩ = some (.slice A0 ks0.length cap0) := fun w' hk => ⟨hk.cell za00, hk.cell za01, hk.cell za02⟩
    have HKEEP := Lib.hid hkeep
    clear hkeep
    go_region_held3 (fun w' => w'.cell? ⟨w1.heap.size, 0, none⟩ = some (.int .i64 k0) ∧ w'.cell? ⟨w1.heap.size, 1, none⟩ = some (.int .i64 m0) ∧ w'.cell? ⟨w1.heap.size, 2, none⟩ = some (.slice A0 ks0.length cap0))
      (first | exact HKEEP.out _ ((((Ext.refl w3).drew.trans ed4_0).trans ed4_1).trans ed4_2) | exact HKEEP.out _ (((Ext.refl w3).drew.trans ed4_0).trans ed4_1) | exact HKEEP.out _ ((Ext.refl w3).drew.trans ed4_0) | exact HKEEP.out _ (Ext.refl w3).drew)
      (first | (go_at_call 52; refine (specRedexPlaces_any (.mk k0 m0 ks0) _ _ ((hL0.ext X1_3).ext (Ext.refl w3).drew)).mono ?_; rintro e wd4_0 ⟨y, rfl, hGy, ed4_0⟩; obtain ⟨By, cy, rfl⟩ := hGy.form; clear hGy; rw [HPS.out, HL.out]) | (go_at_call 53; refine (normalTerm_any (.mk k0 m0 ks0) _ _ ((hL0.ext X1_3).ext ((Ext.refl w3).drew.trans ed4_0))).mono ?_; rw [HNV.out]; rintro e wd4_1 ⟨rfl, ed4_1⟩) | (go_at_call 54; refine (validTerm_any (.mk k0 m0 ks0) _ _ ((hL0.ext X1_3).ext (((Ext.refl w3).drew.trans ed4_0).trans ed4_1))).mono ?_; rw [HZ.out]; rintro e wd4_2 ⟨rfl, ed4_2⟩))
    have ed4 := ((((Ext.refl w3).drew.trans ed4_0).trans ed4_1).trans ed4_2)
    clear HKEEP za00 za01 za02 lza0
    have X0_1 : Ext w0 w1 := (Ext.refl w0).trans e1
    have X0_2 : Ext w0 w2 := X0_1.trans e2
    have X0_3 : Ext w0 w3 := X0_2.trans e3
    go_wp2_with fail
    go_ret
    exact ⟨rfl, X0_3.trans ed4⟩

set_option maxRecDepth 100000 in
theorem lifted (os : Os) (started : os.Started) (H : Type) (enc : TypeId × Value → H) :
    ReturnsInHanded {} Try.checked os 10 .any (Rows.fnNormalPlacesSpec.pre6 enc Try.prog Try.f10 Rows.fnNormalPlacesRow.domain false) (Rows.fnNormalPlacesSpec.post enc Try.prog Try.f10 false true false false) := by
  refine law_lift (C := Try.checked) (fn := Try.f10) (tb := 4) own started (by kernel_rfl) Try.func10 (by kernel_rfl) (by kernel_rfl) rfl Try.underlying4 rfl
    (fun ds h => by
      match ds, h with
      | [d1], _ => exact ⟨rfl, rfl, rfl⟩)
    (ChangeSpec.witness6 (enc := enc) (C := Try.checked) false ⟨#[], #[.slice none 0 0], []⟩ 8 (by kernel_rfl) (by kernel_rfl) (by kernel_rfl) (by kernel_rfl)) ?_
  intro W base args ds p hval hA hlt
  rw [Try.params10] at hA hval
  obtain ⟨v0, vs0, d0, ds0, p0, q0, hargs, rfl, rfl, h0, r0⟩ := trodAll_cons hA
  obtain ⟨rfl, rfl, rfl⟩ := trodAll_nil r0
  obtain rfl : args = #[v0] := by cases args; simp_all
  obtain ⟨A0, cap0, bs0, rfl, hl0, hc0, ha0⟩ := open_bytes Try.underlying64 Try.underlying5 (by kernel_rfl) (hval 0 64 v0 rfl rfl) h0
  exact walk W A0 cap0 bs0 hl0 hc0 ha0.1

theorem over : Rows.fnNormalPlacesRow.holds Try.pinned (OpenSpec.ofChange Rows.fnNormalPlacesSpec) :=
  OpenClaim.holds_of_wide 10 Try.f10 rfl rfl rfl rfl rfl rfl rfl ⟨rfl, rfl, rfl, rfl, rfl⟩ rfl rfl rfl rfl rfl (by kernel_rfl) Try.func10 (by kernel_rfl)
    (of_decide_eq_true (by kernel_rfl)) (by unfold Func.isWrapper; first | (rw [if_pos (by decide +kernel)]; kernel_rfl) | (rw [if_neg (by decide +kernel)]; exact ⟨rfl, rfl⟩))
    (fun os started H enc _ => lifted os started H enc)

theorem proved : Rows.FnNormalPlacesSaid := over
#print axioms proved
end Go.Proofs.Ytpbmlpngafpoeaa.normalPlaces

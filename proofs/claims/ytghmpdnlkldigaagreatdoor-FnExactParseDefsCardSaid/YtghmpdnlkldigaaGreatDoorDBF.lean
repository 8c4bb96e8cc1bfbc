/-
  Lemmas towards the law, 32: FmtD.
-/
import Derived.Test.YtghmpdnlkldigaaGreatDoorDAL
import Derived.Test.YtghmpdnlkldigaaGreatDoorDAY
namespace Go.Proofs.YtghmpdnlkldigaaGreatDoor
open Go.RowKit
set_option linter.unusedVariables false
/-- The text of definitions, two trees each. -/
def fmtDs : List Tr → List UInt8
  | t :: b :: r => (((fmtL t ++ [61]) ++ fmtL b) ++ [10]) ++ fmtDs r
  | _ => []
def fmtDV (ks : List Tr) (n : Nat) : List UInt8 := if dfV ks n = true then fmtDs ks else []
theorem fmtDs_step {ks : List Tr} {j : Nat} (h : j * 2 + 1 < ks.length) : fmtDs (ks.drop (j * 2)) = (((fmtL (ks[j * 2]'(by omega)) ++ [61]) ++ fmtL (ks[j * 2 + 1]'h)) ++ [10]) ++ fmtDs (ks.drop ((j + 1) * 2)) := by
  rw [List.drop_eq_getElem_cons (i := j * 2) (by omega), List.drop_eq_getElem_cons (i := j * 2 + 1) h, show j * 2 + 1 + 1 = (j + 1) * 2 by omega]
  rfl
theorem dfV_valid {ks : List Tr} {n : Nat} (h : dfV ks n = true) (hn : ks.length = n * 2) : n ≤ 8 ∧ ∀ t ∈ ks, valid sigT t = true := by
  have h1 := dfV_small h hn
  unfold dfV at h
  simp only [Bool.and_eq_true] at h
  exact ⟨h1.1, fun t ht => (dvs_small h.1 hn t ht).1⟩
set_option maxRecDepth 100000 in
set_option maxHeartbeats 1000000 in
theorem specFormatDefs_any (ks : List Tr) (n cap : Nat) (w : World) (A : Option Addr) (h : LiesK w A ks) (hn : ks.length = n * 2) (hl : n ≤ cap) (hc : cap ≤ maxLen) :
    Calls Tryz.prog 18 #[.slice A n cap] w fun e w' => e = .returned (.string (ofL (fmtDV ks n))) ∧ Ext w w' := by
  have hcc := hc
  unfold maxLen at hcc
  obtain ⟨R, hR⟩ : ∃ R, fmtDV ks n = R := ⟨_, rfl⟩
  rw [hR]
  have HR := Lib.hid hR
  clear hR
  go_enter Tryz.func18, Tryz.ntmps18
  go_wp2_with fail
  refine (specDefsValid_any ks n cap w A h hn hl hc).mono ?_
  rintro e w1 ⟨rfl, e1⟩
  obtain ⟨z, hz⟩ : ∃ z, dfV ks n = z := ⟨_, rfl⟩
  rw [hz]
  cases z with
  | false =>
    have hr : R = [] := by rw [← HR.out]; unfold fmtDV; rw [hz]; rfl
    have HRR := Lib.hid hr
    clear hz hr
    go_wp2_with fail
    go_ret
    exact ⟨by rw [HRR.out]; rfl, e1⟩
  | true =>
    have hr : fmtDs ks = R := by rw [← HR.out]; unfold fmtDV; rw [hz]; rfl
    obtain ⟨hn8, hv⟩ := dfV_valid hz hn
    have HRR := Lib.hid hr
    have HV := Lib.hid hv
    clear hz hr hv
    have h1 := h.ext e1
    go_wp2_with fail
    go_loopw [3, 4] (fun o i wr => ∃ (j : Nat) (y : List UInt8), j ≤ n ∧ i = .int .i64 j ∧ o = .string (ofL y) ∧ y.length ≤ j * 4002 ∧ y ++ fmtDs (ks.drop (j * 2)) = R ∧ Ext w wr) (fun _ i _ => n - (intOf i).toNat)
    case atStart => exact ⟨0, [], Nat.zero_le _, rfl, rfl, Nat.zero_le _, by simpa using HRR.out, e1⟩
    case round =>
      obtain ⟨j, y, hj, rfl, rfl, hyl, hy, hx⟩ := hrel
      have HY := Lib.hid hy
      clear hy
      by_cases hlt : j < n
      · have hjz : (j : Int) < (n : Int) := by omega
        obtain ⟨b, o, k1, n1, A1, p1, kids1, k2, n2, A2, p2, kids2, rfl, hbw, HK1, HK2, ⟨d0, d1, d2, d3, d4, d5⟩, ⟨l1, m1, hK1, hin1, hmem1⟩, ⟨l2, m2, hK2, hin2, hmem2⟩⟩ := h.getD (j := j) hx (by omega)
        have hst := fmtDs_step (ks := ks) (j := j) (by omega)
        rw [HK1.out, HK2.out] at hst
        have v1 := HV.out _ hmem1
        have v2 := HV.out _ hmem2
        have c1 := (valid_parts v1)
        have c2 := (valid_parts v2)
        have HT1 := Lib.hid (fun W (hW : Ext wr W) => l1Text_any (.mk k1 n1 kids1) W _ 30 c1.1 (by omega) (hin1.ext hW))
        have HT2 := Lib.hid (fun W (hW : Ext wr W) => l1Text_any (.mk k2 n2 kids2) W _ 30 c2.1 (by omega) (hin2.ext hW))
        have q1 := fmtL_len (.mk k1 n1 kids1)
        have q2 := fmtL_len (.mk k2 n2 kids2)
        obtain ⟨x1, hx1⟩ : ∃ x, fmtL (.mk k1 n1 kids1) = x := ⟨_, rfl⟩
        obtain ⟨x2, hx2⟩ : ∃ x, fmtL (.mk k2 n2 kids2) = x := ⟨_, rfl⟩
        rw [hx1, hx2] at hst
        rw [hx1] at HT1 q1
        rw [hx2] at HT2 q2
        have hy' : (((y ++ x1) ++ [61]) ++ x2 ++ [10]) ++ fmtDs (ks.drop ((j + 1) * 2)) = R := by
          rw [← HY.out, hst]
          simp
        have HY2 := Lib.hid hy'
        have z0 := sz_le (x := y) (n := 40000) (by omega)
        have z1 := sz_le (x := x1) (n := 2000) (by omega)
        have z2 := sz_le (x := x2) (n := 2000) (by omega)
        have hl1 : x1.length ≤ 2000 := by omega
        have hl2 : x2.length ≤ 2000 := by omega
        have g1 : ¬ (9223372036854775807 < (ofL y).size + (ofL x1).size) := by omega
        have g2 : ¬ (9223372036854775807 < (ofL y).size + (ofL x1).size + 1) := by omega
        have g3 : ¬ (9223372036854775807 < (ofL y).size + (ofL x1).size + 1 + (ofL x2).size) := by omega
        have g4 : ¬ (9223372036854775807 < (ofL y).size + (ofL x1).size + 1 + (ofL x2).size + 1) := by omega
        clear hst hy' q1 q2 v1 v2 c1 c2 hx1 hx2
        go_wp2_with fail
        have HS := Lib.hid (show ∀ w', Ext wr w' → w'.cell? ⟨b, o + j * 6, none⟩ = some (.int .i64 k1) ∧ w'.cell? ⟨b, o + j * 6 + 1, none⟩ = some (.int .i64 n1) ∧ w'.cell? ⟨b, o + j * 6 + 2, none⟩ = some (.slice A1 kids1.length p1) ∧ w'.cell? ⟨b, o + j * 6 + 3, none⟩ = some (.int .i64 k2) ∧ w'.cell? ⟨b, o + j * 6 + 3 + 1, none⟩ = some (.int .i64 n2) ∧ w'.cell? ⟨b, o + j * 6 + 3 + 2, none⟩ = some (.slice A2 kids2.length p2) from fun w' hw' => ⟨hw'.cell d0, hw'.cell d1, hw'.cell d2, hw'.cell d3, hw'.cell d4, hw'.cell d5⟩)
        go_region_held3 (fun w' => w'.cell? ⟨b, o + j * 6, none⟩ = some (.int .i64 k1) ∧ w'.cell? ⟨b, o + j * 6 + 1, none⟩ = some (.int .i64 n1) ∧ w'.cell? ⟨b, o + j * 6 + 2, none⟩ = some (.slice A1 kids1.length p1) ∧ w'.cell? ⟨b, o + j * 6 + 3, none⟩ = some (.int .i64 k2) ∧ w'.cell? ⟨b, o + j * 6 + 3 + 1, none⟩ = some (.int .i64 n2) ∧ w'.cell? ⟨b, o + j * 6 + 3 + 2, none⟩ = some (.slice A2 kids2.length p2))
          (first | exact HS.out _ ((Ext.refl wr).drew.trans (e2.trans e3)) | exact HS.out _ ((Ext.refl wr).drew.trans e2) | exact HS.out _ (Ext.refl wr).drew)
          (first | (go_at_call 55; (with_reducible refine (HT1.out _ (Ext.refl wr).drew).mono ?_); rintro e w2 ⟨rfl, e2⟩) | (go_at_call 55; refine (HT2.out _ ((Ext.refl wr).drew.trans e2)).mono ?_; rintro e w3 ⟨rfl, e3⟩))
        clear d0 d1 d2 d3 d4 d5 HS
        go_wp2_with fail
        go_roundw
        case rel => exact ⟨j + 1, ((y ++ x1) ++ [61]) ++ x2 ++ [10], by omega, by go_num, by simp only [← ofL_append]; rfl, by simp; omega, HY2.out, hx.trans ((Ext.refl wr).drew.trans (e2.trans e3))⟩
        case measure => simp [intOf]; omega
      · have hyr : y = R := by
          rw [← HY.out, List.drop_of_length_le (by omega)]
          simp [fmtDs]
        have HYR := Lib.hid hyr
        clear hyr
        have hjn : j = n := by omega
        subst hjn
        go_wp2_with fail
        go_ret
        exact ⟨by rw [HYR.out]; rfl, hx⟩
end Go.Proofs.YtghmpdnlkldigaaGreatDoor

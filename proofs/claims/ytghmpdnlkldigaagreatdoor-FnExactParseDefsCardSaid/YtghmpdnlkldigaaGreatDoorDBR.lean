/-
  Lemmas towards the law, 44: HeldD.
-/
import Derived.Test.YtghmpdnlkldigaaGreatDoorDAY
import Derived.Test.YtghmpdnlkldigaaGreatDoorDBB
namespace Go.Proofs.YtghmpdnlkldigaaGreatDoor
open Go.RowKit
set_option linter.unusedVariables false
theorem mkS_get : ∀ (rs : List Tr) (k : Int) (i : Nat) (h : i < rs.length) (h' : i < (mkS rs k).length), (mkS rs k)[i] = mkT rs[i] (k + 2 * cnts (rs.take i))
  | [], k, i, h, _ => absurd h (by simp)
  | t :: ts, k, 0, h, _ => by simp [mkS, cnts]
  | t :: ts, k, i + 1, h, h' => by
    simp only [mkS, List.getElem_cons_succ, List.take_succ_cons, cnts]
    rw [mkS_get ts _ i (by simpa using h) (by simpa [mkS] using h')]
    congr 1
    omega
set_option maxRecDepth 100000 in
set_option maxHeartbeats 2000000 in
theorem heldDefS_mk (rs : List Tr) (n cap : Nat) (k : Int) (w : World) (A : Option Addr) (h : LiesK w A (mkS rs k)) (hn : rs.length = n * 2) (hl : n ≤ cap) (hc : cap ≤ maxLen) (hk0 : 0 ≤ k) (hk1 : k + 2 * cnts rs ≤ 4611686018427387904) :
    Calls Tryz.prog 15 #[.slice A n cap, .int .i64 k] w fun e w' => e = .returned (.int .i64 (k + 2 * cnts rs)) ∧ Ext w w' := by
  have hc' := hc
  unfold maxLen at hc'
  have hlen := len_le_cnts rs
  have hml := mkS_len rs k
  have hmn : (mkS rs k).length = n * 2 := by rw [hml, hn]
  have HN := Lib.hid hn
  have HMN := Lib.hid hmn
  clear hml hmn hn
  go_enter Tryz.func15, Tryz.ntmps15
  go_wp2_with fail
  go_loopw [1, 5] (fun q i wr => ∃ j : Nat, j ≤ n ∧ i = .int .i64 j ∧ q = .int .i64 (k + 2 * cnts (rs.take (j * 2))) ∧ Ext w wr) (fun _ i _ => n - (intOf i).toNat)
  case atStart => exact ⟨0, Nat.zero_le _, rfl, by simp [cnts], Ext.refl _⟩
  case round =>
    obtain ⟨j, hj, rfl, rfl, he⟩ := hrel
    by_cases hlt : j < n
    · have hj1 : (j : Int) < (n : Int) := by omega
      have hr1 : j * 2 < rs.length := by rw [HN.out]; omega
      have hr2 : j * 2 + 1 < rs.length := by rw [HN.out]; omega
      obtain ⟨b0, o, k1, n1, A1, p1, kids1, k2, n2, A2, p2, kids2, rfl, hbw0, HK1, HK2, ⟨d0, d1, d2, d3, d4, d5⟩, ⟨l1, m1, hK1, hin1, hmem1⟩, ⟨l2, m2, hK2, hin2, hmem2⟩⟩ := h.getD (j := j) he (by rw [HMN.out]; omega)
      have g1 := HK1.out
      have g2 := HK2.out
      rw [mkS_get rs k (j * 2) hr1] at g1
      rw [mkS_get rs k (j * 2 + 1) hr2] at g2
      obtain ⟨⟨x1, y1, c1⟩, ht1⟩ : ∃ t, rs[j * 2] = t := ⟨_, rfl⟩
      obtain ⟨⟨x2, y2, c2⟩, ht2⟩ : ∃ t, rs[j * 2 + 1] = t := ⟨_, rfl⟩
      have htk1 : cnts (rs.take (j * 2 + 1)) = cnts (rs.take (j * 2)) + (cnts c1 + 1) := by
        rw [← List.take_append_getElem hr1, cnts_append, ht1]
        simp [cnts, cnt]
      have htk2 : cnts (rs.take ((j + 1) * 2)) = cnts (rs.take (j * 2)) + (cnts c1 + 1) + (cnts c2 + 1) := by
        rw [show (j + 1) * 2 = j * 2 + 1 + 1 by omega, ← List.take_append_getElem hr2, cnts_append, ht2, htk1]
        simp [cnts, cnt]
      have hle : cnts (rs.take ((j + 1) * 2)) ≤ cnts rs := by
        conv => rhs; rw [← List.take_append_drop ((j + 1) * 2) rs, cnts_append]
        omega
      rw [ht1] at g1
      rw [ht2, htk1] at g2
      simp only [mkT, Tr.mk.injEq] at g1 g2
      obtain ⟨rfl, rfl, rfl⟩ := g1
      obtain ⟨rfl, rfl, rfl⟩ := g2
      have HT2 := Lib.hid htk2
      rw [htk2] at hle
      generalize cnts (rs.take (j * 2)) = q at *
      obtain ⟨m, hm⟩ : ∃ m, k + 2 * (q : Int) = m := ⟨_, rfl⟩
      obtain ⟨z, hz⟩ : ∃ z : Int, m + 2 + 2 * (cnts c1 : Int) = z := ⟨_, rfl⟩
      have e2 : k + 2 * ((q + (cnts c1 + 1) : Nat) : Int) = z := by omega
      rw [hm] at HK1 d0 d1 d2 l1 hK1 hin1 hmem1 ⊢
      rw [e2] at HK2 d3 d4 d5 l2 hK2 hin2 hmem2
      have hmc1 := cnt_mkS c1 (m + 2)
      have hmc2 := cnt_mkS c2 (z + 2)
      have H1 := Lib.hid (fun (W : World) (hx : Ext wr W) => heldTermS_any (.mk 0 0 (mkS c1 (m + 2))) W A1 p1 (m + 2) (LiesK.ext hK1 hx) l1 m1 (by omega) (by simp only [Tr.kids]; omega))
      have H2 := Lib.hid (fun (W : World) (hx : Ext wr W) => heldTermS_any (.mk 0 0 (mkS c2 (z + 2))) W A2 p2 (z + 2) (LiesK.ext hK2 hx) l2 m2 (by omega) (by simp only [Tr.kids]; omega))
      simp only [Tr.kids] at H1 H2
      rw [hdS_mk c1 (m + 2) (by omega)] at H1
      rw [hdS_mk c2 (z + 2) (by omega)] at H2
      have em : m + 1 + 1 = m + 2 := by omega
      have ez : z + 1 + 1 = z + 2 := by omega
      have hz2 : m + 2 + 2 * (cnts c1 : Int) = z := hz
      have hdz : decide (m + 2 + 2 * (cnts c1 : Int) < 0) = false := decide_eq_false (by omega)
      have hdz2 : decide (z + 2 + 2 * (cnts c2 : Int) < 0) = false := decide_eq_false (by omega)
      have HFIN := Lib.hid (show z + 2 + 2 * (cnts c2 : Int) = k + 2 * cnts (rs.take ((j + 1) * 2)) by rw [HT2.out]; omega)
      have hmb : m + 2 ≤ 4611686018427387904 ∧ 0 ≤ m := by omega
      have hzb : z + 2 ≤ 4611686018427387904 ∧ 0 ≤ z := by omega
      obtain ⟨hmb1, hmb2⟩ := hmb
      obtain ⟨hzb1, hzb2⟩ := hzb
      have hw1 : IntKind.i64.wrap (m + 1) = m + 1 := IntWalk.i64_in _ ⟨by omega, by omega⟩
      have hw2 : IntKind.i64.wrap (m + 1 + 1) = m + 2 := by rw [em]; exact IntWalk.i64_in _ ⟨by omega, by omega⟩
      have hw3 : IntKind.i64.wrap (z + 1) = z + 1 := IntWalk.i64_in _ ⟨by omega, by omega⟩
      have hw4 : IntKind.i64.wrap (z + 1 + 1) = z + 2 := by rw [ez]; exact IntWalk.i64_in _ ⟨by omega, by omega⟩
      have hd9 : decide (z < 0) = false := decide_eq_false (by omega)
      clear HK1 HK2 hle htk1 htk2 HT2 ht1 ht2 hmem1 hmem2 hin1 hin2 hK1 hK2 em ez e2 hm hz
      go_wp2_with fail
      first
        | (refine (H1.out wr (Ext.refl _)).mono ?_)
        | (rw [show m + 1 + 1 = m + 2 by omega]; refine (H1.out wr (Ext.refl _)).mono ?_)
      rintro e w3 ⟨rfl, e3⟩
      rw [hz2]
      have D3 := e3.cell d3
      have D4 := e3.cell d4
      have D5 := e3.cell d5
      clear d0 d1 d2 d3 d4 d5 hz2 hdz
      go_wp2_with fail
      first
        | (refine (H2.out _ e3).mono ?_)
        | (rw [show z + 1 + 1 = z + 2 by omega]; refine (H2.out _ e3).mono ?_)
      rintro e w4 ⟨rfl, e4⟩
      go_wp2_with fail
      go_roundw
      case rel => exact ⟨j + 1, by omega, by go_num, by rw [HFIN.out], (he.trans e3).trans e4⟩
      case measure => simp [intOf]; omega
    · obtain rfl : j = n := by omega
      rw [List.take_of_length_le (by rw [HN.out]; omega)]
      go_wp2_with fail
      go_ret
      exact ⟨rfl, he⟩
end Go.Proofs.YtghmpdnlkldigaaGreatDoor

/-
  impl.countRedexes, CountRedexes, RedexOf.
-/
import Derived.Test.YtjgdckkeojehoaaPlaces2
namespace Go.Proofs.Ytjgdckkeojehoaa
open Go.RowKit
set_option linter.unusedVariables false
attribute [local go_sem ↓] Go.wp_at_zero Go.wp_at_succ

theorem cntsP_take (p : Tr → Bool) (ks : List Tr) (j : Nat) (h : j < ks.length) : cntsP p (ks.take (j + 1)) = cntsP p (ks.take j) + cntP p ks[j] := by
  have key : ∀ (a b : List Tr), cntsP p (a ++ b) = cntsP p a + cntsP p b := by
    intro a b
    induction a with
    | nil => simp [cntsP]
    | cons x a ih => rw [List.cons_append, cntsP, cntsP, ih]; omega
  rw [← List.take_append_getElem h, key]
  simp [cntsP]
def CountRC (t : Tr) : Prop := ∀ (w : World) (v : Value) (d : Int), shape sigT t d = true → Lies w t v → cnt t ≤ 1000000 → Calls Try.prog 49 #[v] w fun e w' => e = .returned (.int .i64 (cntP isRdx t)) ∧ Ext w w'
set_option maxRecDepth 100000 in
set_option maxHeartbeats 2000000 in
theorem countRedexes_any : ∀ t : Tr, CountRC t := Tr.ind fun k n ks hk => by
  intro w v d hsh hin hcn
  have HR := Lib.hid (fun V (hV : Ext w V) => redex_any (.mk k n ks) d hsh V v (hin.ext hV))
  obtain ⟨-, -, -, hsk⟩ := shape_kids hsh
  obtain ⟨A, cap, rfl, hl, hc, hK⟩ := Lies.mk_iff.1 hin
  have hcc := hc
  unfold maxLen at hcc
  simp only [cnt] at hcn
  have ho : cntP isRdx (.mk k n ks) = (if isRdx (.mk k n ks) = true then 1 else 0) + cntsP isRdx ks := by rw [cntP]
  have hx0 := (Ext.refl w).alloc (.cells #[.int .i64 k, .int .i64 n, .slice A ks.length cap] 25)
  have hbB := heap_alloc_new w (.cells #[.int .i64 k, .int .i64 n, .slice A ks.length cap] 25)
  have hir : isRdx (.mk k n ks) = (rdxT (.mk k n ks) != 0) := rfl
  rw [hir] at ho
  obtain ⟨r, hr⟩ : ∃ r, rdxT (.mk k n ks) = r := ⟨_, rfl⟩
  have HR2 := Lib.hid (show ∀ V, Ext w V → Calls Try.prog 46 #[.agg #[.int .i64 k, .int .i64 n, .slice A ks.length cap]] V fun e w' => e = .returned (.int .i64 r) ∧ Ext V w' from fun V hV => by have := HR.out V hV; rw [hr] at this; exact this)
  rw [hr] at ho
  clear hr HR hir hin
  obtain ⟨c0, hc0⟩ : ∃ c : Nat, (if (r != 0) = true then 1 else 0) = c := ⟨_, rfl⟩
  have hc1 : c0 ≤ 1 := by rw [← hc0]; split <;> omega
  rw [hc0] at ho
  have HO := Lib.hid ho
  clear ho
  by_cases h0 : r = 0
  · have hb0 : (r != 0) = false := by rw [h0]; rfl
    have hc2 : c0 = 0 := by rw [← hc0, hb0]; rfl
    subst h0 hc2
    clear hc0
    go_enter Try.func49, Try.ntmps49
    go_wp2_with fail
    refine (HR2.out _ hx0).mono ?_
    rintro e w1 ⟨rfl, h1⟩
    obtain ⟨z0, z1, z2, -, -, -⟩ := own3 (h1.blk hbB)
    have lz := lt_of_blk (h1.blk hbB)
    have hx1 := hx0.trans h1
    clear hbB h1 hx0 HR2
    go_wp2_with fail
    clear z0 z1 z2 lz
    go_loopw [3, 12] (fun c i wr => ∃ (j : Nat) (q : Int), j ≤ ks.length ∧ i = .int .i64 j ∧ c = .int .i64 q ∧ Hid (q = ((0 + cntsP isRdx (ks.take j) : Nat) : Int)) ∧ 0 ≤ q ∧ q ≤ 1 + cnts ks ∧ Ext w wr) (fun _ i _ => ks.length - (intOf i).toNat)
    case atStart => exact ⟨0, 0, Nat.zero_le _, rfl, rfl, Lib.hid (by simp [cntsP]), by omega, by omega, hx1⟩
    case round =>
      obtain ⟨j, q, hj', rfl, rfl, HQ, hq0, hq1, hx⟩ := hrel
      by_cases hlt : j < ks.length
      · obtain ⟨b, o, k', n', A', cap', kids, rfl, HK, c0, c1, c2, hkl, hkc, hK', hin', hmem⟩ := hK.get hx hlt
        have hcm := cnt_mem hmem
        have hx5 := (Ext.refl wr).alloc (.cells #[.int .i64 k', .int .i64 n', .slice A' kids.length cap'] 25)
        have HC := Lib.hid (hk _ hmem _ _ (d - 1) (hsk _ hmem) (hin'.ext hx5) (by omega))
        have hsn := cntsP_take isRdx ks j hlt
        rw [HK.out] at hsn
        have hle : cntsP isRdx (ks.take (j + 1)) ≤ cnts ks := Nat.le_trans (cntsP_le _ _) (cnts_take ks (j + 1))
        generalize cntP isRdx (.mk k' n' kids) = s at HC hsn
        have hqs : q + (s : Int) = ((0 + cntsP isRdx (ks.take (j + 1)) : Nat) : Int) := by rw [HQ.out, hsn]; omega
        have hqs2 : q + (s : Int) ≤ 1 + cnts ks := by rw [hqs]; omega
        have HQS := Lib.hid hqs
        have hw1 : IntKind.i64.wrap (q + (s : Int)) = q + (s : Int) := IntWalk.i64_in _ ⟨by omega, by omega⟩
        have hj2 : (j : Int) < (ks.length : Int) := by omega
        have hq3 : 0 ≤ q + (s : Int) := by omega
        clear hqs hsn hle hin' HQ
        go_wp2_with fail
        refine HC.out.mono ?_
        rintro e w2 ⟨rfl, h2⟩
        have hx2 := (hx.trans hx5).trans h2
        go_wp2_with fail
        go_roundw
        case rel => exact ⟨j + 1, q + s, by omega, by go_num, rfl, HQS, hq3, hqs2, hx2⟩
        case measure => simp [intOf]; omega
      · have hqe : q = (cntP isRdx (.mk k n ks) : Int) := by rw [HQ.out, HO.out, List.take_of_length_le (by omega)]
        clear HQ
        go_wp2_with fail
        go_ret
        exact ⟨by rw [hqe]; rfl, hx⟩
  · have hb0 : (r != 0) = true := bne_iff_ne.2 h0
    have hc2 : c0 = 1 := by rw [← hc0, hb0]; rfl
    subst hc2
    clear hc0
    go_enter Try.func49, Try.ntmps49
    go_wp2_with fail
    refine (HR2.out _ hx0).mono ?_
    rintro e w1 ⟨rfl, h1⟩
    obtain ⟨z0, z1, z2, -, -, -⟩ := own3 (h1.blk hbB)
    have lz := lt_of_blk (h1.blk hbB)
    have hx1 := hx0.trans h1
    clear hbB h1 hx0 HR2
    go_wp2_with fail
    clear z0 z1 z2 lz
    go_loopw [3, 12] (fun c i wr => ∃ (j : Nat) (q : Int), j ≤ ks.length ∧ i = .int .i64 j ∧ c = .int .i64 q ∧ Hid (q = ((1 + cntsP isRdx (ks.take j) : Nat) : Int)) ∧ 0 ≤ q ∧ q ≤ 1 + cnts ks ∧ Ext w wr) (fun _ i _ => ks.length - (intOf i).toNat)
    case atStart => exact ⟨0, 1, Nat.zero_le _, rfl, rfl, Lib.hid (by simp [cntsP]), by omega, by omega, hx1⟩
    case round =>
      obtain ⟨j, q, hj', rfl, rfl, HQ, hq0, hq1, hx⟩ := hrel
      by_cases hlt : j < ks.length
      · obtain ⟨b, o, k', n', A', cap', kids, rfl, HK, c0, c1, c2, hkl, hkc, hK', hin', hmem⟩ := hK.get hx hlt
        have hcm := cnt_mem hmem
        have hx5 := (Ext.refl wr).alloc (.cells #[.int .i64 k', .int .i64 n', .slice A' kids.length cap'] 25)
        have HC := Lib.hid (hk _ hmem _ _ (d - 1) (hsk _ hmem) (hin'.ext hx5) (by omega))
        have hsn := cntsP_take isRdx ks j hlt
        rw [HK.out] at hsn
        have hle : cntsP isRdx (ks.take (j + 1)) ≤ cnts ks := Nat.le_trans (cntsP_le _ _) (cnts_take ks (j + 1))
        generalize cntP isRdx (.mk k' n' kids) = s at HC hsn
        have hqs : q + (s : Int) = ((1 + cntsP isRdx (ks.take (j + 1)) : Nat) : Int) := by rw [HQ.out, hsn]; omega
        have hqs2 : q + (s : Int) ≤ 1 + cnts ks := by rw [hqs]; omega
        have HQS := Lib.hid hqs
        have hw1 : IntKind.i64.wrap (q + (s : Int)) = q + (s : Int) := IntWalk.i64_in _ ⟨by omega, by omega⟩
        have hj2 : (j : Int) < (ks.length : Int) := by omega
        have hq3 : 0 ≤ q + (s : Int) := by omega
        clear hqs hsn hle hin' HQ
        go_wp2_with fail
        refine HC.out.mono ?_
        rintro e w2 ⟨rfl, h2⟩
        have hx2 := (hx.trans hx5).trans h2
        go_wp2_with fail
        go_roundw
        case rel => exact ⟨j + 1, q + s, by omega, by go_num, rfl, HQS, hq3, hqs2, hx2⟩
        case measure => simp [intOf]; omega
      · have hqe : q = (cntP isRdx (.mk k n ks) : Int) := by rw [HQ.out, HO.out, List.take_of_length_le (by omega)]
        clear HQ
        go_wp2_with fail
        go_ret
        exact ⟨by rw [hqe]; rfl, hx⟩
def cntRV (t : Tr) : Int := if valid sigT t = true then (cntP isRdx t : Int) else 0
theorem countRedexes_top (t : Tr) (w : World) (v : Value) (hin : Lies w t v) : Calls Try.prog 13 #[v] w fun e w' => e = .returned (.int .i64 (cntRV t)) ∧ Ext w w' := by
  have HV := Lib.hid (fun W (hW : Ext w W) => validTerm_any t W v (hin.ext hW))
  have HX := Lib.hid (fun (h : valid sigT t = true) W (hW : Ext w W) => countRedexes_any t W v 30 (cnt_of_valid h).2 (hin.ext hW) (by have := (cnt_of_valid h).1; omega))
  have E := Lib.hid (show cntRV t = if valid sigT t = true then (cntP isRdx t : Int) else 0 from rfl)
  obtain ⟨z, hz⟩ : ∃ z, valid sigT t = z := ⟨_, rfl⟩
  rw [hz] at HV E HX
  clear hz
  obtain ⟨ra, hra⟩ : ∃ r, (cntP isRdx t : Int) = r := ⟨_, rfl⟩
  rw [hra] at E HX
  clear hra
  obtain ⟨k, n, ks⟩ := t
  obtain ⟨A, cap, rfl, hl, hc, hK⟩ := Lies.mk_iff.1 hin
  have hx0 := (Ext.refl w).alloc (.cells #[.int .i64 k, .int .i64 n, .slice A ks.length cap] 25)
  have hbB := heap_alloc_new w (.cells #[.int .i64 k, .int .i64 n, .slice A ks.length cap] 25)
  cases z with
  | false =>
    have E2 := Lib.hid (E.out.trans (if_neg (by decide)))
    clear E HX
    go_enter Try.func13, Try.ntmps13
    go_wp2_with fail
    refine (HV.out _ hx0).mono ?_
    rintro e w1 ⟨rfl, h1⟩
    go_wp2_with fail
    go_ret
    exact ⟨by rw [E2.out]; rfl, hx0.trans h1⟩
  | true =>
    have E2 := Lib.hid (E.out.trans (if_pos rfl))
    have HX2 := Lib.hid (HX.out rfl)
    clear E HX
    go_enter Try.func13, Try.ntmps13
    go_wp2_with fail
    refine (HV.out _ hx0).mono ?_
    rintro e w1 ⟨rfl, h1⟩
    obtain ⟨z0, z1, z2, -, -, -⟩ := own3 (h1.blk hbB)
    clear hbB
    go_wp2_with fail
    refine (HX2.out _ (hx0.trans h1)).mono ?_
    rintro e w2 ⟨rfl, h2⟩
    go_wp2_with fail
    go_ret
    exact ⟨by rw [E2.out]; rfl, (hx0.trans h1).trans h2⟩
def rdxV (t : Tr) : Int := if valid sigT t = true then rdxT t else 0
theorem redexOf_any (t : Tr) (w : World) (v : Value) (hin : Lies w t v) : Calls Try.prog 16 #[v] w fun e w' => e = .returned (.int .i64 (rdxV t)) ∧ Ext w w' := by
  have HV := Lib.hid (fun W (hW : Ext w W) => validTerm_any t W v (hin.ext hW))
  have HX := Lib.hid (fun (h : valid sigT t = true) W (hW : Ext w W) => redex_any t 30 (cnt_of_valid h).2 W v (hin.ext hW))
  have E := Lib.hid (show rdxV t = if valid sigT t = true then rdxT t else 0 from rfl)
  obtain ⟨z, hz⟩ : ∃ z, valid sigT t = z := ⟨_, rfl⟩
  rw [hz] at HV E HX
  clear hz
  obtain ⟨ra, hra⟩ : ∃ r, rdxT t = r := ⟨_, rfl⟩
  rw [hra] at E HX
  clear hra
  obtain ⟨k, n, ks⟩ := t
  obtain ⟨A, cap, rfl, hl, hc, hK⟩ := Lies.mk_iff.1 hin
  have hx0 := (Ext.refl w).alloc (.cells #[.int .i64 k, .int .i64 n, .slice A ks.length cap] 25)
  have hbB := heap_alloc_new w (.cells #[.int .i64 k, .int .i64 n, .slice A ks.length cap] 25)
  cases z with
  | false =>
    have E2 := Lib.hid (E.out.trans (if_neg (by decide)))
    clear E HX
    go_enter Try.func16, Try.ntmps16
    go_wp2_with fail
    refine (HV.out _ hx0).mono ?_
    rintro e w1 ⟨rfl, h1⟩
    go_wp2_with fail
    go_ret
    exact ⟨by rw [E2.out]; rfl, hx0.trans h1⟩
  | true =>
    have E2 := Lib.hid (E.out.trans (if_pos rfl))
    have HX2 := Lib.hid (HX.out rfl)
    clear E HX
    go_enter Try.func16, Try.ntmps16
    go_wp2_with fail
    refine (HV.out _ hx0).mono ?_
    rintro e w1 ⟨rfl, h1⟩
    obtain ⟨z0, z1, z2, -, -, -⟩ := own3 (h1.blk hbB)
    clear hbB
    go_wp2_with fail
    refine (HX2.out _ (hx0.trans h1)).mono ?_
    rintro e w2 ⟨rfl, h2⟩
    go_wp2_with fail
    go_ret
    exact ⟨by rw [E2.out]; rfl, (hx0.trans h1).trans h2⟩
end Go.Proofs.Ytjgdckkeojehoaa

/-
  Lemmas towards the law, 32: TermT.
-/
import Derived.Test.YtolkohncmidpeaaGreatDoorGAI
import Derived.Test.YtolkohncmidpeaaGreatDoorGBD
namespace Go.Proofs.YtolkohncmidpeaaGreatDoor
open Go.RowKit
set_option linter.unusedVariables false
attribute [local go_sem ↓] Go.wp_at_zero Go.wp_at_succ
/-- A text written by the program. -/
def TermC (t : Tr) : Prop := ∀ (w : World) (v : Value) (d : Int), EnvM w → shape sigT t d = true → cnt t ≤ 1000 → Lies w t v → Calls Tryz.prog 37 #[v] w fun e w' => e = .returned (.string (ofL (fmtL t))) ∧ Ext w w'
set_option maxRecDepth 100000 in
set_option maxHeartbeats 8000000 in
theorem termText_any : ∀ t : Tr, TermC t := Tr.ind fun k n ks hk => by
  intro w v d hW hsh hcn hin
  obtain ⟨A, cap, rfl, hl, hc, hK⟩ := Lies.mk_iff.1 hin
  obtain ⟨hops, hn0, hn1, hsk⟩ := shape_kids' hsh
  have hops : opsT k = (ks.length : Int) := hops
  have hn1 : n ≤ mostT k := hn1
  have hlc := len_le_cnts ks
  have hfl := fmtL_len (.mk k n ks)
  have hcc := hc
  unfold maxLen at hcc
  have hcn' := hcn
  simp only [cnt] at hcn'
  obtain ⟨kk, hkk, hk16⟩ : ∃ kk : Nat, k = (kk : Int) + 1 ∧ kk < 16 := by
    rcases opsT_kind hops with h | h | h | h | h | h | h | h | h | h | h | h | h | h | h | h <;> exact ⟨(k - 1).toNat, by omega, by omega⟩
  have hwr : IntKind.i64.wrap (k - 1) = (kk : Int) := by rw [show k - 1 = (kk : Int) by omega]; exact IntWalk.i64_in _ ⟨by omega, by omega⟩
  obtain ⟨hpr, hsl⟩ := shpL_facts kk hk16
  rw [← hkk] at hpr
  obtain ⟨sh, hshp⟩ : ∃ sh, sh = shpL.getD kk [] := ⟨_, rfl⟩
  have HSA := Lib.hid (fun W => (show Calls Tryz.prog 77 #[] W (fun e w' => ∃ b, e = .returned (.slice (some ⟨b, 0, none⟩) 16 16) ∧ w'.cell? ⟨b, kk, none⟩ = some (.string (ofL sh)) ∧ Ext W w') from (shapes_at W).mono (by
    rintro e w' ⟨b, h1, h2, h3⟩
    exact ⟨b, h1, by rw [hshp]; exact h2 kk hk16, h3⟩)))
  rw [← hshp] at hpr hsl
  have hs1 : k = 1 → sh = [35] := fun h => by have : kk = 0 := by omega
                                              subst this; exact hshp
  have hs2 : k = 2 → sh = [42] := fun h => by have : kk = 1 := by omega
                                              subst this; exact hshp
  have hsz := sz_le hsl
  have hx : Ext w (w.alloc (.cells #[.int .i64 k, .int .i64 n, .slice A ks.length cap] 45)) := (Ext.refl w).alloc _
  have hbx := heap_alloc_new w (.cells #[.int .i64 k, .int .i64 n, .slice A ks.length cap] 45)
  have hkz : (kk : Int) < 16 := by omega
  have hkz0 : (0 : Int) ≤ (kk : Int) := by omega
  have HKK := Lib.hid hkk
  clear hshp hin hkk
  by_cases c1 : k = 1
  · have hsO := hs1 c1
    subst hsO
    obtain ⟨m, rfl⟩ : ∃ m : Nat, n = m := ⟨n.toNat, by omega⟩
    have hm : (m : Int) ≤ 20 := by rw [c1] at hn1; exact hn1
    have HC := Lib.hid (fun W => itoa_any m (by omega) W)
    have hr : fmtL (.mk k m ks) = [35] ++ decL m := by
      rw [c1]
      simp [fmtL]
    have hxl := decL_len m
    obtain ⟨y, hy⟩ : ∃ y, y = decL m := ⟨_, rfl⟩
    rw [← hy] at HC hxl hr
    have hx1 := sz_le hxl
    have HR := Lib.hid hr
    have hk1 : (k == 1) = decide (k = 1) := by by_cases h : k = 1 <;> simp [h]
    have hk0 : kk = 0 := by have := HKK.out; omega
    subst hk0
    clear hr hops hy hs1 hs2 hpr hk hsk hK hsh hfl hk1 hwr hkz hkz0 HKK hn0 hcn hcn'
    subst c1
    have hwJ : IntKind.i64.wrap 0 = 0 := IntWalk.i64_in _ ⟨by omega, by omega⟩
    go_enter Tryz.func37, Tryz.ntmps37
    go_wp2_with fail
    go_region_law (first | (go_simp; go_at_call 77; refine (HSA.out _).mono ?_; rintro e w2 ⟨b, rfl, hcl, e2⟩; obtain ⟨s0, s1, s2, -, -, -⟩ := own3 (e2.blk ((Ext.refl _).drew.blk hbx))))
    all_goals (
      go_wp2_with fail
      refine (HC.out _).mono ?_
      rintro e w3 ⟨rfl, rfl⟩
      go_wp2_with fail
      go_ret
      exact ⟨by rw [HR.out, ← ofL_append]; rfl, (hx.trans (Ext.refl _).drew).trans e2⟩)
  by_cases c2 : k = 2
  · have hsO := hs2 c2
    subst hsO
    obtain ⟨m, rfl⟩ : ∃ m : Nat, n = m := ⟨n.toNat, by omega⟩
    have hm : (m : Int) ≤ 3 := by rw [c2] at hn1; exact hn1
    have HC := Lib.hid (fun W => itoa_any m (by omega) W)
    have hr : fmtL (.mk k m ks) = [42] ++ decL m := by
      rw [c2]
      simp [fmtL]
    have hxl := decL_len m
    obtain ⟨y, hy⟩ : ∃ y, y = decL m := ⟨_, rfl⟩
    rw [← hy] at HC hxl hr
    have hx1 := sz_le hxl
    have HR := Lib.hid hr
    have hk1 : (k == 1) = decide (k = 1) := by by_cases h : k = 1 <;> simp [h]
    have hk0 : kk = 1 := by have := HKK.out; omega
    subst hk0
    clear hr hops hy hs1 hs2 hpr hk hsk hK hsh hfl hk1 hwr hkz hkz0 HKK hn0 hcn hcn'
    subst c2
    have hwJ : IntKind.i64.wrap 1 = 1 := IntWalk.i64_in _ ⟨by omega, by omega⟩
    go_enter Tryz.func37, Tryz.ntmps37
    go_wp2_with fail
    go_region_law (first | (go_simp; go_at_call 77; refine (HSA.out _).mono ?_; rintro e w2 ⟨b, rfl, hcl, e2⟩; obtain ⟨s0, s1, s2, -, -, -⟩ := own3 (e2.blk ((Ext.refl _).drew.blk hbx))))
    all_goals (
      go_wp2_with fail
      refine (HC.out _).mono ?_
      rintro e w3 ⟨rfl, rfl⟩
      go_wp2_with fail
      go_ret
      exact ⟨by rw [HR.out, ← ofL_append]; rfl, (hx.trans (Ext.refl _).drew).trans e2⟩)
  obtain ⟨hf, hpl⟩ := fmtL_parts hsh c1 c2
  obtain ⟨p0, pt, hpp⟩ : ∃ p0 pt, prt k = p0 :: pt := by
    cases hq : prt k with
    | nil => rw [hq] at hpl; simp at hpl
    | cons a b => exact ⟨a, b, rfl⟩
  rw [hpp] at hf hpl hpr
  simp only [List.headD_cons, List.tail_cons] at hf
  have hptl : pt.length = ks.length := by simpa using hpl
  have hprl : ∀ p ∈ p0 :: pt, p.length ≤ 2 := by
    rw [← hpp]
    rcases opsT_kind hops with h | h | h | h | h | h | h | h | h | h | h | h | h | h | h | h <;> (rw [h]; decide)
  have HSP := Lib.hid (fun W (hW : EnvM W) => split_at sh 46 (p0 :: pt) hpr W hW (by omega))
  have HF := Lib.hid hf
  have HPL := Lib.hid hptl
  have HPRL := Lib.hid hprl
  have e1 : (k == 1) = false := beq_eq_false_iff_ne.2 c1
  have e2' : (k == 2) = false := beq_eq_false_iff_ne.2 c2
  have hz1 : (0 : Int) < (ks.length : Int) + 1 := by omega
  obtain ⟨R, hR⟩ : ∃ R, fmtL (.mk k n ks) = R := ⟨_, rfl⟩
  rw [hR] at HF hfl ⊢
  have hRl : R.length ≤ 5000 := by omega
  have HK := Lib.hid hk
  have HSK := Lib.hid hsk
  clear hf hpl hpr hptl hprl hpp hR hs1 hs2 hops hk hsk hsh c1 c2
  go_enter Tryz.func37, Tryz.ntmps37
  go_wp2_with fail
  go_region_law (first | (go_simp; go_at_call 77; refine (HSA.out _).mono ?_; rintro e w2 ⟨b, rfl, hcl, e2⟩; obtain ⟨s0, s1, s2, -, -, -⟩ := own3 (e2.blk ((Ext.refl _).drew.blk hbx))))
  all_goals (
    have hx2 := (hx.trans (Ext.refl _).drew).trans e2
    have hb2 := e2.blk ((Ext.refl _).drew.blk hbx)
    clear hbx
    go_wp2_with fail
    refine (HSP.out _ (hW.ext hx2)).mono ?_
    rintro e w3 ⟨bp, rfl, hcp, hbp, hbp3, e3⟩
    have hx3 := hx2.trans e3
    obtain ⟨z0, z1, z2, -, -, -⟩ := own3 (e3.blk hb2)
    have hc0 := hcp 0 (by simp)
    simp only [List.getElem_cons_zero, List.length_cons, HPL.out] at hc0 hcp ⊢
    have HCP := Lib.hid hcp
    clear hcp hb2 s0 s1 s2 hcl
    go_wp2_with fail
    go_loopw [5, 35] (fun o i wr => ∃ (j : Nat) (y : List UInt8), j ≤ ks.length ∧ i = .int .i64 j ∧ o = .string (ofL y) ∧ y.length ≤ 5000 ∧ Hid (y ++ catP fmtL (pt.drop j) (ks.drop j) = R) ∧ Ext w3 wr) (fun _ i _ => ks.length - (intOf i).toNat)
    case atStart => exact ⟨0, p0, Nat.zero_le _, rfl, rfl, by have := HPRL.out p0 (by simp); omega, Lib.hid (by simpa using HF.out.symm), Ext.refl _⟩
    case round =>
      obtain ⟨j, y, hj, rfl, rfl, hyl, HY, hxr⟩ := hrel
      by_cases hlt : j < ks.length
      · obtain ⟨b1, o1, k1, n1, A1, c1, kids1, rfl, HK1, d0, d1, d2, hkl, hkc, hK1, hin1, hmem⟩ := hK.get (hx3.trans hxr) hlt
        have hjp : j < pt.length := by rw [HPL.out]; exact hlt
        have hst := catP_step (f := fmtL) hlt hjp
        rw [HK1.out] at hst
        have hpc : w3.cell? ⟨bp, j + 1, none⟩ = some (.string (ofL pt[j])) := by
          have := HCP.out (j + 1) (by omega)
          simpa using this
        have hpl2 : pt[j].length ≤ 2 := HPRL.out _ (List.mem_cons_of_mem _ (List.getElem_mem hjp))
        have hcm := cnt_mem hmem
        have hf1 := fmtL_len (.mk k1 n1 kids1)
        have HCC := Lib.hid (fun W (hWW : EnvM W) (hL : Lies W (.mk k1 n1 kids1) (.agg #[.int .i64 k1, .int .i64 n1, .slice A1 kids1.length c1])) => HK.out _ hmem W _ (d - 1) hWW (HSK.out _ hmem) (by omega) hL)
        have hxl : (fmtL (.mk k1 n1 kids1)).length ≤ 5000 := by omega
        obtain ⟨x, hxx⟩ : ∃ x, x = fmtL (.mk k1 n1 kids1) := ⟨_, rfl⟩
        obtain ⟨pp, hpp⟩ : ∃ pp, pp = pt[j] := ⟨_, rfl⟩
        rw [← hxx] at hst HCC hxl
        rw [← hpp] at hst hpc hpl2
        have HY2 := Lib.hid (show (y ++ (x ++ pp)) ++ catP fmtL (pt.drop (j + 1)) (ks.drop (j + 1)) = R by rw [← HY.out, hst]; simp)
        have hyy : (y ++ (x ++ pp)).length ≤ 5000 := by
          have := congrArg List.length HY2.out
          rw [List.length_append] at this
          omega
        have q1 := sz_le hyl
        have q2 := sz_le hxl
        have q3 := sz_le hpl2
        have g1 : ¬ (9223372036854775807 < (ofL x).size + (ofL pp).size) := by omega
        have g2 : ¬ (9223372036854775807 < (ofL y).size + ((ofL x).size + (ofL pp).size)) := by omega
        have hj0 : (0 : Int) ≤ (j : Int) + 1 := by omega
        have hjz : (j : Int) < (ks.length : Int) := by omega
        have hjw : IntKind.i64.wrap ((j : Int) + 1) = (j : Int) + 1 := IntWalk.i64_in _ ⟨by omega, by omega⟩
        have hj1 : (j : Int) + 1 < (ks.length : Int) + 1 := by omega
        clear hst HK1 hxx hpp hf1 HY hcn hcn' hfl hjp
        go_wp2_with fail
        have hE := (Ext.refl wr).alloc (.cells #[.int .i64 k1, .int .i64 n1, .slice A1 kids1.length c1] 45)
        have hb7 := heap_alloc_new wr (.cells #[.int .i64 k1, .int .i64 n1, .slice A1 kids1.length c1] 45)
        have hpc7 := (hxr.trans hE).cell hpc
        have hL7 := hin1.ext hE
        have hX7 := (hx3.trans hxr).trans hE
        have h37 := hxr.trans hE
        generalize wr.alloc _ = w7 at hE hb7 hpc7 hL7 hX7 h37 ⊢
        have HS := Lib.hid (show ∀ w', Ext w7 w' → w'.cell? ⟨wr.heap.size, 0, none⟩ = some (.int .i64 k1) ∧ w'.cell? ⟨wr.heap.size, 1, none⟩ = some (.int .i64 n1) ∧ w'.cell? ⟨wr.heap.size, 2, none⟩ = some (.slice A1 kids1.length c1) ∧ w'.cell? ⟨bp, j + 1, none⟩ = some (.string (ofL pp)) from fun w' hw => by
          obtain ⟨y0, y1, y2, -, -, -⟩ := own3 (hw.blk hb7)
          exact ⟨y0, y1, y2, hw.cell hpc7⟩)
        have hD : Ext w7 w7.drew := (Ext.refl w7).drew
        clear hb7 hpc7 hpc d0 d1 d2 hin1 z0 z1 z2
        go_region_held3 (fun w' => w'.cell? ⟨wr.heap.size, 0, none⟩ = some (.int .i64 k1) ∧ w'.cell? ⟨wr.heap.size, 1, none⟩ = some (.int .i64 n1) ∧ w'.cell? ⟨wr.heap.size, 2, none⟩ = some (.slice A1 kids1.length c1) ∧ w'.cell? ⟨bp, j + 1, none⟩ = some (.string (ofL pp)))
          (first | exact HS.out _ (hD.trans ed) | exact HS.out _ hD)
          (first | (go_at_call 37; refine (HCC.out _ (hW.ext (hX7.trans hD)) (hL7.ext hD)).mono ?_; rintro e wd ⟨rfl, ed⟩))
        all_goals (
          go_wp2_with fail
          go_roundw
          case rel => exact ⟨j + 1, y ++ (x ++ pp), by omega, by go_num, by rw [← ofL_append, ← ofL_append], hyy, HY2, (h37.trans hD).trans ed⟩
          case measure => simp [intOf]; omega)
      · have hyR : y = R := by
          rw [← HY.out, catP_end (by omega)]
          simp
        have HYR := Lib.hid hyR
        clear hyR
        go_wp2_with fail
        go_ret
        exact ⟨by rw [← HYR.out]; rfl, hx3.trans hxr⟩)
end Go.Proofs.YtolkohncmidpeaaGreatDoor

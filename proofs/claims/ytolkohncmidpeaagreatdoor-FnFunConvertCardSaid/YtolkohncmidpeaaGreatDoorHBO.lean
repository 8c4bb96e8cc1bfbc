/-
  Lemmas towards the law, 41: Conv.
-/
import Derived.Test.YtolkohncmidpeaaGreatDoorHBD
import Derived.Test.YtolkohncmidpeaaGreatDoorHBN
namespace Go.Proofs.YtolkohncmidpeaaGreatDoor
open Go.RowKit
set_option linter.unusedVariables false
theorem normV_at {t : Tr} {f : Int} (h : valid sigT t = true) (hf : inR f 0 200 = true) : normV t f = nrmC f.toNat t := by
  unfold normV
  rw [h, hf]
  rfl
set_option maxRecDepth 100000 in
set_option maxHeartbeats 4000000 in
theorem convertible_any (a b : Tr) (f : Int) (w : World) (va vb : Value) (ha : Lies w a va) (hb : Lies w b vb) :
    Calls Tryz.prog 27 #[va, vb, .int .i64 f] w fun e w' => e = .returned (.int .i64 (convV a b f)) ∧ Ext w w' := by
  have HVA := Lib.hid (fun W (hW : Ext w W) => validTerm_any a W va (ha.ext hW))
  have HVB := Lib.hid (fun W (hW : Ext w W) => validTerm_any b W vb (hb.ext hW))
  have HNA := Lib.hid (fun W (hW : Ext w W) => normalize_any a f W va (ha.ext hW))
  have HNB := Lib.hid (fun W (hW : Ext w W) => normalize_any b f W vb (hb.ext hW))
  have HSM := Lib.hid (fun W (hW : Ext w W) => sameTerm_any a W b va vb (ha.ext hW) (hb.ext hW))
  have E : convV a b f = if (valid sigT a && (valid sigT b && inR f 0 200)) = true then (if a = b then 1 else if (nrmC f.toNat a).2 = 0 ∧ (nrmC f.toNat b).2 = 0 then (if (nrmC f.toNat a).1 = (nrmC f.toNat b).1 then 1 else 2) else 3) else 0 := rfl
  have hna := fun (h1 : valid sigT a = true) (h2 : inR f 0 200 = true) => normV_at h1 h2
  have hnb := fun (h1 : valid sigT b = true) (h2 : inR f 0 200 = true) => normV_at h1 h2
  obtain ⟨C, hC⟩ : ∃ C, convV a b f = C := ⟨_, rfl⟩
  rw [hC] at E ⊢
  clear hC
  obtain ⟨za, hza⟩ : ∃ z, valid sigT a = z := ⟨_, rfl⟩
  obtain ⟨zb, hzb⟩ : ∃ z, valid sigT b = z := ⟨_, rfl⟩
  obtain ⟨y, hy⟩ : ∃ y, inR f 0 200 = y := ⟨_, rfl⟩
  obtain ⟨q, hq⟩ : ∃ q, eqTr a b = q := ⟨_, rfl⟩
  rw [hza] at HVA E hna
  rw [hzb] at HVB E hnb
  rw [hy] at E hna hnb
  rw [hq] at HSM
  have hqe : (a = b) ↔ q = true := by rw [← hq]; exact eqTr_iff.symm
  have HY := Lib.hid hy
  have HQ := Lib.hid hqe
  have HE := Lib.hid E
  have HA := Lib.hid hna
  have HB := Lib.hid hnb
  clear hza hzb hy hq hqe E hna hnb
  obtain ⟨k1, n1, ks1⟩ := a
  obtain ⟨k2, n2, ks2⟩ := b
  obtain ⟨A1, c1, rfl, hl1, hc1, hK1⟩ := Lies.mk_iff.1 ha
  obtain ⟨A2, c2, rfl, hl2, hc2, hK2⟩ := Lies.mk_iff.1 hb
  have hx0 := ((Ext.refl w).alloc (.cells #[.int .i64 k1, .int .i64 n1, .slice A1 ks1.length c1] 45)).alloc (.cells #[.int .i64 k2, .int .i64 n2, .slice A2 ks2.length c2] 45)
  obtain ⟨hb0, hb1, hs2⟩ := blk2 (Ext.refl ((w.alloc (.cells #[.int .i64 k1, .int .i64 n1, .slice A1 ks1.length c1] 45)).alloc (.cells #[.int .i64 k2, .int .i64 n2, .slice A2 ks2.length c2] 45)))
  obtain ⟨wS, hwS⟩ : ∃ x, x = (w.alloc (.cells #[.int .i64 k1, .int .i64 n1, .slice A1 ks1.length c1] 45)).alloc (.cells #[.int .i64 k2, .int .i64 n2, .slice A2 ks2.length c2] 45) := ⟨_, rfl⟩
  rw [← hwS] at hx0 hb0 hb1 hs2
  go_enter Tryz.func27, Tryz.ntmps27
  go_wp2_with fail
  rw [← hwS]
  clear hwS
  refine (HVA.out _ hx0).mono ?_
  rintro e w1 ⟨rfl, e1⟩
  have hx1 := hx0.trans e1
  cases za with
  | false =>
    have hr : C = 0 := by rw [HE.out]; rfl
    have HR := Lib.hid hr
    clear hr
    go_wp2_with fail
    go_ret
    exact ⟨by rw [HR.out]; rfl, hx1⟩
  | true =>
    obtain ⟨p0, p1, p2, -⟩ := own3 (e1.blk hb1)
    go_wp2_with fail
    refine (HVB.out _ hx1).mono ?_
    rintro e w2 ⟨rfl, e2⟩
    have hx2 := hx1.trans e2
    clear p0 p1 p2
    cases zb with
    | false =>
      have hr : C = 0 := by rw [HE.out]; rfl
      have HR := Lib.hid hr
      clear hr
      go_wp2_with fail
      go_ret
      exact ⟨by rw [HR.out]; rfl, hx2⟩
    | true =>
      go_wp2_with fail
      refine (within_any f 0 200 w2).mono ?_
      rintro e w3 ⟨rfl, rfl⟩
      rw [HY.out]
      cases y with
      | false =>
        have hr : C = 0 := by rw [HE.out]; rfl
        have HR := Lib.hid hr
        clear hr
        go_wp2_with fail
        go_ret
        exact ⟨by rw [HR.out]; rfl, hx2⟩
      | true =>
        have ha1 := HA.out (by simp) (by simp)
        have hb2 := HB.out (by simp) (by simp)
        rw [ha1] at HNA
        rw [hb2] at HNB
        have hE1 := HE.out
        rw [Bool.and_self, Bool.and_self, if_pos rfl] at hE1
        have HE1 := Lib.hid hE1
        clear ha1 hb2 hE1 HE
        obtain ⟨q0, q1, q2, -⟩ := own3 ((e1.trans e2).blk hb0)
        obtain ⟨p0, p1, p2, -⟩ := own3 ((e1.trans e2).blk hb1)
        go_wp2_with fail
        refine (HSM.out _ hx2).mono ?_
        rintro e w3 ⟨rfl, e3⟩
        have hx3 := hx2.trans e3
        clear q0 q1 q2 p0 p1 p2
        cases q with
        | true =>
          have hr : C = 1 := by rw [HE1.out, if_pos (HQ.out.2 rfl)]
          have HR := Lib.hid hr
          clear hr
          go_wp2_with fail
          go_ret
          exact ⟨by rw [HR.out]; rfl, hx3⟩
        | false =>
          have hE2 := HE1.out
          rw [if_neg (fun h => by have := HQ.out.1 h; cases this)] at hE2
          obtain ⟨S1, hS1⟩ : ∃ S, nrmC f.toNat (.mk k1 n1 ks1) = S := ⟨_, rfl⟩
          obtain ⟨S2, hS2⟩ : ∃ S, nrmC f.toNat (.mk k2 n2 ks2) = S := ⟨_, rfl⟩
          rw [hS1] at HNA hE2
          rw [hS2] at HNB hE2
          obtain ⟨⟨k3, n3, ks3⟩, s1⟩ := S1
          obtain ⟨⟨k4, n4, ks4⟩, s2⟩ := S2
          have HE2 := Lib.hid hE2
          clear hS1 hS2 hE2
          have eb := (e1.trans e2).trans e3
          obtain ⟨q0, q1, q2, -⟩ := own3 (eb.blk hb0)
          go_wp2_with fail
          refine (HNA.out _ hx3).mono ?_
          rintro e w4 ⟨r, rfl, hM3, e4⟩
          have hL3 := hM3.lies
          obtain ⟨A3, c3, rfl, hl3, hc3, hK3⟩ := Lies.mk_iff.1 hL3
          obtain ⟨w5, hw5⟩ : ∃ x, x = w4.alloc (.cells #[.int .i64 k3, .int .i64 n3, .slice A3 ks3.length c3] 45) := ⟨_, rfl⟩
          have e5 : Ext w4 w5 := hw5 ▸ (Ext.refl w4).alloc _
          have hb5 : w5.heap[w4.heap.size]? = some (.cells #[.int .i64 k3, .int .i64 n3, .slice A3 ks3.length c3] 45 (0, 0)) := hw5 ▸ heap_alloc_new w4 _
          obtain ⟨p0, p1, p2, -⟩ := own3 (((eb.trans e4).trans e5).blk hb1)
          have hs5 : w4.heap.size < w5.heap.size := lt_of_blk hb5
          have hx5 := (hx3.trans e4).trans e5
          have p04 := own3 ((eb.trans e4).blk hb1)
          obtain ⟨r0, r1, r2, -⟩ := p04
          have lz1 := lt_of_blk ((eb.trans e4).blk hb1)
          clear q0 q1 q2 hM3
          go_wp2_with fail
          rw [← hw5]
          clear hw5 r0 r1 r2
          refine (HNB.out _ hx5).mono ?_
          rintro e w6 ⟨r, rfl, hM4, e6⟩
          have hL4 := hM4.lies
          obtain ⟨A4, c4, rfl, hl4, hc4, hK4⟩ := Lies.mk_iff.1 hL4
          obtain ⟨w7, hw7⟩ : ∃ x, x = w6.alloc (.cells #[.int .i64 k4, .int .i64 n4, .slice A4 ks4.length c4] 45) := ⟨_, rfl⟩
          have e7 : Ext w6 w7 := hw7 ▸ (Ext.refl w6).alloc _
          have hb7 : w7.heap[w6.heap.size]? = some (.cells #[.int .i64 k4, .int .i64 n4, .slice A4 ks4.length c4] 45 (0, 0)) := hw7 ▸ heap_alloc_new w6 _
          have hx7 := (hx5.trans e6).trans e7
          clear p0 p1 p2 hM4
          by_cases h1 : s1 = 0
          · subst h1
            by_cases h2 : s2 = 0
            · subst h2
              obtain ⟨d0, d1, d2, -⟩ := own3 (e6.blk hb5)
              have lz2 := lt_of_blk (e6.blk hb5)
              have HS2 := Lib.hid (sameTerm_any (.mk k3 n3 ks3) w7 (.mk k4 n4 ks4) _ _ (((hL3.ext e5).ext e6).ext e7) (hL4.ext e7))
              obtain ⟨q2, hq2⟩ : ∃ q, eqTr (.mk k3 n3 ks3) (.mk k4 n4 ks4) = q := ⟨_, rfl⟩
              have hr : C = if q2 = true then 1 else 2 := by
                rw [HE2.out, if_pos ⟨rfl, rfl⟩, ← hq2]
                by_cases he : Tr.mk k3 n3 ks3 = Tr.mk k4 n4 ks4
                · rw [if_pos he, if_pos (eqTr_iff.2 he)]
                · rw [if_neg he, if_neg (fun h => he (eqTr_iff.1 h))]
              rw [hq2] at HS2
              have HR := Lib.hid hr
              clear hr hq2
              go_wp2_with fail
              rw [← hw7]
              clear hw7
              refine HS2.out.mono ?_
              rintro e w8 ⟨rfl, e8⟩
              cases q2
              all_goals (
                go_wp2_with fail
                go_ret
                exact ⟨by rw [HR.out]; rfl, hx7.trans e8⟩)
            · have hr : C = 3 := by rw [HE2.out, if_neg (fun h => h2 h.2)]
              have hb : (s2 != 0) = true := by simpa using h2
              have HR := Lib.hid hr
              clear hr
              go_wp2_with fail
              rw [← hw7]
              go_ret
              exact ⟨by rw [HR.out]; rfl, hx7⟩
          · have hr : C = 3 := by rw [HE2.out, if_neg (fun h => h1 h.1)]
            have hb : (s1 != 0) = true := by simpa using h1
            have HR := Lib.hid hr
            clear hr
            go_wp2_with fail
            rw [← hw7]
            go_ret
            exact ⟨by rw [HR.out]; rfl, hx7⟩
end Go.Proofs.YtolkohncmidpeaaGreatDoor

/-
  Lemmas towards the law, 31: L3Step.
-/
import Derived.Test.YtolkohncmidpeaaGreatDoorHAI
import Derived.Test.YtolkohncmidpeaaGreatDoorHBA
import Derived.Test.YtolkohncmidpeaaGreatDoorHBB
import Derived.Test.YtolkohncmidpeaaGreatDoorHBD
namespace Go.Proofs.YtolkohncmidpeaaGreatDoor
open Go.RowKit
set_option linter.unusedVariables false
attribute [local go_sem ↓] Go.wp_at_zero Go.wp_at_succ
/-- A step from outside. -/
def stpS (t : Tr) : Tr × Bool := match outT t with
  | none => (t, false)
  | some p => (conA t p, true)
theorem kd_get' {ks : List Tr} {j : Nat} (h : j < ks.length) : kd ks j = ks[j] := by unfold kd; rw [List.getD_eq_getElem?_getD, List.getElem?_eq_getElem h]; rfl
theorem outTs_step {ks : List Tr} {j : Nat} (h : j < ks.length) : outTs j (ks.drop j) = match outT (kd ks j) with
    | some p => some ((j : Int) :: p)
    | none => outTs (j + 1) (ks.drop (j + 1)) := by
  rw [List.drop_eq_getElem_cons h, outTs, kd_get' h]
  cases outT ks[j] <;> rfl
theorem outTs_end {ks : List Tr} {j : Nat} (h : ks.length ≤ j) : outTs j (ks.drop j) = none := by
  rw [List.drop_of_length_le h, outTs]
theorem valid_kid {k n : Int} {ks : List Tr} {t : Tr} (h : valid sigT (.mk k n ks) = true) (hm : t ∈ ks) : valid sigT t = true := by
  obtain ⟨h1, h2⟩ := valid_parts h
  have h3 := (shape_kids' h1).2.2.2 t hm
  unfold valid
  rw [shape_mono h3 (by omega), Bool.true_and, decide_eq_true_eq]
  have := cnt_mem hm
  simp only [cnt] at h2
  omega
/-- The answer's rows are in blocks of N. -/
def StpQ (N : Nat → Prop) (w : World) (o : Tr × Bool) (e : Ending) (w' : World) : Prop := ∃ r, e = .returned (.tuple #[r, .bool o.2]) ∧ InT w' N o.1 r ∧ Ext w w'
def StpC (t : Tr) : Prop := valid sigT t = true → ∀ (w : World) (N : Nat → Prop) (v : Value), (∀ b, w.heap.size ≤ b → N b) → InT w N t v → Calls Tryz.prog 133 #[v, .bool false] w (StpQ N w (stpS t))
set_option maxRecDepth 100000 in
set_option maxHeartbeats 4000000 in
theorem l3Step_any : ∀ t : Tr, StpC t := Tr.ind fun k n ks ih => by
  intro hv w0 N v hN hin
  obtain ⟨R, hR⟩ : ∃ R, stpS (.mk k n ks) = R := ⟨_, rfl⟩
  rw [hR]
  obtain ⟨hsh, hcn⟩ := valid_parts hv
  have hLi := hin.lies'
  have HIN := Lib.hid hin
  have HRX := Lib.hid (fun W (hx : Ext w0 W) => l3Redex_any (.mk k n ks) 30 hsh W v (hLi.ext hx))
  have HRX2 : rdxT (.mk k n ks) = rdx k ks := rfl
  rw [HRX2] at HRX
  obtain ⟨A, cap, rfl, hl, hc, hK⟩ := InT.mk_iff.1 hin
  have hcc := hc
  unfold maxLen at hcc
  have hlc := len_le_cnts ks
  simp only [cnt] at hcn
  obtain ⟨bt_1, br_1, s1⟩ := blk2 (Ext.refl ((w0.alloc (.cells #[.int .i64 k, .int .i64 n, .slice A ks.length cap] 45)).alloc (.cells #[.int .i64 0, .int .i64 0, .slice none 0 0] 45)))
  have e1 : Ext w0 ((w0.alloc (.cells #[.int .i64 k, .int .i64 n, .slice A ks.length cap] 45)).alloc (.cells #[.int .i64 0, .int .i64 0, .slice none 0 0] 45)) := (((Ext.refl w0).alloc (.cells #[.int .i64 k, .int .i64 n, .slice A ks.length cap] 45)).alloc (.cells #[.int .i64 0, .int .i64 0, .slice none 0 0] 45))
  obtain ⟨w1, hw1⟩ : ∃ x, x = ((w0.alloc (.cells #[.int .i64 k, .int .i64 n, .slice A ks.length cap] 45)).alloc (.cells #[.int .i64 0, .int .i64 0, .slice none 0 0] 45)) := ⟨_, rfl⟩
  rw [← hw1] at e1 s1 bt_1 br_1
  obtain ⟨M, hM⟩ : ∃ M, M = (fun b => N b ∧ b ≠ w0.heap.size + 1) := ⟨_, rfl⟩
  have hMN : ∀ b, w1.heap.size ≤ b → M b := by rw [hM]; exact newN hN e1.size (by omega)
  have hKM : InK w1 M A ks := by rw [hM]; exact hK.keep e1 (Nat.le_succ _)
  have HMN := Lib.hid hMN
  have HKM := Lib.hid hKM
  have HM := Lib.hid hM
  clear hM hMN hKM hK hin HRX2
  by_cases hr : rdx k ks = 0
  · have hout : outT (.mk k n ks) = outTs 0 ks := by rw [outT, if_pos hr]
    have hk := fun t (ht : t ∈ ks) => ih t ht (valid_kid hv ht)
    have HKD := Lib.hid hk
    have HOUT := Lib.hid hout
    have HRR := Lib.hid hR
    have HLI := Lib.hid hLi
    rw [hr] at HRX
    clear ih hk hout hR hv hr hLi hsh
    go_enter Tryz.func133, Tryz.ntmps133
    go_wp2_with fail
    rw [← hw1]
    clear hw1
    refine (HRX.out _ e1).mono ?_
    rintro e w2 ⟨rfl, e2⟩
    have s2 : w1.heap.size ≤ w2.heap.size := e2.size
    have bt_2 := e2.blk bt_1
    have zt0 : w2.cell? ⟨w0.heap.size, 0, none⟩ = some (.int .i64 k) := cell_of_blk bt_2 0
    have zt1 : w2.cell? ⟨w0.heap.size, 1, none⟩ = some (.int .i64 n) := cell_of_blk bt_2 1
    have zt2 : w2.cell? ⟨w0.heap.size, 2, none⟩ = some (.slice A ks.length cap) := cell_of_blk bt_2 2
    have lt := lt_of_blk bt_2
    have br_2 := e2.blk br_1
    obtain ⟨zr0, zr1, zr2, yr0, yr1, yr2⟩ := own3 br_2
    have lr := lt_of_blk br_2
    go_wp2_with fail
    clear zt0 zt1 zt2 lt zr0 zr1 zr2 yr0 yr1 yr2 lr
    go_loopw [6] (fun i wr => ∃ j : Nat, j ≤ ks.length ∧ i = .int .i64 j ∧ Ext w2 wr ∧ Hid (outT (.mk k n ks) = outTs j (ks.drop j))) (fun i _ => ks.length - (intOf i).toNat)
    case atStart => exact ⟨0, Nat.zero_le _, rfl, Ext.refl _, Lib.hid (by rw [HOUT.out]; rfl)⟩
    case round =>
      obtain ⟨j, hj, rfl, e3, HJ⟩ := hrel
      generalize wr = w3 at e3
      have s3 := e3.size
      by_cases hlt : j < ks.length
      · have hjz : (j : Int) < (ks.length : Int) := by omega
        have X1_2 : Ext w1 w2 := e2
        have X1_3 : Ext w1 w3 := X1_2.trans e3
        obtain ⟨b, o, k1, n1, A1, p1, kids1, rfl, HK1, c0, c1, c2, l1, m1, hK1, hin1, hmem1, hSb⟩ := (HKM.out.later X1_3).get (fun _ _ => rfl) hlt
        have HI := Lib.hid (HKD.out _ hmem1 w3 M _ (fun b hb => HMN.out b (Nat.le_trans X1_3.size hb)) hin1)
        obtain ⟨⟨t', ok⟩, hT⟩ : ∃ x, stpS (.mk k1 n1 kids1) = x := ⟨_, rfl⟩
        rw [hT] at HI
        have HT := Lib.hid hT
        have hjw : IntKind.i64.wrap ((j : Int) + 1) = (j : Int) + 1 := IntWalk.i64_in _ ⟨by omega, by omega⟩
        clear hT hK1 hin1
        have bt_3 := e3.blk bt_2
        have zt0 : w3.cell? ⟨w0.heap.size, 0, none⟩ = some (.int .i64 k) := cell_of_blk bt_3 0
        have zt1 : w3.cell? ⟨w0.heap.size, 1, none⟩ = some (.int .i64 n) := cell_of_blk bt_3 1
        have zt2 : w3.cell? ⟨w0.heap.size, 2, none⟩ = some (.slice (some ⟨b, o, none⟩) ks.length cap) := cell_of_blk bt_3 2
        have lt := lt_of_blk bt_3
        have br_3 := e3.blk br_2
        obtain ⟨zr0, zr1, zr2, yr0, yr1, yr2⟩ := own3 br_3
        have lr := lt_of_blk br_3
        go_wp2_with fail
        clear zt0 zt1 zt2 lt zr0 zr1 zr2 yr0 yr1 yr2 lr
        refine (HI.out).mono ?_
        rintro e w4 ⟨r, rfl, hT4, e4⟩
        have s4 : w3.heap.size ≤ w4.heap.size := e4.size
        obtain ⟨a1, a2, a3, a4, a5, rfl⟩ := hT4.three
        have HT4 := Lib.hid hT4
        clear hT4
        have hstep := HJ.out.trans (outTs_step hlt)
        rw [kd_get' hlt, HK1.out] at hstep
        cases ok with
        | false =>
          have X2_3 : Ext w2 w3 := e3
          have X2_4 : Ext w2 w4 := X2_3.trans e4
          have hn : outT (.mk k1 n1 kids1) = none := by
            have := HT.out
            unfold stpS at this
            cases hq : outT (.mk k1 n1 kids1) with
            | none => rfl
            | some p => rw [hq] at this; simp at this
          rw [hn] at hstep
          have HST := Lib.hid hstep
          clear hstep hn
          go_wp2_with fail
          go_roundw
          case rel => exact ⟨j + 1, by omega, by go_num, X2_4.alloc _, HST⟩
          case measure => simp [intOf]; omega
        | true =>
          obtain ⟨p, hp, hcp⟩ : ∃ p, outT (.mk k1 n1 kids1) = some p ∧ conA (.mk k1 n1 kids1) p = t' := by
            have := HT.out
            unfold stpS at this
            cases hq : outT (.mk k1 n1 kids1) with
            | none => rw [hq] at this; simp at this
            | some p => rw [hq] at this; simp only [Prod.mk.injEq, and_true] at this; exact ⟨p, rfl, this⟩
          rw [hp] at hstep
          have hra := outT_at _ p hp
          rw [← HK1.out, ← kd_get' hlt] at hra hcp
          have hfin : R = (.mk k n (ks.set j t'), true) := by
            rw [← HRR.out]
            unfold stpS
            rw [hstep]
            simp only
            rw [conA_cons hlt hra, hcp]
          have HF := Lib.hid hfin
          clear hstep hfin hra hcp hp hjw
          have bt_4 := e4.blk bt_3
          have zt0 : w4.cell? ⟨w0.heap.size, 0, none⟩ = some (.int .i64 k) := cell_of_blk bt_4 0
          have zt1 : w4.cell? ⟨w0.heap.size, 1, none⟩ = some (.int .i64 n) := cell_of_blk bt_4 1
          have zt2 : w4.cell? ⟨w0.heap.size, 2, none⟩ = some (.slice (some ⟨b, o, none⟩) ks.length cap) := cell_of_blk bt_4 2
          have lt := lt_of_blk bt_4
          have br_4 := e4.blk br_3
          obtain ⟨zr0, zr1, zr2, yr0, yr1, yr2⟩ := own3 br_4
          have lr := lt_of_blk br_4
          obtain ⟨w5, hw5⟩ : ∃ x, x = w4.alloc (.cells #[.int .i64 a1, .int .i64 a2, .slice a3 a4 a5] 45) := ⟨_, rfl⟩
          have e5 : Ext w4 w5 := hw5 ▸ (Ext.refl w4).alloc _
          have bx_5 := heap_alloc_new w4 (.cells #[.int .i64 a1, .int .i64 a2, .slice a3 a4 a5] 45)
          rw [← hw5] at bx_5
          have s5 : w4.heap.size < w5.heap.size := lt_of_blk bx_5
          go_wp2_with fail
          rw [← hw5]
          clear hw5
          clear zt0 zt1 zt2 lt zr0 zr1 zr2 yr0 yr1 yr2 lr
          have X0_1 : Ext w0 w1 := e1
          have X0_2 : Ext w0 w2 := X0_1.trans e2
          have X0_3 : Ext w0 w3 := X0_2.trans e3
          have X0_4 : Ext w0 w4 := X0_3.trans e4
          have X0_5 : Ext w0 w5 := X0_4.trans e5
          have X4_5 : Ext w4 w5 := e5
          refine (l3WithS_any k n ks t' j (fun b => M b ∧ b < w5.heap.size) w5 _ _ (HLI.out.ext X0_5) (fun b hb => hb.2) ((HT4.out.later X4_5).bound) hlt (by simp only [cnt]; omega)).mono ?_
          rintro e w6 ⟨r, rfl, hT6, e6⟩
          have s6 : w5.heap.size ≤ w6.heap.size := e6.size
          have X1_4 : Ext w1 w4 := X1_3.trans e4
          have X1_5 : Ext w1 w5 := X1_4.trans e5
          have hT7 : InT w6 M (.mk k n (ks.set j t')) r := InT.mono (fun b hb => by
            rcases hb with hb | hb
            · exact hb.1
            · exact HMN.out b (by have := X1_5.size; omega)) (fun _ _ => rfl) hT6
          obtain ⟨u1, u2, u3, u4, u5, rfl⟩ := hT7.three
          have HT7 := Lib.hid hT7
          clear hT6 hT7
          have bt_5 := e5.blk bt_4
          have bt_6 := e6.blk bt_5
          have zt0 : w6.cell? ⟨w0.heap.size, 0, none⟩ = some (.int .i64 k) := cell_of_blk bt_6 0
          have zt1 : w6.cell? ⟨w0.heap.size, 1, none⟩ = some (.int .i64 n) := cell_of_blk bt_6 1
          have zt2 : w6.cell? ⟨w0.heap.size, 2, none⟩ = some (.slice (some ⟨b, o, none⟩) ks.length cap) := cell_of_blk bt_6 2
          have lt := lt_of_blk bt_6
          have br_5 := e5.blk br_4
          have br_6 := e6.blk br_5
          obtain ⟨zr0, zr1, zr2, yr0, yr1, yr2⟩ := own3 br_6
          have lr := lt_of_blk br_6
          have bx_6 := e6.blk bx_5
          have zx0 : w6.cell? ⟨w4.heap.size, 0, none⟩ = some (.int .i64 a1) := cell_of_blk bx_6 0
          have zx1 : w6.cell? ⟨w4.heap.size, 1, none⟩ = some (.int .i64 a2) := cell_of_blk bx_6 1
          have zx2 : w6.cell? ⟨w4.heap.size, 2, none⟩ = some (.slice a3 a4 a5) := cell_of_blk bx_6 2
          have lx := lt_of_blk bx_6
          have X0_6 : Ext w0 w6 := X0_5.trans e6
          go_wp2_with fail
          rw [HF.out]
          refine bodyPost_ret (v := .tuple #[.agg #[.int .i64 u1, .int .i64 u2, .slice u3 u4 u5], .bool true]) (by simp [results, Tryz.results133, go_sem, zr0, zr1, zr2]) rfl ⟨_, rfl, InT.ret (HM.out ▸ HT7.out) _ _ _, (((X0_6.setCell (by simp; try omega) _).setCell (by simp; try omega) _).setCell (by simp; try omega) _)⟩
      · have hout : outT (.mk k n ks) = none := HJ.out.trans (outTs_end (by omega))
        have hfin : R = (.mk k n ks, false) := by
          rw [← HRR.out]
          unfold stpS
          rw [hout]
        have HF := Lib.hid hfin
        clear hout hfin
        have bt_2 := e2.blk bt_1
        have br_2 := e2.blk br_1
        have bt_3 := e3.blk bt_2
        have br_3 := e3.blk br_2
        have X0_1 : Ext w0 w1 := e1
        have X0_2 : Ext w0 w2 := X0_1.trans e2
        have X0_3 : Ext w0 w3 := X0_2.trans e3
        have zt0 : w3.cell? ⟨w0.heap.size, 0, none⟩ = some (.int .i64 k) := cell_of_blk bt_3 0
        have zt1 : w3.cell? ⟨w0.heap.size, 1, none⟩ = some (.int .i64 n) := cell_of_blk bt_3 1
        have zt2 : w3.cell? ⟨w0.heap.size, 2, none⟩ = some (.slice A ks.length cap) := cell_of_blk bt_3 2
        have lt := lt_of_blk bt_3
        obtain ⟨zr0, zr1, zr2, yr0, yr1, yr2⟩ := own3 br_3
        have lr := lt_of_blk br_3
        go_wp2_with fail
        rw [HF.out]
        refine bodyPost_ret (v := .tuple #[.agg #[.int .i64 k, .int .i64 n, .slice A ks.length cap], .bool false]) (by simp [results, Tryz.results133, go_sem, zr0, zr1, zr2]) rfl ⟨_, rfl, InT.ret (InT.keep HIN.out X0_3 (show w0.heap.size ≤ w0.heap.size + 1 from Nat.le_succ _)) _ _ _, (((X0_3.setCell (by simp; try omega) _).setCell (by simp; try omega) _).setCell (by simp; try omega) _)⟩
  · have hz : (rdx k ks != 0) = true := by simp [hr]
    have hfin : R = (ctrT (.mk k n ks), true) := by
      rw [← hR]
      unfold stpS
      rw [outT, if_neg hr]
      simp only
      rw [conA_nil]
    have HC := Lib.hid (fun W (hx : Ext w0 W) => l3Contract_new (.mk k n ks) hv (isRdx_iff.2 hr) W _ (hLi.ext hx))
    rw [hfin]
    generalize rdx k ks = q at HRX hz
    generalize ctrT (.mk k n ks) = T at HC ⊢
    clear ih hR hv hr hLi hsh hfin
    go_enter Tryz.func133, Tryz.ntmps133
    go_wp2_with fail
    rw [← hw1]
    clear hw1
    refine (HRX.out _ e1).mono ?_
    rintro e w2 ⟨rfl, e2⟩
    have s2 : w1.heap.size ≤ w2.heap.size := e2.size
    have bt_2 := e2.blk bt_1
    have zt0 : w2.cell? ⟨w0.heap.size, 0, none⟩ = some (.int .i64 k) := cell_of_blk bt_2 0
    have zt1 : w2.cell? ⟨w0.heap.size, 1, none⟩ = some (.int .i64 n) := cell_of_blk bt_2 1
    have zt2 : w2.cell? ⟨w0.heap.size, 2, none⟩ = some (.slice A ks.length cap) := cell_of_blk bt_2 2
    have lt := lt_of_blk bt_2
    have br_2 := e2.blk br_1
    obtain ⟨zr0, zr1, zr2, yr0, yr1, yr2⟩ := own3 br_2
    have lr := lt_of_blk br_2
    go_wp2_with fail
    clear zt0 zt1 zt2 lt zr0 zr1 zr2 yr0 yr1 yr2 lr
    have X0_1 : Ext w0 w1 := e1
    have X0_2 : Ext w0 w2 := X0_1.trans e2
    refine (HC.out _ X0_2).mono ?_
    rintro e w3 ⟨r, rfl, hT, e3⟩
    have s3 : w2.heap.size ≤ w3.heap.size := e3.size
    have X1_2 : Ext w1 w2 := e2
    have hT3 : InT w3 M T r := InT.mono (fun b hb => HMN.out b (by have := X1_2.size; omega)) (fun _ _ => rfl) hT
    obtain ⟨u1, u2, u3, u4, u5, rfl⟩ := hT3.three
    have HT3 := Lib.hid hT3
    clear hT hT3
    have bt_3 := e3.blk bt_2
    have zt0 : w3.cell? ⟨w0.heap.size, 0, none⟩ = some (.int .i64 k) := cell_of_blk bt_3 0
    have zt1 : w3.cell? ⟨w0.heap.size, 1, none⟩ = some (.int .i64 n) := cell_of_blk bt_3 1
    have zt2 : w3.cell? ⟨w0.heap.size, 2, none⟩ = some (.slice A ks.length cap) := cell_of_blk bt_3 2
    have lt := lt_of_blk bt_3
    have br_3 := e3.blk br_2
    obtain ⟨zr0, zr1, zr2, yr0, yr1, yr2⟩ := own3 br_3
    have lr := lt_of_blk br_3
    have X0_3 : Ext w0 w3 := X0_2.trans e3
    go_wp2_with fail
    refine bodyPost_ret (v := .tuple #[.agg #[.int .i64 u1, .int .i64 u2, .slice u3 u4 u5], .bool true]) (by simp [results, Tryz.results133, go_sem, zr0, zr1, zr2]) rfl ⟨_, rfl, InT.ret (HM.out ▸ HT3.out) _ _ _, (((X0_3.setCell (by simp; try omega) _).setCell (by simp; try omega) _).setCell (by simp; try omega) _)⟩
set_option maxRecDepth 100000 in
set_option maxHeartbeats 4000000 in
theorem l3One_any (t : Tr) (hv : valid sigT t = true) (w0 : World) (N : Nat → Prop) (v : Value) (hN : ∀ b, w0.heap.size ≤ b → N b) (hin : InT w0 N t v) : Calls Tryz.prog 98 #[v, .bool false] w0 (AnQ N w0 (stepO t)) := by
  have HS := Lib.hid (fun W (M : Nat → Prop) (hM : ∀ b, W.heap.size ≤ b → M b) (h : InT W M t v) => l3Step_any t hv W M v hM h)
  have HC := Lib.hid (fun W (hx : Ext w0 W) => l1Copy_from t W v (hin.lies'.ext hx) (by have := (valid_parts hv).2; omega))
  have HIN := Lib.hid hin
  have hst : stepO t = match outT t with | none => (t, 0) | some p => if valid sigT (conA t p) = true then (conA t p, 1) else (dflt0, 2) := rfl
  unfold stpS at HS
  rw [hst]
  clear hst
  generalize outT t = q at HS ⊢
  obtain ⟨k, n, ks⟩ := t
  obtain ⟨A, cap, rfl, hl, hc, hK⟩ := InT.mk_iff.1 hin
  clear hin hK hv
  obtain ⟨bt_1, br_1, s1⟩ := blk2 (Ext.refl ((w0.alloc (.cells #[.int .i64 k, .int .i64 n, .slice A ks.length cap] 45)).alloc (.cells #[.int .i64 0, .int .i64 0, .slice none 0 0] 45)))
  have e1 : Ext w0 ((w0.alloc (.cells #[.int .i64 k, .int .i64 n, .slice A ks.length cap] 45)).alloc (.cells #[.int .i64 0, .int .i64 0, .slice none 0 0] 45)) := (((Ext.refl w0).alloc (.cells #[.int .i64 k, .int .i64 n, .slice A ks.length cap] 45)).alloc (.cells #[.int .i64 0, .int .i64 0, .slice none 0 0] 45))
  obtain ⟨w1, hw1⟩ : ∃ x, x = ((w0.alloc (.cells #[.int .i64 k, .int .i64 n, .slice A ks.length cap] 45)).alloc (.cells #[.int .i64 0, .int .i64 0, .slice none 0 0] 45)) := ⟨_, rfl⟩
  rw [← hw1] at e1 s1 bt_1 br_1
  obtain ⟨M, hM⟩ : ∃ M, M = (fun b => N b ∧ b ≠ w0.heap.size + 1) := ⟨_, rfl⟩
  have HMN := Lib.hid (show ∀ b, w1.heap.size ≤ b → M b by rw [hM]; exact newN hN e1.size (by omega))
  have HIM := Lib.hid (show InT w1 M _ _ by rw [hM]; exact HIN.out.keep e1 (Nat.le_succ _))
  have HM := Lib.hid hM
  clear hM hN
  cases q with
  | none =>
    simp only at HS ⊢
    go_enter Tryz.func98, Tryz.ntmps98
    go_wp2_with fail
    rw [← hw1]
    clear hw1
    refine (HS.out w1 M HMN.out HIM.out).mono ?_
    rintro e w2 ⟨r, rfl, hT, e2⟩
    have s2 : w1.heap.size ≤ w2.heap.size := e2.size
    obtain ⟨a1, a2, a3, a4, a5, rfl⟩ := hT.three
    clear hT
    have bt_2 := e2.blk bt_1
    have zt0 : w2.cell? ⟨w0.heap.size, 0, none⟩ = some (.int .i64 k) := cell_of_blk bt_2 0
    have zt1 : w2.cell? ⟨w0.heap.size, 1, none⟩ = some (.int .i64 n) := cell_of_blk bt_2 1
    have zt2 : w2.cell? ⟨w0.heap.size, 2, none⟩ = some (.slice A ks.length cap) := cell_of_blk bt_2 2
    have lt := lt_of_blk bt_2
    have br_2 := e2.blk br_1
    obtain ⟨zr0, zr1, zr2, yr0, yr1, yr2⟩ := own3 br_2
    have lr := lt_of_blk br_2
    obtain ⟨w3, hw3⟩ : ∃ x, x = w2.alloc (.cells #[.int .i64 a1, .int .i64 a2, .slice a3 a4 a5] 45) := ⟨_, rfl⟩
    have e3 : Ext w2 w3 := hw3 ▸ (Ext.refl w2).alloc _
    have bx_3 := heap_alloc_new w2 (.cells #[.int .i64 a1, .int .i64 a2, .slice a3 a4 a5] 45)
    rw [← hw3] at bx_3
    have s3 : w2.heap.size < w3.heap.size := lt_of_blk bx_3
    go_wp2_with fail
    rw [← hw3]
    clear hw3
    clear zt0 zt1 zt2 lt zr0 zr1 zr2 yr0 yr1 yr2 lr
    have X0_1 : Ext w0 w1 := e1
    have X0_2 : Ext w0 w2 := X0_1.trans e2
    have X0_3 : Ext w0 w3 := X0_2.trans e3
    have X1_2 : Ext w1 w2 := e2
    have X1_3 : Ext w1 w3 := X1_2.trans e3
    refine (HC.out w3 X0_3).mono ?_
    rintro e w4 ⟨u1, u2, u3, u4, u5, z, y, rfl, hT, e4, hz, hy⟩
    have s4 : w3.heap.size ≤ w4.heap.size := e4.size
    have HT4 := Lib.hid (show InT w4 M _ _ from InT.mono (fun b hb => HMN.out b (by have := X1_3.size; omega)) (fun _ _ => rfl) hT)
    clear hT hz hy
    have bt_3 := e3.blk bt_2
    have bt_4 := e4.blk bt_3
    have zt0 : w4.cell? ⟨w0.heap.size, 0, none⟩ = some (.int .i64 k) := cell_of_blk bt_4 0
    have zt1 : w4.cell? ⟨w0.heap.size, 1, none⟩ = some (.int .i64 n) := cell_of_blk bt_4 1
    have zt2 : w4.cell? ⟨w0.heap.size, 2, none⟩ = some (.slice A ks.length cap) := cell_of_blk bt_4 2
    have lt := lt_of_blk bt_4
    have br_3 := e3.blk br_2
    have br_4 := e4.blk br_3
    obtain ⟨zr0, zr1, zr2, yr0, yr1, yr2⟩ := own3 br_4
    have lr := lt_of_blk br_4
    have bx_4 := e4.blk bx_3
    have zx0 : w4.cell? ⟨w2.heap.size, 0, none⟩ = some (.int .i64 a1) := cell_of_blk bx_4 0
    have zx1 : w4.cell? ⟨w2.heap.size, 1, none⟩ = some (.int .i64 a2) := cell_of_blk bx_4 1
    have zx2 : w4.cell? ⟨w2.heap.size, 2, none⟩ = some (.slice a3 a4 a5) := cell_of_blk bx_4 2
    have lx := lt_of_blk bx_4
    have X0_4 : Ext w0 w4 := X0_3.trans e4
    go_wp2_with fail
    refine bodyPost_ret (v := .tuple #[.agg #[.int .i64 u1, .int .i64 u2, .slice u3 u4 u5], .int .i64 0]) (by simp [results, Tryz.results98, go_sem, zr0, zr1, zr2]) rfl ⟨_, rfl, InT.ret (HM.out ▸ HT4.out) _ _ _, (((X0_4.setCell (by simp; try omega) _).setCell (by simp; try omega) _).setCell (by simp; try omega) _)⟩
  | some p =>
    simp only at HS ⊢
    obtain ⟨z, hz⟩ : ∃ z, valid sigT (conA (.mk k n ks) p) = z := ⟨_, rfl⟩
    rw [hz]
    have HV := Lib.hid (fun W v (h : Lies W (conA (.mk k n ks) p) v) => hz ▸ specValidTerm (conA (.mk k n ks) p) W v h)
    generalize conA (.mk k n ks) p = T at HS HV ⊢
    clear hz
    cases z with
    | false =>
      rw [if_neg (by simp)]
      go_enter Tryz.func98, Tryz.ntmps98
      go_wp2_with fail
      rw [← hw1]
      clear hw1
      refine (HS.out w1 M HMN.out HIM.out).mono ?_
      rintro e w2 ⟨r, rfl, hT, e2⟩
      have s2 : w1.heap.size ≤ w2.heap.size := e2.size
      obtain ⟨a1, a2, a3, a4, a5, rfl⟩ := hT.three
      have HT := Lib.hid hT
      clear hT
      have bt_2 := e2.blk bt_1
      have zt0 : w2.cell? ⟨w0.heap.size, 0, none⟩ = some (.int .i64 k) := cell_of_blk bt_2 0
      have zt1 : w2.cell? ⟨w0.heap.size, 1, none⟩ = some (.int .i64 n) := cell_of_blk bt_2 1
      have zt2 : w2.cell? ⟨w0.heap.size, 2, none⟩ = some (.slice A ks.length cap) := cell_of_blk bt_2 2
      have lt := lt_of_blk bt_2
      have br_2 := e2.blk br_1
      obtain ⟨zr0, zr1, zr2, yr0, yr1, yr2⟩ := own3 br_2
      have lr := lt_of_blk br_2
      obtain ⟨w3, hw3⟩ : ∃ x, x = w2.alloc (.cells #[.int .i64 a1, .int .i64 a2, .slice a3 a4 a5] 45) := ⟨_, rfl⟩
      have e3 : Ext w2 w3 := hw3 ▸ (Ext.refl w2).alloc _
      have bx_3 := heap_alloc_new w2 (.cells #[.int .i64 a1, .int .i64 a2, .slice a3 a4 a5] 45)
      rw [← hw3] at bx_3
      have s3 : w2.heap.size < w3.heap.size := lt_of_blk bx_3
      go_wp2_with fail
      rw [← hw3]
      clear hw3
      clear zt0 zt1 zt2 lt zr0 zr1 zr2 yr0 yr1 yr2 lr
      have X2_3 : Ext w2 w3 := e3
      refine (HV.out w3 _ (HT.out.later X2_3).lies').mono ?_
      rintro e w4 ⟨rfl, e4⟩
      have s4 : w3.heap.size ≤ w4.heap.size := e4.size
      have X2_4 : Ext w2 w4 := X2_3.trans e4
      have bt_3 := e3.blk bt_2
      have bt_4 := e4.blk bt_3
      have zt0 : w4.cell? ⟨w0.heap.size, 0, none⟩ = some (.int .i64 k) := cell_of_blk bt_4 0
      have zt1 : w4.cell? ⟨w0.heap.size, 1, none⟩ = some (.int .i64 n) := cell_of_blk bt_4 1
      have zt2 : w4.cell? ⟨w0.heap.size, 2, none⟩ = some (.slice A ks.length cap) := cell_of_blk bt_4 2
      have lt := lt_of_blk bt_4
      have br_3 := e3.blk br_2
      have br_4 := e4.blk br_3
      obtain ⟨zr0, zr1, zr2, yr0, yr1, yr2⟩ := own3 br_4
      have lr := lt_of_blk br_4
      have bx_4 := e4.blk bx_3
      have zx0 : w4.cell? ⟨w2.heap.size, 0, none⟩ = some (.int .i64 a1) := cell_of_blk bx_4 0
      have zx1 : w4.cell? ⟨w2.heap.size, 1, none⟩ = some (.int .i64 a2) := cell_of_blk bx_4 1
      have zx2 : w4.cell? ⟨w2.heap.size, 2, none⟩ = some (.slice a3 a4 a5) := cell_of_blk bx_4 2
      have lx := lt_of_blk bx_4
      have X0_1 : Ext w0 w1 := e1
      have X0_2 : Ext w0 w2 := X0_1.trans e2
      have X0_3 : Ext w0 w3 := X0_2.trans e3
      have X0_4 : Ext w0 w4 := X0_3.trans e4
      go_wp2_with fail
      refine bodyPost_ret (v := .tuple #[.agg #[.int .i64 0, .int .i64 0, .slice none 0 0], .int .i64 2]) (by simp [results, Tryz.results98, go_sem, zr0, zr1, zr2]) rfl ⟨_, rfl, leafT _ _ 0 0, (((X0_4.setCell (by simp; try omega) _).setCell (by simp; try omega) _).setCell (by simp; try omega) _)⟩
    | true =>
      rw [if_pos rfl]
      go_enter Tryz.func98, Tryz.ntmps98
      go_wp2_with fail
      rw [← hw1]
      clear hw1
      refine (HS.out w1 M HMN.out HIM.out).mono ?_
      rintro e w2 ⟨r, rfl, hT, e2⟩
      have s2 : w1.heap.size ≤ w2.heap.size := e2.size
      obtain ⟨a1, a2, a3, a4, a5, rfl⟩ := hT.three
      have HT := Lib.hid hT
      clear hT
      have bt_2 := e2.blk bt_1
      have zt0 : w2.cell? ⟨w0.heap.size, 0, none⟩ = some (.int .i64 k) := cell_of_blk bt_2 0
      have zt1 : w2.cell? ⟨w0.heap.size, 1, none⟩ = some (.int .i64 n) := cell_of_blk bt_2 1
      have zt2 : w2.cell? ⟨w0.heap.size, 2, none⟩ = some (.slice A ks.length cap) := cell_of_blk bt_2 2
      have lt := lt_of_blk bt_2
      have br_2 := e2.blk br_1
      obtain ⟨zr0, zr1, zr2, yr0, yr1, yr2⟩ := own3 br_2
      have lr := lt_of_blk br_2
      obtain ⟨w3, hw3⟩ : ∃ x, x = w2.alloc (.cells #[.int .i64 a1, .int .i64 a2, .slice a3 a4 a5] 45) := ⟨_, rfl⟩
      have e3 : Ext w2 w3 := hw3 ▸ (Ext.refl w2).alloc _
      have bx_3 := heap_alloc_new w2 (.cells #[.int .i64 a1, .int .i64 a2, .slice a3 a4 a5] 45)
      rw [← hw3] at bx_3
      have s3 : w2.heap.size < w3.heap.size := lt_of_blk bx_3
      go_wp2_with fail
      rw [← hw3]
      clear hw3
      clear zt0 zt1 zt2 lt zr0 zr1 zr2 yr0 yr1 yr2 lr
      have X2_3 : Ext w2 w3 := e3
      refine (HV.out w3 _ (HT.out.later X2_3).lies').mono ?_
      rintro e w4 ⟨rfl, e4⟩
      have s4 : w3.heap.size ≤ w4.heap.size := e4.size
      have X2_4 : Ext w2 w4 := X2_3.trans e4
      have bt_3 := e3.blk bt_2
      have bt_4 := e4.blk bt_3
      have zt0 : w4.cell? ⟨w0.heap.size, 0, none⟩ = some (.int .i64 k) := cell_of_blk bt_4 0
      have zt1 : w4.cell? ⟨w0.heap.size, 1, none⟩ = some (.int .i64 n) := cell_of_blk bt_4 1
      have zt2 : w4.cell? ⟨w0.heap.size, 2, none⟩ = some (.slice A ks.length cap) := cell_of_blk bt_4 2
      have lt := lt_of_blk bt_4
      have br_3 := e3.blk br_2
      have br_4 := e4.blk br_3
      obtain ⟨zr0, zr1, zr2, yr0, yr1, yr2⟩ := own3 br_4
      have lr := lt_of_blk br_4
      have bx_4 := e4.blk bx_3
      have zx0 : w4.cell? ⟨w2.heap.size, 0, none⟩ = some (.int .i64 a1) := cell_of_blk bx_4 0
      have zx1 : w4.cell? ⟨w2.heap.size, 1, none⟩ = some (.int .i64 a2) := cell_of_blk bx_4 1
      have zx2 : w4.cell? ⟨w2.heap.size, 2, none⟩ = some (.slice a3 a4 a5) := cell_of_blk bx_4 2
      have lx := lt_of_blk bx_4
      have X0_1 : Ext w0 w1 := e1
      have X0_2 : Ext w0 w2 := X0_1.trans e2
      have X0_3 : Ext w0 w3 := X0_2.trans e3
      have X0_4 : Ext w0 w4 := X0_3.trans e4
      go_wp2_with fail
      refine bodyPost_ret (v := .tuple #[.agg #[.int .i64 a1, .int .i64 a2, .slice a3 a4 a5], .int .i64 1]) (by simp [results, Tryz.results98, go_sem, zr0, zr1, zr2]) rfl ⟨_, rfl, InT.ret (HM.out ▸ HT.out.later X2_4) _ _ _, (((X0_4.setCell (by simp; try omega) _).setCell (by simp; try omega) _).setCell (by simp; try omega) _)⟩
/-- Clear of two blocks. -/
def Off2 (w0 : World) (b : Nat) : Prop := b ≠ w0.heap.size ∧ b ≠ w0.heap.size + 1
set_option maxRecDepth 100000 in
set_option maxHeartbeats 4000000 in
theorem l3Norm_any (t : Tr) (F : Nat) (hF : F ≤ 200) (hv : valid sigT t = true) (w0 : World) (v : Value) (hin : Lies w0 t v) :
    Calls Tryz.prog 54 #[v, .int .i64 F, .bool false] w0 fun e w' => ∃ r, e = .returned (.tuple #[r, .int .i64 (nrmC F t).2]) ∧ Lies w' (nrmC F t).1 r ∧ Ext w0 w' := by
  obtain ⟨R, hR⟩ : ∃ R, nrmC F t = R := ⟨_, rfl⟩
  rw [hR]
  obtain ⟨k, n, ks⟩ := t
  obtain ⟨A, cap, rfl, hl, hc, hK⟩ := Lies.mk_iff.1 hin
  obtain ⟨bt_1, br_1, s1⟩ := blk2 (Ext.refl ((w0.alloc (.cells #[.int .i64 k, .int .i64 n, .slice A ks.length cap] 45)).alloc (.cells #[.int .i64 0, .int .i64 0, .slice none 0 0] 45)))
  have e1 : Ext w0 ((w0.alloc (.cells #[.int .i64 k, .int .i64 n, .slice A ks.length cap] 45)).alloc (.cells #[.int .i64 0, .int .i64 0, .slice none 0 0] 45)) := (((Ext.refl w0).alloc (.cells #[.int .i64 k, .int .i64 n, .slice A ks.length cap] 45)).alloc (.cells #[.int .i64 0, .int .i64 0, .slice none 0 0] 45))
  obtain ⟨w1, hw1⟩ : ∃ x, x = ((w0.alloc (.cells #[.int .i64 k, .int .i64 n, .slice A ks.length cap] 45)).alloc (.cells #[.int .i64 0, .int .i64 0, .slice none 0 0] 45)) := ⟨_, rfl⟩
  rw [← hw1] at e1 s1 bt_1 br_1
  have hI1 : InT w1 (Off2 w0) (.mk k n ks) (.agg #[.int .i64 k, .int .i64 n, .slice A ks.length cap]) := InT.mono (fun b hb => ⟨by have : b < w0.heap.size := hb; omega, by have : b < w0.heap.size := hb; omega⟩) (fun b hb => e1.heap b hb) hin
  have HR := Lib.hid hR
  have HVX := Lib.hid hv
  clear hR hv hin hK
  go_enter Tryz.func54, Tryz.ntmps54
  go_wp2_with fail
  rw [← hw1]
  clear hw1
  go_loopw [1] (fun i wr => ∃ (j : Nat) (k' n' : Int) (kids : List Tr) (A' : Option Addr) (c' : Nat), j ≤ F ∧ i = .int .i64 j ∧ Hid (nrmC j (.mk k' n' kids) = R) ∧ Hid (valid sigT (.mk k' n' kids) = true) ∧ kids.length ≤ c' ∧ c' ≤ maxLen ∧ InT wr (Off2 w0) (.mk k' n' kids) (.agg #[.int .i64 k', .int .i64 n', .slice A' kids.length c']) ∧
    wr.heap[w0.heap.size]? = some (.cells #[.int .i64 k', .int .i64 n', .slice A' kids.length c'] 45 (0, 0)) ∧ wr.heap[w0.heap.size + 1]? = some (.cells #[.int .i64 0, .int .i64 0, .slice none 0 0] 45 (0, 0)) ∧ Ext w0 wr) (fun i _ => (intOf i).toNat)
  case atStart => exact ⟨F, k, n, ks, A, cap, Nat.le_refl _, rfl, HR, HVX, hl, hc, hI1, bt_1, br_1, e1⟩
  case round =>
    obtain ⟨j, k', n', kids, A', c', hj, rfl, HN, HV, hkl, hkc, hT, hbt, hbr, hx⟩ := hrel
    have hsz : w0.heap.size + 1 < wr.heap.size := lt_of_blk hbr
    have HO := Lib.hid (l3One_any (.mk k' n' kids) HV.out wr (Off2 w0) _ (fun b hb => ⟨by omega, by omega⟩) hT)
    have hst : stepO (.mk k' n' kids) = match outT (.mk k' n' kids) with | none => (.mk k' n' kids, 0) | some p => if valid sigT (conA (.mk k' n' kids) p) = true then (conA (.mk k' n' kids) p, 1) else (dflt0, 2) := rfl
    obtain ⟨z0, z1, z2, -, -, -⟩ := own3 hbt
    clear hT hI1 bt_1 br_1 e1 s1
    obtain ⟨q, hq⟩ : ∃ q, outT (.mk k' n' kids) = q := ⟨_, rfl⟩
    rw [hq] at hst
    cases q with
    | none =>
      simp only at hst
      rw [hst] at HO
      have HE := Lib.hid ((nrmC_none hq j).symm.trans HN.out)
      clear hst hq
      go_wp2_with fail
      refine HO.out.mono ?_
      rintro e w2 ⟨r, rfl, hT2, e2⟩
      obtain ⟨a1, a2, a3, a4, a5, rfl⟩ := hT2.three
      have HT2 := Lib.hid hT2
      have HW2 := Lib.hid (show w0.heap.size + 1 < w2.heap.size by have := e2.size; omega)
      have hlt2 : w0.heap.size < w2.heap.size := by have := e2.size; omega
      clear hT2 z0 z1 z2

      have eq2 : Ext w2 (w2.alloc (.cells #[.int .i64 a1, .int .i64 a2, .slice a3 a4 a5] 45)) := (Ext.refl w2).alloc _
      have hbr2 := e2.blk hbr
      obtain ⟨z0, z1, z2, y0, y1, y2⟩ := own3 hbr2
      obtain ⟨p0, p1, p2, o0, o1, o2⟩ := own3 (eq2.blk hbr2)
      clear hlt2
      go_wp2_with fail
      rw [← HE.out]
      refine bodyPost_ret (v := .tuple #[.agg #[.int .i64 a1, .int .i64 a2, .slice a3 a4 a5], .int .i64 0]) (by simp [results, Tryz.results54, go_sem, p0, p1, p2]) rfl ⟨_, rfl, InT.lies' (InT.ret (N := fun _ => True) (InT.mono (fun b hb => ⟨trivial, hb.2⟩) (fun b hb => rfl) (HT2.out.later eq2)) _ _ _), ((((hx.trans e2).trans eq2).setCell (by simp; try omega) _).setCell (by simp; try omega) _).setCell (by simp; try omega) _⟩
    | some p =>
      simp only at hst
      by_cases hj0 : j = 0
      · have HE := Lib.hid ((show nrmC j (.mk k' n' kids) = (dflt0, 1) by rw [hj0]; exact nrmC_zero hq).symm.trans HN.out)
        subst hj0
        by_cases hcx : valid sigT (conA (.mk k' n' kids) p) = true
        · rw [if_pos hcx] at hst
          rw [hst] at HO
          clear hst hq hcx HN
          go_wp2_with fail
          refine HO.out.mono ?_
          rintro e w2 ⟨r, rfl, hT2, e2⟩
          obtain ⟨a1, a2, a3, a4, a5, rfl⟩ := hT2.three
          have HT2 := Lib.hid hT2
          have HW2 := Lib.hid (show w0.heap.size + 1 < w2.heap.size by have := e2.size; omega)
          have hlt2 : w0.heap.size < w2.heap.size := by have := e2.size; omega
          clear hT2 z0 z1 z2

          have eq2 : Ext w2 (w2.alloc (.cells #[.int .i64 a1, .int .i64 a2, .slice a3 a4 a5] 45)) := (Ext.refl w2).alloc _
          have hbr2 := e2.blk hbr
          obtain ⟨z0, z1, z2, y0, y1, y2⟩ := own3 hbr2
          obtain ⟨p0, p1, p2, o0, o1, o2⟩ := own3 (eq2.blk hbr2)
          clear hlt2
          go_wp2_with fail
          rw [← HE.out]
          refine bodyPost_ret (v := .tuple #[.agg #[.int .i64 0, .int .i64 0, .slice none 0 0], .int .i64 1]) (by simp [results, Tryz.results54, go_sem, p0, p1, p2]) rfl ⟨_, rfl, InT.lies' (leafT _ (fun _ => True) 0 0), ((((hx.trans e2).trans eq2).setCell (by simp; try omega) _).setCell (by simp; try omega) _).setCell (by simp; try omega) _⟩
        · rw [if_neg hcx] at hst
          rw [hst] at HO
          clear hst hq hcx HN
          go_wp2_with fail
          refine HO.out.mono ?_
          rintro e w2 ⟨r, rfl, hT2, e2⟩
          obtain ⟨a1, a2, a3, a4, a5, rfl⟩ := hT2.three
          have HT2 := Lib.hid hT2
          have HW2 := Lib.hid (show w0.heap.size + 1 < w2.heap.size by have := e2.size; omega)
          have hlt2 : w0.heap.size < w2.heap.size := by have := e2.size; omega
          clear hT2 z0 z1 z2

          have eq2 : Ext w2 (w2.alloc (.cells #[.int .i64 a1, .int .i64 a2, .slice a3 a4 a5] 45)) := (Ext.refl w2).alloc _
          have hbr2 := e2.blk hbr
          obtain ⟨z0, z1, z2, y0, y1, y2⟩ := own3 hbr2
          obtain ⟨p0, p1, p2, o0, o1, o2⟩ := own3 (eq2.blk hbr2)
          clear hlt2
          go_wp2_with fail
          rw [← HE.out]
          refine bodyPost_ret (v := .tuple #[.agg #[.int .i64 0, .int .i64 0, .slice none 0 0], .int .i64 1]) (by simp [results, Tryz.results54, go_sem, p0, p1, p2]) rfl ⟨_, rfl, InT.lies' (leafT _ (fun _ => True) 0 0), ((((hx.trans e2).trans eq2).setCell (by simp; try omega) _).setCell (by simp; try omega) _).setCell (by simp; try omega) _⟩
      · obtain ⟨j', rfl⟩ : ∃ j', j = j' + 1 := ⟨j - 1, by omega⟩
        have hj1 : (1 : Int) ≤ ((j' + 1 : Nat) : Int) := by omega
        have hj2 : decide (((j' + 1 : Nat) : Int) < 1) = false := decide_eq_false (by omega)
        have hj3 : ((j' + 1 : Nat) : Int) ≤ 1000 := by omega
        by_cases hcx : valid sigT (conA (.mk k' n' kids) p) = true
        · rw [if_pos hcx] at hst
          rw [hst] at HO
          have HN2 := (nrmC_go hq hcx j').symm.trans HN.out
          generalize conA (.mk k' n' kids) p = X at HO HN2 hcx
          obtain ⟨k2, n2, kids2⟩ := X
          have HX1 := Lib.hid HN2
          have HX2 := Lib.hid hcx
          have hjw : ((j' + 1 : Nat) : Int) - 1 = (j' : Int) := by omega
          clear hst hq hcx HN HN2
          go_wp2_with fail
          refine HO.out.mono ?_
          rintro e w2 ⟨r, rfl, hT2, e2⟩
          obtain ⟨A2, c2, rfl, hl2, hc2, hK2⟩ := InT.mk_iff.1 hT2
          have HT2 := Lib.hid hT2
          have eq2 : Ext w2 (w2.alloc (.cells #[.int .i64 k2, .int .i64 n2, .slice A2 kids2.length c2] 45)) := (Ext.refl w2).alloc _
          have hbt2 := e2.blk hbt
          have hbr2 := e2.blk hbr
          have HB := Lib.hid (eq2.blk hbt2)
          have HBR := Lib.hid (eq2.blk hbr2)
          have HW2 := Lib.hid (show w0.heap.size + 1 < w2.heap.size by have := e2.size; omega)
          obtain ⟨p0, p1, p2, o0, o1, o2⟩ := own3 (eq2.blk hbt2)
          have KEEP := Lib.hid (fun (a0 a1 a2 : Value) => (show InT ((((w2.alloc (.cells #[.int .i64 k2, .int .i64 n2, .slice A2 kids2.length c2] 45)).setCell ⟨w0.heap.size, 0, none⟩ a0).setCell ⟨w0.heap.size, 1, none⟩ a1).setCell ⟨w0.heap.size, 2, none⟩ a2) (Off2 w0) (.mk k2 n2 kids2) (.agg #[.int .i64 k2, .int .i64 n2, .slice A2 kids2.length c2]) from InT.ret (InT.mono (fun b hb => ⟨hb, hb.1⟩) (fun _ _ => rfl) (HT2.out.later eq2)) a0 a1 a2))
          clear hT2 z0 z1 z2 hbt hbr hbt2 hbr2 hK2
          go_wp2_with fail
          go_roundw
          case rel => exact ⟨j', k2, n2, kids2, A2, c2, by omega, by (try rw [hjw]); (try go_num), HX1, HX2, hl2, hc2, KEEP.out _ _ _, blk_setCell (blk_setCell (blk_setCell HB.out 0 _) 1 _) 2 _, blk_setCell_ne (blk_setCell_ne (blk_setCell_ne HBR.out (by simp) _) (by simp) _) (by simp) _, ((((hx.trans e2).trans eq2).setCell (by simp) _).setCell (by simp) _).setCell (by simp) _⟩
          case measure => (simp [intOf]; try omega)
        · rw [if_neg hcx] at hst
          rw [hst] at HO
          have HE := Lib.hid ((nrmC_no hq (Bool.eq_false_iff.2 hcx) j').symm.trans HN.out)
          clear hst hq hcx HN
          go_wp2_with fail
          refine HO.out.mono ?_
          rintro e w2 ⟨r, rfl, hT2, e2⟩
          obtain ⟨a1, a2, a3, a4, a5, rfl⟩ := hT2.three
          have HT2 := Lib.hid hT2
          have HW2 := Lib.hid (show w0.heap.size + 1 < w2.heap.size by have := e2.size; omega)
          have hlt2 : w0.heap.size < w2.heap.size := by have := e2.size; omega
          clear hT2 z0 z1 z2

          have eq2 : Ext w2 (w2.alloc (.cells #[.int .i64 a1, .int .i64 a2, .slice a3 a4 a5] 45)) := (Ext.refl w2).alloc _
          have hbr2 := e2.blk hbr
          obtain ⟨z0, z1, z2, y0, y1, y2⟩ := own3 hbr2
          obtain ⟨p0, p1, p2, o0, o1, o2⟩ := own3 (eq2.blk hbr2)
          clear hlt2
          go_wp2_with fail
          rw [← HE.out]
          refine bodyPost_ret (v := .tuple #[.agg #[.int .i64 0, .int .i64 0, .slice none 0 0], .int .i64 2]) (by simp [results, Tryz.results54, go_sem, p0, p1, p2]) rfl ⟨_, rfl, InT.lies' (leafT _ (fun _ => True) 0 0), ((((hx.trans e2).trans eq2).setCell (by simp; try omega) _).setCell (by simp; try omega) _).setCell (by simp; try omega) _⟩
end Go.Proofs.YtolkohncmidpeaaGreatDoor

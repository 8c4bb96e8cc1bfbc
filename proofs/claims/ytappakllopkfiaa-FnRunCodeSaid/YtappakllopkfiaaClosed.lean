/-
  spec.l12Value, l12Closed.
-/
import Derived.Test.YtappakllopkfiaaFilled
import Derived.Test.YtappakllopkfiaaExShape
namespace Go.Proofs.Ytappakllopkfiaa
open Go.RowKit
set_option linter.unusedVariables false
attribute [local go_sem ↓] Go.wp_at_zero Go.wp_at_succ

theorem isV_one (n : Int) (ks : List Tr) (h : ks.length = 1) : isV (.mk 5 n ks) = isV (ks[0]'(by omega)) := by
  match ks, h with
  | [x], _ => simp [isV, isVs]
theorem isV_two (n : Int) (ks : List Tr) (h : ks.length = 2) : isV (.mk 7 n ks) = (isV (ks[0]'(by omega)) && isV (ks[1]'(by omega))) := by
  match ks, h with
  | [x, y], _ => simp [isV, isVs]
def L12VC (t : Tr) : Prop := ∀ (d : Int) (w : World) (v : Value), shape sigC t d = true → Lies w t v → Calls Try.prog 61 #[v] w fun e w' => e = .returned (.bool (isV t)) ∧ Ext w w'
set_option maxRecDepth 100000 in
set_option maxHeartbeats 2000000 in
theorem l12Value_any : ∀ t : Tr, L12VC t := Tr.ind fun k n ks hk => by
  intro d w v hsh hin
  obtain ⟨A, cap, rfl, hl, hc, hK⟩ := Lies.mk_iff.1 hin
  obtain ⟨hops, -, -, hsk⟩ := shape_kids hsh
  have hcc := hc
  unfold maxLen at hcc
  have hx0 := (Ext.refl w).alloc (.cells #[.int .i64 k, .int .i64 n, .slice A ks.length cap] 28)
  clear hsh hin
  by_cases h2 : k = 2
  · subst h2
    go_enter Try.func61, Try.ntmps61
    go_wp2_with fail
    go_ret
    exact ⟨rfl, (Ext.refl _).alloc _⟩
  by_cases h4 : k = 4
  · subst h4
    go_enter Try.func61, Try.ntmps61
    go_wp2_with fail
    go_ret
    exact ⟨rfl, (Ext.refl _).alloc _⟩
  by_cases h10 : k = 10
  · subst h10
    go_enter Try.func61, Try.ntmps61
    go_wp2_with fail
    go_ret
    exact ⟨rfl, (Ext.refl _).alloc _⟩
  by_cases h5 : k = 5
  · subst h5
    have hlen : ks.length = 1 := by have : (1 : Int) = (ks.length : Int) := hops; omega
    have hlt : (0 : Int) < (ks.length : Int) := by omega
    have hiv := isV_one n ks hlen
    obtain ⟨b, o, k', n', A', cap', kids, rfl, HK, c0, c1, c2, hkl, hkc, hK', hin', hmem⟩ := hK.get hx0 (j := 0) (by omega)
    rw [HK.out] at hiv
    have HIV := Lib.hid hiv
    simp only [Nat.zero_mul, Nat.add_zero] at c0 c1 c2
    clear HK hlen hops hiv h2 h4 h10
    go_enter Try.func61, Try.ntmps61
    go_wp2_with fail
    refine (hk _ hmem (d - 1) _ _ (hsk _ hmem) hin').mono ?_
    rintro e w1 ⟨rfl, h1⟩
    go_wp2_with fail
    go_ret
    exact ⟨by rw [HIV.out]; rfl, hx0.trans h1⟩
  by_cases h7 : k = 7
  · subst h7
    have hlen : ks.length = 2 := by have : (2 : Int) = (ks.length : Int) := hops; omega
    have hlt : (0 : Int) < (ks.length : Int) := by omega
    have hlt1 : (1 : Int) < (ks.length : Int) := by omega
    have hiv := isV_two n ks hlen
    obtain ⟨b, o, k', n', A', cap', kids, rfl, HK, c0, c1, c2, hkl, hkc, hK', hin', hmem⟩ := hK.get hx0 (j := 0) (by omega)
    obtain ⟨b', o', k2, n2, A2, cap2, kids2, hbo, HK2, e0, e1, e2, hkl2, hkc2, hK2, hin2, hmem2⟩ := hK.get (Ext.refl w) (j := 1) (by omega)
    simp only [Option.some.injEq, Addr.mk.injEq, and_true] at hbo
    obtain ⟨rfl, rfl⟩ := hbo
    rw [HK.out, HK2.out] at hiv
    simp only [Nat.zero_mul, Nat.add_zero] at c0 c1 c2
    simp only [Nat.reduceMul] at e0 e1 e2
    have hbB := heap_alloc_new w (.cells #[.int .i64 7, .int .i64 n, .slice (some ⟨b, o, none⟩) ks.length cap] 28)
    have H1 := Lib.hid (fun W (hW : Ext w W) => hk _ hmem2 (d - 1) W _ (hsk _ hmem2) (hin2.ext hW))
    have H0 := Lib.hid (hk _ hmem (d - 1) _ _ (hsk _ hmem) hin')
    generalize isV (.mk k' n' kids) = r at hiv H0
    have HIV := Lib.hid hiv
    clear HK HK2 hlen hops hiv h2 h4 h10
    cases r with
    | true =>
      go_enter Try.func61, Try.ntmps61
      go_wp2_with fail
      refine H0.out.mono ?_
      rintro e w1 ⟨rfl, h1⟩
      have hx1 := hx0.trans h1
      obtain ⟨t0, t1, t2, -, -, -⟩ := own3 (h1.blk hbB)
      have q0 := hx1.cell e0
      have q1 := hx1.cell e1
      have q2 := hx1.cell e2
      clear c0 c1 c2 e0 e1 e2 hbB
      go_wp2_with fail
      refine (H1.out _ hx1).mono ?_
      rintro e w2 ⟨rfl, h2⟩
      go_wp2_with fail
      go_ret
      exact ⟨by rw [HIV.out]; rfl, hx1.trans h2⟩
    | false =>
      go_enter Try.func61, Try.ntmps61
      go_wp2_with fail
      refine H0.out.mono ?_
      rintro e w1 ⟨rfl, h1⟩
      go_wp2_with fail
      go_ret
      exact ⟨by rw [HIV.out]; rfl, hx0.trans h1⟩
  · have d2 : (k == 2) = false := beq_eq_false_iff_ne.2 h2
    have d4 : (k == 4) = false := beq_eq_false_iff_ne.2 h4
    have d10 : (k == 10) = false := beq_eq_false_iff_ne.2 h10
    have d5 : (k == 5) = false := beq_eq_false_iff_ne.2 h5
    have d7 : (k == 7) = false := beq_eq_false_iff_ne.2 h7
    have HIV := Lib.hid (show isV (.mk k n ks) = false by simp [isV, d2, d4, d10, d5, d7])
    clear hops hsk
    go_enter Try.func61, Try.ntmps61
    go_wp2_with fail
    go_ret
    exact ⟨by rw [HIV.out]; rfl, (Ext.refl _).alloc _⟩
def L12CC (t : Tr) : Prop := ∀ (w : World) (v : Value) (d : Int), Lies w t v → 0 ≤ d → d + cnt t ≤ 1000000 → Calls Try.prog 59 #[v, .int .i64 d] w fun e w' => e = .returned (.bool (!opnC t d)) ∧ Ext w w'
set_option maxRecDepth 100000 in
set_option maxHeartbeats 2000000 in
theorem l12Closed_any : ∀ t : Tr, L12CC t := Tr.ind fun k n ks hk => by
  intro w v d hin hd0 hd1
  obtain ⟨A, cap, rfl, hl, hc, h⟩ := Lies.mk_iff.1 hin
  clear hin
  have hc' := hc
  unfold maxLen at hc'
  have hlc := len_le_cnts ks
  simp only [cnt] at hd1
  have e : opnC (.mk k n ks) d = ((k == 1) && decide (d ≤ n) || opns ks (d + if k = 2 then 1 else 0)) := by rw [opnC]
  by_cases h1 : k = 1
  · subst h1
    rw [if_neg (by decide), Int.add_zero] at e
    by_cases h2 : d ≤ n
    · rw [decide_eq_true h2] at e
      have hdec : decide (d ≤ n) = true := decide_eq_true h2
      have E := Lib.hid e
      clear e
      go_enter Try.func59, Try.ntmps59
      go_wp2_with fail
      go_ret
      exact ⟨by rw [E.out]; rfl, (Ext.refl _).alloc _⟩
    rw [decide_eq_false h2] at e
    have hdec : decide (d ≤ n) = false := decide_eq_false h2
    have E := Lib.hid (show opnC (.mk 1 n ks) d = opns ks d from by rw [e]; rfl)
    clear e
    go_enter Try.func59, Try.ntmps59
    go_wp2_with fail
    have hE := (Ext.refl w).alloc (.cells #[.int .i64 1, .int .i64 n, .slice A ks.length cap] 28)
    have hb := (blk1 (Ext.refl (w.alloc (.cells #[.int .i64 1, .int .i64 n, .slice A ks.length cap] 28)))).1
    generalize w.alloc _ = W at hE hb ⊢
    go_loopw [5] (fun i wr => ∃ j : Nat, j ≤ ks.length ∧ i = .int .i64 j ∧ opns ks (d) = opns (ks.drop j) (d) ∧ Ext W wr) (fun i _ => ks.length - (intOf i).toNat)
    case atStart => exact ⟨0, Nat.zero_le _, rfl, rfl, Ext.refl _⟩
    case round =>
      obtain ⟨j, hj, rfl, heq, hx⟩ := hrel
      have HE := Lib.hid heq
      obtain ⟨z0, z1, z2, -, -, -⟩ := own3 (hx.blk hb)
      clear heq
      by_cases hlt : j < ks.length
      · obtain ⟨b, o, k2, n2, A2, cap2, kids, rfl, HK, c0, c1, c2, hkl, hkc, hK, hin, hmem⟩ := h.get (hE.trans hx) hlt
        have hks := List.drop_eq_getElem_cons hlt
        rw [HK.out] at hks
        have hst : opns (ks.drop j) (d) = (opnC (.mk k2 n2 kids) (d) || opns (ks.drop (j + 1)) (d)) := by rw [hks, opns]
        have hcm := cnt_mem hmem
        clear hks HK
        go_wp2_with fail
        refine (hk _ hmem wr _ (d) hin (by omega) (by omega)).mono ?_
        rintro e w4 ⟨rfl, h4⟩
        generalize opnC (.mk k2 n2 kids) (d) = r at hst
        have HT := Lib.hid hst
        clear hst
        cases r with
        | true =>
          go_wp2_with fail
          go_ret
          exact ⟨by rw [E.out, HE.out, HT.out]; rfl, hE.trans (hx.trans h4)⟩
        | false =>
          go_wp2_with fail
          go_roundw
          case rel => exact ⟨j + 1, by omega, by go_num, by rw [HE.out, HT.out]; rfl, hx.trans h4⟩
          case measure => simp [intOf]; omega
      · go_wp2_with fail
        go_ret
        have hjk : ks.drop j = [] := List.drop_of_length_le (by omega)
        exact ⟨by rw [E.out, HE.out, hjk]; simp only [opns]; rfl, hE.trans hx⟩
  by_cases h2 : k = 2
  · subst h2
    rw [if_pos rfl] at e
    have E := Lib.hid (show opnC (.mk 2 n ks) d = opns ks (d + 1) from by rw [e]; rfl)
    clear e
    go_enter Try.func59, Try.ntmps59
    go_wp2_with fail
    have hE := (Ext.refl w).alloc (.cells #[.int .i64 2, .int .i64 n, .slice A ks.length cap] 28)
    have hb := (blk1 (Ext.refl (w.alloc (.cells #[.int .i64 2, .int .i64 n, .slice A ks.length cap] 28)))).1
    generalize w.alloc _ = W at hE hb ⊢
    go_loopw [5] (fun i wr => ∃ j : Nat, j ≤ ks.length ∧ i = .int .i64 j ∧ opns ks (d + 1) = opns (ks.drop j) (d + 1) ∧ Ext W wr) (fun i _ => ks.length - (intOf i).toNat)
    case atStart => exact ⟨0, Nat.zero_le _, rfl, rfl, Ext.refl _⟩
    case round =>
      obtain ⟨j, hj, rfl, heq, hx⟩ := hrel
      have HE := Lib.hid heq
      obtain ⟨z0, z1, z2, -, -, -⟩ := own3 (hx.blk hb)
      clear heq
      by_cases hlt : j < ks.length
      · obtain ⟨b, o, k2, n2, A2, cap2, kids, rfl, HK, c0, c1, c2, hkl, hkc, hK, hin, hmem⟩ := h.get (hE.trans hx) hlt
        have hks := List.drop_eq_getElem_cons hlt
        rw [HK.out] at hks
        have hst : opns (ks.drop j) (d + 1) = (opnC (.mk k2 n2 kids) (d + 1) || opns (ks.drop (j + 1)) (d + 1)) := by rw [hks, opns]
        have hcm := cnt_mem hmem
        clear hks HK
        go_wp2_with fail
        refine (hk _ hmem wr _ (d + 1) hin (by omega) (by omega)).mono ?_
        rintro e w4 ⟨rfl, h4⟩
        generalize opnC (.mk k2 n2 kids) (d + 1) = r at hst
        have HT := Lib.hid hst
        clear hst
        cases r with
        | true =>
          go_wp2_with fail
          go_ret
          exact ⟨by rw [E.out, HE.out, HT.out]; rfl, hE.trans (hx.trans h4)⟩
        | false =>
          go_wp2_with fail
          go_roundw
          case rel => exact ⟨j + 1, by omega, by go_num, by rw [HE.out, HT.out]; rfl, hx.trans h4⟩
          case measure => simp [intOf]; omega
      · go_wp2_with fail
        go_ret
        have hjk : ks.drop j = [] := List.drop_of_length_le (by omega)
        exact ⟨by rw [E.out, HE.out, hjk]; simp only [opns]; rfl, hE.trans hx⟩
  · rw [if_neg h2, Int.add_zero] at e
    have d1 : (k == 1) = false := beq_eq_false_iff_ne.2 h1
    have d2 : (k == 2) = false := beq_eq_false_iff_ne.2 h2
    have E := Lib.hid (show opnC (.mk k n ks) d = opns ks d from by rw [e, d1]; rfl)
    clear e
    go_enter Try.func59, Try.ntmps59
    go_wp2_with fail
    have hE := (Ext.refl w).alloc (.cells #[.int .i64 k, .int .i64 n, .slice A ks.length cap] 28)
    have hb := (blk1 (Ext.refl (w.alloc (.cells #[.int .i64 k, .int .i64 n, .slice A ks.length cap] 28)))).1
    generalize w.alloc _ = W at hE hb ⊢
    go_loopw [5] (fun i wr => ∃ j : Nat, j ≤ ks.length ∧ i = .int .i64 j ∧ opns ks (d) = opns (ks.drop j) (d) ∧ Ext W wr) (fun i _ => ks.length - (intOf i).toNat)
    case atStart => exact ⟨0, Nat.zero_le _, rfl, rfl, Ext.refl _⟩
    case round =>
      obtain ⟨j, hj, rfl, heq, hx⟩ := hrel
      have HE := Lib.hid heq
      obtain ⟨z0, z1, z2, -, -, -⟩ := own3 (hx.blk hb)
      clear heq
      by_cases hlt : j < ks.length
      · obtain ⟨b, o, k2, n2, A2, cap2, kids, rfl, HK, c0, c1, c2, hkl, hkc, hK, hin, hmem⟩ := h.get (hE.trans hx) hlt
        have hks := List.drop_eq_getElem_cons hlt
        rw [HK.out] at hks
        have hst : opns (ks.drop j) (d) = (opnC (.mk k2 n2 kids) (d) || opns (ks.drop (j + 1)) (d)) := by rw [hks, opns]
        have hcm := cnt_mem hmem
        clear hks HK
        go_wp2_with fail
        refine (hk _ hmem wr _ (d) hin (by omega) (by omega)).mono ?_
        rintro e w4 ⟨rfl, h4⟩
        generalize opnC (.mk k2 n2 kids) (d) = r at hst
        have HT := Lib.hid hst
        clear hst
        cases r with
        | true =>
          go_wp2_with fail
          go_ret
          exact ⟨by rw [E.out, HE.out, HT.out]; rfl, hE.trans (hx.trans h4)⟩
        | false =>
          go_wp2_with fail
          go_roundw
          case rel => exact ⟨j + 1, by omega, by go_num, by rw [HE.out, HT.out]; rfl, hx.trans h4⟩
          case measure => simp [intOf]; omega
      · go_wp2_with fail
        go_ret
        have hjk : ks.drop j = [] := List.drop_of_length_le (by omega)
        exact ⟨by rw [E.out, HE.out, hjk]; simp only [opns]; rfl, hE.trans hx⟩
end Go.Proofs.Ytappakllopkfiaa

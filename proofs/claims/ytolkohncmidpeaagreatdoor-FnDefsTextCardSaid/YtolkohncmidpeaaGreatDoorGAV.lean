/-
  Lemmas towards the law, 22: Defs.
-/
import Derived.Test.YtolkohncmidpeaaGreatDoorGAU
namespace Go.Proofs.YtolkohncmidpeaaGreatDoor
open Go.RowKit
set_option linter.unusedVariables false
/-- A definition's six cells, asked for in a later world. -/
theorem LiesK.getD {w w' : World} {A : Option Addr} {ks : List Tr} {j : Nat} (h : LiesK w A ks) (he : Ext w w') (hj : j * 2 + 1 < ks.length) :
    ∃ b o k1 n1 A1 p1 kids1 k2 n2 A2 p2 kids2, A = some ⟨b, o, none⟩ ∧ b < w.heap.size ∧ Hid (ks[j * 2] = .mk k1 n1 kids1) ∧ Hid (ks[j * 2 + 1] = .mk k2 n2 kids2) ∧
      (w'.cell? ⟨b, o + j * 6, none⟩ = some (.int .i64 k1) ∧ w'.cell? ⟨b, o + j * 6 + 1, none⟩ = some (.int .i64 n1) ∧ w'.cell? ⟨b, o + j * 6 + 2, none⟩ = some (.slice A1 kids1.length p1) ∧
      w'.cell? ⟨b, o + j * 6 + 3, none⟩ = some (.int .i64 k2) ∧ w'.cell? ⟨b, o + j * 6 + 4, none⟩ = some (.int .i64 n2) ∧ w'.cell? ⟨b, o + j * 6 + 5, none⟩ = some (.slice A2 kids2.length p2)) ∧
      (kids1.length ≤ p1 ∧ p1 ≤ maxLen ∧ LiesK w' A1 kids1 ∧ Lies w' (.mk k1 n1 kids1) (.agg #[.int .i64 k1, .int .i64 n1, .slice A1 kids1.length p1]) ∧ Tr.mk k1 n1 kids1 ∈ ks) ∧
      (kids2.length ≤ p2 ∧ p2 ≤ maxLen ∧ LiesK w' A2 kids2 ∧ Lies w' (.mk k2 n2 kids2) (.agg #[.int .i64 k2, .int .i64 n2, .slice A2 kids2.length p2]) ∧ Tr.mk k2 n2 kids2 ∈ ks) := by
  obtain ⟨b, o, k1, n1, A1, p1, kids1, rfl, HK1, c0, c1, c2, r1⟩ := h.get (j := j * 2) he (by omega)
  obtain ⟨b', o', k2, n2, A2, p2, kids2, e, HK2, d0, d1, d2, r2⟩ := h.get (j := j * 2 + 1) he hj
  obtain ⟨rfl, rfl⟩ : b = b' ∧ o = o' := by cases e; exact ⟨rfl, rfl⟩
  rw [show o + j * 2 * 3 = o + j * 6 by omega] at c0 c1 c2
  rw [show o + (j * 2 + 1) * 3 = o + j * 6 + 3 by omega] at d0 d1 d2
  have hb : b < w.heap.size := by
    rcases h with h | ⟨b', o', e, hb, -⟩
    · rw [h] at hj; simp at hj
    · cases e; exact hb
  exact ⟨b, o, k1, n1, A1, p1, kids1, k2, n2, A2, p2, kids2, rfl, hb, HK1, HK2, ⟨c0, c1, c2, d0, d1, d2⟩, r1, r2⟩
theorem At.of_blk6 {w : World} {g : Nat} {x0 x1 x2 x3 x4 x5 : Value} {e : TypeId} (hb : w.heap[g]? = some (.cells #[x0, x1, x2, x3, x4, x5] e (0, 0))) :
    At w (fun w' => w'.cell? ⟨g, 0, none⟩ = some x0 ∧ w'.cell? ⟨g, 1, none⟩ = some x1 ∧ w'.cell? ⟨g, 2, none⟩ = some x2 ∧ w'.cell? ⟨g, 3, none⟩ = some x3 ∧ w'.cell? ⟨g, 4, none⟩ = some x4 ∧ w'.cell? ⟨g, 5, none⟩ = some x5) := fun _ hx =>
  ⟨hx.cell (cell_of_blk hb 0), hx.cell (cell_of_blk hb 1), hx.cell (cell_of_blk hb 2), hx.cell (cell_of_blk hb 3), hx.cell (cell_of_blk hb 4), hx.cell (cell_of_blk hb 5)⟩
/-- Each definition is valid, from the one of number i on. -/
def dvs : List Tr → Nat → Bool
  | t :: b :: r, i => valid sigT t && (valid sigT b && (decide (mxf t 0 ≤ (i : Int)) && (decide (mxf b 0 ≤ (i : Int)) && dvs r (i + 1))))
  | _, _ => true
/-- DefsValid's answer. -/
def dfV (ks : List Tr) (n : Nat) : Bool := dvs ks 0 && decide ((n : Int) ≤ 8)
theorem dvs_small : ∀ {ks : List Tr} {i n : Nat}, dvs ks i = true → ks.length = n * 2 → ∀ t ∈ ks, valid sigT t = true ∧ mxf t 0 ≤ ((i + n : Nat) : Int)
  | t :: b :: r, i, n + 1, h, hn, x, hx => by
    unfold dvs at h
    simp only [Bool.and_eq_true, decide_eq_true_eq] at h
    rcases List.mem_cons.1 hx with rfl | hx
    · exact ⟨h.1, by omega⟩
    · rcases List.mem_cons.1 hx with rfl | hx
      · exact ⟨h.2.1, by omega⟩
      · have := dvs_small h.2.2.2.2 (n := n) (by simp at hn; omega) x hx
        exact ⟨this.1, by omega⟩
  | [], _, _, _, _, x, hx => by cases hx
  | [_], _, n, _, hn, _, _ => by simp at hn; omega
  | t :: b :: r, _, 0, _, hn, _, _ => by simp at hn
theorem dfV_small {ks : List Tr} {n : Nat} (h : dfV ks n = true) (hn : ks.length = n * 2) : n ≤ 8 ∧ ∀ t ∈ ks, cnt t ≤ 400 := by
  unfold dfV at h
  rw [Bool.and_eq_true] at h
  have := of_decide_eq_true h.2
  exact ⟨by omega, fun t ht => (valid_parts (dvs_small h.1 hn t ht).1).2⟩
set_option maxRecDepth 100000 in
theorem defsValid_any (ks : List Tr) (n cap : Nat) (w : World) (A : Option Addr) (h : LiesK w A ks) (hn : ks.length = n * 2) (hl : n ≤ cap) (hc : cap ≤ maxLen) :
    Calls Tryz.prog 13 #[.slice A n cap] w fun e w' => e = .returned (.bool (dfV ks n)) ∧ Ext w w' := by
  have hcc := hc
  unfold maxLen at hcc
  go_enter Tryz.func13, Tryz.ntmps13
  go_wp2_with fail
  go_loopw [7] (fun i wr => ∃ j : Nat, j ≤ n ∧ i = .int .i64 j ∧ dvs ks 0 = dvs (ks.drop (j * 2)) j ∧ Ext w wr) (fun i _ => n - (intOf i).toNat)
  case atStart => exact ⟨0, Nat.zero_le _, rfl, rfl, Ext.refl _⟩
  case round =>
    obtain ⟨j, hj, rfl, heq, hx⟩ := hrel
    have HE := Lib.hid heq
    clear heq
    by_cases hlt : j < n
    · obtain ⟨b, o, k1, n1, A1, p1, kids1, k2, n2, A2, p2, kids2, rfl, hbw, HK1, HK2, ⟨c0, c1, c2, c3, c4, c5⟩, ⟨l1, m1, hK1, hin1, hmem1⟩, ⟨l2, m2, hK2, hin2, hmem2⟩⟩ := h.getD (j := j) hx (by omega)
      have hst : dvs (ks.drop (j * 2)) j = (valid sigT (.mk k1 n1 kids1) && (valid sigT (.mk k2 n2 kids2) && (decide (mxf (.mk k1 n1 kids1) 0 ≤ (j : Int)) && (decide (mxf (.mk k2 n2 kids2) 0 ≤ (j : Int)) && dvs (ks.drop ((j + 1) * 2)) (j + 1))))) := by
        rw [List.drop_eq_getElem_cons (i := j * 2) (by omega), List.drop_eq_getElem_cons (i := j * 2 + 1) (by omega), HK1.out, HK2.out]
        conv => lhs; unfold dvs
        rw [show j * 2 + 1 + 1 = (j + 1) * 2 by omega]
      have HT := Lib.hid hst
      clear hst
      have hj' : (j : Int) < (n : Int) := by omega
      have HM1 := Lib.hid (fun (hv : valid sigT (.mk k1 n1 kids1) = true) W (hW : Ext wr W) => maxFree_any _ W _ (hin1.ext hW) hv)
      have HM2 := Lib.hid (fun (hv : valid sigT (.mk k2 n2 kids2) = true) W (hW : Ext wr W) => maxFree_any _ W _ (hin2.ext hW) hv)
      have HV1 := Lib.hid (fun W (hW : Ext wr W) => validTerm_any _ W _ (hin1.ext hW))
      have HV2 := Lib.hid (fun W (hW : Ext wr W) => validTerm_any _ W _ (hin2.ext hW))
      generalize mxf (.mk k1 n1 kids1) 0 = x1 at HM1 HT
      generalize mxf (.mk k2 n2 kids2) 0 = x2 at HM2 HT
      generalize valid sigT (.mk k1 n1 kids1) = s1 at HM1 HT HV1
      generalize valid sigT (.mk k2 n2 kids2) = s2 at HM2 HT HV2
      have hl6 : w.heap.size ≤ wr.heap.size := hx.size
      have end_ : ∀ w', Ext wr w' → (s1 = false ∨ s2 = false ∨ decide (x1 ≤ (j : Int)) = false ∨ decide (x2 ≤ (j : Int)) = false) → Ending.returned (Value.bool false) = Ending.returned (Value.bool (dfV ks n)) ∧ Ext w w' := fun w' he hh => by
        refine ⟨?_, hx.trans he⟩
        unfold dfV
        rw [HE.out, HT.out]
        rcases hh with h | h | h | h <;> simp [h]
      have END := Lib.hid end_
      clear end_
      go_wp2_with fail
      have hE := (Ext.refl wr).alloc (.cells #[.int .i64 k1, .int .i64 n1, .slice A1 kids1.length p1, .int .i64 k2, .int .i64 n2, .slice A2 kids2.length p2] 61)
      have hb := heap_alloc_new wr (.cells #[.int .i64 k1, .int .i64 n1, .slice A1 kids1.length p1, .int .i64 k2, .int .i64 n2, .slice A2 kids2.length p2] 61)
      generalize wr.alloc _ = wd at hE hb
      have C := At.of_blk6 hb
      clear c0 c1 c2 c3 c4 c5 hb
      refine (HV1.out _ hE).mono ?_
      rintro e w1 ⟨rfl, e1⟩
      obtain ⟨d0, d1, d2, d3, d4, d5⟩ := C w1 e1
      cases s1 with
      | false =>
        go_wp2_with fail
        go_ret
        exact END.out _ (hE.trans e1) (.inl (by trivial))
      | true =>
        have HM1' := Lib.hid (HM1.out rfl)
        clear HM1
        go_wp2_with fail
        refine (HV2.out _ (hE.trans e1)).mono ?_
        rintro e w2 ⟨rfl, e2⟩
        have e12 := e1.trans e2
        clear d0 d1 d2 d3 d4 d5
        obtain ⟨d0, d1, d2, d3, d4, d5⟩ := C w2 e12
        cases s2 with
        | false =>
          go_wp2_with fail
          go_ret
          exact END.out _ (hE.trans e12) (.inr (.inl (by trivial)))
        | true =>
          have HM2' := Lib.hid (HM2.out rfl)
          clear HM2
          go_wp2_with fail
          refine (HM1'.out _ (hE.trans e12)).mono ?_
          rintro e w3 ⟨rfl, e3⟩
          have e13 := e12.trans e3
          clear d0 d1 d2 d3 d4 d5
          obtain ⟨d0, d1, d2, d3, d4, d5⟩ := C w3 e13
          by_cases h1 : x1 ≤ (j : Int)
          · have dd1 : decide ((j : Int) < x1) = false := decide_eq_false (by omega)
            go_wp2_with fail
            refine (HM2'.out _ (hE.trans e13)).mono ?_
            rintro e w4 ⟨rfl, e4⟩
            have e14 := e13.trans e4
            by_cases h2 : x2 ≤ (j : Int)
            · have dd2 : decide ((j : Int) < x2) = false := decide_eq_false (by omega)
              go_wp2_with fail
              go_roundw
              case rel => exact ⟨j + 1, by omega, by go_num, by rw [HE.out, HT.out, decide_eq_true h1, decide_eq_true h2]; rfl, hx.trans (hE.trans e14)⟩
              case measure => simp [intOf]; omega
            · have dd2 : decide ((j : Int) < x2) = true := decide_eq_true (by omega)
              go_wp2_with fail
              go_ret
              exact END.out _ (hE.trans e14) (.inr (.inr (.inr (decide_eq_false (by omega)))))
          · have dd1 : decide ((j : Int) < x1) = true := decide_eq_true (by omega)
            go_wp2_with fail
            go_ret
            exact END.out _ (hE.trans e13) (.inr (.inr (.inl (decide_eq_false (by omega)))))
    · go_wp2_with fail
      go_ret
      exact ⟨by unfold dfV; rw [HE.out, List.drop_of_length_le (by omega)]; rfl, hx⟩
theorem mxV_way (t b : Tr) (i : Int) (r : Bool) : (valid sigT t && (valid sigT b && (decide (mxf t 0 ≤ i) && (decide (mxf b 0 ≤ i) && r)))) = (decide (0 ≤ mxV t) && (decide (0 ≤ mxV b) && (decide (mxV t ≤ i) && (decide (mxV b ≤ i) && r)))) := by
  have h1 := mxf_nonneg t 0
  have h2 := mxf_nonneg b 0
  unfold mxV
  cases valid sigT t <;> cases valid sigT b <;> simp [h1, h2]
set_option maxRecDepth 100000 in
theorem specDefsValid_any (ks : List Tr) (n cap : Nat) (w : World) (A : Option Addr) (h : LiesK w A ks) (hn : ks.length = n * 2) (hl : n ≤ cap) (hc : cap ≤ maxLen) :
    Calls Tryz.prog 14 #[.slice A n cap] w fun e w' => e = .returned (.bool (dfV ks n)) ∧ Ext w w' := by
  have hcc := hc
  unfold maxLen at hcc
  go_enter Tryz.func14, Tryz.ntmps14
  go_wp2_with fail
  go_loopw [3] (fun i wr => ∃ j : Nat, j ≤ n ∧ i = .int .i64 j ∧ dvs ks 0 = dvs (ks.drop (j * 2)) j ∧ Ext w wr) (fun i _ => n - (intOf i).toNat)
  case atStart => exact ⟨0, Nat.zero_le _, rfl, rfl, Ext.refl _⟩
  case round =>
    obtain ⟨j, hj, rfl, heq, hx⟩ := hrel
    have HE := Lib.hid heq
    clear heq
    by_cases hlt : j < n
    · obtain ⟨b, o, k1, n1, A1, p1, kids1, k2, n2, A2, p2, kids2, rfl, hbw, HK1, HK2, ⟨c0, c1, c2, c3, c4, c5⟩, ⟨l1, m1, hK1, hin1, hmem1⟩, ⟨l2, m2, hK2, hin2, hmem2⟩⟩ := h.getD (j := j) hx (by omega)
      have hst : dvs (ks.drop (j * 2)) j = (decide (0 ≤ mxV (.mk k1 n1 kids1)) && (decide (0 ≤ mxV (.mk k2 n2 kids2)) && (decide (mxV (.mk k1 n1 kids1) ≤ (j : Int)) && (decide (mxV (.mk k2 n2 kids2) ≤ (j : Int)) && dvs (ks.drop ((j + 1) * 2)) (j + 1))))) := by
        rw [← mxV_way, List.drop_eq_getElem_cons (i := j * 2) (by omega), List.drop_eq_getElem_cons (i := j * 2 + 1) (by omega), HK1.out, HK2.out]
        conv => lhs; unfold dvs
        rw [show j * 2 + 1 + 1 = (j + 1) * 2 by omega]
      have HT := Lib.hid hst
      clear hst
      have hj' : (j : Int) < (n : Int) := by omega
      have HM1 := Lib.hid (fun W (hW : Ext wr W) => specMaxFree_any _ W _ (hin1.ext hW))
      have HM2 := Lib.hid (fun W (hW : Ext wr W) => specMaxFree_any _ W _ (hin2.ext hW))
      have HC := Lib.hid (fun w' (he : Ext wr w') => (show w'.cell? ⟨b, o + j * 6, none⟩ = some (.int .i64 k1) ∧ w'.cell? ⟨b, o + j * 6 + 1, none⟩ = some (.int .i64 n1) ∧ w'.cell? ⟨b, o + j * 6 + 2, none⟩ = some (.slice A1 kids1.length p1) ∧
        w'.cell? ⟨b, o + j * 6 + 3, none⟩ = some (.int .i64 k2) ∧ w'.cell? ⟨b, o + j * 6 + 4, none⟩ = some (.int .i64 n2) ∧ w'.cell? ⟨b, o + j * 6 + 5, none⟩ = some (.slice A2 kids2.length p2) from ⟨he.cell c0, he.cell c1, he.cell c2, he.cell c3, he.cell c4, he.cell c5⟩))
      generalize mxV (.mk k1 n1 kids1) = x1 at HM1 HT
      generalize mxV (.mk k2 n2 kids2) = x2 at HM2 HT
      have end_ : ∀ w', Ext wr w' → (x1 < 0 ∨ x2 < 0 ∨ (j : Int) < x1 ∨ (j : Int) < x2) → Ending.returned (Value.bool false) = Ending.returned (Value.bool (dfV ks n)) ∧ Ext w w' := fun w' he hh => by
        refine ⟨?_, hx.trans he⟩
        unfold dfV
        rw [HE.out, HT.out]
        rcases hh with h | h | h | h
        · rw [decide_eq_false (by omega : ¬ 0 ≤ x1)]; simp
        · rw [decide_eq_false (by omega : ¬ 0 ≤ x2)]; simp
        · rw [decide_eq_false (by omega : ¬ x1 ≤ (j : Int))]; simp
        · rw [decide_eq_false (by omega : ¬ x2 ≤ (j : Int))]; simp
      have END := Lib.hid end_
      clear end_
      go_wp2_with fail
      refine (HM1.out _ (Ext.refl _)).mono ?_
      rintro e w1 ⟨rfl, e1⟩
      clear c0 c1 c2 c3 c4 c5
      obtain ⟨c0, c1, c2, c3, c4, c5⟩ := HC.out w1 e1
      by_cases g1 : x1 < 0
      · have dd1 : decide (x1 < 0) = true := decide_eq_true g1
        go_wp2_with fail
        go_ret
        exact END.out _ e1 (.inl g1)
      have dd1 : decide (x1 < 0) = false := decide_eq_false g1
      go_wp2_with fail
      refine (HM2.out _ e1).mono ?_
      rintro e w2 ⟨rfl, e2⟩
      have e12 := e1.trans e2
      clear c0 c1 c2 c3 c4 c5
      obtain ⟨c0, c1, c2, c3, c4, c5⟩ := HC.out w2 e12
      by_cases g2 : x2 < 0
      · have dd2 : decide (x2 < 0) = true := decide_eq_true g2
        go_wp2_with fail
        go_ret
        exact END.out _ e12 (.inr (.inl g2))
      have dd2 : decide (x2 < 0) = false := decide_eq_false g2
      go_wp2_with fail
      refine (HM1.out _ e12).mono ?_
      rintro e w3 ⟨rfl, e3⟩
      have e13 := e12.trans e3
      clear c0 c1 c2 c3 c4 c5
      obtain ⟨c0, c1, c2, c3, c4, c5⟩ := HC.out w3 e13
      by_cases g3 : (j : Int) < x1
      · have dd3 : decide ((j : Int) < x1) = true := decide_eq_true g3
        go_wp2_with fail
        go_ret
        exact END.out _ e13 (.inr (.inr (.inl g3)))
      have dd3 : decide ((j : Int) < x1) = false := decide_eq_false g3
      go_wp2_with fail
      refine (HM2.out _ e13).mono ?_
      rintro e w4 ⟨rfl, e4⟩
      have e14 := e13.trans e4
      by_cases g4 : (j : Int) < x2
      · have dd4 : decide ((j : Int) < x2) = true := decide_eq_true g4
        go_wp2_with fail
        go_ret
        exact END.out _ e14 (.inr (.inr (.inr g4)))
      have dd4 : decide ((j : Int) < x2) = false := decide_eq_false g4
      go_wp2_with fail
      go_roundw
      case rel => exact ⟨j + 1, by omega, by go_num, by rw [HE.out, HT.out, decide_eq_true (by omega : 0 ≤ x1), decide_eq_true (by omega : 0 ≤ x2), decide_eq_true (by omega : x1 ≤ (j : Int)), decide_eq_true (by omega : x2 ≤ (j : Int))]; rfl, hx.trans e14⟩
      case measure => simp [intOf]; omega
    · go_wp2_with fail
      go_ret
      exact ⟨by unfold dfV; rw [HE.out, List.drop_of_length_le (by omega)]; rfl, hx⟩
end Go.Proofs.YtolkohncmidpeaaGreatDoor

/-
  Lemmas towards the law, 18: Defs, DefKit.
-/
import Derived.Test.YtappakllopkfiaaZAC
import Derived.Test.YtappakllopkfiaaZAQ
import Derived.Outline
import Derived.StillTailTactics
import Derived.Test.YtappakllopkfiaaProg
namespace Go.Proofs.Ytappakllopkfiaa
open Go.RowKit
set_option linter.unusedVariables false
/-- A definition's six cells, asked for in a later world. -/
theorem LiesK.getD {w w' : World} {A : Option Addr} {ks : List Tr} {j : Nat} (h : LiesK w A ks) (he : Ext w w') (hj : j * 2 + 1 < ks.length) :
    ∃ b o k1 n1 A1 p1 kids1 k2 n2 A2 p2 kids2, A = some ⟨b, o, none⟩ ∧ b < w.heap.size ∧ Hid (ks[j * 2] = .mk k1 n1 kids1) ∧ Hid (ks[j * 2 + 1] = .mk k2 n2 kids2) ∧
      (w'.cell? ⟨b, o + j * 6, none⟩ = some (.int .i64 k1) ∧ w'.cell? ⟨b, o + j * 6 + 1, none⟩ = some (.int .i64 n1) ∧ w'.cell? ⟨b, o + j * 6 + 2, none⟩ = some (.slice A1 kids1.length p1) ∧
      w'.cell? ⟨b, o + j * 6 + 3, none⟩ = some (.int .i64 k2) ∧ w'.cell? ⟨b, o + j * 6 + 4, none⟩ = some (.int .i64 n2) ∧ w'.cell? ⟨b, o + j * 6 + 5, none⟩ = some (.slice A2 kids2.length p2)) ∧
      (kids1.length ≤ p1 ∧ p1 ≤ maxLen ∧ LiesK w' A1 kids1 ∧ Lies w' (.mk k1 n1 kids1) (.agg #[.int .i64 k1, .int .i64 n1, .slice A1 kids1.length p1]) ∧ Tr.mk k1 n1 kids1 ∈ ks) ∧
      (kids2.length ≤ p2 ∧ p2 ≤ maxLen ∧ LiesK w' A2 kids2 ∧ Lies w' (.mk k2 n2 kids2) (.agg #[.int .i64 k2, .int .i64 n2, .slice A2 kids2.length p2]) ∧ Tr.mk k2 n2 kids2 ∈ ks) := by
  obtain ⟨b, o, k1, n1, A1, p1, kids1, rfl, HK1, c0, c1, c2, r1⟩ := h.get (j := j * 2) he (by omega)
  obtain ⟨b', o', k2, n2, A2, p2, kids2, e, HK2, d0, d1, d2, r2⟩ := h.get (j := j * 2 + 1) he hj
  obtain ⟨rfl, rfl⟩ : b = b' ∧ o = o' := by cases e; exact ⟨rfl, rfl⟩
  rw [show o + j * 2 * 3 = o + j * 6 by omega] at c0 c1 c2
  rw [show o + (j * 2 + 1) * 3 = o + j * 6 + 3 by omega] at d0 d1 d2
  have hb : b < w.heap.size := by
    rcases h with h | ⟨b', o', e, hb, -⟩
    · rw [h] at hj; simp at hj
    · cases e; exact hb
  exact ⟨b, o, k1, n1, A1, p1, kids1, k2, n2, A2, p2, kids2, rfl, hb, HK1, HK2, ⟨c0, c1, c2, d0, d1, d2⟩, r1, r2⟩
theorem At.of_blk6 {w : World} {g : Nat} {x0 x1 x2 x3 x4 x5 : Value} {e : TypeId} (hb : w.heap[g]? = some (.cells #[x0, x1, x2, x3, x4, x5] e (0, 0))) :
    At w (fun w' => w'.cell? ⟨g, 0, none⟩ = some x0 ∧ w'.cell? ⟨g, 1, none⟩ = some x1 ∧ w'.cell? ⟨g, 2, none⟩ = some x2 ∧ w'.cell? ⟨g, 3, none⟩ = some x3 ∧ w'.cell? ⟨g, 4, none⟩ = some x4 ∧ w'.cell? ⟨g, 5, none⟩ = some x5) := fun _ hx =>
  ⟨hx.cell (cell_of_blk hb 0), hx.cell (cell_of_blk hb 1), hx.cell (cell_of_blk hb 2), hx.cell (cell_of_blk hb 3), hx.cell (cell_of_blk hb 4), hx.cell (cell_of_blk hb 5)⟩
/-- Each definition is valid, from the one of number i on. -/
def dvs : List Tr → Nat → Bool
  | t :: b :: r, i => valid sigT t && (valid sigT b && (decide (mxf t 0 ≤ (i : Int)) && (decide (mxf b 0 ≤ (i : Int)) && dvs r (i + 1))))
  | _, _ => true
/-- DefsValid's answer. -/
def dfV (ks : List Tr) (n : Nat) : Bool := dvs ks 0 && decide ((n : Int) ≤ 8)
theorem dvs_small : ∀ {ks : List Tr} {i n : Nat}, dvs ks i = true → ks.length = n * 2 → ∀ t ∈ ks, valid sigT t = true ∧ mxf t 0 ≤ ((i + n : Nat) : Int)
  | t :: b :: r, i, n + 1, h, hn, x, hx => by
    unfold dvs at h
    simp only [Bool.and_eq_true, decide_eq_true_eq] at h
    rcases List.mem_cons.1 hx with rfl | hx
    · exact ⟨h.1, by omega⟩
    · rcases List.mem_cons.1 hx with rfl | hx
      · exact ⟨h.2.1, by omega⟩
      · have := dvs_small h.2.2.2.2 (n := n) (by simp at hn; omega) x hx
        exact ⟨this.1, by omega⟩
  | [], _, _, _, _, x, hx => by cases hx
  | [_], _, n, _, hn, _, _ => by simp at hn; omega
  | t :: b :: r, _, 0, _, hn, _, _ => by simp at hn
theorem dfV_small {ks : List Tr} {n : Nat} (h : dfV ks n = true) (hn : ks.length = n * 2) : n ≤ 8 ∧ ∀ t ∈ ks, cnt t ≤ 400 := by
  unfold dfV at h
  rw [Bool.and_eq_true] at h
  have := of_decide_eq_true h.2
  exact ⟨by omega, fun t ht => (valid_parts (dvs_small h.1 hn t ht).1).2⟩
set_option maxRecDepth 100000 in
theorem defsValid_any (ks : List Tr) (n cap : Nat) (w : World) (A : Option Addr) (h : LiesK w A ks) (hn : ks.length = n * 2) (hl : n ≤ cap) (hc : cap ≤ maxLen) :
    Calls Try.prog 50 #[.slice A n cap] w fun e w' => e = .returned (.bool (dfV ks n)) ∧ Ext w w' := by
  have hcc := hc
  unfold maxLen at hcc
  go_enter Try.func50, Try.ntmps50
  go_wp2_with fail
  go_loopw [7] (fun i wr => ∃ j : Nat, j ≤ n ∧ i = .int .i64 j ∧ dvs ks 0 = dvs (ks.drop (j * 2)) j ∧ Ext w wr) (fun i _ => n - (intOf i).toNat)
  case atStart => exact ⟨0, Nat.zero_le _, rfl, rfl, Ext.refl _⟩
  case round =>
    obtain ⟨j, hj, rfl, heq, hx⟩ := hrel
    have HE := Lib.hid heq
    clear heq
    by_cases hlt : j < n
    · obtain ⟨b, o, k1, n1, A1, p1, kids1, k2, n2, A2, p2, kids2, rfl, hbw, HK1, HK2, ⟨c0, c1, c2, c3, c4, c5⟩, ⟨l1, m1, hK1, hin1, hmem1⟩, ⟨l2, m2, hK2, hin2, hmem2⟩⟩ := h.getD (j := j) hx (by omega)
      have hst : dvs (ks.drop (j * 2)) j = (valid sigT (.mk k1 n1 kids1) && (valid sigT (.mk k2 n2 kids2) && (decide (mxf (.mk k1 n1 kids1) 0 ≤ (j : Int)) && (decide (mxf (.mk k2 n2 kids2) 0 ≤ (j : Int)) && dvs (ks.drop ((j + 1) * 2)) (j + 1))))) := by
        rw [List.drop_eq_getElem_cons (i := j * 2) (by omega), List.drop_eq_getElem_cons (i := j * 2 + 1) (by omega), HK1.out, HK2.out]
        conv => lhs; unfold dvs
        rw [show j * 2 + 1 + 1 = (j + 1) * 2 by omega]
      have HT := Lib.hid hst
      clear hst
      have hj' : (j : Int) < (n : Int) := by omega
      have HM1 := Lib.hid (fun (hv : valid sigT (.mk k1 n1 kids1) = true) W (hW : Ext wr W) => maxFree_any _ W _ (hin1.ext hW) hv)
      have HM2 := Lib.hid (fun (hv : valid sigT (.mk k2 n2 kids2) = true) W (hW : Ext wr W) => maxFree_any _ W _ (hin2.ext hW) hv)
      have HV1 := Lib.hid (fun W (hW : Ext wr W) => validTerm_any _ W _ (hin1.ext hW))
      have HV2 := Lib.hid (fun W (hW : Ext wr W) => validTerm_any _ W _ (hin2.ext hW))
      generalize mxf (.mk k1 n1 kids1) 0 = x1 at HM1 HT
      generalize mxf (.mk k2 n2 kids2) 0 = x2 at HM2 HT
      generalize valid sigT (.mk k1 n1 kids1) = s1 at HM1 HT HV1
      generalize valid sigT (.mk k2 n2 kids2) = s2 at HM2 HT HV2
      have hl6 : w.heap.size ≤ wr.heap.size := hx.size
      have end_ : ∀ w', Ext wr w' → (s1 = false ∨ s2 = false ∨ decide (x1 ≤ (j : Int)) = false ∨ decide (x2 ≤ (j : Int)) = false) → Ending.returned (Value.bool false) = Ending.returned (Value.bool (dfV ks n)) ∧ Ext w w' := fun w' he hh => by
        refine ⟨?_, hx.trans he⟩
        unfold dfV
        rw [HE.out, HT.out]
        rcases hh with h | h | h | h <;> simp [h]
      have END := Lib.hid end_
      clear end_
      go_wp2_with fail
      have hE := (Ext.refl wr).alloc (.cells #[.int .i64 k1, .int .i64 n1, .slice A1 kids1.length p1, .int .i64 k2, .int .i64 n2, .slice A2 kids2.length p2] 74)
      have hb := heap_alloc_new wr (.cells #[.int .i64 k1, .int .i64 n1, .slice A1 kids1.length p1, .int .i64 k2, .int .i64 n2, .slice A2 kids2.length p2] 74)
      generalize wr.alloc _ = wd at hE hb
      have C := At.of_blk6 hb
      clear c0 c1 c2 c3 c4 c5 hb
      refine (HV1.out _ hE).mono ?_
      rintro e w1 ⟨rfl, e1⟩
      obtain ⟨d0, d1, d2, d3, d4, d5⟩ := C w1 e1
      cases s1 with
      | false =>
        go_wp2_with fail
        go_ret
        exact END.out _ (hE.trans e1) (.inl (by trivial))
      | true =>
        have HM1' := Lib.hid (HM1.out rfl)
        clear HM1
        go_wp2_with fail
        refine (HV2.out _ (hE.trans e1)).mono ?_
        rintro e w2 ⟨rfl, e2⟩
        have e12 := e1.trans e2
        clear d0 d1 d2 d3 d4 d5
        obtain ⟨d0, d1, d2, d3, d4, d5⟩ := C w2 e12
        cases s2 with
        | false =>
          go_wp2_with fail
          go_ret
          exact END.out _ (hE.trans e12) (.inr (.inl (by trivial)))
        | true =>
          have HM2' := Lib.hid (HM2.out rfl)
          clear HM2
          go_wp2_with fail
          refine (HM1'.out _ (hE.trans e12)).mono ?_
          rintro e w3 ⟨rfl, e3⟩
          have e13 := e12.trans e3
          clear d0 d1 d2 d3 d4 d5
          obtain ⟨d0, d1, d2, d3, d4, d5⟩ := C w3 e13
          by_cases h1 : x1 ≤ (j : Int)
          · have dd1 : decide ((j : Int) < x1) = false := decide_eq_false (by omega)
            go_wp2_with fail
            refine (HM2'.out _ (hE.trans e13)).mono ?_
            rintro e w4 ⟨rfl, e4⟩
            have e14 := e13.trans e4
            by_cases h2 : x2 ≤ (j : Int)
            · have dd2 : decide ((j : Int) < x2) = false := decide_eq_false (by omega)
              go_wp2_with fail
              go_roundw
              case rel => exact ⟨j + 1, by omega, by go_num, by rw [HE.out, HT.out, decide_eq_true h1, decide_eq_true h2]; rfl, hx.trans (hE.trans e14)⟩
              case measure => simp [intOf]; omega
            · have dd2 : decide ((j : Int) < x2) = true := decide_eq_true (by omega)
              go_wp2_with fail
              go_ret
              exact END.out _ (hE.trans e14) (.inr (.inr (.inr (decide_eq_false (by omega)))))
          · have dd1 : decide ((j : Int) < x1) = true := decide_eq_true (by omega)
            go_wp2_with fail
            go_ret
            exact END.out _ (hE.trans e13) (.inr (.inr (.inl (decide_eq_false (by omega)))))
    · go_wp2_with fail
      go_ret
      exact ⟨by unfold dfV; rw [HE.out, List.drop_of_length_le (by omega)]; rfl, hx⟩
theorem mxV_way (t b : Tr) (i : Int) (r : Bool) : (valid sigT t && (valid sigT b && (decide (mxf t 0 ≤ i) && (decide (mxf b 0 ≤ i) && r)))) = (decide (0 ≤ mxV t) && (decide (0 ≤ mxV b) && (decide (mxV t ≤ i) && (decide (mxV b ≤ i) && r)))) := by
  have h1 := mxf_nonneg t 0
  have h2 := mxf_nonneg b 0
  unfold mxV
  cases valid sigT t <;> cases valid sigT b <;> simp [h1, h2]
set_option maxRecDepth 100000 in
theorem specDefsValid_any (ks : List Tr) (n cap : Nat) (w : World) (A : Option Addr) (h : LiesK w A ks) (hn : ks.length = n * 2) (hl : n ≤ cap) (hc : cap ≤ maxLen) :
    Calls Try.prog 117 #[.slice A n cap] w fun e w' => e = .returned (.bool (dfV ks n)) ∧ Ext w w' := by
  have hcc := hc
  unfold maxLen at hcc
  go_enter Try.func117, Try.ntmps117
  go_wp2_with fail
  go_loopw [3] (fun i wr => ∃ j : Nat, j ≤ n ∧ i = .int .i64 j ∧ dvs ks 0 = dvs (ks.drop (j * 2)) j ∧ Ext w wr) (fun i _ => n - (intOf i).toNat)
  case atStart => exact ⟨0, Nat.zero_le _, rfl, rfl, Ext.refl _⟩
  case round =>
    obtain ⟨j, hj, rfl, heq, hx⟩ := hrel
    have HE := Lib.hid heq
    clear heq
    by_cases hlt : j < n
    · obtain ⟨b, o, k1, n1, A1, p1, kids1, k2, n2, A2, p2, kids2, rfl, hbw, HK1, HK2, ⟨c0, c1, c2, c3, c4, c5⟩, ⟨l1, m1, hK1, hin1, hmem1⟩, ⟨l2, m2, hK2, hin2, hmem2⟩⟩ := h.getD (j := j) hx (by omega)
      have hst : dvs (ks.drop (j * 2)) j = (decide (0 ≤ mxV (.mk k1 n1 kids1)) && (decide (0 ≤ mxV (.mk k2 n2 kids2)) && (decide (mxV (.mk k1 n1 kids1) ≤ (j : Int)) && (decide (mxV (.mk k2 n2 kids2) ≤ (j : Int)) && dvs (ks.drop ((j + 1) * 2)) (j + 1))))) := by
        rw [← mxV_way, List.drop_eq_getElem_cons (i := j * 2) (by omega), List.drop_eq_getElem_cons (i := j * 2 + 1) (by omega), HK1.out, HK2.out]
        conv => lhs; unfold dvs
        rw [show j * 2 + 1 + 1 = (j + 1) * 2 by omega]
      have HT := Lib.hid hst
      clear hst
      have hj' : (j : Int) < (n : Int) := by omega
      have HM1 := Lib.hid (fun W (hW : Ext wr W) => specMaxFree_any _ W _ (hin1.ext hW))
      have HM2 := Lib.hid (fun W (hW : Ext wr W) => specMaxFree_any _ W _ (hin2.ext hW))
      have HC := Lib.hid (fun w' (he : Ext wr w') => (show w'.cell? ⟨b, o + j * 6, none⟩ = some (.int .i64 k1) ∧ w'.cell? ⟨b, o + j * 6 + 1, none⟩ = some (.int .i64 n1) ∧ w'.cell? ⟨b, o + j * 6 + 2, none⟩ = some (.slice A1 kids1.length p1) ∧
        w'.cell? ⟨b, o + j * 6 + 3, none⟩ = some (.int .i64 k2) ∧ w'.cell? ⟨b, o + j * 6 + 4, none⟩ = some (.int .i64 n2) ∧ w'.cell? ⟨b, o + j * 6 + 5, none⟩ = some (.slice A2 kids2.length p2) from ⟨he.cell c0, he.cell c1, he.cell c2, he.cell c3, he.cell c4, he.cell c5⟩))
      generalize mxV (.mk k1 n1 kids1) = x1 at HM1 HT
      generalize mxV (.mk k2 n2 kids2) = x2 at HM2 HT
      have end_ : ∀ w', Ext wr w' → (x1 < 0 ∨ x2 < 0 ∨ (j : Int) < x1 ∨ (j : Int) < x2) → Ending.returned (Value.bool false) = Ending.returned (Value.bool (dfV ks n)) ∧ Ext w w' := fun w' he hh => by
        refine ⟨?_, hx.trans he⟩
        unfold dfV
        rw [HE.out, HT.out]
        rcases hh with h | h | h | h
        · rw [decide_eq_false (by omega : ¬ 0 ≤ x1)]; simp
        · rw [decide_eq_false (by omega : ¬ 0 ≤ x2)]; simp
        · rw [decide_eq_false (by omega : ¬ x1 ≤ (j : Int))]; simp
        · rw [decide_eq_false (by omega : ¬ x2 ≤ (j : Int))]; simp
      have END := Lib.hid end_
      clear end_
      go_wp2_with fail
      refine (HM1.out _ (Ext.refl _)).mono ?_
      rintro e w1 ⟨rfl, e1⟩
      clear c0 c1 c2 c3 c4 c5
      obtain ⟨c0, c1, c2, c3, c4, c5⟩ := HC.out w1 e1
      by_cases g1 : x1 < 0
      · have dd1 : decide (x1 < 0) = true := decide_eq_true g1
        go_wp2_with fail
        go_ret
        exact END.out _ e1 (.inl g1)
      have dd1 : decide (x1 < 0) = false := decide_eq_false g1
      go_wp2_with fail
      refine (HM2.out _ e1).mono ?_
      rintro e w2 ⟨rfl, e2⟩
      have e12 := e1.trans e2
      clear c0 c1 c2 c3 c4 c5
      obtain ⟨c0, c1, c2, c3, c4, c5⟩ := HC.out w2 e12
      by_cases g2 : x2 < 0
      · have dd2 : decide (x2 < 0) = true := decide_eq_true g2
        go_wp2_with fail
        go_ret
        exact END.out _ e12 (.inr (.inl g2))
      have dd2 : decide (x2 < 0) = false := decide_eq_false g2
      go_wp2_with fail
      refine (HM1.out _ e12).mono ?_
      rintro e w3 ⟨rfl, e3⟩
      have e13 := e12.trans e3
      clear c0 c1 c2 c3 c4 c5
      obtain ⟨c0, c1, c2, c3, c4, c5⟩ := HC.out w3 e13
      by_cases g3 : (j : Int) < x1
      · have dd3 : decide ((j : Int) < x1) = true := decide_eq_true g3
        go_wp2_with fail
        go_ret
        exact END.out _ e13 (.inr (.inr (.inl g3)))
      have dd3 : decide ((j : Int) < x1) = false := decide_eq_false g3
      go_wp2_with fail
      refine (HM2.out _ e13).mono ?_
      rintro e w4 ⟨rfl, e4⟩
      have e14 := e13.trans e4
      by_cases g4 : (j : Int) < x2
      · have dd4 : decide ((j : Int) < x2) = true := decide_eq_true g4
        go_wp2_with fail
        go_ret
        exact END.out _ e14 (.inr (.inr (.inr g4)))
      have dd4 : decide ((j : Int) < x2) = false := decide_eq_false g4
      go_wp2_with fail
      go_roundw
      case rel => exact ⟨j + 1, by omega, by go_num, by rw [HE.out, HT.out, decide_eq_true (by omega : 0 ≤ x1), decide_eq_true (by omega : 0 ≤ x2), decide_eq_true (by omega : x1 ≤ (j : Int)), decide_eq_true (by omega : x2 ≤ (j : Int))]; rfl, hx.trans e14⟩
      case measure => simp [intOf]; omega
    · go_wp2_with fail
      go_ret
      exact ⟨by unfold dfV; rw [HE.out, List.drop_of_length_le (by omega)]; rfl, hx⟩
end Go.Proofs.Ytappakllopkfiaa
namespace Go.Proofs.Ytappakllopkfiaa
open Go.RowKit
set_option linter.unusedVariables false
theorem OwnL.append {w : World} {e : TypeId} {ys : List Value} {ts : List Tr} {M : List Nat} (ht : OwnL w e ys ts M) : ∀ {xs : List Value} {ks : List Tr} {L : List Nat}, xs.length = ks.length * 3 → OwnL w e xs ks L → OwnL w e (xs ++ ys) (ks ++ ts) (L ++ M)
  | xs, [], L, hx, h => by
    have hx0 : xs = [] := List.eq_nil_of_length_eq_zero (by simpa using hx)
    subst hx0
    unfold OwnL at h
    subst h
    simpa using ht
  | xs, x :: ks, L, hx, h => by
    obtain ⟨u0, u1, u2, rest, L1, L2, rfl, h1, h2, rfl⟩ := OwnL.cons_iff.1 h
    exact OwnL.cons_iff.2 ⟨u0, u1, u2, _, L1, L2 ++ M, rfl, h1, OwnL.append ht (by simp only [List.length_cons] at hx; omega) h2, by simp⟩
/-- The cells of some trees, in a row or not, made between two worlds. -/
def MadeL (w w' : World) (e : TypeId) (xs : List Value) (ks : List Tr) : Prop := ∃ L, OwnL w' e xs ks L ∧ Fresh w w' L
theorem MadeL.two {a b c d : World} {e : TypeId} {t1 t2 : Tr} {x0 x1 x2 y0 y1 y2 : Value} (h1 : Made a b e t1 (.agg #[x0, x1, x2])) (h2 : Made c d e t2 (.agg #[y0, y1, y2])) (hbc : Ext b c) (hab : a.heap.size ≤ b.heap.size) (hcd : Ext c d) : MadeL a d e [x0, x1, x2, y0, y1, y2] [t1, t2] := by
  obtain ⟨L, h1, f1⟩ := h1
  obtain ⟨M, h2, f2⟩ := h2
  exact ⟨L ++ (M ++ []), OwnL.cons_iff.2 ⟨x0, x1, x2, [y0, y1, y2], L, M ++ [], rfl, h1.mono (fun b hb => (hbc.trans hcd).heap b (f1.2 b hb).2), OwnL.cons_iff.2 ⟨y0, y1, y2, [], M, [], rfl, h2, OwnL.nil, rfl⟩, rfl⟩, by simpa using f1.append f2 hbc.size hab hcd.size⟩
theorem MadeL.after {W w1 w3 : World} {e : TypeId} {xs : List Value} {ks : List Tr} (h : MadeL W w1 e xs ks) (ha : Above W.heap.size w1 w3) : MadeL W w3 e xs ks := by
  obtain ⟨L, h, hf⟩ := h
  exact ⟨L, h.mono fun b hb => ha.1 b (hf.2 b hb).1, hf.mono (Nat.le_refl _) ha.2⟩
theorem MadeL.since {a w w' : World} {e : TypeId} {xs : List Value} {ks : List Tr} (h : MadeL w w' e xs ks) (ha : a.heap.size ≤ w.heap.size) : MadeL a w' e xs ks := by
  obtain ⟨L, h, hf⟩ := h
  exact ⟨L, h, hf.mono ha (Nat.le_refl _)⟩
def OwnD (w : World) (e eT : TypeId) (A : Option Addr) (ks : List Tr) (L : List Nat) : Prop :=
  (ks = [] ∧ L = []) ∨ ∃ b cs L', A = some ⟨b, 0, none⟩ ∧ w.heap[b]? = some (.cells cs e (0, 0)) ∧ L = b :: L' ∧ OwnL w eT cs.toList ks L'
/-- A slice of definitions that was made between w and w'. -/
def MadeD (w w' : World) (e eT : TypeId) (A : Option Addr) (ks : List Tr) : Prop := ∃ L, OwnD w' e eT A ks L ∧ Fresh w w' L
theorem OwnL.inL' {w : World} {e e' : TypeId} {b : Nat} {cs : Array Value} {S : Nat → Prop} (hb : w.heap[b]? = some (.cells cs e' (0, 0))) : ∀ {xs pre : List Value} {ks : List Tr} {L : List Nat}, OwnL w e xs ks L → cs.toList = pre ++ xs → (∀ x, x ∈ L → S x) → InL w S b pre.length ks
  | _, _, [], _, _, _, _ => by unfold InL; trivial
  | xs, pre, t :: ts, L, h, he, hS => by
    obtain ⟨v0, v1, v2, rest, L1, L2, rfl, h1, h2, rfl⟩ := OwnL.cons_iff.1 h
    unfold InL
    have hc : ∀ i, w.cell? ⟨b, i, none⟩ = cs.toList[i]? := fun i => by rw [cell_of_blk hb]; simp
    refine ⟨⟨v0, v1, v2, ?_, ?_, ?_, InT.mono (fun x hx => hS x (by simp [hx])) (fun _ _ => rfl) (OwnT.inT h1)⟩, ?_⟩
    · rw [hc, he, List.getElem?_append_right (Nat.le_refl _)]; simp
    · rw [hc, he, List.getElem?_append_right (by omega)]; simp
    · rw [hc, he, List.getElem?_append_right (by omega)]; simp
    · have := OwnL.inL' hb (pre := pre ++ [v0, v1, v2]) h2 (by simp [he]) (fun x hx => hS x (by simp [hx]))
      simpa using this
theorem MadeD.lies {w w' : World} {e eT : TypeId} {A : Option Addr} {ks : List Tr} (h : MadeD w w' e eT A ks) : LiesK w' A ks := by
  obtain ⟨L, h, hf⟩ := h
  rcases h with ⟨rfl, _⟩ | ⟨b, cs, L', rfl, hb, rfl, hl⟩
  · exact .inl rfl
  · exact .inr ⟨b, 0, rfl, (hf.2 b (by simp)).2, OwnL.inL' hb (pre := []) hl rfl (fun x hx => (hf.2 x (by simp [hx])).2)⟩
theorem OwnD.mono {w w' : World} {e eT : TypeId} {A : Option Addr} {ks : List Tr} {L : List Nat} (h : OwnD w e eT A ks L) (hw : ∀ b, b ∈ L → w'.heap[b]? = w.heap[b]?) : OwnD w' e eT A ks L := by
  rcases h with h | ⟨b, cs, L', rfl, hb, rfl, hl⟩
  · exact .inl h
  · exact .inr ⟨b, cs, L', rfl, (hw b (by simp)).trans hb, rfl, hl.mono (fun x hx => hw x (by simp [hx]))⟩
theorem MadeD.ext {w w' w2 : World} {e eT : TypeId} {A : Option Addr} {ks : List Tr} (h : MadeD w w' e eT A ks) (he : Ext w' w2) : MadeD w w2 e eT A ks := by
  obtain ⟨L, h, hf⟩ := h
  refine ⟨L, ?_, hf.mono (Nat.le_refl _) he.size⟩
  rcases h with h | ⟨b, cs, L', rfl, hb, rfl, hl⟩
  · exact .inl h
  · exact .inr ⟨b, cs, L', rfl, he.blk hb, rfl, hl.mono (fun x hx => he.heap x (hf.2 x (by simp [hx])).2)⟩
theorem MadeD.row {w w1 w' : World} {e eT : TypeId} {g : Nat} {cs : Array Value} {ks : List Tr} {L : List Nat} (hb : w'.heap[g]? = some (.cells cs e (0, 0))) (hl : OwnL w' eT cs.toList ks L) (hf : Fresh w1 w' L) (hg : w.heap.size ≤ g) (hg1 : g < w1.heap.size) : MadeD w w' e eT (some ⟨g, 0, none⟩) ks := by
  refine ⟨g :: L, .inr ⟨g, cs, L, rfl, hb, rfl, hl⟩, List.nodup_cons.2 ⟨fun hm => ?_, hf.1⟩, fun b hm => ?_⟩
  · have := hf.2 g hm
    omega
  · rcases List.mem_cons.1 hm with rfl | hm
    · exact ⟨hg, lt_of_blk hb⟩
    · have := hf.2 b hm
      omega
theorem own6 {w : World} {g : Nat} {x0 x1 x2 x3 x4 x5 : Value} {e : TypeId} (hb : w.heap[g]? = some (.cells #[x0, x1, x2, x3, x4, x5] e (0, 0))) :
    (w.cell? ⟨g, 0, none⟩ = some x0 ∧ w.cell? ⟨g, 1, none⟩ = some x1 ∧ w.cell? ⟨g, 2, none⟩ = some x2 ∧ w.cell? ⟨g, 3, none⟩ = some x3 ∧ w.cell? ⟨g, 4, none⟩ = some x4 ∧ w.cell? ⟨g, 5, none⟩ = some x5) ∧
    w.frozen? ⟨g, 0, none⟩ = false ∧ w.frozen? ⟨g, 1, none⟩ = false ∧ w.frozen? ⟨g, 2, none⟩ = false ∧ w.frozen? ⟨g, 3, none⟩ = false ∧ w.frozen? ⟨g, 4, none⟩ = false ∧ w.frozen? ⟨g, 5, none⟩ = false :=
  ⟨⟨cell_of_blk hb 0, cell_of_blk hb 1, cell_of_blk hb 2, cell_of_blk hb 3, cell_of_blk hb 4, cell_of_blk hb 5⟩, frozen_of_blk hb 0, frozen_of_blk hb 1, frozen_of_blk hb 2, frozen_of_blk hb 3, frozen_of_blk hb 4, frozen_of_blk hb 5⟩
end Go.Proofs.Ytappakllopkfiaa

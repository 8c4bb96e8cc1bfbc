/-
  impl.CodeSame, impl.TermSame (over slices.EqualFunc): equal trees.
-/
import Derived.Test.YtappakllopkfiaaMem
import Derived.Test.YtappakllopkfiaaProg
import Derived.BigQuiet
import Derived.StillTailTactics
import Derived.Outline
namespace Go.Proofs.Ytappakllopkfiaa
open Go.RowKit
set_option linter.unusedVariables false

def SameCodeC (t : Tr) : Prop := ∀ (w : World) (t' : Tr) (v v' : Value), Lies w t v → Lies w t' v' →
  Calls Try.prog 22 #[v, v'] w fun e w' => e = .returned (.bool (eqTr t t')) ∧ Ext w w'

set_option maxHeartbeats 400000 in
theorem equalCode (ks ks' : List Tr) (hk : ∀ t ∈ ks, SameCodeC t) (w : World) (A A' : Option Addr) (cap cap' : Nat) (h : LiesK w A ks) (hl : ks.length ≤ cap) (hc : cap ≤ maxLen) (h' : LiesK w A' ks') (hl' : ks'.length ≤ cap') (hc' : cap' ≤ maxLen) :
    Calls Try.prog 76 #[.slice A ks.length cap, .slice A' ks'.length cap', .func (.func 22) #[] #[]] w fun e w' => e = .returned (.bool (eqTs ks ks')) ∧ Ext w w' := by
  unfold maxLen at hc hc'
  by_cases h0 : ks.length = ks'.length
  · have hd : ((ks.length : Int) != (ks'.length : Int)) = false := by rw [h0]; simp
    have H0 := Lib.hid h0
    clear h0
    go_enter Try.func76, Try.ntmps76
    go_wp2_with fail
    go_loopw [17] (fun i wr => ∃ j : Nat, j ≤ ks.length ∧ i = .int .i64 j ∧ eqTs ks ks' = eqTs (ks.drop j) (ks'.drop j) ∧ Ext w wr) (fun i _ => ks.length - (intOf i).toNat)
    case atStart => exact ⟨0, Nat.zero_le _, rfl, rfl, Ext.refl _⟩
    case round =>
      obtain ⟨j, hj, rfl, hsz, hb⟩ := hrel
      have HS := Lib.hid hsz
      clear hsz
      by_cases hlt : j < ks.length
      · have hlt' : j < ks'.length := by rw [← H0.out]; exact hlt
        obtain ⟨b, o, k, n, B, c, kids, rfl, HK, c0, c1, c2, hkl, hkc, hK, hin, hmem⟩ := h.get hb hlt
        obtain ⟨b', o', k', n', B', c', kids', rfl, HK', c0', c1', c2', hkl', hkc', hK', hin', hmem'⟩ := h'.get hb hlt'
        have hlb := World.block_lt_of_cell? _ _ c0'
        have hstep : eqTs (ks.drop j) (ks'.drop j) = (eqTr (.mk k n kids) (.mk k' n' kids') && eqTs (ks.drop (j + 1)) (ks'.drop (j + 1))) := by
          rw [List.drop_eq_getElem_cons hlt, List.drop_eq_getElem_cons hlt', HK.out, HK'.out]
          conv => lhs; unfold eqTs
        have HST := Lib.hid hstep
        clear hstep
        go_wp2_with fail
        refine (hk _ hmem _ (.mk k' n' kids') _ _ (hin.ext (((Ext.refl wr).alloc _).alloc _)) (hin'.ext (((Ext.refl wr).alloc _).alloc _))).mono ?_
        rintro e w1 ⟨rfl, hb1⟩
        have hb2 := hb.trans hb1.pre.pre
        generalize eqTr (.mk k n kids) (.mk k' n' kids') = q at HST
        cases q with
        | false =>
          go_wp2_with fail
          go_ret
          exact ⟨by rw [HS.out, HST.out]; rfl, hb2⟩
        | true =>
          go_wp2_with fail
          go_roundw
          case rel => exact ⟨j + 1, by omega, by go_num, by rw [HS.out, HST.out]; rfl, hb2⟩
          case measure => simp [intOf]; omega
      · go_wp2_with fail
        go_ret
        exact ⟨by rw [HS.out, List.drop_of_length_le (by omega), List.drop_of_length_le (by rw [← H0.out]; omega)]; rfl, hb⟩
  · have hd : ((ks.length : Int) != (ks'.length : Int)) = true := by rw [bne_iff_ne]; omega
    have e : eqTs ks ks' = false := by
      rw [Bool.eq_false_iff]
      intro he
      exact h0 (eqTs_len he)
    have E := Lib.hid e
    clear e
    go_enter Try.func76, Try.ntmps76
    go_wp2_with fail
    go_ret
    exact ⟨by rw [E.out]; rfl, Ext.refl _⟩

theorem sameCode_any : ∀ t : Tr, SameCodeC t := Tr.ind fun k n ks hk => by
  intro w t' v v' h h'
  obtain ⟨A, cap, rfl, hl, hc, hK⟩ := Lies.mk_iff.1 h
  obtain ⟨k', n', ks'⟩ := t'
  obtain ⟨A', cap', rfl, hl', hc', hK'⟩ := Lies.mk_iff.1 h'
  clear h h'
  have HW := fun W (hW : Ext w W) => equalCode ks ks' hk W A A' cap cap' (hK.ext hW) hl hc (hK'.ext hW) hl' hc'
  have HS := Lib.hid HW
  clear HW
  by_cases h1 : k = k'
  · by_cases h2 : n = n'
    · have e : eqTr (.mk k n ks) (.mk k' n' ks') = eqTs ks ks' := by simp [eqTr, h1, h2]
      have E := Lib.hid e
      have d1 : (k == k') = true := by simp [h1]
      have d2 : (n == n') = true := by simp [h2]
      clear e h1 h2
      go_enter Try.func22, Try.ntmps22
      go_wp2_with fail
      refine (HS.out _ (((Ext.refl w).alloc _).alloc _)).mono ?_
      rintro e w1 ⟨rfl, hE⟩
      go_wp2_with fail
      go_ret
      exact ⟨by rw [E.out]; rfl, hE.pre.pre⟩
    · have e : eqTr (.mk k n ks) (.mk k' n' ks') = false := by simp [eqTr, h2]
      have E := Lib.hid e
      have d1 : (k == k') = true := by simp [h1]
      have d2 : (n == n') = false := by simpa using h2
      clear e h1 h2
      go_enter Try.func22, Try.ntmps22
      go_wp2_with fail
      go_ret
      exact ⟨by rw [E.out]; rfl, ((Ext.refl w).alloc _).alloc _⟩
  · have e : eqTr (.mk k n ks) (.mk k' n' ks') = false := by simp [eqTr, h1]
    have E := Lib.hid e
    have d1 : (k == k') = false := by simpa using h1
    clear e h1
    go_enter Try.func22, Try.ntmps22
    go_wp2_with fail
    go_ret
    exact ⟨by rw [E.out]; rfl, ((Ext.refl w).alloc _).alloc _⟩
def SameTermC (t : Tr) : Prop := ∀ (w : World) (t' : Tr) (v v' : Value), Lies w t v → Lies w t' v' →
  Calls Try.prog 34 #[v, v'] w fun e w' => e = .returned (.bool (eqTr t t')) ∧ Ext w w'

set_option maxHeartbeats 400000 in
theorem equalTerm (ks ks' : List Tr) (hk : ∀ t ∈ ks, SameTermC t) (w : World) (A A' : Option Addr) (cap cap' : Nat) (h : LiesK w A ks) (hl : ks.length ≤ cap) (hc : cap ≤ maxLen) (h' : LiesK w A' ks') (hl' : ks'.length ≤ cap') (hc' : cap' ≤ maxLen) :
    Calls Try.prog 95 #[.slice A ks.length cap, .slice A' ks'.length cap', .func (.func 34) #[] #[]] w fun e w' => e = .returned (.bool (eqTs ks ks')) ∧ Ext w w' := by
  unfold maxLen at hc hc'
  by_cases h0 : ks.length = ks'.length
  · have hd : ((ks.length : Int) != (ks'.length : Int)) = false := by rw [h0]; simp
    have H0 := Lib.hid h0
    clear h0
    go_enter Try.func95, Try.ntmps95
    go_wp2_with fail
    go_loopw [17] (fun i wr => ∃ j : Nat, j ≤ ks.length ∧ i = .int .i64 j ∧ eqTs ks ks' = eqTs (ks.drop j) (ks'.drop j) ∧ Ext w wr) (fun i _ => ks.length - (intOf i).toNat)
    case atStart => exact ⟨0, Nat.zero_le _, rfl, rfl, Ext.refl _⟩
    case round =>
      obtain ⟨j, hj, rfl, hsz, hb⟩ := hrel
      have HS := Lib.hid hsz
      clear hsz
      by_cases hlt : j < ks.length
      · have hlt' : j < ks'.length := by rw [← H0.out]; exact hlt
        obtain ⟨b, o, k, n, B, c, kids, rfl, HK, c0, c1, c2, hkl, hkc, hK, hin, hmem⟩ := h.get hb hlt
        obtain ⟨b', o', k', n', B', c', kids', rfl, HK', c0', c1', c2', hkl', hkc', hK', hin', hmem'⟩ := h'.get hb hlt'
        have hlb := World.block_lt_of_cell? _ _ c0'
        have hstep : eqTs (ks.drop j) (ks'.drop j) = (eqTr (.mk k n kids) (.mk k' n' kids') && eqTs (ks.drop (j + 1)) (ks'.drop (j + 1))) := by
          rw [List.drop_eq_getElem_cons hlt, List.drop_eq_getElem_cons hlt', HK.out, HK'.out]
          conv => lhs; unfold eqTs
        have HST := Lib.hid hstep
        clear hstep
        go_wp2_with fail
        refine (hk _ hmem _ (.mk k' n' kids') _ _ (hin.ext (((Ext.refl wr).alloc _).alloc _)) (hin'.ext (((Ext.refl wr).alloc _).alloc _))).mono ?_
        rintro e w1 ⟨rfl, hb1⟩
        have hb2 := hb.trans hb1.pre.pre
        generalize eqTr (.mk k n kids) (.mk k' n' kids') = q at HST
        cases q with
        | false =>
          go_wp2_with fail
          go_ret
          exact ⟨by rw [HS.out, HST.out]; rfl, hb2⟩
        | true =>
          go_wp2_with fail
          go_roundw
          case rel => exact ⟨j + 1, by omega, by go_num, by rw [HS.out, HST.out]; rfl, hb2⟩
          case measure => simp [intOf]; omega
      · go_wp2_with fail
        go_ret
        exact ⟨by rw [HS.out, List.drop_of_length_le (by omega), List.drop_of_length_le (by rw [← H0.out]; omega)]; rfl, hb⟩
  · have hd : ((ks.length : Int) != (ks'.length : Int)) = true := by rw [bne_iff_ne]; omega
    have e : eqTs ks ks' = false := by
      rw [Bool.eq_false_iff]
      intro he
      exact h0 (eqTs_len he)
    have E := Lib.hid e
    clear e
    go_enter Try.func95, Try.ntmps95
    go_wp2_with fail
    go_ret
    exact ⟨by rw [E.out]; rfl, Ext.refl _⟩

theorem sameTerm_any : ∀ t : Tr, SameTermC t := Tr.ind fun k n ks hk => by
  intro w t' v v' h h'
  obtain ⟨A, cap, rfl, hl, hc, hK⟩ := Lies.mk_iff.1 h
  obtain ⟨k', n', ks'⟩ := t'
  obtain ⟨A', cap', rfl, hl', hc', hK'⟩ := Lies.mk_iff.1 h'
  clear h h'
  have HW := fun W (hW : Ext w W) => equalTerm ks ks' hk W A A' cap cap' (hK.ext hW) hl hc (hK'.ext hW) hl' hc'
  have HS := Lib.hid HW
  clear HW
  by_cases h1 : k = k'
  · by_cases h2 : n = n'
    · have e : eqTr (.mk k n ks) (.mk k' n' ks') = eqTs ks ks' := by simp [eqTr, h1, h2]
      have E := Lib.hid e
      have d1 : (k == k') = true := by simp [h1]
      have d2 : (n == n') = true := by simp [h2]
      clear e h1 h2
      go_enter Try.func34, Try.ntmps34
      go_wp2_with fail
      refine (HS.out _ (((Ext.refl w).alloc _).alloc _)).mono ?_
      rintro e w1 ⟨rfl, hE⟩
      go_wp2_with fail
      go_ret
      exact ⟨by rw [E.out]; rfl, hE.pre.pre⟩
    · have e : eqTr (.mk k n ks) (.mk k' n' ks') = false := by simp [eqTr, h2]
      have E := Lib.hid e
      have d1 : (k == k') = true := by simp [h1]
      have d2 : (n == n') = false := by simpa using h2
      clear e h1 h2
      go_enter Try.func34, Try.ntmps34
      go_wp2_with fail
      go_ret
      exact ⟨by rw [E.out]; rfl, ((Ext.refl w).alloc _).alloc _⟩
  · have e : eqTr (.mk k n ks) (.mk k' n' ks') = false := by simp [eqTr, h1]
    have E := Lib.hid e
    have d1 : (k == k') = false := by simpa using h1
    clear e h1
    go_enter Try.func34, Try.ntmps34
    go_wp2_with fail
    go_ret
    exact ⟨by rw [E.out]; rfl, ((Ext.refl w).alloc _).alloc _⟩
end Go.Proofs.Ytappakllopkfiaa

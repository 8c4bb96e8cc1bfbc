/-
  EqualNumbers: the program's and the reference's.
-/
import Derived.Test.YtohmpjpjpgonpaaNode
import Derived.Test.YtohmpjpjpgonpaaNums
namespace Go.Proofs.Ytohmpjpjpgonpaa
open Go.RowKit
set_option linter.unusedVariables false

/-- What EqualNumbers answers. -/
def eqNum (a b : Int) : Tr × Bool := if a = b ∧ 0 ≤ a ∧ a ≤ 20 then (.mk 11 0 [numTr a.toNat], true) else (.mk 0 0 [], false)
theorem eqNum_bad {a b : Int} (h : ¬ (a = b ∧ 0 ≤ a ∧ a ≤ 20)) : eqNum a b = (.mk 0 0 [], false) := if_neg h
theorem eqNum_good {n : Nat} (h : n ≤ 20) : eqNum n n = (.mk 11 0 [numTr n], true) := by
  unfold eqNum
  rw [if_pos ⟨rfl, by omega, by omega⟩]
  simp

theorem cnt_eqNum (a b : Int) : cnt (eqNum a b).1 ≤ 30 := by
  unfold eqNum
  split
  · simp only [cnt, cnts, cnt_numTr]
    omega
  · simp [cnt, cnts]

theorem equalNumbers_any (a b : Int) (w : World) : Calls Try.prog 23 #[.int .i64 a, .int .i64 b] w fun e w' => ∃ u, e = .returned (.tuple #[u, .bool (eqNum a b).2]) ∧ Made w w' 36 (eqNum a b).1 u ∧ Ext w w' := by
  by_cases hg : a = b ∧ 0 ≤ a ∧ a ≤ 20
  · obtain ⟨rfl, h0, h1⟩ := hg
    obtain ⟨n, rfl⟩ := Int.eq_ofNat_of_zero_le h0
    have hn : n ≤ 20 := by omega
    rw [eqNum_good hn]
    have d1 : ((n : Int) != (n : Int)) = false := by simp
    have d2 : inR (n : Int) 0 20 = true := by unfold inR; simp; omega
    go_enter Try.func23, Try.ntmps23
    go_wp2_with (go_at_call 60; refine (isNumber_any _ _).mono ?_; rw [d2]; rintro e w1 ⟨rfl, rfl⟩)
    refine (numeral_any n (by omega) _).mono ?_
    rintro e w1 ⟨u, rfl, hM, hE⟩
    obtain ⟨k, a', A, l, c, rfl⟩ := hM.three
    go_wp2_with fail
    refine (node_any _ 11 _ 1 1).mono ?_
    rintro e w2 ⟨rfl, hE2⟩
    have hb2 := (blk1 hE2).1
    have hk := MadeK.one (W := w.alloc (.cells #[.int .i64 0, .int .i64 0, .slice none 0 0] 36)) (w := w2) hM (by have := hE.size; simpa using this) hE2.pre hb2 (Nat.le_refl _) (Nat.le_refl _)
    have hb := (blk1 hE).1
    have hb' := hE2.pre.blk hb
    obtain ⟨s0, s1, s2, t0, t1, t2⟩ := own3 hb'
    clear hb2
    go_wp2_with fail
    refine bodyPost_ret (v := .tuple #[.agg #[.int .i64 11, .int .i64 0, .slice (some ⟨w1.heap.size, 0, none⟩) 1 1], .bool true]) (by simp [results, Try.results23, go_sem, s0, s1, s2]) rfl ⟨_, rfl, ?_, ?_⟩
    · exact Made.since (Made.after (Made.mk (by simp) (by decide) hk) ((((Above.refl _ _).setCell (by simp) _).setCell (by simp) _).setCell (by simp) _)) (by simp)
    · exact ((((hE.pre.trans hE2.pre).setCell (Nat.le_refl _) _).setCell (Nat.le_refl _) _).setCell (Nat.le_refl _) _)
  · rw [eqNum_bad hg]
    by_cases hab : a = b
    · subst hab
      have d1 : (a != a) = false := by simp
      have d2 : inR a 0 20 = false := by unfold inR; simp; omega
      go_enter Try.func23, Try.ntmps23
      go_wp2_with (go_at_call 60; refine (isNumber_any _ _).mono ?_; rw [d2]; rintro e w1 ⟨rfl, rfl⟩)
      exact bodyPost_ret (v := .tuple #[.agg #[.int .i64 0, .int .i64 0, .slice none 0 0], .bool false]) (by simp [results, Try.results23, go_sem]) rfl ⟨_, rfl, Made.leaf _ _ _ _ _, (Ext.refl w).alloc _⟩
    · have d1 : (a != b) = true := by rw [bne_iff_ne]; exact hab
      go_enter Try.func23, Try.ntmps23
      go_wp2_with fail
      exact bodyPost_ret (v := .tuple #[.agg #[.int .i64 0, .int .i64 0, .slice none 0 0], .bool false]) (by simp [results, Try.results23, go_sem]) rfl ⟨_, rfl, Made.leaf _ _ _ _ _, (Ext.refl w).alloc _⟩

theorem specEqualNumbers_any (a b : Int) (w : World) : Calls Try.prog 22 #[.int .i64 a, .int .i64 b] w fun e w' => ∃ u, e = .returned (.tuple #[u, .bool (eqNum a b).2]) ∧ Lies w' (eqNum a b).1 u ∧ Ext w w' := by
  by_cases hg : a = b ∧ 0 ≤ a ∧ a ≤ 20
  · obtain ⟨rfl, h0, h1⟩ := hg
    obtain ⟨n, rfl⟩ := Int.eq_ofNat_of_zero_le h0
    have hn : n ≤ 20 := by omega
    rw [eqNum_good hn]
    have d1 : ((n : Int) != (n : Int)) = false := by simp
    have d2 : decide ((n : Int) < 0) = false := by simp
    have d3 : decide ((20 : Int) < (n : Int)) = false := by simp; omega
    go_enter Try.func22, Try.ntmps22
    go_wp2_with fail
    refine (l1Numeral_any n (by omega) _).mono ?_
    rintro e w1 ⟨u, rfl, hM, hE⟩
    obtain ⟨k, a', A, l, c, rfl⟩ := hM.lies.three
    have hb := (blk1 hE).1
    have hs := hE.size
    simp only [World.size_alloc] at hs
    go_wp2_with fail
    refine (l1Node_any _ 11 _ 1 [numTr n] (by intro h; cases h) (fun b => w.heap.size < b ∧ b < w1.heap.size + 1) (by intro b hb; simp; omega) (InK.one (InT.mono (fun b hb => ⟨by have := hb.1; simp at this; omega, by omega⟩) (fun b hb => Below.heap_alloc w1 _ b hb.2) hM) (heap_alloc_new w1 _) ⟨by omega, by omega⟩) (by simp)).mono ?_
    rintro e w2 ⟨u, rfl, hI, hE2⟩
    have hs2 := hE2.size
    simp only [World.size_alloc] at hs2
    obtain ⟨A', c', rfl, hl', hc', hK⟩ := InT.mk_iff.1 hI
    have hb' := hE2.pre.blk hb
    obtain ⟨s0, s1, s2, t0, t1, t2⟩ := own3 hb'
    go_wp2_with fail
    refine bodyPost_ret (v := .tuple #[.agg #[.int .i64 11, .int .i64 0, .slice A' 1 c'], .bool true]) (by simp [results, Try.results22, go_sem, s0, s1, s2]) rfl ⟨_, rfl, ?_, ?_⟩
    · have hne : ∀ b, Plus (fun b => w.heap.size < b ∧ b < w1.heap.size + 1) (w1.alloc (Obj.cells #[.int .i64 k, .int .i64 a', .slice A l c] 36)) w2 b → b ≠ w.heap.size ∧ b < w2.heap.size := by
        intro b hb
        unfold Plus at hb
        simp only [World.size_alloc] at hb
        omega
      refine hI.mono (fun b hb => ?_) (fun b hb => ?_)
      · rw [World.size_setCell, World.size_setCell, World.size_setCell]
        exact (hne b hb).2
      · rw [Below.heap_setCell _ _ _ _ (hne b hb).1, Below.heap_setCell _ _ _ _ (hne b hb).1, Below.heap_setCell _ _ _ _ (hne b hb).1]
    · exact ((((hE.pre.trans hE2.pre).setCell (Nat.le_refl _) _).setCell (Nat.le_refl _) _).setCell (Nat.le_refl _) _)
  · rw [eqNum_bad hg]
    by_cases hab : a = b
    · subst hab
      have d1 : (a != a) = false := by simp
      by_cases h0 : a < 0
      · have d2 : decide (a < 0) = true := decide_eq_true h0
        go_enter Try.func22, Try.ntmps22
        go_wp2_with fail
        exact bodyPost_ret (v := .tuple #[.agg #[.int .i64 0, .int .i64 0, .slice none 0 0], .bool false]) (by simp [results, Try.results22, go_sem]) rfl ⟨_, rfl, Lies.leaf _ _ _, (Ext.refl w).alloc _⟩
      · have d2 : decide (a < 0) = false := decide_eq_false h0
        have d3 : decide (20 < a) = true := decide_eq_true (by omega)
        go_enter Try.func22, Try.ntmps22
        go_wp2_with fail
        exact bodyPost_ret (v := .tuple #[.agg #[.int .i64 0, .int .i64 0, .slice none 0 0], .bool false]) (by simp [results, Try.results22, go_sem]) rfl ⟨_, rfl, Lies.leaf _ _ _, (Ext.refl w).alloc _⟩
    · have d1 : (a != b) = true := by rw [bne_iff_ne]; exact hab
      go_enter Try.func22, Try.ntmps22
      go_wp2_with fail
      exact bodyPost_ret (v := .tuple #[.agg #[.int .i64 0, .int .i64 0, .slice none 0 0], .bool false]) (by simp [results, Try.results22, go_sem]) rfl ⟨_, rfl, Lies.leaf _ _ _, (Ext.refl w).alloc _⟩
end Go.Proofs.Ytohmpjpjpgonpaa

/-
  Lemmas towards the law, 24: Redex, Shf, OrdS, Places.
-/
import Derived.Test.YtdkamgafpphdjaaEAM
import Derived.Test.YtdkamgafpphdjaaEAV
import Derived.Test.YtdkamgafpphdjaaEAW
import Derived.Lib.SliceRun
namespace Go.Proofs.Ytdkamgafpphdjaa
open Go.RowKit
set_option linter.unusedVariables false
theorem kinds16 {k n : Int} {ks : List Tr} {d : Int} (h : shape sigT (.mk k n ks) d = true) : (opsT k = (ks.length : Int)) ∧ (k = 1 ∨ k = 2 ∨ k = 3 ∨ k = 4 ∨ k = 5 ∨ k = 6 ∨ k = 7 ∨ k = 8 ∨ k = 9 ∨ k = 10 ∨ k = 11 ∨ k = 12 ∨ k = 13 ∨ k = 14 ∨ k = 15 ∨ k = 16) := by
  obtain ⟨h1, h2, h3, h4⟩ := shape_kids h
  simp only [sigT] at h1
  have hr : 1 ≤ k ∧ k ≤ 16 := by
    by_cases h : 1 ≤ k ∧ k ≤ 16
    · exact h
    · exfalso
      unfold opsT at h1
      rw [if_neg (by omega), if_neg (by omega), if_neg (by omega), if_neg (by omega), if_neg (by omega), if_neg (by omega), if_neg (by omega), if_neg (by omega), if_neg (by omega), if_neg (by omega), if_neg (by omega), if_neg (by omega), if_neg (by omega), if_neg (by omega), if_neg (by omega), if_neg (by omega)] at h1
      omega
  exact ⟨h1, by omega⟩
theorem kd_of {ks : List Tr} {j : Nat} {t : Tr} (hj : j < ks.length) (h : ks[j] = t) : kd ks j = t := by
  unfold kd
  rw [List.getD_eq_getElem?_getD, List.getElem?_eq_getElem hj]
  exact h
set_option maxRecDepth 100000 in
set_option maxHeartbeats 1000000 in
theorem redex_any (t : Tr) (d : Int) (hsh : shape sigT t d = true) (w : World) (v : Value) (hin : Lies w t v) : Calls Try.prog 75 #[v] w fun e w' => e = .returned (.int .i64 (rdxT t)) ∧ Ext w w' := by
  obtain ⟨k, n, ks⟩ := t
  obtain ⟨A, cap, rfl, hl, hc, hK⟩ := Lies.mk_iff.1 hin
  obtain ⟨hops, hk⟩ := kinds16 hsh
  unfold maxLen at hc
  clear hsh hin
  rcases hk with rfl | rfl | rfl | rfl | rfl | rfl | rfl | rfl | rfl | rfl | rfl | rfl | rfl | rfl | rfl | rfl
  · rw [show rdxT (.mk 1 n ks) = 0 from rfl]
    clear hops hK
    go_enter Try.func75, Try.ntmps75
    go_wp2_with fail
    go_ret
    exact ⟨rfl, (Ext.refl _).alloc _⟩
  · rw [show rdxT (.mk 2 n ks) = 0 from rfl]
    clear hops hK
    go_enter Try.func75, Try.ntmps75
    go_wp2_with fail
    go_ret
    exact ⟨rfl, (Ext.refl _).alloc _⟩
  · rw [show rdxT (.mk 3 n ks) = 0 from rfl]
    clear hops hK
    go_enter Try.func75, Try.ntmps75
    go_wp2_with fail
    go_ret
    exact ⟨rfl, (Ext.refl _).alloc _⟩
  · rw [show rdxT (.mk 4 n ks) = 0 from rfl]
    clear hops hK
    go_enter Try.func75, Try.ntmps75
    go_wp2_with fail
    go_ret
    exact ⟨rfl, (Ext.refl _).alloc _⟩
  · have hlen : ks.length = 2 := by have : (2 : Int) = (ks.length : Int) := hops; omega
    have hlt : (0 : Int) < (ks.length : Int) := by omega
    obtain ⟨b, o, k', n', A', cap', kids, rfl, hid, c0, c1, c2, -, -, -, -, -⟩ := hK.get ((Ext.refl w).alloc (.cells #[.int .i64 5, .int .i64 n, .slice A ks.length cap] 27)) (j := 0) (by omega)
    simp only [Nat.zero_mul, Nat.add_zero] at c0
    clear c1 c2
    have hkd : kd ks 0 = .mk k' n' kids := kd_of (by omega) hid.out
    have hR : rdxT (.mk 5 n ks) = if k' = 4 then 1 else 0 := by show rdx 5 ks = _; unfold rdx; rw [hkd]; rfl
    rw [hR]
    clear hR hkd hid hops hK hlen
    by_cases e4 : k' = 4
    · subst e4
      rw [if_pos rfl]
      go_enter Try.func75, Try.ntmps75
      go_wp2_with fail
      go_ret
      exact ⟨rfl, (Ext.refl _).alloc _⟩
    have d4 : (k' == 4) = false := beq_eq_false_iff_ne.2 e4
    rw [if_neg e4]
    go_enter Try.func75, Try.ntmps75
    go_wp2_with fail
    go_ret
    exact ⟨rfl, (Ext.refl _).alloc _⟩
  · rw [show rdxT (.mk 6 n ks) = 0 from rfl]
    clear hops hK
    go_enter Try.func75, Try.ntmps75
    go_wp2_with fail
    go_ret
    exact ⟨rfl, (Ext.refl _).alloc _⟩
  · rw [show rdxT (.mk 7 n ks) = 0 from rfl]
    clear hops hK
    go_enter Try.func75, Try.ntmps75
    go_wp2_with fail
    go_ret
    exact ⟨rfl, (Ext.refl _).alloc _⟩
  · rw [show rdxT (.mk 8 n ks) = 0 from rfl]
    clear hops hK
    go_enter Try.func75, Try.ntmps75
    go_wp2_with fail
    go_ret
    exact ⟨rfl, (Ext.refl _).alloc _⟩
  · have hlen : ks.length = 4 := by have : (4 : Int) = (ks.length : Int) := hops; omega
    have hlt : (3 : Int) < (ks.length : Int) := by omega
    obtain ⟨b, o, k', n', A', cap', kids, rfl, hid, c0, c1, c2, -, -, -, -, -⟩ := hK.get ((Ext.refl w).alloc (.cells #[.int .i64 9, .int .i64 n, .slice A ks.length cap] 27)) (j := 3) (by omega)
    simp only [Nat.reduceMul] at c0
    clear c1 c2
    have hkd : kd ks 3 = .mk k' n' kids := kd_of (by omega) hid.out
    have hR : rdxT (.mk 9 n ks) = if k' = 7 then 2 else if k' = 8 then 3 else 0 := by show rdx 9 ks = _; unfold rdx; rw [hkd]; rfl
    rw [hR]
    clear hR hkd hid hops hK hlen
    by_cases e7 : k' = 7
    · subst e7
      rw [if_pos rfl]
      go_enter Try.func75, Try.ntmps75
      go_wp2_with fail
      go_ret
      exact ⟨rfl, (Ext.refl _).alloc _⟩
    by_cases e8 : k' = 8
    · subst e8
      rw [if_neg (by decide), if_pos rfl]
      go_enter Try.func75, Try.ntmps75
      go_wp2_with fail
      go_ret
      exact ⟨rfl, (Ext.refl _).alloc _⟩
    have d7 : (k' == 7) = false := beq_eq_false_iff_ne.2 e7
    have d8 : (k' == 8) = false := beq_eq_false_iff_ne.2 e8
    rw [if_neg e7, if_neg e8]
    go_enter Try.func75, Try.ntmps75
    go_wp2_with fail
    go_ret
    exact ⟨rfl, (Ext.refl _).alloc _⟩
  · rw [show rdxT (.mk 10 n ks) = 0 from rfl]
    clear hops hK
    go_enter Try.func75, Try.ntmps75
    go_wp2_with fail
    go_ret
    exact ⟨rfl, (Ext.refl _).alloc _⟩
  · rw [show rdxT (.mk 11 n ks) = 0 from rfl]
    clear hops hK
    go_enter Try.func75, Try.ntmps75
    go_wp2_with fail
    go_ret
    exact ⟨rfl, (Ext.refl _).alloc _⟩
  · have hlen : ks.length = 3 := by have : (3 : Int) = (ks.length : Int) := hops; omega
    have hlt : (1 : Int) < (ks.length : Int) := by omega
    obtain ⟨b, o, k', n', A', cap', kids, rfl, hid, c0, c1, c2, -, -, -, -, -⟩ := hK.get ((Ext.refl w).alloc (.cells #[.int .i64 12, .int .i64 n, .slice A ks.length cap] 27)) (j := 1) (by omega)
    simp only [Nat.reduceMul] at c0
    clear c1 c2
    have hkd : kd ks 1 = .mk k' n' kids := kd_of (by omega) hid.out
    have hR : rdxT (.mk 12 n ks) = if k' = 11 then 4 else 0 := by show rdx 12 ks = _; unfold rdx; rw [hkd]; rfl
    rw [hR]
    clear hR hkd hid hops hK hlen
    by_cases e11 : k' = 11
    · subst e11
      rw [if_pos rfl]
      go_enter Try.func75, Try.ntmps75
      go_wp2_with fail
      go_ret
      exact ⟨rfl, (Ext.refl _).alloc _⟩
    have d11 : (k' == 11) = false := beq_eq_false_iff_ne.2 e11
    rw [if_neg e11]
    go_enter Try.func75, Try.ntmps75
    go_wp2_with fail
    go_ret
    exact ⟨rfl, (Ext.refl _).alloc _⟩
  · rw [show rdxT (.mk 13 n ks) = 0 from rfl]
    clear hops hK
    go_enter Try.func75, Try.ntmps75
    go_wp2_with fail
    go_ret
    exact ⟨rfl, (Ext.refl _).alloc _⟩
  · rw [show rdxT (.mk 14 n ks) = 0 from rfl]
    clear hops hK
    go_enter Try.func75, Try.ntmps75
    go_wp2_with fail
    go_ret
    exact ⟨rfl, (Ext.refl _).alloc _⟩
  · have hlen : ks.length = 1 := by have : (1 : Int) = (ks.length : Int) := hops; omega
    have hlt : (0 : Int) < (ks.length : Int) := by omega
    obtain ⟨b, o, k', n', A', cap', kids, rfl, hid, c0, c1, c2, -, -, -, -, -⟩ := hK.get ((Ext.refl w).alloc (.cells #[.int .i64 15, .int .i64 n, .slice A ks.length cap] 27)) (j := 0) (by omega)
    simp only [Nat.zero_mul, Nat.add_zero] at c0
    clear c1 c2
    have hkd : kd ks 0 = .mk k' n' kids := kd_of (by omega) hid.out
    have hR : rdxT (.mk 15 n ks) = if k' = 14 then 5 else 0 := by show rdx 15 ks = _; unfold rdx; rw [hkd]; rfl
    rw [hR]
    clear hR hkd hid hops hK hlen
    by_cases e14 : k' = 14
    · subst e14
      rw [if_pos rfl]
      go_enter Try.func75, Try.ntmps75
      go_wp2_with fail
      go_ret
      exact ⟨rfl, (Ext.refl _).alloc _⟩
    have d14 : (k' == 14) = false := beq_eq_false_iff_ne.2 e14
    rw [if_neg e14]
    go_enter Try.func75, Try.ntmps75
    go_wp2_with fail
    go_ret
    exact ⟨rfl, (Ext.refl _).alloc _⟩
  · have hlen : ks.length = 1 := by have : (1 : Int) = (ks.length : Int) := hops; omega
    have hlt : (0 : Int) < (ks.length : Int) := by omega
    obtain ⟨b, o, k', n', A', cap', kids, rfl, hid, c0, c1, c2, -, -, -, -, -⟩ := hK.get ((Ext.refl w).alloc (.cells #[.int .i64 16, .int .i64 n, .slice A ks.length cap] 27)) (j := 0) (by omega)
    simp only [Nat.zero_mul, Nat.add_zero] at c0
    clear c1 c2
    have hkd : kd ks 0 = .mk k' n' kids := kd_of (by omega) hid.out
    have hR : rdxT (.mk 16 n ks) = if k' = 14 then 6 else 0 := by show rdx 16 ks = _; unfold rdx; rw [hkd]; rfl
    rw [hR]
    clear hR hkd hid hops hK hlen
    by_cases e14 : k' = 14
    · subst e14
      rw [if_pos rfl]
      go_enter Try.func75, Try.ntmps75
      go_wp2_with fail
      go_ret
      exact ⟨rfl, (Ext.refl _).alloc _⟩
    have d14 : (k' == 14) = false := beq_eq_false_iff_ne.2 e14
    rw [if_neg e14]
    go_enter Try.func75, Try.ntmps75
    go_wp2_with fail
    go_ret
    exact ⟨rfl, (Ext.refl _).alloc _⟩
end Go.Proofs.Ytdkamgafpphdjaa
namespace Go.Proofs.Ytdkamgafpphdjaa
open Go.RowKit
set_option linter.unusedVariables false
theorem Only.setNew {L : List Nat} {a w : World} (h : Only L a w) {p : Addr} (hp : a.heap.size ≤ p.block) (u : Value) : Only L a (w.setCell p u) :=
  ⟨h.os, h.tape, h.output, by simpa using h.size, fun i hi hn => (Below.heap_setCell w p u i (by omega)).trans (h.block i hi hn)⟩
theorem Only.blk {L : List Nat} {a w : World} {g : Nat} {o : Obj} (h : Only L a w) (hb : a.heap[g]? = some o) (hn : ¬ g ∈ L) : w.heap[g]? = some o := (h.block g (lt_of_blk hb) hn).trans hb
theorem variable_any (n : Int) (w : World) : Calls Try.prog 66 #[.int .i64 n] w fun e w' => e = .returned (.agg #[.int .i64 1, .int .i64 n, .slice none 0 0]) ∧ Ext w w' := by
  go_enter Try.func66, Try.ntmps66
  go_wp2_with fail
  exact bodyPost_ret (v := .agg #[.int .i64 1, .int .i64 n, .slice none 0 0]) (by simp [results, Try.results66, go_sem]) rfl ⟨rfl, (Ext.refl w).alloc _⟩
theorem valid_any (k n : Int) (ks : List Tr) (A : Option Addr) (cap : Nat) (w : World) (hin : Lies w (.mk k n ks) (.agg #[.int .i64 k, .int .i64 n, .slice A ks.length cap])) :
    Calls Try.prog 67 #[.agg #[.int .i64 k, .int .i64 n, .slice A ks.length cap]] w fun e w' => (if valid sigT (.mk k n ks) = true then e = .returned (.tuple #[.agg #[.int .i64 k, .int .i64 n, .slice A ks.length cap], .bool true]) else e = .returned (.tuple #[.agg #[.int .i64 0, .int .i64 0, .slice none 0 0], .bool false])) ∧ Ext w w' := by
  have HV := Lib.hid (fun W (hW : Ext w W) => validTerm_any _ W _ (hin.ext hW))
  generalize valid sigT (.mk k n ks) = s at HV ⊢
  have hE := ((Ext.refl w).alloc (.cells #[.int .i64 k, .int .i64 n, .slice A ks.length cap] 27)).alloc (.cells #[.int .i64 0, .int .i64 0, .slice none 0 0] 27)
  obtain ⟨hbT, hbR, hs1⟩ := blk2 (Ext.refl ((w.alloc (.cells #[.int .i64 k, .int .i64 n, .slice A ks.length cap] 27)).alloc (.cells #[.int .i64 0, .int .i64 0, .slice none 0 0] 27)))
  cases s with
  | true =>
    simp only [if_true]
    go_enter Try.func67, Try.ntmps67
    go_wp2_with fail
    refine (HV.out _ hE).mono ?_
    rintro e w1 ⟨rfl, e1⟩
    obtain ⟨x0, x1, x2, -, -, -⟩ := own3 (e1.blk hbT)
    obtain ⟨s0, s1, s2, f0, f1, f2⟩ := own3 (e1.blk hbR)
    go_wp2_with fail
    exact bodyPost_ret (v := .tuple #[.agg #[.int .i64 k, .int .i64 n, .slice A ks.length cap], .bool true]) (by simp [results, Try.results67, go_sem, s0, s1, s2]) rfl ⟨rfl, ((((hE.trans e1).setCell (by simp) _).setCell (by simp) _).setCell (by simp) _)⟩
  | false =>
    simp only [Bool.false_eq_true, if_false]
    go_enter Try.func67, Try.ntmps67
    go_wp2_with fail
    refine (HV.out _ hE).mono ?_
    rintro e w1 ⟨rfl, e1⟩
    obtain ⟨s0, s1, s2, f0, f1, f2⟩ := own3 (e1.blk hbR)
    go_wp2_with fail
    exact bodyPost_ret (v := .tuple #[.agg #[.int .i64 0, .int .i64 0, .slice none 0 0], .bool false]) (by simp [results, Try.results67, go_sem, s0, s1, s2]) rfl ⟨rfl, ((((hE.trans e1).setCell (by simp) _).setCell (by simp) _).setCell (by simp) _)⟩
def ShI (p1 p2 p3 B : Nat) (c y : Int) (w : World) (s : Bool) : Prop := (p1 < B ∧ p2 < B ∧ p3 < B) ∧ w.heap[p1]? = some (.cells #[.int .i64 c] 3 (0, 0)) ∧ w.heap[p2]? = some (.cells #[.int .i64 y] 3 (0, 0)) ∧ w.heap[p3]? = some (.cells #[.bool s] 4 (0, 0))
theorem shift1 (a : World) (p1 p2 p3 B : Nat) (c y : Int) (h13 : p1 ≠ p3) (h23 : p2 ≠ p3) (hy0 : 0 ≤ y) (hy1 : y ≤ 1000) (hc0 : 0 ≤ c) (hc1 : c ≤ 1000) : Chg_sh a p1 p2 p3 [p3] (ShI p1 p2 p3 B c y) (gsh y c) (hsh y c) := by
  intro w s n b ha hI hn0 hn1 hb0 hb1
  obtain ⟨hpB, i1, i2, i3⟩ := hI
  have c1 := cell_of_blk i1 0
  have c2 := cell_of_blk i2 0
  have c3 := cell_of_blk i3 0
  have f3 := frozen_of_blk i3 0
  have l1 := lt_of_blk i1
  have l2 := lt_of_blk i2
  have l3 := lt_of_blk i3
  have H1 := Lib.hid i1
  have H2 := Lib.hid i2
  have H3 := Lib.hid i3
  clear i1 i2 i3
  have HV := Lib.hid (fun m W => variable_any m W)
  by_cases h : c ≤ n - b
  · have d1 : decide (c ≤ n - b) = true := decide_eq_true h
    obtain ⟨b2, d2⟩ : ∃ x, decide (c ≤ n + y - b) = x := ⟨_, rfl⟩
    obtain ⟨b3, d3⟩ : ∃ x, decide (n + y ≤ 20) = x := ⟨_, rfl⟩
    have e1 : gsh y c n b = .mk 1 (n + y) [] := by unfold gsh; rw [if_pos h]
    have e2 : hsh y c n b = (b2 && b3) := by unfold hsh; rw [if_pos h, d2, d3]
    rw [e1, e2]
    clear e1 e2 h
    cases s <;> cases b2 <;> cases b3
    all_goals go_enter Try.func65, Try.ntmps65
    all_goals go_wp2_with fail
    all_goals (
      refine (HV.out _ _).mono ?_
      rintro e w1 ⟨rfl, e1⟩
      have hb := e1.newBlk
      simp only [World.size_setCell] at hb
      obtain ⟨s0, s1, s2, f0, f1, f2⟩ := own3 hb
      have o1 := fun u => (((Only.refl [p3] w).setCell (p := ⟨p3, 0, none⟩) (by simp) u).alloc (.cells #[.int .i64 0, .int .i64 0, .slice none 0 0] 27))
      have o2 := (o1 _).trans (Only.of_ext e1)
      have q3 := fun u => blk_setCell H3.out 0 u
      have q4 := e1.blk ((Below.heap_alloc _ _ _ (by simp; omega)).trans (q3 _))
      clear hb
      go_wp2_with fail
      refine bodyPost_ret (v := .agg #[.int .i64 1, .int .i64 (n + y), .slice none 0 0]) (by simp [results, Try.results65, go_sem, s0, s1, s2]) rfl ⟨_, rfl, Made.leaf _ _ _ _ _, ?_, hpB, ?_, ?_, ?_⟩
      · exact (((o2.setNew (by simp) _).setNew (by simp) _).setNew (by simp) _)
      · exact (((o2.setNew (by simp) _).setNew (by simp) _).setNew (by simp) _).blk H1.out (by simpa using h13)
      · exact (((o2.setNew (by simp) _).setNew (by simp) _).setNew (by simp) _).blk H2.out (by simpa using h23)
      · rw [Below.heap_setCell _ _ _ _ (by show p3 ≠ w.heap.size; omega), Below.heap_setCell _ _ _ _ (by show p3 ≠ w.heap.size; omega), Below.heap_setCell _ _ _ _ (by show p3 ≠ w.heap.size; omega), q4]
        rfl)
  · have d1 : decide (c ≤ n - b) = false := decide_eq_false h
    have e1 : gsh y c n b = .mk 1 n [] := by unfold gsh; rw [if_neg h]
    have e2 : hsh y c n b = true := by unfold hsh; rw [if_neg h]
    rw [e1, e2, Bool.and_true]
    clear e1 e2 h
    go_enter Try.func65, Try.ntmps65
    go_wp2_with fail
    refine (HV.out _ _).mono ?_
    rintro e w1 ⟨rfl, e1⟩
    have hb := e1.newBlk
    obtain ⟨s0, s1, s2, f0, f1, f2⟩ := own3 hb
    have o2 := ((Only.refl [p3] w).alloc (.cells #[.int .i64 0, .int .i64 0, .slice none 0 0] 27)).trans (Only.of_ext e1)
    have q4 := (Ext.blk e1.pre H3.out)
    clear hb
    go_wp2_with fail
    refine bodyPost_ret (v := .agg #[.int .i64 1, .int .i64 n, .slice none 0 0]) (by simp [results, Try.results65, go_sem, s0, s1, s2]) rfl ⟨_, rfl, Made.leaf _ _ _ _ _, ?_, hpB, ?_, ?_, ?_⟩
    · exact (((o2.setNew (by simp) _).setNew (by simp) _).setNew (by simp) _)
    · exact (((o2.setNew (by simp) _).setNew (by simp) _).setNew (by simp) _).blk H1.out (by simpa using h13)
    · exact (((o2.setNew (by simp) _).setNew (by simp) _).setNew (by simp) _).blk H2.out (by simpa using h23)
    · rw [Below.heap_setCell _ _ _ _ (by show p3 ≠ w.heap.size; omega), Below.heap_setCell _ _ _ _ (by show p3 ≠ w.heap.size; omega), Below.heap_setCell _ _ _ _ (by show p3 ≠ w.heap.size; omega), q4]
/-- What a checked tree is, if valid: the zero term else. -/
def okT (t : Tr) : Tr := if valid sigT t = true then t else dflt0
set_option maxRecDepth 100000 in
theorem shift_any (t : Tr) (y c : Int) (w : World) (v : Value) (hin : Lies w t v) (hv : valid sigT t = true) (hy0 : 0 ≤ y) (hy1 : y ≤ 1000) (hc0 : 0 ≤ c) (hc1 : c ≤ 1000) :
    Calls Try.prog 45 #[v, .int .i64 y, .int .i64 c] w fun e w' => ∃ u, e = .returned (.tuple #[u, .bool (valid sigT (shfT y t c))]) ∧ Made w w' 27 (okT (shfT y t c)) u ∧ Ext w w' := by
  obtain ⟨hs, hcn⟩ := valid_parts hv
  obtain ⟨hw1, hw2⟩ := shift_way (c := c) hy0 hv
  have hCH := fun W (hW : Ext w W) p1 p2 p3 (hp : w.heap.size ≤ p3) (h13 : p1 ≠ p3) (h23 : p2 ≠ p3) (h1 : W.heap[p1]? = some (.cells #[.int .i64 c] 3 (0, 0))) (h2 : W.heap[p2]? = some (.cells #[.int .i64 y] 3 (0, 0))) (h3 : W.heap[p3]? = some (.cells #[.bool true] 4 (0, 0))) =>
    changed_sh_any t w W v 0 30 p1 p2 p3 [p3] W.heap.size (ShI p1 p2 p3 W.heap.size c y) (gsh y c) (hsh y c) true hs hin hW (fun x hx => by rw [List.mem_singleton.1 hx]; exact ⟨hp, lt_of_blk h3⟩) (by omega) (by omega)
      (shift1 w p1 p2 p3 _ c y h13 h23 hy0 hy1 hc0 hc1) (fun w1 w2 s h he => ⟨h.1, he.blk h.2.1, he.blk h.2.2.1, he.blk h.2.2.2⟩) (Nat.le_refl _) (fun w1 w2 s h he hl => ⟨h.1, (he p1 h.1.1).trans h.2.1, (he p2 h.1.2.1).trans h.2.2.1, (he p3 h.1.2.2).trans h.2.2.2⟩) ⟨⟨lt_of_blk h1, lt_of_blk h2, lt_of_blk h3⟩, h1, h2, h3⟩
  rw [hw2] at hw1
  simp only [hw2, Bool.true_and] at hCH
  have HCH := Lib.hid hCH
  clear hCH hw2 hs
  obtain ⟨vb, hvb⟩ : ∃ vb, vb = valid sigT (shfT y t c) := ⟨_, rfl⟩
  obtain ⟨rt, hrt⟩ : ∃ rt, rt = okT (shfT y t c) := ⟨_, rfl⟩
  rw [← hvb, ← hrt]
  generalize shfT y t c = r at hw1 HCH hvb hrt
  generalize allT (hsh y c) t 0 = f at hw1 HCH
  obtain ⟨k, n, ks⟩ := t
  obtain ⟨A, cap, rfl, hl, hc, hK⟩ := Lies.mk_iff.1 hin
  have hE := ((((Ext.refl w).alloc (.cells #[.int .i64 k, .int .i64 n, .slice A ks.length cap] 27)).alloc (.cells #[.int .i64 y] 3)).alloc (.cells #[.int .i64 c] 3)).alloc (.cells #[.int .i64 0, .int .i64 0, .slice none 0 0] 27)
  have hbb := blk4 ((Ext.refl ((((w.alloc (.cells #[.int .i64 k, .int .i64 n, .slice A ks.length cap] 27)).alloc (.cells #[.int .i64 y] 3)).alloc (.cells #[.int .i64 c] 3)).alloc (.cells #[.int .i64 0, .int .i64 0, .slice none 0 0] 27))).alloc (.cells #[.bool true] 4))
  have hb5 := heap_alloc_new ((((w.alloc (.cells #[.int .i64 k, .int .i64 n, .slice A ks.length cap] 27)).alloc (.cells #[.int .i64 y] 3)).alloc (.cells #[.int .i64 c] 3)).alloc (.cells #[.int .i64 0, .int .i64 0, .slice none 0 0] 27)) (.cells #[.bool true] 4)
  have hE5 := hE.alloc (.cells #[.bool true] 4)
  have hsz : (((((w.alloc (.cells #[.int .i64 k, .int .i64 n, .slice A ks.length cap] 27)).alloc (.cells #[.int .i64 y] 3)).alloc (.cells #[.int .i64 c] 3)).alloc (.cells #[.int .i64 0, .int .i64 0, .slice none 0 0] 27)).alloc (.cells #[.bool true] 4)).heap.size = w.heap.size + 1 + 1 + 1 + 1 + 1 := by simp
  obtain ⟨hb1, hb2, hb3, hb4, -⟩ := hbb
  simp only [World.size_alloc] at hb5
  go_enter Try.func45, Try.ntmps45
  go_wp2_with fail
  generalize World.alloc _ _ = wa at hE5 hb1 hb2 hb3 hb4 hb5 hsz
  clear hE
  refine (HCH.out wa hE5 _ _ _ (by omega) (by omega) (by omega) hb3 hb2 hb5).mono ?_
  rintro e w1 ⟨u, rfl, hM, ho, hI⟩
  obtain ⟨k2, n2, ks2⟩ := r
  obtain ⟨A2, c2, rfl, hl2, hc2, hMK2⟩ := Made.mk_iff.1 hM
  have hb4' := ho.blk hb4 (by simp)
  have i3 := hI.2.2.2
  have hc5 := cell_of_blk i3 0
  have hlt5 := lt_of_blk i3
  have hlt4 := lt_of_blk hb4'
  have hso := ho.size
  have hEw : Ext w w1 := ho.ext hE5 (fun x hx => by rw [List.mem_singleton.1 hx]; omega)
  obtain ⟨s0, s1, s2, f0, f1, f2⟩ := own3 hb4'
  clear HCH hb1 hb2 hb3 hb4 hb5 hI i3
  have hx := (Ext.refl w1).alloc (.cells #[.int .i64 k2, .int .i64 n2, .slice A2 ks2.length c2] 27)
  cases f with
  | false =>
    rw [Bool.false_and] at hw1
    have h1 : vb = false := by rw [hvb, ← hw1]
    have h2 : rt = dflt0 := by rw [hrt]; unfold okT; rw [← hw1]; rfl
    have H1 := Lib.hid h1
    have H2 := Lib.hid h2
    clear hw1 hvb hrt h1 h2
    go_wp2_with fail
    refine bodyPost_ret (v := .tuple #[.agg #[.int .i64 0, .int .i64 0, .slice none 0 0], .bool false]) (by simp [results, Try.results45, go_sem, s0, s1, s2, hlt4]) rfl ⟨.agg #[.int .i64 0, .int .i64 0, .slice none 0 0], by rw [H1.out], by rw [H2.out]; exact Made.leaf _ _ _ _ _, ?_⟩
    exact (((hEw.setCell (by simp; omega) _).setCell (by simp; omega) _).setCell (by simp; omega) _).alloc _
  | true =>
    rw [Bool.true_and] at hw1
    have HV := Lib.hid (fun W (hW : Ext w1 W) => valid_any k2 n2 ks2 A2 c2 W (hM.lies.ext hW))
    generalize hok : valid sigT (.mk k2 n2 ks2) = b at HV
    have hO : rt = if b = true then .mk k2 n2 ks2 else dflt0 := by rw [hrt]; unfold okT; rw [hok]
    rw [hok] at hvb
    have H1 := Lib.hid hvb
    have H2 := Lib.hid hO
    clear hO hw1 hok hrt hvb
    go_wp2_with fail
    refine (HV.out _ hx).mono ?_
    cases b with
    | true =>
      simp only [if_true]
      rintro e w2 ⟨rfl, e2⟩
      obtain ⟨q0, q1, q2, g0, g1, g2⟩ := own3 ((hx.trans e2).blk hb4')
      go_wp2_with fail
      refine bodyPost_ret (v := .tuple #[.agg #[.int .i64 k2, .int .i64 n2, .slice A2 ks2.length c2], .bool true]) (by simp [results, Try.results45, go_sem, q0, q1, q2]) rfl ⟨.agg #[.int .i64 k2, .int .i64 n2, .slice A2 ks2.length c2], by rw [H1.out], ?_, ?_⟩
      · rw [H2.out]
        simp only [if_true]
        exact Made.since (((hM.ext (hx.trans e2)).after ((((Above.refl _ _).setCell (by simp; omega) _).setCell (by simp; omega) _).setCell (by simp; omega) _))) (by omega)
      · exact (((((hEw.trans hx).trans e2).setCell (by simp; omega) _).setCell (by simp; omega) _).setCell (by simp; omega) _)
    | false =>
      simp only [Bool.false_eq_true, if_false]
      rintro e w2 ⟨rfl, e2⟩
      obtain ⟨q0, q1, q2, g0, g1, g2⟩ := own3 ((hx.trans e2).blk hb4')
      go_wp2_with fail
      refine bodyPost_ret (v := .tuple #[.agg #[.int .i64 0, .int .i64 0, .slice none 0 0], .bool false]) (by simp [results, Try.results45, go_sem, q0, q1, q2]) rfl ⟨.agg #[.int .i64 0, .int .i64 0, .slice none 0 0], by rw [H1.out], by rw [H2.out]; exact Made.leaf _ _ _ _ _, ?_⟩
      exact (((((hEw.trans hx).trans e2).setCell (by simp; omega) _).setCell (by simp; omega) _).setCell (by simp; omega) _)
end Go.Proofs.Ytdkamgafpphdjaa
namespace Go.Proofs.Ytdkamgafpphdjaa
open Go.RowKit
set_option linter.unusedVariables false
theorem ordX {P : Program} {ops : Array Oper} {Q : Exit → Act → World → Prop} {l0 : Array Bool} {a0 : Act} {fuel : Nat} {ox : Oper} (W : World) (m N x : Nat) (lT lX : Array Bool) (fT : Nat) (l : List Sp) (hok1 : OrdX.okX ops l0 m N x = true) (hN : a0.tmps.size = N) (hf : fuel = Ord.opnO l0 ops.size) (hlT : Ord.doneO l0 m = lT) (hfT : Ord.opnO lT ops.size = fT)
    (hox : ops[x]? = some ox) (hxm : x < m) (hxl : Ord.isOn l0 x = false) (hlX : lT.setIfInBounds x false = lX) (hns : Region.noSelect ops = true) (hfr : Region.free .any ops lX x = true) (hrd : (Region.ready .any ops lX).contains x = true)
    (hQ : ∀ v c a w, Q (.panic c) (a.put ox.dst v) w → Q (.panic c) a w)
    (hX : ∀ a w z, EG (W.drew, []) (w, z) → (∀ t, Ord.isDst ops l0 m t = false → a.eval (.tmp t) = a0.eval (.tmp t)) → (∀ j d, Ord.depO ops l0 x j d = true → spGG l j (a.eval (.tmp d)) (w, z)) → ∃ u, YieldsIf P ops (fun _ => True) ox u a ∧ spGG l x u (w, z))
    (steps : OrdG.StepsO P ops Q l0 m EG (spGG l) a0 (W.drew, []) 0 (ops.toList.take m))
    (fin : ∀ (v : Nat → Value) w z, EG (W.drew, []) (w, z) → (∀ j, j < m → Ord.isOn l0 j = false → spGG l j (v j) (w, z)) → wpAnyH P .any ops Q (fun _ => True) fT lT (Ord.putN ops v (fun j => !Ord.isOn l0 j) a0 m) w) :
    wpAnyH P .any ops Q (fun _ => True) fuel l0 a0 W.drew :=
  OrdX.wpAnyH_orderX (w0 := (W.drew, [])) hok1 hN hf hlT hfT hox hxm hxl hlX hns hfr hrd hQ hX (EG.start _) (fun _ _ _ h h' => h.trans h') (spGG_ext _) (fun _ _ _ => trivial) steps fin
end Go.Proofs.Ytdkamgafpphdjaa
namespace Go.Proofs.Ytdkamgafpphdjaa
open Go.RowKit
set_option linter.unusedVariables false
attribute [local go_sem ↓] Go.wp_at_zero Go.wp_at_succ
theorem ownsRow_since {w : World} {base base' k n : Nat} {e : TypeId} {v : Value} {xs : List Value} (h : w.ownsRow base e k v n xs) (hb : base' ≤ base) : w.ownsRow base' e k v n xs := by
  refine ⟨h.1, ?_⟩
  rcases h.2 with h | ⟨g, cap, cur, rfl, h1, r⟩
  · exact .inl h
  · exact .inr ⟨g, cap, cur, rfl, Nat.le_trans hb h1, r⟩
/-- A place that lies in w. -/
def PathL (w : World) (u : Value) (p : List Int) : Prop := PathAt w (fun b => b < w.heap.size) u p
theorem PathL.ext {w w' : World} {u : Value} {p : List Int} (h : PathL w u p) (he : Ext w w') : PathL w' u p := h.mono (fun b hb => Nat.lt_of_lt_of_le hb he.size) (fun b hb => he.heap b hb)
theorem ownsRow_pathL {w : World} {base : Nat} {e : TypeId} {v : Value} {p : List Int} (h : w.ownsRow base e 1 v p.length (p.map (Value.int .i64))) : PathL w v p := (ownsRow_path h).mono (fun b hb => hb.2.1) (fun _ _ => rfl)
theorem infoIntP : (Try.prog.info? 3).map (fun i => (i.zero, i.size, i.bytes)) = some (some (.int .i64 0), 1, 8) := by kernel_rfl
theorem Ext.ownsRow {w w' : World} {base n : Nat} {e : TypeId} {k : Nat} {v : Value} {xs : List Value} (he : Ext w w') (h : w.ownsRow base e k v n xs) : w'.ownsRow base e k v n xs := ownsRow_same1 h (fun g hg => he.heap g (h.lt g hg).2)
theorem GrowP.form {W w : World} {e : TypeId} {v : Value} {ps : List (List Int)} (h : GrowP W w e v ps) : ∃ B c, v = .slice B ps.length c := by
  obtain ⟨A, c, h1, -⟩ := h.slice
  exact ⟨A, c, h1⟩
end Go.Proofs.Ytdkamgafpphdjaa

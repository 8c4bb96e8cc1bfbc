/-
  Lemmas towards the law, 10: Redex, Grow2.
-/
import Derived.Test.YtappakllopkfiaaCAH
import Derived.Test.YtappakllopkfiaaCAI
namespace Go.Proofs.Ytappakllopkfiaa
open Go.RowKit
set_option linter.unusedVariables false
theorem kinds16 {k n : Int} {ks : List Tr} {d : Int} (h : shape sigT (.mk k n ks) d = true) : (opsT k = (ks.length : Int)) ∧ (k = 1 ∨ k = 2 ∨ k = 3 ∨ k = 4 ∨ k = 5 ∨ k = 6 ∨ k = 7 ∨ k = 8 ∨ k = 9 ∨ k = 10 ∨ k = 11 ∨ k = 12 ∨ k = 13 ∨ k = 14 ∨ k = 15 ∨ k = 16) := by
  obtain ⟨h1, h2, h3, h4⟩ := shape_kids h
  simp only [sigT] at h1
  have hr : 1 ≤ k ∧ k ≤ 16 := by
    by_cases h : 1 ≤ k ∧ k ≤ 16
    · exact h
    · exfalso
      unfold opsT at h1
      rw [if_neg (by omega), if_neg (by omega), if_neg (by omega), if_neg (by omega), if_neg (by omega), if_neg (by omega), if_neg (by omega), if_neg (by omega), if_neg (by omega), if_neg (by omega), if_neg (by omega), if_neg (by omega), if_neg (by omega), if_neg (by omega), if_neg (by omega), if_neg (by omega)] at h1
      omega
  exact ⟨h1, by omega⟩
theorem kd_of {ks : List Tr} {j : Nat} {t : Tr} (hj : j < ks.length) (h : ks[j] = t) : kd ks j = t := by
  unfold kd
  rw [List.getD_eq_getElem?_getD, List.getElem?_eq_getElem hj]
  exact h
set_option maxRecDepth 100000 in
set_option maxHeartbeats 1000000 in
theorem l3Redex_any (t : Tr) (d : Int) (hsh : shape sigT t d = true) (w : World) (v : Value) (hin : Lies w t v) : Calls Try.prog 106 #[v] w fun e w' => e = .returned (.int .i64 (rdxT t)) ∧ Ext w w' := by
  obtain ⟨k, n, ks⟩ := t
  obtain ⟨A, cap, rfl, hl, hc, hK⟩ := Lies.mk_iff.1 hin
  obtain ⟨hops, hk⟩ := kinds16 hsh
  unfold maxLen at hc
  clear hsh hin
  rcases hk with rfl | rfl | rfl | rfl | rfl | rfl | rfl | rfl | rfl | rfl | rfl | rfl | rfl | rfl | rfl | rfl
  · rw [show rdxT (.mk 1 n ks) = 0 from rfl]
    clear hops hK
    go_enter Try.func106, Try.ntmps106
    go_wp2_with fail
    go_ret
    exact ⟨rfl, (Ext.refl _).alloc _⟩
  · rw [show rdxT (.mk 2 n ks) = 0 from rfl]
    clear hops hK
    go_enter Try.func106, Try.ntmps106
    go_wp2_with fail
    go_ret
    exact ⟨rfl, (Ext.refl _).alloc _⟩
  · rw [show rdxT (.mk 3 n ks) = 0 from rfl]
    clear hops hK
    go_enter Try.func106, Try.ntmps106
    go_wp2_with fail
    go_ret
    exact ⟨rfl, (Ext.refl _).alloc _⟩
  · rw [show rdxT (.mk 4 n ks) = 0 from rfl]
    clear hops hK
    go_enter Try.func106, Try.ntmps106
    go_wp2_with fail
    go_ret
    exact ⟨rfl, (Ext.refl _).alloc _⟩
  · have hlen : ks.length = 2 := by have : (2 : Int) = (ks.length : Int) := hops; omega
    have hlt : (0 : Int) < (ks.length : Int) := by omega
    obtain ⟨b, o, k', n', A', cap', kids, rfl, hid, c0, c1, c2, -, -, -, -, -⟩ := hK.get ((Ext.refl w).alloc (.cells #[.int .i64 5, .int .i64 n, .slice A ks.length cap] 44)) (j := 0) (by omega)
    simp only [Nat.zero_mul, Nat.add_zero] at c0
    clear c1 c2
    have hkd : kd ks 0 = .mk k' n' kids := kd_of (by omega) hid.out
    have hR : rdxT (.mk 5 n ks) = if k' = 4 then 1 else 0 := by show rdx 5 ks = _; unfold rdx; rw [hkd]; rfl
    rw [hR]
    clear hR hkd hid hops hK hlen
    by_cases e4 : k' = 4
    · subst e4
      rw [if_pos rfl]
      go_enter Try.func106, Try.ntmps106
      go_wp2_with fail
      go_ret
      exact ⟨rfl, (Ext.refl _).alloc _⟩
    have d4 : (k' == 4) = false := beq_eq_false_iff_ne.2 e4
    rw [if_neg e4]
    go_enter Try.func106, Try.ntmps106
    go_wp2_with fail
    go_ret
    exact ⟨rfl, (Ext.refl _).alloc _⟩
  · rw [show rdxT (.mk 6 n ks) = 0 from rfl]
    clear hops hK
    go_enter Try.func106, Try.ntmps106
    go_wp2_with fail
    go_ret
    exact ⟨rfl, (Ext.refl _).alloc _⟩
  · rw [show rdxT (.mk 7 n ks) = 0 from rfl]
    clear hops hK
    go_enter Try.func106, Try.ntmps106
    go_wp2_with fail
    go_ret
    exact ⟨rfl, (Ext.refl _).alloc _⟩
  · rw [show rdxT (.mk 8 n ks) = 0 from rfl]
    clear hops hK
    go_enter Try.func106, Try.ntmps106
    go_wp2_with fail
    go_ret
    exact ⟨rfl, (Ext.refl _).alloc _⟩
  · have hlen : ks.length = 4 := by have : (4 : Int) = (ks.length : Int) := hops; omega
    have hlt : (3 : Int) < (ks.length : Int) := by omega
    obtain ⟨b, o, k', n', A', cap', kids, rfl, hid, c0, c1, c2, -, -, -, -, -⟩ := hK.get ((Ext.refl w).alloc (.cells #[.int .i64 9, .int .i64 n, .slice A ks.length cap] 44)) (j := 3) (by omega)
    simp only [Nat.reduceMul] at c0
    clear c1 c2
    have hkd : kd ks 3 = .mk k' n' kids := kd_of (by omega) hid.out
    have hR : rdxT (.mk 9 n ks) = if k' = 7 then 2 else if k' = 8 then 3 else 0 := by show rdx 9 ks = _; unfold rdx; rw [hkd]; rfl
    rw [hR]
    clear hR hkd hid hops hK hlen
    by_cases e7 : k' = 7
    · subst e7
      rw [if_pos rfl]
      go_enter Try.func106, Try.ntmps106
      go_wp2_with fail
      go_ret
      exact ⟨rfl, (Ext.refl _).alloc _⟩
    by_cases e8 : k' = 8
    · subst e8
      rw [if_neg (by decide), if_pos rfl]
      go_enter Try.func106, Try.ntmps106
      go_wp2_with fail
      go_ret
      exact ⟨rfl, (Ext.refl _).alloc _⟩
    have d7 : (k' == 7) = false := beq_eq_false_iff_ne.2 e7
    have d8 : (k' == 8) = false := beq_eq_false_iff_ne.2 e8
    rw [if_neg e7, if_neg e8]
    go_enter Try.func106, Try.ntmps106
    go_wp2_with fail
    go_ret
    exact ⟨rfl, (Ext.refl _).alloc _⟩
  · rw [show rdxT (.mk 10 n ks) = 0 from rfl]
    clear hops hK
    go_enter Try.func106, Try.ntmps106
    go_wp2_with fail
    go_ret
    exact ⟨rfl, (Ext.refl _).alloc _⟩
  · rw [show rdxT (.mk 11 n ks) = 0 from rfl]
    clear hops hK
    go_enter Try.func106, Try.ntmps106
    go_wp2_with fail
    go_ret
    exact ⟨rfl, (Ext.refl _).alloc _⟩
  · have hlen : ks.length = 3 := by have : (3 : Int) = (ks.length : Int) := hops; omega
    have hlt : (1 : Int) < (ks.length : Int) := by omega
    obtain ⟨b, o, k', n', A', cap', kids, rfl, hid, c0, c1, c2, -, -, -, -, -⟩ := hK.get ((Ext.refl w).alloc (.cells #[.int .i64 12, .int .i64 n, .slice A ks.length cap] 44)) (j := 1) (by omega)
    simp only [Nat.reduceMul] at c0
    clear c1 c2
    have hkd : kd ks 1 = .mk k' n' kids := kd_of (by omega) hid.out
    have hR : rdxT (.mk 12 n ks) = if k' = 11 then 4 else 0 := by show rdx 12 ks = _; unfold rdx; rw [hkd]; rfl
    rw [hR]
    clear hR hkd hid hops hK hlen
    by_cases e11 : k' = 11
    · subst e11
      rw [if_pos rfl]
      go_enter Try.func106, Try.ntmps106
      go_wp2_with fail
      go_ret
      exact ⟨rfl, (Ext.refl _).alloc _⟩
    have d11 : (k' == 11) = false := beq_eq_false_iff_ne.2 e11
    rw [if_neg e11]
    go_enter Try.func106, Try.ntmps106
    go_wp2_with fail
    go_ret
    exact ⟨rfl, (Ext.refl _).alloc _⟩
  · rw [show rdxT (.mk 13 n ks) = 0 from rfl]
    clear hops hK
    go_enter Try.func106, Try.ntmps106
    go_wp2_with fail
    go_ret
    exact ⟨rfl, (Ext.refl _).alloc _⟩
  · rw [show rdxT (.mk 14 n ks) = 0 from rfl]
    clear hops hK
    go_enter Try.func106, Try.ntmps106
    go_wp2_with fail
    go_ret
    exact ⟨rfl, (Ext.refl _).alloc _⟩
  · have hlen : ks.length = 1 := by have : (1 : Int) = (ks.length : Int) := hops; omega
    have hlt : (0 : Int) < (ks.length : Int) := by omega
    obtain ⟨b, o, k', n', A', cap', kids, rfl, hid, c0, c1, c2, -, -, -, -, -⟩ := hK.get ((Ext.refl w).alloc (.cells #[.int .i64 15, .int .i64 n, .slice A ks.length cap] 44)) (j := 0) (by omega)
    simp only [Nat.zero_mul, Nat.add_zero] at c0
    clear c1 c2
    have hkd : kd ks 0 = .mk k' n' kids := kd_of (by omega) hid.out
    have hR : rdxT (.mk 15 n ks) = if k' = 14 then 5 else 0 := by show rdx 15 ks = _; unfold rdx; rw [hkd]; rfl
    rw [hR]
    clear hR hkd hid hops hK hlen
    by_cases e14 : k' = 14
    · subst e14
      rw [if_pos rfl]
      go_enter Try.func106, Try.ntmps106
      go_wp2_with fail
      go_ret
      exact ⟨rfl, (Ext.refl _).alloc _⟩
    have d14 : (k' == 14) = false := beq_eq_false_iff_ne.2 e14
    rw [if_neg e14]
    go_enter Try.func106, Try.ntmps106
    go_wp2_with fail
    go_ret
    exact ⟨rfl, (Ext.refl _).alloc _⟩
  · have hlen : ks.length = 1 := by have : (1 : Int) = (ks.length : Int) := hops; omega
    have hlt : (0 : Int) < (ks.length : Int) := by omega
    obtain ⟨b, o, k', n', A', cap', kids, rfl, hid, c0, c1, c2, -, -, -, -, -⟩ := hK.get ((Ext.refl w).alloc (.cells #[.int .i64 16, .int .i64 n, .slice A ks.length cap] 44)) (j := 0) (by omega)
    simp only [Nat.zero_mul, Nat.add_zero] at c0
    clear c1 c2
    have hkd : kd ks 0 = .mk k' n' kids := kd_of (by omega) hid.out
    have hR : rdxT (.mk 16 n ks) = if k' = 14 then 6 else 0 := by show rdx 16 ks = _; unfold rdx; rw [hkd]; rfl
    rw [hR]
    clear hR hkd hid hops hK hlen
    by_cases e14 : k' = 14
    · subst e14
      rw [if_pos rfl]
      go_enter Try.func106, Try.ntmps106
      go_wp2_with fail
      go_ret
      exact ⟨rfl, (Ext.refl _).alloc _⟩
    have d14 : (k' == 14) = false := beq_eq_false_iff_ne.2 e14
    rw [if_neg e14]
    go_enter Try.func106, Try.ntmps106
    go_wp2_with fail
    go_ret
    exact ⟨rfl, (Ext.refl _).alloc _⟩
end Go.Proofs.Ytappakllopkfiaa
namespace Go.Proofs.Ytappakllopkfiaa
open Go.RowKit
set_option linter.unusedVariables false
theorem Grow.only {W w w' : World} {e : TypeId} {v : Value} {ks : List Tr} {L : List Nat} (h : Grow W w e v ks) (ho : Only L w w') (hL : ∀ b, b ∈ L → b < W.heap.size) : Grow W w' e v ks :=
  h.same ho.size (fun b hb hlt => ho.block b hlt (fun hm => by have := hL b hm; omega))
theorem Only.below {L : List Nat} {a w w' : World} {B : Nat} (h : Only L a w) (hb : Below B w w') (hB : a.heap.size ≤ B) : Only L a w' :=
  ⟨hb.os.trans h.os, hb.tape.trans h.tape, hb.output.trans h.output, Nat.le_trans h.size hb.size, fun i hi hn => (hb.block i (by omega)).trans (h.block i hi hn)⟩
end Go.Proofs.Ytappakllopkfiaa

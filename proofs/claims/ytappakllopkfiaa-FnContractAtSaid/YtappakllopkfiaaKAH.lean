/-
  Lemmas towards the law, 8: Plc, Redex.
-/
import Derived.Test.YtappakllopkfiaaKAF
import Derived.Test.YtappakllopkfiaaKAG
namespace Go.Proofs.Ytappakllopkfiaa
set_option linter.unusedVariables false
mutual
/-- The places of the nodes that p holds of, each behind the place q of the tree. -/
def plc (p : Tr → Bool) : Tr → List Int → List (List Int)
  | .mk k n ks, q => (if p (.mk k n ks) = true then [q] else []) ++ plcs p 0 ks q
def plcs (p : Tr → Bool) : Nat → List Tr → List Int → List (List Int)
  | _, [], _ => []
  | i, t :: ts, q => plc p t (q ++ [(i : Int)]) ++ plcs p (i + 1) ts q
end
mutual
/-- How many nodes p holds of. -/
def cntP (p : Tr → Bool) : Tr → Nat
  | .mk k n ks => (if p (.mk k n ks) = true then 1 else 0) + cntsP p ks
def cntsP (p : Tr → Bool) : List Tr → Nat
  | [] => 0
  | t :: ts => cntP p t + cntsP p ts
end
mutual
theorem plc_len (p : Tr → Bool) : ∀ (t : Tr) (q : List Int), (plc p t q).length = cntP p t
  | .mk k n ks, q => by
    rw [plc, cntP, List.length_append, plcs_len p ks 0 q]
    split <;> simp
theorem plcs_len (p : Tr → Bool) : ∀ (ks : List Tr) (i : Nat) (q : List Int), (plcs p i ks q).length = cntsP p ks
  | [], i, q => by rw [plcs, cntsP]; rfl
  | t :: ts, i, q => by rw [plcs, cntsP, List.length_append, plc_len p t _, plcs_len p ts _ q]
end
mutual
theorem cntP_le (p : Tr → Bool) : ∀ t : Tr, cntP p t ≤ cnt t
  | .mk k n ks => by
    rw [cntP, cnt]
    have := cntsP_le p ks
    split <;> omega
theorem cntsP_le (p : Tr → Bool) : ∀ ks : List Tr, cntsP p ks ≤ cnts ks
  | [] => by rw [cntsP, cnts]; exact Nat.le_refl _
  | t :: ts => by
    rw [cntsP, cnts]
    have := cntP_le p t
    have := cntsP_le p ts
    omega
end
/-- Is this node a redex? -/
def isRdx (t : Tr) : Bool := rdxT t != 0
/-- The part of a tree at a place. -/
def atT : Tr → List Int → Option Tr
  | t, [] => some t
  | .mk _ _ ks, i :: r => if 0 ≤ i ∧ i < ks.length then atT (kd ks i.toNat) r else none
/-- The first operands of the binders above a place. -/
def bndT : Tr → List Int → List Tr
  | _, [] => []
  | .mk k _ ks, i :: r => if 0 ≤ i ∧ i < ks.length then (if 0 < und k i.toNat then [kd ks 0] else []) ++ bndT (kd ks i.toNat) r else []
theorem kd_cons (t : Tr) (ts : List Tr) (i : Nat) : kd (t :: ts) (i + 1) = kd ts i := rfl
theorem kd_mem {ks : List Tr} {i : Nat} (h : i < ks.length) : kd ks i ∈ ks := by
  unfold kd
  rw [List.getD_eq_getElem?_getD, List.getElem?_eq_getElem h]
  exact List.getElem_mem h
mutual
theorem plc_at (p : Tr → Bool) : ∀ (t : Tr) (q : List Int) (x : List Int), x ∈ plc p t q → ∃ r u, x = q ++ r ∧ atT t r = some u ∧ p u = true
  | .mk k n ks, q, x, h => by
    rw [plc] at h
    rcases List.mem_append.1 h with h | h
    · by_cases hp : p (.mk k n ks) = true
      · rw [if_pos hp] at h
        exact ⟨[], .mk k n ks, by simpa using h, rfl, hp⟩
      · rw [if_neg hp] at h
        cases h
    · obtain ⟨j, r, u, h1, h2, h3, h4⟩ := plcs_at p ks 0 q x h
      refine ⟨((j : Nat) : Int) :: r, u, by simpa using h2, ?_, h4⟩
      rw [atT, if_pos ⟨by omega, by omega⟩]
      simpa using h3
theorem plcs_at (p : Tr → Bool) : ∀ (ks : List Tr) (i : Nat) (q : List Int) (x : List Int), x ∈ plcs p i ks q → ∃ (j : Nat) (r : List Int) (u : Tr), j < ks.length ∧ x = q ++ ((i + j : Nat) : Int) :: r ∧ atT (kd ks j) r = some u ∧ p u = true
  | [], i, q, x, h => by rw [plcs] at h; cases h
  | t :: ts, i, q, x, h => by
    rw [plcs] at h
    rcases List.mem_append.1 h with h | h
    · obtain ⟨r, u, h1, h2, h3⟩ := plc_at p t _ x h
      exact ⟨0, r, u, by simp, by simpa using h1, h2, h3⟩
    · obtain ⟨j, r, u, h1, h2, h3, h4⟩ := plcs_at p ts (i + 1) q x h
      refine ⟨j + 1, r, u, by simpa using h1, ?_, h3, h4⟩
      rw [h2, show i + 1 + j = i + (j + 1) by omega]
end
/-- Each step keeps the shape. -/
theorem atT_shape {g : Sig} : ∀ (a : List Int) (t u : Tr) (d : Int), shape g t d = true → atT t a = some u → shape g u (d - a.length) = true
  | [], t, u, d, h, e => by
    have e : t = u := by cases t; simpa [atT] using e
    subst e
    simpa using h
  | i :: a, .mk k n ks, u, d, h, e => by
    rw [atT] at e
    split at e
    · rename_i hi
      have h1 := (shape_kids h).2.2.2 (kd ks i.toNat) (kd_mem (by omega))
      have := atT_shape a _ u (d - 1) h1 e
      rw [List.length_cons, show d - ((a.length + 1 : Nat) : Int) = d - 1 - a.length by omega]
      exact this
    · cases e
theorem shape_pos' {g : Sig} {t : Tr} {d : Int} (h : shape g t d = true) : 1 ≤ d := by
  obtain ⟨k, n, ks⟩ := t
  simp only [shape, Bool.and_eq_true, decide_eq_true_eq] at h
  exact h.1
mutual
def outT : Tr → Option (List Int)
  | .mk k n ks => if rdx k ks = 0 then outTs 0 ks else some []
def outTs : Nat → List Tr → Option (List Int)
  | _, [] => none
  | i, t :: ts => match outT t with
    | some p => some ((i : Int) :: p)
    | none => outTs (i + 1) ts
end
mutual
theorem outT_nrm : ∀ t : Tr, (outT t).isSome = !nrm t
  | .mk k n ks => by
    rw [outT, nrm]
    by_cases h : rdx k ks = 0
    · rw [if_pos h, outTs_nrm ks 0]
      simp [h]
    · rw [if_neg h]
      simp [h]
theorem outTs_nrm : ∀ (ks : List Tr) (i : Nat), (outTs i ks).isSome = !nrms ks
  | [], i => by rw [outTs, nrms]; rfl
  | t :: ts, i => by
    have h := outT_nrm t
    rw [outTs, nrms]
    cases e : outT t with
    | some p => rw [e] at h; simp at h; simp [h]
    | none => rw [e] at h; simp at h; simp [h, outTs_nrm ts (i + 1)]
end
theorem outT_len : ∀ (t : Tr) (d : Int), shape sigT t d = true → ∀ p, outT t = some p → (p.length : Int) ≤ d := Tr.ind fun k n ks hk => by
  intro d h p e
  have hd := shape_pos' h
  rw [outT] at e
  split at e
  · have key : ∀ (i : Nat) (ts : List Tr), (∀ t ∈ ts, t ∈ ks) → outTs i ts = some p → (p.length : Int) ≤ d := by
      intro i ts
      induction ts generalizing i with
      | nil => intro _ h; rw [outTs] at h; cases h
      | cons t ts ih =>
        intro hm h1
        rw [outTs] at h1
        cases e2 : outT t with
        | some q =>
          rw [e2] at h1
          simp only [Option.some.injEq] at h1
          subst h1
          have := hk t (hm t (by simp)) (d - 1) ((shape_kids h).2.2.2 t (hm t (by simp))) q e2
          simp only [List.length_cons]
          omega
        | none =>
          rw [e2] at h1
          exact ih (i + 1) (fun t ht => hm t (by simp [ht])) h1
    exact key 0 ks (fun _ h => h) e
  · simp only [Option.some.injEq] at e
    subst e
    simp
    omega
end Go.Proofs.Ytappakllopkfiaa
namespace Go.Proofs.Ytappakllopkfiaa
open Go.RowKit
set_option linter.unusedVariables false
theorem kinds16 {k n : Int} {ks : List Tr} {d : Int} (h : shape sigT (.mk k n ks) d = true) : (opsT k = (ks.length : Int)) ∧ (k = 1 ∨ k = 2 ∨ k = 3 ∨ k = 4 ∨ k = 5 ∨ k = 6 ∨ k = 7 ∨ k = 8 ∨ k = 9 ∨ k = 10 ∨ k = 11 ∨ k = 12 ∨ k = 13 ∨ k = 14 ∨ k = 15 ∨ k = 16) := by
  obtain ⟨h1, h2, h3, h4⟩ := shape_kids h
  simp only [sigT] at h1
  have hr : 1 ≤ k ∧ k ≤ 16 := by
    by_cases h : 1 ≤ k ∧ k ≤ 16
    · exact h
    · exfalso
      unfold opsT at h1
      rw [if_neg (by omega), if_neg (by omega), if_neg (by omega), if_neg (by omega), if_neg (by omega), if_neg (by omega), if_neg (by omega), if_neg (by omega), if_neg (by omega), if_neg (by omega), if_neg (by omega), if_neg (by omega), if_neg (by omega), if_neg (by omega), if_neg (by omega), if_neg (by omega)] at h1
      omega
  exact ⟨h1, by omega⟩
theorem kd_of {ks : List Tr} {j : Nat} {t : Tr} (hj : j < ks.length) (h : ks[j] = t) : kd ks j = t := by
  unfold kd
  rw [List.getD_eq_getElem?_getD, List.getElem?_eq_getElem hj]
  exact h
set_option maxRecDepth 100000 in
set_option maxHeartbeats 1000000 in
theorem redex_any (t : Tr) (d : Int) (hsh : shape sigT t d = true) (w : World) (v : Value) (hin : Lies w t v) : Calls Try.prog 88 #[v] w fun e w' => e = .returned (.int .i64 (rdxT t)) ∧ Ext w w' := by
  obtain ⟨k, n, ks⟩ := t
  obtain ⟨A, cap, rfl, hl, hc, hK⟩ := Lies.mk_iff.1 hin
  obtain ⟨hops, hk⟩ := kinds16 hsh
  unfold maxLen at hc
  clear hsh hin
  rcases hk with rfl | rfl | rfl | rfl | rfl | rfl | rfl | rfl | rfl | rfl | rfl | rfl | rfl | rfl | rfl | rfl
  · rw [show rdxT (.mk 1 n ks) = 0 from rfl]
    clear hops hK
    go_enter Try.func88, Try.ntmps88
    go_wp2_with fail
    go_ret
    exact ⟨rfl, (Ext.refl _).alloc _⟩
  · rw [show rdxT (.mk 2 n ks) = 0 from rfl]
    clear hops hK
    go_enter Try.func88, Try.ntmps88
    go_wp2_with fail
    go_ret
    exact ⟨rfl, (Ext.refl _).alloc _⟩
  · rw [show rdxT (.mk 3 n ks) = 0 from rfl]
    clear hops hK
    go_enter Try.func88, Try.ntmps88
    go_wp2_with fail
    go_ret
    exact ⟨rfl, (Ext.refl _).alloc _⟩
  · rw [show rdxT (.mk 4 n ks) = 0 from rfl]
    clear hops hK
    go_enter Try.func88, Try.ntmps88
    go_wp2_with fail
    go_ret
    exact ⟨rfl, (Ext.refl _).alloc _⟩
  · have hlen : ks.length = 2 := by have : (2 : Int) = (ks.length : Int) := hops; omega
    have hlt : (0 : Int) < (ks.length : Int) := by omega
    obtain ⟨b, o, k', n', A', cap', kids, rfl, hid, c0, c1, c2, -, -, -, -, -⟩ := hK.get ((Ext.refl w).alloc (.cells #[.int .i64 5, .int .i64 n, .slice A ks.length cap] 44)) (j := 0) (by omega)
    simp only [Nat.zero_mul, Nat.add_zero] at c0
    clear c1 c2
    have hkd : kd ks 0 = .mk k' n' kids := kd_of (by omega) hid.out
    have hR : rdxT (.mk 5 n ks) = if k' = 4 then 1 else 0 := by show rdx 5 ks = _; unfold rdx; rw [hkd]; rfl
    rw [hR]
    clear hR hkd hid hops hK hlen
    by_cases e4 : k' = 4
    · subst e4
      rw [if_pos rfl]
      go_enter Try.func88, Try.ntmps88
      go_wp2_with fail
      go_ret
      exact ⟨rfl, (Ext.refl _).alloc _⟩
    have d4 : (k' == 4) = false := beq_eq_false_iff_ne.2 e4
    rw [if_neg e4]
    go_enter Try.func88, Try.ntmps88
    go_wp2_with fail
    go_ret
    exact ⟨rfl, (Ext.refl _).alloc _⟩
  · rw [show rdxT (.mk 6 n ks) = 0 from rfl]
    clear hops hK
    go_enter Try.func88, Try.ntmps88
    go_wp2_with fail
    go_ret
    exact ⟨rfl, (Ext.refl _).alloc _⟩
  · rw [show rdxT (.mk 7 n ks) = 0 from rfl]
    clear hops hK
    go_enter Try.func88, Try.ntmps88
    go_wp2_with fail
    go_ret
    exact ⟨rfl, (Ext.refl _).alloc _⟩
  · rw [show rdxT (.mk 8 n ks) = 0 from rfl]
    clear hops hK
    go_enter Try.func88, Try.ntmps88
    go_wp2_with fail
    go_ret
    exact ⟨rfl, (Ext.refl _).alloc _⟩
  · have hlen : ks.length = 4 := by have : (4 : Int) = (ks.length : Int) := hops; omega
    have hlt : (3 : Int) < (ks.length : Int) := by omega
    obtain ⟨b, o, k', n', A', cap', kids, rfl, hid, c0, c1, c2, -, -, -, -, -⟩ := hK.get ((Ext.refl w).alloc (.cells #[.int .i64 9, .int .i64 n, .slice A ks.length cap] 44)) (j := 3) (by omega)
    simp only [Nat.reduceMul] at c0
    clear c1 c2
    have hkd : kd ks 3 = .mk k' n' kids := kd_of (by omega) hid.out
    have hR : rdxT (.mk 9 n ks) = if k' = 7 then 2 else if k' = 8 then 3 else 0 := by show rdx 9 ks = _; unfold rdx; rw [hkd]; rfl
    rw [hR]
    clear hR hkd hid hops hK hlen
    by_cases e7 : k' = 7
    · subst e7
      rw [if_pos rfl]
      go_enter Try.func88, Try.ntmps88
      go_wp2_with fail
      go_ret
      exact ⟨rfl, (Ext.refl _).alloc _⟩
    by_cases e8 : k' = 8
    · subst e8
      rw [if_neg (by decide), if_pos rfl]
      go_enter Try.func88, Try.ntmps88
      go_wp2_with fail
      go_ret
      exact ⟨rfl, (Ext.refl _).alloc _⟩
    have d7 : (k' == 7) = false := beq_eq_false_iff_ne.2 e7
    have d8 : (k' == 8) = false := beq_eq_false_iff_ne.2 e8
    rw [if_neg e7, if_neg e8]
    go_enter Try.func88, Try.ntmps88
    go_wp2_with fail
    go_ret
    exact ⟨rfl, (Ext.refl _).alloc _⟩
  · rw [show rdxT (.mk 10 n ks) = 0 from rfl]
    clear hops hK
    go_enter Try.func88, Try.ntmps88
    go_wp2_with fail
    go_ret
    exact ⟨rfl, (Ext.refl _).alloc _⟩
  · rw [show rdxT (.mk 11 n ks) = 0 from rfl]
    clear hops hK
    go_enter Try.func88, Try.ntmps88
    go_wp2_with fail
    go_ret
    exact ⟨rfl, (Ext.refl _).alloc _⟩
  · have hlen : ks.length = 3 := by have : (3 : Int) = (ks.length : Int) := hops; omega
    have hlt : (1 : Int) < (ks.length : Int) := by omega
    obtain ⟨b, o, k', n', A', cap', kids, rfl, hid, c0, c1, c2, -, -, -, -, -⟩ := hK.get ((Ext.refl w).alloc (.cells #[.int .i64 12, .int .i64 n, .slice A ks.length cap] 44)) (j := 1) (by omega)
    simp only [Nat.reduceMul] at c0
    clear c1 c2
    have hkd : kd ks 1 = .mk k' n' kids := kd_of (by omega) hid.out
    have hR : rdxT (.mk 12 n ks) = if k' = 11 then 4 else 0 := by show rdx 12 ks = _; unfold rdx; rw [hkd]; rfl
    rw [hR]
    clear hR hkd hid hops hK hlen
    by_cases e11 : k' = 11
    · subst e11
      rw [if_pos rfl]
      go_enter Try.func88, Try.ntmps88
      go_wp2_with fail
      go_ret
      exact ⟨rfl, (Ext.refl _).alloc _⟩
    have d11 : (k' == 11) = false := beq_eq_false_iff_ne.2 e11
    rw [if_neg e11]
    go_enter Try.func88, Try.ntmps88
    go_wp2_with fail
    go_ret
    exact ⟨rfl, (Ext.refl _).alloc _⟩
  · rw [show rdxT (.mk 13 n ks) = 0 from rfl]
    clear hops hK
    go_enter Try.func88, Try.ntmps88
    go_wp2_with fail
    go_ret
    exact ⟨rfl, (Ext.refl _).alloc _⟩
  · rw [show rdxT (.mk 14 n ks) = 0 from rfl]
    clear hops hK
    go_enter Try.func88, Try.ntmps88
    go_wp2_with fail
    go_ret
    exact ⟨rfl, (Ext.refl _).alloc _⟩
  · have hlen : ks.length = 1 := by have : (1 : Int) = (ks.length : Int) := hops; omega
    have hlt : (0 : Int) < (ks.length : Int) := by omega
    obtain ⟨b, o, k', n', A', cap', kids, rfl, hid, c0, c1, c2, -, -, -, -, -⟩ := hK.get ((Ext.refl w).alloc (.cells #[.int .i64 15, .int .i64 n, .slice A ks.length cap] 44)) (j := 0) (by omega)
    simp only [Nat.zero_mul, Nat.add_zero] at c0
    clear c1 c2
    have hkd : kd ks 0 = .mk k' n' kids := kd_of (by omega) hid.out
    have hR : rdxT (.mk 15 n ks) = if k' = 14 then 5 else 0 := by show rdx 15 ks = _; unfold rdx; rw [hkd]; rfl
    rw [hR]
    clear hR hkd hid hops hK hlen
    by_cases e14 : k' = 14
    · subst e14
      rw [if_pos rfl]
      go_enter Try.func88, Try.ntmps88
      go_wp2_with fail
      go_ret
      exact ⟨rfl, (Ext.refl _).alloc _⟩
    have d14 : (k' == 14) = false := beq_eq_false_iff_ne.2 e14
    rw [if_neg e14]
    go_enter Try.func88, Try.ntmps88
    go_wp2_with fail
    go_ret
    exact ⟨rfl, (Ext.refl _).alloc _⟩
  · have hlen : ks.length = 1 := by have : (1 : Int) = (ks.length : Int) := hops; omega
    have hlt : (0 : Int) < (ks.length : Int) := by omega
    obtain ⟨b, o, k', n', A', cap', kids, rfl, hid, c0, c1, c2, -, -, -, -, -⟩ := hK.get ((Ext.refl w).alloc (.cells #[.int .i64 16, .int .i64 n, .slice A ks.length cap] 44)) (j := 0) (by omega)
    simp only [Nat.zero_mul, Nat.add_zero] at c0
    clear c1 c2
    have hkd : kd ks 0 = .mk k' n' kids := kd_of (by omega) hid.out
    have hR : rdxT (.mk 16 n ks) = if k' = 14 then 6 else 0 := by show rdx 16 ks = _; unfold rdx; rw [hkd]; rfl
    rw [hR]
    clear hR hkd hid hops hK hlen
    by_cases e14 : k' = 14
    · subst e14
      rw [if_pos rfl]
      go_enter Try.func88, Try.ntmps88
      go_wp2_with fail
      go_ret
      exact ⟨rfl, (Ext.refl _).alloc _⟩
    have d14 : (k' == 14) = false := beq_eq_false_iff_ne.2 e14
    rw [if_neg e14]
    go_enter Try.func88, Try.ntmps88
    go_wp2_with fail
    go_ret
    exact ⟨rfl, (Ext.refl _).alloc _⟩
set_option maxRecDepth 100000 in
set_option maxHeartbeats 1000000 in
theorem l3Redex_any (t : Tr) (d : Int) (hsh : shape sigT t d = true) (w : World) (v : Value) (hin : Lies w t v) : Calls Try.prog 106 #[v] w fun e w' => e = .returned (.int .i64 (rdxT t)) ∧ Ext w w' := by
  obtain ⟨k, n, ks⟩ := t
  obtain ⟨A, cap, rfl, hl, hc, hK⟩ := Lies.mk_iff.1 hin
  obtain ⟨hops, hk⟩ := kinds16 hsh
  unfold maxLen at hc
  clear hsh hin
  rcases hk with rfl | rfl | rfl | rfl | rfl | rfl | rfl | rfl | rfl | rfl | rfl | rfl | rfl | rfl | rfl | rfl
  · rw [show rdxT (.mk 1 n ks) = 0 from rfl]
    clear hops hK
    go_enter Try.func106, Try.ntmps106
    go_wp2_with fail
    go_ret
    exact ⟨rfl, (Ext.refl _).alloc _⟩
  · rw [show rdxT (.mk 2 n ks) = 0 from rfl]
    clear hops hK
    go_enter Try.func106, Try.ntmps106
    go_wp2_with fail
    go_ret
    exact ⟨rfl, (Ext.refl _).alloc _⟩
  · rw [show rdxT (.mk 3 n ks) = 0 from rfl]
    clear hops hK
    go_enter Try.func106, Try.ntmps106
    go_wp2_with fail
    go_ret
    exact ⟨rfl, (Ext.refl _).alloc _⟩
  · rw [show rdxT (.mk 4 n ks) = 0 from rfl]
    clear hops hK
    go_enter Try.func106, Try.ntmps106
    go_wp2_with fail
    go_ret
    exact ⟨rfl, (Ext.refl _).alloc _⟩
  · have hlen : ks.length = 2 := by have : (2 : Int) = (ks.length : Int) := hops; omega
    have hlt : (0 : Int) < (ks.length : Int) := by omega
    obtain ⟨b, o, k', n', A', cap', kids, rfl, hid, c0, c1, c2, -, -, -, -, -⟩ := hK.get ((Ext.refl w).alloc (.cells #[.int .i64 5, .int .i64 n, .slice A ks.length cap] 44)) (j := 0) (by omega)
    simp only [Nat.zero_mul, Nat.add_zero] at c0
    clear c1 c2
    have hkd : kd ks 0 = .mk k' n' kids := kd_of (by omega) hid.out
    have hR : rdxT (.mk 5 n ks) = if k' = 4 then 1 else 0 := by show rdx 5 ks = _; unfold rdx; rw [hkd]; rfl
    rw [hR]
    clear hR hkd hid hops hK hlen
    by_cases e4 : k' = 4
    · subst e4
      rw [if_pos rfl]
      go_enter Try.func106, Try.ntmps106
      go_wp2_with fail
      go_ret
      exact ⟨rfl, (Ext.refl _).alloc _⟩
    have d4 : (k' == 4) = false := beq_eq_false_iff_ne.2 e4
    rw [if_neg e4]
    go_enter Try.func106, Try.ntmps106
    go_wp2_with fail
    go_ret
    exact ⟨rfl, (Ext.refl _).alloc _⟩
  · rw [show rdxT (.mk 6 n ks) = 0 from rfl]
    clear hops hK
    go_enter Try.func106, Try.ntmps106
    go_wp2_with fail
    go_ret
    exact ⟨rfl, (Ext.refl _).alloc _⟩
  · rw [show rdxT (.mk 7 n ks) = 0 from rfl]
    clear hops hK
    go_enter Try.func106, Try.ntmps106
    go_wp2_with fail
    go_ret
    exact ⟨rfl, (Ext.refl _).alloc _⟩
  · rw [show rdxT (.mk 8 n ks) = 0 from rfl]
    clear hops hK
    go_enter Try.func106, Try.ntmps106
    go_wp2_with fail
    go_ret
    exact ⟨rfl, (Ext.refl _).alloc _⟩
  · have hlen : ks.length = 4 := by have : (4 : Int) = (ks.length : Int) := hops; omega
    have hlt : (3 : Int) < (ks.length : Int) := by omega
    obtain ⟨b, o, k', n', A', cap', kids, rfl, hid, c0, c1, c2, -, -, -, -, -⟩ := hK.get ((Ext.refl w).alloc (.cells #[.int .i64 9, .int .i64 n, .slice A ks.length cap] 44)) (j := 3) (by omega)
    simp only [Nat.reduceMul] at c0
    clear c1 c2
    have hkd : kd ks 3 = .mk k' n' kids := kd_of (by omega) hid.out
    have hR : rdxT (.mk 9 n ks) = if k' = 7 then 2 else if k' = 8 then 3 else 0 := by show rdx 9 ks = _; unfold rdx; rw [hkd]; rfl
    rw [hR]
    clear hR hkd hid hops hK hlen
    by_cases e7 : k' = 7
    · subst e7
      rw [if_pos rfl]
      go_enter Try.func106, Try.ntmps106
      go_wp2_with fail
      go_ret
      exact ⟨rfl, (Ext.refl _).alloc _⟩
    by_cases e8 : k' = 8
    · subst e8
      rw [if_neg (by decide), if_pos rfl]
      go_enter Try.func106, Try.ntmps106
      go_wp2_with fail
      go_ret
      exact ⟨rfl, (Ext.refl _).alloc _⟩
    have d7 : (k' == 7) = false := beq_eq_false_iff_ne.2 e7
    have d8 : (k' == 8) = false := beq_eq_false_iff_ne.2 e8
    rw [if_neg e7, if_neg e8]
    go_enter Try.func106, Try.ntmps106
    go_wp2_with fail
    go_ret
    exact ⟨rfl, (Ext.refl _).alloc _⟩
  · rw [show rdxT (.mk 10 n ks) = 0 from rfl]
    clear hops hK
    go_enter Try.func106, Try.ntmps106
    go_wp2_with fail
    go_ret
    exact ⟨rfl, (Ext.refl _).alloc _⟩
  · rw [show rdxT (.mk 11 n ks) = 0 from rfl]
    clear hops hK
    go_enter Try.func106, Try.ntmps106
    go_wp2_with fail
    go_ret
    exact ⟨rfl, (Ext.refl _).alloc _⟩
  · have hlen : ks.length = 3 := by have : (3 : Int) = (ks.length : Int) := hops; omega
    have hlt : (1 : Int) < (ks.length : Int) := by omega
    obtain ⟨b, o, k', n', A', cap', kids, rfl, hid, c0, c1, c2, -, -, -, -, -⟩ := hK.get ((Ext.refl w).alloc (.cells #[.int .i64 12, .int .i64 n, .slice A ks.length cap] 44)) (j := 1) (by omega)
    simp only [Nat.reduceMul] at c0
    clear c1 c2
    have hkd : kd ks 1 = .mk k' n' kids := kd_of (by omega) hid.out
    have hR : rdxT (.mk 12 n ks) = if k' = 11 then 4 else 0 := by show rdx 12 ks = _; unfold rdx; rw [hkd]; rfl
    rw [hR]
    clear hR hkd hid hops hK hlen
    by_cases e11 : k' = 11
    · subst e11
      rw [if_pos rfl]
      go_enter Try.func106, Try.ntmps106
      go_wp2_with fail
      go_ret
      exact ⟨rfl, (Ext.refl _).alloc _⟩
    have d11 : (k' == 11) = false := beq_eq_false_iff_ne.2 e11
    rw [if_neg e11]
    go_enter Try.func106, Try.ntmps106
    go_wp2_with fail
    go_ret
    exact ⟨rfl, (Ext.refl _).alloc _⟩
  · rw [show rdxT (.mk 13 n ks) = 0 from rfl]
    clear hops hK
    go_enter Try.func106, Try.ntmps106
    go_wp2_with fail
    go_ret
    exact ⟨rfl, (Ext.refl _).alloc _⟩
  · rw [show rdxT (.mk 14 n ks) = 0 from rfl]
    clear hops hK
    go_enter Try.func106, Try.ntmps106
    go_wp2_with fail
    go_ret
    exact ⟨rfl, (Ext.refl _).alloc _⟩
  · have hlen : ks.length = 1 := by have : (1 : Int) = (ks.length : Int) := hops; omega
    have hlt : (0 : Int) < (ks.length : Int) := by omega
    obtain ⟨b, o, k', n', A', cap', kids, rfl, hid, c0, c1, c2, -, -, -, -, -⟩ := hK.get ((Ext.refl w).alloc (.cells #[.int .i64 15, .int .i64 n, .slice A ks.length cap] 44)) (j := 0) (by omega)
    simp only [Nat.zero_mul, Nat.add_zero] at c0
    clear c1 c2
    have hkd : kd ks 0 = .mk k' n' kids := kd_of (by omega) hid.out
    have hR : rdxT (.mk 15 n ks) = if k' = 14 then 5 else 0 := by show rdx 15 ks = _; unfold rdx; rw [hkd]; rfl
    rw [hR]
    clear hR hkd hid hops hK hlen
    by_cases e14 : k' = 14
    · subst e14
      rw [if_pos rfl]
      go_enter Try.func106, Try.ntmps106
      go_wp2_with fail
      go_ret
      exact ⟨rfl, (Ext.refl _).alloc _⟩
    have d14 : (k' == 14) = false := beq_eq_false_iff_ne.2 e14
    rw [if_neg e14]
    go_enter Try.func106, Try.ntmps106
    go_wp2_with fail
    go_ret
    exact ⟨rfl, (Ext.refl _).alloc _⟩
  · have hlen : ks.length = 1 := by have : (1 : Int) = (ks.length : Int) := hops; omega
    have hlt : (0 : Int) < (ks.length : Int) := by omega
    obtain ⟨b, o, k', n', A', cap', kids, rfl, hid, c0, c1, c2, -, -, -, -, -⟩ := hK.get ((Ext.refl w).alloc (.cells #[.int .i64 16, .int .i64 n, .slice A ks.length cap] 44)) (j := 0) (by omega)
    simp only [Nat.zero_mul, Nat.add_zero] at c0
    clear c1 c2
    have hkd : kd ks 0 = .mk k' n' kids := kd_of (by omega) hid.out
    have hR : rdxT (.mk 16 n ks) = if k' = 14 then 6 else 0 := by show rdx 16 ks = _; unfold rdx; rw [hkd]; rfl
    rw [hR]
    clear hR hkd hid hops hK hlen
    by_cases e14 : k' = 14
    · subst e14
      rw [if_pos rfl]
      go_enter Try.func106, Try.ntmps106
      go_wp2_with fail
      go_ret
      exact ⟨rfl, (Ext.refl _).alloc _⟩
    have d14 : (k' == 14) = false := beq_eq_false_iff_ne.2 e14
    rw [if_neg e14]
    go_enter Try.func106, Try.ntmps106
    go_wp2_with fail
    go_ret
    exact ⟨rfl, (Ext.refl _).alloc _⟩
end Go.Proofs.Ytappakllopkfiaa

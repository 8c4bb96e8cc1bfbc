/-
  Lemmas towards the law, 28: HeadP.
-/
import Derived.Test.YtdkamgafpphdjaaEBA
namespace Go.Proofs.Ytdkamgafpphdjaa
open Go.RowKit
set_option linter.unusedVariables false
mutual
/-- The way to the redex that the root needs, and whether there is one. -/
def hdW : Tr → List Int × Bool
  | .mk k n ks => if rdx k ks ≠ 0 then ([], true)
    else if k = 5 ∨ k = 15 ∨ k = 16 then (0 :: (hdWs ks 0).1, (hdWs ks 0).2)
    else if k = 9 then (3 :: (hdWs ks 3).1, (hdWs ks 3).2)
    else if k = 12 then (1 :: (hdWs ks 1).1, (hdWs ks 1).2) else ([], false)
def hdWs : List Tr → Nat → List Int × Bool
  | [], _ => ([], false)
  | t :: ts, 0 => hdW t
  | t :: ts, i + 1 => hdWs ts i
end
def hdQ (t : Tr) : Option (List Int) := if (hdW t).2 = true then some (hdW t).1 else none
theorem hdQ_some {t : Tr} {p : List Int} (h : hdQ t = some p) : hdW t = (p, true) := by
  unfold hdQ at h
  split at h
  · rename_i h1
    simp only [Option.some.injEq] at h
    rw [← h, ← h1]
  · cases h
theorem hdQ_none {t : Tr} (h : hdQ t = none) : (hdW t).2 = false := by
  unfold hdQ at h
  split at h
  · cases h
  · rename_i h1
    simpa using h1
theorem hdWs_kd : ∀ {ks : List Tr} {i : Nat}, i < ks.length → hdWs ks i = hdW (kd ks i)
  | t :: ts, 0, _ => by rw [hdWs]; rfl
  | t :: ts, i + 1, h => by rw [hdWs, kd_cons]; exact hdWs_kd (by simpa using h)
theorem hdWs_no : ∀ {ks : List Tr} {i : Nat}, ks.length ≤ i → (hdWs ks i).2 = false
  | [], _, _ => by rw [hdWs]
  | t :: ts, 0, h => by simp at h
  | t :: ts, i + 1, h => by rw [hdWs]; exact hdWs_no (by simpa using h)
theorem hdW_len : ∀ (t : Tr) (d : Int), shape sigT t d = true → ((hdW t).1.length : Int) ≤ d := Tr.ind fun k n ks hk => by
  intro d h
  have hd := shape_pos' h
  have key : ∀ i, ((hdWs ks i).1.length : Int) ≤ d - 1 := fun i => by
    by_cases hi : i < ks.length
    · rw [hdWs_kd hi]
      exact hk _ (kd_mem hi) (d - 1) ((shape_kids h).2.2.2 _ (kd_mem hi))
    · have : ∀ {ks : List Tr} {i : Nat}, ks.length ≤ i → (hdWs ks i).1 = [] := by
        intro ks
        induction ks with
        | nil => intro i _; rw [hdWs]
        | cons t ts ih =>
          intro i h
          cases i with
          | zero => simp at h
          | succ i => rw [hdWs]; exact ih (by simpa using h)
      rw [this (by omega)]
      simp
      omega
  rw [hdW]
  split
  · simp; omega
  · split
    · have := key 0; simp only [List.length_cons]; omega
    · split
      · have := key 3; simp only [List.length_cons]; omega
      · split
        · have := key 1; simp only [List.length_cons]; omega
        · simp; omega
theorem rdxA_cons {k n : Int} {ks : List Tr} {i : Nat} {p : List Int} (hi : i < ks.length) (h : rdxA (kd ks i) p = true) : rdxA (.mk k n ks) ((i : Int) :: p) = true := by
  unfold rdxA at *
  rw [show atT (.mk k n ks) ((i : Int) :: p) = atT (kd ks i) p by simp [atT, hi]]
  exact h
theorem conA_nil (t : Tr) : conA t [] = ctrT t := by
  cases t
  simp [conA, atT, putA]
theorem conA_cons {k n : Int} {ks : List Tr} {i : Nat} {p : List Int} (hi : i < ks.length) (h : rdxA (kd ks i) p = true) : conA (.mk k n ks) ((i : Int) :: p) = .mk k n (ks.set i (conA (kd ks i) p)) := by
  obtain ⟨u, h1, h2⟩ := rdxA_some h
  unfold conA
  rw [show atT (.mk k n ks) ((i : Int) :: p) = atT (kd ks i) p by simp [atT, hi], h1]
  simp [putA]
theorem hdW_at : ∀ (t : Tr) (p : List Int), hdW t = (p, true) → rdxA t p = true := Tr.ind fun k n ks hk => by
  intro p h
  have key : ∀ i, (hdWs ks i).2 = true → rdxA (.mk k n ks) ((i : Int) :: (hdWs ks i).1) = true := fun i hi => by
    by_cases hl : i < ks.length
    · rw [hdWs_kd hl] at hi ⊢
      exact rdxA_cons hl (hk _ (kd_mem hl) _ (by rw [← hi]))
    · rw [hdWs_no (by omega)] at hi
      cases hi
  rw [hdW] at h
  split at h
  · rename_i h0
    simp only [Prod.mk.injEq, and_true] at h
    subst h
    unfold rdxA
    rw [show atT (.mk k n ks) [] = some (.mk k n ks) by simp [atT]]
    exact isRdx_iff.2 h0
  · split at h
    · simp only [Prod.mk.injEq] at h
      rw [← h.1]
      exact key 0 h.2
    · split at h
      · simp only [Prod.mk.injEq] at h
        rw [← h.1]
        exact key 3 h.2
      · split at h
        · simp only [Prod.mk.injEq] at h
          rw [← h.1]
          exact key 1 h.2
        · simp at h
theorem hdQ_at (t : Tr) (p : List Int) (h : hdQ t = some p) : rdxA t p = true := hdW_at t p (hdQ_some h)
/-- Head steps of a valid term, at most so many. -/
def hnfC : Nat → Tr → Tr × Int
  | 0, t => match hdQ t with
    | none => (t, 0)
    | some _ => (dflt0, 1)
  | f + 1, t => match hdQ t with
    | none => (t, 0)
    | some p => if valid sigT (conA t p) = true then hnfC f (conA t p) else (dflt0, 2)
/-- HeadNormal's answer. -/
def hnfV (t : Tr) (f : Int) : Tr × Int := if (valid sigT t && inR f 0 200) = true then hnfC f.toNat t else (dflt0, 3)
theorem hnfC_none {x : Tr} (h : hdQ x = none) (f : Nat) : hnfC f x = (x, 0) := by
  cases f <;> (unfold hnfC; rw [h])
theorem hnfC_zero {x : Tr} {p : List Int} (h : hdQ x = some p) : hnfC 0 x = (dflt0, 1) := by
  unfold hnfC; rw [h]
theorem hnfC_no {x : Tr} {p : List Int} (h : hdQ x = some p) (hv : valid sigT (conA x p) = false) (f : Nat) : hnfC (f + 1) x = (dflt0, 2) := by
  rw [hnfC, h]
  simp only
  rw [if_neg (by rw [hv]; decide)]
theorem hnfC_go {x : Tr} {p : List Int} (h : hdQ x = some p) (hv : valid sigT (conA x p) = true) (f : Nat) : hnfC (f + 1) x = hnfC f (conA x p) := by
  rw [hnfC, h]
  simp only
  rw [if_pos hv]
theorem hnfC_reds : ∀ (f : Nat) (t x : Tr), valid sigT t = true → hnfC f t = (x, 0) → Reds t x ∧ hdQ x = none ∧ valid sigT x = true
  | 0, t, x, hv, h => by
    cases e : hdQ t with
    | none =>
      rw [hnfC_none e] at h
      cases h
      exact ⟨.refl _, e, hv⟩
    | some p => rw [hnfC_zero e] at h; cases h
  | f + 1, t, x, hv, h => by
    cases e : hdQ t with
    | none =>
      rw [hnfC_none e] at h
      cases h
      exact ⟨.refl _, e, hv⟩
    | some p =>
      by_cases hc : valid sigT (conA t p) = true
      · rw [hnfC_go e hc] at h
        obtain ⟨h1, h2⟩ := hnfC_reds f _ x hc h
        exact ⟨(Reds.one (con_par (hdQ_at t p e))).trans h1, h2⟩
      · rw [hnfC_no e (Bool.eq_false_iff.2 hc)] at h
        cases h
theorem hnfV_reds {t x : Tr} {f : Int} (h : hnfV t f = (x, 0)) : valid sigT t = true ∧ Reds t x ∧ hdQ x = none ∧ valid sigT x = true := by
  unfold hnfV at h
  split at h
  · rename_i hv
    rw [Bool.and_eq_true] at hv
    exact ⟨hv.1, hnfC_reds _ _ _ hv.1 h⟩
  · cases h
end Go.Proofs.Ytdkamgafpphdjaa

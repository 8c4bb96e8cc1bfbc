/-
  Places in trees: the plain form of places, TermAt, BindersAt.
-/
import Derived.Test.YtappakllopkfiaaPar
import Derived.Test.YtappakllopkfiaaExtract
namespace Go.Proofs.Ytappakllopkfiaa
set_option linter.unusedVariables false

mutual
/-- The places of the nodes that p holds of, each behind the place q of the tree. -/
def plc (p : Tr → Bool) : Tr → List Int → List (List Int)
  | .mk k n ks, q => (if p (.mk k n ks) = true then [q] else []) ++ plcs p 0 ks q
def plcs (p : Tr → Bool) : Nat → List Tr → List Int → List (List Int)
  | _, [], _ => []
  | i, t :: ts, q => plc p t (q ++ [(i : Int)]) ++ plcs p (i + 1) ts q
end
mutual
/-- How many nodes p holds of. -/
def cntP (p : Tr → Bool) : Tr → Nat
  | .mk k n ks => (if p (.mk k n ks) = true then 1 else 0) + cntsP p ks
def cntsP (p : Tr → Bool) : List Tr → Nat
  | [] => 0
  | t :: ts => cntP p t + cntsP p ts
end
mutual
theorem plc_len (p : Tr → Bool) : ∀ (t : Tr) (q : List Int), (plc p t q).length = cntP p t
  | .mk k n ks, q => by
    rw [plc, cntP, List.length_append, plcs_len p ks 0 q]
    split <;> simp
theorem plcs_len (p : Tr → Bool) : ∀ (ks : List Tr) (i : Nat) (q : List Int), (plcs p i ks q).length = cntsP p ks
  | [], i, q => by rw [plcs, cntsP]; rfl
  | t :: ts, i, q => by rw [plcs, cntsP, List.length_append, plc_len p t _, plcs_len p ts _ q]
end
mutual
theorem cntP_le (p : Tr → Bool) : ∀ t : Tr, cntP p t ≤ cnt t
  | .mk k n ks => by
    rw [cntP, cnt]
    have := cntsP_le p ks
    split <;> omega
theorem cntsP_le (p : Tr → Bool) : ∀ ks : List Tr, cntsP p ks ≤ cnts ks
  | [] => by rw [cntsP, cnts]; exact Nat.le_refl _
  | t :: ts => by
    rw [cntsP, cnts]
    have := cntP_le p t
    have := cntsP_le p ts
    omega
end
mutual
theorem cntP_true : ∀ t : Tr, cntP (fun _ => true) t = cnt t
  | .mk k n ks => by rw [cntP, cnt, cntsP_true ks, if_pos rfl]; omega
theorem cntsP_true : ∀ ks : List Tr, cntsP (fun _ => true) ks = cnts ks
  | [] => by rw [cntsP, cnts]
  | t :: ts => by rw [cntsP, cnts, cntP_true t, cntsP_true ts]
end
/-- Is this node a redex? -/
def isRdx (t : Tr) : Bool := rdxT t != 0
mutual
theorem cntP_nrm : ∀ t : Tr, nrm t = decide (cntP isRdx t = 0)
  | .mk k n ks => by
    rw [nrm, cntP, cntsP_nrm ks]
    by_cases h : rdx k ks = 0
    · have e : isRdx (.mk k n ks) = false := by simp [isRdx, rdxT, h]
      rw [e]
      simp [h]
    · have e : isRdx (.mk k n ks) = true := by simp [isRdx, rdxT, h]
      rw [e]
      simp [h]
theorem cntsP_nrm : ∀ ks : List Tr, nrms ks = decide (cntsP isRdx ks = 0)
  | [] => by rw [nrms, cntsP]; rfl
  | t :: ts => by
    rw [nrms, cntsP, cntP_nrm t, cntsP_nrm ts]
    by_cases h : cntP isRdx t = 0 <;> by_cases h' : cntsP isRdx ts = 0 <;> simp [h, h']
end

/-- The part of a tree at a place. -/
def atT : Tr → List Int → Option Tr
  | t, [] => some t
  | .mk _ _ ks, i :: r => if 0 ≤ i ∧ i < ks.length then atT (kd ks i.toNat) r else none
/-- The first operands of the binders above a place. -/
def bndT : Tr → List Int → List Tr
  | _, [] => []
  | .mk k _ ks, i :: r => if 0 ≤ i ∧ i < ks.length then (if 0 < und k i.toNat then [kd ks 0] else []) ++ bndT (kd ks i.toNat) r else []
theorem kd_cons (t : Tr) (ts : List Tr) (i : Nat) : kd (t :: ts) (i + 1) = kd ts i := rfl
theorem kd_mem {ks : List Tr} {i : Nat} (h : i < ks.length) : kd ks i ∈ ks := by
  unfold kd
  rw [List.getD_eq_getElem?_getD, List.getElem?_eq_getElem h]
  exact List.getElem_mem h
mutual
theorem plc_at (p : Tr → Bool) : ∀ (t : Tr) (q : List Int) (x : List Int), x ∈ plc p t q → ∃ r u, x = q ++ r ∧ atT t r = some u ∧ p u = true
  | .mk k n ks, q, x, h => by
    rw [plc] at h
    rcases List.mem_append.1 h with h | h
    · by_cases hp : p (.mk k n ks) = true
      · rw [if_pos hp] at h
        exact ⟨[], .mk k n ks, by simpa using h, rfl, hp⟩
      · rw [if_neg hp] at h
        cases h
    · obtain ⟨j, r, u, h1, h2, h3, h4⟩ := plcs_at p ks 0 q x h
      refine ⟨((j : Nat) : Int) :: r, u, by simpa using h2, ?_, h4⟩
      rw [atT, if_pos ⟨by omega, by omega⟩]
      simpa using h3
theorem plcs_at (p : Tr → Bool) : ∀ (ks : List Tr) (i : Nat) (q : List Int) (x : List Int), x ∈ plcs p i ks q → ∃ (j : Nat) (r : List Int) (u : Tr), j < ks.length ∧ x = q ++ ((i + j : Nat) : Int) :: r ∧ atT (kd ks j) r = some u ∧ p u = true
  | [], i, q, x, h => by rw [plcs] at h; cases h
  | t :: ts, i, q, x, h => by
    rw [plcs] at h
    rcases List.mem_append.1 h with h | h
    · obtain ⟨r, u, h1, h2, h3⟩ := plc_at p t _ x h
      exact ⟨0, r, u, by simp, by simpa using h1, h2, h3⟩
    · obtain ⟨j, r, u, h1, h2, h3, h4⟩ := plcs_at p ts (i + 1) q x h
      refine ⟨j + 1, r, u, by simpa using h1, ?_, h3, h4⟩
      rw [h2, show i + 1 + j = i + (j + 1) by omega]
end
theorem plcs_ne (p : Tr → Bool) {ks : List Tr} {i : Nat} {q x : List Int} (h : x ∈ plcs p i ks q) : x ≠ q := by
  obtain ⟨j, r, u, _, rfl, _⟩ := plcs_at p ks i q x h
  intro e
  have := congrArg List.length e
  simp at this
mutual
theorem plc_nodup (p : Tr → Bool) : ∀ (t : Tr) (q : List Int), (plc p t q).Nodup
  | .mk k n ks, q => by
    rw [plc]
    refine List.nodup_append.2 ⟨by split <;> simp, plcs_nodup p ks 0 q, fun a ha b hb he => ?_⟩
    subst he
    refine plcs_ne p hb ?_
    split at ha
    · simpa using ha
    · cases ha
theorem plcs_nodup (p : Tr → Bool) : ∀ (ks : List Tr) (i : Nat) (q : List Int), (plcs p i ks q).Nodup
  | [], i, q => by rw [plcs]; exact List.nodup_nil
  | t :: ts, i, q => by
    rw [plcs]
    refine List.nodup_append.2 ⟨plc_nodup p t _, plcs_nodup p ts (i + 1) q, fun a ha b hb he => ?_⟩
    subst he
    obtain ⟨r, u, h1, _⟩ := plc_at p t _ a ha
    obtain ⟨j, r', u', _, h2, _⟩ := plcs_at p ts (i + 1) q a hb
    rw [h1, List.append_assoc] at h2
    have h3 := List.append_cancel_left h2
    simp at h3
    omega
end
/-- The place of the combined path. -/
theorem atT_append : ∀ (a b : List Int) (t : Tr), atT t (a ++ b) = (atT t a).bind (fun u => atT u b)
  | [], b, t => by cases t; rfl
  | i :: a, b, .mk k n ks => by
    rw [List.cons_append, atT, atT]
    split
    · exact atT_append a b _
    · rfl
theorem bndT_append : ∀ (a b : List Int) (t u : Tr), atT t a = some u → bndT t (a ++ b) = bndT t a ++ bndT u b
  | [], b, t, u, h => by
    have e : t = u := by cases t; simpa [atT] using h
    subst e
    cases t
    rfl
  | i :: a, b, .mk k n ks, u, h => by
    rw [atT] at h
    rw [List.cons_append, bndT, bndT]
    split at h
    · rename_i hi
      rw [if_pos hi, if_pos hi, bndT_append a b _ u h, List.append_assoc]
    · cases h
/-- Each step keeps the shape. -/
theorem atT_shape {g : Sig} : ∀ (a : List Int) (t u : Tr) (d : Int), shape g t d = true → atT t a = some u → shape g u (d - a.length) = true
  | [], t, u, d, h, e => by
    have e : t = u := by cases t; simpa [atT] using e
    subst e
    simpa using h
  | i :: a, .mk k n ks, u, d, h, e => by
    rw [atT] at e
    split at e
    · rename_i hi
      have h1 := (shape_kids h).2.2.2 (kd ks i.toNat) (kd_mem (by omega))
      have := atT_shape a _ u (d - 1) h1 e
      rw [List.length_cons, show d - ((a.length + 1 : Nat) : Int) = d - 1 - a.length by omega]
      exact this
    · cases e
theorem shape_pos' {g : Sig} {t : Tr} {d : Int} (h : shape g t d = true) : 1 ≤ d := by
  obtain ⟨k, n, ks⟩ := t
  simp only [shape, Bool.and_eq_true, decide_eq_true_eq] at h
  exact h.1

/-! ### The first redex from outside -/
mutual
def outT : Tr → Option (List Int)
  | .mk k n ks => if rdx k ks = 0 then outTs 0 ks else some []
def outTs : Nat → List Tr → Option (List Int)
  | _, [] => none
  | i, t :: ts => match outT t with
    | some p => some ((i : Int) :: p)
    | none => outTs (i + 1) ts
end
mutual
theorem outT_nrm : ∀ t : Tr, (outT t).isSome = !nrm t
  | .mk k n ks => by
    rw [outT, nrm]
    by_cases h : rdx k ks = 0
    · rw [if_pos h, outTs_nrm ks 0]
      simp [h]
    · rw [if_neg h]
      simp [h]
theorem outTs_nrm : ∀ (ks : List Tr) (i : Nat), (outTs i ks).isSome = !nrms ks
  | [], i => by rw [outTs, nrms]; rfl
  | t :: ts, i => by
    have h := outT_nrm t
    rw [outTs, nrms]
    cases e : outT t with
    | some p => rw [e] at h; simp at h; simp [h]
    | none => rw [e] at h; simp at h; simp [h, outTs_nrm ts (i + 1)]
end
theorem outT_len : ∀ (t : Tr) (d : Int), shape sigT t d = true → ∀ p, outT t = some p → (p.length : Int) ≤ d := Tr.ind fun k n ks hk => by
  intro d h p e
  have hd := shape_pos' h
  rw [outT] at e
  split at e
  · have key : ∀ (i : Nat) (ts : List Tr), (∀ t ∈ ts, t ∈ ks) → outTs i ts = some p → (p.length : Int) ≤ d := by
      intro i ts
      induction ts generalizing i with
      | nil => intro _ h; rw [outTs] at h; cases h
      | cons t ts ih =>
        intro hm h1
        rw [outTs] at h1
        cases e2 : outT t with
        | some q =>
          rw [e2] at h1
          simp only [Option.some.injEq] at h1
          subst h1
          have := hk t (hm t (by simp)) (d - 1) ((shape_kids h).2.2.2 t (hm t (by simp))) q e2
          simp only [List.length_cons]
          omega
        | none =>
          rw [e2] at h1
          exact ih (i + 1) (fun t ht => hm t (by simp [ht])) h1
    exact key 0 ks (fun _ h => h) e
  · simp only [Option.some.injEq] at e
    subst e
    simp
    omega
end Go.Proofs.Ytappakllopkfiaa

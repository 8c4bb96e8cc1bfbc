/-
  Plain laws of RunCode: a run keeps programs closed and valid, and more fuel changes no value.
-/
import Derived.Test.YtappakllopkfiaaStep
import Derived.Test.YtappakllopkfiaaExShape
namespace Go.Proofs.Ytappakllopkfiaa
open Go.RowKit
set_option linter.unusedVariables false

mutual
theorem opn_up : ∀ (t : Tr) (b c : Int), opnC t b = false → b ≤ c → opnC t c = false
  | .mk k n ks, b, c, h, hbc => by
    simp only [opnC, Bool.or_eq_false_iff, Bool.and_eq_false_iff, decide_eq_false_iff_not] at h ⊢
    refine ⟨h.1.imp id (fun h => by omega), opns_up ks _ _ h.2 (by omega)⟩
theorem opns_up : ∀ (ts : List Tr) (b c : Int), opns ts b = false → b ≤ c → opns ts c = false
  | [], _, _, _, _ => rfl
  | t :: ts, b, c, h, hbc => by
    simp only [opns, Bool.or_eq_false_iff] at h ⊢
    exact ⟨opn_up t b c h.1 hbc, opns_up ts b c h.2 hbc⟩
end
mutual
theorem opn_put (u : Tr) (hu : opnC u 0 = false) : ∀ (t : Tr) (x : Int), 0 ≤ x → opnC t (x + 1) = false → opnC (putT t x u) x = false
  | .mk k n ks, x, hx, h => by
    unfold putT
    split
    · exact opn_up u 0 x hu hx
    · rename_i hv
      simp only [opnC, Bool.or_eq_false_iff, Bool.and_eq_false_iff, decide_eq_false_iff_not, beq_eq_false_iff_ne] at h ⊢
      have hs : 0 ≤ scp k := by unfold scp; split <;> omega
      refine ⟨?_, ?_⟩
      · rcases h.1 with h1 | h1
        · exact .inl h1
        · by_cases hk : k = 1
          · exact .inr (fun h2 => hv ⟨hk, by omega⟩)
          · exact .inl hk
      · have h2 := h.2
        rw [show x + 1 + (if k = 2 then 1 else 0) = x + scp k + 1 from by unfold scp; omega] at h2
        exact opns_put u hu ks (x + scp k) (by omega) h2
theorem opns_put (u : Tr) (hu : opnC u 0 = false) : ∀ (ts : List Tr) (x : Int), 0 ≤ x → opns ts (x + 1) = false → opns (putTs ts x u) x = false
  | [], _, _, _ => rfl
  | t :: ts, x, hx, h => by
    simp only [opns, putTs, Bool.or_eq_false_iff] at h ⊢
    exact ⟨opn_put u hu t x hx h.1, opns_put u hu ts x hx h.2⟩
end
theorem opns_kid {ks : List Tr} {b : Int} (h : opns ks b = false) (i : Nat) : opnC (kid ks i) b = false := by
  unfold kid
  rw [List.getD_eq_getElem?_getD]
  by_cases hi : i < ks.length
  · rw [List.getElem?_eq_getElem hi]
    rw [opns_any, List.any_eq_false] at h
    simpa using h _ (List.getElem_mem hi)
  · rw [List.getElem?_eq_none (by omega)]
    rfl
theorem opn_kids {t : Tr} (h : opnC t 0 = false) (hk : t.kd ≠ 2) : opns t.kids 0 = false := by
  obtain ⟨k, n, ks⟩ := t
  simp only [opnC, Bool.or_eq_false_iff] at h
  simp only [Tr.kd] at hk
  rw [if_neg hk] at h
  exact h.2
theorem opn_body {t : Tr} (h : opnC t 0 = false) (hk : t.kd = 2) : opns t.kids 1 = false := by
  obtain ⟨k, n, ks⟩ := t
  simp only [opnC, Bool.or_eq_false_iff] at h
  simp only [Tr.kd] at hk
  rw [if_pos hk] at h
  exact h.2
theorem rul_closed {k : Int} {ks : List Tr} {d : Tr} (h : opns ks 0 = false) (e : rul k ks = some d) : opnC d 0 = false := by
  unfold rul at e
  split at e
  · split at e
    · rename_i h2
      cases e
      exact opn_put _ (opns_kid h 1) _ 0 (by omega) (opns_kid (opn_body (opns_kid h 0) h2) 0)
    · cases e
  · split at e
    · split at e
      · cases e
        exact opns_kid h 0
      · split at e
        · rename_i h5
          cases e
          have he := opns_kid (opn_kids (opns_kid h 2) (by omega)) 0
          simp [opnC, opns, opns_kid h 0, opns_kid h 1, he]
        · cases e
    · split at e
      · split at e
        · rename_i h7
          cases e
          exact opns_kid (opn_kids (opns_kid h 0) (by omega)) 0
        · cases e
      · split at e
        · split at e
          · rename_i h7
            cases e
            exact opns_kid (opn_kids (opns_kid h 0) (by omega)) 1
          · cases e
        · cases e
mutual
theorem stp_closed : ∀ (c d : Tr) (x : Int), shape sigC c x = true → opnC c 0 = false → stp c = some d → opnC d 0 = false
  | .mk k n ks, d, x, hsh, h, e => by
    obtain ⟨hops, -, -, hsk⟩ := shape_kids' hsh
    unfold stp at e
    split at e
    · cases e
    · rename_i hv
      have hk : k ≠ 2 := fun hk => hv (by simp [isV, hk])
      have hks := opn_kids h hk
      simp only [Tr.kids] at hks
      split at e
      · rename_i r hr
        cases r with
        | none => cases e
        | some ts =>
          cases e
          have := stps_closed ks ts (x - 1) hsk hks hr
          simp only [opnC]
          simp only [opnC, Bool.or_eq_false_iff] at h
          rw [if_neg hk, Int.add_zero, this, Bool.or_false]
          by_cases h1 : k = 1
          · exfalso
            subst h1
            have h9 : (0 : Int) = (ks.length : Int) := hops
            have h8 : ks = [] := List.eq_nil_of_length_eq_zero (by omega)
            subst h8
            unfold stps at hr
            cases hr
          · simp [h1]
      · exact rul_closed hks e
theorem stps_closed : ∀ (ts ds : List Tr) (x : Int), (∀ t ∈ ts, shape sigC t x = true) → opns ts 0 = false → stps ts = some (some ds) → opns ds 0 = false
  | [], ds, _, _, _, e => by unfold stps at e; cases e
  | t :: ts, ds, x, hsh, h, e => by
    unfold stps at e
    simp only [opns, Bool.or_eq_false_iff] at h
    split at e
    · rename_i hv
      cases hr : stps ts with
      | none => rw [hr] at e; cases e
      | some r =>
        rw [hr] at e
        cases r with
        | none => cases e
        | some rs =>
          cases e
          simp only [opns, Bool.or_eq_false_iff]
          exact ⟨h.1, stps_closed ts rs x (fun t ht => hsh t (by simp [ht])) h.2 hr⟩
    · cases hr : stp t with
      | none => rw [hr] at e; cases e
      | some d =>
        rw [hr] at e
        cases e
        simp only [opns, Bool.or_eq_false_iff]
        exact ⟨stp_closed t d x (hsh t (by simp)) h.1 hr, h.2⟩
end
/-- A run that ends in a value ends in a valid, closed one, which more fuel does not change. -/
theorem runC_value : ∀ (f : Nat) (c v : Tr), valid sigC c = true → opnC c 0 = false → runC f c = (v, 0) → isV v = true ∧ valid sigC v = true ∧ opnC v 0 = false ∧ ∀ g, f ≤ g → runC g c = (v, 0)
  | 0, c, v, hv, ho, e => by
    unfold runC at e
    split at e
    · rename_i hi
      cases e
      exact ⟨hi, hv, ho, fun g _ => by cases g <;> simp [runC, hi]⟩
    · split at e <;> cases e
  | f + 1, c, v, hv, ho, e => by
    unfold runC at e
    split at e
    · rename_i hi
      cases e
      exact ⟨hi, hv, ho, fun g _ => by cases g <;> simp [runC, hi]⟩
    · rename_i hi
      split at e
      · cases e
      · rename_i d hd
        split at e
        · rename_i hvd
          obtain ⟨h1, h2, h3, h4⟩ := runC_value f d v hvd (stp_closed c d 30 (valid_parts hv).1 ho hd) e
          refine ⟨h1, h2, h3, fun g hg => ?_⟩
          cases g with
          | zero => omega
          | succ g =>
            conv => lhs; unfold runC
            rw [if_neg hi, hd]
            simp only
            rw [if_pos hvd]
            exact h4 g (by omega)
        · cases e
theorem runC_of_value (g : Nat) (v : Tr) (h : isV v = true) : runC g v = (v, 0) := by cases g <;> simp [runC, h]
end Go.Proofs.Ytappakllopkfiaa

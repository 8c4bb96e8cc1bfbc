/-
  Lists of places in memory: a slice of slices of numbers, built by append.
-/
import Derived.Test.YtjgdckkeojehoaaPar
import Derived.Test.YtjgdckkeojehoaaExtract
import Derived.Test.YtjgdckkeojehoaaRow
import Derived.Test.YtjgdckkeojehoaaInts2
import Derived.Laws.OwnMore
namespace Go.Proofs.Ytjgdckkeojehoaa
set_option linter.unusedVariables false

mutual
/-- The places of the nodes that p holds of, each behind the place q of the tree. -/
def plc (p : Tr → Bool) : Tr → List Int → List (List Int)
  | .mk k n ks, q => (if p (.mk k n ks) = true then [q] else []) ++ plcs p 0 ks q
def plcs (p : Tr → Bool) : Nat → List Tr → List Int → List (List Int)
  | _, [], _ => []
  | i, t :: ts, q => plc p t (q ++ [(i : Int)]) ++ plcs p (i + 1) ts q
end
mutual
/-- How many nodes p holds of. -/
def cntP (p : Tr → Bool) : Tr → Nat
  | .mk k n ks => (if p (.mk k n ks) = true then 1 else 0) + cntsP p ks
def cntsP (p : Tr → Bool) : List Tr → Nat
  | [] => 0
  | t :: ts => cntP p t + cntsP p ts
end
mutual
theorem plc_len (p : Tr → Bool) : ∀ (t : Tr) (q : List Int), (plc p t q).length = cntP p t
  | .mk k n ks, q => by
    rw [plc, cntP, List.length_append, plcs_len p ks 0 q]
    split <;> simp
theorem plcs_len (p : Tr → Bool) : ∀ (ks : List Tr) (i : Nat) (q : List Int), (plcs p i ks q).length = cntsP p ks
  | [], i, q => by rw [plcs, cntsP]; rfl
  | t :: ts, i, q => by rw [plcs, cntsP, List.length_append, plc_len p t _, plcs_len p ts _ q]
end
mutual
theorem cntP_le (p : Tr → Bool) : ∀ t : Tr, cntP p t ≤ cnt t
  | .mk k n ks => by
    rw [cntP, cnt]
    have := cntsP_le p ks
    split <;> omega
theorem cntsP_le (p : Tr → Bool) : ∀ ks : List Tr, cntsP p ks ≤ cnts ks
  | [] => by rw [cntsP, cnts]; exact Nat.le_refl _
  | t :: ts => by
    rw [cntsP, cnts]
    have := cntP_le p t
    have := cntsP_le p ts
    omega
end
mutual
theorem cntP_true : ∀ t : Tr, cntP (fun _ => true) t = cnt t
  | .mk k n ks => by rw [cntP, cnt, cntsP_true ks, if_pos rfl]; omega
theorem cntsP_true : ∀ ks : List Tr, cntsP (fun _ => true) ks = cnts ks
  | [] => by rw [cntsP, cnts]
  | t :: ts => by rw [cntsP, cnts, cntP_true t, cntsP_true ts]
end
/-- Is this node a redex? -/
def isRdx (t : Tr) : Bool := rdxT t != 0
mutual
theorem cntP_nrm : ∀ t : Tr, nrm t = decide (cntP isRdx t = 0)
  | .mk k n ks => by
    rw [nrm, cntP, cntsP_nrm ks]
    by_cases h : rdx k ks = 0
    · have e : isRdx (.mk k n ks) = false := by simp [isRdx, rdxT, h]
      rw [e]
      simp [h]
    · have e : isRdx (.mk k n ks) = true := by simp [isRdx, rdxT, h]
      rw [e]
      simp [h]
theorem cntsP_nrm : ∀ ks : List Tr, nrms ks = decide (cntsP isRdx ks = 0)
  | [] => by rw [nrms, cntsP]; rfl
  | t :: ts => by
    rw [nrms, cntsP, cntP_nrm t, cntsP_nrm ts]
    by_cases h : cntP isRdx t = 0 <;> by_cases h' : cntsP isRdx ts = 0 <;> simp [h, h']
end

/-- The part of a tree at a place. -/
def atT : Tr → List Int → Option Tr
  | t, [] => some t
  | .mk _ _ ks, i :: r => if 0 ≤ i ∧ i < ks.length then atT (kd ks i.toNat) r else none
/-- The first operands of the binders above a place. -/
def bndT : Tr → List Int → List Tr
  | _, [] => []
  | .mk k _ ks, i :: r => if 0 ≤ i ∧ i < ks.length then (if 0 < und k i.toNat then [kd ks 0] else []) ++ bndT (kd ks i.toNat) r else []
theorem kd_cons (t : Tr) (ts : List Tr) (i : Nat) : kd (t :: ts) (i + 1) = kd ts i := rfl
theorem kd_mem {ks : List Tr} {i : Nat} (h : i < ks.length) : kd ks i ∈ ks := by
  unfold kd
  rw [List.getD_eq_getElem?_getD, List.getElem?_eq_getElem h]
  exact List.getElem_mem h
mutual
theorem plc_at (p : Tr → Bool) : ∀ (t : Tr) (q : List Int) (x : List Int), x ∈ plc p t q → ∃ r u, x = q ++ r ∧ atT t r = some u ∧ p u = true
  | .mk k n ks, q, x, h => by
    rw [plc] at h
    rcases List.mem_append.1 h with h | h
    · by_cases hp : p (.mk k n ks) = true
      · rw [if_pos hp] at h
        exact ⟨[], .mk k n ks, by simpa using h, rfl, hp⟩
      · rw [if_neg hp] at h
        cases h
    · obtain ⟨j, r, u, h1, h2, h3, h4⟩ := plcs_at p ks 0 q x h
      refine ⟨((j : Nat) : Int) :: r, u, by simpa using h2, ?_, h4⟩
      rw [atT, if_pos ⟨by omega, by omega⟩]
      simpa using h3
theorem plcs_at (p : Tr → Bool) : ∀ (ks : List Tr) (i : Nat) (q : List Int) (x : List Int), x ∈ plcs p i ks q → ∃ (j : Nat) (r : List Int) (u : Tr), j < ks.length ∧ x = q ++ ((i + j : Nat) : Int) :: r ∧ atT (kd ks j) r = some u ∧ p u = true
  | [], i, q, x, h => by rw [plcs] at h; cases h
  | t :: ts, i, q, x, h => by
    rw [plcs] at h
    rcases List.mem_append.1 h with h | h
    · obtain ⟨r, u, h1, h2, h3⟩ := plc_at p t _ x h
      exact ⟨0, r, u, by simp, by simpa using h1, h2, h3⟩
    · obtain ⟨j, r, u, h1, h2, h3, h4⟩ := plcs_at p ts (i + 1) q x h
      refine ⟨j + 1, r, u, by simpa using h1, ?_, h3, h4⟩
      rw [h2, show i + 1 + j = i + (j + 1) by omega]
end
theorem plcs_ne (p : Tr → Bool) {ks : List Tr} {i : Nat} {q x : List Int} (h : x ∈ plcs p i ks q) : x ≠ q := by
  obtain ⟨j, r, u, _, rfl, _⟩ := plcs_at p ks i q x h
  intro e
  have := congrArg List.length e
  simp at this
mutual
theorem plc_nodup (p : Tr → Bool) : ∀ (t : Tr) (q : List Int), (plc p t q).Nodup
  | .mk k n ks, q => by
    rw [plc]
    refine List.nodup_append.2 ⟨by split <;> simp, plcs_nodup p ks 0 q, fun a ha b hb he => ?_⟩
    subst he
    refine plcs_ne p hb ?_
    split at ha
    · simpa using ha
    · cases ha
theorem plcs_nodup (p : Tr → Bool) : ∀ (ks : List Tr) (i : Nat) (q : List Int), (plcs p i ks q).Nodup
  | [], i, q => by rw [plcs]; exact List.nodup_nil
  | t :: ts, i, q => by
    rw [plcs]
    refine List.nodup_append.2 ⟨plc_nodup p t _, plcs_nodup p ts (i + 1) q, fun a ha b hb he => ?_⟩
    subst he
    obtain ⟨r, u, h1, _⟩ := plc_at p t _ a ha
    obtain ⟨j, r', u', _, h2, _⟩ := plcs_at p ts (i + 1) q a hb
    rw [h1, List.append_assoc] at h2
    have h3 := List.append_cancel_left h2
    simp at h3
    omega
end
/-- The place of the combined path. -/
theorem atT_append : ∀ (a b : List Int) (t : Tr), atT t (a ++ b) = (atT t a).bind (fun u => atT u b)
  | [], b, t => by cases t; rfl
  | i :: a, b, .mk k n ks => by
    rw [List.cons_append, atT, atT]
    split
    · exact atT_append a b _
    · rfl
theorem bndT_append : ∀ (a b : List Int) (t u : Tr), atT t a = some u → bndT t (a ++ b) = bndT t a ++ bndT u b
  | [], b, t, u, h => by
    have e : t = u := by cases t; simpa [atT] using h
    subst e
    cases t
    rfl
  | i :: a, b, .mk k n ks, u, h => by
    rw [atT] at h
    rw [List.cons_append, bndT, bndT]
    split at h
    · rename_i hi
      rw [if_pos hi, if_pos hi, bndT_append a b _ u h, List.append_assoc]
    · cases h
/-- Each step keeps the shape. -/
theorem atT_shape {g : Sig} : ∀ (a : List Int) (t u : Tr) (d : Int), shape g t d = true → atT t a = some u → shape g u (d - a.length) = true
  | [], t, u, d, h, e => by
    have e : t = u := by cases t; simpa [atT] using e
    subst e
    simpa using h
  | i :: a, .mk k n ks, u, d, h, e => by
    rw [atT] at e
    split at e
    · rename_i hi
      have h1 := (shape_kids h).2.2.2 (kd ks i.toNat) (kd_mem (by omega))
      have := atT_shape a _ u (d - 1) h1 e
      rw [List.length_cons, show d - ((a.length + 1 : Nat) : Int) = d - 1 - a.length by omega]
      exact this
    · cases e
theorem shape_pos' {g : Sig} {t : Tr} {d : Int} (h : shape g t d = true) : 1 ≤ d := by
  obtain ⟨k, n, ks⟩ := t
  simp only [shape, Bool.and_eq_true, decide_eq_true_eq] at h
  exact h.1

/-! ### The first redex from outside -/
mutual
def outT : Tr → Option (List Int)
  | .mk k n ks => if rdx k ks = 0 then outTs 0 ks else some []
def outTs : Nat → List Tr → Option (List Int)
  | _, [] => none
  | i, t :: ts => match outT t with
    | some p => some ((i : Int) :: p)
    | none => outTs (i + 1) ts
end
mutual
theorem outT_nrm : ∀ t : Tr, (outT t).isSome = !nrm t
  | .mk k n ks => by
    rw [outT, nrm]
    by_cases h : rdx k ks = 0
    · rw [if_pos h, outTs_nrm ks 0]
      simp [h]
    · rw [if_neg h]
      simp [h]
theorem outTs_nrm : ∀ (ks : List Tr) (i : Nat), (outTs i ks).isSome = !nrms ks
  | [], i => by rw [outTs, nrms]; rfl
  | t :: ts, i => by
    have h := outT_nrm t
    rw [outTs, nrms]
    cases e : outT t with
    | some p => rw [e] at h; simp at h; simp [h]
    | none => rw [e] at h; simp at h; simp [h, outTs_nrm ts (i + 1)]
end
theorem outT_len : ∀ (t : Tr) (d : Int), shape sigT t d = true → ∀ p, outT t = some p → (p.length : Int) ≤ d := Tr.ind fun k n ks hk => by
  intro d h p e
  have hd := shape_pos' h
  rw [outT] at e
  split at e
  · have key : ∀ (i : Nat) (ts : List Tr), (∀ t ∈ ts, t ∈ ks) → outTs i ts = some p → (p.length : Int) ≤ d := by
      intro i ts
      induction ts generalizing i with
      | nil => intro _ h; rw [outTs] at h; cases h
      | cons t ts ih =>
        intro hm h1
        rw [outTs] at h1
        cases e2 : outT t with
        | some q =>
          rw [e2] at h1
          simp only [Option.some.injEq] at h1
          subst h1
          have := hk t (hm t (by simp)) (d - 1) ((shape_kids h).2.2.2 t (hm t (by simp))) q e2
          simp only [List.length_cons]
          omega
        | none =>
          rw [e2] at h1
          exact ih (i + 1) (fun t ht => hm t (by simp [ht])) h1
    exact key 0 ks (fun _ h => h) e
  · simp only [Option.some.injEq] at e
    subst e
    simp
    omega
end Go.Proofs.Ytjgdckkeojehoaa

namespace Go.Proofs.Ytjgdckkeojehoaa
open Go.RowKit
set_option linter.unusedVariables false

theorem kinds16 {k n : Int} {ks : List Tr} {d : Int} (h : shape sigT (.mk k n ks) d = true) : (opsT k = (ks.length : Int)) ∧ (k = 1 ∨ k = 2 ∨ k = 3 ∨ k = 4 ∨ k = 5 ∨ k = 6 ∨ k = 7 ∨ k = 8 ∨ k = 9 ∨ k = 10 ∨ k = 11 ∨ k = 12 ∨ k = 13 ∨ k = 14 ∨ k = 15 ∨ k = 16) := by
  obtain ⟨h1, h2, h3, h4⟩ := shape_kids h
  simp only [sigT] at h1
  have hr : 1 ≤ k ∧ k ≤ 16 := by
    by_cases h : 1 ≤ k ∧ k ≤ 16
    · exact h
    · exfalso
      unfold opsT at h1
      rw [if_neg (by omega), if_neg (by omega), if_neg (by omega), if_neg (by omega), if_neg (by omega), if_neg (by omega), if_neg (by omega), if_neg (by omega), if_neg (by omega), if_neg (by omega), if_neg (by omega), if_neg (by omega), if_neg (by omega), if_neg (by omega), if_neg (by omega), if_neg (by omega)] at h1
      omega
  exact ⟨h1, by omega⟩
theorem kd_of {ks : List Tr} {j : Nat} {t : Tr} (hj : j < ks.length) (h : ks[j] = t) : kd ks j = t := by
  unfold kd
  rw [List.getD_eq_getElem?_getD, List.getElem?_eq_getElem hj]
  exact h
set_option maxRecDepth 100000 in
set_option maxHeartbeats 1000000 in
theorem redex_any (t : Tr) (d : Int) (hsh : shape sigT t d = true) (w : World) (v : Value) (hin : Lies w t v) : Calls Try.prog 46 #[v] w fun e w' => e = .returned (.int .i64 (rdxT t)) ∧ Ext w w' := by
  obtain ⟨k, n, ks⟩ := t
  obtain ⟨A, cap, rfl, hl, hc, hK⟩ := Lies.mk_iff.1 hin
  obtain ⟨hops, hk⟩ := kinds16 hsh
  unfold maxLen at hc
  clear hsh hin
  rcases hk with rfl | rfl | rfl | rfl | rfl | rfl | rfl | rfl | rfl | rfl | rfl | rfl | rfl | rfl | rfl | rfl
  · rw [show rdxT (.mk 1 n ks) = 0 from rfl]
    clear hops hK
    go_enter Try.func46, Try.ntmps46
    go_wp2_with fail
    go_ret
    exact ⟨rfl, (Ext.refl _).alloc _⟩
  · rw [show rdxT (.mk 2 n ks) = 0 from rfl]
    clear hops hK
    go_enter Try.func46, Try.ntmps46
    go_wp2_with fail
    go_ret
    exact ⟨rfl, (Ext.refl _).alloc _⟩
  · rw [show rdxT (.mk 3 n ks) = 0 from rfl]
    clear hops hK
    go_enter Try.func46, Try.ntmps46
    go_wp2_with fail
    go_ret
    exact ⟨rfl, (Ext.refl _).alloc _⟩
  · rw [show rdxT (.mk 4 n ks) = 0 from rfl]
    clear hops hK
    go_enter Try.func46, Try.ntmps46
    go_wp2_with fail
    go_ret
    exact ⟨rfl, (Ext.refl _).alloc _⟩
  · have hlen : ks.length = 2 := by have : (2 : Int) = (ks.length : Int) := hops; omega
    have hlt : (0 : Int) < (ks.length : Int) := by omega
    obtain ⟨b, o, k', n', A', cap', kids, rfl, hid, c0, c1, c2, -, -, -, -, -⟩ := hK.get ((Ext.refl w).alloc (.cells #[.int .i64 5, .int .i64 n, .slice A ks.length cap] 25)) (j := 0) (by omega)
    simp only [Nat.zero_mul, Nat.add_zero] at c0
    clear c1 c2
    have hkd : kd ks 0 = .mk k' n' kids := kd_of (by omega) hid.out
    have hR : rdxT (.mk 5 n ks) = if k' = 4 then 1 else 0 := by show rdx 5 ks = _; unfold rdx; rw [hkd]; rfl
    rw [hR]
    clear hR hkd hid hops hK hlen
    by_cases e4 : k' = 4
    · subst e4
      rw [if_pos rfl]
      go_enter Try.func46, Try.ntmps46
      go_wp2_with fail
      go_ret
      exact ⟨rfl, (Ext.refl _).alloc _⟩
    have d4 : (k' == 4) = false := beq_eq_false_iff_ne.2 e4
    rw [if_neg e4]
    go_enter Try.func46, Try.ntmps46
    go_wp2_with fail
    go_ret
    exact ⟨rfl, (Ext.refl _).alloc _⟩
  · rw [show rdxT (.mk 6 n ks) = 0 from rfl]
    clear hops hK
    go_enter Try.func46, Try.ntmps46
    go_wp2_with fail
    go_ret
    exact ⟨rfl, (Ext.refl _).alloc _⟩
  · rw [show rdxT (.mk 7 n ks) = 0 from rfl]
    clear hops hK
    go_enter Try.func46, Try.ntmps46
    go_wp2_with fail
    go_ret
    exact ⟨rfl, (Ext.refl _).alloc _⟩
  · rw [show rdxT (.mk 8 n ks) = 0 from rfl]
    clear hops hK
    go_enter Try.func46, Try.ntmps46
    go_wp2_with fail
    go_ret
    exact ⟨rfl, (Ext.refl _).alloc _⟩
  · have hlen : ks.length = 4 := by have : (4 : Int) = (ks.length : Int) := hops; omega
    have hlt : (3 : Int) < (ks.length : Int) := by omega
    obtain ⟨b, o, k', n', A', cap', kids, rfl, hid, c0, c1, c2, -, -, -, -, -⟩ := hK.get ((Ext.refl w).alloc (.cells #[.int .i64 9, .int .i64 n, .slice A ks.length cap] 25)) (j := 3) (by omega)
    simp only [Nat.reduceMul] at c0
    clear c1 c2
    have hkd : kd ks 3 = .mk k' n' kids := kd_of (by omega) hid.out
    have hR : rdxT (.mk 9 n ks) = if k' = 7 then 2 else if k' = 8 then 3 else 0 := by show rdx 9 ks = _; unfold rdx; rw [hkd]; rfl
    rw [hR]
    clear hR hkd hid hops hK hlen
    by_cases e7 : k' = 7
    · subst e7
      rw [if_pos rfl]
      go_enter Try.func46, Try.ntmps46
      go_wp2_with fail
      go_ret
      exact ⟨rfl, (Ext.refl _).alloc _⟩
    by_cases e8 : k' = 8
    · subst e8
      rw [if_neg (by decide), if_pos rfl]
      go_enter Try.func46, Try.ntmps46
      go_wp2_with fail
      go_ret
      exact ⟨rfl, (Ext.refl _).alloc _⟩
    have d7 : (k' == 7) = false := beq_eq_false_iff_ne.2 e7
    have d8 : (k' == 8) = false := beq_eq_false_iff_ne.2 e8
    rw [if_neg e7, if_neg e8]
    go_enter Try.func46, Try.ntmps46
    go_wp2_with fail
    go_ret
    exact ⟨rfl, (Ext.refl _).alloc _⟩
  · rw [show rdxT (.mk 10 n ks) = 0 from rfl]
    clear hops hK
    go_enter Try.func46, Try.ntmps46
    go_wp2_with fail
    go_ret
    exact ⟨rfl, (Ext.refl _).alloc _⟩
  · rw [show rdxT (.mk 11 n ks) = 0 from rfl]
    clear hops hK
    go_enter Try.func46, Try.ntmps46
    go_wp2_with fail
    go_ret
    exact ⟨rfl, (Ext.refl _).alloc _⟩
  · have hlen : ks.length = 3 := by have : (3 : Int) = (ks.length : Int) := hops; omega
    have hlt : (1 : Int) < (ks.length : Int) := by omega
    obtain ⟨b, o, k', n', A', cap', kids, rfl, hid, c0, c1, c2, -, -, -, -, -⟩ := hK.get ((Ext.refl w).alloc (.cells #[.int .i64 12, .int .i64 n, .slice A ks.length cap] 25)) (j := 1) (by omega)
    simp only [Nat.reduceMul] at c0
    clear c1 c2
    have hkd : kd ks 1 = .mk k' n' kids := kd_of (by omega) hid.out
    have hR : rdxT (.mk 12 n ks) = if k' = 11 then 4 else 0 := by show rdx 12 ks = _; unfold rdx; rw [hkd]; rfl
    rw [hR]
    clear hR hkd hid hops hK hlen
    by_cases e11 : k' = 11
    · subst e11
      rw [if_pos rfl]
      go_enter Try.func46, Try.ntmps46
      go_wp2_with fail
      go_ret
      exact ⟨rfl, (Ext.refl _).alloc _⟩
    have d11 : (k' == 11) = false := beq_eq_false_iff_ne.2 e11
    rw [if_neg e11]
    go_enter Try.func46, Try.ntmps46
    go_wp2_with fail
    go_ret
    exact ⟨rfl, (Ext.refl _).alloc _⟩
  · rw [show rdxT (.mk 13 n ks) = 0 from rfl]
    clear hops hK
    go_enter Try.func46, Try.ntmps46
    go_wp2_with fail
    go_ret
    exact ⟨rfl, (Ext.refl _).alloc _⟩
  · rw [show rdxT (.mk 14 n ks) = 0 from rfl]
    clear hops hK
    go_enter Try.func46, Try.ntmps46
    go_wp2_with fail
    go_ret
    exact ⟨rfl, (Ext.refl _).alloc _⟩
  · have hlen : ks.length = 1 := by have : (1 : Int) = (ks.length : Int) := hops; omega
    have hlt : (0 : Int) < (ks.length : Int) := by omega
    obtain ⟨b, o, k', n', A', cap', kids, rfl, hid, c0, c1, c2, -, -, -, -, -⟩ := hK.get ((Ext.refl w).alloc (.cells #[.int .i64 15, .int .i64 n, .slice A ks.length cap] 25)) (j := 0) (by omega)
    simp only [Nat.zero_mul, Nat.add_zero] at c0
    clear c1 c2
    have hkd : kd ks 0 = .mk k' n' kids := kd_of (by omega) hid.out
    have hR : rdxT (.mk 15 n ks) = if k' = 14 then 5 else 0 := by show rdx 15 ks = _; unfold rdx; rw [hkd]; rfl
    rw [hR]
    clear hR hkd hid hops hK hlen
    by_cases e14 : k' = 14
    · subst e14
      rw [if_pos rfl]
      go_enter Try.func46, Try.ntmps46
      go_wp2_with fail
      go_ret
      exact ⟨rfl, (Ext.refl _).alloc _⟩
    have d14 : (k' == 14) = false := beq_eq_false_iff_ne.2 e14
    rw [if_neg e14]
    go_enter Try.func46, Try.ntmps46
    go_wp2_with fail
    go_ret
    exact ⟨rfl, (Ext.refl _).alloc _⟩
  · have hlen : ks.length = 1 := by have : (1 : Int) = (ks.length : Int) := hops; omega
    have hlt : (0 : Int) < (ks.length : Int) := by omega
    obtain ⟨b, o, k', n', A', cap', kids, rfl, hid, c0, c1, c2, -, -, -, -, -⟩ := hK.get ((Ext.refl w).alloc (.cells #[.int .i64 16, .int .i64 n, .slice A ks.length cap] 25)) (j := 0) (by omega)
    simp only [Nat.zero_mul, Nat.add_zero] at c0
    clear c1 c2
    have hkd : kd ks 0 = .mk k' n' kids := kd_of (by omega) hid.out
    have hR : rdxT (.mk 16 n ks) = if k' = 14 then 6 else 0 := by show rdx 16 ks = _; unfold rdx; rw [hkd]; rfl
    rw [hR]
    clear hR hkd hid hops hK hlen
    by_cases e14 : k' = 14
    · subst e14
      rw [if_pos rfl]
      go_enter Try.func46, Try.ntmps46
      go_wp2_with fail
      go_ret
      exact ⟨rfl, (Ext.refl _).alloc _⟩
    have d14 : (k' == 14) = false := beq_eq_false_iff_ne.2 e14
    rw [if_neg e14]
    go_enter Try.func46, Try.ntmps46
    go_wp2_with fail
    go_ret
    exact ⟨rfl, (Ext.refl _).alloc _⟩
set_option maxRecDepth 100000 in
set_option maxHeartbeats 1000000 in
theorem l3Redex_any (t : Tr) (d : Int) (hsh : shape sigT t d = true) (w : World) (v : Value) (hin : Lies w t v) : Calls Try.prog 96 #[v] w fun e w' => e = .returned (.int .i64 (rdxT t)) ∧ Ext w w' := by
  obtain ⟨k, n, ks⟩ := t
  obtain ⟨A, cap, rfl, hl, hc, hK⟩ := Lies.mk_iff.1 hin
  obtain ⟨hops, hk⟩ := kinds16 hsh
  unfold maxLen at hc
  clear hsh hin
  rcases hk with rfl | rfl | rfl | rfl | rfl | rfl | rfl | rfl | rfl | rfl | rfl | rfl | rfl | rfl | rfl | rfl
  · rw [show rdxT (.mk 1 n ks) = 0 from rfl]
    clear hops hK
    go_enter Try.func96, Try.ntmps96
    go_wp2_with fail
    go_ret
    exact ⟨rfl, (Ext.refl _).alloc _⟩
  · rw [show rdxT (.mk 2 n ks) = 0 from rfl]
    clear hops hK
    go_enter Try.func96, Try.ntmps96
    go_wp2_with fail
    go_ret
    exact ⟨rfl, (Ext.refl _).alloc _⟩
  · rw [show rdxT (.mk 3 n ks) = 0 from rfl]
    clear hops hK
    go_enter Try.func96, Try.ntmps96
    go_wp2_with fail
    go_ret
    exact ⟨rfl, (Ext.refl _).alloc _⟩
  · rw [show rdxT (.mk 4 n ks) = 0 from rfl]
    clear hops hK
    go_enter Try.func96, Try.ntmps96
    go_wp2_with fail
    go_ret
    exact ⟨rfl, (Ext.refl _).alloc _⟩
  · have hlen : ks.length = 2 := by have : (2 : Int) = (ks.length : Int) := hops; omega
    have hlt : (0 : Int) < (ks.length : Int) := by omega
    obtain ⟨b, o, k', n', A', cap', kids, rfl, hid, c0, c1, c2, -, -, -, -, -⟩ := hK.get ((Ext.refl w).alloc (.cells #[.int .i64 5, .int .i64 n, .slice A ks.length cap] 25)) (j := 0) (by omega)
    simp only [Nat.zero_mul, Nat.add_zero] at c0
    clear c1 c2
    have hkd : kd ks 0 = .mk k' n' kids := kd_of (by omega) hid.out
    have hR : rdxT (.mk 5 n ks) = if k' = 4 then 1 else 0 := by show rdx 5 ks = _; unfold rdx; rw [hkd]; rfl
    rw [hR]
    clear hR hkd hid hops hK hlen
    by_cases e4 : k' = 4
    · subst e4
      rw [if_pos rfl]
      go_enter Try.func96, Try.ntmps96
      go_wp2_with fail
      go_ret
      exact ⟨rfl, (Ext.refl _).alloc _⟩
    have d4 : (k' == 4) = false := beq_eq_false_iff_ne.2 e4
    rw [if_neg e4]
    go_enter Try.func96, Try.ntmps96
    go_wp2_with fail
    go_ret
    exact ⟨rfl, (Ext.refl _).alloc _⟩
  · rw [show rdxT (.mk 6 n ks) = 0 from rfl]
    clear hops hK
    go_enter Try.func96, Try.ntmps96
    go_wp2_with fail
    go_ret
    exact ⟨rfl, (Ext.refl _).alloc _⟩
  · rw [show rdxT (.mk 7 n ks) = 0 from rfl]
    clear hops hK
    go_enter Try.func96, Try.ntmps96
    go_wp2_with fail
    go_ret
    exact ⟨rfl, (Ext.refl _).alloc _⟩
  · rw [show rdxT (.mk 8 n ks) = 0 from rfl]
    clear hops hK
    go_enter Try.func96, Try.ntmps96
    go_wp2_with fail
    go_ret
    exact ⟨rfl, (Ext.refl _).alloc _⟩
  · have hlen : ks.length = 4 := by have : (4 : Int) = (ks.length : Int) := hops; omega
    have hlt : (3 : Int) < (ks.length : Int) := by omega
    obtain ⟨b, o, k', n', A', cap', kids, rfl, hid, c0, c1, c2, -, -, -, -, -⟩ := hK.get ((Ext.refl w).alloc (.cells #[.int .i64 9, .int .i64 n, .slice A ks.length cap] 25)) (j := 3) (by omega)
    simp only [Nat.reduceMul] at c0
    clear c1 c2
    have hkd : kd ks 3 = .mk k' n' kids := kd_of (by omega) hid.out
    have hR : rdxT (.mk 9 n ks) = if k' = 7 then 2 else if k' = 8 then 3 else 0 := by show rdx 9 ks = _; unfold rdx; rw [hkd]; rfl
    rw [hR]
    clear hR hkd hid hops hK hlen
    by_cases e7 : k' = 7
    · subst e7
      rw [if_pos rfl]
      go_enter Try.func96, Try.ntmps96
      go_wp2_with fail
      go_ret
      exact ⟨rfl, (Ext.refl _).alloc _⟩
    by_cases e8 : k' = 8
    · subst e8
      rw [if_neg (by decide), if_pos rfl]
      go_enter Try.func96, Try.ntmps96
      go_wp2_with fail
      go_ret
      exact ⟨rfl, (Ext.refl _).alloc _⟩
    have d7 : (k' == 7) = false := beq_eq_false_iff_ne.2 e7
    have d8 : (k' == 8) = false := beq_eq_false_iff_ne.2 e8
    rw [if_neg e7, if_neg e8]
    go_enter Try.func96, Try.ntmps96
    go_wp2_with fail
    go_ret
    exact ⟨rfl, (Ext.refl _).alloc _⟩
  · rw [show rdxT (.mk 10 n ks) = 0 from rfl]
    clear hops hK
    go_enter Try.func96, Try.ntmps96
    go_wp2_with fail
    go_ret
    exact ⟨rfl, (Ext.refl _).alloc _⟩
  · rw [show rdxT (.mk 11 n ks) = 0 from rfl]
    clear hops hK
    go_enter Try.func96, Try.ntmps96
    go_wp2_with fail
    go_ret
    exact ⟨rfl, (Ext.refl _).alloc _⟩
  · have hlen : ks.length = 3 := by have : (3 : Int) = (ks.length : Int) := hops; omega
    have hlt : (1 : Int) < (ks.length : Int) := by omega
    obtain ⟨b, o, k', n', A', cap', kids, rfl, hid, c0, c1, c2, -, -, -, -, -⟩ := hK.get ((Ext.refl w).alloc (.cells #[.int .i64 12, .int .i64 n, .slice A ks.length cap] 25)) (j := 1) (by omega)
    simp only [Nat.reduceMul] at c0
    clear c1 c2
    have hkd : kd ks 1 = .mk k' n' kids := kd_of (by omega) hid.out
    have hR : rdxT (.mk 12 n ks) = if k' = 11 then 4 else 0 := by show rdx 12 ks = _; unfold rdx; rw [hkd]; rfl
    rw [hR]
    clear hR hkd hid hops hK hlen
    by_cases e11 : k' = 11
    · subst e11
      rw [if_pos rfl]
      go_enter Try.func96, Try.ntmps96
      go_wp2_with fail
      go_ret
      exact ⟨rfl, (Ext.refl _).alloc _⟩
    have d11 : (k' == 11) = false := beq_eq_false_iff_ne.2 e11
    rw [if_neg e11]
    go_enter Try.func96, Try.ntmps96
    go_wp2_with fail
    go_ret
    exact ⟨rfl, (Ext.refl _).alloc _⟩
  · rw [show rdxT (.mk 13 n ks) = 0 from rfl]
    clear hops hK
    go_enter Try.func96, Try.ntmps96
    go_wp2_with fail
    go_ret
    exact ⟨rfl, (Ext.refl _).alloc _⟩
  · rw [show rdxT (.mk 14 n ks) = 0 from rfl]
    clear hops hK
    go_enter Try.func96, Try.ntmps96
    go_wp2_with fail
    go_ret
    exact ⟨rfl, (Ext.refl _).alloc _⟩
  · have hlen : ks.length = 1 := by have : (1 : Int) = (ks.length : Int) := hops; omega
    have hlt : (0 : Int) < (ks.length : Int) := by omega
    obtain ⟨b, o, k', n', A', cap', kids, rfl, hid, c0, c1, c2, -, -, -, -, -⟩ := hK.get ((Ext.refl w).alloc (.cells #[.int .i64 15, .int .i64 n, .slice A ks.length cap] 25)) (j := 0) (by omega)
    simp only [Nat.zero_mul, Nat.add_zero] at c0
    clear c1 c2
    have hkd : kd ks 0 = .mk k' n' kids := kd_of (by omega) hid.out
    have hR : rdxT (.mk 15 n ks) = if k' = 14 then 5 else 0 := by show rdx 15 ks = _; unfold rdx; rw [hkd]; rfl
    rw [hR]
    clear hR hkd hid hops hK hlen
    by_cases e14 : k' = 14
    · subst e14
      rw [if_pos rfl]
      go_enter Try.func96, Try.ntmps96
      go_wp2_with fail
      go_ret
      exact ⟨rfl, (Ext.refl _).alloc _⟩
    have d14 : (k' == 14) = false := beq_eq_false_iff_ne.2 e14
    rw [if_neg e14]
    go_enter Try.func96, Try.ntmps96
    go_wp2_with fail
    go_ret
    exact ⟨rfl, (Ext.refl _).alloc _⟩
  · have hlen : ks.length = 1 := by have : (1 : Int) = (ks.length : Int) := hops; omega
    have hlt : (0 : Int) < (ks.length : Int) := by omega
    obtain ⟨b, o, k', n', A', cap', kids, rfl, hid, c0, c1, c2, -, -, -, -, -⟩ := hK.get ((Ext.refl w).alloc (.cells #[.int .i64 16, .int .i64 n, .slice A ks.length cap] 25)) (j := 0) (by omega)
    simp only [Nat.zero_mul, Nat.add_zero] at c0
    clear c1 c2
    have hkd : kd ks 0 = .mk k' n' kids := kd_of (by omega) hid.out
    have hR : rdxT (.mk 16 n ks) = if k' = 14 then 6 else 0 := by show rdx 16 ks = _; unfold rdx; rw [hkd]; rfl
    rw [hR]
    clear hR hkd hid hops hK hlen
    by_cases e14 : k' = 14
    · subst e14
      rw [if_pos rfl]
      go_enter Try.func96, Try.ntmps96
      go_wp2_with fail
      go_ret
      exact ⟨rfl, (Ext.refl _).alloc _⟩
    have d14 : (k' == 14) = false := beq_eq_false_iff_ne.2 e14
    rw [if_neg e14]
    go_enter Try.func96, Try.ntmps96
    go_wp2_with fail
    go_ret
    exact ⟨rfl, (Ext.refl _).alloc _⟩
end Go.Proofs.Ytjgdckkeojehoaa

namespace Go.Proofs.Ytjgdckkeojehoaa
open Go.RowKit
set_option linter.unusedVariables false

/-- A slice of numbers in a block of S (or nil). -/
def PathAt (w : World) (S : Nat → Prop) (u : Value) (p : List Int) : Prop :=
  (u = .slice none 0 0 ∧ p = []) ∨ ∃ b o c, u = .slice (some ⟨b, o, none⟩) p.length c ∧ p.length ≤ c ∧ c ≤ maxLen ∧ S b ∧ ∀ j (h : j < p.length), w.cell? ⟨b, o + j, none⟩ = some (.int .i64 p[j])
theorem PathAt.mono {w w' : World} {S S' : Nat → Prop} {u : Value} {p : List Int} (hS : ∀ b, S b → S' b) (hw : ∀ b, S b → w'.heap[b]? = w.heap[b]?) (h : PathAt w S u p) : PathAt w' S' u p := by
  rcases h with h | ⟨b, o, c, rfl, h1, h2, h3, h4⟩
  · exact .inl h
  · exact .inr ⟨b, o, c, rfl, h1, h2, hS b h3, fun j hj => (World.cell?_of_block (w := w) (a := ⟨b, o + j, none⟩) (hw b h3)).trans (h4 j hj)⟩
theorem PathAt.oneCell {w : World} {S : Nat → Prop} {u : Value} {p : List Int} (h : PathAt w S u p) : u.oneCell' = true := by
  rcases h with ⟨rfl, _⟩ | ⟨b, o, c, rfl, _⟩ <;> rfl
theorem PathAt.slice {w : World} {S : Nat → Prop} {u : Value} {p : List Int} (h : PathAt w S u p) (hS : ∀ b, S b → b < w.heap.size) : ∃ A c, u = .slice A p.length c ∧ p.length ≤ c ∧ c ≤ maxLen ∧ Nums w A p := by
  rcases h with ⟨rfl, rfl⟩ | ⟨b, o, c, rfl, h1, h2, h3, h4⟩
  · exact ⟨none, 0, rfl, Nat.le_refl _, Nat.zero_le _, .inl rfl⟩
  · exact ⟨_, c, rfl, h1, h2, .inr ⟨b, o, rfl, hS b h3, h4⟩⟩
/-- A row of ints of the call's own is a path. -/
theorem ownsRow_path {w : World} {base : Nat} {e : TypeId} {v : Value} {p : List Int} (h : w.ownsRow base e 1 v p.length (p.map (Value.int .i64))) : PathAt w (fun b => base ≤ b ∧ b < w.heap.size ∧ v.ownBlock = some b) v p := by
  have hcl := fun g hg => h.cells (g := g) hg
  rcases h.2 with ⟨rfl, h0⟩ | ⟨g, c, cur, rfl, hb, hg, hn, hm, hcs, ht⟩
  · exact .inl ⟨rfl, List.eq_nil_of_length_eq_zero h0⟩
  · refine .inr ⟨g, 0, c, rfl, hn, hm, ⟨hb, lt_of_blk hg, rfl⟩, fun j hj => ?_⟩
    have := hcl g rfl j (.int .i64 p[j]) (by rw [List.getElem?_map, List.getElem?_eq_getElem hj]; rfl)
    rwa [Addr.add_lit] at this

def RowP (w : World) (S : Nat → Prop) (xs : List Value) (ps : List (List Int)) : Prop := xs.length = ps.length ∧ ∀ (j : Nat) (u : Value) (p : List Int), xs[j]? = some u → ps[j]? = some p → PathAt w S u p
theorem RowP.mono {w w' : World} {S S' : Nat → Prop} {xs : List Value} {ps : List (List Int)} (hS : ∀ b, S b → S' b) (hw : ∀ b, S b → w'.heap[b]? = w.heap[b]?) (h : RowP w S xs ps) : RowP w' S' xs ps :=
  ⟨h.1, fun j u p h1 h2 => (h.2 j u p h1 h2).mono hS hw⟩
theorem RowP.append {w : World} {S : Nat → Prop} {xs ys : List Value} {ps qs : List (List Int)} (h : RowP w S xs ps) (k : RowP w S ys qs) : RowP w S (xs ++ ys) (ps ++ qs) := by
  refine ⟨by simp [h.1, k.1], fun j u p h1 h2 => ?_⟩
  by_cases hj : j < xs.length
  · rw [List.getElem?_append_left hj] at h1
    rw [List.getElem?_append_left (by have := h.1; omega)] at h2
    exact h.2 j u p h1 h2
  · rw [List.getElem?_append_right (by omega)] at h1
    rw [List.getElem?_append_right (by have := h.1; omega)] at h2
    exact k.2 (j - xs.length) u p h1 (by rw [h.1]; exact h2)
theorem RowP.one {w : World} {S : Nat → Prop} {u : Value} {p : List Int} (h : PathAt w S u p) : RowP w S [u] [p] := by
  refine ⟨rfl, fun j u' p' h1 h2 => ?_⟩
  match j, h1, h2 with
  | 0, h1, h2 =>
    simp at h1 h2
    subst h1 h2
    exact h
  | j + 1, h1, h2 => simp at h1

/-- v is a slice of places that was built by append since W; the places are no older. -/
def GrowP (W w : World) (e : TypeId) (v : Value) (ps : List (List Int)) : Prop :=
  ∃ xs, w.ownsRow W.heap.size e 1 v ps.length xs ∧ RowP w (fun b => W.heap.size ≤ b ∧ b < w.heap.size ∧ v.ownBlock ≠ some b) xs ps
theorem GrowP.nil (W w : World) (e : TypeId) : GrowP W w e (.slice none 0 0) [] := ⟨[], World.ownsRow_nil _ _ _ _, rfl, fun j u p h => by simp at h⟩
theorem GrowP.lit {W w : World} {e : TypeId} {g : Nat} (hg : w.heap[g]? = some (.cells #[] e (0, 0))) (hW : W.heap.size ≤ g) : GrowP W w e (.slice (some ⟨g, 0, none⟩) 0 0) [] :=
  ⟨[], ⟨rfl, .inr ⟨g, 0, #[], rfl, hW, hg, Nat.le_refl _, Nat.zero_le _, rfl, rfl⟩⟩, rfl, fun j u p h => by simp at h⟩
theorem ownsRow_same1 {w w' : World} {base n' : Nat} {e : TypeId} {v : Value} {n : Nat} {xs : List Value} (h : w.ownsRow base e n' v n xs) (hb : ∀ g, v.ownBlock = some g → w'.heap[g]? = w.heap[g]?) : w'.ownsRow base e n' v n xs := by
  refine ⟨h.1, ?_⟩
  rcases h.2 with h | ⟨g, cap, cur, rfl, h1, h2, r⟩
  · exact .inl h
  · exact .inr ⟨g, cap, cur, rfl, h1, (hb g rfl).trans h2, r⟩
theorem GrowP.same {W w w' : World} {e : TypeId} {v : Value} {ps : List (List Int)} (h : GrowP W w e v ps) (hs : w.heap.size ≤ w'.heap.size) (hw : ∀ b, W.heap.size ≤ b → b < w.heap.size → w'.heap[b]? = w.heap[b]?) : GrowP W w' e v ps := by
  obtain ⟨xs, h1, h2⟩ := h
  exact ⟨xs, ownsRow_same1 h1 (fun g hg => hw g (h1.lt g hg).1 (h1.lt g hg).2), h2.mono (fun b hb => ⟨hb.1, Nat.lt_of_lt_of_le hb.2.1 hs, hb.2.2⟩) (fun b hb => hw b hb.1 hb.2.1)⟩
theorem GrowP.ext {W w w' : World} {e : TypeId} {v : Value} {ps : List (List Int)} (h : GrowP W w e v ps) (he : Ext w w') : GrowP W w' e v ps := h.same he.size (fun b _ hb => he.heap b hb)
theorem GrowP.since {W W' w : World} {e : TypeId} {v : Value} {ps : List (List Int)} (h : GrowP W w e v ps) (hs : W'.heap.size ≤ W.heap.size) : GrowP W' w e v ps := by
  obtain ⟨xs, h1, h2⟩ := h
  refine ⟨xs, ⟨h1.1, ?_⟩, h2.mono (fun b hb => ⟨Nat.le_trans hs hb.1, hb.2⟩) (fun _ _ => rfl)⟩
  rcases h1.2 with h | ⟨g, cap, cur, rfl, h1, r⟩
  · exact .inl h
  · exact .inr ⟨g, cap, cur, rfl, Nat.le_trans hs h1, r⟩
theorem GrowP.lt {W w : World} {e : TypeId} {v : Value} {ps : List (List Int)} (h : GrowP W w e v ps) {g : Nat} (hg : v.ownBlock = some g) : W.heap.size ≤ g ∧ g < w.heap.size := by
  obtain ⟨xs, h1, h2⟩ := h
  exact h1.lt g hg
theorem GrowP.slice {W w : World} {e : TypeId} {v : Value} {ps : List (List Int)} (h : GrowP W w e v ps) : ∃ A cap, v = .slice A ps.length cap ∧ ps.length ≤ cap ∧ cap ≤ maxLen ∧ (ps = [] ∨ ∃ b, A = some ⟨b, 0, none⟩) ∧ ∀ j (hj : j < ps.length), ∃ b u, A = some ⟨b, 0, none⟩ ∧ w.cell? ⟨b, j, none⟩ = some u ∧ PathAt w (fun b => W.heap.size ≤ b ∧ b < w.heap.size ∧ v.ownBlock ≠ some b) u ps[j] := by
  obtain ⟨xs, h1, h2⟩ := h
  have hcl := fun g hg => h1.cells (g := g) hg
  rcases h1.2 with ⟨rfl, h0⟩ | ⟨g, c, cur, rfl, hb, hg, hn, hm, hcs, ht⟩
  · refine ⟨none, 0, by rw [h0], by omega, Nat.zero_le _, .inl (List.eq_nil_of_length_eq_zero h0), fun j hj => by omega⟩
  · refine ⟨_, c, rfl, hn, hm, .inr ⟨g, rfl⟩, fun j hj => ?_⟩
    have hj' : j < xs.length := by rw [h2.1]; exact hj
    have h3 := hcl g rfl j xs[j] (List.getElem?_eq_getElem hj')
    rw [Addr.add_lit, Nat.zero_add] at h3
    exact ⟨g, _, rfl, h3, h2.2 j _ _ (List.getElem?_eq_getElem hj') (List.getElem?_eq_getElem hj)⟩

theorem Only.widen {L M : List Nat} {a w w' : World} (h : Only L a w) (k : Only M w w') (hM : ∀ b, b ∈ M → b ∈ L ∨ a.heap.size ≤ b) : Only L a w' :=
  ⟨k.os.trans h.os, k.tape.trans h.tape, k.output.trans h.output, Nat.le_trans h.size k.size, fun i hi hn => (k.block i (Nat.lt_of_lt_of_le hi h.size) (fun hm => by rcases hM i hm with h1 | h1; exact hn h1; omega)).trans (h.block i hi hn)⟩
theorem Only.ofExt {L : List Nat} {w w' : World} (h : Ext w w') : Only L w w' := ⟨h.os, h.tape, h.output, h.size, fun b hb _ => h.heap b hb⟩

/-- 'out = append(out, x)' on a row of one-cell elements, at one operation. -/
theorem wp_append_one {P : Program} (w : World) {o : Oper} {a : Act} {K : Act → World → Prop} {Q : Exit → Act → World → Prop} (s x : Operand) (t : TypeId)
    (ho : o.op = .call { callee := .builtin .append, args := #[s, x], argTypes := #[t, t] })
    (base : Nat) (e e' : TypeId) (i : TypeInfo) (z : Value) (bytes : Nat) (ht : P.underlying t = some (.slice e)) (hi : P.info? e = some i) (hz : i.zero = some z) (hsize : i.size = 1) (hby : i.bytes = bytes) (hb8 : bytes ≤ 64) (hzs : z.cells.size = 1)
    {v : Value} {n : Nat} {xs : List Value} {y : Value} {gx : Nat} (hy : y.oneCell' = true) (hs : a.eval s = v) (hown : w.ownsRow base e 1 v n xs)
    (hx : a.eval x = .slice (some ⟨gx, 0, none⟩) 1 1) (hgx : w.heap[gx]? = some (.cells #[y] e' (0, 0))) (hn : n < 1099511627776) (hbase : base ≤ w.heap.size)
    (h : ∀ v' w', w'.ownsRow base e 1 v' (n + 1) (xs ++ [y]) → w.grownBy w' v.ownBlock → (∀ g, v'.ownBlock = some g → v.ownBlock = some g ∨ w.heap.size ≤ g) → K (a.put o.dst v') w') : o.wp P a w K Q := by
  have hc : ∀ j u, [y][j]? = some u → w.cell? ((⟨gx, 0, none⟩ : Addr).add j) = some u := by
    intro j u hu
    rw [Addr.add_lit, Nat.zero_add, cell_of_blk hgx]
    simpa using hu
  have h1 : ∀ u ∈ [y], u.oneCell' = true := by intro u hu; rw [List.mem_singleton.1 hu]; exact hy
  have hb : (n + 1) * bytes ≤ 140737488355328 := Nat.le_trans (Nat.mul_le_mul (show n + 1 ≤ 1099511627776 by omega) hb8) (by decide)
  obtain ⟨v', w', hr, r1, r2, r3⟩ := run_append_own' (P := P) w base t o.type e i z 1 bytes ht hi hz hsize hby hzs (by decide) v n xs hown ⟨gx, 0, none⟩ 1 1 [y] rfl hc h1 (by unfold maxLen; omega) hb hbase
  unfold Oper.wp execOp
  simp only [ho, resolve, invoke, builtin, Sem.run_bind, Sem.run_pure, Result.andThen_ok, List.map_toArray, List.map_cons, List.map_nil, hs, hx, hr]
  exact h v' w' r1 r2 r3

/-- 'out = append(out, p)', p a place. -/
theorem wp_append_path {P : Program} (w : World) {o : Oper} {a : Act} {K : Act → World → Prop} {Q : Exit → Act → World → Prop} (s x : Operand) (t : TypeId)
    (ho : o.op = .call { callee := .builtin .append, args := #[s, x], argTypes := #[t, t] })
    (e e' : TypeId) (i : TypeInfo) (z : Value) (bytes : Nat) (ht : P.underlying t = some (.slice e)) (hi : P.info? e = some i) (hz : i.zero = some z) (hsize : i.size = 1) (hby : i.bytes = bytes) (hb8 : bytes ≤ 64) (hzs : z.cells.size = 1)
    {W : World} {v : Value} {ps : List (List Int)} {p : List Int} {y : Value} {gx : Nat} (hs : a.eval s = v) (hG : GrowP W w e v ps) (hW : W.heap.size ≤ w.heap.size)
    (hp : PathAt w (fun b => W.heap.size ≤ b ∧ b < w.heap.size ∧ v.ownBlock ≠ some b) y p)
    (hx : a.eval x = .slice (some ⟨gx, 0, none⟩) 1 1) (hgx : w.heap[gx]? = some (.cells #[y] e' (0, 0))) (hn : ps.length < 1099511627776)
    (h : ∀ v' w', GrowP W w' e v' (ps ++ [p]) → w.grownBy w' v.ownBlock → (∀ g, v'.ownBlock = some g → v.ownBlock = some g ∨ w.heap.size ≤ g) → K (a.put o.dst v') w') : o.wp P a w K Q := by
  obtain ⟨xs, h1, h2⟩ := hG
  refine wp_append_one w s x t ho W.heap.size e e' i z bytes ht hi hz hsize hby hb8 hzs hp.oneCell hs h1 hx hgx hn hW (fun v' w' r1 r2 r3 => ?_)
  have hS : ∀ b, W.heap.size ≤ b ∧ b < w.heap.size ∧ v.ownBlock ≠ some b → W.heap.size ≤ b ∧ b < w'.heap.size ∧ v'.ownBlock ≠ some b := fun b hb => by
    refine ⟨hb.1, Nat.lt_of_lt_of_le hb.2.1 r2.size, fun he => ?_⟩
    rcases r3 b he with h4 | h4
    · exact hb.2.2 h4
    · omega
  have hw : ∀ b, W.heap.size ≤ b ∧ b < w.heap.size ∧ v.ownBlock ≠ some b → w'.heap[b]? = w.heap[b]? := fun b hb => r2.block b hb.2.1 (fun he => hb.2.2 he.symm)
  exact h v' w' ⟨_, by simpa using r1, (h2.mono hS hw).append (RowP.one (hp.mono hS hw))⟩ r2 r3

/-- 'out = append(out, more...)', more a list of places. -/
theorem wp_append_paths {P : Program} (w : World) {o : Oper} {a : Act} {K : Act → World → Prop} {Q : Exit → Act → World → Prop} (s x : Operand) (t : TypeId)
    (ho : o.op = .call { callee := .builtin .append, args := #[s, x], argTypes := #[t, t] })
    (e : TypeId) (i : TypeInfo) (z : Value) (bytes : Nat) (ht : P.underlying t = some (.slice e)) (hi : P.info? e = some i) (hz : i.zero = some z) (hsize : i.size = 1) (hby : i.bytes = bytes) (hb8 : bytes ≤ 64) (hzs : z.cells.size = 1)
    {W W1 : World} {v u : Value} {ps qs : List (List Int)} (hs : a.eval s = v) (hG : GrowP W w e v ps) (hW : W.heap.size ≤ w.heap.size)
    (hx : a.eval x = u) (hu : GrowP W1 w e u qs) (hv : ∀ g, v.ownBlock = some g → g < W1.heap.size) (hW1 : W.heap.size ≤ W1.heap.size) (hn : ps.length + qs.length < 1099511627776)
    (h : ∀ v' w', GrowP W w' e v' (ps ++ qs) → w.grownBy w' v.ownBlock → (∀ g, v'.ownBlock = some g → v.ownBlock = some g ∨ w.heap.size ≤ g) → K (a.put o.dst v') w') : o.wp P a w K Q := by
  obtain ⟨xs, h1, h2⟩ := hG
  obtain ⟨ys, k1, k2⟩ := hu
  have hk := k2.mono (S' := fun b => W.heap.size ≤ b ∧ b < w.heap.size ∧ v.ownBlock ≠ some b) (fun b hb => ⟨Nat.le_trans hW1 hb.1, hb.2.1, fun he => by have := hv b he; omega⟩) (fun _ _ => rfl)
  have hcl := fun g hg => k1.cells (g := g) hg
  rcases k1.2 with ⟨rfl, h0⟩ | ⟨g, c, cur, rfl, hb, hg, hn', hm, hcs, ht'⟩
  · have hq : qs = [] := List.eq_nil_of_length_eq_zero h0
    subst hq
    have hr := run_append_owned_none (P := P) (w := w) W.heap.size t o.type e i 1 ht hi v ps.length xs h1
    unfold Oper.wp execOp
    simp only [ho, resolve, invoke, builtin, Sem.run_bind, Sem.run_pure, Result.andThen_ok, List.map_toArray, List.map_cons, List.map_nil, hs, hx, hr]
    exact (h v w ⟨xs, by simpa using h1, by simpa using h2⟩ ⟨rfl, rfl, rfl, Nat.le_refl _, fun _ _ _ => rfl⟩ (fun g hg => .inl hg))
  · have hy1 : ∀ u ∈ ys, u.oneCell' = true := by
      intro u hu
      obtain ⟨j, hj, rfl⟩ := List.getElem_of_mem hu
      exact (k2.2 j _ _ (List.getElem?_eq_getElem hj) (List.getElem?_eq_getElem (by rw [← k2.1]; exact hj))).oneCell
    have hbb : (ps.length + qs.length) * bytes ≤ 140737488355328 := Nat.le_trans (Nat.mul_le_mul (show ps.length + qs.length ≤ 1099511627776 by omega) hb8) (by decide)
    obtain ⟨v', w', hr, r1, r2, r3⟩ := run_append_own' (P := P) w W.heap.size t o.type e i z 1 bytes ht hi hz hsize hby hzs (by decide) v ps.length xs h1 ⟨g, 0, none⟩ qs.length c ys k1.1 (hcl g rfl) hy1 (by unfold maxLen; omega) hbb hW
    have hS : ∀ b, W.heap.size ≤ b ∧ b < w.heap.size ∧ v.ownBlock ≠ some b → W.heap.size ≤ b ∧ b < w'.heap.size ∧ v'.ownBlock ≠ some b := fun b hb => by
      refine ⟨hb.1, Nat.lt_of_lt_of_le hb.2.1 r2.size, fun he => ?_⟩
      rcases r3 b he with h4 | h4
      · exact hb.2.2 h4
      · omega
    have hw : ∀ b, W.heap.size ≤ b ∧ b < w.heap.size ∧ v.ownBlock ≠ some b → w'.heap[b]? = w.heap[b]? := fun b hb => r2.block b hb.2.1 (fun he => hb.2.2 he.symm)
    unfold Oper.wp execOp
    simp only [ho, resolve, invoke, builtin, Sem.run_bind, Sem.run_pure, Result.andThen_ok, List.map_toArray, List.map_cons, List.map_nil, hs, hx, hr]
    exact (h v' w' ⟨_, by simpa using r1, (h2.append hk).mono hS hw⟩ r2 r3)

/-- 'append(lit, path...)': a copy of a place behind a row of ints of the call's own. -/
theorem wp_append_ints {P : Program} (w : World) {o : Oper} {a : Act} {K : Act → World → Prop} {Q : Exit → Act → World → Prop} (s x : Operand) (t : TypeId)
    (ho : o.op = .call { callee := .builtin .append, args := #[s, x], argTypes := #[t, t] })
    (base : Nat) (e : TypeId) (i : TypeInfo) (z : Value) (bytes : Nat) (ht : P.underlying t = some (.slice e)) (hi : P.info? e = some i) (hz : i.zero = some z) (hsize : i.size = 1) (hby : i.bytes = bytes) (hb8 : bytes ≤ 64) (hzs : z.cells.size = 1)
    {v u : Value} {ns p : List Int} {S : Nat → Prop} (hs : a.eval s = v) (hG : w.ownsRow base e 1 v ns.length (ns.map (Value.int .i64))) (hW : base ≤ w.heap.size)
    (hx : a.eval x = u) (hu : PathAt w S u p) (hn : ns.length + p.length < 1099511627776)
    (h : ∀ v' w', w'.ownsRow base e 1 v' (ns ++ p).length ((ns ++ p).map (Value.int .i64)) → w.grownBy w' v.ownBlock → (∀ g, v'.ownBlock = some g → v.ownBlock = some g ∨ w.heap.size ≤ g) → K (a.put o.dst v') w') : o.wp P a w K Q := by
  rcases hu with ⟨rfl, rfl⟩ | ⟨b, o', c, rfl, h1, h2, h3, h4⟩
  · have hr := run_append_owned_none (P := P) (w := w) base t o.type e i 1 ht hi v ns.length _ hG
    unfold Oper.wp execOp
    simp only [ho, resolve, invoke, builtin, Sem.run_bind, Sem.run_pure, Result.andThen_ok, List.map_toArray, List.map_cons, List.map_nil, hs, hx, hr]
    exact (h v w (by simpa using hG) ⟨rfl, rfl, rfl, Nat.le_refl _, fun _ _ _ => rfl⟩ (fun g hg => .inl hg))
  · have hbb : (ns.length + p.length) * bytes ≤ 140737488355328 := Nat.le_trans (Nat.mul_le_mul (show ns.length + p.length ≤ 1099511627776 by omega) hb8) (by decide)
    obtain ⟨v', w', hr, r1, r2, r3⟩ := run_append_own' (P := P) w base t o.type e i z 1 bytes ht hi hz hsize hby hzs (by decide) v ns.length _ hG ⟨b, o', none⟩ p.length c (p.map (Value.int .i64)) (by simp)
      (fun j y hy => by
        rw [Addr.add_lit]
        rw [List.getElem?_map] at hy
        by_cases hj : j < p.length
        · rw [List.getElem?_eq_getElem hj] at hy
          rw [h4 j hj]
          exact hy
        · rw [List.getElem?_eq_none (by omega)] at hy
          cases hy)
      (fun y hy => by obtain ⟨n, _, rfl⟩ := List.mem_map.1 hy; rfl) (by unfold maxLen; omega) hbb hW
    unfold Oper.wp execOp
    simp only [ho, resolve, invoke, builtin, Sem.run_bind, Sem.run_pure, Result.andThen_ok, List.map_toArray, List.map_cons, List.map_nil, hs, hx, hr]
    exact (h v' w' (by simpa using r1) r2 r3)
theorem step_append_one {P : Program} (w : World) {ops : Array Oper} {o : Oper} {a : Act} {K : Act → World → Prop} {Q : Exit → Act → World → Prop} {E : Prop} (hgd : o.guard = none) (s x : Operand) (t : TypeId)
    (ho : o.op = .call { callee := .builtin .append, args := #[s, x], argTypes := #[t, t] })
    (base : Nat) (e e' : TypeId) (i : TypeInfo) (z : Value) (bytes : Nat) (ht : P.underlying t = some (.slice e)) (hi : P.info? e = some i) (hz : i.zero = some z) (hsize : i.size = 1) (hby : i.bytes = bytes) (hb8 : bytes ≤ 64) (hzs : z.cells.size = 1)
    {v : Value} {n : Nat} {xs : List Value} {y : Value} {gx : Nat} (hy : y.oneCell' = true) (hs : a.eval s = v) (hown : w.ownsRow base e 1 v n xs)
    (hx : a.eval x = .slice (some ⟨gx, 0, none⟩) 1 1) (hgx : w.heap[gx]? = some (.cells #[y] e' (0, 0))) (hn : n < 1099511627776) (hbase : base ≤ w.heap.size)
    (h : ∀ v' w', w'.ownsRow base e 1 v' (n + 1) (xs ++ [y]) → w.grownBy w' v.ownBlock → (∀ g, v'.ownBlock = some g → v.ownBlock = some g ∨ w.heap.size ≤ g) → K (a.put o.dst v') w') : if Region.wanted o (yielded ops a.tmps) = true then Oper.wp P o a w K Q else E := by
  rw [if_pos (by simp [Region.wanted, hgd])]
  exact wp_append_one w s x t ho base e e' i z bytes ht hi hz hsize hby hb8 hzs hy hs hown hx hgx hn hbase h
theorem wpList_append_path {P : Program} (w : World) {ops : Array Oper} {rest : List Oper} {o : Oper} {a : Act} {Q : Exit → Act → World → Prop} (hgd : o.guard = none) (s x : Operand) (t : TypeId)
    (ho : o.op = .call { callee := .builtin .append, args := #[s, x], argTypes := #[t, t] })
    (e e' : TypeId) (i : TypeInfo) (z : Value) (bytes : Nat) (ht : P.underlying t = some (.slice e)) (hi : P.info? e = some i) (hz : i.zero = some z) (hsize : i.size = 1) (hby : i.bytes = bytes) (hb8 : bytes ≤ 64) (hzs : z.cells.size = 1)
    {W : World} {v : Value} {ps : List (List Int)} {p : List Int} {y : Value} {gx : Nat} (hs : a.eval s = v) (hG : GrowP W w e v ps) (hW : W.heap.size ≤ w.heap.size)
    (hp : PathAt w (fun b => W.heap.size ≤ b ∧ b < w.heap.size ∧ v.ownBlock ≠ some b) y p)
    (hx : a.eval x = .slice (some ⟨gx, 0, none⟩) 1 1) (hgx : w.heap[gx]? = some (.cells #[y] e' (0, 0))) (hn : ps.length < 1099511627776)
    (h : ∀ v' w', GrowP W w' e v' (ps ++ [p]) → w.grownBy w' v.ownBlock → (∀ g, v'.ownBlock = some g → v.ownBlock = some g ∨ w.heap.size ≤ g) → wpList P ops Q rest (a.put o.dst v') w') : wpList P ops Q (o :: rest) a w :=
  wpList_plain hgd fun K hK => wp_append_path w s x t ho e e' i z bytes ht hi hz hsize hby hb8 hzs hs hG hW hp hx hgx hn (fun v' w' h1 h2 h3 => hK _ _ (h v' w' h1 h2 h3))
theorem step_append_path {P : Program} (w : World) {ops : Array Oper} {o : Oper} {a : Act} {K : Act → World → Prop} {Q : Exit → Act → World → Prop} {E : Prop} (hgd : o.guard = none) (s x : Operand) (t : TypeId)
    (ho : o.op = .call { callee := .builtin .append, args := #[s, x], argTypes := #[t, t] })
    (e e' : TypeId) (i : TypeInfo) (z : Value) (bytes : Nat) (ht : P.underlying t = some (.slice e)) (hi : P.info? e = some i) (hz : i.zero = some z) (hsize : i.size = 1) (hby : i.bytes = bytes) (hb8 : bytes ≤ 64) (hzs : z.cells.size = 1)
    {W : World} {v : Value} {ps : List (List Int)} {p : List Int} {y : Value} {gx : Nat} (hs : a.eval s = v) (hG : GrowP W w e v ps) (hW : W.heap.size ≤ w.heap.size)
    (hp : PathAt w (fun b => W.heap.size ≤ b ∧ b < w.heap.size ∧ v.ownBlock ≠ some b) y p)
    (hx : a.eval x = .slice (some ⟨gx, 0, none⟩) 1 1) (hgx : w.heap[gx]? = some (.cells #[y] e' (0, 0))) (hn : ps.length < 1099511627776)
    (h : ∀ v' w', GrowP W w' e v' (ps ++ [p]) → w.grownBy w' v.ownBlock → (∀ g, v'.ownBlock = some g → v.ownBlock = some g ∨ w.heap.size ≤ g) → K (a.put o.dst v') w') : if Region.wanted o (yielded ops a.tmps) = true then Oper.wp P o a w K Q else E := by
  rw [if_pos (by simp [Region.wanted, hgd])]
  exact wp_append_path w s x t ho e e' i z bytes ht hi hz hsize hby hb8 hzs hs hG hW hp hx hgx hn h
theorem wpList_append_paths {P : Program} (w : World) {ops : Array Oper} {rest : List Oper} {o : Oper} {a : Act} {Q : Exit → Act → World → Prop} (hgd : o.guard = none) (s x : Operand) (t : TypeId)
    (ho : o.op = .call { callee := .builtin .append, args := #[s, x], argTypes := #[t, t] })
    (e : TypeId) (i : TypeInfo) (z : Value) (bytes : Nat) (ht : P.underlying t = some (.slice e)) (hi : P.info? e = some i) (hz : i.zero = some z) (hsize : i.size = 1) (hby : i.bytes = bytes) (hb8 : bytes ≤ 64) (hzs : z.cells.size = 1)
    {W W1 : World} {v u : Value} {ps qs : List (List Int)} (hs : a.eval s = v) (hG : GrowP W w e v ps) (hW : W.heap.size ≤ w.heap.size)
    (hx : a.eval x = u) (hu : GrowP W1 w e u qs) (hv : ∀ g, v.ownBlock = some g → g < W1.heap.size) (hW1 : W.heap.size ≤ W1.heap.size) (hn : ps.length + qs.length < 1099511627776)
    (h : ∀ v' w', GrowP W w' e v' (ps ++ qs) → w.grownBy w' v.ownBlock → (∀ g, v'.ownBlock = some g → v.ownBlock = some g ∨ w.heap.size ≤ g) → wpList P ops Q rest (a.put o.dst v') w') : wpList P ops Q (o :: rest) a w :=
  wpList_plain hgd fun K hK => wp_append_paths w s x t ho e i z bytes ht hi hz hsize hby hb8 hzs hs hG hW hx hu hv hW1 hn (fun v' w' h1 h2 h3 => hK _ _ (h v' w' h1 h2 h3))
theorem step_append_paths {P : Program} (w : World) {ops : Array Oper} {o : Oper} {a : Act} {K : Act → World → Prop} {Q : Exit → Act → World → Prop} {E : Prop} (hgd : o.guard = none) (s x : Operand) (t : TypeId)
    (ho : o.op = .call { callee := .builtin .append, args := #[s, x], argTypes := #[t, t] })
    (e : TypeId) (i : TypeInfo) (z : Value) (bytes : Nat) (ht : P.underlying t = some (.slice e)) (hi : P.info? e = some i) (hz : i.zero = some z) (hsize : i.size = 1) (hby : i.bytes = bytes) (hb8 : bytes ≤ 64) (hzs : z.cells.size = 1)
    {W W1 : World} {v u : Value} {ps qs : List (List Int)} (hs : a.eval s = v) (hG : GrowP W w e v ps) (hW : W.heap.size ≤ w.heap.size)
    (hx : a.eval x = u) (hu : GrowP W1 w e u qs) (hv : ∀ g, v.ownBlock = some g → g < W1.heap.size) (hW1 : W.heap.size ≤ W1.heap.size) (hn : ps.length + qs.length < 1099511627776)
    (h : ∀ v' w', GrowP W w' e v' (ps ++ qs) → w.grownBy w' v.ownBlock → (∀ g, v'.ownBlock = some g → v.ownBlock = some g ∨ w.heap.size ≤ g) → K (a.put o.dst v') w') : if Region.wanted o (yielded ops a.tmps) = true then Oper.wp P o a w K Q else E := by
  rw [if_pos (by simp [Region.wanted, hgd])]
  exact wp_append_paths w s x t ho e i z bytes ht hi hz hsize hby hb8 hzs hs hG hW hx hu hv hW1 hn h
theorem wpList_append_ints {P : Program} (w : World) {ops : Array Oper} {rest : List Oper} {o : Oper} {a : Act} {Q : Exit → Act → World → Prop} (hgd : o.guard = none) (s x : Operand) (t : TypeId)
    (ho : o.op = .call { callee := .builtin .append, args := #[s, x], argTypes := #[t, t] })
    (base : Nat) (e : TypeId) (i : TypeInfo) (z : Value) (bytes : Nat) (ht : P.underlying t = some (.slice e)) (hi : P.info? e = some i) (hz : i.zero = some z) (hsize : i.size = 1) (hby : i.bytes = bytes) (hb8 : bytes ≤ 64) (hzs : z.cells.size = 1)
    {v u : Value} {ns p : List Int} {S : Nat → Prop} (hs : a.eval s = v) (hG : w.ownsRow base e 1 v ns.length (ns.map (Value.int .i64))) (hW : base ≤ w.heap.size)
    (hx : a.eval x = u) (hu : PathAt w S u p) (hn : ns.length + p.length < 1099511627776)
    (h : ∀ v' w', w'.ownsRow base e 1 v' (ns ++ p).length ((ns ++ p).map (Value.int .i64)) → w.grownBy w' v.ownBlock → (∀ g, v'.ownBlock = some g → v.ownBlock = some g ∨ w.heap.size ≤ g) → wpList P ops Q rest (a.put o.dst v') w') : wpList P ops Q (o :: rest) a w :=
  wpList_plain hgd fun K hK => wp_append_ints w s x t ho base e i z bytes ht hi hz hsize hby hb8 hzs hs hG hW hx hu hn (fun v' w' h1 h2 h3 => hK _ _ (h v' w' h1 h2 h3))
theorem step_append_ints {P : Program} (w : World) {ops : Array Oper} {o : Oper} {a : Act} {K : Act → World → Prop} {Q : Exit → Act → World → Prop} {E : Prop} (hgd : o.guard = none) (s x : Operand) (t : TypeId)
    (ho : o.op = .call { callee := .builtin .append, args := #[s, x], argTypes := #[t, t] })
    (base : Nat) (e : TypeId) (i : TypeInfo) (z : Value) (bytes : Nat) (ht : P.underlying t = some (.slice e)) (hi : P.info? e = some i) (hz : i.zero = some z) (hsize : i.size = 1) (hby : i.bytes = bytes) (hb8 : bytes ≤ 64) (hzs : z.cells.size = 1)
    {v u : Value} {ns p : List Int} {S : Nat → Prop} (hs : a.eval s = v) (hG : w.ownsRow base e 1 v ns.length (ns.map (Value.int .i64))) (hW : base ≤ w.heap.size)
    (hx : a.eval x = u) (hu : PathAt w S u p) (hn : ns.length + p.length < 1099511627776)
    (h : ∀ v' w', w'.ownsRow base e 1 v' (ns ++ p).length ((ns ++ p).map (Value.int .i64)) → w.grownBy w' v.ownBlock → (∀ g, v'.ownBlock = some g → v.ownBlock = some g ∨ w.heap.size ≤ g) → K (a.put o.dst v') w') : if Region.wanted o (yielded ops a.tmps) = true then Oper.wp P o a w K Q else E := by
  rw [if_pos (by simp [Region.wanted, hgd])]
  exact wp_append_ints w s x t ho base e i z bytes ht hi hz hsize hby hb8 hzs hs hG hW hx hu hn h
end Go.Proofs.Ytjgdckkeojehoaa

/-
  Lemmas towards the law, 9: Ord.
-/
import Derived.OrdersHeld
namespace Go.Proofs.Ytdkamgafpphdjaa.Ord
open Go
set_option linter.unusedVariables false

def dstOf (ops : Array Oper) (i : Nat) : Option Tmp := (ops[i]?).bind (·.dst)
def edges (ops : Array Oper) (i : Nat) : List Nat := ((ops[i]?).map fun o => (o.after.toList.filter (Region.binds .any)).map (·.on)).getD []
/-- Number i waits for number j, through others. -/
def waits (ops : Array Oper) : Nat → Nat → Nat → Bool
  | 0, _, _ => false
  | f + 1, i, j => (edges ops i).any fun k => k == j || waits ops f k j
def isOn (l : Array Bool) (i : Nat) : Bool := l.getD i false
/-- The first m that are still to come have temporaries of their own below N; the others that are to come wait for all of them; nobody waits for a later one; what was done has had what it waits for. -/
def okO (ops : Array Oper) (l : Array Bool) (m N : Nat) : Bool :=
  ((List.range m).all fun i => isOn l i || match dstOf ops i with
    | some d => decide (d < N) && (List.range i).all fun j => isOn l j || dstOf ops j != some d
    | none => false) &&
  (List.range (ops.size - m)).all (fun i => isOn l (m + i) || (List.range m).all fun j => isOn l j || waits ops ops.size (m + i) j) &&
  (List.range ops.size).all (fun i => (edges ops i).all fun k => decide (k < i) && (!isOn l i || isOn l k)) && decide (m ≤ ops.size) && decide (l.size = ops.size)
/-- The temporaries of the first m that are to come. -/
def isDst (ops : Array Oper) (l : Array Bool) (m : Nat) (t : Nat) : Bool := (List.range m).any fun j => !isOn l j && dstOf ops j == some t
def putN (ops : Array Oper) (v : Nat → Value) (s : Nat → Bool) (a : Act) : Nat → Act
  | 0 => a
  | n + 1 => if s n = true then (putN ops v s a n).put (dstOf ops n) (v n) else putN ops v s a n
def depO (ops : Array Oper) (l : Array Bool) (i j d : Nat) : Bool := (edges ops i).contains j && dstOf ops j == some d && !isOn l j
/-- How many of the first n are open. -/
def opnO (l : Array Bool) : Nat → Nat
  | 0 => 0
  | n + 1 => opnO l n + if isOn l n = true then 0 else 1
def doneO (l : Array Bool) (m : Nat) : Array Bool := (Array.range l.size).map fun i => decide (i < m) || isOn l i
section
variable (P : Program) (ops : Array Oper) (Q : Exit → Act → World → Prop) (l0 : Array Bool) (m : Nat) (E : World → World → Prop) (G : Nat → Value → World → Prop) (a0 : Act) (w0 : World)
/-- What is to be shown of number i, whatever was carried out ahead of it. -/
def StepO (i : Nat) (o : Oper) : Prop :=
  ∀ a w, E w0 w → (∀ t, isDst ops l0 m t = false → a.eval (.tmp t) = a0.eval (.tmp t)) → (∀ j d, depO ops l0 i j d = true → G j (a.eval (.tmp d)) w) →
    wpOp P ops Q i (fun a' w' => ∃ u, a' = a.put o.dst u ∧ E w w' ∧ G i u w') a w
def StepsO : Nat → List Oper → Prop
  | _, [] => True
  | i, o :: os => (isOn l0 i = true ∨ StepO P ops Q l0 m E G a0 w0 i o) ∧ StepsO (i + 1) os
end
section
variable {P : Program} {ops : Array Oper} {Q : Exit → Act → World → Prop} {l0 : Array Bool} {m : Nat} {E : World → World → Prop} {G : Nat → Value → World → Prop} {a0 : Act} {w0 : World}
/-- An operation without a guard. -/
theorem step_of {i : Nat} {o : Oper} {a : Act} {w : World} {R : Act → World → Prop} (ho : ops[i]? = some o) (hg : o.guard = none) (h : ∀ K : Act → World → Prop, (∀ a' w', R a' w' → K a' w') → o.wp P a w K Q) : wpOp P ops Q i R a w := by
  unfold wpOp
  rw [ho]
  simp only
  rw [if_pos]
  · exact .inl (h R fun _ _ h => h)
  · unfold Region.wanted
    rw [hg]
theorem StepsO.get {l : List Oper} : ∀ {i j : Nat} {o : Oper}, StepsO P ops Q l0 m E G a0 w0 i l → l[j]? = some o → isOn l0 (i + j) = true ∨ StepO P ops Q l0 m E G a0 w0 (i + j) o := by
  induction l with
  | nil => intro i j o h hj; simp at hj
  | cons x l ih =>
    intro i j o h hj
    cases j with
    | zero =>
      simp only [List.getElem?_cons_zero, Option.some.injEq] at hj
      subst hj
      exact h.1
    | succ j =>
      have := ih (j := j) h.2 (by simpa using hj)
      rwa [show i + 1 + j = i + (j + 1) by omega] at this
theorem putN_congr {v v' : Nat → Value} {s s' : Nat → Bool} (a : Act) : ∀ {n : Nat}, (∀ j, j < n → s j = s' j ∧ (s j = true → v j = v' j)) → putN ops v s a n = putN ops v' s' a n
  | 0, _ => rfl
  | n + 1, h => by
    have ih := putN_congr a (n := n) fun j hj => h j (by omega)
    obtain ⟨h1, h2⟩ := h n (by omega)
    unfold putN
    rw [ih, ← h1]
    split
    · rename_i hs
      rw [h2 hs]
    · rfl
theorem ok_dst {N : Nat} (h : okO ops l0 m N = true) {i : Nat} (hi : i < m) (hl : isOn l0 i = false) : ∃ d, dstOf ops i = some d ∧ d < N ∧ ∀ j, j < i → isOn l0 j = false → dstOf ops j ≠ some d := by
  unfold okO at h
  simp only [Bool.and_eq_true, List.all_eq_true, List.mem_range] at h
  have := h.1.1.1.1 i hi
  rw [hl, Bool.false_or] at this
  split at this
  · rename_i d hd
    simp only [Bool.and_eq_true, decide_eq_true_eq, List.all_eq_true, List.mem_range, bne_iff_ne, Bool.or_eq_true] at this
    refine ⟨d, hd, this.1, fun j hj hjl => (this.2 j hj).resolve_left (by rw [hjl]; decide)⟩
  · cases this
theorem ok_ne {N : Nat} (h : okO ops l0 m N = true) {i j : Nat} (hi : i < m) (hj : j < m) (li : isOn l0 i = false) (lj : isOn l0 j = false) (hne : i ≠ j) {d : Tmp} (hd : dstOf ops i = some d) : dstOf ops j ≠ some d := by
  rcases Nat.lt_or_gt_of_ne hne with hlt | hlt
  · intro e
    obtain ⟨d', h1, -, h2⟩ := ok_dst h hj lj
    rw [e] at h1
    simp only [Option.some.injEq] at h1
    subst h1
    exact h2 i hlt li hd
  · obtain ⟨d', h1, -, h2⟩ := ok_dst h hi li
    rw [hd] at h1
    simp only [Option.some.injEq] at h1
    subst h1
    exact h2 j hlt lj
theorem putN_set {N : Nat} (h : okO ops l0 m N = true) {v : Nat → Value} {s : Nat → Bool} (a : Act) (hsl : ∀ j, s j = true → isOn l0 j = false) {i : Nat} (hs : s i = false) (hi0 : isOn l0 i = false) (u : Value) : ∀ {n : Nat}, i < n → n ≤ m →
    putN ops (fun j => if j = i then u else v j) (fun j => if j = i then true else s j) a n = (putN ops v s a n).put (dstOf ops i) u
  | 0, hi, _ => by omega
  | n + 1, hi, hn => by
    by_cases e : n = i
    · subst e
      have e1 : (if n = n then true else s n) = true := if_pos rfl
      have e2 : ¬ s n = true := by rw [hs]; decide
      have e3 : (if n = n then u else v n) = u := if_pos rfl
      unfold putN
      rw [if_pos e1, if_neg e2, e3]
      rw [putN_congr a (v := fun j => if j = n then u else v j) (s := fun j => if j = n then true else s j) (v' := v) (s' := s) (fun j hj => ⟨by rw [if_neg (by omega)], fun _ => by rw [if_neg (by omega)]⟩)]
    · have ih := putN_set h (v := v) a hsl hs hi0 u (n := n) (by omega) (by omega)
      unfold putN
      rw [if_neg e, if_neg e, ih]
      split
      · rename_i hsn
        rw [Act.put_comm]
        intro d hd
        exact ok_ne h (by omega) (by omega) hi0 (hsl n hsn) (Ne.symm e) hd
      · rfl
theorem put_size (a : Act) (x : Option Tmp) (v : Value) : (a.put x v).tmps.size = a.tmps.size := by
  cases x <;> simp [Act.put]
theorem putN_size (v : Nat → Value) (s : Nat → Bool) (a : Act) : ∀ n, (putN ops v s a n).tmps.size = a.tmps.size
  | 0 => rfl
  | n + 1 => by
    unfold putN
    split
    · rw [put_size, putN_size]
    · exact putN_size v s a n
theorem eval_put (a : Act) (d : Tmp) (v : Value) (t : Tmp) : (a.put (some d) v).eval (.tmp t) = if d = t then (if t < a.tmps.size then v else undef) else a.eval (.tmp t) := by
  show (a.tmps.setIfInBounds d v).getD t undef = _
  rw [Array.getD_eq_getD_getElem?, Array.getElem?_setIfInBounds]
  split
  · rename_i h
    subst h
    split <;> rfl
  · rw [show a.eval (.tmp t) = a.tmps.getD t undef from rfl, Array.getD_eq_getD_getElem?]
theorem putN_miss (v : Nat → Value) (s : Nat → Bool) (a : Act) (t : Tmp) : ∀ {n : Nat}, (∀ j, j < n → s j = true → dstOf ops j ≠ some t) → (putN ops v s a n).eval (.tmp t) = a.eval (.tmp t)
  | 0, _ => rfl
  | n + 1, h => by
    have ih := putN_miss v s a t (n := n) fun j hj => h j (by omega)
    unfold putN
    split
    · rename_i hs
      cases hd : dstOf ops n with
      | none => exact ih
      | some d =>
        rw [eval_put, if_neg, ih]
        intro e
        exact h n (by omega) hs (by rw [hd, e])
    · exact ih
theorem putN_hit {N : Nat} (h : okO ops l0 m N = true) (v : Nat → Value) (s : Nat → Bool) (hsl : ∀ j, s j = true → isOn l0 j = false) (a : Act) (hN : a.tmps.size = N) {k : Nat} {d : Tmp} (hd : dstOf ops k = some d) (hk : s k = true) : ∀ {n : Nat}, k < n → n ≤ m → (putN ops v s a n).eval (.tmp d) = v k
  | 0, hi, _ => by omega
  | n + 1, hi, hn => by
    by_cases e : n = k
    · subst e
      unfold putN
      rw [if_pos hk, hd, eval_put, if_pos rfl, if_pos]
      rw [putN_size, hN]
      obtain ⟨d', h1, h2, -⟩ := ok_dst h (i := n) (by omega) (hsl _ hk)
      rw [hd] at h1
      simp only [Option.some.injEq] at h1
      subst h1
      exact h2
    · have ih := putN_hit h v s hsl a hN hd hk (n := n) (by omega) (by omega)
      unfold putN
      split
      · rename_i hsn
        cases hd' : dstOf ops n with
        | none => exact ih
        | some d' =>
          rw [eval_put, if_neg, ih]
          intro e'
          subst e'
          exact ok_ne h (by omega) (by omega) (hsl _ hk) (hsl _ hsn) (Ne.symm e) hd hd'
      · exact ih
theorem waits_listed {l : Nat → Bool} (hd : ∀ i, l i = true → ∀ k ∈ edges ops i, l k = true) : ∀ (f i j : Nat), (∀ k ∈ edges ops i, l k = true) → waits ops f i j = true → l j = true
  | 0, _, _, _, h => by cases h
  | f + 1, i, j, hi, h => by
    unfold waits at h
    simp only [List.any_eq_true, Bool.or_eq_true, beq_iff_eq] at h
    obtain ⟨k, hk, h⟩ := h
    rcases h with rfl | h
    · exact hi k hk
    · exact waits_listed hd f k j (hd k (hi k hk)) h
theorem ready_edges {listed : Array Bool} {i : Nat} (h : i ∈ Region.ready .any ops listed) : listed.getD i true = false ∧ (∃ o, ops[i]? = some o) ∧ ∀ k ∈ edges ops i, isOn listed k = true := by
  obtain ⟨h1, o, h2, h3⟩ := mem_ready.1 h
  refine ⟨h1, ⟨o, h2⟩, fun k hk => ?_⟩
  unfold edges at hk
  rw [h2] at hk
  simp only [Option.map_some, Option.getD_some, List.mem_map, List.mem_filter] at hk
  obtain ⟨e, ⟨he1, he2⟩, rfl⟩ := hk
  exact h3 e (by simpa using he1) he2
theorem ready_of {listed : Array Bool} {i : Nat} (hi : i < ops.size) (h : listed.getD i true = false) (he : ∀ k ∈ edges ops i, isOn listed k = true) : i ∈ Region.ready .any ops listed := by
  refine mem_ready.2 ⟨h, ops[i], by simp [hi], fun e h1 h2 => he e.on ?_⟩
  unfold edges
  rw [show ops[i]? = some ops[i] by simp [hi]]
  simp only [Option.map_some, Option.getD_some, List.mem_map, List.mem_filter]
  exact ⟨e, ⟨by simpa using h1, h2⟩, rfl⟩
theorem opn_le {l l' : Array Bool} (h : ∀ j, isOn l j = true → isOn l' j = true) : ∀ n, opnO l' n ≤ opnO l n
  | 0 => Nat.le_refl _
  | n + 1 => by
    have ih := opn_le h n
    unfold opnO
    split
    · omega
    · rename_i h1
      rw [if_neg (fun h2 => h1 (h n h2))]
      omega
theorem opn_set {l l' : Array Bool} {i : Nat} (h0 : isOn l i = false) (h1 : isOn l' i = true) (h : ∀ j, j ≠ i → isOn l' j = isOn l j) : ∀ {n : Nat}, opnO l n = opnO l' n + if i < n then 1 else 0
  | 0 => by simp [opnO]
  | n + 1 => by
    have ih := opn_set h0 h1 h (n := n)
    unfold opnO
    by_cases e : n = i
    · subst e
      rw [ih, h0, h1]
      simp
    · rw [ih, h n e]
      by_cases hlt : i < n
      · rw [if_pos hlt, if_pos (by omega : i < n + 1)]
        omega
      · have hlt2 : ¬ i < n + 1 := by omega
        rw [if_neg hlt, if_neg hlt2]
        omega
theorem least {p : Nat → Bool} : ∀ {n : Nat}, (∃ j, j < n ∧ p j = false) → ∃ j, j < n ∧ p j = false ∧ ∀ k, k < j → p k = true
  | 0, h => by obtain ⟨j, hj, -⟩ := h; omega
  | n + 1, h => by
    by_cases hq : ∃ j, j < n ∧ p j = false
    · obtain ⟨j, h1, h2⟩ := least hq
      exact ⟨j, by omega, h2⟩
    · obtain ⟨j, h1, h2⟩ := h
      have : j = n := by
        apply Classical.byContradiction
        intro e
        exact hq ⟨j, by omega, h2⟩
      subst this
      refine ⟨j, h1, h2, fun k hk => ?_⟩
      cases hp : p k with
      | true => rfl
      | false => exact absurd ⟨k, hk, hp⟩ hq
/-- The rest of the region from a state in which some operations are done. -/
theorem wpAnyH_order {S : World → Prop} {N fuel fT : Nat} {lT : Array Bool} (hok : okO ops l0 m N = true) (hN : a0.tmps.size = N) (hf : fuel = opnO l0 ops.size) (hlT : doneO l0 m = lT) (hfT : opnO lT ops.size = fT)
    (hE0 : E w0 w0) (hE : ∀ u v w, E u v → E v w → E u w) (hG : ∀ i v w w', G i v w → E w w' → G i v w') (hS : ∀ w, E w0 w → S w)
    (steps : StepsO P ops Q l0 m E G a0 w0 0 (ops.toList.take m))
    (fin : ∀ (v : Nat → Value) w, E w0 w → (∀ j, j < m → isOn l0 j = false → G j (v j) w) → wpAnyH P .any ops Q S fT lT (putN ops v (fun j => !isOn l0 j) a0 m) w) :
    wpAnyH P .any ops Q S fuel l0 a0 w0 := by
  subst hlT
  subst hfT
  have hok2 := hok
  unfold okO at hok2
  simp only [Bool.and_eq_true, decide_eq_true_eq, List.all_eq_true, List.mem_range, Bool.or_eq_true, Bool.not_eq_true'] at hok2
  obtain ⟨⟨⟨⟨-, hupb⟩, hlowb⟩, hm⟩, hlsz⟩ := hok2
  have hlow : ∀ i, i < ops.size → ∀ k ∈ edges ops i, k < i := fun i hi k hk => (hlowb i hi k hk).1
  have hdn0 : ∀ i, isOn l0 i = true → ∀ k ∈ edges ops i, isOn l0 k = true := fun i hl k hk => by
    by_cases hi : i < ops.size
    · exact (hlowb i hi k hk).2.resolve_left (by rw [hl]; decide)
    · unfold edges at hk
      rw [show ops[i]? = none from Array.getElem?_eq_none (by omega)] at hk
      simp at hk
  have hup : ∀ i, m ≤ i → i < ops.size → isOn l0 i = false → ∀ j, j < m → isOn l0 j = false → waits ops ops.size i j = true := fun i h1 h2 hi j hj hl => by
    have := hupb (i - m) (by omega)
    rw [show m + (i - m) = i by omega] at this
    have := this.resolve_left (by rw [hi]; decide) j hj
    exact this.resolve_left (by rw [hl]; decide)
  have hsl : ∀ listed : Array Bool, ∀ j, (isOn listed j && !isOn l0 j) = true → isOn l0 j = false := fun listed j h => by
    simp only [Bool.and_eq_true, Bool.not_eq_true'] at h
    exact h.2
  have main : ∀ (fuel : Nat) (listed : Array Bool) (a : Act) (w : World) (v : Nat → Value), listed.size = ops.size → (∀ i, m ≤ i → isOn listed i = isOn l0 i) → (∀ i, isOn l0 i = true → isOn listed i = true) →
      (∀ i, isOn listed i = true → ∀ k ∈ edges ops i, isOn listed k = true) → a = putN ops v (fun j => isOn listed j && !isOn l0 j) a0 m → (∀ j, j < m → isOn listed j = true → isOn l0 j = false → G j (v j) w) → E w0 w →
      fuel = opnO listed ops.size → wpAnyH P .any ops Q S fuel listed a w := by
    intro fuel
    have done : ∀ (fuel : Nat) (listed : Array Bool) (a : Act) (w : World) (v : Nat → Value), listed.size = ops.size → (∀ i, m ≤ i → isOn listed i = isOn l0 i) → a = putN ops v (fun j => isOn listed j && !isOn l0 j) a0 m → (∀ j, j < m → isOn listed j = true → isOn l0 j = false → G j (v j) w) → E w0 w →
        fuel = opnO listed ops.size → (∀ j, j < m → isOn listed j = true) → wpAnyH P .any ops Q S fuel listed a w := by
      intro fuel listed a w v hsz h1 ha hg he hf hall
      have hl : listed = doneO l0 m := by
        apply Array.ext
        · simp [doneO, hsz, hlsz]
        · intro i hi1 hi2
          have e1 : isOn listed i = listed[i] := by simp [isOn, Array.getD_eq_getD_getElem?, hi1]
          have e2 : (doneO l0 m)[i] = (decide (i < m) || isOn l0 i) := by simp [doneO]
          rw [← e1, e2]
          by_cases hi : i < m
          · rw [hall i hi]; simp [hi]
          · rw [h1 i (by omega)]; simp [hi]
      subst hl
      subst ha
      subst hf
      rw [putN_congr (v' := v) (s' := fun j => !isOn l0 j) a0 (fun j hj => ⟨by rw [hall j hj, Bool.true_and], fun _ => rfl⟩)]
      exact fin v w he (fun j hj hl => hg j hj (hall j hj) hl)
    induction fuel with
    | zero =>
      intro listed a w v hsz h1 hmo h2 ha hg he hf
      refine done 0 listed a w v hsz h1 ha hg he hf fun j hj => ?_
      have : ∀ n, opnO listed n = 0 → ∀ j, j < n → isOn listed j = true := by
        intro n
        induction n with
        | zero => intro _ j hj; omega
        | succ n ih =>
          intro h j hj
          unfold opnO at h
          by_cases e : j = n
          · subst e
            split at h
            · assumption
            · omega
          · exact ih (by omega) j (by omega)
      exact this ops.size hf.symm j (by omega)
    | succ fuel ih =>
      intro listed a w v hsz h1 hmo h2 ha hg he hf
      by_cases hall : ∀ j, j < m → isOn listed j = true
      · exact done _ listed a w v hsz h1 ha hg he hf hall
      · obtain ⟨j0, hj0, hj1, hj2⟩ := least (p := isOn listed) (n := m) (by
          apply Classical.byContradiction
          intro h
          exact hall fun j hj => by
            cases hp : isOn listed j with
            | true => rfl
            | false => exact absurd ⟨j, hj, hp⟩ h)
        have gt : ∀ i, i < ops.size → listed.getD i true = isOn listed i := fun i hi => by
          simp [isOn, Array.getD_eq_getD_getElem?, show i < listed.size by omega]
        refine ⟨fun h0 => ?_, fun i hi => ?_⟩
        · have hr : j0 ∈ Region.ready .any ops listed := ready_of (by omega) (by rw [gt _ (by omega)]; exact hj1) (fun k hk => hj2 k (hlow j0 (by omega) k hk))
          rw [h0] at hr
          cases hr
        · obtain ⟨r1, ⟨o, ho⟩, r3⟩ := ready_edges hi
          have hin : i < ops.size := (Array.getElem?_eq_some_iff.1 ho).1
          have hi0 : isOn listed i = false := by rw [← gt i hin]; exact r1
          have hil : isOn l0 i = false := by
            cases hp : isOn l0 i with
            | false => rfl
            | true => rw [hmo i hp] at hi0; cases hi0
          have hj0l : isOn l0 j0 = false := by
            cases hp : isOn l0 j0 with
            | false => rfl
            | true => rw [hmo j0 hp] at hj1; cases hj1
          have him : i < m := by
            apply Classical.byContradiction
            intro hge
            have := waits_listed (l := isOn listed) h2 ops.size i j0 r3 (hup i (by omega) hin hil j0 hj0 hj0l)
            rw [hj1] at this
            cases this
          have hst := StepsO.get (j := i) steps (by rw [List.getElem?_take, if_pos him]; simpa using ho)
          rw [Nat.zero_add] at hst
          have hst := hst.resolve_left (by rw [hil]; decide)
          have hd : (dstOf ops i) = o.dst := by unfold dstOf; rw [ho]; rfl
          have hsi : (isOn listed i && !isOn l0 i) = false := by rw [hi0]; rfl
          refine wpOp_mono ?_ (hst a w he ?_ ?_)
          · rintro a' w' ⟨u, rfl, he', hg'⟩
            have hset : ∀ j, isOn (listed.setIfInBounds i true) j = if j = i then true else isOn listed j := fun j => by
              unfold isOn
              by_cases e : j = i
              · subst e
                rw [if_pos rfl]
                simp [Array.getD_eq_getD_getElem?, show j < listed.size by omega]
              · rw [if_neg e]
                simp [Array.getD_eq_getD_getElem?, Array.getElem?_setIfInBounds_ne (Ne.symm e)]
            refine ⟨hS _ (hE _ _ _ he he'), ih (listed.setIfInBounds i true) _ w' (fun j => if j = i then u else v j) (by simpa using hsz) ?_ ?_ ?_ ?_ ?_ (hE _ _ _ he he') ?_⟩
            · intro j hj
              rw [hset, if_neg (by omega)]
              exact h1 j hj
            · intro j hj
              rw [hset]
              split
              · rfl
              · exact hmo j hj
            · intro j hj k hk
              rw [hset] at hj ⊢
              by_cases e : k = i
              · rw [if_pos e]
              · rw [if_neg e]
                by_cases e2 : j = i
                · subst e2; exact r3 k hk
                · rw [if_neg e2] at hj
                  exact h2 j hj k hk
            · rw [ha, ← hd, ← putN_set hok (s := fun j => isOn listed j && !isOn l0 j) a0 (hsl listed) hsi hil u him (Nat.le_refl _)]
              refine putN_congr a0 (fun j hj => ⟨?_, fun _ => rfl⟩)
              simp only [hset]
              by_cases e : j = i
              · rw [if_pos e, if_pos e, e, hil]; rfl
              · rw [if_neg e, if_neg e]
            · intro j hj hl hjl
              by_cases e : j = i
              · simp only [if_pos e]; rw [e]; exact hg'
              · simp only [if_neg e]
                rw [hset, if_neg e] at hl
                exact hG _ _ _ _ (hg j hj hl hjl) he'
            · have := opn_set (l := listed) (l' := listed.setIfInBounds i true) (i := i) hi0 (by rw [hset, if_pos rfl]) (fun j hj => by rw [hset, if_neg hj]) (n := ops.size)
              rw [if_pos hin] at this
              omega
          · intro t ht
            rw [ha, putN_miss]
            intro j hj hs e
            unfold isDst at ht
            rw [List.any_eq_false] at ht
            refine ht j (List.mem_range.2 hj) ?_
            rw [hsl listed j hs, e]
            simp
          · intro j d hjd
            unfold depO at hjd
            simp only [Bool.and_eq_true, beq_iff_eq, List.contains_iff_mem, Bool.not_eq_true'] at hjd
            have hjl := r3 j hjd.1.1
            have hji := hlow i hin j hjd.1.1
            rw [ha, putN_hit hok v _ (hsl listed) a0 hN hjd.1.2 (by rw [hjl, hjd.2]; rfl) (by omega) (Nat.le_refl _)]
            exact hg j (by omega) hjl hjd.2
  refine main fuel l0 a0 w0 (fun _ => undef) hlsz (fun _ _ => rfl) (fun _ h => h) hdn0 ?_ ?_ hE0 hf
  · have : ∀ n, putN ops (fun _ => undef) (fun j => isOn l0 j && !isOn l0 j) a0 n = a0 := fun n => by
      induction n with
      | zero => rfl
      | succ n ih =>
        unfold putN
        rw [if_neg, ih]
        simp
    exact (this m).symm
  · intro j hj hl hl2
    rw [hl] at hl2
    cases hl2
/-- All of the first m are put. -/
def putO (ops : Array Oper) (v : Nat → Value) (a : Act) : Nat → Act
  | 0 => a
  | n + 1 => (putO ops v a n).put (dstOf ops n) (v n)
theorem putN_all (v : Nat → Value) (a : Act) (k : Nat) : ∀ n, putN ops v (fun j => !isOn (Array.replicate k false) j) a n = putO ops v a n
  | 0 => rfl
  | n + 1 => by
    unfold putN putO
    rw [putN_all v a k n, if_pos]
    unfold isOn
    rw [Array.getD_eq_getD_getElem?, Array.getElem?_replicate]
    split <;> rfl
end
end Go.Proofs.Ytdkamgafpphdjaa.Ord


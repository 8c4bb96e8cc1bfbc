/-
  Lemmas towards the law, 11: Valid, OrdG.
-/
import Derived.Test.YtdkamgafpphdjaaEAH
import Derived.Test.YtdkamgafpphdjaaEAI
namespace Go.Proofs.Ytdkamgafpphdjaa
set_option linter.unusedVariables false
def inR (n lo hi : Int) : Bool := decide (lo ≤ n) && decide (n ≤ hi)
theorem inR_iff {n lo hi : Int} : inR n lo hi = true ↔ lo ≤ n ∧ n ≤ hi := by simp [inR]
theorem inR_false {n lo hi : Int} : inR n lo hi = false ↔ n < lo ∨ hi < n := by
  rw [Bool.eq_false_iff, Ne, inR_iff]
  omega
/-- The operands and the greatest N of a kind, for terms and for programs. -/
structure Sig where
  ops : Int → Int
  most : Int → Int
def opsT (k : Int) : Int := if k = 1 then 0 else if k = 2 then 0 else if k = 3 then 2 else if k = 4 then 2 else if k = 5 then 2 else if k = 6 then 0 else if k = 7 then 0 else if k = 8 then 1 else if k = 9 then 4 else if k = 10 then 3 else if k = 11 then 1 else if k = 12 then 3 else if k = 13 then 2 else if k = 14 then 3 else if k = 15 then 1 else if k = 16 then 1 else -1
def mostT (k : Int) : Int := if k = 1 then 20 else if k = 2 then 3 else 0
def sigT : Sig := ⟨opsT, mostT⟩
/-- The node by itself is in order. -/
def headOk (g : Sig) (k n : Int) (len : Nat) : Bool := decide (g.ops k = (len : Int)) && inR n 0 (g.most k)
mutual
def shape (g : Sig) : Tr → Int → Bool
  | .mk k n ks, depth => decide (1 ≤ depth) && (headOk g k n ks.length && shapes g ks (depth - 1))
def shapes (g : Sig) : List Tr → Int → Bool
  | [], _ => true
  | t :: ts, depth => shape g t depth && shapes g ts depth
end
def valid (g : Sig) (t : Tr) : Bool := shape g t 30 && decide (cnt t ≤ 400)
mutual
/-- Counting up to a number. -/
def cntM : Tr → Int → Int
  | .mk _ _ ks, most => cntMs ks most 1
def cntMs : List Tr → Int → Int → Int
  | [], _, n => n
  | t :: ts, most, n => if n ≤ most then cntMs ts most (n + cntM t (most - n)) else n
end
mutual
theorem cntM_le : ∀ (t : Tr) (most : Int), 0 ≤ most → 1 ≤ cntM t most ∧ cntM t most ≤ most + 1 ∧ (cntM t most ≤ most ↔ (cnt t : Int) ≤ most) ∧ (cntM t most ≤ most → cntM t most = cnt t)
  | .mk _ _ ks, most, h => by
    have := cntMs_le ks most 1 (by omega) (by omega)
    simp only [cntM, cnt]
    omega
theorem cntMs_le : ∀ (ts : List Tr) (most n : Int), 1 ≤ n → n ≤ most + 1 → n ≤ cntMs ts most n ∧ cntMs ts most n ≤ most + 1 ∧ (cntMs ts most n ≤ most ↔ n + cnts ts ≤ most) ∧ (cntMs ts most n ≤ most → cntMs ts most n = n + cnts ts)
  | [], most, n, h, h' => by simp only [cntMs, cnts]; omega
  | t :: ts, most, n, h, h' => by
    simp only [cntMs, cnts]
    by_cases hn : n ≤ most
    · rw [if_pos hn]
      have h1 := cntM_le t (most - n) (by omega)
      have h2 := cntMs_le ts most (n + cntM t (most - n)) (by omega) (by omega)
      have h3 := cnt_pos t
      omega
    · rw [if_neg hn]
      have h3 := cnt_pos t
      omega
end
theorem valid_iff {g : Sig} {t : Tr} : valid g t = (shape g t 30 && decide (cntM t 400 ≤ 400)) := by
  have := (cntM_le t 400 (by omega)).2.2.1
  unfold valid
  congr 1
  rw [Bool.eq_iff_iff, decide_eq_true_iff, decide_eq_true_iff]
  omega
mutual
/-- The other way of looking: a count that goes up, and stops. -/
def scanR (g : Sig) : Tr → Int → Int → Bool × Int
  | .mk k n ks, deep, c => if 400 < c + 1 then (false, c + 1) else if 30 < deep then (false, c + 1) else if g.ops k = (ks.length : Int) then (if inR n 0 (g.most k) = true then scanRs g ks (deep + 1) (c + 1) else (false, c + 1)) else (false, c + 1)
def scanRs (g : Sig) : List Tr → Int → Int → Bool × Int
  | [], _, c => (true, c)
  | t :: ts, deep, c => if (scanR g t deep c).1 = true then scanRs g ts deep (scanR g t deep c).2 else (false, (scanR g t deep c).2)
end
mutual
theorem scanR_spec (g : Sig) : ∀ (t : Tr) (deep c : Int), 0 ≤ c → c ≤ 400 → (scanR g t deep c).1 = (shape g t (31 - deep) && decide (c + cnt t ≤ 400)) ∧ ((scanR g t deep c).1 = true → (scanR g t deep c).2 = c + cnt t) ∧ c ≤ (scanR g t deep c).2 ∧ (scanR g t deep c).2 ≤ 401 ∧ ((scanR g t deep c).1 = true → (scanR g t deep c).2 ≤ 400)
  | .mk k n ks, deep, c, h, h' => by
    have hc : (cnt (.mk k n ks) : Int) = cnts ks + 1 := by simp [cnt]
    simp only [scanR, shape, headOk]
    by_cases h1 : 400 < c + 1
    · rw [if_pos h1]
      refine ⟨?_, by simp, by simp; omega, by simp; omega, by simp⟩
      symm
      rw [Bool.and_eq_false_iff]
      exact .inr (decide_eq_false (by omega))
    · rw [if_neg h1]
      by_cases h2 : 30 < deep
      · rw [if_pos h2]
        refine ⟨?_, by simp, by simp; omega, by simp; omega, by simp⟩
        symm
        rw [Bool.and_eq_false_iff, Bool.and_eq_false_iff]
        exact .inl (.inl (decide_eq_false (by omega)))
      · rw [if_neg h2]
        by_cases h3 : g.ops k = (ks.length : Int)
        · rw [if_pos h3]
          by_cases h4 : inR n 0 (g.most k) = true
          · rw [if_pos h4]
            obtain ⟨e1, e2, e3, e4, e5⟩ := scanRs_spec g ks (deep + 1) (c + 1) (by omega) (by omega)
            refine ⟨?_, fun hh => by rw [e2 hh]; omega, by omega, e4, e5⟩
            rw [e1, decide_eq_true h3, h4]
            have ed : 31 - (deep + 1) = 31 - deep - 1 := by omega
            have d1 : decide (1 ≤ 31 - deep) = true := decide_eq_true (by omega)
            rw [ed, d1]
            simp only [Bool.true_and]
            congr 1
            exact decide_eq_decide.2 (by omega)
          · rw [if_neg h4]
            refine ⟨?_, by simp, by simp; omega, by simp; omega, by simp⟩
            simp [h4]
        · rw [if_neg h3]
          refine ⟨?_, by simp, by simp; omega, by simp; omega, by simp⟩
          simp [h3]
theorem scanRs_spec (g : Sig) : ∀ (ts : List Tr) (deep c : Int), 0 ≤ c → c ≤ 400 → (scanRs g ts deep c).1 = (shapes g ts (31 - deep) && decide (c + cnts ts ≤ 400)) ∧ ((scanRs g ts deep c).1 = true → (scanRs g ts deep c).2 = c + cnts ts) ∧ c ≤ (scanRs g ts deep c).2 ∧ (scanRs g ts deep c).2 ≤ 401 ∧ ((scanRs g ts deep c).1 = true → (scanRs g ts deep c).2 ≤ 400)
  | [], deep, c, h, h' => by
    have hc : (cnts [] : Int) = 0 := by simp [cnts]
    have hd : decide (c + (cnts [] : Int) ≤ 400) = true := decide_eq_true (by omega)
    simp only [scanRs, shapes]
    refine ⟨by rw [hd]; rfl, by omega, by omega, by omega, by omega⟩
  | t :: ts, deep, c, h, h' => by
    have hc : (cnts (t :: ts) : Int) = cnt t + cnts ts := by simp [cnts]
    simp only [scanRs, shapes]
    obtain ⟨e1, e2, e3, e4, e5⟩ := scanR_spec g t deep c h h'
    by_cases hs : (scanR g t deep c).1 = true
    · rw [if_pos hs]
      have e2' := e2 hs
      have e5' := e5 hs
      obtain ⟨d1, d2, d3, d4, d5⟩ := scanRs_spec g ts deep (scanR g t deep c).2 (by omega) e5'
      refine ⟨?_, fun hh => by rw [d2 hh, e2']; omega, by omega, d4, d5⟩
      rw [d1]
      rw [hs] at e1
      have e1' := e1.symm
      rw [Bool.and_eq_true] at e1'
      rw [e1'.1]
      simp only [Bool.true_and]
      congr 1
      exact decide_eq_decide.2 (by omega)
    · rw [if_neg hs]
      refine ⟨?_, by simp, e3, e4, by simp⟩
      have hf : (scanR g t deep c).1 = false := by simpa using hs
      rw [hf] at e1
      have e1' := e1.symm
      rw [Bool.and_eq_false_iff] at e1'
      symm
      rw [Bool.and_eq_false_iff, Bool.and_eq_false_iff]
      rcases e1' with e1' | e1'
      · exact .inl (.inl e1')
      · have := of_decide_eq_false e1'
        exact .inr (decide_eq_false (by omega))
end
theorem scanR_valid (g : Sig) (t : Tr) : (scanR g t 1 0).1 = valid g t ∧ (valid g t = true → (scanR g t 1 0).2 = cnt t) := by
  obtain ⟨e1, e2, _⟩ := scanR_spec g t 1 0 (by omega) (by omega)
  have h : (scanR g t 1 0).1 = valid g t := by
    rw [e1]
    unfold valid
    have e : (31 : Int) - 1 = 30 := rfl
    rw [e]
    congr 1
    exact decide_eq_decide.2 (by omega)
  exact ⟨h, fun hv => by rw [e2 (h.trans hv)]; omega⟩
end Go.Proofs.Ytdkamgafpphdjaa
namespace Go.Proofs.Ytdkamgafpphdjaa.OrdG
open Go Go.Proofs.Ytdkamgafpphdjaa.Ord
set_option linter.unusedVariables false

section
variable {Γ : Type} (P : Program) (ops : Array Oper) (Q : Exit → Act → World → Prop) (l0 : Array Bool) (m : Nat) (E : World × Γ → World × Γ → Prop) (G : Nat → Value → World × Γ → Prop) (a0 : Act) (w0 : World × Γ)
/-- What is to be shown of number i, whatever was carried out ahead of it. -/
def StepO (i : Nat) (o : Oper) : Prop :=
  ∀ a w z, E w0 (w, z) → (∀ t, isDst ops l0 m t = false → a.eval (.tmp t) = a0.eval (.tmp t)) → (∀ j d, depO ops l0 i j d = true → G j (a.eval (.tmp d)) (w, z)) →
    wpOp P ops Q i (fun a' w' => ∃ u z', a' = a.put o.dst u ∧ E (w, z) (w', z') ∧ G i u (w', z')) a w
def StepsO : Nat → List Oper → Prop
  | _, [] => True
  | i, o :: os => (isOn l0 i = true ∨ StepO P ops Q l0 m E G a0 w0 i o) ∧ StepsO (i + 1) os
end
section
variable {Γ : Type} {P : Program} {ops : Array Oper} {Q : Exit → Act → World → Prop} {l0 : Array Bool} {m : Nat} {E : World × Γ → World × Γ → Prop} {G : Nat → Value → World × Γ → Prop} {a0 : Act} {w0 : World × Γ}
theorem StepsO.get {l : List Oper} : ∀ {i j : Nat} {o : Oper}, StepsO P ops Q l0 m E G a0 w0 i l → l[j]? = some o → isOn l0 (i + j) = true ∨ StepO P ops Q l0 m E G a0 w0 (i + j) o := by
  induction l with
  | nil => intro i j o h hj; simp at hj
  | cons x l ih =>
    intro i j o h hj
    cases j with
    | zero =>
      simp only [List.getElem?_cons_zero, Option.some.injEq] at hj
      subst hj
      exact h.1
    | succ j =>
      have := ih (j := j) h.2 (by simpa using hj)
      rwa [show i + 1 + j = i + (j + 1) by omega] at this
/-- The rest of the region from a state in which some operations are done. -/
theorem wpAnyH_order {S : World → Prop} {N fuel fT : Nat} {lT : Array Bool} (hok : okO ops l0 m N = true) (hN : a0.tmps.size = N) (hf : fuel = opnO l0 ops.size) (hlT : doneO l0 m = lT) (hfT : opnO lT ops.size = fT)
    (hE0 : E w0 w0) (hE : ∀ u v w, E u v → E v w → E u w) (hG : ∀ i v w w', G i v w → E w w' → G i v w') (hS : ∀ w z, E w0 (w, z) → S w)
    (steps : StepsO P ops Q l0 m E G a0 w0 0 (ops.toList.take m))
    (fin : ∀ (v : Nat → Value) w z, E w0 (w, z) → (∀ j, j < m → isOn l0 j = false → G j (v j) (w, z)) → wpAnyH P .any ops Q S fT lT (putN ops v (fun j => !isOn l0 j) a0 m) w) :
    wpAnyH P .any ops Q S fuel l0 a0 w0.1 := by
  subst hlT
  subst hfT
  have hok2 := hok
  unfold okO at hok2
  simp only [Bool.and_eq_true, decide_eq_true_eq, List.all_eq_true, List.mem_range, Bool.or_eq_true, Bool.not_eq_true'] at hok2
  obtain ⟨⟨⟨⟨-, hupb⟩, hlowb⟩, hm⟩, hlsz⟩ := hok2
  have hlow : ∀ i, i < ops.size → ∀ k ∈ edges ops i, k < i := fun i hi k hk => (hlowb i hi k hk).1
  have hdn0 : ∀ i, isOn l0 i = true → ∀ k ∈ edges ops i, isOn l0 k = true := fun i hl k hk => by
    by_cases hi : i < ops.size
    · exact (hlowb i hi k hk).2.resolve_left (by rw [hl]; decide)
    · unfold edges at hk
      rw [show ops[i]? = none from Array.getElem?_eq_none (by omega)] at hk
      simp at hk
  have hup : ∀ i, m ≤ i → i < ops.size → isOn l0 i = false → ∀ j, j < m → isOn l0 j = false → waits ops ops.size i j = true := fun i h1 h2 hi j hj hl => by
    have := hupb (i - m) (by omega)
    rw [show m + (i - m) = i by omega] at this
    have := this.resolve_left (by rw [hi]; decide) j hj
    exact this.resolve_left (by rw [hl]; decide)
  have hsl : ∀ listed : Array Bool, ∀ j, (isOn listed j && !isOn l0 j) = true → isOn l0 j = false := fun listed j h => by
    simp only [Bool.and_eq_true, Bool.not_eq_true'] at h
    exact h.2
  have main : ∀ (fuel : Nat) (listed : Array Bool) (a : Act) (w : World) (z : Γ) (v : Nat → Value), listed.size = ops.size → (∀ i, m ≤ i → isOn listed i = isOn l0 i) → (∀ i, isOn l0 i = true → isOn listed i = true) →
      (∀ i, isOn listed i = true → ∀ k ∈ edges ops i, isOn listed k = true) → a = putN ops v (fun j => isOn listed j && !isOn l0 j) a0 m → (∀ j, j < m → isOn listed j = true → isOn l0 j = false → G j (v j) (w, z)) → E w0 (w, z) →
      fuel = opnO listed ops.size → wpAnyH P .any ops Q S fuel listed a w := by
    intro fuel
    have done : ∀ (fuel : Nat) (listed : Array Bool) (a : Act) (w : World) (z : Γ) (v : Nat → Value), listed.size = ops.size → (∀ i, m ≤ i → isOn listed i = isOn l0 i) → a = putN ops v (fun j => isOn listed j && !isOn l0 j) a0 m → (∀ j, j < m → isOn listed j = true → isOn l0 j = false → G j (v j) (w, z)) → E w0 (w, z) →
        fuel = opnO listed ops.size → (∀ j, j < m → isOn listed j = true) → wpAnyH P .any ops Q S fuel listed a w := by
      intro fuel listed a w z v hsz h1 ha hg he hf hall
      have hl : listed = doneO l0 m := by
        apply Array.ext
        · simp [doneO, hsz, hlsz]
        · intro i hi1 hi2
          have e1 : isOn listed i = listed[i] := by simp [isOn, Array.getD_eq_getD_getElem?, hi1]
          have e2 : (doneO l0 m)[i] = (decide (i < m) || isOn l0 i) := by simp [doneO]
          rw [← e1, e2]
          by_cases hi : i < m
          · rw [hall i hi]; simp [hi]
          · rw [h1 i (by omega)]; simp [hi]
      subst hl
      subst ha
      subst hf
      rw [putN_congr (v' := v) (s' := fun j => !isOn l0 j) a0 (fun j hj => ⟨by rw [hall j hj, Bool.true_and], fun _ => rfl⟩)]
      exact fin v w z he (fun j hj hl => hg j hj (hall j hj) hl)
    induction fuel with
    | zero =>
      intro listed a w z v hsz h1 hmo h2 ha hg he hf
      refine done 0 listed a w z v hsz h1 ha hg he hf fun j hj => ?_
      have : ∀ n, opnO listed n = 0 → ∀ j, j < n → isOn listed j = true := by
        intro n
        induction n with
        | zero => intro _ j hj; omega
        | succ n ih =>
          intro h j hj
          unfold opnO at h
          by_cases e : j = n
          · subst e
            split at h
            · assumption
            · omega
          · exact ih (by omega) j (by omega)
      exact this ops.size hf.symm j (by omega)
    | succ fuel ih =>
      intro listed a w z v hsz h1 hmo h2 ha hg he hf
      by_cases hall : ∀ j, j < m → isOn listed j = true
      · exact done _ listed a w z v hsz h1 ha hg he hf hall
      · obtain ⟨j0, hj0, hj1, hj2⟩ := least (p := isOn listed) (n := m) (by
          apply Classical.byContradiction
          intro h
          exact hall fun j hj => by
            cases hp : isOn listed j with
            | true => rfl
            | false => exact absurd ⟨j, hj, hp⟩ h)
        have gt : ∀ i, i < ops.size → listed.getD i true = isOn listed i := fun i hi => by
          simp [isOn, Array.getD_eq_getD_getElem?, show i < listed.size by omega]
        refine ⟨fun h0 => ?_, fun i hi => ?_⟩
        · have hr : j0 ∈ Region.ready .any ops listed := ready_of (by omega) (by rw [gt _ (by omega)]; exact hj1) (fun k hk => hj2 k (hlow j0 (by omega) k hk))
          rw [h0] at hr
          cases hr
        · obtain ⟨r1, ⟨o, ho⟩, r3⟩ := ready_edges hi
          have hin : i < ops.size := (Array.getElem?_eq_some_iff.1 ho).1
          have hi0 : isOn listed i = false := by rw [← gt i hin]; exact r1
          have hil : isOn l0 i = false := by
            cases hp : isOn l0 i with
            | false => rfl
            | true => rw [hmo i hp] at hi0; cases hi0
          have hj0l : isOn l0 j0 = false := by
            cases hp : isOn l0 j0 with
            | false => rfl
            | true => rw [hmo j0 hp] at hj1; cases hj1
          have him : i < m := by
            apply Classical.byContradiction
            intro hge
            have := waits_listed (l := isOn listed) h2 ops.size i j0 r3 (hup i (by omega) hin hil j0 hj0 hj0l)
            rw [hj1] at this
            cases this
          have hst := StepsO.get (j := i) steps (by rw [List.getElem?_take, if_pos him]; simpa using ho)
          rw [Nat.zero_add] at hst
          have hst := hst.resolve_left (by rw [hil]; decide)
          have hd : (dstOf ops i) = o.dst := by unfold dstOf; rw [ho]; rfl
          have hsi : (isOn listed i && !isOn l0 i) = false := by rw [hi0]; rfl
          refine wpOp_mono ?_ (hst a w z he ?_ ?_)
          · rintro a' w' ⟨u, z', rfl, he', hg'⟩
            have hset : ∀ j, isOn (listed.setIfInBounds i true) j = if j = i then true else isOn listed j := fun j => by
              unfold isOn
              by_cases e : j = i
              · subst e
                rw [if_pos rfl]
                simp [Array.getD_eq_getD_getElem?, show j < listed.size by omega]
              · rw [if_neg e]
                simp [Array.getD_eq_getD_getElem?, Array.getElem?_setIfInBounds_ne (Ne.symm e)]
            refine ⟨hS _ _ (hE _ _ _ he he'), ih (listed.setIfInBounds i true) _ w' z' (fun j => if j = i then u else v j) (by simpa using hsz) ?_ ?_ ?_ ?_ ?_ (hE _ _ _ he he') ?_⟩
            · intro j hj
              rw [hset, if_neg (by omega)]
              exact h1 j hj
            · intro j hj
              rw [hset]
              split
              · rfl
              · exact hmo j hj
            · intro j hj k hk
              rw [hset] at hj ⊢
              by_cases e : k = i
              · rw [if_pos e]
              · rw [if_neg e]
                by_cases e2 : j = i
                · subst e2; exact r3 k hk
                · rw [if_neg e2] at hj
                  exact h2 j hj k hk
            · rw [ha, ← hd, ← putN_set hok (s := fun j => isOn listed j && !isOn l0 j) a0 (hsl listed) hsi hil u him (Nat.le_refl _)]
              refine putN_congr a0 (fun j hj => ⟨?_, fun _ => rfl⟩)
              simp only [hset]
              by_cases e : j = i
              · rw [if_pos e, if_pos e, e, hil]; rfl
              · rw [if_neg e, if_neg e]
            · intro j hj hl hjl
              by_cases e : j = i
              · simp only [if_pos e]; rw [e]; exact hg'
              · simp only [if_neg e]
                rw [hset, if_neg e] at hl
                exact hG _ _ _ _ (hg j hj hl hjl) he'
            · have := opn_set (l := listed) (l' := listed.setIfInBounds i true) (i := i) hi0 (by rw [hset, if_pos rfl]) (fun j hj => by rw [hset, if_neg hj]) (n := ops.size)
              rw [if_pos hin] at this
              omega
          · intro t ht
            rw [ha, putN_miss]
            intro j hj hs e
            unfold isDst at ht
            rw [List.any_eq_false] at ht
            refine ht j (List.mem_range.2 hj) ?_
            rw [hsl listed j hs, e]
            simp
          · intro j d hjd
            unfold depO at hjd
            simp only [Bool.and_eq_true, beq_iff_eq, List.contains_iff_mem, Bool.not_eq_true'] at hjd
            have hjl := r3 j hjd.1.1
            have hji := hlow i hin j hjd.1.1
            rw [ha, putN_hit hok v _ (hsl listed) a0 hN hjd.1.2 (by rw [hjl, hjd.2]; rfl) (by omega) (Nat.le_refl _)]
            exact hg j (by omega) hjl hjd.2
  refine main fuel l0 a0 w0.1 w0.2 (fun _ => undef) hlsz (fun _ _ => rfl) (fun _ h => h) hdn0 ?_ ?_ hE0 hf
  · have : ∀ n, putN ops (fun _ => undef) (fun j => isOn l0 j && !isOn l0 j) a0 n = a0 := fun n => by
      induction n with
      | zero => rfl
      | succ n ih =>
        unfold putN
        rw [if_neg, ih]
        simp
    exact (this m).symm
  · intro j hj hl hl2
    rw [hl] at hl2
    cases hl2
end
end Go.Proofs.Ytdkamgafpphdjaa.OrdG


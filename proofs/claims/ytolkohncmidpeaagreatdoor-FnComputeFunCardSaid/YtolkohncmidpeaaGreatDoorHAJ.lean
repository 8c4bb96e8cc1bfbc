/-
  Lemmas towards the law, 10: Sub.
-/
import Derived.Test.YtolkohncmidpeaaGreatDoorHAI
namespace Go.Proofs.YtolkohncmidpeaaGreatDoor
open Go.RowKit
set_option linter.unusedVariables false
/-- The zero term. -/
def dflt0 : Tr := .mk 0 0 []
mutual
/-- The reference's shift. -/
def shfT (y : Int) : Tr → Int → Tr
  | .mk k n ks, c => .mk k (if k = 1 ∧ c ≤ n then n + y else n) (shfTs y k ks 0 c)
def shfTs (y : Int) : Int → List Tr → Nat → Int → List Tr
  | _, [], _, _ => []
  | k, t :: ts, i, c => shfT y t (c + und k i) :: shfTs y k ts (i + 1) c
end
mutual
/-- The reference's substitution. -/
def sbsT (u : Tr) : Tr → Int → Int → Tr
  | .mk k n ks, x, d => if k = 1 ∧ n = x then shfT d u 0 else .mk k (if k = 1 ∧ x < n then n - 1 else n) (sbsTs u k ks 0 x d)
def sbsTs (u : Tr) : Int → List Tr → Nat → Int → Int → List Tr
  | _, [], _, _, _ => []
  | k, t :: ts, i, x, d => sbsT u t (x + und k i) (d + und k i) :: sbsTs u k ts (i + 1) x d
end
mutual
/-- A term whose variables are changed. -/
def chgT (g : Int → Int → Tr) : Tr → Int → Tr
  | .mk k n ks, b => if k = 1 then g n b else .mk k n (chgTs g k ks 0 b)
def chgTs (g : Int → Int → Tr) : Int → List Tr → Nat → Int → List Tr
  | _, [], _, _ => []
  | k, t :: ts, i, b => chgT g t (b + und k i) :: chgTs g k ts (i + 1) b
end
mutual
/-- Each variable meets h. -/
def allT (h : Int → Int → Bool) : Tr → Int → Bool
  | .mk k n ks, b => if k = 1 then h n b else allTs h k ks 0 b
def allTs (h : Int → Int → Bool) : Int → List Tr → Nat → Int → Bool
  | _, [], _, _ => true
  | k, t :: ts, i, b => allT h t (b + und k i) && allTs h k ts (i + 1) b
end
theorem shfTs_len (y : Int) : ∀ (k : Int) (ts : List Tr) (i : Nat) (c : Int), (shfTs y k ts i c).length = ts.length
  | _, [], _, _ => rfl
  | k, t :: ts, i, c => by simp [shfTs, shfTs_len y k ts (i + 1) c]
theorem sbsTs_len (u : Tr) : ∀ (k : Int) (ts : List Tr) (i : Nat) (x d : Int), (sbsTs u k ts i x d).length = ts.length
  | _, [], _, _, _ => rfl
  | k, t :: ts, i, x, d => by simp [sbsTs, sbsTs_len u k ts (i + 1) x d]
mutual
theorem shfT_cnt (y : Int) : ∀ (t : Tr) (c : Int), cnt (shfT y t c) = cnt t
  | .mk k n ks, c => by
    unfold shfT
    simp only [cnt, shfTs_cnt y k ks 0 c]
theorem shfTs_cnt (y : Int) : ∀ (k : Int) (ts : List Tr) (i : Nat) (c : Int), cnts (shfTs y k ts i c) = cnts ts
  | _, [], _, _ => rfl
  | k, t :: ts, i, c => by
    unfold shfTs
    simp only [cnts, shfT_cnt y t _, shfTs_cnt y k ts (i + 1) c]
end
mutual
theorem shape_mono {g : Sig} : ∀ {t : Tr} {d e : Int}, shape g t d = true → d ≤ e → shape g t e = true
  | .mk k n ks, d, e, h, hd => by
    simp only [shape, Bool.and_eq_true, decide_eq_true_eq] at h ⊢
    exact ⟨by omega, h.2.1, shapes_mono h.2.2 (by omega)⟩
theorem shapes_mono {g : Sig} : ∀ {ts : List Tr} {d e : Int}, shapes g ts d = true → d ≤ e → shapes g ts e = true
  | [], _, _, _, _ => rfl
  | t :: ts, d, e, h, hd => by
    simp only [shapes, Bool.and_eq_true] at h ⊢
    exact ⟨shape_mono h.1 hd, shapes_mono h.2 hd⟩
end
theorem var_leaf {n : Int} {ks : List Tr} {d : Int} (h : shape sigT (.mk 1 n ks) d = true) : ks = [] ∧ 0 ≤ n ∧ n ≤ 20 := by
  obtain ⟨h0, h1, h2, -⟩ := shape_kids' h
  have h3 := most_le 1
  have : (0 : Int) = (ks.length : Int) := h0
  exact ⟨List.eq_nil_of_length_eq_zero (by omega), h1, by omega⟩
/-- shift's closure: the variable, and the flag. -/
def gsh (y c : Int) (n b : Int) : Tr := .mk 1 (if c ≤ n - b then n + y else n) []
def hsh (y c : Int) (n b : Int) : Bool := if c ≤ n - b then decide (c ≤ n + y - b) && decide (n + y ≤ 20) else true
mutual
theorem shift_eq (y c : Int) : ∀ (t : Tr) (b d : Int), shape sigT t d = true → chgT (gsh y c) t b = shfT y t (c + b)
  | .mk k n ks, b, d, h => by
    unfold chgT shfT
    by_cases hk : k = 1
    · subst hk
      obtain ⟨rfl, -, -⟩ := var_leaf h
      rw [if_pos rfl]
      unfold gsh
      by_cases h2 : c ≤ n - b
      · rw [if_pos h2, if_pos ⟨rfl, by omega⟩]; rfl
      · rw [if_neg h2, if_neg (by omega)]; rfl
    · rw [if_neg hk, if_neg (fun h => hk h.1), shifts_eq y c k ks 0 b (d - 1) (shape_kids' h).2.2.2]
theorem shifts_eq (y c : Int) : ∀ (k : Int) (ts : List Tr) (i : Nat) (b d : Int), (∀ t ∈ ts, shape sigT t d = true) → chgTs (gsh y c) k ts i b = shfTs y k ts i (c + b)
  | _, [], _, _, _, _ => rfl
  | k, t :: ts, i, b, d, h => by
    unfold chgTs shfTs
    rw [shift_eq y c t _ d (h t (by simp)), shifts_eq y c k ts (i + 1) b d (fun t ht => h t (by simp [ht])), Int.add_assoc]
end
theorem headOk_len {g : Sig} {k n : Int} {a b : Nat} (h : a = b) : headOk g k n a = headOk g k n b := by rw [h]
mutual
theorem shift_ok (y c : Int) (hy : 0 ≤ y) : ∀ (t : Tr) (b d : Int), shape sigT t d = true → allT (hsh y c) t b = shape sigT (shfT y t (c + b)) d
  | .mk k n ks, b, d, h => by
    have hh := h
    simp only [shape, Bool.and_eq_true] at hh
    unfold allT shfT
    by_cases hk : k = 1
    · subst hk
      obtain ⟨rfl, h0, h1⟩ := var_leaf h
      have hd := of_decide_eq_true hh.1
      rw [if_pos rfl]
      have hs : ∀ x : Int, 0 ≤ x → shape sigT (.mk 1 x []) d = decide (x ≤ 20) := fun x hx => by
        simp only [shape, shapes, headOk, List.length_nil, Bool.and_true]
        rw [decide_eq_true hd, decide_eq_true (show sigT.ops 1 = ((0 : Nat) : Int) from rfl), Bool.true_and, Bool.true_and]
        show inR x 0 20 = _
        unfold inR
        rw [decide_eq_true hx, Bool.true_and]
      unfold hsh
      by_cases h2 : c ≤ n - b
      · rw [if_pos h2, if_pos ⟨rfl, by omega⟩, show shfTs y 1 [] 0 (c + b) = [] from rfl, hs _ (by omega), decide_eq_true (by omega), Bool.true_and]
      · rw [if_neg h2, if_neg (by omega), show shfTs y 1 [] 0 (c + b) = [] from rfl, hs _ h0, decide_eq_true h1]
    · rw [if_neg hk, if_neg (fun h => hk h.1), shifts_ok y c hy k ks 0 b (d - 1) hh.2.2]
      simp only [shape]
      rw [hh.1, headOk_len (shfTs_len y k ks 0 (c + b)), hh.2.1]
      rfl
theorem shifts_ok (y c : Int) (hy : 0 ≤ y) : ∀ (k : Int) (ts : List Tr) (i : Nat) (b d : Int), shapes sigT ts d = true → allTs (hsh y c) k ts i b = shapes sigT (shfTs y k ts i (c + b)) d
  | _, [], _, _, _, _ => rfl
  | k, t :: ts, i, b, d, h => by
    simp only [shapes, Bool.and_eq_true] at h
    unfold allTs shfTs
    simp only [shapes]
    rw [shift_ok y c hy t _ d h.1, shifts_ok y c hy k ts (i + 1) b d h.2, Int.add_assoc]
end
/-- shift's way and the reference's. -/
theorem shift_way {y c : Int} (hy : 0 ≤ y) {t : Tr} (h : valid sigT t = true) : (allT (hsh y c) t 0 && valid sigT (chgT (gsh y c) t 0)) = valid sigT (shfT y t c) ∧ chgT (gsh y c) t 0 = shfT y t c := by
  obtain ⟨h1, h2⟩ := valid_parts h
  have e1 := shift_eq y c t 0 30 h1
  have e2 := shift_ok y c hy t 0 30 h1
  rw [Int.add_zero] at e1 e2
  refine ⟨?_, e1⟩
  rw [e1, e2]
  unfold valid
  cases shape sigT (shfT y t c) 30 <;> simp
/-- subst's closure: what stands for the variable, and the flag. -/
def gsb (u : Tr) (x : Int) (n b : Int) : Tr := if n - b = x then (if valid sigT (shfT b u 0) = true then shfT b u 0 else dflt0) else .mk 1 (if x < n - b then n - 1 else n) []
def hsb (u : Tr) (x : Int) (n b : Int) : Bool := if n - b = x then valid sigT (shfT b u 0) else true
mutual
theorem subst_eq (u : Tr) (x : Int) : ∀ (t : Tr) (b d : Int), shape sigT t d = true → allT (hsb u x) t b = true → chgT (gsb u x) t b = sbsT u t (x + b) b
  | .mk k n ks, b, d, h, ho => by
    unfold allT at ho
    unfold chgT sbsT
    by_cases hk : k = 1
    · subst hk
      obtain ⟨rfl, -, -⟩ := var_leaf h
      rw [if_pos rfl] at ho ⊢
      unfold hsb at ho
      unfold gsb
      by_cases h2 : n - b = x
      · rw [if_pos h2] at ho ⊢
        rw [if_pos ho, if_pos (show (1 : Int) = 1 ∧ n = x + b from ⟨rfl, by omega⟩)]
      · rw [if_neg h2, if_neg (show ¬((1 : Int) = 1 ∧ n = x + b) from by omega)]
        by_cases h3 : x < n - b
        · rw [if_pos h3, if_pos (show (1 : Int) = 1 ∧ x + b < n from ⟨rfl, by omega⟩)]; rfl
        · rw [if_neg h3, if_neg (show ¬((1 : Int) = 1 ∧ x + b < n) from by omega)]; rfl
    · rw [if_neg hk] at ho ⊢
      rw [if_neg (fun h => hk h.1), if_neg (fun h => hk h.1), substs_eq u x k ks 0 b (d - 1) (shape_kids' h).2.2.2 ho]
theorem substs_eq (u : Tr) (x : Int) : ∀ (k : Int) (ts : List Tr) (i : Nat) (b d : Int), (∀ t ∈ ts, shape sigT t d = true) → allTs (hsb u x) k ts i b = true → chgTs (gsb u x) k ts i b = sbsTs u k ts i (x + b) b
  | _, [], _, _, _, _, _ => rfl
  | k, t :: ts, i, b, d, h, ho => by
    unfold allTs at ho
    rw [Bool.and_eq_true] at ho
    unfold chgTs sbsTs
    rw [subst_eq u x t _ d (h t (by simp)) ho.1, substs_eq u x k ts (i + 1) b d (fun t ht => h t (by simp [ht])) ho.2, Int.add_assoc]
end
mutual
theorem subst_bad (u : Tr) (x : Int) (hu : cnt u ≤ 400) : ∀ (t : Tr) (b d : Int), shape sigT t d = true → allT (hsb u x) t b = false → ∀ e : Int, e ≤ 30 → shape sigT (sbsT u t (x + b) b) e = false
  | .mk k n ks, b, d, h, ho, e, he => by
    unfold allT at ho
    unfold sbsT
    by_cases hk : k = 1
    · subst hk
      rw [if_pos rfl] at ho
      unfold hsb at ho
      by_cases h2 : n - b = x
      · rw [if_pos h2] at ho
        rw [if_pos (show (1 : Int) = 1 ∧ n = x + b from ⟨rfl, by omega⟩), Bool.eq_false_iff]
        intro hs
        have h3 := shape_mono hs he
        unfold valid at ho
        rw [h3, shfT_cnt, decide_eq_true hu] at ho
        cases ho
      · rw [if_neg h2] at ho
        cases ho
    · rw [if_neg hk] at ho
      rw [if_neg (fun h => hk h.1)]
      simp only [shape]
      rw [substs_bad u x hu k ks 0 b (d - 1) (shape_kids' h).2.2.2 ho (e - 1) (by omega)]
      simp
theorem substs_bad (u : Tr) (x : Int) (hu : cnt u ≤ 400) : ∀ (k : Int) (ts : List Tr) (i : Nat) (b d : Int), (∀ t ∈ ts, shape sigT t d = true) → allTs (hsb u x) k ts i b = false → ∀ e : Int, e ≤ 30 → shapes sigT (sbsTs u k ts i (x + b) b) e = false
  | _, [], _, _, _, _, ho, _, _ => by unfold allTs at ho; cases ho
  | k, t :: ts, i, b, d, h, ho, e, he => by
    unfold allTs at ho
    unfold sbsTs
    simp only [shapes]
    rw [Bool.and_eq_false_iff] at ho ⊢
    rw [Int.add_assoc]
    rcases ho with ho | ho
    · exact .inl (subst_bad u x hu t _ d (h t (by simp)) ho e he)
    · exact .inr (substs_bad u x hu k ts (i + 1) b d (fun t ht => h t (by simp [ht])) ho e he)
end
/-- subst's way and the reference's. -/
theorem subst_way {u : Tr} {x : Int} (hu : cnt u ≤ 400) {t : Tr} (h : valid sigT t = true) : (allT (hsb u x) t 0 && valid sigT (chgT (gsb u x) t 0)) = valid sigT (sbsT u t x 0) ∧ (allT (hsb u x) t 0 = true → chgT (gsb u x) t 0 = sbsT u t x 0) := by
  obtain ⟨h1, h2⟩ := valid_parts h
  have e1 := subst_eq u x t 0 30 h1
  have e2 := subst_bad u x hu t 0 30 h1
  rw [Int.add_zero] at e1 e2
  refine ⟨?_, e1⟩
  cases ha : allT (hsb u x) t 0 with
  | true => rw [e1 ha, Bool.true_and]
  | false =>
    unfold valid
    rw [e2 ha 30 (Int.le_refl _)]
    rfl
end Go.Proofs.YtolkohncmidpeaaGreatDoor

/-
  Lemmas towards the law, 6: Free, Sub.
-/
import Derived.Test.YtappakllopkfiaaCAC
import Derived.Test.YtappakllopkfiaaCAE
import Derived.Outline
namespace Go.Proofs.Ytappakllopkfiaa
open Go.RowKit
set_option linter.unusedVariables false
/-- The binders that an operand stands under. -/
def und (k : Int) (i : Nat) : Int := if i = 1 ∧ (k = 3 ∨ k = 4 ∨ k = 13) then 1 else 0
theorem und_le (k : Int) (i : Nat) : 0 ≤ und k i ∧ und k i ≤ 1 := by unfold und; split <;> omega
def isB (k : Int) : Bool := k == 3 || k == 4 || k == 13
theorem und_eq (k : Int) (i : Nat) : und k i = if ((i : Int) == 1 && isB k) = true then 1 else 0 := by
  unfold und isB
  by_cases h : i = 1
  · subst h
    by_cases h3 : k = 3
    · subst h3; rfl
    · by_cases h4 : k = 4
      · subst h4; rfl
      · by_cases h13 : k = 13
        · subst h13; rfl
        · rw [if_neg (by omega), if_neg (by simp [h3, h4, h13])]
  · rw [if_neg (by omega), if_neg (by rw [beq_eq_false_iff_ne.2 (by omega : (i : Int) ≠ 1)]; simp)]
theorem shape_kids' {g : Sig} {k n : Int} {ks : List Tr} {d : Int} (h : shape g (.mk k n ks) d = true) : g.ops k = (ks.length : Int) ∧ 0 ≤ n ∧ n ≤ g.most k ∧ ∀ t ∈ ks, shape g t (d - 1) = true := by
  have mem : ∀ {ks : List Tr} {d : Int} {t : Tr}, shapes g ks d = true → t ∈ ks → shape g t d = true := by
    intro ks
    induction ks with
    | nil => intro d t _ hm; cases hm
    | cons x ks ih =>
      intro d t h hm
      simp only [shapes, Bool.and_eq_true] at h
      rcases List.mem_cons.1 hm with rfl | hm
      · exact h.1
      · exact ih h.2 hm
  simp only [shape, headOk, Bool.and_eq_true] at h
  have h1 := of_decide_eq_true h.2.1.1
  have h2 := inR_iff.1 h.2.1.2
  exact ⟨h1, h2.1, h2.2, fun t ht => mem h.2.2 ht⟩
theorem isBinder_any (k : Int) (w : World) : Calls Try.prog 186 #[.int .i64 k] w fun e w' => e = .returned (.bool (isB k)) ∧ w = w' := by
  obtain ⟨b3, h3⟩ : ∃ b, (k == 3) = b := ⟨_, rfl⟩
  obtain ⟨b4, h4⟩ : ∃ b, (k == 4) = b := ⟨_, rfl⟩
  obtain ⟨b13, h13⟩ : ∃ b, (k == 13) = b := ⟨_, rfl⟩
  have e : isB k = (b3 || b4 || b13) := by unfold isB; rw [h3, h4, h13]
  have E := Lib.hid e
  clear e
  cases b3 <;> cases b4 <;> cases b13
  all_goals go_enter Try.func186, Try.ntmps186
  all_goals go_wp2_with fail
  all_goals go_ret
  all_goals exact ⟨by rw [E.out]; rfl, rfl⟩
theorem under_any (k : Int) (i : Nat) (w : World) : Calls Try.prog 151 #[.int .i64 k, .int .i64 i] w fun e w' => e = .returned (.int .i64 (und k i)) ∧ w = w' := by
  obtain ⟨b1, h1⟩ : ∃ b, ((i : Int) == 1) = b := ⟨_, rfl⟩
  have HB := Lib.hid (isBinder_any k)
  obtain ⟨b2, h2⟩ : ∃ b, isB k = b := ⟨_, rfl⟩
  have E := Lib.hid (und_eq k i)
  rw [h1, h2] at E
  rw [h2] at HB
  clear h2
  cases b1 <;> cases b2
  all_goals go_enter Try.func151, Try.ntmps151
  all_goals go_wp2_with (go_at_call 186; refine (HB.out _).mono ?_; rintro e w1 ⟨rfl, rfl⟩)
  all_goals go_ret
  all_goals exact ⟨by rw [E.out]; rfl, rfl⟩
theorem l2Binds_any (k : Int) (i : Nat) (w : World) : Calls Try.prog 104 #[.int .i64 k, .int .i64 i] w fun e w' => e = .returned (.bool ((i : Int) == 1 && isB k)) ∧ w = w' := by
  obtain ⟨b1, h1⟩ : ∃ b, ((i : Int) == 1) = b := ⟨_, rfl⟩
  obtain ⟨b3, h3⟩ : ∃ b, (k == 3) = b := ⟨_, rfl⟩
  obtain ⟨b4, h4⟩ : ∃ b, (k == 4) = b := ⟨_, rfl⟩
  obtain ⟨b13, h13⟩ : ∃ b, (k == 13) = b := ⟨_, rfl⟩
  have e : ((i : Int) == 1 && isB k) = (b1 && (b3 || b4 || b13)) := by unfold isB; rw [h1, h3, h4, h13]
  have E := Lib.hid e
  clear e
  cases b1 <;> cases b3 <;> cases b4 <;> cases b13
  all_goals go_enter Try.func104, Try.ntmps104
  all_goals go_wp2_with fail
  all_goals go_ret
  all_goals exact ⟨by rw [E.out]; rfl, rfl⟩
theorem valid_parts {g : Sig} {t : Tr} (h : valid g t = true) : shape g t 30 = true ∧ cnt t ≤ 400 := by
  unfold valid at h
  rw [Bool.and_eq_true] at h
  exact ⟨h.1, of_decide_eq_true h.2⟩
end Go.Proofs.Ytappakllopkfiaa
namespace Go.Proofs.Ytappakllopkfiaa
open Go.RowKit
set_option linter.unusedVariables false
/-- The zero term. -/
def dflt0 : Tr := .mk 0 0 []
mutual
/-- The reference's shift. -/
def shfT (y : Int) : Tr → Int → Tr
  | .mk k n ks, c => .mk k (if k = 1 ∧ c ≤ n then n + y else n) (shfTs y k ks 0 c)
def shfTs (y : Int) : Int → List Tr → Nat → Int → List Tr
  | _, [], _, _ => []
  | k, t :: ts, i, c => shfT y t (c + und k i) :: shfTs y k ts (i + 1) c
end
mutual
/-- The reference's substitution. -/
def sbsT (u : Tr) : Tr → Int → Int → Tr
  | .mk k n ks, x, d => if k = 1 ∧ n = x then shfT d u 0 else .mk k (if k = 1 ∧ x < n then n - 1 else n) (sbsTs u k ks 0 x d)
def sbsTs (u : Tr) : Int → List Tr → Nat → Int → Int → List Tr
  | _, [], _, _, _ => []
  | k, t :: ts, i, x, d => sbsT u t (x + und k i) (d + und k i) :: sbsTs u k ts (i + 1) x d
end
theorem shfTs_len (y : Int) : ∀ (k : Int) (ts : List Tr) (i : Nat) (c : Int), (shfTs y k ts i c).length = ts.length
  | _, [], _, _ => rfl
  | k, t :: ts, i, c => by simp [shfTs, shfTs_len y k ts (i + 1) c]
theorem sbsTs_len (u : Tr) : ∀ (k : Int) (ts : List Tr) (i : Nat) (x d : Int), (sbsTs u k ts i x d).length = ts.length
  | _, [], _, _, _ => rfl
  | k, t :: ts, i, x, d => by simp [sbsTs, sbsTs_len u k ts (i + 1) x d]
def hsh (y c : Int) (n b : Int) : Bool := if c ≤ n - b then decide (c ≤ n + y - b) && decide (n + y ≤ 20) else true
end Go.Proofs.Ytappakllopkfiaa

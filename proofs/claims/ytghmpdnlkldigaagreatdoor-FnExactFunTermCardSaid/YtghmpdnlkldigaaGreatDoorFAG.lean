/-
  Lemmas towards the law, 7: Free, Sub.
-/
import Derived.Test.YtghmpdnlkldigaaGreatDoorFAC
import Derived.Test.YtghmpdnlkldigaaGreatDoorFAF
import Derived.Outline
namespace Go.Proofs.YtghmpdnlkldigaaGreatDoor
open Go.RowKit
set_option linter.unusedVariables false
/-- The binders that an operand stands under. -/
def und (k : Int) (i : Nat) : Int := if i = 1 ∧ (k = 3 ∨ k = 4 ∨ k = 13) then 1 else 0
theorem und_le (k : Int) (i : Nat) : 0 ≤ und k i ∧ und k i ≤ 1 := by unfold und; split <;> omega
theorem shape_kids' {g : Sig} {k n : Int} {ks : List Tr} {d : Int} (h : shape g (.mk k n ks) d = true) : g.ops k = (ks.length : Int) ∧ 0 ≤ n ∧ n ≤ g.most k ∧ ∀ t ∈ ks, shape g t (d - 1) = true := by
  have mem : ∀ {ks : List Tr} {d : Int} {t : Tr}, shapes g ks d = true → t ∈ ks → shape g t d = true := by
    intro ks
    induction ks with
    | nil => intro d t _ hm; cases hm
    | cons x ks ih =>
      intro d t h hm
      simp only [shapes, Bool.and_eq_true] at h
      rcases List.mem_cons.1 hm with rfl | hm
      · exact h.1
      · exact ih h.2 hm
  simp only [shape, headOk, Bool.and_eq_true] at h
  have h1 := of_decide_eq_true h.2.1.1
  have h2 := inR_iff.1 h.2.1.2
  exact ⟨h1, h2.1, h2.2, fun t ht => mem h.2.2 ht⟩
theorem valid_parts {g : Sig} {t : Tr} (h : valid g t = true) : shape g t 30 = true ∧ cnt t ≤ 400 := by
  unfold valid at h
  rw [Bool.and_eq_true] at h
  exact ⟨h.1, of_decide_eq_true h.2⟩
end Go.Proofs.YtghmpdnlkldigaaGreatDoor
namespace Go.Proofs.YtghmpdnlkldigaaGreatDoor
open Go.RowKit
set_option linter.unusedVariables false
/-- The zero term. -/
def dflt0 : Tr := .mk 0 0 []
mutual
/-- The reference's shift. -/
def shfT (y : Int) : Tr → Int → Tr
  | .mk k n ks, c => .mk k (if k = 1 ∧ c ≤ n then n + y else n) (shfTs y k ks 0 c)
def shfTs (y : Int) : Int → List Tr → Nat → Int → List Tr
  | _, [], _, _ => []
  | k, t :: ts, i, c => shfT y t (c + und k i) :: shfTs y k ts (i + 1) c
end
mutual
/-- The reference's substitution. -/
def sbsT (u : Tr) : Tr → Int → Int → Tr
  | .mk k n ks, x, d => if k = 1 ∧ n = x then shfT d u 0 else .mk k (if k = 1 ∧ x < n then n - 1 else n) (sbsTs u k ks 0 x d)
def sbsTs (u : Tr) : Int → List Tr → Nat → Int → Int → List Tr
  | _, [], _, _, _ => []
  | k, t :: ts, i, x, d => sbsT u t (x + und k i) (d + und k i) :: sbsTs u k ts (i + 1) x d
end
theorem shfTs_len (y : Int) : ∀ (k : Int) (ts : List Tr) (i : Nat) (c : Int), (shfTs y k ts i c).length = ts.length
  | _, [], _, _ => rfl
  | k, t :: ts, i, c => by simp [shfTs, shfTs_len y k ts (i + 1) c]
theorem sbsTs_len (u : Tr) : ∀ (k : Int) (ts : List Tr) (i : Nat) (x d : Int), (sbsTs u k ts i x d).length = ts.length
  | _, [], _, _, _ => rfl
  | k, t :: ts, i, x, d => by simp [sbsTs, sbsTs_len u k ts (i + 1) x d]
def hsh (y c : Int) (n b : Int) : Bool := if c ≤ n - b then decide (c ≤ n + y - b) && decide (n + y ≤ 20) else true
end Go.Proofs.YtghmpdnlkldigaaGreatDoor

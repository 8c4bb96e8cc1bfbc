/-
  Lemmas towards the law, 23: ReadD, TxtP.
-/
import Derived.Test.YtenpknapajckbaaDoorFAR
import Derived.Test.YtenpknapajckbaaDoorFAU
import Derived.Test.YtenpknapajckbaaDoorFAV
import Derived.Lib.Split
namespace Go.Proofs.YtenpknapajckbaaDoor
set_option linter.unusedVariables false
theorem index_one (c b : UInt8) (l : List UInt8) : Lib.index (b :: l) [c] = if b = c then 0 else if Lib.index l [c] = -1 then -1 else Lib.index l [c] + 1 := by
  rw [Lib.index]
  by_cases h : b = c
  · subst h
    simp
  · have h2 : (c == b) = false := beq_eq_false_iff_ne.2 (fun e => h e.symm)
    simp [h]
    intro e
    exact absurd e.symm h
theorem index_ge (c : UInt8) : ∀ l : List UInt8, Lib.index l [c] = -1 ∨ 0 ≤ Lib.index l [c]
  | [] => .inl rfl
  | b :: l => by
    rw [index_one]
    have := index_ge c l
    split
    · exact .inr (by omega)
    · split
      · exact .inl rfl
      · exact .inr (by omega)
theorem cutS_index (c : UInt8) : ∀ (l pre : List UInt8), cutS c pre l = if Lib.index l [c] = -1 then [pre ++ l] else (pre ++ l.take (Lib.index l [c]).toNat) :: cutS c [] (l.drop ((Lib.index l [c]).toNat + 1))
  | [], pre => by simp [cutS, Lib.index]
  | b :: l, pre => by
    rw [cutS, index_one]
    by_cases h : b = c
    · rw [if_pos h, if_pos h]
      simp
    · rw [if_neg h, if_neg h, cutS_index c l (pre ++ [b])]
      rcases index_ge c l with h1 | h1
      · simp [h1]
      · rw [if_neg (show ¬ Lib.index l [c] = -1 by omega), if_neg (show ¬ Lib.index l [c] = -1 by omega), if_neg (show ¬ Lib.index l [c] + 1 = -1 by omega)]
        have e : (Lib.index l [c] + 1).toNat = (Lib.index l [c]).toNat + 1 := by omega
        rw [e]
        simp
theorem split_cut (c : UInt8) : ∀ (n : Nat) (l : List UInt8), l.length ≤ n → Lib.splitK [c] 0 (Lib.count l [c]) l = cutL c l
  | 0, l, h => by
    have : l = [] := List.eq_nil_of_length_eq_zero (by omega)
    subst this
    rw [Lib.count_miss (by rfl)]
    rfl
  | n + 1, l, h => by
    unfold cutL
    rw [cutS_index]
    rcases index_ge c l with h1 | h1
    · rw [if_pos h1, Lib.count_miss h1]
      rfl
    · rw [if_neg (by omega), Lib.count_hit (i := (Lib.index l [c]).toNat) (by simp) (by omega), Nat.add_comm 1, Lib.splitK, if_neg (by simp; omega)]
      have hl := Lib.index_room l [c] h1
      have ih := split_cut c n (l.drop ((Lib.index l [c]).toNat + 1)) (by rw [List.length_drop]; simp at hl; omega)
      unfold cutL at ih
      simp only [List.length_cons, List.length_nil, Nat.zero_add, Nat.add_zero, List.nil_append]
      rw [ih]
end Go.Proofs.YtenpknapajckbaaDoor
namespace Go.Proofs.YtenpknapajckbaaDoor
set_option linter.unusedVariables false
/-- The operands' texts, each with the piece behind it. -/
def catP (f : Tr → List UInt8) : List (List UInt8) → List Tr → List UInt8
  | p :: ps, t :: ts => f t ++ p ++ catP f ps ts
  | _, _ => []
theorem catP_step {f : Tr → List UInt8} {ps : List (List UInt8)} {ks : List Tr} {j : Nat} (h1 : j < ks.length) (h2 : j < ps.length) : catP f (ps.drop j) (ks.drop j) = f ks[j] ++ ps[j] ++ catP f (ps.drop (j + 1)) (ks.drop (j + 1)) := by
  rw [List.drop_eq_getElem_cons h1, List.drop_eq_getElem_cons h2, catP]
theorem catP_end {f : Tr → List UInt8} {ps : List (List UInt8)} {ks : List Tr} {j : Nat} (h1 : ks.length ≤ j) : catP f (ps.drop j) (ks.drop j) = [] := by
  rw [List.drop_of_length_le h1]
  cases ps.drop j <;> rfl
theorem fmtL_parts {k n d : Int} {ks : List Tr} (h : shape sigT (.mk k n ks) d = true) (h1 : k ≠ 1) (h2 : k ≠ 2) : fmtL (.mk k n ks) = (prt k).headD [] ++ catP fmtL (prt k).tail ks ∧ (prt k).length = ks.length + 1 := by
  obtain ⟨hops, hn0, hn1, hks⟩ := shape_kids' h
  have hops2 : opsT k = (ks.length : Int) := hops
  have hmost : n ≤ mostT k := hn1
  rcases opsT_kind hops2 with rfl | rfl | rfl | rfl | rfl | rfl | rfl | rfl | rfl | rfl | rfl | rfl | rfl | rfl | rfl | rfl
  · exact absurd rfl h1
  · exact absurd rfl h2
  · have hn : n = 0 := by have : mostT 3 = 0 := rfl; omega
    subst hn
    obtain ⟨x, y, rfl⟩ : ∃ x y, ks = [x, y] := by
      have hlen : ks.length = 2 := by have : opsT 3 = 2 := rfl; omega
      match ks, hlen with
      | [x, y], _ => exact ⟨x, y, rfl⟩
    have e := fmt_3 (x := x) (y := y) []
    rw [List.append_nil] at e
    rw [e]
    exact ⟨by simp [prt, catP], rfl⟩
  · have hn : n = 0 := by have : mostT 4 = 0 := rfl; omega
    subst hn
    obtain ⟨x, y, rfl⟩ : ∃ x y, ks = [x, y] := by
      have hlen : ks.length = 2 := by have : opsT 4 = 2 := rfl; omega
      match ks, hlen with
      | [x, y], _ => exact ⟨x, y, rfl⟩
    have e := fmt_4 (x := x) (y := y) []
    rw [List.append_nil] at e
    rw [e]
    exact ⟨by simp [prt, catP], rfl⟩
  · have hn : n = 0 := by have : mostT 5 = 0 := rfl; omega
    subst hn
    obtain ⟨x, y, rfl⟩ : ∃ x y, ks = [x, y] := by
      have hlen : ks.length = 2 := by have : opsT 5 = 2 := rfl; omega
      match ks, hlen with
      | [x, y], _ => exact ⟨x, y, rfl⟩
    have e := fmt_5 (x := x) (y := y) []
    rw [List.append_nil] at e
    rw [e]
    exact ⟨by simp [prt, catP], rfl⟩
  · have hn : n = 0 := by have : mostT 6 = 0 := rfl; omega
    subst hn
    have hk0 : ks = [] := List.eq_nil_of_length_eq_zero (by have : opsT 6 = 0 := rfl; omega)
    subst hk0
    have e := fmt_6 []
    rw [List.append_nil] at e
    rw [e]
    exact ⟨by simp [prt, catP], rfl⟩
  · have hn : n = 0 := by have : mostT 7 = 0 := rfl; omega
    subst hn
    have hk0 : ks = [] := List.eq_nil_of_length_eq_zero (by have : opsT 7 = 0 := rfl; omega)
    subst hk0
    have e := fmt_7 []
    rw [List.append_nil] at e
    rw [e]
    exact ⟨by simp [prt, catP], rfl⟩
  · have hn : n = 0 := by have : mostT 8 = 0 := rfl; omega
    subst hn
    obtain ⟨x, rfl⟩ : ∃ x, ks = [x] := by
      have hlen : ks.length = 1 := by have : opsT 8 = 1 := rfl; omega
      match ks, hlen with
      | [x], _ => exact ⟨x, rfl⟩
    have e := fmt_8 (x := x) []
    rw [List.append_nil] at e
    rw [e]
    exact ⟨by simp [prt, catP], rfl⟩
  · have hn : n = 0 := by have : mostT 9 = 0 := rfl; omega
    subst hn
    obtain ⟨x, y, z, u, rfl⟩ : ∃ x y z u, ks = [x, y, z, u] := by
      have hlen : ks.length = 4 := by have : opsT 9 = 4 := rfl; omega
      match ks, hlen with
      | [x, y, z, u], _ => exact ⟨x, y, z, u, rfl⟩
    have e := fmt_9 (x := x) (y := y) (z := z) (u := u) []
    rw [List.append_nil] at e
    rw [e]
    exact ⟨by simp [prt, catP], rfl⟩
  · have hn : n = 0 := by have : mostT 10 = 0 := rfl; omega
    subst hn
    obtain ⟨x, y, z, rfl⟩ : ∃ x y z, ks = [x, y, z] := by
      have hlen : ks.length = 3 := by have : opsT 10 = 3 := rfl; omega
      match ks, hlen with
      | [x, y, z], _ => exact ⟨x, y, z, rfl⟩
    have e := fmt_10 (x := x) (y := y) (z := z) []
    rw [List.append_nil] at e
    rw [e]
    exact ⟨by simp [prt, catP], rfl⟩
  · have hn : n = 0 := by have : mostT 11 = 0 := rfl; omega
    subst hn
    obtain ⟨x, rfl⟩ : ∃ x, ks = [x] := by
      have hlen : ks.length = 1 := by have : opsT 11 = 1 := rfl; omega
      match ks, hlen with
      | [x], _ => exact ⟨x, rfl⟩
    have e := fmt_11 (x := x) []
    rw [List.append_nil] at e
    rw [e]
    exact ⟨by simp [prt, catP], rfl⟩
  · have hn : n = 0 := by have : mostT 12 = 0 := rfl; omega
    subst hn
    obtain ⟨x, y, z, rfl⟩ : ∃ x y z, ks = [x, y, z] := by
      have hlen : ks.length = 3 := by have : opsT 12 = 3 := rfl; omega
      match ks, hlen with
      | [x, y, z], _ => exact ⟨x, y, z, rfl⟩
    have e := fmt_12 (x := x) (y := y) (z := z) []
    rw [List.append_nil] at e
    rw [e]
    exact ⟨by simp [prt, catP], rfl⟩
  · have hn : n = 0 := by have : mostT 13 = 0 := rfl; omega
    subst hn
    obtain ⟨x, y, rfl⟩ : ∃ x y, ks = [x, y] := by
      have hlen : ks.length = 2 := by have : opsT 13 = 2 := rfl; omega
      match ks, hlen with
      | [x, y], _ => exact ⟨x, y, rfl⟩
    have e := fmt_13 (x := x) (y := y) []
    rw [List.append_nil] at e
    rw [e]
    exact ⟨by simp [prt, catP], rfl⟩
  · have hn : n = 0 := by have : mostT 14 = 0 := rfl; omega
    subst hn
    obtain ⟨x, y, z, rfl⟩ : ∃ x y z, ks = [x, y, z] := by
      have hlen : ks.length = 3 := by have : opsT 14 = 3 := rfl; omega
      match ks, hlen with
      | [x, y, z], _ => exact ⟨x, y, z, rfl⟩
    have e := fmt_14 (x := x) (y := y) (z := z) []
    rw [List.append_nil] at e
    rw [e]
    exact ⟨by simp [prt, catP], rfl⟩
  · have hn : n = 0 := by have : mostT 15 = 0 := rfl; omega
    subst hn
    obtain ⟨x, rfl⟩ : ∃ x, ks = [x] := by
      have hlen : ks.length = 1 := by have : opsT 15 = 1 := rfl; omega
      match ks, hlen with
      | [x], _ => exact ⟨x, rfl⟩
    have e := fmt_15 (x := x) []
    rw [List.append_nil] at e
    rw [e]
    exact ⟨by simp [prt, catP], rfl⟩
  · have hn : n = 0 := by have : mostT 16 = 0 := rfl; omega
    subst hn
    obtain ⟨x, rfl⟩ : ∃ x, ks = [x] := by
      have hlen : ks.length = 1 := by have : opsT 16 = 1 := rfl; omega
      match ks, hlen with
      | [x], _ => exact ⟨x, rfl⟩
    have e := fmt_16 (x := x) []
    rw [List.append_nil] at e
    rw [e]
    exact ⟨by simp [prt, catP], rfl⟩
end Go.Proofs.YtenpknapajckbaaDoor

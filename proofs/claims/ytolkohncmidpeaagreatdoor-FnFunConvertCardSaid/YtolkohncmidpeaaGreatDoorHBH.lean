/-
  Lemmas towards the law, 34: MEnc, FunP, Cut, ReadD, TxtP, StrS.
-/
import Derived.Test.YtolkohncmidpeaaGreatDoorHAF
import Derived.Test.YtolkohncmidpeaaGreatDoorHAH
import Derived.Test.YtolkohncmidpeaaGreatDoorHAK
import Derived.Test.YtolkohncmidpeaaGreatDoorHAM
import Derived.Test.YtolkohncmidpeaaGreatDoorHAQ
import Derived.Test.YtolkohncmidpeaaGreatDoorHAR
import Derived.Test.YtolkohncmidpeaaGreatDoorHBF
import Derived.Test.YtolkohncmidpeaaGreatDoorHBG
import Derived.Lib.Replace
import Derived.Lib.Split
import Derived.Test.YtolkohncmidpeaaGreatDoorDSH
namespace Go.Proofs.YtolkohncmidpeaaGreatDoor
set_option linter.unusedVariables false
/-- The tree of a term. -/
def enc : M.Tm → Tr
  | .var n => .mk 1 n []
  | .sort n => .mk 2 n []
  | .pi A B => .mk 3 0 [enc A, enc B]
  | .lam A t => .mk 4 0 [enc A, enc t]
  | .app f a => .mk 5 0 [enc f, enc a]
  | .nat => .mk 6 0 []
  | .zero => .mk 7 0 []
  | .succ a => .mk 8 0 [enc a]
  | .elim p z s a => .mk 9 0 [enc p, enc z, enc s, enc a]
  | .id T a b => .mk 10 0 [enc T, enc a, enc b]
  | .refl a => .mk 11 0 [enc a]
  | .move p e a => .mk 12 0 [enc p, enc e, enc a]
  | .sg A B => .mk 13 0 [enc A, enc B]
  | .pair T a b => .mk 14 0 [enc T, enc a, enc b]
  | .fst a => .mk 15 0 [enc a]
  | .snd a => .mk 16 0 [enc a]
def shr (y c n : Nat) : Nat := if c ≤ n then n + y else n
theorem shr_up (y c : Nat) : M.Tm.upr (shr y c) = shr y (c + 1) := by
  funext n
  cases n with
  | zero => simp [M.Tm.upr, shr]
  | succ n =>
    show shr y c n + 1 = _
    unfold shr
    by_cases h : c ≤ n
    · rw [if_pos h, if_pos (by omega)]; omega
    · rw [if_neg h, if_neg (by omega)]
theorem enc_shf (y : Nat) : ∀ (t : M.Tm) (c : Nat), shfT (y : Int) (enc t) (c : Int) = enc (t.ren (shr y c)) := by
  have u0 : ∀ (k : Int) (c : Nat), (c : Int) + und k 0 = (c : Int) := fun k c => by simp [und]
  intro t
  induction t with
  | var n =>
    intro c
    simp only [enc, M.Tm.ren, shfT, shfTs, shr]
    by_cases h : c ≤ n
    · rw [if_pos ⟨trivial, by omega⟩, if_pos h]; congr 1
    · rw [if_neg (fun e => h (by omega)), if_neg h]
  | pi A B i1 i2 =>
    intro c
    simp only [enc, M.Tm.ren, shfT, shfTs, u0, i1, shr_up]
    rw [show (c : Int) + und 3 (0 + 1) = ((c + 1 : Nat) : Int) from rfl, i2]
    rfl
  | lam A B i1 i2 =>
    intro c
    simp only [enc, M.Tm.ren, shfT, shfTs, u0, i1, shr_up]
    rw [show (c : Int) + und 4 (0 + 1) = ((c + 1 : Nat) : Int) from rfl, i2]
    rfl
  | sg A B i1 i2 =>
    intro c
    simp only [enc, M.Tm.ren, shfT, shfTs, u0, i1, shr_up]
    rw [show (c : Int) + und 13 (0 + 1) = ((c + 1 : Nat) : Int) from rfl, i2]
    rfl
  | _ => intro c; simp_all [enc, M.Tm.ren, shfT, shfTs, und]
/-- u for the variable k, inside of k binders. -/
def sbk (u : M.Tm) (k n : Nat) : M.Tm := if n = k then u.ren (fun i => i + k) else if k < n then .var (n - 1) else .var n
theorem sbk_zero (u : M.Tm) : sbk u 0 = M.Tm.cns u M.Tm.var := by
  funext n
  cases n with
  | zero => simp [sbk, M.Tm.cns, M.Tm.ren_id]
  | succ n => simp [sbk, M.Tm.cns]
theorem sbk_up (u : M.Tm) (k : Nat) : M.Tm.ups (sbk u k) = sbk u (k + 1) := by
  funext n
  cases n with
  | zero => simp [M.Tm.ups, sbk]
  | succ n =>
    show M.Tm.wk (sbk u k n) = sbk u (k + 1) (n + 1)
    by_cases h : n = k
    · have e1 : sbk u k n = u.ren (fun i => i + k) := if_pos h
      have e2 : sbk u (k + 1) (n + 1) = u.ren (fun i => i + (k + 1)) := if_pos (by omega)
      rw [e1, e2, M.Tm.wk, M.Tm.ren_ren]; rfl
    · by_cases h2 : k < n
      · have e1 : sbk u k n = .var (n - 1) := by unfold sbk; rw [if_neg h, if_pos h2]
        have e2 : sbk u (k + 1) (n + 1) = .var n := by unfold sbk; rw [if_neg (by omega), if_pos (by omega)]; rfl
        rw [e1, e2]
        show M.Tm.var (n - 1 + 1) = _
        congr 1
        omega
      · have e1 : sbk u k n = .var n := by unfold sbk; rw [if_neg h, if_neg h2]
        have e2 : sbk u (k + 1) (n + 1) = .var (n + 1) := by unfold sbk; rw [if_neg (by omega), if_neg (by omega)]
        rw [e1, e2]; rfl
theorem shr_zero (k : Nat) : shr k 0 = fun i => i + k := by funext i; simp [shr]
theorem enc_sbs (u : M.Tm) : ∀ (t : M.Tm) (k : Nat), sbsT (enc u) (enc t) (k : Int) (k : Int) = enc (t.sub (sbk u k)) := by
  have u0 : ∀ (k : Int) (c : Nat), (c : Int) + und k 0 = (c : Int) := fun k c => by simp [und]
  intro t
  induction t with
  | var n =>
    intro k
    simp only [enc, M.Tm.sub, sbsT, sbsTs, sbk]
    by_cases h : n = k
    · rw [if_pos ⟨trivial, by omega⟩, if_pos h, ← shr_zero]
      exact enc_shf k u 0
    · rw [if_neg (fun e => h (by omega)), if_neg h]
      by_cases h2 : k < n
      · rw [if_pos ⟨trivial, by omega⟩, if_pos h2]
        simp only [enc]
        congr 1
        omega
      · rw [if_neg (fun e => h2 (by omega)), if_neg h2]; rfl
  | pi A B i1 i2 =>
    intro c
    simp only [enc, M.Tm.sub, sbsT, sbsTs, u0, i1, sbk_up]
    rw [show (c : Int) + und 3 (0 + 1) = ((c + 1 : Nat) : Int) from rfl, i2]
    rfl
  | lam A B i1 i2 =>
    intro c
    simp only [enc, M.Tm.sub, sbsT, sbsTs, u0, i1, sbk_up]
    rw [show (c : Int) + und 4 (0 + 1) = ((c + 1 : Nat) : Int) from rfl, i2]
    rfl
  | sg A B i1 i2 =>
    intro c
    simp only [enc, M.Tm.sub, sbsT, sbsTs, u0, i1, sbk_up]
    rw [show (c : Int) + und 13 (0 + 1) = ((c + 1 : Nat) : Int) from rfl, i2]
    rfl
  | _ => intro c; simp_all [enc, M.Tm.sub, sbsT, sbsTs, und]
theorem enc_inst (t u : M.Tm) : sbsT (enc u) (enc t) 0 0 = enc (t.inst u) := by
  have := enc_sbs u t 0
  rw [sbk_zero] at this
  exact this
theorem enc_inj : ∀ {t u : M.Tm}, enc t = enc u → t = u := by
  intro t
  induction t <;> intro u h <;> cases u <;> simp [enc] at h ⊢ <;> first | omega | (obtain ⟨h1, h2, h3, h4⟩ := h; refine ⟨?_, ?_, ?_, ?_⟩ <;> solve_by_elim) | (obtain ⟨h1, h2, h3⟩ := h; refine ⟨?_, ?_, ?_⟩ <;> solve_by_elim) | (obtain ⟨h1, h2⟩ := h; refine ⟨?_, ?_⟩ <;> solve_by_elim) | solve_by_elim
/-- A tree in order is a term's. -/
theorem enc_of : ∀ (t : Tr) (d : Int), shape sigT t d = true → ∃ m, enc m = t := Tr.ind fun k n ks ih => by
  intro d h
  obtain ⟨hops, hn0, hn1, hks⟩ := shape_kids' h
  have hops2 : opsT k = (ks.length : Int) := hops
  have hmost : n ≤ mostT k := hn1
  have ih2 : ∀ t ∈ ks, ∃ m, enc m = t := fun t ht => ih t ht _ (hks t ht)
  have hz : k ≠ 1 → k ≠ 2 → n = 0 := fun a b => by unfold mostT at hmost; rw [if_neg a, if_neg b] at hmost; omega
  rcases opsT_kind hops2 with rfl | rfl | rfl | rfl | rfl | rfl | rfl | rfl | rfl | rfl | rfl | rfl | rfl | rfl | rfl | rfl
  · have : ks = [] := List.eq_nil_of_length_eq_zero (by have : opsT 1 = 0 := rfl; omega)
    subst this
    exact ⟨.var n.toNat, by unfold enc; congr 1; omega⟩
  · have : ks = [] := List.eq_nil_of_length_eq_zero (by have : opsT 2 = 0 := rfl; omega)
    subst this
    exact ⟨.sort n.toNat, by unfold enc; congr 1; omega⟩
  · obtain rfl := hz (by decide) (by decide)
    match ks, (show ks.length = 2 by have : opsT 3 = 2 := rfl; omega), ih2 with
    | [x, y], _, ih2 =>
      obtain ⟨a, rfl⟩ := ih2 x (by simp)
      obtain ⟨b, rfl⟩ := ih2 y (by simp)
      exact ⟨.pi a b, rfl⟩
  · obtain rfl := hz (by decide) (by decide)
    match ks, (show ks.length = 2 by have : opsT 4 = 2 := rfl; omega), ih2 with
    | [x, y], _, ih2 =>
      obtain ⟨a, rfl⟩ := ih2 x (by simp)
      obtain ⟨b, rfl⟩ := ih2 y (by simp)
      exact ⟨.lam a b, rfl⟩
  · obtain rfl := hz (by decide) (by decide)
    match ks, (show ks.length = 2 by have : opsT 5 = 2 := rfl; omega), ih2 with
    | [x, y], _, ih2 =>
      obtain ⟨a, rfl⟩ := ih2 x (by simp)
      obtain ⟨b, rfl⟩ := ih2 y (by simp)
      exact ⟨.app a b, rfl⟩
  · obtain rfl := hz (by decide) (by decide)
    match ks, (show ks.length = 0 by have : opsT 6 = 0 := rfl; omega), ih2 with
    | [], _, ih2 =>
      exact ⟨.nat, rfl⟩
  · obtain rfl := hz (by decide) (by decide)
    match ks, (show ks.length = 0 by have : opsT 7 = 0 := rfl; omega), ih2 with
    | [], _, ih2 =>
      exact ⟨.zero, rfl⟩
  · obtain rfl := hz (by decide) (by decide)
    match ks, (show ks.length = 1 by have : opsT 8 = 1 := rfl; omega), ih2 with
    | [x], _, ih2 =>
      obtain ⟨a, rfl⟩ := ih2 x (by simp)
      exact ⟨.succ a, rfl⟩
  · obtain rfl := hz (by decide) (by decide)
    match ks, (show ks.length = 4 by have : opsT 9 = 4 := rfl; omega), ih2 with
    | [x, y, u, v], _, ih2 =>
      obtain ⟨a, rfl⟩ := ih2 x (by simp)
      obtain ⟨b, rfl⟩ := ih2 y (by simp)
      obtain ⟨c, rfl⟩ := ih2 u (by simp)
      obtain ⟨d, rfl⟩ := ih2 v (by simp)
      exact ⟨.elim a b c d, rfl⟩
  · obtain rfl := hz (by decide) (by decide)
    match ks, (show ks.length = 3 by have : opsT 10 = 3 := rfl; omega), ih2 with
    | [x, y, u], _, ih2 =>
      obtain ⟨a, rfl⟩ := ih2 x (by simp)
      obtain ⟨b, rfl⟩ := ih2 y (by simp)
      obtain ⟨c, rfl⟩ := ih2 u (by simp)
      exact ⟨.id a b c, rfl⟩
  · obtain rfl := hz (by decide) (by decide)
    match ks, (show ks.length = 1 by have : opsT 11 = 1 := rfl; omega), ih2 with
    | [x], _, ih2 =>
      obtain ⟨a, rfl⟩ := ih2 x (by simp)
      exact ⟨.refl a, rfl⟩
  · obtain rfl := hz (by decide) (by decide)
    match ks, (show ks.length = 3 by have : opsT 12 = 3 := rfl; omega), ih2 with
    | [x, y, u], _, ih2 =>
      obtain ⟨a, rfl⟩ := ih2 x (by simp)
      obtain ⟨b, rfl⟩ := ih2 y (by simp)
      obtain ⟨c, rfl⟩ := ih2 u (by simp)
      exact ⟨.move a b c, rfl⟩
  · obtain rfl := hz (by decide) (by decide)
    match ks, (show ks.length = 2 by have : opsT 13 = 2 := rfl; omega), ih2 with
    | [x, y], _, ih2 =>
      obtain ⟨a, rfl⟩ := ih2 x (by simp)
      obtain ⟨b, rfl⟩ := ih2 y (by simp)
      exact ⟨.sg a b, rfl⟩
  · obtain rfl := hz (by decide) (by decide)
    match ks, (show ks.length = 3 by have : opsT 14 = 3 := rfl; omega), ih2 with
    | [x, y, u], _, ih2 =>
      obtain ⟨a, rfl⟩ := ih2 x (by simp)
      obtain ⟨b, rfl⟩ := ih2 y (by simp)
      obtain ⟨c, rfl⟩ := ih2 u (by simp)
      exact ⟨.pair a b c, rfl⟩
  · obtain rfl := hz (by decide) (by decide)
    match ks, (show ks.length = 1 by have : opsT 15 = 1 := rfl; omega), ih2 with
    | [x], _, ih2 =>
      obtain ⟨a, rfl⟩ := ih2 x (by simp)
      exact ⟨.fst a, rfl⟩
  · obtain rfl := hz (by decide) (by decide)
    match ks, (show ks.length = 1 by have : opsT 16 = 1 := rfl; omega), ih2 with
    | [x], _, ih2 =>
      obtain ⟨a, rfl⟩ := ih2 x (by simp)
      exact ⟨.snd a, rfl⟩
/-- What a term's tree reduces to is a term's tree. -/
theorem par_enc : ∀ {t : M.Tm} {t' : Tr}, Par (enc t) t' → ∃ m, t' = enc m ∧ M.Par t m := by
  have no : ∀ {k : Int} {ks : List Tr}, rdx k ks ≠ 0 → k = 5 ∨ k = 9 ∨ k = 12 ∨ k = 15 ∨ k = 16 := by
    intro k ks h
    by_cases h5 : k = 5
    · exact .inl h5
    by_cases h9 : k = 9
    · exact .inr (.inl h9)
    by_cases h12 : k = 12
    · exact .inr (.inr (.inl h12))
    by_cases h15 : k = 15
    · exact .inr (.inr (.inr (.inl h15)))
    by_cases h16 : k = 16
    · exact .inr (.inr (.inr (.inr h16)))
    exact absurd (rdx_none h5 h9 h12 h15 h16) h
  intro t
  induction t with
  | var n => intro t' h; cases h with
    | node h => cases h; exact ⟨.var n, rfl, .var n⟩
    | red h => exact absurd (no h) (by decide)
  | sort n => intro t' h; cases h with
    | node h => cases h; exact ⟨.sort n, rfl, .sort n⟩
    | red h => exact absurd (no h) (by decide)
  | nat => intro t' h; cases h with
    | node h => cases h; exact ⟨.nat, rfl, .nat⟩
    | red h => exact absurd (no h) (by decide)
  | zero => intro t' h; cases h with
    | node h => cases h; exact ⟨.zero, rfl, .zero⟩
    | red h => exact absurd (no h) (by decide)
  | pi A B i1 i2 => intro t' h; cases h with
    | node h =>
      cases h with
      | cons h1 h =>
      cases h with
      | cons h2 h =>
      cases h
      obtain ⟨a, rfl, k1⟩ := i1 h1
      obtain ⟨b, rfl, k2⟩ := i2 h2
      exact ⟨.pi a b, rfl, .pi k1 k2⟩
    | red h => exact absurd (no h) (by decide)
  | lam A B i1 i2 => intro t' h; cases h with
    | node h =>
      cases h with
      | cons h1 h =>
      cases h with
      | cons h2 h =>
      cases h
      obtain ⟨a, rfl, k1⟩ := i1 h1
      obtain ⟨b, rfl, k2⟩ := i2 h2
      exact ⟨.lam a b, rfl, .lam k1 k2⟩
    | red h => exact absurd (no h) (by decide)
  | sg A B i1 i2 => intro t' h; cases h with
    | node h =>
      cases h with
      | cons h1 h =>
      cases h with
      | cons h2 h =>
      cases h
      obtain ⟨a, rfl, k1⟩ := i1 h1
      obtain ⟨b, rfl, k2⟩ := i2 h2
      exact ⟨.sg a b, rfl, .sg k1 k2⟩
    | red h => exact absurd (no h) (by decide)
  | id A B D i1 i2 i3 => intro t' h; cases h with
    | node h =>
      cases h with
      | cons h1 h =>
      cases h with
      | cons h2 h =>
      cases h with
      | cons h3 h =>
      cases h
      obtain ⟨a, rfl, k1⟩ := i1 h1
      obtain ⟨b, rfl, k2⟩ := i2 h2
      obtain ⟨c, rfl, k3⟩ := i3 h3
      exact ⟨.id a b c, rfl, .id k1 k2 k3⟩
    | red h => exact absurd (no h) (by decide)
  | pair A B D i1 i2 i3 => intro t' h; cases h with
    | node h =>
      cases h with
      | cons h1 h =>
      cases h with
      | cons h2 h =>
      cases h with
      | cons h3 h =>
      cases h
      obtain ⟨a, rfl, k1⟩ := i1 h1
      obtain ⟨b, rfl, k2⟩ := i2 h2
      obtain ⟨c, rfl, k3⟩ := i3 h3
      exact ⟨.pair a b c, rfl, .pair k1 k2 k3⟩
    | red h => exact absurd (no h) (by decide)
  | succ A i1 => intro t' h; cases h with
    | node h =>
      cases h with
      | cons h1 h =>
      cases h
      obtain ⟨a, rfl, k1⟩ := i1 h1
      exact ⟨.succ a, rfl, .succ k1⟩
    | red h => exact absurd (no h) (by decide)
  | refl A i1 => intro t' h; cases h with
    | node h =>
      cases h with
      | cons h1 h =>
      cases h
      obtain ⟨a, rfl, k1⟩ := i1 h1
      exact ⟨.refl a, rfl, .refl k1⟩
    | red h => exact absurd (no h) (by decide)
  | app A B i1 i2 => intro t' h; cases h with
    | node h =>
      cases h with
      | cons h1 h =>
      cases h with
      | cons h2 h =>
      cases h
      obtain ⟨a, rfl, k1⟩ := i1 h1
      obtain ⟨b, rfl, k2⟩ := i2 h2
      exact ⟨.app a b, rfl, .app k1 k2⟩
    | red hr h =>
      cases h with
      | cons h1 h =>
      cases h with
      | cons h2 h =>
      cases h
      obtain ⟨a, rfl, k1⟩ := i1 h1
      obtain ⟨b, rfl, k2⟩ := i2 h2
      cases A <;> simp [rdx, kd, Tr.kind, enc] at hr
      cases k1 with
      | lam l1 l2 => exact ⟨_, by show sbsT (enc b) (enc _) 0 0 = _; exact enc_inst _ _, .beta l2 k2⟩
  | fst A i1 => intro t' h; cases h with
    | node h =>
      cases h with
      | cons h1 h =>
      cases h
      obtain ⟨a, rfl, k1⟩ := i1 h1
      exact ⟨.fst a, rfl, .fst k1⟩
    | red hr h =>
      cases h with
      | cons h1 h =>
      cases h
      obtain ⟨a, rfl, k1⟩ := i1 h1
      cases A <;> simp [rdx, kd, Tr.kind, enc] at hr
      cases k1 with
      | pair l1 l2 l3 => exact ⟨_, rfl, .fp l2⟩
  | snd A i1 => intro t' h; cases h with
    | node h =>
      cases h with
      | cons h1 h =>
      cases h
      obtain ⟨a, rfl, k1⟩ := i1 h1
      exact ⟨.snd a, rfl, .snd k1⟩
    | red hr h =>
      cases h with
      | cons h1 h =>
      cases h
      obtain ⟨a, rfl, k1⟩ := i1 h1
      cases A <;> simp [rdx, kd, Tr.kind, enc] at hr
      cases k1 with
      | pair l1 l2 l3 => exact ⟨_, rfl, .sp l3⟩
  | move A B D i1 i2 i3 => intro t' h; cases h with
    | node h =>
      cases h with
      | cons h1 h =>
      cases h with
      | cons h2 h =>
      cases h with
      | cons h3 h =>
      cases h
      obtain ⟨a, rfl, k1⟩ := i1 h1
      obtain ⟨b, rfl, k2⟩ := i2 h2
      obtain ⟨c, rfl, k3⟩ := i3 h3
      exact ⟨.move a b c, rfl, .move k1 k2 k3⟩
    | red hr h =>
      cases h with
      | cons h1 h =>
      cases h with
      | cons h2 h =>
      cases h with
      | cons h3 h =>
      cases h
      obtain ⟨c, rfl, k3⟩ := i3 h3
      cases B <;> simp [rdx, kd, Tr.kind, enc] at hr
      exact ⟨c, rfl, .mr k3⟩
  | elim A B D E i1 i2 i3 i4 => intro t' h; cases h with
    | node h =>
      cases h with
      | cons h1 h =>
      cases h with
      | cons h2 h =>
      cases h with
      | cons h3 h =>
      cases h with
      | cons h4 h =>
      cases h
      obtain ⟨a, rfl, k1⟩ := i1 h1
      obtain ⟨b, rfl, k2⟩ := i2 h2
      obtain ⟨c, rfl, k3⟩ := i3 h3
      obtain ⟨d, rfl, k4⟩ := i4 h4
      exact ⟨.elim a b c d, rfl, .elim k1 k2 k3 k4⟩
    | red hr h =>
      cases h with
      | cons h1 h =>
      cases h with
      | cons h2 h =>
      cases h with
      | cons h3 h =>
      cases h with
      | cons h4 h =>
      cases h
      obtain ⟨a, rfl, k1⟩ := i1 h1
      obtain ⟨b, rfl, k2⟩ := i2 h2
      obtain ⟨c, rfl, k3⟩ := i3 h3
      obtain ⟨d, rfl, k4⟩ := i4 h4
      cases E <;> simp [rdx, kd, Tr.kind, enc] at hr
      · cases k4
        exact ⟨b, rfl, .ez k2⟩
      · cases k4 with
        | succ k5 => exact ⟨_, rfl, .es k1 k2 k3 k5⟩
theorem red_enc {t' u : Tr} (h : Reds u t') : ∀ {t : M.Tm}, u = enc t → ∃ m, t' = enc m ∧ M.Red t m := by
  induction h with
  | refl => intro t e; exact ⟨t, e, .refl t⟩
  | step h1 h2 ih =>
    intro t e
    obtain ⟨m, e1, r1⟩ := ih e
    subst e1
    obtain ⟨m2, e2, r2⟩ := par_enc h2
    exact ⟨m2, e2, r1.trans (.one r2)⟩
end Go.Proofs.YtolkohncmidpeaaGreatDoor
namespace Go.Proofs.YtolkohncmidpeaaGreatDoor
set_option linter.unusedVariables false
def plusT : M.Tm := .lam .nat (.lam .nat (.elim (.lam .nat .nat) (.var 1) (.lam .nat (.lam .nat (.succ (.var 0)))) (.var 0)))
def predT : M.Tm := .lam .nat (.elim (.lam .nat .nat) .zero (.lam .nat (.lam .nat (.var 1))) (.var 0))
def timesT : M.Tm := .lam .nat (.lam .nat (.elim (.lam .nat .nat) .zero (.lam .nat (.lam .nat (.app (.app plusT (.var 2)) (.var 0)))) (.var 1)))
def minusT : M.Tm := .lam .nat (.lam .nat (.elim (.lam .nat .nat) (.var 1) (.lam .nat (.lam .nat (.app predT (.var 0)))) (.var 0)))
def isZeroT : M.Tm := .lam .nat (.elim (.lam .nat .nat) (.succ .zero) (.lam .nat (.lam .nat .zero)) (.var 0))
def doubleT : M.Tm := .lam .nat (.elim (.lam .nat .nat) .zero (.lam .nat (.lam .nat (.succ (.succ (.var 0))))) (.var 0))
def twiceT : M.Tm := .lam (.pi .nat .nat) (.lam .nat (.app (.var 1) (.app (.var 1) (.var 0))))
/-- The term of a function. -/
def fnT (k : Int) : Option M.Tm := if k = 1 then some plusT else if k = 2 then some timesT else if k = 3 then some predT else if k = 4 then some minusT else if k = 5 then some isZeroT else if k = 6 then some doubleT else if k = 7 then some twiceT else none
/-- The program's texts. -/
def ftx (k : Int) : List UInt8 := if k = 1 then [91, 78, 93, 91, 78, 93, 60, 91, 78, 93, 78, 44, 35, 49, 44, 91, 78, 93, 91, 78, 93, 43, 35, 48, 44, 35, 48, 62]
  else if k = 2 then [91, 78, 93, 91, 78, 93, 60, 91, 78, 93, 78, 44, 48, 44, 91, 78, 93, 91, 78, 93, 40, 40, 80, 32, 35, 50, 41, 32, 35, 48, 41, 44, 35, 49, 62]
  else if k = 3 then [91, 78, 93, 60, 91, 78, 93, 78, 44, 48, 44, 91, 78, 93, 91, 78, 93, 35, 49, 44, 35, 48, 62]
  else if k = 4 then [91, 78, 93, 91, 78, 93, 60, 91, 78, 93, 78, 44, 35, 49, 44, 91, 78, 93, 91, 78, 93, 40, 81, 32, 35, 48, 41, 44, 35, 48, 62]
  else if k = 5 then [91, 78, 93, 60, 91, 78, 93, 78, 44, 43, 48, 44, 91, 78, 93, 91, 78, 93, 48, 44, 35, 48, 62]
  else if k = 6 then [91, 78, 93, 60, 91, 78, 93, 78, 44, 48, 44, 91, 78, 93, 91, 78, 93, 43, 43, 35, 48, 44, 35, 48, 62]
  else if k = 7 then [91, 40, 78, 62, 78, 41, 93, 91, 78, 93, 40, 35, 49, 32, 40, 35, 49, 32, 35, 48, 41, 41] else []
/-- The text of the term. -/
def gtx (k : Int) : List UInt8 := match fnT k with
  | some t => fmtL (enc t)
  | none => []
theorem rep_all : ∀ k : Fin 8, Lib.replaceAll (ftx k.val) [80] (ftx 1) = (if k.val = 2 then gtx 2 else ftx k.val) ∧ Lib.replaceAll (if k.val = 2 then gtx 2 else ftx k.val) [81] (ftx 3) = gtx k.val := by decide +kernel
end Go.Proofs.YtolkohncmidpeaaGreatDoor
namespace Go.Proofs.YtolkohncmidpeaaGreatDoor
open Go.RowKit
set_option linter.unusedVariables false
/-- The pieces of a text between the bytes c; pre is the piece that is open. -/
def cutS (c : UInt8) : List UInt8 → List UInt8 → List (List UInt8)
  | pre, [] => [pre]
  | pre, x :: r => if x = c then pre :: cutS c [] r else cutS c (pre ++ [x]) r
def cutL (c : UInt8) (l : List UInt8) : List (List UInt8) := cutS c [] l
/-- The strings of a list of texts. -/
def strs (xs : List (List UInt8)) : List Value := xs.map fun l => .string (ofL l)
end Go.Proofs.YtolkohncmidpeaaGreatDoor
namespace Go.Proofs.YtolkohncmidpeaaGreatDoor
set_option linter.unusedVariables false
theorem index_one (c b : UInt8) (l : List UInt8) : Lib.index (b :: l) [c] = if b = c then 0 else if Lib.index l [c] = -1 then -1 else Lib.index l [c] + 1 := by
  rw [Lib.index]
  by_cases h : b = c
  · subst h
    simp
  · have h2 : (c == b) = false := beq_eq_false_iff_ne.2 (fun e => h e.symm)
    simp [h]
    intro e
    exact absurd e.symm h
theorem index_ge (c : UInt8) : ∀ l : List UInt8, Lib.index l [c] = -1 ∨ 0 ≤ Lib.index l [c]
  | [] => .inl rfl
  | b :: l => by
    rw [index_one]
    have := index_ge c l
    split
    · exact .inr (by omega)
    · split
      · exact .inl rfl
      · exact .inr (by omega)
theorem cutS_index (c : UInt8) : ∀ (l pre : List UInt8), cutS c pre l = if Lib.index l [c] = -1 then [pre ++ l] else (pre ++ l.take (Lib.index l [c]).toNat) :: cutS c [] (l.drop ((Lib.index l [c]).toNat + 1))
  | [], pre => by simp [cutS, Lib.index]
  | b :: l, pre => by
    rw [cutS, index_one]
    by_cases h : b = c
    · rw [if_pos h, if_pos h]
      simp
    · rw [if_neg h, if_neg h, cutS_index c l (pre ++ [b])]
      rcases index_ge c l with h1 | h1
      · simp [h1]
      · rw [if_neg (show ¬ Lib.index l [c] = -1 by omega), if_neg (show ¬ Lib.index l [c] = -1 by omega), if_neg (show ¬ Lib.index l [c] + 1 = -1 by omega)]
        have e : (Lib.index l [c] + 1).toNat = (Lib.index l [c]).toNat + 1 := by omega
        rw [e]
        simp
theorem split_cut (c : UInt8) : ∀ (n : Nat) (l : List UInt8), l.length ≤ n → Lib.splitK [c] 0 (Lib.count l [c]) l = cutL c l
  | 0, l, h => by
    have : l = [] := List.eq_nil_of_length_eq_zero (by omega)
    subst this
    rw [Lib.count_miss (by rfl)]
    rfl
  | n + 1, l, h => by
    unfold cutL
    rw [cutS_index]
    rcases index_ge c l with h1 | h1
    · rw [if_pos h1, Lib.count_miss h1]
      rfl
    · rw [if_neg (by omega), Lib.count_hit (i := (Lib.index l [c]).toNat) (by simp) (by omega), Nat.add_comm 1, Lib.splitK, if_neg (by simp; omega)]
      have hl := Lib.index_room l [c] h1
      have ih := split_cut c n (l.drop ((Lib.index l [c]).toNat + 1)) (by rw [List.length_drop]; simp at hl; omega)
      unfold cutL at ih
      simp only [List.length_cons, List.length_nil, Nat.zero_add, Nat.add_zero, List.nil_append]
      rw [ih]
end Go.Proofs.YtolkohncmidpeaaGreatDoor
namespace Go.Proofs.YtolkohncmidpeaaGreatDoor
set_option linter.unusedVariables false
/-- The operands' texts, each with the piece behind it. -/
def catP (f : Tr → List UInt8) : List (List UInt8) → List Tr → List UInt8
  | p :: ps, t :: ts => f t ++ p ++ catP f ps ts
  | _, _ => []
theorem catP_step {f : Tr → List UInt8} {ps : List (List UInt8)} {ks : List Tr} {j : Nat} (h1 : j < ks.length) (h2 : j < ps.length) : catP f (ps.drop j) (ks.drop j) = f ks[j] ++ ps[j] ++ catP f (ps.drop (j + 1)) (ks.drop (j + 1)) := by
  rw [List.drop_eq_getElem_cons h1, List.drop_eq_getElem_cons h2, catP]
theorem catP_end {f : Tr → List UInt8} {ps : List (List UInt8)} {ks : List Tr} {j : Nat} (h1 : ks.length ≤ j) : catP f (ps.drop j) (ks.drop j) = [] := by
  rw [List.drop_of_length_le h1]
  cases ps.drop j <;> rfl
theorem fmtL_parts {k n d : Int} {ks : List Tr} (h : shape sigT (.mk k n ks) d = true) (h1 : k ≠ 1) (h2 : k ≠ 2) : fmtL (.mk k n ks) = (prt k).headD [] ++ catP fmtL (prt k).tail ks ∧ (prt k).length = ks.length + 1 := by
  obtain ⟨hops, hn0, hn1, hks⟩ := shape_kids' h
  have hops2 : opsT k = (ks.length : Int) := hops
  have hmost : n ≤ mostT k := hn1
  rcases opsT_kind hops2 with rfl | rfl | rfl | rfl | rfl | rfl | rfl | rfl | rfl | rfl | rfl | rfl | rfl | rfl | rfl | rfl
  · exact absurd rfl h1
  · exact absurd rfl h2
  · have hn : n = 0 := by have : mostT 3 = 0 := rfl; omega
    subst hn
    obtain ⟨x, y, rfl⟩ : ∃ x y, ks = [x, y] := by
      have hlen : ks.length = 2 := by have : opsT 3 = 2 := rfl; omega
      match ks, hlen with
      | [x, y], _ => exact ⟨x, y, rfl⟩
    have e := fmt_3 (x := x) (y := y) []
    rw [List.append_nil] at e
    rw [e]
    exact ⟨by simp [prt, catP], rfl⟩
  · have hn : n = 0 := by have : mostT 4 = 0 := rfl; omega
    subst hn
    obtain ⟨x, y, rfl⟩ : ∃ x y, ks = [x, y] := by
      have hlen : ks.length = 2 := by have : opsT 4 = 2 := rfl; omega
      match ks, hlen with
      | [x, y], _ => exact ⟨x, y, rfl⟩
    have e := fmt_4 (x := x) (y := y) []
    rw [List.append_nil] at e
    rw [e]
    exact ⟨by simp [prt, catP], rfl⟩
  · have hn : n = 0 := by have : mostT 5 = 0 := rfl; omega
    subst hn
    obtain ⟨x, y, rfl⟩ : ∃ x y, ks = [x, y] := by
      have hlen : ks.length = 2 := by have : opsT 5 = 2 := rfl; omega
      match ks, hlen with
      | [x, y], _ => exact ⟨x, y, rfl⟩
    have e := fmt_5 (x := x) (y := y) []
    rw [List.append_nil] at e
    rw [e]
    exact ⟨by simp [prt, catP], rfl⟩
  · have hn : n = 0 := by have : mostT 6 = 0 := rfl; omega
    subst hn
    have hk0 : ks = [] := List.eq_nil_of_length_eq_zero (by have : opsT 6 = 0 := rfl; omega)
    subst hk0
    have e := fmt_6 []
    rw [List.append_nil] at e
    rw [e]
    exact ⟨by simp [prt, catP], rfl⟩
  · have hn : n = 0 := by have : mostT 7 = 0 := rfl; omega
    subst hn
    have hk0 : ks = [] := List.eq_nil_of_length_eq_zero (by have : opsT 7 = 0 := rfl; omega)
    subst hk0
    have e := fmt_7 []
    rw [List.append_nil] at e
    rw [e]
    exact ⟨by simp [prt, catP], rfl⟩
  · have hn : n = 0 := by have : mostT 8 = 0 := rfl; omega
    subst hn
    obtain ⟨x, rfl⟩ : ∃ x, ks = [x] := by
      have hlen : ks.length = 1 := by have : opsT 8 = 1 := rfl; omega
      match ks, hlen with
      | [x], _ => exact ⟨x, rfl⟩
    have e := fmt_8 (x := x) []
    rw [List.append_nil] at e
    rw [e]
    exact ⟨by simp [prt, catP], rfl⟩
  · have hn : n = 0 := by have : mostT 9 = 0 := rfl; omega
    subst hn
    obtain ⟨x, y, z, u, rfl⟩ : ∃ x y z u, ks = [x, y, z, u] := by
      have hlen : ks.length = 4 := by have : opsT 9 = 4 := rfl; omega
      match ks, hlen with
      | [x, y, z, u], _ => exact ⟨x, y, z, u, rfl⟩
    have e := fmt_9 (x := x) (y := y) (z := z) (u := u) []
    rw [List.append_nil] at e
    rw [e]
    exact ⟨by simp [prt, catP], rfl⟩
  · have hn : n = 0 := by have : mostT 10 = 0 := rfl; omega
    subst hn
    obtain ⟨x, y, z, rfl⟩ : ∃ x y z, ks = [x, y, z] := by
      have hlen : ks.length = 3 := by have : opsT 10 = 3 := rfl; omega
      match ks, hlen with
      | [x, y, z], _ => exact ⟨x, y, z, rfl⟩
    have e := fmt_10 (x := x) (y := y) (z := z) []
    rw [List.append_nil] at e
    rw [e]
    exact ⟨by simp [prt, catP], rfl⟩
  · have hn : n = 0 := by have : mostT 11 = 0 := rfl; omega
    subst hn
    obtain ⟨x, rfl⟩ : ∃ x, ks = [x] := by
      have hlen : ks.length = 1 := by have : opsT 11 = 1 := rfl; omega
      match ks, hlen with
      | [x], _ => exact ⟨x, rfl⟩
    have e := fmt_11 (x := x) []
    rw [List.append_nil] at e
    rw [e]
    exact ⟨by simp [prt, catP], rfl⟩
  · have hn : n = 0 := by have : mostT 12 = 0 := rfl; omega
    subst hn
    obtain ⟨x, y, z, rfl⟩ : ∃ x y z, ks = [x, y, z] := by
      have hlen : ks.length = 3 := by have : opsT 12 = 3 := rfl; omega
      match ks, hlen with
      | [x, y, z], _ => exact ⟨x, y, z, rfl⟩
    have e := fmt_12 (x := x) (y := y) (z := z) []
    rw [List.append_nil] at e
    rw [e]
    exact ⟨by simp [prt, catP], rfl⟩
  · have hn : n = 0 := by have : mostT 13 = 0 := rfl; omega
    subst hn
    obtain ⟨x, y, rfl⟩ : ∃ x y, ks = [x, y] := by
      have hlen : ks.length = 2 := by have : opsT 13 = 2 := rfl; omega
      match ks, hlen with
      | [x, y], _ => exact ⟨x, y, rfl⟩
    have e := fmt_13 (x := x) (y := y) []
    rw [List.append_nil] at e
    rw [e]
    exact ⟨by simp [prt, catP], rfl⟩
  · have hn : n = 0 := by have : mostT 14 = 0 := rfl; omega
    subst hn
    obtain ⟨x, y, z, rfl⟩ : ∃ x y z, ks = [x, y, z] := by
      have hlen : ks.length = 3 := by have : opsT 14 = 3 := rfl; omega
      match ks, hlen with
      | [x, y, z], _ => exact ⟨x, y, z, rfl⟩
    have e := fmt_14 (x := x) (y := y) (z := z) []
    rw [List.append_nil] at e
    rw [e]
    exact ⟨by simp [prt, catP], rfl⟩
  · have hn : n = 0 := by have : mostT 15 = 0 := rfl; omega
    subst hn
    obtain ⟨x, rfl⟩ : ∃ x, ks = [x] := by
      have hlen : ks.length = 1 := by have : opsT 15 = 1 := rfl; omega
      match ks, hlen with
      | [x], _ => exact ⟨x, rfl⟩
    have e := fmt_15 (x := x) []
    rw [List.append_nil] at e
    rw [e]
    exact ⟨by simp [prt, catP], rfl⟩
  · have hn : n = 0 := by have : mostT 16 = 0 := rfl; omega
    subst hn
    obtain ⟨x, rfl⟩ : ∃ x, ks = [x] := by
      have hlen : ks.length = 1 := by have : opsT 16 = 1 := rfl; omega
      match ks, hlen with
      | [x], _ => exact ⟨x, rfl⟩
    have e := fmt_16 (x := x) []
    rw [List.append_nil] at e
    rw [e]
    exact ⟨by simp [prt, catP], rfl⟩
end Go.Proofs.YtolkohncmidpeaaGreatDoor
namespace Go.Proofs.YtolkohncmidpeaaGreatDoor
open Go.RowKit
set_option linter.unusedVariables false
attribute [local go_sem ↓] Go.wp_at_zero Go.wp_at_succ
/-- bytealg's bound is some int. -/
def EnvM (w : World) : Prop := ∃ m, w.cell? ⟨0, 0, none⟩ = some (.int .i64 m)
theorem EnvM.ext {w w' : World} (h : EnvM w) (he : Ext w w') : EnvM w' := by
  obtain ⟨m, h1⟩ := h
  exact ⟨m, he.cell h1⟩
theorem envM_of {w : World} (h : w.ShapedOpen Tryz.prog) : EnvM w := Tryz.laysM146.s1_3 w h
theorem map_ofL {xs : List ByteArray} {ys : List (List UInt8)} (h : xs.map (·.data.toList) = ys) : xs.map Value.string = strs ys := by
  subst h
  unfold strs
  rw [List.map_map]
  apply List.map_congr_left
  intro a _
  show Value.string a = Value.string (ofL a.data.toList)
  rw [ofL_of]
theorem strs_get {xs : List (List UInt8)} {j : Nat} (h : j < xs.length) : (strs xs).toArray[j]? = some (.string (ofL xs[j])) := by
  unfold strs
  simp [h]
theorem split_any (l : List UInt8) (c : UInt8) (w : World) (hw : EnvM w) (hl : l.length ≤ 1000000000) : Calls Tryz.prog 39 #[.string (ofL l), .string (ofL [c])] w fun e w' => e = .returned (.slice (some ⟨w.heap.size, 0, none⟩) (cutL c l).length (cutL c l).length) ∧ w' = w.alloc (.cells (strs (cutL c l)).toArray 9) := by
  obtain ⟨m, hm⟩ := hw
  have h1 : 1 ≤ (ofL [c]).size := by rw [ofL_size]; exact Nat.le_refl 1
  have h := Tryz.strings_Split (ofL l) (ofL [c]) m w (by rw [ofL_size]; omega) hm h1
  have hd := Lib.splitB_data (ofL [c]) 0 (Lib.countB (ofL l) (ofL [c])) (ofL l)
  have hc : Lib.countB (ofL l) (ofL [c]) = Lib.count l [c] := by
    show Lib.count (ofL l).data.toList (ofL [c]).data.toList = _
    rw [ofL_list, ofL_list]
  rw [hc, ofL_list, ofL_list, split_cut c l.length l (Nat.le_refl _)] at hd
  have hlen := Lib.splitB_all (ofL [c]) h1 0 (Lib.countB (ofL l) (ofL [c])) (ofL l) rfl
  rw [hc] at h hlen
  have hn : (cutL c l).length = Lib.count l [c] + 1 := by rw [← hd, List.length_map, hlen]
  rw [map_ofL hd] at h
  rw [hn]
  exact h
/-- The pieces lie in a new block. -/
theorem split_at (l : List UInt8) (c : UInt8) (xs : List (List UInt8)) (hxs : cutL c l = xs) (w : World) (hw : EnvM w) (hl : l.length ≤ 1000000000) : Calls Tryz.prog 39 #[.string (ofL l), .string (ofL [c])] w fun e w' => ∃ b, e = .returned (.slice (some ⟨b, 0, none⟩) xs.length xs.length) ∧ (∀ j (hj : j < xs.length), w'.cell? ⟨b, j, none⟩ = some (.string (ofL xs[j]))) ∧ w.heap.size ≤ b ∧ b < w'.heap.size ∧ Ext w w' := by
  subst hxs
  refine (split_any l c w hw hl).mono ?_
  rintro e w' ⟨rfl, rfl⟩
  refine ⟨_, rfl, fun j hj => ?_, Nat.le_refl _, by simp, (Ext.refl w).alloc _⟩
  rw [cell_of_blk (heap_alloc_new w _)]
  exact strs_get hj
theorem decDigits_decL {n : Nat} (h : n < 100) : Lib.decDigits n = decL n := by
  by_cases h9 : n ≤ 9
  · rw [Lib.decDigits, dif_pos (by omega)]
    unfold decL
    rw [if_pos (by omega)]
    simp
  · rw [Lib.decDigits, dif_neg (by omega), Lib.decDigits, dif_pos (by omega)]
    unfold decL
    rw [if_neg (by omega)]
    simp
theorem itoa_any (n : Nat) (hn : n < 100) (w : World) : Calls Tryz.prog 78 #[.int .i64 n] w fun e w' => e = .returned (.string (ofL (decL n))) ∧ w' = w := by
  have h := Tryz.strconv_Itoa_small n hn w
  rw [decDigits_decL hn] at h
  exact h
/-- The shapes of terms. -/
def shpL : List (List UInt8) := [[35], [42], [40, 46, 62, 46, 41], [91, 46, 93, 46], [40, 46, 32, 46, 41], [78], [48], [43, 46], [60, 46, 44, 46, 44, 46, 44, 46, 62], [123, 46, 44, 46, 44, 46, 125], [33, 46], [64, 60, 46, 44, 46, 44, 46, 62], [40, 46, 42, 46, 41], [124, 46, 44, 46, 44, 46, 124], [94, 46], [95, 46]]
theorem shpL_facts : ∀ j, j < 16 → cutL 46 (shpL.getD j []) = prt ((j : Int) + 1) ∧ (shpL.getD j []).length ≤ 9 := by decide
set_option maxRecDepth 100000 in
theorem shapes_at (w : World) : Calls Tryz.prog 77 #[] w fun e w' => ∃ b, e = .returned (.slice (some ⟨b, 0, none⟩) 16 16) ∧ (∀ j, j < 16 → w'.cell? ⟨b, j, none⟩ = some (.string (ofL (shpL.getD j [])))) ∧ Ext w w' := by
  have HO := Lib.hid (show ∀ j, j < 16 → (w.alloc (.cells (strs shpL).toArray 9)).cell? ⟨w.heap.size, j, none⟩ = some (.string (ofL (shpL.getD j []))) from fun j hj => by
    rw [cell_of_blk (heap_alloc_new w _)]
    have h2 : j < shpL.length := hj
    rw [strs_get h2, List.getD_eq_getElem?_getD, List.getElem?_eq_getElem h2]
    rfl)
  go_enter Tryz.func77, Tryz.ntmps77
  go_wp2_with fail
  go_ret
  exact ⟨_, rfl, HO.out, (Ext.refl w).alloc _⟩
end Go.Proofs.YtolkohncmidpeaaGreatDoor

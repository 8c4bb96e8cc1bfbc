/-
  Lemmas towards the law, 8: WalkValid.
-/
import Derived.Test.YtghmpdnlkldigaaGreatDoorDAF
import Derived.Test.YtghmpdnlkldigaaGreatDoorDAG
import Derived.BigQuiet
import Derived.Deep.RegionHeld3
import Derived.Deep.RegionWith
import Derived.Outline
import Derived.StillTailTactics
import Derived.Test.YtghmpdnlkldigaaGreatDoorProg
namespace Go.Proofs.YtghmpdnlkldigaaGreatDoor
open Go.RowKit
set_option linter.unusedVariables false
theorem within_any (n lo hi : Int) (w : World) : Calls Tryz.prog 73 #[.int .i64 n, .int .i64 lo, .int .i64 hi] w fun e w' => e = .returned (.bool (inR n lo hi)) ∧ w = w' := by
  by_cases h1 : lo ≤ n
  · by_cases h2 : n ≤ hi
    · have e : inR n lo hi = true := inR_iff.2 ⟨h1, h2⟩
      have E := Lib.hid e
      have d1 : decide (lo ≤ n) = true := by simpa using h1
      have d2 : decide (n ≤ hi) = true := by simpa using h2
      clear e
      go_enter Tryz.func73, Tryz.ntmps73
      go_wp2_with fail
      go_ret
      exact ⟨by rw [E.out]; rfl, rfl⟩
    · have e : inR n lo hi = false := inR_false.2 (.inr (by omega))
      have E := Lib.hid e
      have d1 : decide (lo ≤ n) = true := by simpa using h1
      have d2 : decide (n ≤ hi) = false := by simpa using h2
      clear e
      go_enter Tryz.func73, Tryz.ntmps73
      go_wp2_with fail
      go_ret
      exact ⟨by rw [E.out]; rfl, rfl⟩
  · have e : inR n lo hi = false := inR_false.2 (.inl (by omega))
    have E := Lib.hid e
    have d1 : decide (lo ≤ n) = false := by simpa using h1
    clear e
    go_enter Tryz.func73, Tryz.ntmps73
    go_wp2_with fail
    go_ret
    exact ⟨by rw [E.out]; rfl, rfl⟩
theorem opsT_any (k : Int) (w : World) : Calls Tryz.prog 139 #[.int .i64 k] w fun e w' => e = .returned (.int .i64 (opsT k)) ∧ Ext w w' := by
  by_cases h1 : inR k 1 16 = true
  · have H1 := Lib.hid h1
    have h2 := inR_iff.1 h1
    clear h1
    have hcs : ∀ j : Nat, j < 16 → k = (j : Int) + 1 → Calls Tryz.prog 139 #[.int .i64 k] w fun e w' => e = .returned (.int .i64 (opsT k)) ∧ Ext w w' := by
      intro j hj hk
      subst hk
      have HX := H1
      go_enter Tryz.func139, Tryz.ntmps139
      go_wp2_with (go_at_call 73; refine (within_any _ _ _ _).mono ?_; rw [HX.out]; rintro e w1 ⟨rfl, rfl⟩)
      go_ret
      refine ⟨?_, (Ext.refl _).alloc _⟩
      rcases (by omega : j = 0 ∨ j = 1 ∨ j = 2 ∨ j = 3 ∨ j = 4 ∨ j = 5 ∨ j = 6 ∨ j = 7 ∨ j = 8 ∨ j = 9 ∨ j = 10 ∨ j = 11 ∨ j = 12 ∨ j = 13 ∨ j = 14 ∨ j = 15) with rfl | rfl | rfl | rfl | rfl | rfl | rfl | rfl | rfl | rfl | rfl | rfl | rfl | rfl | rfl | rfl <;> rfl
    exact hcs (k - 1).toNat (by omega) (by omega)
  · have h2 : inR k 1 16 = false := by simpa using h1
    have H2 := Lib.hid h2
    have h3 := inR_false.1 h2
    have e : opsT k = -1 := by
      unfold opsT
      repeat rw [if_neg (by omega)]
    have E := Lib.hid e
    clear h1 h2 e
    go_enter Tryz.func139, Tryz.ntmps139
    go_wp2_with (go_at_call 73; refine (within_any _ _ _ _).mono ?_; rw [H2.out]; rintro e w1 ⟨rfl, rfl⟩)
    go_ret
    exact ⟨by rw [E.out]; rfl, Ext.refl _⟩
theorem mostT_any (k : Int) (w : World) : Calls Tryz.prog 140 #[.int .i64 k] w fun e w' => e = .returned (.int .i64 (mostT k)) ∧ w = w' := by
  by_cases h1 : k = 1
  · have e : mostT k = 20 := by simp [mostT, h1]
    have E := Lib.hid e
    have d1 : (k == 1) = true := by simpa using h1
    clear e h1
    go_enter Tryz.func140, Tryz.ntmps140
    go_wp2_with fail
    go_ret
    exact ⟨by rw [E.out]; rfl, rfl⟩
  · have d1 : (k == 1) = false := by simpa using h1
    by_cases h2 : k = 2
    · have e : mostT k = 3 := by simp [mostT, h2]
      have E := Lib.hid e
      have d2 : (k == 2) = true := by simpa using h2
      clear e h1 h2
      go_enter Tryz.func140, Tryz.ntmps140
      go_wp2_with fail
      go_ret
      exact ⟨by rw [E.out]; rfl, rfl⟩
    · have e : mostT k = 0 := by simp [mostT, h1, h2]
      have E := Lib.hid e
      have d2 : (k == 2) = false := by simpa using h2
      clear e h1 h2
      go_enter Tryz.func140, Tryz.ntmps140
      go_wp2_with fail
      go_ret
      exact ⟨by rw [E.out]; rfl, rfl⟩
end Go.Proofs.YtghmpdnlkldigaaGreatDoor

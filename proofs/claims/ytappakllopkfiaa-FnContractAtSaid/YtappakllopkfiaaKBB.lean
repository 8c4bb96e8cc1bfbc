/-
  Lemmas towards the law, 28: Step, Filled, CStep.
-/
import Derived.Test.YtappakllopkfiaaKAB
import Derived.Test.YtappakllopkfiaaKAC
import Derived.Test.YtappakllopkfiaaKAG
import Derived.Test.YtappakllopkfiaaKAI
import Derived.Test.YtappakllopkfiaaKAL
import Derived.Test.YtappakllopkfiaaKAM
import Derived.Test.YtappakllopkfiaaKAQ
import Derived.Deep.RegionHeld3
import Derived.Deep.RegionHeldLaw
import Derived.Lib.SliceRun
import Derived.Outline
namespace Go.Proofs.Ytappakllopkfiaa
open Go.RowKit
set_option linter.unusedVariables false
/-- The node's kind. -/
def Tr.kd : Tr → Int
  | .mk k _ _ => k
def kid (ks : List Tr) (i : Nat) : Tr := ks.getD i dflt
end Go.Proofs.Ytappakllopkfiaa
namespace Go.Proofs.Ytappakllopkfiaa
open Go.RowKit
set_option linter.unusedVariables false
attribute [local go_sem ↓] Go.wp_at_zero Go.wp_at_succ
/-- A load, named: so that a region's walk does not look for it in what it holds. -/
def ldF (t : TypeId) (s : Nat) : Op := Op.load t (.tmp s)
attribute [local go_sem] ldF
end Go.Proofs.Ytappakllopkfiaa
namespace Go.Proofs.Ytappakllopkfiaa
open Go.RowKit
set_option linter.unusedVariables false
attribute [local go_sem ↓] Go.wp_at_zero Go.wp_at_succ
mutual
/-- A tree's rows are there. -/
theorem InT.bound {w : World} {S : Nat → Prop} : ∀ {t : Tr} {v : Value}, InT w S t v → InT w (fun b => S b ∧ b < w.heap.size) t v
  | .mk k n ks, v, h => by
    obtain ⟨A, cap, rfl, h1, h2, h3⟩ := InT.mk_iff.1 h
    refine InT.mk_iff.2 ⟨A, cap, rfl, h1, h2, ?_⟩
    cases ks with
    | nil => exact .inl rfl
    | cons t ts =>
      rcases h3 with h3 | ⟨b, o, rfl, hb, hl⟩
      · cases h3
      · refine .inr ⟨b, o, rfl, ⟨hb, ?_⟩, InL.bound hl⟩
        unfold InL at hl
        obtain ⟨⟨v0, v1, v2, h0, -⟩, -⟩ := hl
        exact World.block_lt_of_cell? _ _ h0
theorem InL.bound {w : World} {S : Nat → Prop} {b : Nat} : ∀ {o : Nat} {ks : List Tr}, InL w S b o ks → InL w (fun b => S b ∧ b < w.heap.size) b o ks
  | _, [], _ => by unfold InL; trivial
  | o, t :: ts, h => by
    unfold InL at h ⊢
    obtain ⟨⟨v0, v1, v2, h0, h1, h2, ht⟩, hts⟩ := h
    exact ⟨⟨v0, v1, v2, h0, h1, h2, InT.bound ht⟩, InL.bound hts⟩
end
/-- A tree lies in a later world as1 it did. -/
theorem InT.later {w w' : World} {S : Nat → Prop} {t : Tr} {v : Value} (h : InT w S t v) (he : Ext w w') : InT w' S t v :=
  InT.mono (fun _ hb => hb.1) (fun b hb => he.heap b hb.2) h.bound
theorem heap_alloc_at {w : World} {o : Obj} {n : Nat} (h : n = w.heap.size) : (w.alloc o).heap[n]? = some o := h ▸ heap_alloc_new w o
end Go.Proofs.Ytappakllopkfiaa

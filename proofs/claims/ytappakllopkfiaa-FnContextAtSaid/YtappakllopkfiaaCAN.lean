/-
  Lemmas towards the law, 14: Places.
-/
import Derived.Test.YtappakllopkfiaaCAE
import Derived.Test.YtappakllopkfiaaCAJ
import Derived.Test.YtappakllopkfiaaCAM
import Derived.Deep.RegionHeldLaw
import Derived.Lib.SliceRun
namespace Go.Proofs.Ytappakllopkfiaa
open Go.RowKit
set_option linter.unusedVariables false
attribute [local go_sem ↓] Go.wp_at_zero Go.wp_at_succ
theorem plcs_snoc (p : Tr → Bool) (t : Tr) (q : List Int) : ∀ (a : List Tr) (i : Nat), plcs p i (a ++ [t]) q = plcs p i a q ++ plc p t (q ++ [((i + a.length : Nat) : Int)])
  | [], i => by simp [plcs]
  | x :: a, i => by
    rw [List.cons_append, plcs, plcs, plcs_snoc p t q a (i + 1), List.append_assoc, List.length_cons, show i + 1 + a.length = i + (a.length + 1) by omega]
theorem plc_len_le (p : Tr → Bool) (t : Tr) (q : List Int) : (plc p t q).length ≤ cnt t := by rw [plc_len]; exact cntP_le p t
theorem plcs_len_le (p : Tr → Bool) (ks : List Tr) (i : Nat) (q : List Int) : (plcs p i ks q).length ≤ cnts ks := by rw [plcs_len]; exact cntsP_le p ks
/-- A place that lies in w. -/
def PathL (w : World) (u : Value) (p : List Int) : Prop := PathAt w (fun b => b < w.heap.size) u p
theorem PathL.ext {w w' : World} {u : Value} {p : List Int} (h : PathL w u p) (he : Ext w w') : PathL w' u p := h.mono (fun b hb => Nat.lt_of_lt_of_le hb he.size) (fun b hb => he.heap b hb)
theorem infoIntP : (Try.prog.info? 3).map (fun i => (i.zero, i.size, i.bytes)) = some (some (.int .i64 0), 1, 8) := by kernel_rfl
theorem infoIntsP : (Try.prog.info? 55).map (fun i => (i.zero, i.size, i.bytes)) = some (some (.slice none 0 0), 1, 24) := by kernel_rfl
theorem Ext.ownsRow {w w' : World} {base n : Nat} {e : TypeId} {k : Nat} {v : Value} {xs : List Value} (he : Ext w w') (h : w.ownsRow base e k v n xs) : w'.ownsRow base e k v n xs := ownsRow_same1 h (fun g hg => he.heap g (h.lt g hg).2)
theorem GrowP.form {W w : World} {e : TypeId} {v : Value} {ps : List (List Int)} (h : GrowP W w e v ps) : ∃ B c, v = .slice B ps.length c := by
  obtain ⟨A, c, h1, -⟩ := h.slice
  exact ⟨A, c, h1⟩
theorem GrowP.form3 {W w : World} {e : TypeId} {v : Value} {ps : List (List Int)} (h : GrowP W w e v ps) : ∃ B l c, v = .slice B l c := by
  obtain ⟨A, c, h1⟩ := h.form
  exact ⟨A, _, c, h1⟩
def allP (_ : Tr) : Bool := true
end Go.Proofs.Ytappakllopkfiaa

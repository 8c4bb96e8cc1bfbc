/-
  impl.valid, spec.l7Made; impl.PutAt.
-/
import Derived.Test.YtappakllopkfiaaPut
namespace Go.Proofs.Ytappakllopkfiaa
open Go.RowKit
set_option linter.unusedVariables false
attribute [local go_sem ↓] Go.wp_at_zero Go.wp_at_succ

theorem validR_any (t : Tr) (a0 a1 : Int) (a2 : Option Addr) (a3 a4 : Nat) (w : World) (hin : Lies w t (.agg #[.int .i64 a0, .int .i64 a1, .slice a2 a3 a4])) :
    Calls Try.prog 154 #[.agg #[.int .i64 a0, .int .i64 a1, .slice a2 a3 a4]] w fun e w' => (if valid sigT t = true then e = .returned (.tuple #[.agg #[.int .i64 a0, .int .i64 a1, .slice a2 a3 a4], .bool true]) else e = .returned (.tuple #[.agg #[.int .i64 0, .int .i64 0, .slice none 0 0], .bool false])) ∧ Ext w w' ∧ ∀ b, b < w.heap.size → w'.heap[b]? = w.heap[b]? := by
  have HV := Lib.hid (fun W (hW : Ext w W) => validTerm_any _ W _ (hin.ext hW))
  generalize valid sigT t = s at HV ⊢
  have hE := ((Ext.refl w).alloc (.cells #[.int .i64 a0, .int .i64 a1, .slice a2 a3 a4] 44)).alloc (.cells #[.int .i64 0, .int .i64 0, .slice none 0 0] 44)
  obtain ⟨hbT, hbR, hs1⟩ := blk2 (Ext.refl ((w.alloc (.cells #[.int .i64 a0, .int .i64 a1, .slice a2 a3 a4] 44)).alloc (.cells #[.int .i64 0, .int .i64 0, .slice none 0 0] 44)))
  have fin : ∀ w', Ext w w' → Ext w w' ∧ ∀ b, b < w.heap.size → w'.heap[b]? = w.heap[b]? := fun w' h => ⟨h, fun b hb => h.heap b hb⟩
  cases s with
  | true =>
    simp only [if_true]
    go_enter Try.func154, Try.ntmps154
    go_wp2_with fail
    refine (HV.out _ hE).mono ?_
    rintro e w1 ⟨rfl, e1⟩
    obtain ⟨x0, x1, x2, -, -, -⟩ := own3 (e1.blk hbT)
    obtain ⟨s0, s1, s2, f0, f1, f2⟩ := own3 (e1.blk hbR)
    go_wp2_with fail
    exact bodyPost_ret (v := .tuple #[.agg #[.int .i64 a0, .int .i64 a1, .slice a2 a3 a4], .bool true]) (by simp [results, Try.results154, go_sem, s0, s1, s2]) rfl ⟨rfl, fin _ ((((hE.trans e1).setCell (by simp) _).setCell (by simp) _).setCell (by simp) _)⟩
  | false =>
    simp only [Bool.false_eq_true, if_false]
    go_enter Try.func154, Try.ntmps154
    go_wp2_with fail
    refine (HV.out _ hE).mono ?_
    rintro e w1 ⟨rfl, e1⟩
    obtain ⟨s0, s1, s2, f0, f1, f2⟩ := own3 (e1.blk hbR)
    go_wp2_with fail
    exact bodyPost_ret (v := .tuple #[.agg #[.int .i64 0, .int .i64 0, .slice none 0 0], .bool false]) (by simp [results, Try.results154, go_sem, s0, s1, s2]) rfl ⟨rfl, fin _ ((((hE.trans e1).setCell (by simp) _).setCell (by simp) _).setCell (by simp) _)⟩
theorem l7Made_any (t : Tr) (a0 a1 : Int) (a2 : Option Addr) (a3 a4 : Nat) (w : World) (hin : Lies w t (.agg #[.int .i64 a0, .int .i64 a1, .slice a2 a3 a4])) :
    Calls Try.prog 107 #[.agg #[.int .i64 a0, .int .i64 a1, .slice a2 a3 a4]] w fun e w' => (if valid sigT t = true then e = .returned (.tuple #[.agg #[.int .i64 a0, .int .i64 a1, .slice a2 a3 a4], .bool true]) else e = .returned (.tuple #[.agg #[.int .i64 0, .int .i64 0, .slice none 0 0], .bool false])) ∧ Ext w w' ∧ ∀ b, b < w.heap.size → w'.heap[b]? = w.heap[b]? := by
  have HV := Lib.hid (fun W (hW : Ext w W) => specValidTerm _ W _ (hin.ext hW))
  generalize valid sigT t = s at HV ⊢
  have hE := ((Ext.refl w).alloc (.cells #[.int .i64 a0, .int .i64 a1, .slice a2 a3 a4] 44)).alloc (.cells #[.int .i64 0, .int .i64 0, .slice none 0 0] 44)
  obtain ⟨hbT, hbR, hs1⟩ := blk2 (Ext.refl ((w.alloc (.cells #[.int .i64 a0, .int .i64 a1, .slice a2 a3 a4] 44)).alloc (.cells #[.int .i64 0, .int .i64 0, .slice none 0 0] 44)))
  have fin : ∀ w', Ext w w' → Ext w w' ∧ ∀ b, b < w.heap.size → w'.heap[b]? = w.heap[b]? := fun w' h => ⟨h, fun b hb => h.heap b hb⟩
  cases s with
  | true =>
    simp only [if_true]
    go_enter Try.func107, Try.ntmps107
    go_wp2_with fail
    refine (HV.out _ hE).mono ?_
    rintro e w1 ⟨rfl, e1⟩
    obtain ⟨x0, x1, x2, -, -, -⟩ := own3 (e1.blk hbT)
    obtain ⟨s0, s1, s2, f0, f1, f2⟩ := own3 (e1.blk hbR)
    go_wp2_with fail
    exact bodyPost_ret (v := .tuple #[.agg #[.int .i64 a0, .int .i64 a1, .slice a2 a3 a4], .bool true]) (by simp [results, Try.results107, go_sem, s0, s1, s2]) rfl ⟨rfl, fin _ ((((hE.trans e1).setCell (by simp) _).setCell (by simp) _).setCell (by simp) _)⟩
  | false =>
    simp only [Bool.false_eq_true, if_false]
    go_enter Try.func107, Try.ntmps107
    go_wp2_with fail
    refine (HV.out _ hE).mono ?_
    rintro e w1 ⟨rfl, e1⟩
    obtain ⟨s0, s1, s2, f0, f1, f2⟩ := own3 (e1.blk hbR)
    go_wp2_with fail
    exact bodyPost_ret (v := .tuple #[.agg #[.int .i64 0, .int .i64 0, .slice none 0 0], .bool false]) (by simp [results, Try.results107, go_sem, s0, s1, s2]) rfl ⟨rfl, fin _ ((((hE.trans e1).setCell (by simp) _).setCell (by simp) _).setCell (by simp) _)⟩
/-- PutAt's answer. -/
def putV (t : Tr) (p : List Int) (u : Tr) : Tr × Bool := if (valid sigT t && (valid sigT u && ((atT t p).isSome && valid sigT (putA t p u)))) = true then (putA t p u, true) else (dflt0, false)
end Go.Proofs.Ytappakllopkfiaa

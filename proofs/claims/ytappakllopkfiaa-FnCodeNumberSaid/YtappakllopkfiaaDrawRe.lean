/-
  Drawing the argument of RedexOf.
-/
import Derived.Test.YtappakllopkfiaaMutate
namespace Go.Proofs.Ytappakllopkfiaa
open Go.RowKit
set_option linter.unusedVariables false
attribute [local go_sem ↓] Go.wp_at_zero Go.wp_at_succ

theorem cnt_valid {t : Tr} (h : valid sigT t = true) : cnt t ≤ 400 := by
  unfold valid at h
  rw [Bool.and_eq_true] at h
  exact of_decide_eq_true h.2

set_option maxRecDepth 100000 in
set_option maxHeartbeats 1000000 in
theorem drawRedexOf_any (w : World) (A : Option Addr) (cap : Nat) (bs : List Int) (hl : bs.length ≤ cap) (hc : cap ≤ maxLen) (hB : Bytes w w.heap.size A bs) : Calls Try.prog 85 #[.slice A bs.length cap] w fun e w' =>
    ∃ t u, e = .returned u ∧ cnt t ≤ 401 ∧ From w.heap.size w' t u ∧ Ext w w' := by
  have hx0 := (Ext.refl w).alloc (.cells #[.int .i64 0, .int .i64 0, .slice none 0 0] 44)
  have hb0 := heap_alloc_new w (.cells #[.int .i64 0, .int .i64 0, .slice none 0 0] 44)
  go_enter Try.func85, Try.ntmps85
  go_wp2_with fail
  refine (l19Open_any _ A cap bs hl hc ((hB.ext hx0).mono hx0.size)).mono ?_
  rintro e w1 ⟨rfl, hR, h1⟩
  generalize hg : (w.alloc (.cells #[.int .i64 0, .int .i64 0, .slice none 0 0] 44)).heap.size = g at hR ⊢
  have hg' : w.heap.size < g := by rw [← hg]; simp
  have hb1 := h1.blk hb0
  clear hg hb0
  go_wp2_with fail
  refine (l3Draw_any _ _ 0 hR (by omega)).mono ?_
  rintro e w2 ⟨t, u, rfl, hV, hF, hR2, ho⟩
  have hct := cnt_valid hV
  obtain ⟨a1, a2, a3, a4, a5, rfl⟩ := hF.three
  go_wp2_with fail
  refine (l1Mutate_any t _ _ _ _ hF.lies (by omega) hR2 (by omega)).mono ?_
  rintro e w3 ⟨t', u', rfl, hct', hF3, hR3, ho3⟩
  obtain ⟨b1, b2, b3, b4, b5, rfl⟩ := hF3.three
  have hE := (ho.trans ho3).ext (hx0.trans h1) (by intro b hb; simp at hb; omega)
  have hs2 := hF3.since (C := w.heap.size + 1) (by have := ho.size; have := lt_of_blk hb1; omega)
  obtain ⟨s0, s1, s2, f0, f1, f2⟩ := own3 (ho3.keepBlk (ho.keepBlk hb1 (by simp; omega)) (by simp; omega))
  clear hb1
  go_wp2_with fail
  refine bodyPost_ret (v := .agg #[.int .i64 b1, .int .i64 b2, .slice b3 b4 b5]) (by simp [results, Try.results85, go_sem, s0, s1, s2]) rfl ⟨t', _, rfl, by omega, ?_, ?_⟩
  · exact (((hs2.set (by simp) _).set (by simp) _).set (by simp) _).since (by omega)
  · exact ((hE.setCell (by simp) _).setCell (by simp) _).setCell (by simp) _
end Go.Proofs.Ytappakllopkfiaa

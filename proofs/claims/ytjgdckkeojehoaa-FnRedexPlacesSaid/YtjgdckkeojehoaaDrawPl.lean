/-
  Drawing the arguments of RedexPlaces and PlacesOf.
-/
import Derived.Test.YtjgdckkeojehoaaDrawRe
namespace Go.Proofs.Ytjgdckkeojehoaa
open Go.RowKit
set_option linter.unusedVariables false
attribute [local go_sem ↓] Go.wp_at_zero Go.wp_at_succ

set_option maxRecDepth 100000 in
theorem drawRedexPlaces_any (w : World) (A : Option Addr) (cap : Nat) (bs : List Int) (hl : bs.length ≤ cap) (hc : cap ≤ maxLen) (hB : Bytes w w.heap.size A bs) : Calls Try.prog 10 #[.slice A bs.length cap] w fun e w' =>
    ∃ t u, e = .returned u ∧ cnt t ≤ 401 ∧ From w.heap.size w' t u ∧ Ext w w' := by
  have hx0 := (Ext.refl w).alloc (.cells #[.int .i64 0, .int .i64 0, .slice none 0 0] 25)
  have hb0 := heap_alloc_new w (.cells #[.int .i64 0, .int .i64 0, .slice none 0 0] 25)
  go_enter Try.func10, Try.ntmps10
  go_wp2_with fail
  refine (drawRedexOf_any _ A cap bs hl hc ((hB.ext hx0).mono hx0.size)).mono ?_
  rintro e w1 ⟨t, u, rfl, hct, hL, h1⟩
  have hL := hL.since (C := w.heap.size + 1) (by simp)
  obtain ⟨b1, b2, b3, b4, b5, rfl⟩ := hL.three
  obtain ⟨s0, s1, s2, f0, f1, f2⟩ := own3 (h1.blk hb0)
  go_wp2_with fail
  refine bodyPost_ret (v := .agg #[.int .i64 b1, .int .i64 b2, .slice b3 b4 b5]) (by simp [results, Try.results10, go_sem, s0, s1, s2]) rfl ⟨t, _, rfl, hct, ?_, ?_⟩
  · exact (((hL.set (by simp) _).set (by simp) _).set (by simp) _).since (by omega)
  · exact (((hx0.trans h1).setCell (by simp) _).setCell (by simp) _).setCell (by simp) _
end Go.Proofs.Ytjgdckkeojehoaa

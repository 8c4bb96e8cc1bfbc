/-
  Lemmas towards the law, 32: Draws2.
-/
import Derived.Test.YtappakllopkfiaaCAP
import Derived.Test.YtappakllopkfiaaCBB
namespace Go.Proofs.Ytappakllopkfiaa
open Go.RowKit
set_option linter.unusedVariables false
attribute [local go_sem ↓] Go.wp_at_zero Go.wp_at_succ
theorem nd_le4 : ∀ d, d ≤ 4 → nd d ≤ 1023
  | 0, _ => by decide
  | 1, _ => by decide
  | 2, _ => by decide
  | 3, _ => by decide
  | 4, _ => by decide
theorem valid_zero : valid sigT (.mk 7 0 []) = true := by decide
set_option maxRecDepth 100000 in
theorem l1Any_any (w : World) (g m : Nat) (hR : Rd w g m) (hm : m < 900000) : Calls Try.prog 158 #[.pointer (some ⟨g, 0, none⟩)] w fun e w' => ∃ t u, e = .returned u ∧ valid sigT t = true ∧ From w.heap.size w' t u ∧ Rd w' g (m + 1024) ∧ Only [g] w w' := by
  have hgl := hR.lt
  have hx0 := ((Ext.refl w).alloc (.cells #[.int .i64 0, .int .i64 0, .slice none 0 0] 44)).alloc (.cells #[.int .i64 3, .int .i64 4, .int .i64 2, .int .i64 3, .int .i64 1] 3)
  obtain ⟨b40, b50, -⟩ := blk2 (Ext.refl ((w.alloc (.cells #[.int .i64 0, .int .i64 0, .slice none 0 0] 44)).alloc (.cells #[.int .i64 3, .int .i64 4, .int .i64 2, .int .i64 3, .int .i64 1] 3)))
  have hN := nums_lit (w := w.alloc (.cells #[.int .i64 0, .int .i64 0, .slice none 0 0] 44)) (cs := #[.int .i64 3, .int .i64 4, .int .i64 2, .int .i64 3, .int .i64 1]) (e := 3) (ns := [3, 4, 2, 3, 1]) rfl
  rw [World.size_alloc] at hN
  go_enter Try.func158, Try.ntmps158
  go_wp2_with fail
  generalize (w.alloc _).alloc _ = w0 at hx0 b40 b50 hN
  refine (num_any _ g m (hR.ext hx0) (by omega) _ 5 [3, 4, 2, 3, 1] (by simp) (by decide) (by simp) hN (by intro b o hb; simp at hb; omega)).mono ?_
  rintro e w1 ⟨d, rfl, hmem, hR1, ho1⟩
  obtain ⟨dn, rfl, hd4⟩ : ∃ dn : Nat, d = dn ∧ dn ≤ 4 := by
    simp only [List.mem_cons, List.not_mem_nil, or_false] at hmem
    exact ⟨d.toNat, by omega, by omega⟩
  have hnd := nd_le4 dn hd4
  have b41 := ho1.keepBlk b40 (by simp; omega)
  have hO1 := (Only.of_ext (L := [g]) hx0).trans ho1
  clear hmem hN b50 b40
  go_wp2_with fail
  refine (l1Draw_any dn hd4 _ g _ hR1 (by omega)).mono ?_
  rintro e w2 ⟨t, u, rfl, hF, hR2, ho2⟩
  obtain ⟨k0, n0, A0, l0, c0, rfl⟩ := hF.three
  have b42 := ho2.keepBlk b41 (by simp; omega)
  have hO2 := hO1.trans ho2
  have hx3 := (Ext.refl w2).alloc (.cells #[.int .i64 k0, .int .i64 n0, .slice A0 l0 c0] 44)
  have hbT := heap_alloc_new w2 (.cells #[.int .i64 k0, .int .i64 n0, .slice A0 l0 c0] 44)
  have hFx := (hF.ext hx3).since (show w.heap.size + 1 ≤ w1.heap.size from lt_of_blk b41)
  have b43 := hx3.blk b42
  have hO3 := hO2.trans (Only.of_ext (L := [g]) hx3)
  have hR3 := hR2.ext hx3
  clear b41 b42 hO1 hO2 hF hR1
  go_wp2_with fail
  refine (specValidTerm t _ _ hFx.lies).mono ?_
  obtain ⟨vt, hvt⟩ : ∃ vt, vt = valid sigT t := ⟨_, rfl⟩
  rw [← hvt]
  rintro e w4 ⟨rfl, e4⟩
  have hF4 := hFx.ext e4
  obtain ⟨s0, s1, s2, f0, f1, f2⟩ := own3 (e4.blk b43)
  obtain ⟨x0, x1, x2, -, -, -⟩ := own3 (e4.blk hbT)
  have hO4 := hO3.trans (Only.of_ext (L := [g]) e4)
  have hR4 := hR3.ext e4
  have HV := Lib.hid hvt
  clear hvt hbT hR3 hO3 hR2
  cases vt with
  | true =>
    go_wp2_with fail
    refine bodyPost_ret (v := .agg #[.int .i64 k0, .int .i64 n0, .slice A0 l0 c0]) (by simp [results, Try.results158, go_sem, s0, s1, s2]) rfl ⟨t, _, rfl, HV.out.symm, ?_, ?_, ?_⟩
    · exact (((hF4.set (by simp) _).set (by simp) _).set (by simp) _).since (by omega)
    · exact (((hR4.mono (by omega)).set (by simpa using hgl) _).set (by simpa using hgl) _).set (by simpa using hgl) _
    · exact ((hO4.setNew (by simp) _).setNew (by simp) _).setNew (by simp) _
  | false =>
    have b44 := e4.blk b43
    clear s0 s1 s2 f0 f1 f2
    go_wp2_with fail
    refine (l1Leaf_any _ 7 0).mono ?_
    rintro e w5 ⟨rfl, e5⟩
    obtain ⟨s0, s1, s2, f0, f1, f2⟩ := own3 (e5.blk b44)
    have hO5 := hO4.trans (Only.of_ext (L := [g]) e5)
    have hR5 := hR4.ext e5
    go_wp2_with fail
    refine bodyPost_ret (v := .agg #[.int .i64 7, .int .i64 0, .slice none 0 0]) (by simp [results, Try.results158, go_sem, s0, s1, s2]) rfl ⟨.mk 7 0 [], _, rfl, valid_zero, From.leaf _ _ _ _, ?_, ?_⟩
    · exact (((hR5.mono (by omega)).set (by simpa using hgl) _).set (by simpa using hgl) _).set (by simpa using hgl) _
    · exact ((hO5.setNew (by simp) _).setNew (by simp) _).setNew (by simp) _
end Go.Proofs.Ytappakllopkfiaa

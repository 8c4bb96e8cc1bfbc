/-
  Lemmas towards the law, 40: Draws2.
-/
import Derived.Test.YtappakllopkfiaaKAI
import Derived.Test.YtappakllopkfiaaKBK
namespace Go.Proofs.Ytappakllopkfiaa
open Go.RowKit
set_option linter.unusedVariables false
attribute [local go_sem ↓] Go.wp_at_zero Go.wp_at_succ
theorem nd_le4 : ∀ d, d ≤ 4 → nd d ≤ 1023
  | 0, _ => by decide
  | 1, _ => by decide
  | 2, _ => by decide
  | 3, _ => by decide
  | 4, _ => by decide
theorem valid_zero : valid sigT (.mk 7 0 []) = true := by decide
set_option maxRecDepth 100000 in
theorem l1Any_any (w : World) (g m : Nat) (hR : Rd w g m) (hm : m < 900000) : Calls Try.prog 158 #[.pointer (some ⟨g, 0, none⟩)] w fun e w' => ∃ t u, e = .returned u ∧ valid sigT t = true ∧ From w.heap.size w' t u ∧ Rd w' g (m + 1024) ∧ Only [g] w w' := by
  have hgl := hR.lt
  have hx0 := ((Ext.refl w).alloc (.cells #[.int .i64 0, .int .i64 0, .slice none 0 0] 44)).alloc (.cells #[.int .i64 3, .int .i64 4, .int .i64 2, .int .i64 3, .int .i64 1] 3)
  obtain ⟨b40, b50, -⟩ := blk2 (Ext.refl ((w.alloc (.cells #[.int .i64 0, .int .i64 0, .slice none 0 0] 44)).alloc (.cells #[.int .i64 3, .int .i64 4, .int .i64 2, .int .i64 3, .int .i64 1] 3)))
  have hN := nums_lit (w := w.alloc (.cells #[.int .i64 0, .int .i64 0, .slice none 0 0] 44)) (cs := #[.int .i64 3, .int .i64 4, .int .i64 2, .int .i64 3, .int .i64 1]) (e := 3) (ns := [3, 4, 2, 3, 1]) rfl
  rw [World.size_alloc] at hN
  go_enter Try.func158, Try.ntmps158
  go_wp2_with fail
  generalize (w.alloc _).alloc _ = w0 at hx0 b40 b50 hN
  refine (num_any _ g m (hR.ext hx0) (by omega) _ 5 [3, 4, 2, 3, 1] (by simp) (by decide) (by simp) hN (by intro b o hb; simp at hb; omega)).mono ?_
  rintro e w1 ⟨d, rfl, hmem, hR1, ho1⟩
  obtain ⟨dn, rfl, hd4⟩ : ∃ dn : Nat, d = dn ∧ dn ≤ 4 := by
    simp only [List.mem_cons, List.not_mem_nil, or_false] at hmem
    exact ⟨d.toNat, by omega, by omega⟩
  have hnd := nd_le4 dn hd4
  have b41 := ho1.keepBlk b40 (by simp; omega)
  have hO1 := (Only.of_ext (L := [g]) hx0).trans ho1
  clear hmem hN b50 b40
  go_wp2_with fail
  refine (l1Draw_any dn hd4 _ g _ hR1 (by omega)).mono ?_
  rintro e w2 ⟨t, u, rfl, hF, hR2, ho2⟩
  obtain ⟨k0, n0, A0, l0, c0, rfl⟩ := hF.three
  have b42 := ho2.keepBlk b41 (by simp; omega)
  have hO2 := hO1.trans ho2
  have hx3 := (Ext.refl w2).alloc (.cells #[.int .i64 k0, .int .i64 n0, .slice A0 l0 c0] 44)
  have hbT := heap_alloc_new w2 (.cells #[.int .i64 k0, .int .i64 n0, .slice A0 l0 c0] 44)
  have hFx := (hF.ext hx3).since (show w.heap.size + 1 ≤ w1.heap.size from lt_of_blk b41)
  have b43 := hx3.blk b42
  have hO3 := hO2.trans (Only.of_ext (L := [g]) hx3)
  have hR3 := hR2.ext hx3
  clear b41 b42 hO1 hO2 hF hR1
  go_wp2_with fail
  refine (specValidTerm t _ _ hFx.lies).mono ?_
  obtain ⟨vt, hvt⟩ : ∃ vt, vt = valid sigT t := ⟨_, rfl⟩
  rw [← hvt]
  rintro e w4 ⟨rfl, e4⟩
  have hF4 := hFx.ext e4
  obtain ⟨s0, s1, s2, f0, f1, f2⟩ := own3 (e4.blk b43)
  obtain ⟨x0, x1, x2, -, -, -⟩ := own3 (e4.blk hbT)
  have hO4 := hO3.trans (Only.of_ext (L := [g]) e4)
  have hR4 := hR3.ext e4
  have HV := Lib.hid hvt
  clear hvt hbT hR3 hO3 hR2
  cases vt with
  | true =>
    go_wp2_with fail
    refine bodyPost_ret (v := .agg #[.int .i64 k0, .int .i64 n0, .slice A0 l0 c0]) (by simp [results, Try.results158, go_sem, s0, s1, s2]) rfl ⟨t, _, rfl, HV.out.symm, ?_, ?_, ?_⟩
    · exact (((hF4.set (by simp) _).set (by simp) _).set (by simp) _).since (by omega)
    · exact (((hR4.mono (by omega)).set (by simpa using hgl) _).set (by simpa using hgl) _).set (by simpa using hgl) _
    · exact ((hO4.setNew (by simp) _).setNew (by simp) _).setNew (by simp) _
  | false =>
    have b44 := e4.blk b43
    clear s0 s1 s2 f0 f1 f2
    go_wp2_with fail
    refine (l1Leaf_any _ 7 0).mono ?_
    rintro e w5 ⟨rfl, e5⟩
    obtain ⟨s0, s1, s2, f0, f1, f2⟩ := own3 (e5.blk b44)
    have hO5 := hO4.trans (Only.of_ext (L := [g]) e5)
    have hR5 := hR4.ext e5
    go_wp2_with fail
    refine bodyPost_ret (v := .agg #[.int .i64 7, .int .i64 0, .slice none 0 0]) (by simp [results, Try.results158, go_sem, s0, s1, s2]) rfl ⟨.mk 7 0 [], _, rfl, valid_zero, From.leaf _ _ _ _, ?_, ?_⟩
    · exact (((hR5.mono (by omega)).set (by simpa using hgl) _).set (by simpa using hgl) _).set (by simpa using hgl) _
    · exact ((hO5.setNew (by simp) _).setNew (by simp) _).setNew (by simp) _
theorem l3Plus_any (w : World) : Calls Try.prog 180 #[] w fun e w' => (∃ x : ByteArray, e = .returned (.string x) ∧ x.size ≤ 100) ∧ w = w' := by
  go_enter Try.func180, Try.ntmps180
  go_wp2_with fail
  go_ret
  exact ⟨⟨_, rfl, by decide⟩, rfl⟩
set_option maxRecDepth 100000 in
set_option maxHeartbeats 2000000 in
theorem l3Draw_any (w : World) (g m : Nat) (hR : Rd w g m) (hm : m < 800000) : Calls Try.prog 141 #[.pointer (some ⟨g, 0, none⟩)] w fun e w' => ∃ t u, e = .returned u ∧ valid sigT t = true ∧ From w.heap.size w' t u ∧ Rd w' g (m + 1026) ∧ Only [g] w w' := by
  have hgl := hR.lt
  have hx0 := (Ext.refl w).alloc (.cells #[.int .i64 0, .int .i64 0, .slice none 0 0] 44)
  have b40 := heap_alloc_new w (.cells #[.int .i64 0, .int .i64 0, .slice none 0 0] 44)
  go_enter Try.func141, Try.ntmps141
  go_wp2_with fail
  generalize hw0 : w.alloc _ = w0 at hx0 b40 ⊢
  clear hw0
  refine (l3Plus_any _).mono ?_
  rintro e wa ⟨⟨x, rfl, hx⟩, rfl⟩
  have hn1 : ¬ (9223372036854775807 < 1 + x.size) := by omega
  have hn2 : ¬ (9223372036854775807 < 1 + x.size + 5) := by omega
  go_wp2_with fail
  refine (l3Plus_any _).mono ?_
  rintro e wa ⟨⟨y, rfl, hy⟩, rfl⟩
  have hn3 : ¬ (9223372036854775807 < 2 + y.size) := by omega
  have hn4 : ¬ (9223372036854775807 < 2 + y.size + 9) := by omega
  have hlt0 : w.heap.size < w0.heap.size := lt_of_blk b40
  go_wp2_with fail
  refine (of_any (fun s => s.size ≤ 1000) _ g m ((hR.ext hx0).ext ((Ext.refl w0).alloc _)) (by omega) _ 0 13 13 (Nat.le_refl _) (by decide) (by decide) (by omega) (by simp) (by
    intro j hj
    rw [Nat.zero_add, cell_of_blk (heap_alloc_new _ _)]
    rcases (by omega : j = 0 ∨ j = 1 ∨ j = 2 ∨ j = 3 ∨ j = 4 ∨ j = 5 ∨ j = 6 ∨ j = 7 ∨ j = 8 ∨ j = 9 ∨ j = 10 ∨ j = 11 ∨ j = 12) with rfl | rfl | rfl | rfl | rfl | rfl | rfl | rfl | rfl | rfl | rfl | rfl | rfl
    all_goals exact ⟨_, rfl, by first | decide | (simp only [ByteArray.size_append]; first | (change 1 + x.size + 5 ≤ 1000; omega) | (change 2 + y.size + 9 ≤ 1000; omega))⟩)).mono ?_
  rintro e w1 ⟨text, rfl, htx, hR1, ho1⟩
  have b41 : w1.heap[w.heap.size]? = some (.cells #[.int .i64 0, .int .i64 0, .slice none 0 0] 44 (0, 0)) := ho1.keepBlk (((Ext.refl w0).alloc _).blk b40) (by simp; omega)
  have hO1 : Only [g] w w1 := ((Only.of_ext (L := [g]) hx0).trans (Only.of_ext (L := [g]) ((Ext.refl w0).alloc _))).trans ho1
  clear hn1 hn2 hn3 hn4 hx hy b40 hx0 ho1
  go_wp2_with fail
  refine (parseTerm_any text _ (by omega)).mono ?_
  rintro e w2 ⟨u, rfl, hF, e2⟩
  obtain ⟨k0, n0, A0, l0, c0, rfl⟩ := hF.three
  have hx3 := e2.trans ((Ext.refl w2).alloc (.cells #[.int .i64 k0, .int .i64 n0, .slice A0 l0 c0] 44))
  have hbT := heap_alloc_new w2 (.cells #[.int .i64 k0, .int .i64 n0, .slice A0 l0 c0] 44)
  have b43 := hx3.blk b41
  have hO3 := hO1.trans (Only.of_ext (L := [g]) hx3)
  have hR3 := hR1.ext hx3
  have hlt1 : w.heap.size < w1.heap.size := lt_of_blk b41
  have hFx := (hF.ext ((Ext.refl w2).alloc (.cells #[.int .i64 k0, .int .i64 n0, .slice A0 l0 c0] 44))).since (show w.heap.size + 1 ≤ w1.heap.size from hlt1)
  cases hp : prsV text.data.toList with
  | none =>
    clear hbT hF hFx hR1 hO1 b41 hp
    simp only [Option.isSome]
    go_wp2_with fail
    refine (l1Any_any _ g _ hR3 (by omega)).mono ?_
    rintro e w8 ⟨t8, u8, rfl, hv8, hF8, hR8, ho8⟩
    obtain ⟨k8, n8, A8, l8, c8, rfl⟩ := hF8.three
    have b48 := ho8.keepBlk b43 (by simp; omega)
    obtain ⟨s0, s1, s2, f0, f1, f2⟩ := own3 b48
    have hO8 := hO3.trans ho8
    clear b48
    go_wp2_with fail
    refine bodyPost_ret (v := .agg #[.int .i64 k8, .int .i64 n8, .slice A8 l8 c8]) (by simp [results, Try.results141, go_sem, s0, s1, s2]) rfl ⟨t8, _, rfl, hv8, ?_, ?_, ?_⟩
    · exact (((hF8.set (by show w.heap.size < _; exact lt_of_blk b43) _).set (by show w.heap.size < _; exact lt_of_blk b43) _).set (by show w.heap.size < _; exact lt_of_blk b43) _).since (by have := lt_of_blk b43; omega)
    · exact (((hR8.mono (by omega)).set (by simpa using hgl) _).set (by simpa using hgl) _).set (by simpa using hgl) _
    · exact ((hO8.setNew (by simp) _).setNew (by simp) _).setNew (by simp) _
  | some t =>
    have hvt := (prsV_valid hp).1
    rw [hp] at hFx
    simp only [Option.getD] at hFx
    simp only [Option.isSome]
    clear hF hR1 hO1 b41 hp
    go_wp2_with fail
    refine (pick_any _ g _ 3 hR3 (by omega)).mono ?_
    rintro e w5 ⟨x, rfl, hx0, -, hR5, ho5⟩
    have b45 := ho5.keepBlk b43 (by simp; omega)
    have hF5 := hFx.only ho5 (by intro b hb; rw [List.mem_singleton.1 hb]; omega)
    have hO5 := hO3.trans ho5
    have bT5 := ho5.keepBlk hbT (by simp; have := e2.size; omega)
    obtain ⟨x0, x1, x2, -, -, -⟩ := own3 bT5
    by_cases hpos : 0 < x
    · have t1 : decide (0 < x) = true := decide_eq_true hpos
      obtain ⟨s0, s1, s2, f0, f1, f2⟩ := own3 b45
      clear hbT bT5 hR3 hO3 hFx b43
      go_wp2_with fail
      refine bodyPost_ret (v := .agg #[.int .i64 k0, .int .i64 n0, .slice A0 l0 c0]) (by simp [results, Try.results141, go_sem, s0, s1, s2]) rfl ⟨t, _, rfl, hvt, ?_, ?_, ?_⟩
      · exact (((hF5.set (by simp) _).set (by simp) _).set (by simp) _).since (by omega)
      · exact (((hR5.mono (by omega)).set (by simpa using hgl) _).set (by simpa using hgl) _).set (by simpa using hgl) _
      · exact ((hO5.setNew (by simp) _).setNew (by simp) _).setNew (by simp) _
    · have t1 : decide (0 < x) = false := decide_eq_false hpos
      clear hbT bT5 hR3 hO3 hFx b43 x0 x1 x2 hF5 hvt
      go_wp2_with fail
      refine (l1Any_any _ g _ hR5 (by omega)).mono ?_
      rintro e w8 ⟨t8, u8, rfl, hv8, hF8, hR8, ho8⟩
      obtain ⟨k8, n8, A8, l8, c8, rfl⟩ := hF8.three
      have b48 := ho8.keepBlk b45 (by simp; omega)
      obtain ⟨s0, s1, s2, f0, f1, f2⟩ := own3 b48
      have hO8 := hO5.trans ho8
      clear b48
      go_wp2_with fail
      refine bodyPost_ret (v := .agg #[.int .i64 k8, .int .i64 n8, .slice A8 l8 c8]) (by simp [results, Try.results141, go_sem, s0, s1, s2]) rfl ⟨t8, _, rfl, hv8, ?_, ?_, ?_⟩
      · exact (((hF8.set (by show w.heap.size < _; exact lt_of_blk b45) _).set (by show w.heap.size < _; exact lt_of_blk b45) _).set (by show w.heap.size < _; exact lt_of_blk b45) _).since (by have := lt_of_blk b45; omega)
      · exact (((hR8.mono (by omega)).set (by simpa using hgl) _).set (by simpa using hgl) _).set (by simpa using hgl) _
      · exact ((hO8.setNew (by simp) _).setNew (by simp) _).setNew (by simp) _
end Go.Proofs.Ytappakllopkfiaa

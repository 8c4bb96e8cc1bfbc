/-
  Drawing programs: l12Draw, DrawCodeNumber, l3Fuel, DrawRunCode.
-/
import Derived.Test.YtappakllopkfiaaMutateC
import Derived.Test.YtappakllopkfiaaNat2
import Derived.Test.YtappakllopkfiaaSpExtract
import Derived.Test.YtappakllopkfiaaSpecValid
import Derived.Deep.RegionHeld3
namespace Go.Proofs.Ytappakllopkfiaa
open Go.RowKit
set_option linter.unusedVariables false
attribute [local go_sem ↓] Go.wp_at_zero Go.wp_at_succ

set_option maxRecDepth 100000 in
set_option maxHeartbeats 2000000 in
theorem l12Draw_any (w : World) (g m : Nat) (hR : Rd w g m) (hm : m < 700000) : Calls Try.prog 74 #[.pointer (some ⟨g, 0, none⟩)] w fun e w' => ∃ c u, e = .returned u ∧ valid sigC c = true ∧ From w.heap.size w' c u ∧ Rd w' g (m + 3000) ∧ Only [g] w w' := by
  have hgl := hR.lt
  have hx0 := (Ext.refl w).alloc (.cells #[.int .i64 0, .int .i64 0, .slice none 0 0] 28)
  have hb0 := heap_alloc_new w (.cells #[.int .i64 0, .int .i64 0, .slice none 0 0] 28)
  go_enter Try.func74, Try.ntmps74
  go_wp2_with fail
  generalize hw0 : w.alloc _ = w0 at hx0 hb0 ⊢
  clear hw0
  refine (l3Draw_any _ g m (hR.ext hx0) (by omega)).mono ?_
  rintro e w1 ⟨t, u, rfl, hV, hF, hR1, ho1⟩
  obtain ⟨a1, a2, a3, a4, a5, rfl⟩ := hF.three
  have hb1 := ho1.keepBlk hb0 (by simp; omega)
  have hO1 : Only [g] w w1 := (Only.of_ext hx0).trans ho1
  have hs0 : w.heap.size < w0.heap.size := lt_of_blk hb0
  obtain ⟨w2, hw2⟩ : ∃ x, x = w1.alloc (.cells #[.int .i64 a1, .int .i64 a2, .slice a3 a4 a5] 44) := ⟨_, rfl⟩
  have e2 : Ext w1 w2 := hw2 ▸ (Ext.refl w1).alloc _
  have hb3 : w2.heap[w1.heap.size]? = some (.cells #[.int .i64 a1, .int .i64 a2, .slice a3 a4 a5] 44 (0, 0)) := hw2 ▸ heap_alloc_new w1 _
  have hs1 : w.heap.size + 1 ≤ w1.heap.size := by have := ho1.size; omega
  go_wp2_with fail
  rw [← hw2]
  obtain ⟨g3, hg3⟩ : ∃ x, x = w1.heap.size := ⟨_, rfl⟩
  rw [← hg3] at hb3 ⊢
  have hgg : g < g3 := by have := hR1.lt; omega
  have hg3l : w.heap.size + 1 ≤ g3 := by omega
  have hg3u : g3 ≤ w1.heap.size := by omega
  have hg3v : w1.heap.size ≤ g3 := by omega
  clear hg3
  refine (pick_any _ g _ 2 (hR1.ext e2) (by omega)).mono ?_
  rintro e w3 ⟨x, rfl, hx1, hx2, hR3, ho3⟩
  have hO3 : Only [g] w w3 := (hO1.trans (Only.of_ext e2)).trans ho3
  have hb4 := ho3.keepBlk hb3 (by simp; omega)
  have hb5 := ho3.keepBlk (e2.blk hb1) (by simp; omega)
  have hF3 := (hF.ext e2).only ho3 (by intro b hb; rw [List.mem_singleton.1 hb]; omega)
  have hs3 : w2.heap.size ≤ w3.heap.size := ho3.size
  clear hw2 hb3 hb1 hb0 hR1 hR
  have hsh : shape sigT t 30 = true := (valid_parts hV).1
  have hg3s : g3 < w3.heap.size := lt_of_blk hb4
  by_cases hx : x = 0
  · subst hx
    go_wp2_with fail
    refine (num_any _ _ _ (hR3.ext ((Ext.refl w3).alloc _)) (by omega) _ 3 [3, 2, 4] (by simp) (by decide) (by simp) (nums_of_row (heap_alloc_new w3 _) rfl) (by intro b o hb; simp at hb; omega)).mono ?_
    rintro e w4 ⟨y, rfl, hy, hR4, ho4⟩
    have hy' : 2 ≤ y ∧ y ≤ 4 := by simp at hy; omega
    clear hy
    have e34 := (Ext.refl w3).alloc (.cells #[.int .i64 3, .int .i64 2, .int .i64 4] 3)
    have hO4 := (hO3.trans (Only.of_ext (L := [g]) e34)).trans ho4
    have hb54 := ho4.keepBlk (e34.blk hb5) (by simp; omega)
    have hb44 := ho4.keepBlk (e34.blk hb4) (by simp; omega)
    have hs4 : w3.heap.size ≤ w4.heap.size := Nat.le_trans e34.size ho4.size
    clear hb4 hb5 ho4 e34 hR3
    go_wp2_with fail
    refine (l5Nat_any 4 (by decide) _ _ _ 0 y hR4 (by have := nd_le4 4 (by decide); omega) (by omega) (by omega) (by omega) (by omega)).mono ?_
    rintro e w5 ⟨tt, uu, rfl, hFt, hSt, hR5, ho5⟩
    obtain ⟨b1, b2, b3, b4, b5, rfl⟩ := hFt.three
    have hnd : nd 4 ≤ 1900 := by have := nd_le4 4 (by decide); omega
    have hR5' : Rd w5 g (m + 2990) := hR5.mono (by omega)
    have hO5 := hO4.trans ho5
    have hb55 := ho5.keepBlk hb54 (by simp; omega)
    have hb45 := ho5.keepBlk hb44 (by simp; omega)
    obtain ⟨x0, x1, x2, p0, p1, p2⟩ := own3 hb45
    have hs5 : w4.heap.size ≤ w5.heap.size := ho5.size
    have b4q := blk_setCell (blk_setCell (blk_setCell hb45 0 (.int .i64 b1)) 1 (.int .i64 b2)) 2 (.slice b3 b4 b5)
    have b5q := blk_setCell_ne (blk_setCell_ne (blk_setCell_ne hb55 (p := ⟨g3, 0, none⟩) (by show w.heap.size ≠ g3; omega) (.int .i64 b1)) (p := ⟨g3, 1, none⟩) (by show w.heap.size ≠ g3; omega) (.int .i64 b2)) (p := ⟨g3, 2, none⟩) (by show w.heap.size ≠ g3; omega) (.slice b3 b4 b5)
    have hRq := ((hR5'.set (p := ⟨g3, 0, none⟩) (by show g < g3; omega) (.int .i64 b1)).set (p := ⟨g3, 1, none⟩) (by show g < g3; omega) (.int .i64 b2)).set (p := ⟨g3, 2, none⟩) (by show g < g3; omega) (.slice b3 b4 b5)
    have hOq := ((hO5.setNew (p := ⟨g3, 0, none⟩) (by show w.heap.size ≤ g3; omega) (.int .i64 b1)).setNew (p := ⟨g3, 1, none⟩) (by show w.heap.size ≤ g3; omega) (.int .i64 b2)).setNew (p := ⟨g3, 2, none⟩) (by show w.heap.size ≤ g3; omega) (.slice b3 b4 b5)
    have hFq := (((hFt.set (p := ⟨g3, 0, none⟩) (by show g3 < _; omega) (.int .i64 b1)).set (p := ⟨g3, 1, none⟩) (by show g3 < _; omega) (.int .i64 b2)).set (p := ⟨g3, 2, none⟩) (by show g3 < _; omega) (.slice b3 b4 b5)).since (C := w.heap.size + 1) (by omega)
    obtain ⟨wq, hwq⟩ : ∃ x, x = ((w5.setCell ⟨g3, 0, none⟩ (.int .i64 b1)).setCell ⟨g3, 1, none⟩ (.int .i64 b2)).setCell ⟨g3, 2, none⟩ (.slice b3 b4 b5) := ⟨_, rfl⟩
    have hsq : wq.heap.size = w5.heap.size := by rw [hwq]; simp
    rw [← hwq] at b4q b5q hRq hOq hFq
    have HQ := Lib.hid hwq
    clear hb55 hb54 hb44 hb45 hR5 hR5' hO5 hFt ho5 hO4 hwq
    go_wp2_with fail
    rw [← HQ.out]
    clear HQ x0 x1 x2 p0 p1 p2 b4q
    refine (spExtract_any tt 30 _ _ (shape_up hSt.1 (by decide)) (From.lies hFq)).mono ?_
    rintro e w6 ⟨u6, rfl, hN6, e6⟩
    obtain ⟨c1, c2, c3, c4, c5, rfl⟩ := Lies.three (InT.mono (fun b hb => hb.2) (fun _ _ => rfl) hN6)
    have hF6 : From (w.heap.size + 1) w6 (exT tt) (.agg #[.int .i64 c1, .int .i64 c2, .slice c3 c4 c5]) := InT.mono (fun b hb => ⟨by have := hb.1; omega, hb.2⟩) (fun _ _ => rfl) hN6
    obtain ⟨w7, hw7⟩ : ∃ x, x = w6.alloc (.cells #[.int .i64 c1, .int .i64 c2, .slice c3 c4 c5] 28) := ⟨_, rfl⟩
    have e7 : Ext w6 w7 := hw7 ▸ (Ext.refl w6).alloc _
    have hb7 : w7.heap[w6.heap.size]? = some (.cells #[.int .i64 c1, .int .i64 c2, .slice c3 c4 c5] 28 (0, 0)) := hw7 ▸ heap_alloc_new w6 _
    have hF7 := hF6.ext e7
    clear hN6 hF6
    go_wp2_with fail
    rw [← hw7]
    clear hw7
    refine (specValidCode (exT tt) _ _ hF7.lies).mono ?_
    rintro e w8 ⟨rfl, e8⟩
    have hO8 : Only [g] w w8 := hOq.trans (Only.of_ext ((e6.trans e7).trans e8))
    have hR8 : Rd w8 g (m + 3000) := (hRq.ext ((e6.trans e7).trans e8)).mono (by omega)
    have hb8 := ((e6.trans e7).trans e8).blk b5q
    have hb78 := e8.blk hb7
    have hF8 := hF7.ext e8
    have hs8 := lt_of_blk hb8
    obtain ⟨vb, hvb⟩ : ∃ b, valid sigC (exT tt) = b := ⟨_, rfl⟩
    rw [hvb]
    obtain ⟨s0, s1, s2, f0, f1, f2⟩ := own3 hb8
    have hgx := hgl
    clear hb7 hF7 hRq hgl
    cases vb with
    | true =>
      obtain ⟨y0, y1, y2, -, -, -⟩ := own3 hb78
      clear hb8 hb78
      go_wp2_with fail
      refine bodyPost_ret (v := .agg #[.int .i64 c1, .int .i64 c2, .slice c3 c4 c5]) (by simp [results, Try.results74, go_sem, s0, s1, s2]) rfl ⟨_, _, rfl, hvb, ?_, ?_, ?_⟩
      · exact (((hF8.set (by simp) _).set (by simp) _).set (by simp) _).since (by omega)
      · exact ((hR8.set (by show g < w.heap.size; omega) _).set (by show g < w.heap.size; omega) _).set (by show g < w.heap.size; omega) _
      · exact ((hO8.setNew (by simp) _).setNew (by simp) _).setNew (by simp) _
    | false =>
      clear hb78 s0 s1 s2 f0 f1 f2
      go_wp2_with fail
      refine (l12Leaf_any _ 4).mono ?_
      rintro e w9 ⟨A9, c9, rfl, l9, e9⟩
      obtain ⟨s0, s1, s2, f0, f1, f2⟩ := own3 (e9.blk hb8)
      have hR9 := hR8.ext e9
      have hO9 := hO8.trans (Only.of_ext (L := [g]) e9)
      clear hb8 hR8
      go_wp2_with fail
      refine bodyPost_ret (v := .agg #[.int .i64 4, .int .i64 0, .slice A9 0 c9]) (by simp [results, Try.results74, go_sem, s0, s1, s2]) rfl ⟨.mk 4 0 [], _, rfl, by decide, InT.mk_iff.2 ⟨A9, c9, rfl, Nat.zero_le _, l9, .inl rfl⟩, ?_, ?_⟩
      · exact ((hR9.set (by show g < w.heap.size; omega) _).set (by show g < w.heap.size; omega) _).set (by show g < w.heap.size; omega) _
      · exact ((hO9.setNew (by simp) _).setNew (by simp) _).setNew (by simp) _
  · have hxb : (x == 0) = false := beq_eq_false_iff_ne.2 hx
    obtain ⟨x0, x1, x2, -, -, -⟩ := own3 hb4
    clear hb4
    go_wp2_with fail
    clear x0 x1 x2
    refine (spExtract_any t 30 _ _ hsh (From.lies (hF3.since (C := w.heap.size + 1) (by omega)))).mono ?_
    rintro e w6 ⟨u6, rfl, hN6, e6⟩
    obtain ⟨c1, c2, c3, c4, c5, rfl⟩ := Lies.three (InT.mono (fun b hb => hb.2) (fun _ _ => rfl) hN6)
    have hF6 : From (w.heap.size + 1) w6 (exT t) (.agg #[.int .i64 c1, .int .i64 c2, .slice c3 c4 c5]) := InT.mono (fun b hb => ⟨by have := hb.1; omega, hb.2⟩) (fun _ _ => rfl) hN6
    obtain ⟨w7, hw7⟩ : ∃ x, x = w6.alloc (.cells #[.int .i64 c1, .int .i64 c2, .slice c3 c4 c5] 28) := ⟨_, rfl⟩
    have e7 : Ext w6 w7 := hw7 ▸ (Ext.refl w6).alloc _
    have hb7 : w7.heap[w6.heap.size]? = some (.cells #[.int .i64 c1, .int .i64 c2, .slice c3 c4 c5] 28 (0, 0)) := hw7 ▸ heap_alloc_new w6 _
    have hF7 := hF6.ext e7
    clear hN6 hF6
    go_wp2_with fail
    rw [← hw7]
    clear hw7
    refine (specValidCode (exT t) _ _ hF7.lies).mono ?_
    rintro e w8 ⟨rfl, e8⟩
    have hO8 : Only [g] w w8 := hO3.trans (Only.of_ext ((e6.trans e7).trans e8))
    have hR8 : Rd w8 g (m + 3000) := (hR3.ext ((e6.trans e7).trans e8)).mono (by omega)
    have hb8 := ((e6.trans e7).trans e8).blk hb5
    have hb78 := e8.blk hb7
    have hF8 := hF7.ext e8
    have hs8 := lt_of_blk hb8
    obtain ⟨vb, hvb⟩ : ∃ b, valid sigC (exT t) = b := ⟨_, rfl⟩
    rw [hvb]
    obtain ⟨s0, s1, s2, f0, f1, f2⟩ := own3 hb8
    have hgx := hgl
    clear hb7 hF7 hR3 hgl
    cases vb with
    | true =>
      obtain ⟨y0, y1, y2, -, -, -⟩ := own3 hb78
      clear hb8 hb78
      go_wp2_with fail
      refine bodyPost_ret (v := .agg #[.int .i64 c1, .int .i64 c2, .slice c3 c4 c5]) (by simp [results, Try.results74, go_sem, s0, s1, s2]) rfl ⟨_, _, rfl, hvb, ?_, ?_, ?_⟩
      · exact (((hF8.set (by simp) _).set (by simp) _).set (by simp) _).since (by omega)
      · exact ((hR8.set (by show g < w.heap.size; omega) _).set (by show g < w.heap.size; omega) _).set (by show g < w.heap.size; omega) _
      · exact ((hO8.setNew (by simp) _).setNew (by simp) _).setNew (by simp) _
    | false =>
      clear hb78 s0 s1 s2 f0 f1 f2
      go_wp2_with fail
      refine (l12Leaf_any _ 4).mono ?_
      rintro e w9 ⟨A9, c9, rfl, l9, e9⟩
      obtain ⟨s0, s1, s2, f0, f1, f2⟩ := own3 (e9.blk hb8)
      have hR9 := hR8.ext e9
      have hO9 := hO8.trans (Only.of_ext (L := [g]) e9)
      clear hb8 hR8
      go_wp2_with fail
      refine bodyPost_ret (v := .agg #[.int .i64 4, .int .i64 0, .slice A9 0 c9]) (by simp [results, Try.results74, go_sem, s0, s1, s2]) rfl ⟨.mk 4 0 [], _, rfl, by decide, InT.mk_iff.2 ⟨A9, c9, rfl, Nat.zero_le _, l9, .inl rfl⟩, ?_, ?_⟩
      · exact ((hR9.set (by show g < w.heap.size; omega) _).set (by show g < w.heap.size; omega) _).set (by show g < w.heap.size; omega) _
      · exact ((hO9.setNew (by simp) _).setNew (by simp) _).setNew (by simp) _
theorem shape_numTr : ∀ n : Nat, shape sigT (numTr n) ((n : Int) + 1) = true
  | 0 => by decide
  | n + 1 => by
    have := shape_numTr n
    unfold numTr
    refine shape_mk (by omega) rfl (by omega) (by decide) (fun t ht => ?_)
    rw [List.mem_singleton.1 ht]
    rw [show (((n + 1 : Nat) : Int) + 1 - 1) = (n : Int) + 1 by omega]
    exact this
set_option maxRecDepth 100000 in
set_option maxHeartbeats 2000000 in
theorem drawCodeNumber_any (w : World) (A : Option Addr) (cap : Nat) (bs : List Int) (hl : bs.length ≤ cap) (hc : cap ≤ maxLen) (hB : Bytes w w.heap.size A bs) : Calls Try.prog 24 #[.slice A bs.length cap] w fun e w' =>
    ∃ t u, e = .returned u ∧ cnt t ≤ 500 ∧ From w.heap.size w' t u ∧ Ext w w' := by
  have hx0 := (Ext.refl w).alloc (.cells #[.int .i64 0, .int .i64 0, .slice none 0 0] 28)
  have hb0 := heap_alloc_new w (.cells #[.int .i64 0, .int .i64 0, .slice none 0 0] 28)
  go_enter Try.func24, Try.ntmps24
  go_wp2_with fail
  refine (l19Open_any _ A cap bs hl hc ((hB.ext hx0).mono hx0.size)).mono ?_
  rintro e w1 ⟨rfl, hR, h1⟩
  generalize hg : (w.alloc (.cells #[.int .i64 0, .int .i64 0, .slice none 0 0] 28)).heap.size = g at hR ⊢
  have hg' : w.heap.size < g := by rw [← hg]; simp
  have hb1 := h1.blk hb0
  clear hg hb0
  go_wp2_with fail
  refine (pick_any _ _ 0 3 hR (by omega)).mono ?_
  rintro e w2 ⟨x, rfl, hxa, hxb, hR2, ho2⟩
  have hlt2 := hR2.lt
  by_cases hx : x = 0
  · subst hx
    go_wp2_with fail
    refine (l12Draw_any _ _ _ hR2 (by omega)).mono ?_
    rintro e w3 ⟨t, u, rfl, hV, hF, hR3, ho3⟩
    have hct := (valid_parts hV).2
    obtain ⟨a1, a2, a3, a4, a5, rfl⟩ := hF.three
    go_wp2_with fail
    refine (l12Mutate_any t _ _ _ _ hF.lies (by omega) hR3 (by omega)).mono ?_
    rintro e w4 ⟨t', u', rfl, hct', hF4, hR4, ho4⟩
    obtain ⟨b1, b2, b3, b4, b5, rfl⟩ := hF4.three
    have hO := ho2.trans (ho3.trans ho4)
    have hE := hO.ext (hx0.trans h1) (by intro b hb; simp at hb; omega)
    have hs2 := hF4.since (C := w.heap.size + 1) (by have := (ho2.trans ho3).size; have := lt_of_blk hb1; omega)
    obtain ⟨s0, s1, s2, f0, f1, f2⟩ := own3 (hO.keepBlk hb1 (by simp; omega))
    clear hb1
    go_wp2_with fail
    refine bodyPost_ret (v := .agg #[.int .i64 b1, .int .i64 b2, .slice b3 b4 b5]) (by simp [results, Try.results24, go_sem, s0, s1, s2]) rfl ⟨t', _, rfl, by omega, ?_, ?_⟩
    · exact (((hs2.set (by simp) _).set (by simp) _).set (by simp) _).since (by omega)
    · exact ((hE.setCell (by simp) _).setCell (by simp) _).setCell (by simp) _
  · have hxb : (x == 0) = false := beq_eq_false_iff_ne.2 hx
    go_wp2_with fail
    refine (num_any _ _ _ (hR2.ext ((Ext.refl w2).alloc _)) (by omega) _ 5 [0, 1, 3, 20, 21] (by simp) (by decide) (by simp) (nums_of_row (heap_alloc_new w2 _) rfl) (by intro b o hb; simp at hb; omega)).mono ?_
    rintro e w3 ⟨y, rfl, hy, hR3, ho3⟩
    obtain ⟨n, rfl, hn⟩ : ∃ n : Nat, y = (n : Int) ∧ n ≤ 21 := ⟨y.toNat, by simp at hy; omega, by simp at hy; omega⟩
    clear hy
    go_wp2_with fail
    refine (l1Numeral_any n (by omega) _).mono ?_
    rintro e w4 ⟨u, rfl, hN, e4⟩
    obtain ⟨c1, c2, c3, c4, c5, rfl⟩ := (New.lies hN).three
    go_wp2_with fail
    refine (spExtract_any (numTr n) ((n : Int) + 1) _ _ (shape_numTr n) (New.lies hN)).mono ?_
    rintro e w5 ⟨u, rfl, hN5, e5⟩
    have hct : cnt (exT (numTr n)) ≤ 22 := by have := cnt_exT (numTr n) _ (shape_numTr n); rw [cnt_numTr] at this; omega
    have hL5 := New.lies hN5
    obtain ⟨d1, d2, d3, d4, d5, rfl⟩ := hL5.three
    go_wp2_with fail
    refine (l12Mutate_any (exT (numTr n)) _ _ _ _ hL5 (by omega) (hR3.ext (e4.trans e5)) (by omega)).mono ?_
    rintro e w6 ⟨t', u', rfl, hct', hF6, hR6, ho6⟩
    obtain ⟨b1, b2, b3, b4, b5, rfl⟩ := hF6.three
    have hO3 := ho2.trans ((((Only.refl _ _).alloc _).trans ho3))
    have hO := (hO3.trans (Only.of_ext (e4.trans e5))).trans ho6
    have hE := hO.ext (hx0.trans h1) (by intro b hb; simp at hb; omega)
    have hs2 := hF6.since (C := w.heap.size + 1) (by have := (hO3.trans (Only.of_ext (e4.trans e5))).size; have := lt_of_blk hb1; omega)
    obtain ⟨s0, s1, s2, f0, f1, f2⟩ := own3 (hO.keepBlk hb1 (by simp; omega))
    clear hb1
    go_wp2_with fail
    refine bodyPost_ret (v := .agg #[.int .i64 b1, .int .i64 b2, .slice b3 b4 b5]) (by simp [results, Try.results24, go_sem, s0, s1, s2]) rfl ⟨t', _, rfl, by omega, ?_, ?_⟩
    · exact (((hs2.set (by simp) _).set (by simp) _).set (by simp) _).since (by omega)
    · exact ((hE.setCell (by simp) _).setCell (by simp) _).setCell (by simp) _
set_option maxRecDepth 100000 in
set_option maxHeartbeats 1000000 in
theorem l3Fuel_any (w : World) (g m : Nat) (hR : Rd w g m) (hm : m < 800000) : Calls Try.prog 75 #[.pointer (some ⟨g, 0, none⟩)] w fun e w' => ∃ x : Int, e = .returned (.int .i64 x) ∧ -1 ≤ x ∧ x ≤ 201 ∧ Rd w' g (m + 1) ∧ Only [g] w w' := by
  have hgl := hR.lt
  go_enter Try.func75, Try.ntmps75
  go_wp2_with fail
  refine (num_any _ g _ (hR.ext ((Ext.refl w).alloc _)) (by omega) _ 9 [60, 100, 30, 5, 1, 0, 200, 201, -1] (by simp) (by decide) (by simp) (nums_of_row (heap_alloc_new w _) rfl) (by intro b o hb; simp at hb; omega)).mono ?_
  rintro e w1 ⟨y, rfl, hy, hR1, ho1⟩
  have hy' : -1 ≤ y ∧ y ≤ 201 := by simp at hy; omega
  clear hy
  go_wp2_with fail
  go_ret
  exact ⟨y, rfl, hy'.1, hy'.2, hR1, ((Only.refl _ _).alloc _).trans ho1⟩
set_option maxRecDepth 100000 in
set_option maxHeartbeats 2000000 in
theorem drawRunCode_any (w : World) (A : Option Addr) (cap : Nat) (bs : List Int) (hl : bs.length ≤ cap) (hc : cap ≤ maxLen) (hB : Bytes w w.heap.size A bs) : Calls Try.prog 21 #[.slice A bs.length cap] w fun e w' =>
    ∃ t u x, e = .returned (.tuple #[u, .int .i64 x]) ∧ cnt t ≤ 500 ∧ -1 ≤ x ∧ x ≤ 201 ∧ From w.heap.size w' t u ∧ Ext w w' := by
  have hx0 := (Ext.refl w).alloc (.cells #[.int .i64 0, .int .i64 0, .slice none 0 0] 28)
  have hb0 := heap_alloc_new w (.cells #[.int .i64 0, .int .i64 0, .slice none 0 0] 28)
  go_enter Try.func21, Try.ntmps21
  go_wp2_with fail
  refine (l19Open_any _ A cap bs hl hc ((hB.ext hx0).mono hx0.size)).mono ?_
  rintro e w1 ⟨rfl, hR, h1⟩
  generalize hg : (w.alloc (.cells #[.int .i64 0, .int .i64 0, .slice none 0 0] 28)).heap.size = g at hR ⊢
  have hg' : w.heap.size < g := by rw [← hg]; simp
  have hb1 := h1.blk hb0
  clear hg hb0
  go_wp2_with fail
  refine (l12Draw_any _ _ _ hR (by omega)).mono ?_
  rintro e w3 ⟨t, u, rfl, hV, hF, hR3, ho3⟩
  have hct := (valid_parts hV).2
  obtain ⟨a1, a2, a3, a4, a5, rfl⟩ := hF.three
  go_wp2_with fail
  refine (l12Mutate_any t _ _ _ _ hF.lies (by omega) hR3 (by omega)).mono ?_
  rintro e w4 ⟨t', u', rfl, hct', hF4, hR4, ho4⟩
  obtain ⟨b1, b2, b3, b4, b5, rfl⟩ := hF4.three
  have hO := ho3.trans ho4
  have hs1 : w.heap.size < w1.heap.size := lt_of_blk hb1
  have hs2 := hF4.since (C := w.heap.size + 1) (by have := ho3.size; omega)
  have hb4 := hO.keepBlk hb1 (by simp; omega)
  obtain ⟨w5, hw5⟩ : ∃ x, x = w4.alloc (.cells #[.int .i64 b1, .int .i64 b2, .slice b3 b4 b5] 28) := ⟨_, rfl⟩
  have e5 : Ext w4 w5 := hw5 ▸ (Ext.refl w4).alloc _
  have hb5 : w5.heap[w4.heap.size]? = some (.cells #[.int .i64 b1, .int .i64 b2, .slice b3 b4 b5] 28 (0, 0)) := hw5 ▸ heap_alloc_new w4 _
  have hgl4 := hR4.lt
  go_wp2_with fail
  rw [← hw5]
  obtain ⟨g5, hg5⟩ : ∃ x, x = w4.heap.size := ⟨_, rfl⟩
  rw [← hg5] at hb5 ⊢
  have hgg : g < g5 := by omega
  have hg5l : w.heap.size < g5 := by have := hO.size; omega
  clear hw5 hg5 hb1
  have hR5 := hR4.ext e5
  have hF5 := hs2.ext e5
  have hb45 := e5.blk hb4
  have hs5 : w4.heap.size ≤ w5.heap.size := e5.size
  have hO5 : Only [g] w1 w5 := hO.trans (Only.of_ext e5)
  have HK := Lib.hid (show ∀ w' : World, (∀ y, y < w5.heap.size → y ≠ g → y ≠ w.heap.size → w'.heap[y]? = w5.heap[y]?) → w'.cell? ⟨g5, 0, none⟩ = some (.int .i64 b1) ∧ w'.cell? ⟨g5, 1, none⟩ = some (.int .i64 b2) ∧ w'.cell? ⟨g5, 2, none⟩ = some (.slice b3 b4 b5) from fun w' h => by
    obtain ⟨y0, y1, y2, -, -, -⟩ := own3 ((h g5 (lt_of_blk hb5) (by omega) (by omega)).trans hb5)
    exact ⟨y0, y1, y2⟩)
  have hX : Ext w5 w5.drew := (Ext.refl w5).drew
  clear hb4 hb5
  go_region_held3 (fun w' => w'.cell? ⟨g5, 0, none⟩ = some (.int .i64 b1) ∧ w'.cell? ⟨g5, 1, none⟩ = some (.int .i64 b2) ∧ w'.cell? ⟨g5, 2, none⟩ = some (.slice b3 b4 b5))
    (first | exact HK.out _ (fun y h1 h2 h3 => by rw [Below.heap_setCell _ _ _ _ h3, Below.heap_setCell _ _ _ _ h3, Below.heap_setCell _ _ _ _ h3]; exact o6.block y h1 (by simp; exact h2)) | exact HK.out _ (fun y h1 h2 h3 => o6.block y h1 (by simp; exact h2)) | exact HK.out _ (fun y h1 _ h3 => by (try show (((w5.setCell _ _).setCell _ _).setCell _ _).heap[y]? = w5.heap[y]?); rw [Below.heap_setCell _ _ _ _ h3, Below.heap_setCell _ _ _ _ h3, Below.heap_setCell _ _ _ _ h3]) | exact HK.out _ (fun y h1 _ _ => hX.heap y h1))
    (first | (go_at_call 75; refine (l3Fuel_any _ g _ (hR5.ext hX) (by omega)).mono ?_; rintro e w6 ⟨x, rfl, hx1, hx2, hR6, o6'⟩; have o6 : Only [g] w5 w6 := (Only.of_ext hX).trans o6'; obtain ⟨s0, s1, s2, f0, f1, f2⟩ := own3 (o6.keepBlk hb45 (by simp; omega))))
  all_goals (
    have hO6 := hO5.trans o6
    have hE := hO6.ext (hx0.trans h1) (by intro b hb; simp at hb; omega)
    have hF6 := hF5.since (C := w.heap.size + 1) (Nat.le_refl _)
    have hF7 : From (w.heap.size + 1) w6 t' (.agg #[.int .i64 b1, .int .i64 b2, .slice b3 b4 b5]) := hF4.ext e5 |>.only o6 (by intro b hb; rw [List.mem_singleton.1 hb]; have := hR3.lt; exact hR3.lt) |>.since (by have := ho3.size; omega)
    clear HK hb45
    go_wp2_with fail
    refine bodyPost_ret (v := .tuple #[.agg #[.int .i64 b1, .int .i64 b2, .slice b3 b4 b5], .int .i64 x]) (by simp [results, Try.results21, go_sem, s0, s1, s2]) rfl ⟨t', _, x, rfl, by omega, hx1, hx2, ?_, ?_⟩
    · exact (((hF7.set (by simp) _).set (by simp) _).set (by simp) _).since (by omega)
    · exact ((hE.setCell (by simp) _).setCell (by simp) _).setCell (by simp) _)
end Go.Proofs.Ytappakllopkfiaa

/-
  laws.toCode, laws.toTerm: a copy, row by row.
-/
import Derived.Test.YtappakllopkfiaaMem
import Derived.Test.YtappakllopkfiaaProg
import Derived.Outline
namespace Go.Proofs.Ytappakllopkfiaa
open Go.RowKit
set_option linter.unusedVariables false

theorem infoCode : (Try.prog.info? 28).map (fun i => (i.zero, i.size, i.bytes)) = some (some (.agg #[.int .i64 0, .int .i64 0, .slice none 0 0]), 3, 40) := by kernel_rfl

def ToCodeC (t : Tr) : Prop := ∀ (w : World) (v : Value), Lies w t v → cnt t ≤ 1048577 →
  Calls Try.prog 16 #[v] w fun e w' => ∃ u, e = .returned u ∧ Made w w' 28 t u ∧ Ext w w'

set_option maxHeartbeats 400000 in
theorem toCodeS (ks : List Tr) (hk : ∀ t ∈ ks, ToCodeC t) (w : World) (A : Option Addr) (cap : Nat) (h : LiesK w A ks) (hl : ks.length ≤ cap) (hc : cap ≤ maxLen) (hn : cnts ks ≤ 1048576) :
    Calls Try.prog 63 #[.slice A ks.length cap] w fun e w' => ∃ B, e = .returned (.slice B ks.length ks.length) ∧ MadeK w w' 28 B ks ∧ Ext w w' := by
  have hc' := hc
  unfold maxLen at hc'
  have hlen := len_le_cnts ks
  obtain ⟨i0, hi, hz0, hz1, hz2⟩ := info_parts infoCode
  have hmk := fun W => run_make_rowN (P := Try.prog) 26 28 i0 _ Try.underlying26 hi hz0 .i64 .i64 ks.length ks.length (Nat.le_refl _) (by rw [hz2]; omega) (by omega) W
  rw [hz1] at hmk
  go_enter Try.func63, Try.ntmps63
  go_wp2_with fail
  generalize hw2 : w.alloc _ = w2
  have he0 : Ext w w2 := hw2 ▸ (Ext.refl w).alloc _
  have hg2 : w.heap.size < w2.heap.size := by rw [← hw2]; simp
  have hblk : w2.heap[w.heap.size]? = some (.cells (madeCells #[Value.int IntKind.i64 0, Value.int IntKind.i64 0, Value.slice none 0 0] (ks.length * 3)) 28 (0, 0)) := hw2 ▸ heap_alloc_new w _
  have hsz0 := size_madeCells #[Value.int IntKind.i64 0, Value.int IntKind.i64 0, Value.slice none 0 0] (ks.length * 3)
  generalize madeCells _ (ks.length * 3) = cs0 at hblk hsz0
  have HB := Lib.hid hblk
  have HS := Lib.hid hsz0
  clear hblk hsz0 hmk hw2 hi hz0 hz1 hz2
  go_loopw [4] (fun i wr => ∃ (j : Nat) (cs : Array Value) (L : List Nat), j ≤ ks.length ∧ i = .int .i64 j ∧ wr.heap[w.heap.size]? = some (.cells cs 28 (0, 0)) ∧ cs.size = ks.length * 3 ∧ OwnL wr 28 (cs.toList.take (j * 3)) (ks.take j) L ∧ Fresh w2 wr L ∧ Ext w wr ∧ w2.heap.size ≤ wr.heap.size) (fun i _ => ks.length - (intOf i).toNat)
  case atStart => exact ⟨0, cs0, [], Nat.zero_le _, rfl, HB.out, HS.out, by simpa using OwnL.nil, Fresh.nil _ _, he0, Nat.le_refl _⟩
  case round =>
    obtain ⟨j, cs, L, hj, rfl, hblk, hsz, hO, hF, he, hle⟩ := hrel
    by_cases hlt : j < ks.length
    · obtain ⟨b, o, k, n, A', cap', kids, rfl, HK, c0, c1, c2, hkl, hkc, hK, hin, hmem⟩ := h.get he hlt
      have HB := Lib.hid hblk
      have HS := Lib.hid hsz
      clear hblk hsz
      go_wp2_with fail
      refine (hk _ hmem wr _ hin (by have := cnt_mem hmem; omega)).mono ?_
      rintro e w1 ⟨u, rfl, hM, hE⟩
      obtain ⟨A1, cap1, rfl, hl1, hcp1, hMK⟩ := Made.mk_iff.1 hM
      have hb1 := hE.blk HB.out
      obtain ⟨x0, x1, x2, g0, g1, g2, f0, f1, f2⟩ := cells3 (i := j * 3) hb1 (by rw [HS.out]; omega)
      have hE' := he.trans hE
      have hcs3 : j * 3 + 3 ≤ cs.size := by rw [HS.out]; omega
      have HB1 := Lib.hid hb1
      clear hb1
      go_wp2_with fail
      obtain ⟨q1, q2, q3, q4⟩ := store3 (i := j * 3) (.int .i64 k) (.int .i64 n) (.slice A1 kids.length cap1) HB1.out hE' (Nat.le_refl _)
      go_roundw
      case rel =>
        obtain ⟨L', hO', hF'⟩ := step_own (w3 := ((w1.setCell ⟨w.heap.size, j * 3, none⟩ (.int .i64 k)).setCell ⟨w.heap.size, j * 3 + 1, none⟩ (.int .i64 n)).setCell ⟨w.heap.size, j * 3 + 2, none⟩ (.slice A1 kids.length cap1)) hcs3 hO hF hg2 (by simp; omega) hE hM hle q2 q4
        rw [← HK.out, List.take_append_getElem hlt] at hO'
        exact ⟨j + 1, _, L', by omega, by go_num, q1, by rw [size_set3]; exact HS.out, hO', hF', q3, by rw [q4]; exact Nat.le_trans hle hE.size⟩
      case measure => simp [intOf]; omega
    · go_wp2_with fail
      go_ret
      have hjk : j = ks.length := by omega
      subst hjk
      rw [List.take_of_length_le (by rw [Array.length_toList]; omega), List.take_of_length_le (Nat.le_refl _)] at hO
      exact ⟨_, rfl, MadeK.row hblk hO hF (Nat.le_refl _) hg2, he⟩

theorem toCode_any : ∀ t : Tr, ToCodeC t := Tr.ind fun k n ks hk => by
  intro w v hin hn
  obtain ⟨A, cap, rfl, hl, hc, hK⟩ := Lies.mk_iff.1 hin
  clear hin
  have hn' : cnts ks ≤ 1048576 := by unfold cnt at hn; omega
  have hs := fun W (hW : Ext w W) => toCodeS ks hk W A cap (hK.ext hW) hl hc hn'
  have HS := Lib.hid hs
  clear hs
  go_enter Try.func16, Try.ntmps16
  go_wp2_with fail
  refine (HS.out _ ((((Ext.refl w).alloc _).alloc _).alloc _)).mono ?_
  rintro e w1 ⟨B, rfl, hM, hE⟩
  obtain ⟨-, b1, b2, hsz⟩ := blk3 hE
  obtain ⟨r0, r1, r2, p0, p1, p2⟩ := own3 b1
  obtain ⟨q0, q1, q2, o0, o1, o2⟩ := own3 b2
  clear b1 b2
  go_wp2_with fail
  refine bodyPost_ret (v := .agg #[.int .i64 k, .int .i64 n, .slice B ks.length ks.length]) (by simp [results, Try.results16, go_sem, r0, r1, r2]) rfl ⟨_, rfl, ?_, ?_⟩
  · exact Made.mk (Nat.le_refl _) (by omega) ((hM.after ((((Above.refl _ _).setCell (by simp) _).setCell (by simp) _).setCell (by simp) _ |>.setCell (by simp) _)).since (by simp; omega))
  · exact ((((hE.pre.pre.pre).setCell (by simp; omega) _).setCell (by simp) _).setCell (by simp) _).setCell (by simp) _
end Go.Proofs.Ytappakllopkfiaa

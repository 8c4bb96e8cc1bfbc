/-
  Lemmas towards the law, 5: To, Eq.
-/
import Derived.Test.YtenpknapajckbaaDoorQAC
import Derived.Outline
import Derived.StillTailTactics
import Derived.Test.YtenpknapajckbaaDoorProg
namespace Go.Proofs.YtenpknapajckbaaDoor
open Go.RowKit
set_option linter.unusedVariables false
theorem infoCode : (Tryd.prog.info? 29).map (fun i => (i.zero, i.size, i.bytes)) = some (some (.agg #[.int .i64 0, .int .i64 0, .slice none 0 0]), 3, 40) := by kernel_rfl
def ToCodeC (t : Tr) : Prop := ∀ (w : World) (v : Value), Lies w t v → cnt t ≤ 1048577 →
  Calls Tryd.prog 8 #[v] w fun e w' => ∃ u, e = .returned u ∧ Made w w' 29 t u ∧ Ext w w'
set_option maxHeartbeats 400000 in
theorem toCodeS (ks : List Tr) (hk : ∀ t ∈ ks, ToCodeC t) (w : World) (A : Option Addr) (cap : Nat) (h : LiesK w A ks) (hl : ks.length ≤ cap) (hc : cap ≤ maxLen) (hn : cnts ks ≤ 1048576) :
    Calls Tryd.prog 21 #[.slice A ks.length cap] w fun e w' => ∃ B, e = .returned (.slice B ks.length ks.length) ∧ MadeK w w' 29 B ks ∧ Ext w w' := by
  have hc' := hc
  unfold maxLen at hc'
  have hlen := len_le_cnts ks
  obtain ⟨i0, hi, hz0, hz1, hz2⟩ := info_parts infoCode
  have hmk := fun W => run_make_rowN (P := Tryd.prog) 27 29 i0 _ Tryd.underlying27 hi hz0 .i64 .i64 ks.length ks.length (Nat.le_refl _) (by rw [hz2]; omega) (by omega) W
  rw [hz1] at hmk
  go_enter Tryd.func21, Tryd.ntmps21
  go_wp2_with fail
  generalize hw2 : w.alloc _ = w2
  have he0 : Ext w w2 := hw2 ▸ (Ext.refl w).alloc _
  have hg2 : w.heap.size < w2.heap.size := by rw [← hw2]; simp
  have hblk : w2.heap[w.heap.size]? = some (.cells (madeCells #[Value.int IntKind.i64 0, Value.int IntKind.i64 0, Value.slice none 0 0] (ks.length * 3)) 29 (0, 0)) := hw2 ▸ heap_alloc_new w _
  have hsz0 := size_madeCells #[Value.int IntKind.i64 0, Value.int IntKind.i64 0, Value.slice none 0 0] (ks.length * 3)
  generalize madeCells _ (ks.length * 3) = cs0 at hblk hsz0
  have HB := Lib.hid hblk
  have HS := Lib.hid hsz0
  clear hblk hsz0 hmk hw2 hi hz0 hz1 hz2
  go_loopw [4] (fun i wr => ∃ (j : Nat) (cs : Array Value) (L : List Nat), j ≤ ks.length ∧ i = .int .i64 j ∧ wr.heap[w.heap.size]? = some (.cells cs 29 (0, 0)) ∧ cs.size = ks.length * 3 ∧ OwnL wr 29 (cs.toList.take (j * 3)) (ks.take j) L ∧ Fresh w2 wr L ∧ Ext w wr ∧ w2.heap.size ≤ wr.heap.size) (fun i _ => ks.length - (intOf i).toNat)
  case atStart => exact ⟨0, cs0, [], Nat.zero_le _, rfl, HB.out, HS.out, by simpa using OwnL.nil, Fresh.nil _ _, he0, Nat.le_refl _⟩
  case round =>
    obtain ⟨j, cs, L, hj, rfl, hblk, hsz, hO, hF, he, hle⟩ := hrel
    by_cases hlt : j < ks.length
    · obtain ⟨b, o, k, n, A', cap', kids, rfl, HK, c0, c1, c2, hkl, hkc, hK, hin, hmem⟩ := h.get he hlt
      have HB := Lib.hid hblk
      have HS := Lib.hid hsz
      clear hblk hsz
      go_wp2_with fail
      refine (hk _ hmem wr _ hin (by have := cnt_mem hmem; omega)).mono ?_
      rintro e w1 ⟨u, rfl, hM, hE⟩
      obtain ⟨A1, cap1, rfl, hl1, hcp1, hMK⟩ := Made.mk_iff.1 hM
      have hb1 := hE.blk HB.out
      obtain ⟨x0, x1, x2, g0, g1, g2, f0, f1, f2⟩ := cells3 (i := j * 3) hb1 (by rw [HS.out]; omega)
      have hE' := he.trans hE
      have hcs3 : j * 3 + 3 ≤ cs.size := by rw [HS.out]; omega
      have HB1 := Lib.hid hb1
      clear hb1
      go_wp2_with fail
      obtain ⟨q1, q2, q3, q4⟩ := store3 (i := j * 3) (.int .i64 k) (.int .i64 n) (.slice A1 kids.length cap1) HB1.out hE' (Nat.le_refl _)
      go_roundw
      case rel =>
        obtain ⟨L', hO', hF'⟩ := step_own (w3 := ((w1.setCell ⟨w.heap.size, j * 3, none⟩ (.int .i64 k)).setCell ⟨w.heap.size, j * 3 + 1, none⟩ (.int .i64 n)).setCell ⟨w.heap.size, j * 3 + 2, none⟩ (.slice A1 kids.length cap1)) hcs3 hO hF hg2 (by simp; omega) hE hM hle q2 q4
        rw [← HK.out, List.take_append_getElem hlt] at hO'
        exact ⟨j + 1, _, L', by omega, by go_num, q1, by rw [size_set3]; exact HS.out, hO', hF', q3, by rw [q4]; exact Nat.le_trans hle hE.size⟩
      case measure => simp [intOf]; omega
    · go_wp2_with fail
      go_ret
      have hjk : j = ks.length := by omega
      subst hjk
      rw [List.take_of_length_le (by rw [Array.length_toList]; omega), List.take_of_length_le (Nat.le_refl _)] at hO
      exact ⟨_, rfl, MadeK.row hblk hO hF (Nat.le_refl _) hg2, he⟩
theorem toCode_any : ∀ t : Tr, ToCodeC t := Tr.ind fun k n ks hk => by
  intro w v hin hn
  obtain ⟨A, cap, rfl, hl, hc, hK⟩ := Lies.mk_iff.1 hin
  clear hin
  have hn' : cnts ks ≤ 1048576 := by unfold cnt at hn; omega
  have hs := fun W (hW : Ext w W) => toCodeS ks hk W A cap (hK.ext hW) hl hc hn'
  have HS := Lib.hid hs
  clear hs
  go_enter Tryd.func8, Tryd.ntmps8
  go_wp2_with fail
  refine (HS.out _ ((((Ext.refl w).alloc _).alloc _).alloc _)).mono ?_
  rintro e w1 ⟨B, rfl, hM, hE⟩
  obtain ⟨-, b1, b2, hsz⟩ := blk3 hE
  obtain ⟨r0, r1, r2, p0, p1, p2⟩ := own3 b1
  obtain ⟨q0, q1, q2, o0, o1, o2⟩ := own3 b2
  clear b1 b2
  go_wp2_with fail
  refine bodyPost_ret (v := .agg #[.int .i64 k, .int .i64 n, .slice B ks.length ks.length]) (by simp [results, Tryd.results8, go_sem, r0, r1, r2]) rfl ⟨_, rfl, ?_, ?_⟩
  · exact Made.mk (Nat.le_refl _) (by omega) ((hM.after ((((Above.refl _ _).setCell (by simp) _).setCell (by simp) _).setCell (by simp) _ |>.setCell (by simp) _)).since (by simp; omega))
  · exact ((((hE.pre.pre.pre).setCell (by simp; omega) _).setCell (by simp) _).setCell (by simp) _).setCell (by simp) _
end Go.Proofs.YtenpknapajckbaaDoor
namespace Go.Proofs.YtenpknapajckbaaDoor
open Go.RowKit
set_option linter.unusedVariables false
def EqCodeC (t : Tr) : Prop := ∀ (w : World) (t' : Tr) (v v' : Value), Lies w t v → Lies w t' v' →
  Calls Tryd.prog 10 #[v, v'] w fun e w' => e = .returned (.bool (eqTr t t')) ∧ Ext w w'
set_option maxRecDepth 100000 in
set_option maxHeartbeats 400000 in
theorem eqCodeS (ks ks' : List Tr) (hk : ∀ t ∈ ks, EqCodeC t) (w : World) (A A' : Option Addr) (cap cap' : Nat) (h : LiesK w A ks) (hl : ks.length ≤ cap) (hc : cap ≤ maxLen) (h' : LiesK w A' ks') (hl' : ks'.length ≤ cap') (hc' : cap' ≤ maxLen) :
    Calls Tryd.prog 24 #[.slice A ks.length cap, .slice A' ks'.length cap'] w fun e w' => e = .returned (.bool (eqTs ks ks')) ∧ Ext w w' := by
  unfold maxLen at hc hc'
  by_cases h0 : ks.length = ks'.length
  · have hd : ((ks.length : Int) != (ks'.length : Int)) = false := by rw [h0]; simp
    have H0 := Lib.hid h0
    clear h0
    go_enter Tryd.func24, Tryd.ntmps24
    go_wp2_with fail
    go_loopw [5] (fun i wr => ∃ j : Nat, j ≤ ks.length ∧ i = .int .i64 j ∧ eqTs ks ks' = eqTs (ks.drop j) (ks'.drop j) ∧ Ext w wr) (fun i _ => ks.length - (intOf i).toNat)
    case atStart => exact ⟨0, Nat.zero_le _, rfl, rfl, Ext.refl _⟩
    case round =>
      obtain ⟨j, hj, rfl, hsz, hb⟩ := hrel
      have HS := Lib.hid hsz
      clear hsz
      by_cases hlt : j < ks.length
      · have hlt' : j < ks'.length := by rw [← H0.out]; exact hlt
        obtain ⟨b, o, k, n, B, c, kids, rfl, HK, c0, c1, c2, hkl, hkc, hK, hin, hmem⟩ := h.get hb hlt
        obtain ⟨b', o', k', n', B', c', kids', rfl, HK', c0', c1', c2', hkl', hkc', hK', hin', hmem'⟩ := h'.get hb hlt'
        go_wp2_with fail
        have hstep : eqTs (ks.drop j) (ks'.drop j) = (eqTr (.mk k n kids) (.mk k' n' kids') && eqTs (ks.drop (j + 1)) (ks'.drop (j + 1))) := by
          rw [List.drop_eq_getElem_cons hlt, List.drop_eq_getElem_cons hlt', HK.out, HK'.out]
          conv => lhs; unfold eqTs
        go_still_tail 8, (by kernel_rfl)
        change wpList _ _ _ _ _ wr.drew
        replace hin := hin.ext (Ext.refl _).drew
        replace hin' := hin'.ext (Ext.refl _).drew
        have hbd := hb.drew
        generalize wr.drew = w2 at hin hin' hbd
        clear c0 c1 c2 c0' c1' c2'
        go_wp2_with fail
        refine (hk _ hmem w2 (.mk k' n' kids') _ _ hin hin').mono ?_
        rintro e w1 ⟨rfl, hb1⟩
        have hb2 := hbd.trans hb1
        generalize eqTr (.mk k n kids) (.mk k' n' kids') = q at hstep
        cases q with
        | false =>
          have HT := Lib.hid hstep
          clear hstep
          go_wp2_with fail
          go_ret
          exact ⟨by rw [HS.out, HT.out]; rfl, hb2⟩
        | true =>
          have HT := Lib.hid hstep
          clear hstep
          go_wp2_with fail
          go_roundw
          case rel => exact ⟨j + 1, by omega, by go_num, by rw [HS.out, HT.out]; rfl, hb2⟩
          case measure => simp [intOf]; omega
      · go_wp2_with fail
        go_ret
        exact ⟨by rw [HS.out, List.drop_of_length_le (by omega), List.drop_of_length_le (by rw [← H0.out]; omega)]; rfl, hb⟩
  · have hd : ((ks.length : Int) != (ks'.length : Int)) = true := by rw [bne_iff_ne]; omega
    have e : eqTs ks ks' = false := by
      rw [Bool.eq_false_iff]
      intro he
      exact h0 (eqTs_len he)
    have E := Lib.hid e
    clear e
    go_enter Tryd.func24, Tryd.ntmps24
    go_wp2_with fail
    go_ret
    exact ⟨by rw [E.out]; rfl, Ext.refl _⟩
theorem eqCode_any : ∀ t : Tr, EqCodeC t := Tr.ind fun k n ks hk => by
  intro w t' v v' h h'
  obtain ⟨A, cap, rfl, hl, hc, hK⟩ := Lies.mk_iff.1 h
  obtain ⟨k', n', ks'⟩ := t'
  obtain ⟨A', cap', rfl, hl', hc', hK'⟩ := Lies.mk_iff.1 h'
  clear h h'
  have HW := fun W (hW : Ext w W) => eqCodeS ks ks' hk W A A' cap cap' (hK.ext hW) hl hc (hK'.ext hW) hl' hc'
  have HS := Lib.hid HW
  clear HW
  by_cases h1 : k = k'
  · by_cases h2 : n = n'
    · have e : eqTr (.mk k n ks) (.mk k' n' ks') = eqTs ks ks' := by simp [eqTr, h1, h2]
      have E := Lib.hid e
      have d1 : (k != k') = false := by simp [h1]
      have d2 : (n != n') = false := by simp [h2]
      clear e h1 h2
      go_enter Tryd.func10, Tryd.ntmps10
      go_wp2_with fail
      refine (HS.out _ (((Ext.refl w).alloc _).alloc _)).mono ?_
      rintro e w1 ⟨rfl, hE⟩
      generalize eqTs ks ks' = q at E
      cases q with
      | false =>
        go_wp2_with fail
        go_ret
        exact ⟨by rw [E.out]; rfl, hE.pre.pre⟩
      | true =>
        go_wp2_with fail
        go_ret
        exact ⟨by rw [E.out]; rfl, hE.pre.pre⟩
    · have e : eqTr (.mk k n ks) (.mk k' n' ks') = false := by simp [eqTr, h2]
      have E := Lib.hid e
      have d1 : (k != k') = false := by simp [h1]
      have d2 : (n != n') = true := by rw [bne_iff_ne]; exact h2
      clear e h1 h2
      go_enter Tryd.func10, Tryd.ntmps10
      go_wp2_with fail
      go_ret
      exact ⟨by rw [E.out]; rfl, ((Ext.refl w).alloc _).alloc _⟩
  · have e : eqTr (.mk k n ks) (.mk k' n' ks') = false := by simp [eqTr, h1]
    have E := Lib.hid e
    have d1 : (k != k') = true := by rw [bne_iff_ne]; exact h1
    clear e h1
    go_enter Tryd.func10, Tryd.ntmps10
    go_wp2_with fail
    go_ret
    exact ⟨by rw [E.out]; rfl, ((Ext.refl w).alloc _).alloc _⟩
end Go.Proofs.YtenpknapajckbaaDoor

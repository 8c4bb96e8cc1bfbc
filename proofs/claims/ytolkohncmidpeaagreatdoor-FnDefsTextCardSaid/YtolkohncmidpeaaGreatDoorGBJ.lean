/-
  Lemmas towards the law, 36: FmtI, Extract, Copy.
-/
import Derived.Test.YtolkohncmidpeaaGreatDoorGAC
import Derived.Test.YtolkohncmidpeaaGreatDoorGAQ
import Derived.Test.YtolkohncmidpeaaGreatDoorGAZ
import Derived.Test.YtolkohncmidpeaaGreatDoorGBF
import Derived.Test.YtolkohncmidpeaaGreatDoorGBI
import Derived.Deep.DrawnRows
import Derived.Deep.RegionLaw
import Derived.Outline
namespace Go.Proofs.YtolkohncmidpeaaGreatDoor
open Go.RowKit
set_option linter.unusedVariables false
attribute [local go_sem ↓] Go.wp_at_zero Go.wp_at_succ
theorem bldAt_ext {T e : TypeId} {B b : Nat} {p : Value} {bs : List Value} {w w' : World} (h : Lib.BuilderAt T e B b p bs w) (he : Ext w w') : Lib.BuilderAt T e B b p bs w' := by
  obtain ⟨hB, v, hb, hown, hne⟩ := h
  refine ⟨hB, v, he.blk hb, ⟨hown.1, ?_⟩, hne⟩
  rcases hown.2 with h | ⟨g, cap, cur, rfl, h1, h2, r⟩
  · exact .inl h
  · exact .inr ⟨g, cap, cur, rfl, h1, he.blk h2, r⟩
theorem bld_ext {T e : TypeId} {B b : Nat} {bs : List Value} {w w' : World} (h : Lib.IsBuilder T e B b bs w) (he : Ext w w') : Lib.IsBuilder T e B b bs w' := by
  rcases h with h | h
  · exact .inl (bldAt_ext h he)
  · exact .inr (bldAt_ext h he)
set_option maxRecDepth 100000 in
set_option maxHeartbeats 4000000 in
theorem formatDefs_any (ks : List Tr) (n cap : Nat) (w : World) (hW : EnvM w) (A : Option Addr) (h : LiesK w A ks) (hn : ks.length = n * 2) (hl : n ≤ cap) (hc : cap ≤ maxLen) :
    Calls Tryz.prog 10 #[.slice A n cap] w fun e w' => e = .returned (.string (ofL (fmtDV ks n))) ∧ Ext w w' := by
  have hcc := hc
  unfold maxLen at hcc
  obtain ⟨R, hR⟩ : ∃ R, fmtDV ks n = R := ⟨_, rfl⟩
  rw [hR]
  have HR := Lib.hid hR
  clear hR
  go_enter Tryz.func10, Tryz.ntmps10
  go_wp2_with fail
  refine (defsValid_any ks n cap w A h hn hl hc).mono ?_
  rintro e w1 ⟨rfl, e1⟩
  obtain ⟨z, hz⟩ : ∃ z, dfV ks n = z := ⟨_, rfl⟩
  rw [hz]
  cases z with
  | false =>
    have hr : R = [] := by rw [← HR.out]; unfold fmtDV; rw [hz]; rfl
    have HRR := Lib.hid hr
    clear hz hr
    go_wp2_with fail
    go_ret
    exact ⟨by rw [HRR.out]; rfl, e1⟩
  | true =>
    have hr : fmtDs ks = R := by rw [← HR.out]; unfold fmtDV; rw [hz]; rfl
    obtain ⟨hn8, hv⟩ := dfV_valid hz hn
    have HRR := Lib.hid hr
    have HV := Lib.hid hv
    clear hz hr hv
    have h1 := h.ext e1
    have hB0 : Lib.IsBuilder 59 5 w1.heap.size w1.heap.size (Lib.byteCells []) (w1.alloc (.cells #[.pointer none, .slice none 0 0] 59)) :=
      .inl ⟨Nat.le_refl _, .slice none 0 0, heap_alloc_new w1 _, World.ownsRow_nil _ _ _ _, by simp [Value.ownBlock]⟩
    have hx0 : Ext w1 (w1.alloc (.cells #[.pointer none, .slice none 0 0] 59)) := (Ext.refl w1).alloc _
    go_wp2_with fail
    generalize hb : w1.heap.size = b at hB0 ⊢
    generalize w1.alloc _ = w2 at hB0 hx0 ⊢
    go_loopw [11] (fun i wr => ∃ (j : Nat) (y : List UInt8), j ≤ n ∧ i = .int .i64 j ∧ Hid (Lib.IsBuilder 59 5 b b (Lib.byteCells y) wr) ∧ y.length ≤ j * 4002 ∧ Hid (y ++ fmtDs (ks.drop (j * 2)) = R) ∧ Ext w1 wr ∧ b < wr.heap.size) (fun i _ => n - (intOf i).toNat)
    case atStart => exact ⟨0, [], Nat.zero_le _, rfl, Lib.hid hB0, Nat.zero_le _, Lib.hid (by simpa using HRR.out), hx0, by
      rcases hB0 with h | h
      · exact h.lt
      · exact h.lt⟩
    case round =>
      obtain ⟨j, y, hj, rfl, HBL, hyl, HY, hx, hbw⟩ := hrel
      by_cases hlt : j < n
      · have hjz : (j : Int) < (n : Int) := by omega
        obtain ⟨b0, o, k1, n1, A1, p1, kids1, k2, n2, A2, p2, kids2, rfl, hbw0, HK1, HK2, ⟨d0, d1, d2, d3, d4, d5⟩, ⟨l1, m1, hK1, hin1, hmem1⟩, ⟨l2, m2, hK2, hin2, hmem2⟩⟩ := h1.getD (j := j) hx (by omega)
        have hst := fmtDs_step (ks := ks) (j := j) (by omega)
        rw [HK1.out, HK2.out] at hst
        have v1 := HV.out _ hmem1
        have v2 := HV.out _ hmem2
        have c1 := (valid_parts v1)
        have c2 := (valid_parts v2)
        have hWr := hW.ext (e1.trans hx)
        have HT1 := Lib.hid (fun W (hWW : Ext wr W) => termText_any (.mk k1 n1 kids1) W _ 30 (hWr.ext hWW) c1.1 (by omega) (hin1.ext hWW))
        have HT2 := Lib.hid (fun W (hWW : Ext wr W) => termText_any (.mk k2 n2 kids2) W _ 30 (hWr.ext hWW) c2.1 (by omega) (hin2.ext hWW))
        have q1 := fmtL_len (.mk k1 n1 kids1)
        have q2 := fmtL_len (.mk k2 n2 kids2)
        obtain ⟨x1, hx1⟩ : ∃ x, fmtL (.mk k1 n1 kids1) = x := ⟨_, rfl⟩
        obtain ⟨x2, hx2⟩ : ∃ x, fmtL (.mk k2 n2 kids2) = x := ⟨_, rfl⟩
        rw [hx1, hx2] at hst
        rw [hx1] at HT1 q1
        rw [hx2] at HT2 q2
        have HY2 := Lib.hid (show (y ++ (x1 ++ [61] ++ x2 ++ [10])) ++ fmtDs (ks.drop ((j + 1) * 2)) = R by
          rw [← HY.out, hst]
          simp)
        have z1 := sz_le (x := x1) (n := 2000) (by omega)
        have z2 := sz_le (x := x2) (n := 2000) (by omega)
        have hl1 : x1.length ≤ 2000 := by omega
        have hl2 : x2.length ≤ 2000 := by omega
        have g1 : ¬ (9223372036854775807 < (ofL x1).size + 1) := by omega
        have g2 : ¬ (9223372036854775807 < (ofL x1).size + 1 + (ofL x2).size) := by omega
        have g3 : ¬ (9223372036854775807 < (ofL x1).size + 1 + (ofL x2).size + 1) := by omega
        have hcat : ((ofL x1 ++ ({ data := #[61] } : ByteArray)) ++ ofL x2) ++ ({ data := #[10] } : ByteArray) = ofL (x1 ++ [61] ++ x2 ++ [10]) := by
          rw [show ({ data := #[61] } : ByteArray) = ofL [61] from rfl, show ({ data := #[10] } : ByteArray) = ofL [10] from rfl, ofL_append, ofL_append, ofL_append]
        have HCAT := Lib.hid hcat
        have HWS := Lib.hid (fun W (hB : Lib.IsBuilder 59 5 b b (Lib.byteCells y) W) (hbW : b ≤ W.heap.size) => writeString_any b b (Lib.byteCells y) (ofL (x1 ++ [61] ++ x2 ++ [10])) W hB (by rw [Lib.byteCells_length, ofL_size]; simp; omega) hbW)
        have HX := Lib.hid hx
        clear hst q1 q2 v1 v2 c1 c2 hx1 hx2 HY hin1 hin2 hcat
        go_wp2_with fail
        have hE := (Ext.refl wr).alloc (.cells #[.int .i64 k1, .int .i64 n1, .slice A1 kids1.length p1, .int .i64 k2, .int .i64 n2, .slice A2 kids2.length p2] 61)
        have hb7 := heap_alloc_new wr (.cells #[.int .i64 k1, .int .i64 n1, .slice A1 kids1.length p1, .int .i64 k2, .int .i64 n2, .slice A2 kids2.length p2] 61)
        have hq7 : wr.heap.size ≠ b := by omega
        generalize hq : wr.heap.size = q at hb7 hq7 ⊢
        have hqb : b < q := by omega
        generalize wr.alloc _ = w7 at hE hb7 ⊢
        have HS := Lib.hid (show ∀ w' : World, w'.heap[q]? = some (.cells #[.int .i64 k1, .int .i64 n1, .slice A1 kids1.length p1, .int .i64 k2, .int .i64 n2, .slice A2 kids2.length p2] 61 (0, 0)) → w'.cell? ⟨q, 0, none⟩ = some (.int .i64 k1) ∧ w'.cell? ⟨q, 1, none⟩ = some (.int .i64 n1) ∧ w'.cell? ⟨q, 2, none⟩ = some (.slice A1 kids1.length p1) ∧ w'.cell? ⟨q, 3, none⟩ = some (.int .i64 k2) ∧ w'.cell? ⟨q, 4, none⟩ = some (.int .i64 n2) ∧ w'.cell? ⟨q, 5, none⟩ = some (.slice A2 kids2.length p2) from fun w' hw' => by
          obtain ⟨⟨s0, s1, s2, s3, s4, s5⟩, -⟩ := own6 hw'
          exact ⟨s0, s1, s2, s3, s4, s5⟩)
        have HB7 := Lib.hid hb7
        have hD : Ext w7 w7.drew := (Ext.refl w7).drew
        have hBL7 := Lib.hid (bld_ext HBL.out (hE.trans hD))
        have hbq : b ≤ w7.heap.size := by have := hE.size; omega
        clear hb7 d0 d1 d2 d3 d4 d5
        go_region_held3 (fun w' => w'.cell? ⟨q, 0, none⟩ = some (.int .i64 k1) ∧ w'.cell? ⟨q, 1, none⟩ = some (.int .i64 n1) ∧ w'.cell? ⟨q, 2, none⟩ = some (.slice A1 kids1.length p1) ∧ w'.cell? ⟨q, 3, none⟩ = some (.int .i64 k2) ∧ w'.cell? ⟨q, 4, none⟩ = some (.int .i64 n2) ∧ w'.cell? ⟨q, 5, none⟩ = some (.slice A2 kids2.length p2))
          (first | exact HS.out _ hk4 | exact HS.out _ ((hD.trans (e2.trans e3)).blk HB7.out) | exact HS.out _ ((hD.trans e2).blk HB7.out) | exact HS.out _ (hD.blk HB7.out))
          (first
            | (go_at_call 37; (with_reducible refine (HT1.out _ (hE.trans hD)).mono ?_); rintro e w2' ⟨rfl, e2⟩)
            | (go_at_call 37; refine (HT2.out _ ((hE.trans hD).trans e2)).mono ?_; rintro e w3 ⟨rfl, e3⟩)
            | (go_at_call 36; rw [HCAT.out]; refine (HWS.out _ (bld_ext hBL7.out (e2.trans e3)) (by have := (hD.trans (e2.trans e3)).size; omega)).mono ?_; rintro e w4 ⟨rfl, hB4, hk4', hl4⟩; have hk4 := hk4' q _ _ _ ((hD.trans (e2.trans e3)).blk HB7.out) (by decide) hq7))
        all_goals (
          have hl4s := hl4.size
          have hB5 : Lib.IsBuilder 59 5 b b (Lib.byteCells (y ++ (x1 ++ [61] ++ x2 ++ [10]))) w4 := by rw [Lib.byteCells_append]; exact hB4
          have hx9 : Ext w1 w4 := Below.trans (((HX.out.trans hE).trans hD).trans (e2.trans e3)) (Below.mono hl4 (Nat.le_of_eq hb))
          go_wp2_with fail
          go_roundw
          case rel => exact ⟨j + 1, y ++ (x1 ++ [61] ++ x2 ++ [10]), by omega, by go_num, Lib.hid hB5, by simp; omega, HY2, hx9, by have := ((hE.trans hD).trans (e2.trans e3)).size; omega⟩
          case measure => simp [intOf]; omega)
      · have hyr : y = R := by
          rw [← HY.out, List.drop_of_length_le (by omega)]
          simp [fmtDs]
        have HYR := Lib.hid hyr
        have HST := Lib.hid (Tryz.Builder_String_any b b y wr HBL.out (by omega))
        clear hyr
        go_wp2_with fail
        refine HST.out.mono ?_
        rintro e w9 ⟨rfl, e9⟩
        go_wp2_with fail
        go_ret
        exact ⟨by rw [← HYR.out]; rfl, e1.trans (Below.trans hx (Below.mono e9 (Nat.le_of_eq hb)))⟩
end Go.Proofs.YtolkohncmidpeaaGreatDoor
namespace Go.Proofs.YtolkohncmidpeaaGreatDoor
open Go.RowKit
set_option linter.unusedVariables false
theorem Ext.below {W a w : World} (h : Ext a w) (hW : W.heap.size ≤ a.heap.size) : Below W.heap.size a w := ⟨h.os, h.tape, h.output, h.size, fun b hb => h.heap b (Nat.lt_of_lt_of_le hb hW)⟩
theorem Ext.trans' {W a b c : World} (h : Ext a b) (k : Below W.heap.size b c) (hW : a.heap.size ≤ W.heap.size) : Ext a c := Below.trans h (Below.mono k hW)
theorem Made.three' {w w' : World} {e : TypeId} {t : Tr} {u : Value} (h : Made w w' e t u) : ∃ k n A l c, u = .agg #[.int .i64 k, .int .i64 n, .slice A l c] := by
  obtain ⟨k, n, ks⟩ := t
  obtain ⟨A, cap, rfl, _⟩ := Made.mk_iff.1 h
  exact ⟨k, n, A, _, cap, rfl⟩
attribute [local go_sem ↓] Go.wp_at_zero Go.wp_at_succ
end Go.Proofs.YtolkohncmidpeaaGreatDoor
namespace Go.Proofs.YtolkohncmidpeaaGreatDoor
open Go.RowKit
set_option linter.unusedVariables false
attribute [local go_sem ↓] Go.wp_at_zero Go.wp_at_succ
def l1CopyC (t : Tr) : Prop := ∀ (w : World) (v : Value), Lies w t v → cnt t ≤ 1000000 →
  Calls Tryz.prog 96 #[v] w fun e w' => ∃ u, e = .returned u ∧ Made w w' 45 t u ∧ Ext w w'
theorem infoPTerm : (Tryz.prog.info? 45).map (fun i => (i.zero, i.size, i.bytes)) = some (some (.agg #[.int .i64 0, .int .i64 0, .slice none 0 0]), 3, 40) := by kernel_rfl
set_option maxRecDepth 100000 in
set_option maxHeartbeats 2000000 in
theorem l1Copy_any : ∀ t : Tr, l1CopyC t := Tr.ind fun k n ks hk => by
  intro w v hin hcnt
  obtain ⟨A, cap, rfl, hl, hc, hK⟩ := Lies.mk_iff.1 hin
  obtain ⟨i0, hi, hz0, hz1, hz2⟩ := info_parts infoPTerm
  have hcc := hc
  unfold maxLen at hcc
  simp only [cnt] at hcnt
  have hlc := len_le_cnts ks
  go_enter Tryz.func96, Tryz.ntmps96
  go_wp2_with fail
  obtain ⟨w1, hw1⟩ : ∃ w1, w1 = (w.alloc (.cells #[.int .i64 k, .int .i64 n, .slice A ks.length cap] 45)).alloc (.cells #[.int .i64 0, .int .i64 0, .slice none 0 0] 45) := ⟨_, rfl⟩
  obtain ⟨W, hW⟩ : ∃ W, W = w1.alloc (.cells #[.int .i64 k, .int .i64 n, .slice none 0 0] 45) := ⟨_, rfl⟩
  have hs1 : w1.heap.size = w.heap.size + 1 + 1 := by rw [hw1]; simp
  have hsW : W.heap.size = w.heap.size + 3 := by rw [hW]; simp; omega
  have hE1 : Ext w w1 := hw1 ▸ ((Ext.refl w).alloc _).alloc _
  have hEW : Ext w1 W := hW ▸ (Ext.refl w1).alloc _
  have hbR : w1.heap[w.heap.size + 1]? = some (.cells #[.int .i64 0, .int .i64 0, .slice none 0 0] 45 (0, 0)) := by
    rw [hw1]; exact (blk2 (Ext.refl _)).2.1
  have hbO : W.heap[w.heap.size + 1 + 1]? = some (.cells #[.int .i64 k, .int .i64 n, .slice none 0 0] 45 (0, 0)) := by
    have := heap_alloc_new w1 (.cells #[.int .i64 k, .int .i64 n, .slice none 0 0] 45)
    rw [hs1] at this
    rw [hW]
    exact this
  have hbT : w1.heap[w.heap.size]? = some (.cells #[.int .i64 k, .int .i64 n, .slice A ks.length cap] 45 (0, 0)) := by
    rw [hw1]; exact (blk2 (Ext.refl _)).1
  rw [← hw1, ← hW]
  clear hW hw1
  go_loopw [4] (fun i wr => ∃ (j : Nat) (v : Value), j ≤ ks.length ∧ i = .int .i64 j ∧ wr.heap[w.heap.size + 1 + 1]? = some (.cells #[.int .i64 k, .int .i64 n, v] 45 (0, 0)) ∧ Grow W wr 45 v (ks.take j) ∧ Ext w1 wr ∧ W.heap.size ≤ wr.heap.size) (fun i _ => ks.length - (intOf i).toNat)
  case atStart => exact ⟨0, _, Nat.zero_le _, rfl, hbO, Grow.nil _ _ _, hEW, Nat.le_refl _⟩
  case round =>
    obtain ⟨j, v, hj, rfl, hbv, hG, he, hle⟩ := hrel
    by_cases hlt : j < ks.length
    · obtain ⟨b, o, k', n', A', cap', kids, rfl, HK, c0, c1, c2, hkl, hkc, hK', hin', hmem⟩ := hK.get (hE1.trans he) hlt
      have htk := List.take_append_getElem hlt
      rw [HK.out] at htk
      have hcm := cnt_mem hmem
      have hlen : (ks.take j).length < 1099511627776 := by rw [List.length_take]; omega
      have hlj : (ks.take j).length = j := by rw [List.length_take]; omega
      have HL := Lib.hid hlj
      have hbT2 := he.blk hbT
      obtain ⟨-, -, t2, -, -, -⟩ := own3 hbT2
      have hj' : (j : Int) < (ks.length : Int) := by omega
      go_wp2_with fail
      have hle2 := hle
      have hG2 := hG
      have hbv2 := hbv
      have hv := cell_of_blk hbv2 2
      have hcells : ∀ w', Below W.heap.size wr w' → w'.heap[w.heap.size + 1 + 1]? = some (.cells #[.int .i64 k, .int .i64 n, v] 45 (0, 0)) := fun w' hB => (hB.block (w.heap.size + 1 + 1) (by omega)).trans hbv2
      have HCells := Lib.hid hcells
      have hEd : Ext wr wr.drew := (Ext.refl wr).drew
      have hinD := hin'.ext hEd
      have he2 := he
      clear hcells hlj hbv hG he hle hcc
      go_region_law (first | (go_simp; go_at_call 96; refine (hk _ hmem _ _ hinD (by omega)).mono ?_; rintro e w4 ⟨u, rfl, hM, h4⟩; obtain ⟨a1, a2, a3, a4, a5, rfl⟩ := hM.three'; have hv4 := cell_of_blk (HCells.out _ ((hEd.trans h4).below hle2)) 2; have hs4 := World.block_lt_of_cell? _ _ hv4) | (refine step_append_tree _ (by rfl) (.tmp 18) (.tmp 25) _ (by rfl) 45 i0 _ Tryz.underlying43 hi hz0 hz1 hz2 rfl (by rfl) hG2 hle2 (hEd.trans h4) (hM.since (Nat.le_refl _)) ((Ext.refl _).alloc _) (by rfl) (heap_alloc_new _ _) hlen ?_; intro v' w5 hG5 hB5; obtain ⟨B5, c5, rfl, q1, q2, -⟩ := hG5.made; have hv5 := cell_of_blk (HCells.out _ hB5) 2; have hf5 := frozen_of_blk (HCells.out _ hB5) 2))
      all_goals (
        have hE5 : Ext w1 w5 := he2.trans' hB5 (by omega)
        have hs5 := hB5.size
        have hb6 := HCells.out _ hB5
        rw [List.length_append, List.length_singleton, htk, show (ks.take j).length + 1 = min (j + 1) ks.length from by rw [List.length_take]; omega] at hG5
        have hGs := fun u => hG5.after ((Above.refl W.heap.size w5).setCell (p := ⟨w.heap.size + 1 + 1, 2, none⟩) (by show w.heap.size + 1 + 1 < W.heap.size; omega) u)
        clear hv4 hs4 hv HCells hM h4 c0 c1 c2 t2
        go_wp2_with fail
        go_roundw
        case rel => exact ⟨j + 1, _, by omega, by go_num, blk_setCell hb6 2 _, hGs _, hE5.setCell (by show _ ≤ w.heap.size + 1 + 1; omega) _, by simp; omega⟩
        case measure => simp [intOf]; omega)
    · obtain ⟨B5, c5, rfl, q1, q2, hMK⟩ := hG.made
      have hjl : j = ks.length := by omega
      have hln : (ks.take j).length = ks.length := by rw [hjl, List.take_length]
      obtain ⟨r0, r1, r2, -, -, -⟩ := own3 hbv
      have hbT2 := he.blk hbT
      obtain ⟨-, -, t2, -, -, -⟩ := own3 hbT2
      have hbR' := he.blk hbR
      obtain ⟨s0, s1, s2, f0, f1, f2⟩ := own3 hbR'
      rw [hln] at q1 r2
      rw [show ks.take j = ks from by rw [hjl, List.take_length]] at hMK
      clear hln hbv
      go_wp2_with fail
      refine bodyPost_ret (v := .agg #[.int .i64 k, .int .i64 n, .slice B5 ks.length c5]) (by simp [results, Tryz.results96, go_sem, s0, s1, s2]) rfl ⟨_, rfl, ?_, ?_⟩
      · exact Made.since (Made.after (Made.mk q1 q2 hMK) ((((Above.refl _ _).setCell (by show w.heap.size + 1 < _; omega) _).setCell (by show w.heap.size + 1 < _; omega) _).setCell (by show w.heap.size + 1 < _; omega) _)) (by omega)
      · exact ((((hE1.trans he).setCell (by simp) _).setCell (by simp) _).setCell (by simp) _)
end Go.Proofs.YtolkohncmidpeaaGreatDoor

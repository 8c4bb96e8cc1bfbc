/-
  Lemmas towards the law, 38: FmtI, Extract.
-/
import Derived.Test.YtenpknapajckbaaDoorPAK
import Derived.Test.YtenpknapajckbaaDoorPAU
import Derived.Test.YtenpknapajckbaaDoorPBF
import Derived.Test.YtenpknapajckbaaDoorPBJ
import Derived.Test.YtenpknapajckbaaDoorPBK
import Derived.Deep.DrawnRows
import Derived.Deep.RegionLaw
namespace Go.Proofs.YtenpknapajckbaaDoor
open Go.RowKit
set_option linter.unusedVariables false
attribute [local go_sem ↓] Go.wp_at_zero Go.wp_at_succ
theorem bldAt_ext {T e : TypeId} {B b : Nat} {p : Value} {bs : List Value} {w w' : World} (h : Lib.BuilderAt T e B b p bs w) (he : Ext w w') : Lib.BuilderAt T e B b p bs w' := by
  obtain ⟨hB, v, hb, hown, hne⟩ := h
  refine ⟨hB, v, he.blk hb, ⟨hown.1, ?_⟩, hne⟩
  rcases hown.2 with h | ⟨g, cap, cur, rfl, h1, h2, r⟩
  · exact .inl h
  · exact .inr ⟨g, cap, cur, rfl, h1, he.blk h2, r⟩
theorem bld_ext {T e : TypeId} {B b : Nat} {bs : List Value} {w w' : World} (h : Lib.IsBuilder T e B b bs w) (he : Ext w w') : Lib.IsBuilder T e B b bs w' := by
  rcases h with h | h
  · exact .inl (bldAt_ext h he)
  · exact .inr (bldAt_ext h he)
set_option maxRecDepth 100000 in
set_option maxHeartbeats 4000000 in
theorem formatDefs_any (ks : List Tr) (n cap : Nat) (w : World) (hW : EnvM w) (A : Option Addr) (h : LiesK w A ks) (hn : ks.length = n * 2) (hl : n ≤ cap) (hc : cap ≤ maxLen) :
    Calls Tryd.prog 14 #[.slice A n cap] w fun e w' => e = .returned (.string (ofL (fmtDV ks n))) ∧ Ext w w' := by
  have hcc := hc
  unfold maxLen at hcc
  obtain ⟨R, hR⟩ : ∃ R, fmtDV ks n = R := ⟨_, rfl⟩
  rw [hR]
  have HR := Lib.hid hR
  clear hR
  go_enter Tryd.func14, Tryd.ntmps14
  go_wp2_with fail
  refine (defsValid_any ks n cap w A h hn hl hc).mono ?_
  rintro e w1 ⟨rfl, e1⟩
  obtain ⟨z, hz⟩ : ∃ z, dfV ks n = z := ⟨_, rfl⟩
  rw [hz]
  cases z with
  | false =>
    have hr : R = [] := by rw [← HR.out]; unfold fmtDV; rw [hz]; rfl
    have HRR := Lib.hid hr
    clear hz hr
    go_wp2_with fail
    go_ret
    exact ⟨by rw [HRR.out]; rfl, e1⟩
  | true =>
    have hr : fmtDs ks = R := by rw [← HR.out]; unfold fmtDV; rw [hz]; rfl
    obtain ⟨hn8, hv⟩ := dfV_valid hz hn
    have HRR := Lib.hid hr
    have HV := Lib.hid hv
    clear hz hr hv
    have h1 := h.ext e1
    have hB0 : Lib.IsBuilder 63 5 w1.heap.size w1.heap.size (Lib.byteCells []) (w1.alloc (.cells #[.pointer none, .slice none 0 0] 63)) :=
      .inl ⟨Nat.le_refl _, .slice none 0 0, heap_alloc_new w1 _, World.ownsRow_nil _ _ _ _, by simp [Value.ownBlock]⟩
    have hx0 : Ext w1 (w1.alloc (.cells #[.pointer none, .slice none 0 0] 63)) := (Ext.refl w1).alloc _
    go_wp2_with fail
    generalize hb : w1.heap.size = b at hB0 ⊢
    generalize w1.alloc _ = w2 at hB0 hx0 ⊢
    go_loopw [11] (fun i wr => ∃ (j : Nat) (y : List UInt8), j ≤ n ∧ i = .int .i64 j ∧ Hid (Lib.IsBuilder 63 5 b b (Lib.byteCells y) wr) ∧ y.length ≤ j * 4002 ∧ Hid (y ++ fmtDs (ks.drop (j * 2)) = R) ∧ Ext w1 wr ∧ b < wr.heap.size) (fun i _ => n - (intOf i).toNat)
    case atStart => exact ⟨0, [], Nat.zero_le _, rfl, Lib.hid hB0, Nat.zero_le _, Lib.hid (by simpa using HRR.out), hx0, by
      rcases hB0 with h | h
      · exact h.lt
      · exact h.lt⟩
    case round =>
      obtain ⟨j, y, hj, rfl, HBL, hyl, HY, hx, hbw⟩ := hrel
      by_cases hlt : j < n
      · have hjz : (j : Int) < (n : Int) := by omega
        obtain ⟨b0, o, k1, n1, A1, p1, kids1, k2, n2, A2, p2, kids2, rfl, hbw0, HK1, HK2, ⟨d0, d1, d2, d3, d4, d5⟩, ⟨l1, m1, hK1, hin1, hmem1⟩, ⟨l2, m2, hK2, hin2, hmem2⟩⟩ := h1.getD (j := j) hx (by omega)
        have hst := fmtDs_step (ks := ks) (j := j) (by omega)
        rw [HK1.out, HK2.out] at hst
        have v1 := HV.out _ hmem1
        have v2 := HV.out _ hmem2
        have c1 := (valid_parts v1)
        have c2 := (valid_parts v2)
        have hWr := hW.ext (e1.trans hx)
        have HT1 := Lib.hid (fun W (hWW : Ext wr W) => termText_any (.mk k1 n1 kids1) W _ 30 (hWr.ext hWW) c1.1 (by omega) (hin1.ext hWW))
        have HT2 := Lib.hid (fun W (hWW : Ext wr W) => termText_any (.mk k2 n2 kids2) W _ 30 (hWr.ext hWW) c2.1 (by omega) (hin2.ext hWW))
        have q1 := fmtL_len (.mk k1 n1 kids1)
        have q2 := fmtL_len (.mk k2 n2 kids2)
        obtain ⟨x1, hx1⟩ : ∃ x, fmtL (.mk k1 n1 kids1) = x := ⟨_, rfl⟩
        obtain ⟨x2, hx2⟩ : ∃ x, fmtL (.mk k2 n2 kids2) = x := ⟨_, rfl⟩
        rw [hx1, hx2] at hst
        rw [hx1] at HT1 q1
        rw [hx2] at HT2 q2
        have HY2 := Lib.hid (show (y ++ (x1 ++ [61] ++ x2 ++ [10])) ++ fmtDs (ks.drop ((j + 1) * 2)) = R by
          rw [← HY.out, hst]
          simp)
        have z1 := sz_le (x := x1) (n := 2000) (by omega)
        have z2 := sz_le (x := x2) (n := 2000) (by omega)
        have hl1 : x1.length ≤ 2000 := by omega
        have hl2 : x2.length ≤ 2000 := by omega
        have g1 : ¬ (9223372036854775807 < (ofL x1).size + 1) := by omega
        have g2 : ¬ (9223372036854775807 < (ofL x1).size + 1 + (ofL x2).size) := by omega
        have g3 : ¬ (9223372036854775807 < (ofL x1).size + 1 + (ofL x2).size + 1) := by omega
        have hcat : ((ofL x1 ++ ({ data := #[61] } : ByteArray)) ++ ofL x2) ++ ({ data := #[10] } : ByteArray) = ofL (x1 ++ [61] ++ x2 ++ [10]) := by
          rw [show ({ data := #[61] } : ByteArray) = ofL [61] from rfl, show ({ data := #[10] } : ByteArray) = ofL [10] from rfl, ofL_append, ofL_append, ofL_append]
        have HCAT := Lib.hid hcat
        have HWS := Lib.hid (fun W (hB : Lib.IsBuilder 63 5 b b (Lib.byteCells y) W) (hbW : b ≤ W.heap.size) => writeString_any b b (Lib.byteCells y) (ofL (x1 ++ [61] ++ x2 ++ [10])) W hB (by rw [Lib.byteCells_length, ofL_size]; simp; omega) hbW)
        have HX := Lib.hid hx
        clear hst q1 q2 v1 v2 c1 c2 hx1 hx2 HY hin1 hin2 hcat
        go_wp2_with fail
        have hE := (Ext.refl wr).alloc (.cells #[.int .i64 k1, .int .i64 n1, .slice A1 kids1.length p1, .int .i64 k2, .int .i64 n2, .slice A2 kids2.length p2] 59)
        have hb7 := heap_alloc_new wr (.cells #[.int .i64 k1, .int .i64 n1, .slice A1 kids1.length p1, .int .i64 k2, .int .i64 n2, .slice A2 kids2.length p2] 59)
        have hq7 : wr.heap.size ≠ b := by omega
        generalize hq : wr.heap.size = q at hb7 hq7 ⊢
        have hqb : b < q := by omega
        generalize wr.alloc _ = w7 at hE hb7 ⊢
        have HS := Lib.hid (show ∀ w' : World, w'.heap[q]? = some (.cells #[.int .i64 k1, .int .i64 n1, .slice A1 kids1.length p1, .int .i64 k2, .int .i64 n2, .slice A2 kids2.length p2] 59 (0, 0)) → w'.cell? ⟨q, 0, none⟩ = some (.int .i64 k1) ∧ w'.cell? ⟨q, 1, none⟩ = some (.int .i64 n1) ∧ w'.cell? ⟨q, 2, none⟩ = some (.slice A1 kids1.length p1) ∧ w'.cell? ⟨q, 3, none⟩ = some (.int .i64 k2) ∧ w'.cell? ⟨q, 4, none⟩ = some (.int .i64 n2) ∧ w'.cell? ⟨q, 5, none⟩ = some (.slice A2 kids2.length p2) from fun w' hw' => by
          obtain ⟨⟨s0, s1, s2, s3, s4, s5⟩, -⟩ := own6 hw'
          exact ⟨s0, s1, s2, s3, s4, s5⟩)
        have HB7 := Lib.hid hb7
        have hD : Ext w7 w7.drew := (Ext.refl w7).drew
        have hBL7 := Lib.hid (bld_ext HBL.out (hE.trans hD))
        have hbq : b ≤ w7.heap.size := by have := hE.size; omega
        clear hb7 d0 d1 d2 d3 d4 d5
        go_region_held3 (fun w' => w'.cell? ⟨q, 0, none⟩ = some (.int .i64 k1) ∧ w'.cell? ⟨q, 1, none⟩ = some (.int .i64 n1) ∧ w'.cell? ⟨q, 2, none⟩ = some (.slice A1 kids1.length p1) ∧ w'.cell? ⟨q, 3, none⟩ = some (.int .i64 k2) ∧ w'.cell? ⟨q, 4, none⟩ = some (.int .i64 n2) ∧ w'.cell? ⟨q, 5, none⟩ = some (.slice A2 kids2.length p2))
          (first | exact HS.out _ hk4 | exact HS.out _ ((hD.trans (e2.trans e3)).blk HB7.out) | exact HS.out _ ((hD.trans e2).blk HB7.out) | exact HS.out _ (hD.blk HB7.out))
          (first
            | (go_at_call 30; (with_reducible refine (HT1.out _ (hE.trans hD)).mono ?_); rintro e w2' ⟨rfl, e2⟩)
            | (go_at_call 30; refine (HT2.out _ ((hE.trans hD).trans e2)).mono ?_; rintro e w3 ⟨rfl, e3⟩)
            | (go_at_call 29; rw [HCAT.out]; refine (HWS.out _ (bld_ext hBL7.out (e2.trans e3)) (by have := (hD.trans (e2.trans e3)).size; omega)).mono ?_; rintro e w4 ⟨rfl, hB4, hk4', hl4⟩; have hk4 := hk4' q _ _ _ ((hD.trans (e2.trans e3)).blk HB7.out) (by decide) hq7))
        all_goals (
          have hl4s := hl4.size
          have hB5 : Lib.IsBuilder 63 5 b b (Lib.byteCells (y ++ (x1 ++ [61] ++ x2 ++ [10]))) w4 := by rw [Lib.byteCells_append]; exact hB4
          have hx9 : Ext w1 w4 := Below.trans (((HX.out.trans hE).trans hD).trans (e2.trans e3)) (Below.mono hl4 (Nat.le_of_eq hb))
          go_wp2_with fail
          go_roundw
          case rel => exact ⟨j + 1, y ++ (x1 ++ [61] ++ x2 ++ [10]), by omega, by go_num, Lib.hid hB5, by simp; omega, HY2, hx9, by have := ((hE.trans hD).trans (e2.trans e3)).size; omega⟩
          case measure => simp [intOf]; omega)
      · have hyr : y = R := by
          rw [← HY.out, List.drop_of_length_le (by omega)]
          simp [fmtDs]
        have HYR := Lib.hid hyr
        have HST := Lib.hid (Tryd.Builder_String_any b b y wr HBL.out (by omega))
        clear hyr
        go_wp2_with fail
        refine HST.out.mono ?_
        rintro e w9 ⟨rfl, e9⟩
        go_wp2_with fail
        go_ret
        exact ⟨by rw [← HYR.out]; rfl, e1.trans (Below.trans hx (Below.mono e9 (Nat.le_of_eq hb)))⟩
end Go.Proofs.YtenpknapajckbaaDoor
namespace Go.Proofs.YtenpknapajckbaaDoor
open Go.RowKit
set_option linter.unusedVariables false
theorem Ext.below {W a w : World} (h : Ext a w) (hW : W.heap.size ≤ a.heap.size) : Below W.heap.size a w := ⟨h.os, h.tape, h.output, h.size, fun b hb => h.heap b (Nat.lt_of_lt_of_le hb hW)⟩
theorem Ext.trans' {W a b c : World} (h : Ext a b) (k : Below W.heap.size b c) (hW : a.heap.size ≤ W.heap.size) : Ext a c := Below.trans h (Below.mono k hW)
theorem Made.three' {w w' : World} {e : TypeId} {t : Tr} {u : Value} (h : Made w w' e t u) : ∃ k n A l c, u = .agg #[.int .i64 k, .int .i64 n, .slice A l c] := by
  obtain ⟨k, n, ks⟩ := t
  obtain ⟨A, cap, rfl, _⟩ := Made.mk_iff.1 h
  exact ⟨k, n, A, _, cap, rfl⟩
attribute [local go_sem ↓] Go.wp_at_zero Go.wp_at_succ
end Go.Proofs.YtenpknapajckbaaDoor

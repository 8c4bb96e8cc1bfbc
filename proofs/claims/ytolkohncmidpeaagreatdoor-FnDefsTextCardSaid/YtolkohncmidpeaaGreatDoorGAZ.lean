/-
  Lemmas towards the law, 26: Line, FmtD.
-/
import Derived.Test.YtolkohncmidpeaaGreatDoorGAI
import Derived.Test.YtolkohncmidpeaaGreatDoorGAQ
import Derived.Test.YtolkohncmidpeaaGreatDoorGAV
import Derived.Test.YtolkohncmidpeaaGreatDoorGAX
import Derived.Test.YtolkohncmidpeaaGreatDoorGAY
namespace Go.Proofs.YtolkohncmidpeaaGreatDoor
open Go.RowKit
set_option linter.unusedVariables false
/-- What stands in a line of definitions. -/
def lineP (l : List UInt8) : Option (Tr × Tr) := match prs 30 l 0 with
  | none => none
  | some (t, a) => if l[a]? = some 61 then (match prs 30 l (a + 1) with
    | none => none
    | some (b, e) => if e = l.length then some (t, b) else none) else none
theorem lineP_none {l : List UInt8} (h : prs 30 l 0 = none) : lineP l = none := by unfold lineP; rw [h]
theorem lineP_no {l : List UInt8} {t : Tr} {a : Nat} (h : prs 30 l 0 = some (t, a)) (h1 : l[a]? ≠ some 61) : lineP l = none := by unfold lineP; rw [h]; simp only; rw [if_neg h1]
theorem lineP_half {l : List UInt8} {t : Tr} {a : Nat} (h : prs 30 l 0 = some (t, a)) (h1 : l[a]? = some 61) (h2 : prs 30 l (a + 1) = none) : lineP l = none := by unfold lineP; rw [h]; simp only; rw [if_pos h1, h2]
theorem lineP_two {l : List UInt8} {t b : Tr} {a e : Nat} (h : prs 30 l 0 = some (t, a)) (h1 : l[a]? = some 61) (h2 : prs 30 l (a + 1) = some (b, e)) : lineP l = if e = l.length then some (t, b) else none := by unfold lineP; rw [h]; simp only; rw [if_pos h1, h2]
/-- What l9Line hands back. -/
def LineQ (w : World) (o : Option (Tr × Tr)) (e : Ending) (w' : World) : Prop :=
  ∃ (k1 n1 k2 n2 : Int) (A1 A2 : Option Addr) (l1 c1 l2 c2 : Nat), e = .returned (.tuple #[.agg #[.int .i64 k1, .int .i64 n1, .slice A1 l1 c1, .int .i64 k2, .int .i64 n2, .slice A2 l2 c2], .bool o.isSome]) ∧
    (∀ x, o = some x → From w.heap.size w' x.1 (.agg #[.int .i64 k1, .int .i64 n1, .slice A1 l1 c1]) ∧ From w.heap.size w' x.2 (.agg #[.int .i64 k2, .int .i64 n2, .slice A2 l2 c2])) ∧ Ext w w'
set_option maxRecDepth 100000 in
set_option maxHeartbeats 1000000 in
theorem l9Line_any (s : ByteArray) (w : World) (hs : s.size ≤ 1000000000) : Calls Tryz.prog 50 #[.string s] w (LineQ w (lineP s.data.toList)) := by
  have HP := Lib.hid (fun W => (show Calls Tryz.prog 93 #[.string s, .int .i64 0, .int .i64 30] W (ParseQ W.heap.size W s.size (prs 30 s.data.toList 0)) from parse_any 30 (by omega) s 0 W hs (by omega)))
  have hln : s.data.toList.length = s.size := by rw [Array.length_toList]; rfl
  obtain ⟨l, hl⟩ : ∃ l, s.data.toList = l := ⟨_, rfl⟩
  have HAT := Lib.hid (fun (a : Nat) (h : a < s.size) => (show l[a]? = some s[a] from hl ▸ at_list s h))
  have HAN := Lib.hid (fun (a : Nat) (h : s.size ≤ a) => (show l[a]? = none from hl ▸ at_none s h))
  have HP2 := Lib.hid (fun W (a : Nat) (ha : a + 1 ≤ s.size + 2) => (show Calls Tryz.prog 93 #[.string s, .int .i64 ((a : Int) + 1), .int .i64 30] W (ParseQ W.heap.size W s.size (prs 30 l (a + 1))) from hl ▸ parse_any 30 (by omega) s (a + 1) W hs ha))
  rw [hl] at hln HP ⊢
  clear hl
  obtain ⟨O, hO⟩ : ∃ O, lineP l = O := ⟨_, rfl⟩
  rw [hO]
  have HO := Lib.hid hO
  clear hO
  have hx0 := (Ext.refl w).alloc (.cells #[.int .i64 0, .int .i64 0, .slice none 0 0, .int .i64 0, .int .i64 0, .slice none 0 0] 61)
  have hb0 := heap_alloc_new w (.cells #[.int .i64 0, .int .i64 0, .slice none 0 0, .int .i64 0, .int .i64 0, .slice none 0 0] 61)
  obtain ⟨F, hF⟩ : ∃ F, prs 30 l 0 = F := ⟨_, rfl⟩
  rw [hF] at HP
  go_enter Tryz.func50, Tryz.ntmps50
  go_wp2_with fail
  generalize hw0 : w.alloc _ = w0 at hx0 hb0 ⊢
  have hs0 : w.heap.size < w0.heap.size := lt_of_blk hb0
  clear hw0
  refine (HP.out _).mono ?_
  rintro e w1 ⟨t, u, nx, rfl, hFt, e1, q1, q2⟩
  obtain ⟨k0, n0, A0, l0, c0, rfl⟩ := hFt.three
  have e2 := (Ext.refl w1).alloc (.cells #[.int .i64 k0, .int .i64 n0, .slice A0 l0 c0] 45)
  have hb1 := heap_alloc_new w1 (.cells #[.int .i64 k0, .int .i64 n0, .slice A0 l0 c0] 45)
  have hb2 := e2.blk (e1.blk hb0)
  have hF2 := hFt.ext e2
  have hx2 := (hx0.trans e1).trans e2
  have hs1 := e1.size
  clear hb0 hFt
  obtain ⟨⟨s0, s1, s2, s3, s4, s5⟩, f0, f1, f2, f3, f4, f5⟩ := own6 hb2
  have hout : ∀ w', O = none → Ext w w' → LineQ w O (.returned (.tuple #[.agg #[.int .i64 0, .int .i64 0, .slice none 0 0, .int .i64 0, .int .i64 0, .slice none 0 0], .bool false])) w' := fun w' ho h => by subst ho; exact ⟨_, _, _, _, _, _, _, _, _, _, rfl, (fun x h => by cases h), h⟩
  have HOUT := Lib.hid hout
  clear hout
  cases F with
  | none =>
    obtain rfl := q2 rfl
    have hon : O = none := HO.out ▸ lineP_none hF
    have HON := Lib.hid hon
    clear q1 q2 hF hon
    go_wp2_with fail
    refine bodyPost_ret (v := .tuple #[.agg #[.int .i64 0, .int .i64 0, .slice none 0 0, .int .i64 0, .int .i64 0, .slice none 0 0], .bool false]) (by simp [results, Tryz.results50, go_sem, s0, s1, s2, s3, s4, s5]) rfl (HOUT.out _ HON.out ?_)
    exact (((((hx2.setCell (by simp) _).setCell (by simp) _).setCell (by simp) _).setCell (by simp) _).setCell (by simp) _).setCell (by simp) _
  | some y =>
    obtain ⟨ty, a⟩ := y
    obtain ⟨rfl, rfl, ha⟩ := q1 _ rfl
    dsimp only at ha
    clear q1 q2
    have d0 : decide ((a : Int) < 0) = false := decide_eq_false (by omega)
    by_cases hae : a = s.size
    · have d1 : decide ((s.size : Int) ≤ (a : Int)) = true := decide_eq_true (by omega)
      have hon : O = none := HO.out ▸ lineP_no hF (by rw [HAN.out a (by omega)]; simp)
      have HON := Lib.hid hon
      have d2 : s.size ≤ a := by omega
      clear hF hae hon
      go_wp2_with fail
      refine bodyPost_ret (v := .tuple #[.agg #[.int .i64 0, .int .i64 0, .slice none 0 0, .int .i64 0, .int .i64 0, .slice none 0 0], .bool false]) (by simp [results, Tryz.results50, go_sem, s0, s1, s2, s3, s4, s5]) rfl (HOUT.out _ HON.out ?_)
      exact (((((hx2.setCell (by simp) _).setCell (by simp) _).setCell (by simp) _).setCell (by simp) _).setCell (by simp) _).setCell (by simp) _
    · have hlt : a < s.size := by omega
      have d1 : decide ((s.size : Int) ≤ (a : Int)) = false := decide_eq_false (by omega)
      obtain ⟨x, hx⟩ : ∃ x, s[a] = x := ⟨_, rfl⟩
      have hla := HAT.out a hlt
      rw [hx] at hla
      by_cases hx61 : x = 61
      · subst hx61
        obtain ⟨G, hG⟩ : ∃ G, prs 30 l (a + 1) = G := ⟨_, rfl⟩
        have HF := Lib.hid hF
        have HG := Lib.hid hG
        have HLA := Lib.hid hla
        have HP3 := Lib.hid (fun W => HP2.out W a (by omega))
        rw [hG] at HP3
        have hb1s : w1.heap.size < (w1.alloc (.cells #[.int .i64 k0, .int .i64 n0, .slice A0 l0 c0] 45)).heap.size := lt_of_blk hb1
        clear hF hla hG s0 s1 s2 s3 s4 s5 f0 f1 f2 f3 f4 f5
        go_wp2_with fail
        generalize hw2 : w1.alloc _ = w2 at hb1 hb2 hF2 hx2 e2 hb1s ⊢
        clear hw2
        refine (HP3.out _).mono ?_
        rintro e w3 ⟨b, u, nx, rfl, hFb, e3, q1, q2⟩
        obtain ⟨k4, n4, A4, l4, c4, rfl⟩ := hFb.three
        have e4 := (Ext.refl w3).alloc (.cells #[.int .i64 k4, .int .i64 n4, .slice A4 l4 c4] 45)
        have hb4 := heap_alloc_new w3 (.cells #[.int .i64 k4, .int .i64 n4, .slice A4 l4 c4] 45)
        have hb24 := e4.blk (e3.blk hb2)
        have hb14 := e4.blk (e3.blk hb1)
        have hFb4 := hFb.ext e4
        have hF4 := (hF2.ext e3).ext e4
        have hx4 := (hx2.trans e3).trans e4
        have hs3 := e3.size
        clear hb1 hb2 hFb hF2
        obtain ⟨⟨s0, s1, s2, s3, s4, s5⟩, f0, f1, f2, f3, f4, f5⟩ := own6 hb24
        obtain ⟨y0, y1, y2, -, -, -⟩ := own3 hb14
        obtain ⟨z0, z1, z2, -, -, -⟩ := own3 hb4
        have hne1 : w1.heap.size ≠ w.heap.size := by omega
        have hne3 : w3.heap.size ≠ w.heap.size := by omega
        cases G with
        | none =>
          obtain rfl := q2 rfl
          have hon : O = none := HO.out ▸ lineP_half HF.out HLA.out HG.out
          subst hon
          have t1 : ((-1 : Int) == (s.size : Int)) = false := by rw [beq_eq_false_iff_ne]; omega
          clear q1 q2
          go_wp2_with fail
          refine bodyPost_ret (v := .tuple #[.agg #[.int .i64 k0, .int .i64 n0, .slice A0 l0 c0, .int .i64 k4, .int .i64 n4, .slice A4 l4 c4], .bool false]) (by simp [results, Tryz.results50, go_sem, s0, s1, s2, s3, s4, s5]) rfl ⟨_, _, _, _, _, _, _, _, _, _, rfl, (fun x h => by cases h), ?_⟩
          exact (((((hx4.setCell (by simp) _).setCell (by simp) _).setCell (by simp) _).setCell (by simp) _).setCell (by simp) _).setCell (by simp) _
        | some y =>
          obtain ⟨tb, ee⟩ := y
          obtain ⟨rfl, rfl, hee⟩ := q1 _ rfl
          dsimp only at hee
          have hr := lineP_two HF.out HLA.out HG.out
          rw [hln] at hr
          have hor := HO.out.symm.trans hr
          clear q1 q2 hr HO
          have hset : From w.heap.size ((((((w3.alloc (.cells #[.int .i64 k4, .int .i64 n4, .slice A4 l4 c4] 45)).setCell ⟨w.heap.size, 0, none⟩ (.int .i64 k0)).setCell ⟨w.heap.size, 1, none⟩ (.int .i64 n0)).setCell ⟨w.heap.size, 2, none⟩ (.slice A0 l0 c0)).setCell ⟨w.heap.size, 3, none⟩ (.int .i64 k4)).setCell ⟨w.heap.size, 4, none⟩ (.int .i64 n4) |>.setCell ⟨w.heap.size, 5, none⟩ (.slice A4 l4 c4)) t (.agg #[.int .i64 k0, .int .i64 n0, .slice A0 l0 c0]) :=
            ((((((hF4.set (by simp; omega) _).set (by simp; omega) _).set (by simp; omega) _).set (by simp; omega) _).set (by simp; omega) _).set (by simp; omega) _).since (by omega)
          have hset2 : From w.heap.size ((((((w3.alloc (.cells #[.int .i64 k4, .int .i64 n4, .slice A4 l4 c4] 45)).setCell ⟨w.heap.size, 0, none⟩ (.int .i64 k0)).setCell ⟨w.heap.size, 1, none⟩ (.int .i64 n0)).setCell ⟨w.heap.size, 2, none⟩ (.slice A0 l0 c0)).setCell ⟨w.heap.size, 3, none⟩ (.int .i64 k4)).setCell ⟨w.heap.size, 4, none⟩ (.int .i64 n4) |>.setCell ⟨w.heap.size, 5, none⟩ (.slice A4 l4 c4)) b (.agg #[.int .i64 k4, .int .i64 n4, .slice A4 l4 c4]) :=
            ((((((hFb4.set (by simp; omega) _).set (by simp; omega) _).set (by simp; omega) _).set (by simp; omega) _).set (by simp; omega) _).set (by simp; omega) _).since (by omega)
          have HS1 := Lib.hid hset
          have HS2 := Lib.hid hset2
          clear hset hset2
          by_cases hes : ee = s.size
          · have t1 : ((ee : Int) == (s.size : Int)) = true := by simp [hes]
            rw [if_pos hes] at hor
            subst hor
            clear hes
            go_wp2_with fail
            refine bodyPost_ret (v := .tuple #[.agg #[.int .i64 k0, .int .i64 n0, .slice A0 l0 c0, .int .i64 k4, .int .i64 n4, .slice A4 l4 c4], .bool true]) (by simp [results, Tryz.results50, go_sem, s0, s1, s2, s3, s4, s5]) rfl ⟨_, _, _, _, _, _, _, _, _, _, rfl, fun x h => by cases h; exact ⟨HS1.out, HS2.out⟩, ?_⟩
            exact (((((hx4.setCell (by simp) _).setCell (by simp) _).setCell (by simp) _).setCell (by simp) _).setCell (by simp) _).setCell (by simp) _
          · have t1 : ((ee : Int) == (s.size : Int)) = false := by rw [beq_eq_false_iff_ne]; omega
            rw [if_neg hes] at hor
            subst hor
            clear hes
            go_wp2_with fail
            refine bodyPost_ret (v := .tuple #[.agg #[.int .i64 k0, .int .i64 n0, .slice A0 l0 c0, .int .i64 k4, .int .i64 n4, .slice A4 l4 c4], .bool false]) (by simp [results, Tryz.results50, go_sem, s0, s1, s2, s3, s4, s5]) rfl ⟨_, _, _, _, _, _, _, _, _, _, rfl, (fun x h => by cases h), ?_⟩
            exact (((((hx4.setCell (by simp) _).setCell (by simp) _).setCell (by simp) _).setCell (by simp) _).setCell (by simp) _).setCell (by simp) _
      · have hxn : ((x.toNat : Int) != 61) = true := by
          rw [bne_iff_ne]
          intro h
          exact hx61 (UInt8.toNat_inj.1 (by have : x.toNat = 61 := by omega
                                            rw [this]; rfl))
        have hon : O = none := HO.out ▸ lineP_no hF (by rw [hla]; intro h; exact hx61 (Option.some.inj h))
        have HON := Lib.hid hon
        clear hF hla hx61 hon
        go_wp2_with fail
        refine bodyPost_ret (v := .tuple #[.agg #[.int .i64 0, .int .i64 0, .slice none 0 0, .int .i64 0, .int .i64 0, .slice none 0 0], .bool false]) (by simp [results, Tryz.results50, go_sem, s0, s1, s2, s3, s4, s5]) rfl (HOUT.out _ HON.out ?_)
        exact (((((hx2.setCell (by simp) _).setCell (by simp) _).setCell (by simp) _).setCell (by simp) _).setCell (by simp) _).setCell (by simp) _
end Go.Proofs.YtolkohncmidpeaaGreatDoor
namespace Go.Proofs.YtolkohncmidpeaaGreatDoor
open Go.RowKit
set_option linter.unusedVariables false
/-- The text of definitions, two trees each. -/
def fmtDs : List Tr → List UInt8
  | t :: b :: r => (((fmtL t ++ [61]) ++ fmtL b) ++ [10]) ++ fmtDs r
  | _ => []
def fmtDV (ks : List Tr) (n : Nat) : List UInt8 := if dfV ks n = true then fmtDs ks else []
theorem fmtDs_step {ks : List Tr} {j : Nat} (h : j * 2 + 1 < ks.length) : fmtDs (ks.drop (j * 2)) = (((fmtL (ks[j * 2]'(by omega)) ++ [61]) ++ fmtL (ks[j * 2 + 1]'h)) ++ [10]) ++ fmtDs (ks.drop ((j + 1) * 2)) := by
  rw [List.drop_eq_getElem_cons (i := j * 2) (by omega), List.drop_eq_getElem_cons (i := j * 2 + 1) h, show j * 2 + 1 + 1 = (j + 1) * 2 by omega]
  rfl
theorem dfV_valid {ks : List Tr} {n : Nat} (h : dfV ks n = true) (hn : ks.length = n * 2) : n ≤ 8 ∧ ∀ t ∈ ks, valid sigT t = true := by
  have h1 := dfV_small h hn
  unfold dfV at h
  simp only [Bool.and_eq_true] at h
  exact ⟨h1.1, fun t ht => (dvs_small h.1 hn t ht).1⟩
set_option maxRecDepth 100000 in
set_option maxHeartbeats 1000000 in
theorem specFormatDefs_any (ks : List Tr) (n cap : Nat) (w : World) (A : Option Addr) (h : LiesK w A ks) (hn : ks.length = n * 2) (hl : n ≤ cap) (hc : cap ≤ maxLen) :
    Calls Tryz.prog 12 #[.slice A n cap] w fun e w' => e = .returned (.string (ofL (fmtDV ks n))) ∧ Ext w w' := by
  have hcc := hc
  unfold maxLen at hcc
  obtain ⟨R, hR⟩ : ∃ R, fmtDV ks n = R := ⟨_, rfl⟩
  rw [hR]
  have HR := Lib.hid hR
  clear hR
  go_enter Tryz.func12, Tryz.ntmps12
  go_wp2_with fail
  refine (specDefsValid_any ks n cap w A h hn hl hc).mono ?_
  rintro e w1 ⟨rfl, e1⟩
  obtain ⟨z, hz⟩ : ∃ z, dfV ks n = z := ⟨_, rfl⟩
  rw [hz]
  cases z with
  | false =>
    have hr : R = [] := by rw [← HR.out]; unfold fmtDV; rw [hz]; rfl
    have HRR := Lib.hid hr
    clear hz hr
    go_wp2_with fail
    go_ret
    exact ⟨by rw [HRR.out]; rfl, e1⟩
  | true =>
    have hr : fmtDs ks = R := by rw [← HR.out]; unfold fmtDV; rw [hz]; rfl
    obtain ⟨hn8, hv⟩ := dfV_valid hz hn
    have HRR := Lib.hid hr
    have HV := Lib.hid hv
    clear hz hr hv
    have h1 := h.ext e1
    go_wp2_with fail
    go_loopw [3, 4] (fun o i wr => ∃ (j : Nat) (y : List UInt8), j ≤ n ∧ i = .int .i64 j ∧ o = .string (ofL y) ∧ y.length ≤ j * 4002 ∧ y ++ fmtDs (ks.drop (j * 2)) = R ∧ Ext w wr) (fun _ i _ => n - (intOf i).toNat)
    case atStart => exact ⟨0, [], Nat.zero_le _, rfl, rfl, Nat.zero_le _, by simpa using HRR.out, e1⟩
    case round =>
      obtain ⟨j, y, hj, rfl, rfl, hyl, hy, hx⟩ := hrel
      have HY := Lib.hid hy
      clear hy
      by_cases hlt : j < n
      · have hjz : (j : Int) < (n : Int) := by omega
        obtain ⟨b, o, k1, n1, A1, p1, kids1, k2, n2, A2, p2, kids2, rfl, hbw, HK1, HK2, ⟨d0, d1, d2, d3, d4, d5⟩, ⟨l1, m1, hK1, hin1, hmem1⟩, ⟨l2, m2, hK2, hin2, hmem2⟩⟩ := h.getD (j := j) hx (by omega)
        have hst := fmtDs_step (ks := ks) (j := j) (by omega)
        rw [HK1.out, HK2.out] at hst
        have v1 := HV.out _ hmem1
        have v2 := HV.out _ hmem2
        have c1 := (valid_parts v1)
        have c2 := (valid_parts v2)
        have HT1 := Lib.hid (fun W (hW : Ext wr W) => l1Text_any (.mk k1 n1 kids1) W _ 30 c1.1 (by omega) (hin1.ext hW))
        have HT2 := Lib.hid (fun W (hW : Ext wr W) => l1Text_any (.mk k2 n2 kids2) W _ 30 c2.1 (by omega) (hin2.ext hW))
        have q1 := fmtL_len (.mk k1 n1 kids1)
        have q2 := fmtL_len (.mk k2 n2 kids2)
        obtain ⟨x1, hx1⟩ : ∃ x, fmtL (.mk k1 n1 kids1) = x := ⟨_, rfl⟩
        obtain ⟨x2, hx2⟩ : ∃ x, fmtL (.mk k2 n2 kids2) = x := ⟨_, rfl⟩
        rw [hx1, hx2] at hst
        rw [hx1] at HT1 q1
        rw [hx2] at HT2 q2
        have hy' : (((y ++ x1) ++ [61]) ++ x2 ++ [10]) ++ fmtDs (ks.drop ((j + 1) * 2)) = R := by
          rw [← HY.out, hst]
          simp
        have HY2 := Lib.hid hy'
        have z0 := sz_le (x := y) (n := 40000) (by omega)
        have z1 := sz_le (x := x1) (n := 2000) (by omega)
        have z2 := sz_le (x := x2) (n := 2000) (by omega)
        have hl1 : x1.length ≤ 2000 := by omega
        have hl2 : x2.length ≤ 2000 := by omega
        have g1 : ¬ (9223372036854775807 < (ofL y).size + (ofL x1).size) := by omega
        have g2 : ¬ (9223372036854775807 < (ofL y).size + (ofL x1).size + 1) := by omega
        have g3 : ¬ (9223372036854775807 < (ofL y).size + (ofL x1).size + 1 + (ofL x2).size) := by omega
        have g4 : ¬ (9223372036854775807 < (ofL y).size + (ofL x1).size + 1 + (ofL x2).size + 1) := by omega
        clear hst hy' q1 q2 v1 v2 c1 c2 hx1 hx2
        go_wp2_with fail
        have HS := Lib.hid (show ∀ w', Ext wr w' → w'.cell? ⟨b, o + j * 6, none⟩ = some (.int .i64 k1) ∧ w'.cell? ⟨b, o + j * 6 + 1, none⟩ = some (.int .i64 n1) ∧ w'.cell? ⟨b, o + j * 6 + 2, none⟩ = some (.slice A1 kids1.length p1) ∧ w'.cell? ⟨b, o + j * 6 + 3, none⟩ = some (.int .i64 k2) ∧ w'.cell? ⟨b, o + j * 6 + 3 + 1, none⟩ = some (.int .i64 n2) ∧ w'.cell? ⟨b, o + j * 6 + 3 + 2, none⟩ = some (.slice A2 kids2.length p2) from fun w' hw' => ⟨hw'.cell d0, hw'.cell d1, hw'.cell d2, hw'.cell d3, hw'.cell d4, hw'.cell d5⟩)
        go_region_held3 (fun w' => w'.cell? ⟨b, o + j * 6, none⟩ = some (.int .i64 k1) ∧ w'.cell? ⟨b, o + j * 6 + 1, none⟩ = some (.int .i64 n1) ∧ w'.cell? ⟨b, o + j * 6 + 2, none⟩ = some (.slice A1 kids1.length p1) ∧ w'.cell? ⟨b, o + j * 6 + 3, none⟩ = some (.int .i64 k2) ∧ w'.cell? ⟨b, o + j * 6 + 3 + 1, none⟩ = some (.int .i64 n2) ∧ w'.cell? ⟨b, o + j * 6 + 3 + 2, none⟩ = some (.slice A2 kids2.length p2))
          (first | exact HS.out _ ((Ext.refl wr).drew.trans (e2.trans e3)) | exact HS.out _ ((Ext.refl wr).drew.trans e2) | exact HS.out _ (Ext.refl wr).drew)
          (first | (go_at_call 42; (with_reducible refine (HT1.out _ (Ext.refl wr).drew).mono ?_); rintro e w2 ⟨rfl, e2⟩) | (go_at_call 42; refine (HT2.out _ ((Ext.refl wr).drew.trans e2)).mono ?_; rintro e w3 ⟨rfl, e3⟩))
        clear d0 d1 d2 d3 d4 d5 HS
        go_wp2_with fail
        go_roundw
        case rel => exact ⟨j + 1, ((y ++ x1) ++ [61]) ++ x2 ++ [10], by omega, by go_num, by simp only [← ofL_append]; rfl, by simp; omega, HY2.out, hx.trans ((Ext.refl wr).drew.trans (e2.trans e3))⟩
        case measure => simp [intOf]; omega
      · have hyr : y = R := by
          rw [← HY.out, List.drop_of_length_le (by omega)]
          simp [fmtDs]
        have HYR := Lib.hid hyr
        clear hyr
        have hjn : j = n := by omega
        subst hjn
        go_wp2_with fail
        go_ret
        exact ⟨by rw [HYR.out]; rfl, hx⟩
end Go.Proofs.YtolkohncmidpeaaGreatDoor

/-
  Lemmas towards the law, 12: Sub1, Own.
-/
import Derived.Test.YtappakllopkfiaaKAG
import Derived.Test.YtappakllopkfiaaKAK
namespace Go.Proofs.Ytappakllopkfiaa
open Go.RowKit
set_option linter.unusedVariables false
def SbI (p1 p2 p3 B : Nat) (x ku nu : Int) (Au : Option Addr) (lu cu : Nat) (w : World) (s : Bool) : Prop := (p1 < B ∧ p2 < B ∧ p3 < B) ∧ w.heap[p1]? = some (.cells #[.int .i64 x] 3 (0, 0)) ∧ w.heap[p2]? = some (.cells #[.int .i64 ku, .int .i64 nu, .slice Au lu cu] 44 (0, 0)) ∧ w.heap[p3]? = some (.cells #[.bool s] 4 (0, 0))
set_option maxRecDepth 100000 in
theorem subst1 (a : World) (p1 p2 p3 B : Nat) (x ku nu : Int) (Au : Option Addr) (kus : List Tr) (cu : Nat) (hinu : Lies a (.mk ku nu kus) (.agg #[.int .i64 ku, .int .i64 nu, .slice Au kus.length cu])) (hvu : valid sigT (.mk ku nu kus) = true) (h13 : p1 ≠ p3) (h23 : p2 ≠ p3) (hx0 : 0 ≤ x) (hx1 : x ≤ 1000) :
    Chg_sb a p1 p2 p3 [p3] (SbI p1 p2 p3 B x ku nu Au kus.length cu) (gsb (.mk ku nu kus) x) (hsb (.mk ku nu kus) x) := by
  intro w s n b ha hI hn0 hn1 hb0 hb1
  obtain ⟨hpB, i1, i2, i3⟩ := hI
  have c1 := cell_of_blk i1 0
  obtain ⟨y0, y1, y2, -, -, -⟩ := own3 i2
  have c3 := cell_of_blk i3 0
  have l1 := lt_of_blk i1
  have l2 := lt_of_blk i2
  have l3 := lt_of_blk i3
  have H1 := Lib.hid i1
  have H2 := Lib.hid i2
  have H3 := Lib.hid i3
  have HV := Lib.hid (fun m W => variable_any m W)
  have HS := Lib.hid (fun W (hW : Ext w W) => shift_any (.mk ku nu kus) b 0 W _ (hinu.ext (ha.trans hW)) hvu hb0 hb1 (by omega) (by omega))
  have hg : gsb (.mk ku nu kus) x n b = if n - b = x then okT (shfT b (.mk ku nu kus) 0) else .mk 1 (if x < n - b then n - 1 else n) [] := rfl
  have hh : hsb (.mk ku nu kus) x n b = if n - b = x then valid sigT (shfT b (.mk ku nu kus) 0) else true := rfl
  rw [hg, hh]
  clear hg hh
  by_cases h : n - b = x
  · rw [if_pos h, if_pos h]
    have d1 : (n - b == x) = true := beq_iff_eq.2 h
    clear h HV
    generalize valid sigT (shfT b (.mk ku nu kus) 0) = vb at HS ⊢
    generalize okT (shfT b (.mk ku nu kus) 0) = rt at HS ⊢
    clear i1 i2 i3
    have hx := (Ext.refl w).alloc (.cells #[.int .i64 0, .int .i64 0, .slice none 0 0] 44)
    have hbR := heap_alloc_new w (.cells #[.int .i64 0, .int .i64 0, .slice none 0 0] 44)
    go_enter Try.func195, Try.ntmps195
    go_wp2_with fail
    refine (HS.out _ hx).mono ?_
    rintro e w1 ⟨u, rfl, hM, e1⟩
    obtain ⟨a1, a2, a3, a4, a5, rfl⟩ := hM.three'
    have q3 := (hx.trans e1).blk H3.out
    have g3 := cell_of_blk q3 0
    have f3 := frozen_of_blk q3 0
    have g4 := lt_of_blk q3
    have qR := e1.blk hbR
    obtain ⟨s0, s1, s2, f0, f1, f2⟩ := own3 qR
    have gR := lt_of_blk qR
    clear c1 c3 y0 y1 y2 HS
    cases s <;> cases vb
    all_goals go_wp2_with fail
    all_goals (
      have o2 := fun r => (((((Only.of_ext (L := [p3]) (hx.trans e1)).setCell (p := ⟨p3, 0, none⟩) (by simp) r).setNew (p := ⟨w.heap.size, 0, none⟩) (Nat.le_refl _) (.int .i64 a1)).setNew (p := ⟨w.heap.size, 1, none⟩) (Nat.le_refl _) (.int .i64 a2)).setNew (p := ⟨w.heap.size, 2, none⟩) (Nat.le_refl _) (.slice a3 a4 a5)).alloc (.cells #[.int .i64 a1, .int .i64 a2, .slice a3 a4 a5] 44)
      have hz : (w.alloc (.cells #[.int .i64 0, .int .i64 0, .slice none 0 0] 44)).heap.size = w.heap.size + 1 := by simp
      refine bodyPost_ret (v := .agg #[.int .i64 a1, .int .i64 a2, .slice a3 a4 a5]) (by simp [results, Try.results195, go_sem, s0, s1, s2, gR]) rfl ⟨_, rfl, ?_, o2 _, hpB, (o2 _).blk H1.out (by simpa using h13), (o2 _).blk H2.out (by simpa using h23), ?_⟩
      · exact ((hM.after ((((Above.refl _ _).setCell (p := ⟨p3, 0, none⟩) (by show p3 < _; omega) _).setCell (p := ⟨w.heap.size, 0, none⟩) (by show w.heap.size < _; omega) _).setCell (p := ⟨w.heap.size, 1, none⟩) (by show w.heap.size < _; omega) _ |>.setCell (p := ⟨w.heap.size, 2, none⟩) (by show w.heap.size < _; omega) _)).ext ((Ext.refl _).alloc _)).since (by omega)
      · rw [Below.heap_alloc _ _ _ (by simp; omega), Below.heap_setCell _ _ _ _ (by show p3 ≠ w.heap.size; omega), Below.heap_setCell _ _ _ _ (by show p3 ≠ w.heap.size; omega), Below.heap_setCell _ _ _ _ (by show p3 ≠ w.heap.size; omega), blk_setCell q3 0 _]
        rfl)
  · rw [if_neg h, if_neg h, Bool.and_true]
    have d1 : (n - b == x) = false := beq_eq_false_iff_ne.2 h
    clear HS h i1 i2 i3
    by_cases h2 : x < n - b
    · rw [if_pos h2]
      have d2 : decide (x < n - b) = true := decide_eq_true h2
      clear h2
      go_enter Try.func195, Try.ntmps195
      go_wp2_with fail
      refine (HV.out _ _).mono ?_
      rintro e w1 ⟨rfl, e1⟩
      have hb := e1.newBlk
      obtain ⟨s0, s1, s2, f0, f1, f2⟩ := own3 hb
      have o2 := ((Only.refl [p3] w).alloc (.cells #[.int .i64 0, .int .i64 0, .slice none 0 0] 44)).trans (Only.of_ext e1)
      have q4 := (Ext.blk e1.pre H3.out)
      clear hb
      go_wp2_with fail
      refine bodyPost_ret (v := .agg #[.int .i64 1, .int .i64 (n - 1), .slice none 0 0]) (by simp [results, Try.results195, go_sem, s0, s1, s2]) rfl ⟨_, rfl, Made.leaf _ _ _ _ _, ?_, hpB, ?_, ?_, ?_⟩
      · exact (((o2.setNew (by simp) _).setNew (by simp) _).setNew (by simp) _)
      · exact (((o2.setNew (by simp) _).setNew (by simp) _).setNew (by simp) _).blk H1.out (by simpa using h13)
      · exact (((o2.setNew (by simp) _).setNew (by simp) _).setNew (by simp) _).blk H2.out (by simpa using h23)
      · rw [Below.heap_setCell _ _ _ _ (by show p3 ≠ w.heap.size; omega), Below.heap_setCell _ _ _ _ (by show p3 ≠ w.heap.size; omega), Below.heap_setCell _ _ _ _ (by show p3 ≠ w.heap.size; omega), q4]
    · rw [if_neg h2]
      have d2 : decide (x < n - b) = false := decide_eq_false h2
      clear h2
      go_enter Try.func195, Try.ntmps195
      go_wp2_with fail
      refine (HV.out _ _).mono ?_
      rintro e w1 ⟨rfl, e1⟩
      have hb := e1.newBlk
      obtain ⟨s0, s1, s2, f0, f1, f2⟩ := own3 hb
      have o2 := ((Only.refl [p3] w).alloc (.cells #[.int .i64 0, .int .i64 0, .slice none 0 0] 44)).trans (Only.of_ext e1)
      have q4 := (Ext.blk e1.pre H3.out)
      clear hb
      go_wp2_with fail
      refine bodyPost_ret (v := .agg #[.int .i64 1, .int .i64 n, .slice none 0 0]) (by simp [results, Try.results195, go_sem, s0, s1, s2]) rfl ⟨_, rfl, Made.leaf _ _ _ _ _, ?_, hpB, ?_, ?_, ?_⟩
      · exact (((o2.setNew (by simp) _).setNew (by simp) _).setNew (by simp) _)
      · exact (((o2.setNew (by simp) _).setNew (by simp) _).setNew (by simp) _).blk H1.out (by simpa using h13)
      · exact (((o2.setNew (by simp) _).setNew (by simp) _).setNew (by simp) _).blk H2.out (by simpa using h23)
      · rw [Below.heap_setCell _ _ _ _ (by show p3 ≠ w.heap.size; omega), Below.heap_setCell _ _ _ _ (by show p3 ≠ w.heap.size; omega), Below.heap_setCell _ _ _ _ (by show p3 ≠ w.heap.size; omega), q4]
set_option maxRecDepth 100000 in
theorem subst_any (t : Tr) (x : Int) (u : Tr) (w : World) (v vu : Value) (hin : Lies w t v) (hv : valid sigT t = true) (hinu : Lies w u vu) (hvu : valid sigT u = true) (hx0 : 0 ≤ x) (hx1 : x ≤ 1000) :
    Calls Try.prog 169 #[v, .int .i64 x, vu] w fun e w' => ∃ r, e = .returned (.tuple #[r, .bool (valid sigT (sbsT u t x 0))]) ∧ Made w w' 44 (okT (sbsT u t x 0)) r ∧ Ext w w' := by
  obtain ⟨hs, hcn⟩ := valid_parts hv
  obtain ⟨hw1, hw2⟩ := subst_way (x := x) (valid_parts hvu).2 hv
  obtain ⟨vb, hvb⟩ : ∃ vb, vb = valid sigT (sbsT u t x 0) := ⟨_, rfl⟩
  obtain ⟨rt, hrt⟩ : ∃ rt, rt = okT (sbsT u t x 0) := ⟨_, rfl⟩
  rw [← hvb, ← hrt]
  have hrt2 : allT (hsb u x) t 0 = true → rt = okT (chgT (gsb u x) t 0) := fun h => by rw [hw2 h]; exact hrt
  have hrt3 : vb = false → rt = dflt0 := fun h => by rw [hrt]; unfold okT; rw [← hvb, h]; rfl
  have hcu := (valid_parts hvu).2
  obtain ⟨ku, nu, kus⟩ := u
  obtain ⟨Au, cu, rfl, hlu, hcu', -⟩ := Lies.mk_iff.1 hinu
  have hCH := fun W (hW : Ext w W) p1 p2 p3 (hp : w.heap.size ≤ p3) (h13 : p1 ≠ p3) (h23 : p2 ≠ p3) (h1 : W.heap[p1]? = some (.cells #[.int .i64 x] 3 (0, 0))) (h2 : W.heap[p2]? = some (.cells #[.int .i64 ku, .int .i64 nu, .slice Au kus.length cu] 44 (0, 0))) (h3 : W.heap[p3]? = some (.cells #[.bool true] 4 (0, 0))) =>
    changed_sb_any t w W v 0 30 p1 p2 p3 [p3] W.heap.size (SbI p1 p2 p3 W.heap.size x ku nu Au kus.length cu) (gsb (.mk ku nu kus) x) (hsb (.mk ku nu kus) x) true hs hin hW (fun x hx => by rw [List.mem_singleton.1 hx]; exact ⟨hp, lt_of_blk h3⟩) (by omega) (by omega)
      (subst1 w p1 p2 p3 _ x ku nu Au kus cu hinu hvu h13 h23 hx0 hx1) (fun w1 w2 s h he => ⟨h.1, he.blk h.2.1, he.blk h.2.2.1, he.blk h.2.2.2⟩) (Nat.le_refl _) (fun w1 w2 s h he hl => ⟨h.1, (he p1 h.1.1).trans h.2.1, (he p2 h.1.2.1).trans h.2.2.1, (he p3 h.1.2.2).trans h.2.2.2⟩) ⟨⟨lt_of_blk h1, lt_of_blk h2, lt_of_blk h3⟩, h1, h2, h3⟩
  simp only [Bool.true_and] at hCH
  rw [← hvb] at hw1
  have HCH := Lib.hid hCH
  clear hCH hw2 hs hrt hvb
  generalize chgT (gsb (.mk ku nu kus) x) t 0 = r at hw1 HCH hrt2
  generalize allT (hsb (.mk ku nu kus) x) t 0 = f at hw1 HCH hrt2
  obtain ⟨k, n, ks⟩ := t
  obtain ⟨A, cap, rfl, hl, hc, hK⟩ := Lies.mk_iff.1 hin
  have hE := ((((Ext.refl w).alloc (.cells #[.int .i64 k, .int .i64 n, .slice A ks.length cap] 44)).alloc (.cells #[.int .i64 x] 3)).alloc (.cells #[.int .i64 ku, .int .i64 nu, .slice Au kus.length cu] 44)).alloc (.cells #[.int .i64 0, .int .i64 0, .slice none 0 0] 44)
  have hbb := blk4 ((Ext.refl ((((w.alloc (.cells #[.int .i64 k, .int .i64 n, .slice A ks.length cap] 44)).alloc (.cells #[.int .i64 x] 3)).alloc (.cells #[.int .i64 ku, .int .i64 nu, .slice Au kus.length cu] 44)).alloc (.cells #[.int .i64 0, .int .i64 0, .slice none 0 0] 44))).alloc (.cells #[.bool true] 4))
  have hb5 := heap_alloc_new ((((w.alloc (.cells #[.int .i64 k, .int .i64 n, .slice A ks.length cap] 44)).alloc (.cells #[.int .i64 x] 3)).alloc (.cells #[.int .i64 ku, .int .i64 nu, .slice Au kus.length cu] 44)).alloc (.cells #[.int .i64 0, .int .i64 0, .slice none 0 0] 44)) (.cells #[.bool true] 4)
  have hE5 := hE.alloc (.cells #[.bool true] 4)
  have hsz : (((((w.alloc (.cells #[.int .i64 k, .int .i64 n, .slice A ks.length cap] 44)).alloc (.cells #[.int .i64 x] 3)).alloc (.cells #[.int .i64 ku, .int .i64 nu, .slice Au kus.length cu] 44)).alloc (.cells #[.int .i64 0, .int .i64 0, .slice none 0 0] 44)).alloc (.cells #[.bool true] 4)).heap.size = w.heap.size + 1 + 1 + 1 + 1 + 1 := by simp
  obtain ⟨hb1, hb2, hb3, hb4, -⟩ := hbb
  simp only [World.size_alloc] at hb5
  go_enter Try.func169, Try.ntmps169
  go_wp2_with fail
  generalize World.alloc _ _ = wa at hE5 hb1 hb2 hb3 hb4 hb5 hsz
  clear hE
  refine (HCH.out wa hE5 _ _ _ (by omega) (by omega) (by omega) hb2 hb3 hb5).mono ?_
  rintro e w1 ⟨u, rfl, hM, ho, hI⟩
  obtain ⟨k2, n2, ks2⟩ := r
  obtain ⟨A2, c2, rfl, hl2, hc2, hMK2⟩ := Made.mk_iff.1 hM
  have hb4' := ho.blk hb4 (by simp)
  have i3 := hI.2.2.2
  have hc5 := cell_of_blk i3 0
  have hlt5 := lt_of_blk i3
  have hlt4 := lt_of_blk hb4'
  have hso := ho.size
  have hEw : Ext w w1 := ho.ext hE5 (fun x hx => by rw [List.mem_singleton.1 hx]; omega)
  obtain ⟨s0, s1, s2, f0, f1, f2⟩ := own3 hb4'
  clear HCH hb1 hb2 hb3 hb4 hb5 hI i3
  have hx := (Ext.refl w1).alloc (.cells #[.int .i64 k2, .int .i64 n2, .slice A2 ks2.length c2] 44)
  cases f with
  | false =>
    rw [Bool.false_and] at hw1
    have H1 := Lib.hid hw1.symm
    have H2 := Lib.hid (hrt3 hw1.symm)
    clear hw1 hrt2 hrt3
    go_wp2_with fail
    refine bodyPost_ret (v := .tuple #[.agg #[.int .i64 0, .int .i64 0, .slice none 0 0], .bool false]) (by simp [results, Try.results169, go_sem, s0, s1, s2, hlt4]) rfl ⟨.agg #[.int .i64 0, .int .i64 0, .slice none 0 0], by rw [H1.out], by rw [H2.out]; exact Made.leaf _ _ _ _ _, ?_⟩
    exact (((hEw.setCell (by simp; omega) _).setCell (by simp; omega) _).setCell (by simp; omega) _).alloc _
  | true =>
    rw [Bool.true_and] at hw1
    have HV := Lib.hid (fun W (hW : Ext w1 W) => valid_any k2 n2 ks2 A2 c2 W (hM.lies.ext hW))
    generalize hok : valid sigT (.mk k2 n2 ks2) = b at HV
    have hO : rt = if b = true then .mk k2 n2 ks2 else dflt0 := by rw [hrt2 rfl]; unfold okT; rw [hok]
    rw [hok] at hw1
    have H1 := Lib.hid hw1.symm
    have H2 := Lib.hid hO
    clear hO hw1 hok hrt2 hrt3
    go_wp2_with fail
    refine (HV.out _ hx).mono ?_
    cases b with
    | true =>
      simp only [if_true]
      rintro e w2 ⟨rfl, e2⟩
      obtain ⟨q0, q1, q2, g0, g1, g2⟩ := own3 ((hx.trans e2).blk hb4')
      go_wp2_with fail
      refine bodyPost_ret (v := .tuple #[.agg #[.int .i64 k2, .int .i64 n2, .slice A2 ks2.length c2], .bool true]) (by simp [results, Try.results169, go_sem, q0, q1, q2]) rfl ⟨.agg #[.int .i64 k2, .int .i64 n2, .slice A2 ks2.length c2], by rw [H1.out], ?_, ?_⟩
      · rw [H2.out]
        simp only [if_true]
        exact Made.since (((hM.ext (hx.trans e2)).after ((((Above.refl _ _).setCell (by simp; omega) _).setCell (by simp; omega) _).setCell (by simp; omega) _))) (by omega)
      · exact (((((hEw.trans hx).trans e2).setCell (by simp; omega) _).setCell (by simp; omega) _).setCell (by simp; omega) _)
    | false =>
      simp only [Bool.false_eq_true, if_false]
      rintro e w2 ⟨rfl, e2⟩
      obtain ⟨q0, q1, q2, g0, g1, g2⟩ := own3 ((hx.trans e2).blk hb4')
      go_wp2_with fail
      refine bodyPost_ret (v := .tuple #[.agg #[.int .i64 0, .int .i64 0, .slice none 0 0], .bool false]) (by simp [results, Try.results169, go_sem, q0, q1, q2]) rfl ⟨.agg #[.int .i64 0, .int .i64 0, .slice none 0 0], by rw [H1.out], by rw [H2.out]; exact Made.leaf _ _ _ _ _, ?_⟩
      exact (((((hEw.trans hx).trans e2).setCell (by simp; omega) _).setCell (by simp; omega) _).setCell (by simp; omega) _)
end Go.Proofs.Ytappakllopkfiaa
namespace Go.Proofs.Ytappakllopkfiaa
open Go.RowKit
set_option linter.unusedVariables false
attribute [local go_sem ↓] Go.wp_at_zero Go.wp_at_succ
def ownC (t : Tr) : Prop := ∀ (w : World) (v : Value), Lies w t v → cnt t ≤ 1000000 →
  Calls Try.prog 150 #[v] w fun e w' => ∃ u, e = .returned u ∧ Made w w' 44 t u ∧ Ext w w'
theorem infoOTerm : (Try.prog.info? 44).map (fun i => (i.zero, i.size, i.bytes)) = some (some (.agg #[.int .i64 0, .int .i64 0, .slice none 0 0]), 3, 40) := by kernel_rfl
set_option maxRecDepth 100000 in
set_option maxHeartbeats 2000000 in
theorem own_any : ∀ t : Tr, ownC t := Tr.ind fun k n ks hk => by
  intro w v hin hcnt
  obtain ⟨A, cap, rfl, hl, hc, hK⟩ := Lies.mk_iff.1 hin
  obtain ⟨i0, hi, hz0, hz1, hz2⟩ := info_parts infoOTerm
  have hcc := hc
  unfold maxLen at hcc
  simp only [cnt] at hcnt
  have hlc := len_le_cnts ks
  go_enter Try.func150, Try.ntmps150
  go_wp2_with fail
  obtain ⟨w1, hw1⟩ : ∃ w1, w1 = (w.alloc (.cells #[.int .i64 k, .int .i64 n, .slice A ks.length cap] 44)).alloc (.cells #[.int .i64 0, .int .i64 0, .slice none 0 0] 44) := ⟨_, rfl⟩
  obtain ⟨W, hW⟩ : ∃ W, W = w1.alloc (.cells #[.int .i64 k, .int .i64 n, .slice none 0 0] 44) := ⟨_, rfl⟩
  have hs1 : w1.heap.size = w.heap.size + 1 + 1 := by rw [hw1]; simp
  have hsW : W.heap.size = w.heap.size + 3 := by rw [hW]; simp; omega
  have hE1 : Ext w w1 := hw1 ▸ ((Ext.refl w).alloc _).alloc _
  have hEW : Ext w1 W := hW ▸ (Ext.refl w1).alloc _
  have hbR : w1.heap[w.heap.size + 1]? = some (.cells #[.int .i64 0, .int .i64 0, .slice none 0 0] 44 (0, 0)) := by
    rw [hw1]; exact (blk2 (Ext.refl _)).2.1
  have hbO : W.heap[w.heap.size + 1 + 1]? = some (.cells #[.int .i64 k, .int .i64 n, .slice none 0 0] 44 (0, 0)) := by
    have := heap_alloc_new w1 (.cells #[.int .i64 k, .int .i64 n, .slice none 0 0] 44)
    rw [hs1] at this
    rw [hW]
    exact this
  rw [← hw1, ← hW]
  clear hW hw1
  go_loopw [14] (fun i wr => ∃ (j : Nat) (v : Value), j ≤ ks.length ∧ i = .int .i64 j ∧ wr.heap[w.heap.size + 1 + 1]? = some (.cells #[.int .i64 k, .int .i64 n, v] 44 (0, 0)) ∧ Grow W wr 44 v (ks.take j) ∧ Ext w1 wr ∧ W.heap.size ≤ wr.heap.size) (fun i _ => ks.length - (intOf i).toNat)
  case atStart => exact ⟨0, _, Nat.zero_le _, rfl, hbO, Grow.nil _ _ _, hEW, Nat.le_refl _⟩
  case round =>
    obtain ⟨j, v, hj, rfl, hbv, hG, he, hle⟩ := hrel
    by_cases hlt : j < ks.length
    · obtain ⟨b, o, k', n', A', cap', kids, rfl, HK, c0, c1, c2, hkl, hkc, hK', hin', hmem⟩ := hK.get (hE1.trans he) hlt
      have htk := List.take_append_getElem hlt
      rw [HK.out] at htk
      have hcm := cnt_mem hmem
      have hlen : (ks.take j).length < 1099511627776 := by rw [List.length_take]; omega
      have hlj : (ks.take j).length = j := by rw [List.length_take]; omega
      have HL := Lib.hid hlj
      go_wp2_with fail
      have hx := (Ext.refl wr).alloc (.cells #[.int .i64 k', .int .i64 n', .slice A' kids.length cap'] 44)
      have hb5 := heap_alloc_new wr (.cells #[.int .i64 k', .int .i64 n', .slice A' kids.length cap'] 44)
      generalize wr.alloc _ = w2 at hx hb5
      have hle2 : W.heap.size ≤ w2.heap.size := by have := hx.size; omega
      have hG2 := hG.ext hx
      have hbv2 := hx.blk hbv
      have hv := cell_of_blk hbv2 2
      have hcells : ∀ w', Below W.heap.size w2 w' → w'.heap[w.heap.size + 1 + 1]? = some (.cells #[.int .i64 k, .int .i64 n, v] 44 (0, 0)) := fun w' hB => (hB.block (w.heap.size + 1 + 1) (by omega)).trans hbv2
      have HCells := Lib.hid hcells
      obtain ⟨d0, d1, d2, -, -, -⟩ := own3 hb5
      have hEd : Ext w2 w2.drew := (Ext.refl w2).drew
      have hinD := (hin'.ext hx).ext hEd
      have he2 := he.trans hx
      clear hcells hlj c0 c1 c2 hbv hG he hle hcc
      go_region_law (first | (go_simp; go_at_call 150; refine (hk _ hmem _ _ hinD (by omega)).mono ?_; rintro e w4 ⟨u, rfl, hM, h4⟩; obtain ⟨a1, a2, a3, a4, a5, rfl⟩ := hM.three'; have hv4 := cell_of_blk (HCells.out _ ((hEd.trans h4).below hle2)) 2; have hs4 := World.block_lt_of_cell? _ _ hv4) | (refine step_append_tree _ (by rfl) (.tmp 19) (.tmp 22) _ (by rfl) 44 i0 _ Try.underlying42 hi hz0 hz1 hz2 rfl (by rfl) hG2 hle2 (hEd.trans h4) (hM.since (Nat.le_refl _)) ((Ext.refl _).alloc _) (by rfl) (heap_alloc_new _ _) hlen ?_; intro v' w5 hG5 hB5; obtain ⟨B5, c5, rfl, q1, q2, -⟩ := hG5.made; have hv5 := cell_of_blk (HCells.out _ hB5) 2; have hf5 := frozen_of_blk (HCells.out _ hB5) 2))
      all_goals (
        have hE5 : Ext w1 w5 := he2.trans' hB5 (by omega)
        have hs5 := hB5.size
        have hb6 := HCells.out _ hB5
        rw [List.length_append, List.length_singleton, htk, show (ks.take j).length + 1 = min (j + 1) ks.length from by rw [List.length_take]; omega] at hG5
        have hGs := fun u => hG5.after ((Above.refl W.heap.size w5).setCell (p := ⟨w.heap.size + 1 + 1, 2, none⟩) (by show w.heap.size + 1 + 1 < W.heap.size; omega) u)
        clear hv4 hs4 hv HCells hM h4 d0 d1 d2 hb5
        go_wp2_with fail
        go_roundw
        case rel => exact ⟨j + 1, _, by omega, by go_num, blk_setCell hb6 2 _, hGs _, hE5.setCell (by show _ ≤ w.heap.size + 1 + 1; omega) _, by simp; omega⟩
        case measure => simp [intOf]; omega)
    · obtain ⟨B5, c5, rfl, q1, q2, hMK⟩ := hG.made
      have hjl : j = ks.length := by omega
      have hln : (ks.take j).length = ks.length := by rw [hjl, List.take_length]
      obtain ⟨r0, r1, r2, -, -, -⟩ := own3 hbv
      have hbR' := he.blk hbR
      obtain ⟨s0, s1, s2, f0, f1, f2⟩ := own3 hbR'
      rw [hln] at q1 r2
      rw [show ks.take j = ks from by rw [hjl, List.take_length]] at hMK
      clear hln hbv
      go_wp2_with fail
      refine bodyPost_ret (v := .agg #[.int .i64 k, .int .i64 n, .slice B5 ks.length c5]) (by simp [results, Try.results150, go_sem, s0, s1, s2]) rfl ⟨_, rfl, ?_, ?_⟩
      · exact Made.since (Made.after (Made.mk q1 q2 hMK) ((((Above.refl _ _).setCell (by show w.heap.size + 1 < _; omega) _).setCell (by show w.heap.size + 1 < _; omega) _).setCell (by show w.heap.size + 1 < _; omega) _)) (by omega)
      · exact ((((hE1.trans he).setCell (by simp) _).setCell (by simp) _).setCell (by simp) _)
end Go.Proofs.Ytappakllopkfiaa

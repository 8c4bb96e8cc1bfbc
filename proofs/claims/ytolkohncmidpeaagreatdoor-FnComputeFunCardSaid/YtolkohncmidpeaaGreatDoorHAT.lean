/-
  Lemmas towards the law, 20: Shf.
-/
import Derived.Test.YtolkohncmidpeaaGreatDoorHAE
import Derived.Test.YtolkohncmidpeaaGreatDoorHAQ
import Derived.Test.YtolkohncmidpeaaGreatDoorHAS
namespace Go.Proofs.YtolkohncmidpeaaGreatDoor
open Go.RowKit
set_option linter.unusedVariables false
theorem Only.blk {L : List Nat} {a w : World} {g : Nat} {o : Obj} (h : Only L a w) (hb : a.heap[g]? = some o) (hn : ¬ g ∈ L) : w.heap[g]? = some o := (h.block g (lt_of_blk hb) hn).trans hb
theorem variable_any (n : Int) (w : World) : Calls Tryz.prog 201 #[.int .i64 n] w fun e w' => e = .returned (.agg #[.int .i64 1, .int .i64 n, .slice none 0 0]) ∧ Ext w w' := by
  go_enter Tryz.func201, Tryz.ntmps201
  go_wp2_with fail
  exact bodyPost_ret (v := .agg #[.int .i64 1, .int .i64 n, .slice none 0 0]) (by simp [results, Tryz.results201, go_sem]) rfl ⟨rfl, (Ext.refl w).alloc _⟩
theorem valid_any (k n : Int) (ks : List Tr) (A : Option Addr) (cap : Nat) (w : World) (hin : Lies w (.mk k n ks) (.agg #[.int .i64 k, .int .i64 n, .slice A ks.length cap])) :
    Calls Tryz.prog 68 #[.agg #[.int .i64 k, .int .i64 n, .slice A ks.length cap]] w fun e w' => (if valid sigT (.mk k n ks) = true then e = .returned (.tuple #[.agg #[.int .i64 k, .int .i64 n, .slice A ks.length cap], .bool true]) else e = .returned (.tuple #[.agg #[.int .i64 0, .int .i64 0, .slice none 0 0], .bool false])) ∧ Ext w w' := by
  have HV := Lib.hid (fun W (hW : Ext w W) => validTerm_any _ W _ (hin.ext hW))
  generalize valid sigT (.mk k n ks) = s at HV ⊢
  have hE := ((Ext.refl w).alloc (.cells #[.int .i64 k, .int .i64 n, .slice A ks.length cap] 45)).alloc (.cells #[.int .i64 0, .int .i64 0, .slice none 0 0] 45)
  obtain ⟨hbT, hbR, hs1⟩ := blk2 (Ext.refl ((w.alloc (.cells #[.int .i64 k, .int .i64 n, .slice A ks.length cap] 45)).alloc (.cells #[.int .i64 0, .int .i64 0, .slice none 0 0] 45)))
  cases s with
  | true =>
    simp only [if_true]
    go_enter Tryz.func68, Tryz.ntmps68
    go_wp2_with fail
    refine (HV.out _ hE).mono ?_
    rintro e w1 ⟨rfl, e1⟩
    obtain ⟨x0, x1, x2, -, -, -⟩ := own3 (e1.blk hbT)
    obtain ⟨s0, s1, s2, f0, f1, f2⟩ := own3 (e1.blk hbR)
    go_wp2_with fail
    exact bodyPost_ret (v := .tuple #[.agg #[.int .i64 k, .int .i64 n, .slice A ks.length cap], .bool true]) (by simp [results, Tryz.results68, go_sem, s0, s1, s2]) rfl ⟨rfl, ((((hE.trans e1).setCell (by simp) _).setCell (by simp) _).setCell (by simp) _)⟩
  | false =>
    simp only [Bool.false_eq_true, if_false]
    go_enter Tryz.func68, Tryz.ntmps68
    go_wp2_with fail
    refine (HV.out _ hE).mono ?_
    rintro e w1 ⟨rfl, e1⟩
    obtain ⟨s0, s1, s2, f0, f1, f2⟩ := own3 (e1.blk hbR)
    go_wp2_with fail
    exact bodyPost_ret (v := .tuple #[.agg #[.int .i64 0, .int .i64 0, .slice none 0 0], .bool false]) (by simp [results, Tryz.results68, go_sem, s0, s1, s2]) rfl ⟨rfl, ((((hE.trans e1).setCell (by simp) _).setCell (by simp) _).setCell (by simp) _)⟩
def ShI (p1 p2 p3 B : Nat) (c y : Int) (w : World) (s : Bool) : Prop := (p1 < B ∧ p2 < B ∧ p3 < B) ∧ w.heap[p1]? = some (.cells #[.int .i64 c] 3 (0, 0)) ∧ w.heap[p2]? = some (.cells #[.int .i64 y] 3 (0, 0)) ∧ w.heap[p3]? = some (.cells #[.bool s] 4 (0, 0))
theorem shift1 (a : World) (p1 p2 p3 B : Nat) (c y : Int) (h13 : p1 ≠ p3) (h23 : p2 ≠ p3) (hy0 : 0 ≤ y) (hy1 : y ≤ 1000) (hc0 : 0 ≤ c) (hc1 : c ≤ 1000) : Chg_sh a p1 p2 p3 [p3] (ShI p1 p2 p3 B c y) (gsh y c) (hsh y c) := by
  intro w s n b ha hI hn0 hn1 hb0 hb1
  obtain ⟨hpB, i1, i2, i3⟩ := hI
  have c1 := cell_of_blk i1 0
  have c2 := cell_of_blk i2 0
  have c3 := cell_of_blk i3 0
  have f3 := frozen_of_blk i3 0
  have l1 := lt_of_blk i1
  have l2 := lt_of_blk i2
  have l3 := lt_of_blk i3
  have H1 := Lib.hid i1
  have H2 := Lib.hid i2
  have H3 := Lib.hid i3
  clear i1 i2 i3
  have HV := Lib.hid (fun m W => variable_any m W)
  by_cases h : c ≤ n - b
  · have d1 : decide (c ≤ n - b) = true := decide_eq_true h
    obtain ⟨b2, d2⟩ : ∃ x, decide (c ≤ n + y - b) = x := ⟨_, rfl⟩
    obtain ⟨b3, d3⟩ : ∃ x, decide (n + y ≤ 20) = x := ⟨_, rfl⟩
    have e1 : gsh y c n b = .mk 1 (n + y) [] := by unfold gsh; rw [if_pos h]
    have e2 : hsh y c n b = (b2 && b3) := by unfold hsh; rw [if_pos h, d2, d3]
    rw [e1, e2]
    clear e1 e2 h
    cases s <;> cases b2 <;> cases b3
    all_goals go_enter Tryz.func200, Tryz.ntmps200
    all_goals go_wp2_with fail
    all_goals (
      refine (HV.out _ _).mono ?_
      rintro e w1 ⟨rfl, e1⟩
      have hb := e1.newBlk
      simp only [World.size_setCell] at hb
      obtain ⟨s0, s1, s2, f0, f1, f2⟩ := own3 hb
      have o1 := fun u => (((Only.refl [p3] w).setCell (p := ⟨p3, 0, none⟩) (by simp) u).alloc (.cells #[.int .i64 0, .int .i64 0, .slice none 0 0] 45))
      have o2 := (o1 _).trans (Only.of_ext e1)
      have q3 := fun u => blk_setCell H3.out 0 u
      have q4 := e1.blk ((Below.heap_alloc _ _ _ (by simp; omega)).trans (q3 _))
      clear hb
      go_wp2_with fail
      refine bodyPost_ret (v := .agg #[.int .i64 1, .int .i64 (n + y), .slice none 0 0]) (by simp [results, Tryz.results200, go_sem, s0, s1, s2]) rfl ⟨_, rfl, Made.leaf _ _ _ _ _, ?_, hpB, ?_, ?_, ?_⟩
      · exact (((o2.setNew (by simp) _).setNew (by simp) _).setNew (by simp) _)
      · exact (((o2.setNew (by simp) _).setNew (by simp) _).setNew (by simp) _).blk H1.out (by simpa using h13)
      · exact (((o2.setNew (by simp) _).setNew (by simp) _).setNew (by simp) _).blk H2.out (by simpa using h23)
      · rw [Below.heap_setCell _ _ _ _ (by show p3 ≠ w.heap.size; omega), Below.heap_setCell _ _ _ _ (by show p3 ≠ w.heap.size; omega), Below.heap_setCell _ _ _ _ (by show p3 ≠ w.heap.size; omega), q4]
        rfl)
  · have d1 : decide (c ≤ n - b) = false := decide_eq_false h
    have e1 : gsh y c n b = .mk 1 n [] := by unfold gsh; rw [if_neg h]
    have e2 : hsh y c n b = true := by unfold hsh; rw [if_neg h]
    rw [e1, e2, Bool.and_true]
    clear e1 e2 h
    go_enter Tryz.func200, Tryz.ntmps200
    go_wp2_with fail
    refine (HV.out _ _).mono ?_
    rintro e w1 ⟨rfl, e1⟩
    have hb := e1.newBlk
    obtain ⟨s0, s1, s2, f0, f1, f2⟩ := own3 hb
    have o2 := ((Only.refl [p3] w).alloc (.cells #[.int .i64 0, .int .i64 0, .slice none 0 0] 45)).trans (Only.of_ext e1)
    have q4 := (Ext.blk e1.pre H3.out)
    clear hb
    go_wp2_with fail
    refine bodyPost_ret (v := .agg #[.int .i64 1, .int .i64 n, .slice none 0 0]) (by simp [results, Tryz.results200, go_sem, s0, s1, s2]) rfl ⟨_, rfl, Made.leaf _ _ _ _ _, ?_, hpB, ?_, ?_, ?_⟩
    · exact (((o2.setNew (by simp) _).setNew (by simp) _).setNew (by simp) _)
    · exact (((o2.setNew (by simp) _).setNew (by simp) _).setNew (by simp) _).blk H1.out (by simpa using h13)
    · exact (((o2.setNew (by simp) _).setNew (by simp) _).setNew (by simp) _).blk H2.out (by simpa using h23)
    · rw [Below.heap_setCell _ _ _ _ (by show p3 ≠ w.heap.size; omega), Below.heap_setCell _ _ _ _ (by show p3 ≠ w.heap.size; omega), Below.heap_setCell _ _ _ _ (by show p3 ≠ w.heap.size; omega), q4]
/-- What a checked tree is, if valid: the zero term else. -/
def okT (t : Tr) : Tr := if valid sigT t = true then t else dflt0
set_option maxRecDepth 100000 in
theorem shift_any (t : Tr) (y c : Int) (w : World) (v : Value) (hin : Lies w t v) (hv : valid sigT t = true) (hy0 : 0 ≤ y) (hy1 : y ≤ 1000) (hc0 : 0 ≤ c) (hc1 : c ≤ 1000) :
    Calls Tryz.prog 172 #[v, .int .i64 y, .int .i64 c] w fun e w' => ∃ u, e = .returned (.tuple #[u, .bool (valid sigT (shfT y t c))]) ∧ Made w w' 45 (okT (shfT y t c)) u ∧ Ext w w' := by
  obtain ⟨hs, hcn⟩ := valid_parts hv
  obtain ⟨hw1, hw2⟩ := shift_way (c := c) hy0 hv
  have hCH := fun W (hW : Ext w W) p1 p2 p3 (hp : w.heap.size ≤ p3) (h13 : p1 ≠ p3) (h23 : p2 ≠ p3) (h1 : W.heap[p1]? = some (.cells #[.int .i64 c] 3 (0, 0))) (h2 : W.heap[p2]? = some (.cells #[.int .i64 y] 3 (0, 0))) (h3 : W.heap[p3]? = some (.cells #[.bool true] 4 (0, 0))) =>
    changed_sh_any t w W v 0 30 p1 p2 p3 [p3] W.heap.size (ShI p1 p2 p3 W.heap.size c y) (gsh y c) (hsh y c) true hs hin hW (fun x hx => by rw [List.mem_singleton.1 hx]; exact ⟨hp, lt_of_blk h3⟩) (by omega) (by omega)
      (shift1 w p1 p2 p3 _ c y h13 h23 hy0 hy1 hc0 hc1) (fun w1 w2 s h he => ⟨h.1, he.blk h.2.1, he.blk h.2.2.1, he.blk h.2.2.2⟩) (Nat.le_refl _) (fun w1 w2 s h he hl => ⟨h.1, (he p1 h.1.1).trans h.2.1, (he p2 h.1.2.1).trans h.2.2.1, (he p3 h.1.2.2).trans h.2.2.2⟩) ⟨⟨lt_of_blk h1, lt_of_blk h2, lt_of_blk h3⟩, h1, h2, h3⟩
  rw [hw2] at hw1
  simp only [hw2, Bool.true_and] at hCH
  have HCH := Lib.hid hCH
  clear hCH hw2 hs
  obtain ⟨vb, hvb⟩ : ∃ vb, vb = valid sigT (shfT y t c) := ⟨_, rfl⟩
  obtain ⟨rt, hrt⟩ : ∃ rt, rt = okT (shfT y t c) := ⟨_, rfl⟩
  rw [← hvb, ← hrt]
  generalize shfT y t c = r at hw1 HCH hvb hrt
  generalize allT (hsh y c) t 0 = f at hw1 HCH
  obtain ⟨k, n, ks⟩ := t
  obtain ⟨A, cap, rfl, hl, hc, hK⟩ := Lies.mk_iff.1 hin
  have hE := ((((Ext.refl w).alloc (.cells #[.int .i64 k, .int .i64 n, .slice A ks.length cap] 45)).alloc (.cells #[.int .i64 y] 3)).alloc (.cells #[.int .i64 c] 3)).alloc (.cells #[.int .i64 0, .int .i64 0, .slice none 0 0] 45)
  have hbb := blk4 ((Ext.refl ((((w.alloc (.cells #[.int .i64 k, .int .i64 n, .slice A ks.length cap] 45)).alloc (.cells #[.int .i64 y] 3)).alloc (.cells #[.int .i64 c] 3)).alloc (.cells #[.int .i64 0, .int .i64 0, .slice none 0 0] 45))).alloc (.cells #[.bool true] 4))
  have hb5 := heap_alloc_new ((((w.alloc (.cells #[.int .i64 k, .int .i64 n, .slice A ks.length cap] 45)).alloc (.cells #[.int .i64 y] 3)).alloc (.cells #[.int .i64 c] 3)).alloc (.cells #[.int .i64 0, .int .i64 0, .slice none 0 0] 45)) (.cells #[.bool true] 4)
  have hE5 := hE.alloc (.cells #[.bool true] 4)
  have hsz : (((((w.alloc (.cells #[.int .i64 k, .int .i64 n, .slice A ks.length cap] 45)).alloc (.cells #[.int .i64 y] 3)).alloc (.cells #[.int .i64 c] 3)).alloc (.cells #[.int .i64 0, .int .i64 0, .slice none 0 0] 45)).alloc (.cells #[.bool true] 4)).heap.size = w.heap.size + 1 + 1 + 1 + 1 + 1 := by simp
  obtain ⟨hb1, hb2, hb3, hb4, -⟩ := hbb
  simp only [World.size_alloc] at hb5
  go_enter Tryz.func172, Tryz.ntmps172
  go_wp2_with fail
  generalize World.alloc _ _ = wa at hE5 hb1 hb2 hb3 hb4 hb5 hsz
  clear hE
  refine (HCH.out wa hE5 _ _ _ (by omega) (by omega) (by omega) hb3 hb2 hb5).mono ?_
  rintro e w1 ⟨u, rfl, hM, ho, hI⟩
  obtain ⟨k2, n2, ks2⟩ := r
  obtain ⟨A2, c2, rfl, hl2, hc2, hMK2⟩ := Made.mk_iff.1 hM
  have hb4' := ho.blk hb4 (by simp)
  have i3 := hI.2.2.2
  have hc5 := cell_of_blk i3 0
  have hlt5 := lt_of_blk i3
  have hlt4 := lt_of_blk hb4'
  have hso := ho.size
  have hEw : Ext w w1 := ho.ext hE5 (fun x hx => by rw [List.mem_singleton.1 hx]; omega)
  obtain ⟨s0, s1, s2, f0, f1, f2⟩ := own3 hb4'
  clear HCH hb1 hb2 hb3 hb4 hb5 hI i3
  have hx := (Ext.refl w1).alloc (.cells #[.int .i64 k2, .int .i64 n2, .slice A2 ks2.length c2] 45)
  cases f with
  | false =>
    rw [Bool.false_and] at hw1
    have h1 : vb = false := by rw [hvb, ← hw1]
    have h2 : rt = dflt0 := by rw [hrt]; unfold okT; rw [← hw1]; rfl
    have H1 := Lib.hid h1
    have H2 := Lib.hid h2
    clear hw1 hvb hrt h1 h2
    go_wp2_with fail
    refine bodyPost_ret (v := .tuple #[.agg #[.int .i64 0, .int .i64 0, .slice none 0 0], .bool false]) (by simp [results, Tryz.results172, go_sem, s0, s1, s2, hlt4]) rfl ⟨.agg #[.int .i64 0, .int .i64 0, .slice none 0 0], by rw [H1.out], by rw [H2.out]; exact Made.leaf _ _ _ _ _, ?_⟩
    exact (((hEw.setCell (by simp; omega) _).setCell (by simp; omega) _).setCell (by simp; omega) _).alloc _
  | true =>
    rw [Bool.true_and] at hw1
    have HV := Lib.hid (fun W (hW : Ext w1 W) => valid_any k2 n2 ks2 A2 c2 W (hM.lies.ext hW))
    generalize hok : valid sigT (.mk k2 n2 ks2) = b at HV
    have hO : rt = if b = true then .mk k2 n2 ks2 else dflt0 := by rw [hrt]; unfold okT; rw [hok]
    rw [hok] at hvb
    have H1 := Lib.hid hvb
    have H2 := Lib.hid hO
    clear hO hw1 hok hrt hvb
    go_wp2_with fail
    refine (HV.out _ hx).mono ?_
    cases b with
    | true =>
      simp only [if_true]
      rintro e w2 ⟨rfl, e2⟩
      obtain ⟨q0, q1, q2, g0, g1, g2⟩ := own3 ((hx.trans e2).blk hb4')
      go_wp2_with fail
      refine bodyPost_ret (v := .tuple #[.agg #[.int .i64 k2, .int .i64 n2, .slice A2 ks2.length c2], .bool true]) (by simp [results, Tryz.results172, go_sem, q0, q1, q2]) rfl ⟨.agg #[.int .i64 k2, .int .i64 n2, .slice A2 ks2.length c2], by rw [H1.out], ?_, ?_⟩
      · rw [H2.out]
        simp only [if_true]
        exact Made.since (((hM.ext (hx.trans e2)).after ((((Above.refl _ _).setCell (by simp; omega) _).setCell (by simp; omega) _).setCell (by simp; omega) _))) (by omega)
      · exact (((((hEw.trans hx).trans e2).setCell (by simp; omega) _).setCell (by simp; omega) _).setCell (by simp; omega) _)
    | false =>
      simp only [Bool.false_eq_true, if_false]
      rintro e w2 ⟨rfl, e2⟩
      obtain ⟨q0, q1, q2, g0, g1, g2⟩ := own3 ((hx.trans e2).blk hb4')
      go_wp2_with fail
      refine bodyPost_ret (v := .tuple #[.agg #[.int .i64 0, .int .i64 0, .slice none 0 0], .bool false]) (by simp [results, Tryz.results172, go_sem, q0, q1, q2]) rfl ⟨.agg #[.int .i64 0, .int .i64 0, .slice none 0 0], by rw [H1.out], by rw [H2.out]; exact Made.leaf _ _ _ _ _, ?_⟩
      exact (((((hEw.trans hx).trans e2).setCell (by simp; omega) _).setCell (by simp; omega) _).setCell (by simp; omega) _)
end Go.Proofs.YtolkohncmidpeaaGreatDoor

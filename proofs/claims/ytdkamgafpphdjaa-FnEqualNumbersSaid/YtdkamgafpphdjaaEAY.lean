/-
  Lemmas towards the law, 25: Sub1, Places2, Walked, Places3, Walked2.
-/
import Derived.Test.YtdkamgafpphdjaaEAX
namespace Go.Proofs.Ytdkamgafpphdjaa
open Go.RowKit
set_option linter.unusedVariables false
def SbI (p1 p2 p3 B : Nat) (x ku nu : Int) (Au : Option Addr) (lu cu : Nat) (w : World) (s : Bool) : Prop := (p1 < B ∧ p2 < B ∧ p3 < B) ∧ w.heap[p1]? = some (.cells #[.int .i64 x] 3 (0, 0)) ∧ w.heap[p2]? = some (.cells #[.int .i64 ku, .int .i64 nu, .slice Au lu cu] 27 (0, 0)) ∧ w.heap[p3]? = some (.cells #[.bool s] 4 (0, 0))
set_option maxRecDepth 100000 in
theorem subst1 (a : World) (p1 p2 p3 B : Nat) (x ku nu : Int) (Au : Option Addr) (kus : List Tr) (cu : Nat) (hinu : Lies a (.mk ku nu kus) (.agg #[.int .i64 ku, .int .i64 nu, .slice Au kus.length cu])) (hvu : valid sigT (.mk ku nu kus) = true) (h13 : p1 ≠ p3) (h23 : p2 ≠ p3) (hx0 : 0 ≤ x) (hx1 : x ≤ 1000) :
    Chg_sb a p1 p2 p3 [p3] (SbI p1 p2 p3 B x ku nu Au kus.length cu) (gsb (.mk ku nu kus) x) (hsb (.mk ku nu kus) x) := by
  intro w s n b ha hI hn0 hn1 hb0 hb1
  obtain ⟨hpB, i1, i2, i3⟩ := hI
  have c1 := cell_of_blk i1 0
  obtain ⟨y0, y1, y2, -, -, -⟩ := own3 i2
  have c3 := cell_of_blk i3 0
  have l1 := lt_of_blk i1
  have l2 := lt_of_blk i2
  have l3 := lt_of_blk i3
  have H1 := Lib.hid i1
  have H2 := Lib.hid i2
  have H3 := Lib.hid i3
  have HV := Lib.hid (fun m W => variable_any m W)
  have HS := Lib.hid (fun W (hW : Ext w W) => shift_any (.mk ku nu kus) b 0 W _ (hinu.ext (ha.trans hW)) hvu hb0 hb1 (by omega) (by omega))
  have hg : gsb (.mk ku nu kus) x n b = if n - b = x then okT (shfT b (.mk ku nu kus) 0) else .mk 1 (if x < n - b then n - 1 else n) [] := rfl
  have hh : hsb (.mk ku nu kus) x n b = if n - b = x then valid sigT (shfT b (.mk ku nu kus) 0) else true := rfl
  rw [hg, hh]
  clear hg hh
  by_cases h : n - b = x
  · rw [if_pos h, if_pos h]
    have d1 : (n - b == x) = true := beq_iff_eq.2 h
    clear h HV
    generalize valid sigT (shfT b (.mk ku nu kus) 0) = vb at HS ⊢
    generalize okT (shfT b (.mk ku nu kus) 0) = rt at HS ⊢
    clear i1 i2 i3
    have hx := (Ext.refl w).alloc (.cells #[.int .i64 0, .int .i64 0, .slice none 0 0] 27)
    have hbR := heap_alloc_new w (.cells #[.int .i64 0, .int .i64 0, .slice none 0 0] 27)
    go_enter Try.func69, Try.ntmps69
    go_wp2_with fail
    refine (HS.out _ hx).mono ?_
    rintro e w1 ⟨u, rfl, hM, e1⟩
    obtain ⟨a1, a2, a3, a4, a5, rfl⟩ := hM.three'
    have q3 := (hx.trans e1).blk H3.out
    have g3 := cell_of_blk q3 0
    have f3 := frozen_of_blk q3 0
    have g4 := lt_of_blk q3
    have qR := e1.blk hbR
    obtain ⟨s0, s1, s2, f0, f1, f2⟩ := own3 qR
    have gR := lt_of_blk qR
    clear c1 c3 y0 y1 y2 HS
    cases s <;> cases vb
    all_goals go_wp2_with fail
    all_goals (
      have o2 := fun r => (((((Only.of_ext (L := [p3]) (hx.trans e1)).setCell (p := ⟨p3, 0, none⟩) (by simp) r).setNew (p := ⟨w.heap.size, 0, none⟩) (Nat.le_refl _) (.int .i64 a1)).setNew (p := ⟨w.heap.size, 1, none⟩) (Nat.le_refl _) (.int .i64 a2)).setNew (p := ⟨w.heap.size, 2, none⟩) (Nat.le_refl _) (.slice a3 a4 a5)).alloc (.cells #[.int .i64 a1, .int .i64 a2, .slice a3 a4 a5] 27)
      have hz : (w.alloc (.cells #[.int .i64 0, .int .i64 0, .slice none 0 0] 27)).heap.size = w.heap.size + 1 := by simp
      refine bodyPost_ret (v := .agg #[.int .i64 a1, .int .i64 a2, .slice a3 a4 a5]) (by simp [results, Try.results69, go_sem, s0, s1, s2, gR]) rfl ⟨_, rfl, ?_, o2 _, hpB, (o2 _).blk H1.out (by simpa using h13), (o2 _).blk H2.out (by simpa using h23), ?_⟩
      · exact ((hM.after ((((Above.refl _ _).setCell (p := ⟨p3, 0, none⟩) (by show p3 < _; omega) _).setCell (p := ⟨w.heap.size, 0, none⟩) (by show w.heap.size < _; omega) _).setCell (p := ⟨w.heap.size, 1, none⟩) (by show w.heap.size < _; omega) _ |>.setCell (p := ⟨w.heap.size, 2, none⟩) (by show w.heap.size < _; omega) _)).ext ((Ext.refl _).alloc _)).since (by omega)
      · rw [Below.heap_alloc _ _ _ (by simp; omega), Below.heap_setCell _ _ _ _ (by show p3 ≠ w.heap.size; omega), Below.heap_setCell _ _ _ _ (by show p3 ≠ w.heap.size; omega), Below.heap_setCell _ _ _ _ (by show p3 ≠ w.heap.size; omega), blk_setCell q3 0 _]
        rfl)
  · rw [if_neg h, if_neg h, Bool.and_true]
    have d1 : (n - b == x) = false := beq_eq_false_iff_ne.2 h
    clear HS h i1 i2 i3
    by_cases h2 : x < n - b
    · rw [if_pos h2]
      have d2 : decide (x < n - b) = true := decide_eq_true h2
      clear h2
      go_enter Try.func69, Try.ntmps69
      go_wp2_with fail
      refine (HV.out _ _).mono ?_
      rintro e w1 ⟨rfl, e1⟩
      have hb := e1.newBlk
      obtain ⟨s0, s1, s2, f0, f1, f2⟩ := own3 hb
      have o2 := ((Only.refl [p3] w).alloc (.cells #[.int .i64 0, .int .i64 0, .slice none 0 0] 27)).trans (Only.of_ext e1)
      have q4 := (Ext.blk e1.pre H3.out)
      clear hb
      go_wp2_with fail
      refine bodyPost_ret (v := .agg #[.int .i64 1, .int .i64 (n - 1), .slice none 0 0]) (by simp [results, Try.results69, go_sem, s0, s1, s2]) rfl ⟨_, rfl, Made.leaf _ _ _ _ _, ?_, hpB, ?_, ?_, ?_⟩
      · exact (((o2.setNew (by simp) _).setNew (by simp) _).setNew (by simp) _)
      · exact (((o2.setNew (by simp) _).setNew (by simp) _).setNew (by simp) _).blk H1.out (by simpa using h13)
      · exact (((o2.setNew (by simp) _).setNew (by simp) _).setNew (by simp) _).blk H2.out (by simpa using h23)
      · rw [Below.heap_setCell _ _ _ _ (by show p3 ≠ w.heap.size; omega), Below.heap_setCell _ _ _ _ (by show p3 ≠ w.heap.size; omega), Below.heap_setCell _ _ _ _ (by show p3 ≠ w.heap.size; omega), q4]
    · rw [if_neg h2]
      have d2 : decide (x < n - b) = false := decide_eq_false h2
      clear h2
      go_enter Try.func69, Try.ntmps69
      go_wp2_with fail
      refine (HV.out _ _).mono ?_
      rintro e w1 ⟨rfl, e1⟩
      have hb := e1.newBlk
      obtain ⟨s0, s1, s2, f0, f1, f2⟩ := own3 hb
      have o2 := ((Only.refl [p3] w).alloc (.cells #[.int .i64 0, .int .i64 0, .slice none 0 0] 27)).trans (Only.of_ext e1)
      have q4 := (Ext.blk e1.pre H3.out)
      clear hb
      go_wp2_with fail
      refine bodyPost_ret (v := .agg #[.int .i64 1, .int .i64 n, .slice none 0 0]) (by simp [results, Try.results69, go_sem, s0, s1, s2]) rfl ⟨_, rfl, Made.leaf _ _ _ _ _, ?_, hpB, ?_, ?_, ?_⟩
      · exact (((o2.setNew (by simp) _).setNew (by simp) _).setNew (by simp) _)
      · exact (((o2.setNew (by simp) _).setNew (by simp) _).setNew (by simp) _).blk H1.out (by simpa using h13)
      · exact (((o2.setNew (by simp) _).setNew (by simp) _).setNew (by simp) _).blk H2.out (by simpa using h23)
      · rw [Below.heap_setCell _ _ _ _ (by show p3 ≠ w.heap.size; omega), Below.heap_setCell _ _ _ _ (by show p3 ≠ w.heap.size; omega), Below.heap_setCell _ _ _ _ (by show p3 ≠ w.heap.size; omega), q4]
set_option maxRecDepth 100000 in
theorem subst_any (t : Tr) (x : Int) (u : Tr) (w : World) (v vu : Value) (hin : Lies w t v) (hv : valid sigT t = true) (hinu : Lies w u vu) (hvu : valid sigT u = true) (hx0 : 0 ≤ x) (hx1 : x ≤ 1000) :
    Calls Try.prog 53 #[v, .int .i64 x, vu] w fun e w' => ∃ r, e = .returned (.tuple #[r, .bool (valid sigT (sbsT u t x 0))]) ∧ Made w w' 27 (okT (sbsT u t x 0)) r ∧ Ext w w' := by
  obtain ⟨hs, hcn⟩ := valid_parts hv
  obtain ⟨hw1, hw2⟩ := subst_way (x := x) (valid_parts hvu).2 hv
  obtain ⟨vb, hvb⟩ : ∃ vb, vb = valid sigT (sbsT u t x 0) := ⟨_, rfl⟩
  obtain ⟨rt, hrt⟩ : ∃ rt, rt = okT (sbsT u t x 0) := ⟨_, rfl⟩
  rw [← hvb, ← hrt]
  have hrt2 : allT (hsb u x) t 0 = true → rt = okT (chgT (gsb u x) t 0) := fun h => by rw [hw2 h]; exact hrt
  have hrt3 : vb = false → rt = dflt0 := fun h => by rw [hrt]; unfold okT; rw [← hvb, h]; rfl
  have hcu := (valid_parts hvu).2
  obtain ⟨ku, nu, kus⟩ := u
  obtain ⟨Au, cu, rfl, hlu, hcu', -⟩ := Lies.mk_iff.1 hinu
  have hCH := fun W (hW : Ext w W) p1 p2 p3 (hp : w.heap.size ≤ p3) (h13 : p1 ≠ p3) (h23 : p2 ≠ p3) (h1 : W.heap[p1]? = some (.cells #[.int .i64 x] 3 (0, 0))) (h2 : W.heap[p2]? = some (.cells #[.int .i64 ku, .int .i64 nu, .slice Au kus.length cu] 27 (0, 0))) (h3 : W.heap[p3]? = some (.cells #[.bool true] 4 (0, 0))) =>
    changed_sb_any t w W v 0 30 p1 p2 p3 [p3] W.heap.size (SbI p1 p2 p3 W.heap.size x ku nu Au kus.length cu) (gsb (.mk ku nu kus) x) (hsb (.mk ku nu kus) x) true hs hin hW (fun x hx => by rw [List.mem_singleton.1 hx]; exact ⟨hp, lt_of_blk h3⟩) (by omega) (by omega)
      (subst1 w p1 p2 p3 _ x ku nu Au kus cu hinu hvu h13 h23 hx0 hx1) (fun w1 w2 s h he => ⟨h.1, he.blk h.2.1, he.blk h.2.2.1, he.blk h.2.2.2⟩) (Nat.le_refl _) (fun w1 w2 s h he hl => ⟨h.1, (he p1 h.1.1).trans h.2.1, (he p2 h.1.2.1).trans h.2.2.1, (he p3 h.1.2.2).trans h.2.2.2⟩) ⟨⟨lt_of_blk h1, lt_of_blk h2, lt_of_blk h3⟩, h1, h2, h3⟩
  simp only [Bool.true_and] at hCH
  rw [← hvb] at hw1
  have HCH := Lib.hid hCH
  clear hCH hw2 hs hrt hvb
  generalize chgT (gsb (.mk ku nu kus) x) t 0 = r at hw1 HCH hrt2
  generalize allT (hsb (.mk ku nu kus) x) t 0 = f at hw1 HCH hrt2
  obtain ⟨k, n, ks⟩ := t
  obtain ⟨A, cap, rfl, hl, hc, hK⟩ := Lies.mk_iff.1 hin
  have hE := ((((Ext.refl w).alloc (.cells #[.int .i64 k, .int .i64 n, .slice A ks.length cap] 27)).alloc (.cells #[.int .i64 x] 3)).alloc (.cells #[.int .i64 ku, .int .i64 nu, .slice Au kus.length cu] 27)).alloc (.cells #[.int .i64 0, .int .i64 0, .slice none 0 0] 27)
  have hbb := blk4 ((Ext.refl ((((w.alloc (.cells #[.int .i64 k, .int .i64 n, .slice A ks.length cap] 27)).alloc (.cells #[.int .i64 x] 3)).alloc (.cells #[.int .i64 ku, .int .i64 nu, .slice Au kus.length cu] 27)).alloc (.cells #[.int .i64 0, .int .i64 0, .slice none 0 0] 27))).alloc (.cells #[.bool true] 4))
  have hb5 := heap_alloc_new ((((w.alloc (.cells #[.int .i64 k, .int .i64 n, .slice A ks.length cap] 27)).alloc (.cells #[.int .i64 x] 3)).alloc (.cells #[.int .i64 ku, .int .i64 nu, .slice Au kus.length cu] 27)).alloc (.cells #[.int .i64 0, .int .i64 0, .slice none 0 0] 27)) (.cells #[.bool true] 4)
  have hE5 := hE.alloc (.cells #[.bool true] 4)
  have hsz : (((((w.alloc (.cells #[.int .i64 k, .int .i64 n, .slice A ks.length cap] 27)).alloc (.cells #[.int .i64 x] 3)).alloc (.cells #[.int .i64 ku, .int .i64 nu, .slice Au kus.length cu] 27)).alloc (.cells #[.int .i64 0, .int .i64 0, .slice none 0 0] 27)).alloc (.cells #[.bool true] 4)).heap.size = w.heap.size + 1 + 1 + 1 + 1 + 1 := by simp
  obtain ⟨hb1, hb2, hb3, hb4, -⟩ := hbb
  simp only [World.size_alloc] at hb5
  go_enter Try.func53, Try.ntmps53
  go_wp2_with fail
  generalize World.alloc _ _ = wa at hE5 hb1 hb2 hb3 hb4 hb5 hsz
  clear hE
  refine (HCH.out wa hE5 _ _ _ (by omega) (by omega) (by omega) hb2 hb3 hb5).mono ?_
  rintro e w1 ⟨u, rfl, hM, ho, hI⟩
  obtain ⟨k2, n2, ks2⟩ := r
  obtain ⟨A2, c2, rfl, hl2, hc2, hMK2⟩ := Made.mk_iff.1 hM
  have hb4' := ho.blk hb4 (by simp)
  have i3 := hI.2.2.2
  have hc5 := cell_of_blk i3 0
  have hlt5 := lt_of_blk i3
  have hlt4 := lt_of_blk hb4'
  have hso := ho.size
  have hEw : Ext w w1 := ho.ext hE5 (fun x hx => by rw [List.mem_singleton.1 hx]; omega)
  obtain ⟨s0, s1, s2, f0, f1, f2⟩ := own3 hb4'
  clear HCH hb1 hb2 hb3 hb4 hb5 hI i3
  have hx := (Ext.refl w1).alloc (.cells #[.int .i64 k2, .int .i64 n2, .slice A2 ks2.length c2] 27)
  cases f with
  | false =>
    rw [Bool.false_and] at hw1
    have H1 := Lib.hid hw1.symm
    have H2 := Lib.hid (hrt3 hw1.symm)
    clear hw1 hrt2 hrt3
    go_wp2_with fail
    refine bodyPost_ret (v := .tuple #[.agg #[.int .i64 0, .int .i64 0, .slice none 0 0], .bool false]) (by simp [results, Try.results53, go_sem, s0, s1, s2, hlt4]) rfl ⟨.agg #[.int .i64 0, .int .i64 0, .slice none 0 0], by rw [H1.out], by rw [H2.out]; exact Made.leaf _ _ _ _ _, ?_⟩
    exact (((hEw.setCell (by simp; omega) _).setCell (by simp; omega) _).setCell (by simp; omega) _).alloc _
  | true =>
    rw [Bool.true_and] at hw1
    have HV := Lib.hid (fun W (hW : Ext w1 W) => valid_any k2 n2 ks2 A2 c2 W (hM.lies.ext hW))
    generalize hok : valid sigT (.mk k2 n2 ks2) = b at HV
    have hO : rt = if b = true then .mk k2 n2 ks2 else dflt0 := by rw [hrt2 rfl]; unfold okT; rw [hok]
    rw [hok] at hw1
    have H1 := Lib.hid hw1.symm
    have H2 := Lib.hid hO
    clear hO hw1 hok hrt2 hrt3
    go_wp2_with fail
    refine (HV.out _ hx).mono ?_
    cases b with
    | true =>
      simp only [if_true]
      rintro e w2 ⟨rfl, e2⟩
      obtain ⟨q0, q1, q2, g0, g1, g2⟩ := own3 ((hx.trans e2).blk hb4')
      go_wp2_with fail
      refine bodyPost_ret (v := .tuple #[.agg #[.int .i64 k2, .int .i64 n2, .slice A2 ks2.length c2], .bool true]) (by simp [results, Try.results53, go_sem, q0, q1, q2]) rfl ⟨.agg #[.int .i64 k2, .int .i64 n2, .slice A2 ks2.length c2], by rw [H1.out], ?_, ?_⟩
      · rw [H2.out]
        simp only [if_true]
        exact Made.since (((hM.ext (hx.trans e2)).after ((((Above.refl _ _).setCell (by simp; omega) _).setCell (by simp; omega) _).setCell (by simp; omega) _))) (by omega)
      · exact (((((hEw.trans hx).trans e2).setCell (by simp; omega) _).setCell (by simp; omega) _).setCell (by simp; omega) _)
    | false =>
      simp only [Bool.false_eq_true, if_false]
      rintro e w2 ⟨rfl, e2⟩
      obtain ⟨q0, q1, q2, g0, g1, g2⟩ := own3 ((hx.trans e2).blk hb4')
      go_wp2_with fail
      refine bodyPost_ret (v := .tuple #[.agg #[.int .i64 0, .int .i64 0, .slice none 0 0], .bool false]) (by simp [results, Try.results53, go_sem, q0, q1, q2]) rfl ⟨.agg #[.int .i64 0, .int .i64 0, .slice none 0 0], by rw [H1.out], by rw [H2.out]; exact Made.leaf _ _ _ _ _, ?_⟩
      exact (((((hEw.trans hx).trans e2).setCell (by simp; omega) _).setCell (by simp; omega) _).setCell (by simp; omega) _)
end Go.Proofs.Ytdkamgafpphdjaa
namespace Go.Proofs.Ytdkamgafpphdjaa
open Go.RowKit
set_option linter.unusedVariables false
attribute [local go_sem ↓] Go.wp_at_zero Go.wp_at_succ
theorem cnt_of_valid {t : Tr} (h : valid sigT t = true) : cnt t ≤ 400 ∧ shape sigT t 30 = true := by
  unfold valid at h
  rw [Bool.and_eq_true] at h
  exact ⟨of_decide_eq_true h.2, h.1⟩
end Go.Proofs.Ytdkamgafpphdjaa
namespace Go.Proofs.Ytdkamgafpphdjaa
open Go.RowKit
set_option linter.unusedVariables false
attribute [local go_sem ↓] Go.wp_at_zero Go.wp_at_succ
/-- v is a slice of trees that was built by append since W; the trees' rows are older than W. -/
def GrowO (W w : World) (e : TypeId) (v : Value) (ks : List Tr) : Prop := ∃ xs, w.ownsRow W.heap.size e 3 v ks.length xs ∧ RowL w (fun b => b < W.heap.size) xs ks
theorem GrowO.nil (W w : World) (e : TypeId) : GrowO W w e (.slice none 0 0) [] := ⟨[], World.ownsRow_nil _ _ _ _, RowL.nil⟩
theorem GrowO.ext {W w w' : World} {e : TypeId} {v : Value} {ks : List Tr} (h : GrowO W w e v ks) (hW : W.heap.size ≤ w.heap.size) (he : Ext w w') : GrowO W w' e v ks := by
  obtain ⟨xs, h1, h2⟩ := h
  exact ⟨xs, ownsRow_same h1 (fun g hg => he.heap g (h1.lt g hg).2), h2.mono (fun _ h => h) (fun b hb => he.heap b (Nat.lt_of_lt_of_le hb hW))⟩
theorem GrowO.set {W w : World} {e : TypeId} {v : Value} {ks : List Tr} (h : GrowO W w e v ks) {p : Addr} (hp : v.ownBlock ≠ some p.block) (hW : W.heap.size ≤ p.block) (u : Value) : GrowO W (w.setCell p u) e v ks := by
  obtain ⟨xs, h1, h2⟩ := h
  exact ⟨xs, ownsRow_same h1 (fun g hg => Below.heap_setCell w p u g (fun e => hp (by rw [← e]; exact hg))), h2.mono (fun _ h => h) (fun b hb => Below.heap_setCell w p u b (by omega))⟩
theorem GrowO.form {W w : World} {e : TypeId} {v : Value} {ks : List Tr} (h : GrowO W w e v ks) : ∃ B c, v = .slice B ks.length c := by
  obtain ⟨xs, h1, h2⟩ := h
  rcases h1.2 with ⟨rfl, h0⟩ | ⟨g, cap, cur, rfl, _⟩
  · exact ⟨none, 0, by rw [h0]⟩
  · exact ⟨_, cap, rfl⟩
theorem GrowO.lt {W w : World} {e : TypeId} {v : Value} {ks : List Tr} (h : GrowO W w e v ks) {g : Nat} (hg : v.ownBlock = some g) : W.heap.size ≤ g ∧ g < w.heap.size := by
  obtain ⟨xs, h1, h2⟩ := h
  exact h1.lt g hg
/-- A tree whose rows are older than block B, stored into a box of its own. -/
theorem atT_step {k n i : Int} {ks : List Tr} {q : List Int} : atT (.mk k n ks) (i :: q) = if 0 ≤ i ∧ i < ks.length then atT (kd ks i.toNat) q else none := by rw [atT]
end Go.Proofs.Ytdkamgafpphdjaa
namespace Go.Proofs.Ytdkamgafpphdjaa
open Go.RowKit
set_option linter.unusedVariables false
attribute [local go_sem ↓] Go.wp_at_zero Go.wp_at_succ
def outP (t : Tr) : List Int := (outT t).getD []
def OutC (t : Tr) : Prop := ∀ (w : World) (v : Value) (d : Int), shape sigT t d = true → Lies w t v → d ≤ 1000 → Calls Try.prog 72 #[v] w fun e w' => ∃ x, e = .returned (.tuple #[x, .bool (outT t).isSome]) ∧ w'.ownsRow w.heap.size 3 1 x (outP t).length ((outP t).map (Value.int .i64)) ∧ Ext w w'
set_option maxRecDepth 100000 in
set_option maxHeartbeats 2000000 in
theorem outer_any : ∀ t : Tr, OutC t := Tr.ind fun k n ks hk => by
  intro w v d hsh hin hd
  have HR := Lib.hid (fun V (hV : Ext w V) => redex_any (.mk k n ks) d hsh V v (hin.ext hV))
  have hol := outT_len (.mk k n ks) d hsh
  obtain ⟨-, -, -, hsk⟩ := shape_kids hsh
  obtain ⟨A, cap, rfl, hl, hc, hK⟩ := Lies.mk_iff.1 hin
  obtain ⟨i0, hi, hz0, hz1, hz2⟩ := info_parts infoIntP
  have hcc := hc
  unfold maxLen at hcc
  have ho : outT (.mk k n ks) = if rdx k ks = 0 then outTs 0 ks else some [] := by rw [outT]
  have hx0 := (Ext.refl w).alloc (.cells #[.int .i64 k, .int .i64 n, .slice A ks.length cap] 27)
  have hbB := heap_alloc_new w (.cells #[.int .i64 k, .int .i64 n, .slice A ks.length cap] 27)
  obtain ⟨r, hr⟩ : ∃ r, rdx k ks = r := ⟨_, rfl⟩
  have HR2 := Lib.hid (show ∀ V, Ext w V → Calls Try.prog 75 #[.agg #[.int .i64 k, .int .i64 n, .slice A ks.length cap]] V fun e w' => e = .returned (.int .i64 r) ∧ Ext V w' from fun V hV => by have := HR.out V hV; rw [show rdxT (.mk k n ks) = r from hr] at this; exact this)
  rw [hr] at ho
  clear hr HR
  by_cases h0 : r = 0
  · rw [if_pos h0] at ho
    have hb0 : (r != 0) = false := by rw [h0]; rfl
    subst h0
    have HO := Lib.hid ho
    clear ho hin
    go_enter Try.func72, Try.ntmps72
    go_wp2_with fail
    refine (HR2.out _ hx0).mono ?_
    rintro e w1 ⟨rfl, h1⟩
    obtain ⟨z0, z1, z2, -, -, -⟩ := own3 (h1.blk hbB)
    have lz := lt_of_blk (h1.blk hbB)
    have hx1 := hx0.trans h1
    clear hbB h1 hx0 HR2
    go_wp2_with fail
    clear z0 z1 z2 lz
    go_loopw [14] (fun i wr => ∃ (j : Nat), j ≤ ks.length ∧ i = .int .i64 j ∧ Hid (outTs 0 ks = outTs j (ks.drop j)) ∧ Ext w wr) (fun i _ => ks.length - (intOf i).toNat)
    case atStart => exact ⟨0, Nat.zero_le _, rfl, Lib.hid rfl, hx1⟩
    case round =>
      obtain ⟨j, hj', rfl, HE, hx⟩ := hrel
      by_cases hlt : j < ks.length
      · obtain ⟨b, o, k', n', A', cap', kids, rfl, HK, c0, c1, c2, hkl, hkc, hK', hin', hmem⟩ := hK.get hx hlt
        have hst : outTs j (ks.drop j) = match outT (.mk k' n' kids) with | some p => some ((j : Int) :: p) | none => outTs (j + 1) (ks.drop (j + 1)) := by
          rw [List.drop_eq_getElem_cons hlt, HK.out]; conv => lhs; unfold outTs
          rfl
        have hol2 := outT_len (.mk k' n' kids) (d - 1) (hsk _ hmem)
        have hx5 := (Ext.refl wr).alloc (.cells #[.int .i64 k', .int .i64 n', .slice A' kids.length cap'] 27)
        have HC := Lib.hid (hk _ hmem _ _ (d - 1) (hsk _ hmem) (hin'.ext hx5) (by omega))
        have hpe : outP (.mk k' n' kids) = (outT (.mk k' n' kids)).getD [] := rfl
        rw [hpe] at HC
        clear hpe
        generalize outT (.mk k' n' kids) = q at hst hol2 HC
        have hj2 : (j : Int) < (ks.length : Int) := by omega
        clear hol hin'
        go_wp2_with fail
        refine HC.out.mono ?_
        rintro e w2 ⟨x, rfl, hq, h2⟩
        have hx2 := (hx.trans hx5).trans h2
        cases q with
        | some p =>
          have hpl := hol2 p rfl
          simp only [Option.getD_some] at hq
          simp only at hst
          have HO2 := Lib.hid ((HO.out.trans HE.out).trans hst)
          have hpa := ownsRow_pathL hq
          obtain ⟨Bq, cq, rfl, -, -, -⟩ := ownsRow_nums hq
          have hx3 := (Ext.refl w2).alloc (.cells #[.int .i64 j] 3)
          have hG : (w2.alloc (.cells #[.int .i64 j] 3)).ownsRow w2.heap.size 3 1 (.slice (some ⟨w2.heap.size, 0, none⟩) 1 1) ([(j : Int)]).length (([(j : Int)]).map (Value.int .i64)) := World.ownsRow_lit w2 #[.int .i64 j] 1 (Nat.le_refl _) (by decide) rfl
          have hpa3 := hpa.ext hx3
          clear hst HC HE HO hpa hq hol2
          go_wp2_with (at_builtin; refine wpList_append_ints _ rfl (.tmp 26) (.tmp 27) 38 rfl w2.heap.size 3 i0 _ 8 Try.underlying38 hi hz0 hz1 hz2 (by decide) rfl (ns := [(j : Int)]) (p := p) rfl hG (by simp) rfl hpa3 (by simp; omega) ?_)
          intro va wa hva hga hoa
          have hEa : Ext w wa := hx2.trans (hx3.grown hga (by intro g hg; simp [Value.ownBlock] at hg; omega))
          have hsz := hx2.size
          have hvw : wa.ownsRow w.heap.size 3 1 va ((j : Int) :: p).length ((((j : Int) :: p)).map (Value.int .i64)) := ownsRow_since hva hsz
          have HVW := Lib.hid hvw
          clear hva hga hoa hvw
          go_wp2_with fail
          go_ret2
          have hou : outP (.mk k n ks) = (j : Int) :: p := by unfold outP; rw [HO2.out]; rfl
          exact ⟨_, by rw [HO2.out]; rfl, by rw [hou]; exact HVW.out, hEa⟩
        | none =>
          simp only at hst
          have HE2 := Lib.hid (HE.out.trans hst)
          clear hst HC hq hol2
          go_wp2_with fail
          go_roundw
          case rel => exact ⟨j + 1, by omega, by go_num, HE2, hx2⟩
          case measure => simp [intOf]; omega
      · have HO2 := Lib.hid ((HO.out.trans HE.out).trans (show outTs j (ks.drop j) = none by rw [List.drop_of_length_le (by omega), outTs]))
        clear HE HO
        go_wp2_with fail
        go_ret2
        have hou : outP (.mk k n ks) = [] := by unfold outP; rw [HO2.out]; rfl
        exact ⟨_, by rw [HO2.out]; rfl, by rw [hou]; exact World.ownsRow_nil _ _ _ _, hx⟩
  · rw [if_neg h0] at ho
    have hb0 : (r != 0) = true := bne_iff_ne.2 h0
    have HO := Lib.hid ho
    clear ho
    go_enter Try.func72, Try.ntmps72
    go_wp2_with fail
    refine (HR2.out _ hx0).mono ?_
    rintro e w1 ⟨rfl, h1⟩
    go_wp2_with fail
    go_ret2
    have hou : outP (.mk k n ks) = [] := by unfold outP; rw [HO.out]; rfl
    exact ⟨_, by rw [HO.out]; rfl, by rw [hou]; exact World.ownsRow_nil _ _ _ _, hx0.trans h1⟩
end Go.Proofs.Ytdkamgafpphdjaa
namespace Go.Proofs.Ytdkamgafpphdjaa
open Go.RowKit
set_option linter.unusedVariables false
attribute [local go_sem ↓] Go.wp_at_zero Go.wp_at_succ
theorem atT_cnt : ∀ (a : List Int) (t u : Tr), atT t a = some u → cnt u ≤ cnt t
  | [], t, u, e => by
    have e : t = u := by cases t; simpa [atT] using e
    subst e
    exact Nat.le_refl _
  | i :: a, .mk k n ks, u, e => by
    rw [atT] at e
    split at e
    · rename_i hi
      have h1 := atT_cnt a _ u e
      have h2 := cnt_mem (kd_mem (ks := ks) (i := i.toNat) (by omega))
      rw [cnt]
      omega
    · cases e
end Go.Proofs.Ytdkamgafpphdjaa

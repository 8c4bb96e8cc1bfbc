/-
  l12Extract, kind by kind; the reference's ExtractTerm.
-/
import Derived.Test.YtappakllopkfiaaExtractTop
import Derived.Test.YtappakllopkfiaaNode
import Derived.Deep.RegionHeld3
namespace Go.Proofs.Ytappakllopkfiaa
open Go.RowKit
set_option linter.unusedVariables false

theorem InK.two {w : World} {S : Nat → Prop} {e : TypeId} {t t' : Tr} {v0 v1 v2 u0 u1 u2 : Value} {g : Nat} (h : InT w S t (.agg #[v0, v1, v2])) (h' : InT w S t' (.agg #[u0, u1, u2])) (hg : w.heap[g]? = some (.cells #[v0, v1, v2, u0, u1, u2] e (0, 0))) (hS : S g) : InK w S (some ⟨g, 0, none⟩) [t, t'] := by
  refine .inr ⟨g, 0, rfl, hS, ?_⟩
  unfold InL
  refine ⟨⟨v0, v1, v2, cell_of_blk hg 0, cell_of_blk hg 1, cell_of_blk hg 2, h⟩, ?_⟩
  unfold InL
  refine ⟨⟨u0, u1, u2, cell_of_blk hg 3, cell_of_blk hg 4, cell_of_blk hg 5, h'⟩, ?_⟩
  unfold InL
  trivial
theorem InK.three {w : World} {S : Nat → Prop} {e : TypeId} {t t' t2 : Tr} {v0 v1 v2 u0 u1 u2 x0 x1 x2 : Value} {g : Nat} (h : InT w S t (.agg #[v0, v1, v2])) (h' : InT w S t' (.agg #[u0, u1, u2])) (h2 : InT w S t2 (.agg #[x0, x1, x2])) (hg : w.heap[g]? = some (.cells #[v0, v1, v2, u0, u1, u2, x0, x1, x2] e (0, 0))) (hS : S g) : InK w S (some ⟨g, 0, none⟩) [t, t', t2] := by
  refine .inr ⟨g, 0, rfl, hS, ?_⟩
  unfold InL
  refine ⟨⟨v0, v1, v2, cell_of_blk hg 0, cell_of_blk hg 1, cell_of_blk hg 2, h⟩, ?_⟩
  unfold InL
  refine ⟨⟨u0, u1, u2, cell_of_blk hg 3, cell_of_blk hg 4, cell_of_blk hg 5, h'⟩, ?_⟩
  unfold InL
  refine ⟨⟨x0, x1, x2, cell_of_blk hg 6, cell_of_blk hg 7, cell_of_blk hg 8, h2⟩, ?_⟩
  unfold InL
  trivial
theorem InT.three {w : World} {S : Nat → Prop} {t : Tr} {u : Value} (h : InT w S t u) : ∃ k n A l c, u = .agg #[.int .i64 k, .int .i64 n, .slice A l c] := by
  obtain ⟨k, n, ks⟩ := t
  obtain ⟨A, cap, rfl, _⟩ := InT.mk_iff.1 h
  exact ⟨k, n, A, _, cap, rfl⟩
/-- What came into being since W, in a later world. -/
theorem New.to {W w w1 w2 : World} {t : Tr} {v : Value} (h : New w w1 t v) (he : Ext w1 w2) (hW : W.heap.size ≤ w.heap.size) {S : Nat → Prop} (hS : ∀ b, W.heap.size ≤ b → b < w1.heap.size → S b) : InT w2 S t v :=
  h.mono (fun b hb => hS b (Nat.le_trans hW hb.1) hb.2) (fun b hb => he.heap b hb.2)

def SExtC (t : Tr) : Prop := ∀ (d : Int) (w : World) (v : Value), shape sigT t d = true → Lies w t v →
  Calls Try.prog 79 #[v] w fun e w' => ∃ u, e = .returned u ∧ New w w' (exT t) u ∧ Ext w w'

set_option maxRecDepth 100000 in
set_option maxHeartbeats 1000000 in
theorem spExtract_1 (n : Int) (ks : List Tr) (hk : ∀ t ∈ ks, SExtC t) (d : Int) (hsh : ∀ t ∈ ks, shape sigT t d = true) (w : World) (A : Option Addr) (cap : Nat) (hK : LiesK w A ks) (hl : ks.length ≤ cap) (hc : cap ≤ maxLen) (hks : Hid (ks.length = 0)) :
    Calls Try.prog 79 #[.agg #[.int .i64 1, .int .i64 n, .slice A ks.length cap]] w fun e w' => ∃ u, e = .returned u ∧ New w w' (exT (.mk 1 n ks)) u ∧ Ext w w' := by
  rw [show exT (.mk 1 n ks) = .mk 1 n [] from rfl]
  go_enter Try.func79, Try.ntmps79
  go_wp2_with fail
  exact bodyPost_ret (v := .agg #[.int .i64 1, .int .i64 n, .slice none 0 0]) (by simp [results, Try.results79, go_sem]) rfl ⟨_, rfl, New.leaf _ _ _ _, ((Ext.refl w).alloc _).alloc _⟩

set_option maxRecDepth 100000 in
set_option maxHeartbeats 1000000 in
theorem spExtract_2 (n : Int) (ks : List Tr) (hk : ∀ t ∈ ks, SExtC t) (d : Int) (hsh : ∀ t ∈ ks, shape sigT t d = true) (w : World) (A : Option Addr) (cap : Nat) (hK : LiesK w A ks) (hl : ks.length ≤ cap) (hc : cap ≤ maxLen) (hks : Hid (ks.length = 0)) :
    Calls Try.prog 79 #[.agg #[.int .i64 2, .int .i64 n, .slice A ks.length cap]] w fun e w' => ∃ u, e = .returned u ∧ New w w' (exT (.mk 2 n ks)) u ∧ Ext w w' := by
  obtain ⟨wb, hwb⟩ : ∃ wb, wb = (w.alloc (.cells #[.int .i64 2, .int .i64 n, .slice A ks.length cap] 44)).alloc (.cells #[.int .i64 0, .int .i64 0, .slice none 0 0] 28) := ⟨_, rfl⟩
  have hX : Ext w wb := hwb ▸ ((Ext.refl w).alloc _).alloc _
  have hbs : wb.heap.size = w.heap.size + 1 + 1 := by rw [hwb]; simp
  obtain ⟨hb0, hb1, -⟩ := blk2 (Ext.refl ((w.alloc (.cells #[.int .i64 2, .int .i64 n, .slice A ks.length cap] 44)).alloc (.cells #[.int .i64 0, .int .i64 0, .slice none 0 0] 28)))
  rw [← hwb] at hb0 hb1
  rw [show exT (.mk 2 n ks) = .mk 10 0 [] from rfl]
  go_enter Try.func79, Try.ntmps79
  go_wp2_with fail
  rw [← hwb]
  refine (l12Node_any wb 10 none 0 [] (fun _ => rfl) (fun _ => False) (fun _ h => h.elim) (.inl rfl) (by simp)).mono ?_
  rintro e w3 ⟨u, rfl, hI, hE⟩
  have hs1 := hE.size
  obtain ⟨a1', a2', a3', a4', a5', rfl⟩ := hI.three
  obtain ⟨s0, s1, s2, f0, f1, f2⟩ := own3 (hE.blk hb1)
  clear hb1 hb0
  go_wp2_with fail
  refine bodyPost_ret (v := .agg #[.int .i64 a1', .int .i64 a2', .slice a3' a4' a5']) (by simp [results, Try.results79, go_sem, s0, s1, s2]) rfl ⟨_, rfl, ?_, ?_⟩
  · have hN : New wb w3 _ _ := hI.mono (fun b hb => by unfold Plus at hb; simp at hb; omega) (fun _ _ => rfl)
    exact New.since (hN.after ((((Above.refl _ _).setCell (by simp; omega) _).setCell (by simp; omega) _).setCell (by simp; omega) _)) (by omega)
  · exact ((((hX.trans hE).setCell (by simp) _).setCell (by simp) _).setCell (by simp) _)

set_option maxRecDepth 100000 in
set_option maxHeartbeats 1000000 in
theorem spExtract_3 (n : Int) (ks : List Tr) (hk : ∀ t ∈ ks, SExtC t) (d : Int) (hsh : ∀ t ∈ ks, shape sigT t d = true) (w : World) (A : Option Addr) (cap : Nat) (hK : LiesK w A ks) (hl : ks.length ≤ cap) (hc : cap ≤ maxLen) (hks : Hid (ks.length = 2)) :
    Calls Try.prog 79 #[.agg #[.int .i64 3, .int .i64 n, .slice A ks.length cap]] w fun e w' => ∃ u, e = .returned u ∧ New w w' (exT (.mk 3 n ks)) u ∧ Ext w w' := by
  obtain ⟨wb, hwb⟩ : ∃ wb, wb = (w.alloc (.cells #[.int .i64 3, .int .i64 n, .slice A ks.length cap] 44)).alloc (.cells #[.int .i64 0, .int .i64 0, .slice none 0 0] 28) := ⟨_, rfl⟩
  have hX : Ext w wb := hwb ▸ ((Ext.refl w).alloc _).alloc _
  have hbs : wb.heap.size = w.heap.size + 1 + 1 := by rw [hwb]; simp
  obtain ⟨hb0, hb1, -⟩ := blk2 (Ext.refl ((w.alloc (.cells #[.int .i64 3, .int .i64 n, .slice A ks.length cap] 44)).alloc (.cells #[.int .i64 0, .int .i64 0, .slice none 0 0] 28)))
  rw [← hwb] at hb0 hb1
  rw [show exT (.mk 3 n ks) = .mk 10 0 [] from rfl]
  go_enter Try.func79, Try.ntmps79
  go_wp2_with fail
  rw [← hwb]
  refine (l12Node_any wb 10 none 0 [] (fun _ => rfl) (fun _ => False) (fun _ h => h.elim) (.inl rfl) (by simp)).mono ?_
  rintro e w3 ⟨u, rfl, hI, hE⟩
  have hs1 := hE.size
  obtain ⟨a1', a2', a3', a4', a5', rfl⟩ := hI.three
  obtain ⟨s0, s1, s2, f0, f1, f2⟩ := own3 (hE.blk hb1)
  clear hb1 hb0
  go_wp2_with fail
  refine bodyPost_ret (v := .agg #[.int .i64 a1', .int .i64 a2', .slice a3' a4' a5']) (by simp [results, Try.results79, go_sem, s0, s1, s2]) rfl ⟨_, rfl, ?_, ?_⟩
  · have hN : New wb w3 _ _ := hI.mono (fun b hb => by unfold Plus at hb; simp at hb; omega) (fun _ _ => rfl)
    exact New.since (hN.after ((((Above.refl _ _).setCell (by simp; omega) _).setCell (by simp; omega) _).setCell (by simp; omega) _)) (by omega)
  · exact ((((hX.trans hE).setCell (by simp) _).setCell (by simp) _).setCell (by simp) _)

set_option maxRecDepth 100000 in
set_option maxHeartbeats 1000000 in
theorem spExtract_4 (n : Int) (ks : List Tr) (hk : ∀ t ∈ ks, SExtC t) (d : Int) (hsh : ∀ t ∈ ks, shape sigT t d = true) (w : World) (A : Option Addr) (cap : Nat) (hK : LiesK w A ks) (hl : ks.length ≤ cap) (hc : cap ≤ maxLen) (hks : Hid (ks.length = 2)) :
    Calls Try.prog 79 #[.agg #[.int .i64 4, .int .i64 n, .slice A ks.length cap]] w fun e w' => ∃ u, e = .returned u ∧ New w w' (exT (.mk 4 n ks)) u ∧ Ext w w' := by
  obtain ⟨wb, hwb⟩ : ∃ wb, wb = (w.alloc (.cells #[.int .i64 4, .int .i64 n, .slice A ks.length cap] 44)).alloc (.cells #[.int .i64 0, .int .i64 0, .slice none 0 0] 28) := ⟨_, rfl⟩
  have hX : Ext w wb := hwb ▸ ((Ext.refl w).alloc _).alloc _
  have hbs : wb.heap.size = w.heap.size + 1 + 1 := by rw [hwb]; simp
  obtain ⟨hb0, hb1, -⟩ := blk2 (Ext.refl ((w.alloc (.cells #[.int .i64 4, .int .i64 n, .slice A ks.length cap] 44)).alloc (.cells #[.int .i64 0, .int .i64 0, .slice none 0 0] 28)))
  rw [← hwb] at hb0 hb1
  have hlt0 : 1 < ks.length := by have := hks.out; omega
  have hi0 : (1 : Int) < (ks.length : Int) := by have := hks.out; omega
  obtain ⟨b, o0, k0, n0, A0, cap0, kids0, hA0, HK0, c00, c01, c02, hkl0, hkc0, hK0, hin0, hmem0⟩ := hK.get hX hlt0
  subst hA0
  have hlb := World.block_lt_of_cell? _ _ c00
  have hcc := hc
  unfold maxLen at hcc
  have e0 : (exS ks).getD 1 dflt = exT (.mk k0 n0 kids0) := by rw [exS_get hlt0, HK0.out]
  rw [show exT (.mk 4 n ks) = .mk 2 0 (sel (exS ks) [1]) from rfl, show sel (exS ks) [1] = [exT (.mk k0 n0 kids0)] from by simp only [sel, List.map_cons, List.map_nil, e0]]
  clear e0
  go_enter Try.func79, Try.ntmps79
  rw [hwb] at c00 c01 c02
  go_wp2_with fail
  rw [← hwb]
  refine (hk _ hmem0 d _ _ (hsh _ hmem0) hin0).mono ?_
  rintro e w1 ⟨u, rfl, hM, h1⟩
  obtain ⟨a1, a2, a3, a4, a5, rfl⟩ := hM.three
  have hs1 := h1.size
  go_wp2_with fail
  refine (l12Node_any _ 2 _ 1 [exT (.mk k0 n0 kids0)] (by intro h; cases h) (fun b => wb.heap.size ≤ b ∧ b < w1.heap.size + 1) (by intro b hb; simp; omega) (InK.one (hM.to ((Ext.refl w1).alloc _) (Nat.le_refl _) (fun b h h' => ⟨h, by omega⟩)) (heap_alloc_new w1 _) ⟨hs1, by omega⟩) (by simp)).mono ?_
  rintro e w3 ⟨u, rfl, hI, h3⟩
  have hs3 := h3.size
  simp only [World.size_alloc] at hs3
  have hE := h1.trans h3.pre
  obtain ⟨a1', a2', a3', a4', a5', rfl⟩ := hI.three
  obtain ⟨s0, s1, s2, f0, f1, f2⟩ := own3 (hE.blk hb1)
  clear hb1 hb0 c00 c01 c02
  go_wp2_with fail
  refine bodyPost_ret (v := .agg #[.int .i64 a1', .int .i64 a2', .slice a3' a4' a5']) (by simp [results, Try.results79, go_sem, s0, s1, s2]) rfl ⟨_, rfl, ?_, ?_⟩
  · have hN : New wb w3 _ _ := hI.mono (fun b hb => by unfold Plus at hb; simp at hb; omega) (fun _ _ => rfl)
    exact New.since (hN.after ((((Above.refl _ _).setCell (by simp; omega) _).setCell (by simp; omega) _).setCell (by simp; omega) _)) (by omega)
  · exact ((((hX.trans hE).setCell (by simp) _).setCell (by simp) _).setCell (by simp) _)

set_option maxRecDepth 100000 in
set_option maxHeartbeats 1000000 in
theorem spExtract_5 (n : Int) (ks : List Tr) (hk : ∀ t ∈ ks, SExtC t) (d : Int) (hsh : ∀ t ∈ ks, shape sigT t d = true) (w : World) (A : Option Addr) (cap : Nat) (hK : LiesK w A ks) (hl : ks.length ≤ cap) (hc : cap ≤ maxLen) (hks : Hid (ks.length = 2)) :
    Calls Try.prog 79 #[.agg #[.int .i64 5, .int .i64 n, .slice A ks.length cap]] w fun e w' => ∃ u, e = .returned u ∧ New w w' (exT (.mk 5 n ks)) u ∧ Ext w w' := by
  obtain ⟨wb, hwb⟩ : ∃ wb, wb = (w.alloc (.cells #[.int .i64 5, .int .i64 n, .slice A ks.length cap] 44)).alloc (.cells #[.int .i64 0, .int .i64 0, .slice none 0 0] 28) := ⟨_, rfl⟩
  have hX : Ext w wb := hwb ▸ ((Ext.refl w).alloc _).alloc _
  have hbs : wb.heap.size = w.heap.size + 1 + 1 := by rw [hwb]; simp
  obtain ⟨hb0, hb1, -⟩ := blk2 (Ext.refl ((w.alloc (.cells #[.int .i64 5, .int .i64 n, .slice A ks.length cap] 44)).alloc (.cells #[.int .i64 0, .int .i64 0, .slice none 0 0] 28)))
  rw [← hwb] at hb0 hb1
  have hlt0 : 0 < ks.length := by have := hks.out; omega
  have hi0 : (0 : Int) < (ks.length : Int) := by have := hks.out; omega
  obtain ⟨b, o0, k0, n0, A0, cap0, kids0, hA0, HK0, c00, c01, c02, hkl0, hkc0, hK0, hin0, hmem0⟩ := hK.get hX hlt0
  have hlt1 : 1 < ks.length := by have := hks.out; omega
  have hi1 : (1 : Int) < (ks.length : Int) := by have := hks.out; omega
  obtain ⟨b1, o1, k1, n1, A1, cap1, kids1, hA1, HK1, c10, c11, c12, hkl1, hkc1, hK1, hin1, hmem1⟩ := hK.get hX hlt1
  simp only [Nat.zero_mul, Nat.add_zero] at c00 c01 c02
  subst hA0
  injection hA1 with hA1
  injection hA1 with hB1 hC1 hD1
  subst hB1 hC1
  have hlb := World.block_lt_of_cell? _ _ c00
  have hcc := hc
  unfold maxLen at hcc
  have e0 : (exS ks).getD 0 dflt = exT (.mk k0 n0 kids0) := by rw [exS_get hlt0, HK0.out]
  have e1 : (exS ks).getD 1 dflt = exT (.mk k1 n1 kids1) := by rw [exS_get hlt1, HK1.out]
  rw [show exT (.mk 5 n ks) = .mk 3 0 (sel (exS ks) [0, 1]) from rfl, show sel (exS ks) [0, 1] = [exT (.mk k0 n0 kids0), exT (.mk k1 n1 kids1)] from by simp only [sel, List.map_cons, List.map_nil, e0, e1]]
  clear e0 e1
  go_enter Try.func79, Try.ntmps79
  have hbk : b < w.heap.size := by
    rcases hK with hK | ⟨b', o', hab, hb', -⟩
    · have := hks.out; rw [hK] at this; simp at this
    · injection hab with hab; injection hab with hab; omega
  have hcells : ∀ w', Only [w.heap.size + 1] wb w' → w'.cell? ⟨w.heap.size, 2, none⟩ = some (.slice (some ⟨b, o0, none⟩) ks.length cap) ∧ w'.cell? ⟨b, o0, none⟩ = some (.int .i64 k0) ∧ w'.cell? ⟨b, o0 + 1, none⟩ = some (.int .i64 n0) ∧ w'.cell? ⟨b, o0 + 2, none⟩ = some (.slice A0 kids0.length cap0) ∧ w'.cell? ⟨b, o0 + 3, none⟩ = some (.int .i64 k1) ∧ w'.cell? ⟨b, o0 + 4, none⟩ = some (.int .i64 n1) ∧ w'.cell? ⟨b, o0 + 5, none⟩ = some (.slice A1 kids1.length cap1) := by
    intro w' h
    have hfar : ∀ q i v, q < w.heap.size + 1 → wb.cell? ⟨q, i, none⟩ = some v → w'.cell? ⟨q, i, none⟩ = some v := fun q i v hq hv =>
      (World.cell?_of_block (a := ⟨q, i, none⟩) (h.block q (by omega) (by simp; omega))).trans hv
    exact ⟨hfar _ _ _ (by omega) (cell_of_blk hb0 2), hfar _ _ _ (by omega) c00, hfar _ _ _ (by omega) c01, hfar _ _ _ (by omega) c02, hfar _ _ _ (by omega) c10, hfar _ _ _ (by omega) c11, hfar _ _ _ (by omega) c12⟩
  have HC := Lib.hid hcells
  have hEd : Ext wb wb.drew := (Ext.refl wb).drew
  clear hcells
  go_wp2_with fail
  rw [← hwb]
  clear hwb
  go_region_held3 (fun w' => w'.cell? ⟨w.heap.size, 2, none⟩ = some (.slice (some ⟨b, o0, none⟩) ks.length cap) ∧ w'.cell? ⟨b, o0, none⟩ = some (.int .i64 k0) ∧ w'.cell? ⟨b, o0 + 1, none⟩ = some (.int .i64 n0) ∧ w'.cell? ⟨b, o0 + 2, none⟩ = some (.slice A0 kids0.length cap0) ∧ w'.cell? ⟨b, o0 + 3, none⟩ = some (.int .i64 k1) ∧ w'.cell? ⟨b, o0 + 4, none⟩ = some (.int .i64 n1) ∧ w'.cell? ⟨b, o0 + 5, none⟩ = some (.slice A1 kids1.length cap1))
    (first | exact HC.out _ ((((Only.of_ext (((hEd.trans h1).trans h2).trans hz.pre)).setCell (by simp) _).setCell (by simp) _).setCell (by simp) _) | exact HC.out _ (Only.of_ext (((hEd.trans h1).trans h2).trans hz.pre)) | exact HC.out _ (Only.of_ext (((hEd.trans h1).trans h2).alloc _)) | exact HC.out _ (Only.of_ext ((hEd.trans h1).trans h2)) | exact HC.out _ (Only.of_ext (hEd.trans h1)) | exact HC.out _ (Only.of_ext hEd))
    (first | (go_at_call_of 79 A0; refine (hk _ hmem0 d _ _ (hsh _ hmem0) (hin0.ext (hEd))).mono ?_; rintro e w1 ⟨u1, rfl, hM1, h1⟩; obtain ⟨a01, a02, a03, a04, a05, rfl⟩ := hM1.three; have hs1 := h1.size) | (go_at_call_of 79 A1; refine (hk _ hmem1 d _ _ (hsh _ hmem1) (hin1.ext (hEd.trans (h1)))).mono ?_; rintro e w2 ⟨u2, rfl, hM2, h2⟩; obtain ⟨a11, a12, a13, a14, a15, rfl⟩ := hM2.three; have hs2 := h2.size) | (go_at_call 140; refine (l12Node_any _ 3 _ 2 [exT (.mk k0 n0 kids0), exT (.mk k1 n1 kids1)] (by intro h; cases h) (fun b => wb.heap.size ≤ b ∧ b < w2.heap.size + 1) (by intro b hb; simp; omega) (InK.two (hM1.to (W := wb) (((Ext.refl _).trans h2).alloc _) (Nat.le_refl _) (fun b h h' => ⟨h, by omega⟩)) (hM2.to (W := wb) ((Ext.refl _).alloc _) (by have := hEd.size; omega) (fun b h h' => ⟨h, by omega⟩)) (heap_alloc_new w2 _) ⟨by have := hEd.size; omega, by omega⟩) (by simp)).mono ?_; rintro e wz ⟨u, rfl, hI, hz⟩; obtain ⟨a1', a2', a3', a4', a5', rfl⟩ := hI.three; obtain ⟨s0, s1, s2, f0, f1, f2⟩ := own3 ((((hEd.trans h1).trans h2).trans hz.pre).blk hb1)))
  have hE := ((hEd.trans h1).trans h2).trans hz.pre
  have hsz := hE.size
  have hsd := hEd.size
  have hs9 := hz.size
  simp only [World.size_alloc] at hs9
  clear HC hb0 hb1
  go_wp2_with fail
  refine bodyPost_ret (v := .agg #[.int .i64 a1', .int .i64 a2', .slice a3' a4' a5']) (by simp [results, Try.results79, go_sem, s0, s1, s2]) rfl ⟨_, rfl, ?_, ?_⟩
  · have hN : New wb wz _ _ := hI.mono (fun b hb => by unfold Plus at hb; simp at hb; omega) (fun _ _ => rfl)
    exact New.since (hN.after ((((Above.refl _ _).setCell (by simp; omega) _).setCell (by simp; omega) _).setCell (by simp; omega) _)) (by omega)
  · exact ((((hX.trans hE).setCell (by simp) _).setCell (by simp) _).setCell (by simp) _)

set_option maxRecDepth 100000 in
set_option maxHeartbeats 1000000 in
theorem spExtract_6 (n : Int) (ks : List Tr) (hk : ∀ t ∈ ks, SExtC t) (d : Int) (hsh : ∀ t ∈ ks, shape sigT t d = true) (w : World) (A : Option Addr) (cap : Nat) (hK : LiesK w A ks) (hl : ks.length ≤ cap) (hc : cap ≤ maxLen) (hks : Hid (ks.length = 0)) :
    Calls Try.prog 79 #[.agg #[.int .i64 6, .int .i64 n, .slice A ks.length cap]] w fun e w' => ∃ u, e = .returned u ∧ New w w' (exT (.mk 6 n ks)) u ∧ Ext w w' := by
  obtain ⟨wb, hwb⟩ : ∃ wb, wb = (w.alloc (.cells #[.int .i64 6, .int .i64 n, .slice A ks.length cap] 44)).alloc (.cells #[.int .i64 0, .int .i64 0, .slice none 0 0] 28) := ⟨_, rfl⟩
  have hX : Ext w wb := hwb ▸ ((Ext.refl w).alloc _).alloc _
  have hbs : wb.heap.size = w.heap.size + 1 + 1 := by rw [hwb]; simp
  obtain ⟨hb0, hb1, -⟩ := blk2 (Ext.refl ((w.alloc (.cells #[.int .i64 6, .int .i64 n, .slice A ks.length cap] 44)).alloc (.cells #[.int .i64 0, .int .i64 0, .slice none 0 0] 28)))
  rw [← hwb] at hb0 hb1
  rw [show exT (.mk 6 n ks) = .mk 10 0 [] from rfl]
  go_enter Try.func79, Try.ntmps79
  go_wp2_with fail
  rw [← hwb]
  refine (l12Node_any wb 10 none 0 [] (fun _ => rfl) (fun _ => False) (fun _ h => h.elim) (.inl rfl) (by simp)).mono ?_
  rintro e w3 ⟨u, rfl, hI, hE⟩
  have hs1 := hE.size
  obtain ⟨a1', a2', a3', a4', a5', rfl⟩ := hI.three
  obtain ⟨s0, s1, s2, f0, f1, f2⟩ := own3 (hE.blk hb1)
  clear hb1 hb0
  go_wp2_with fail
  refine bodyPost_ret (v := .agg #[.int .i64 a1', .int .i64 a2', .slice a3' a4' a5']) (by simp [results, Try.results79, go_sem, s0, s1, s2]) rfl ⟨_, rfl, ?_, ?_⟩
  · have hN : New wb w3 _ _ := hI.mono (fun b hb => by unfold Plus at hb; simp at hb; omega) (fun _ _ => rfl)
    exact New.since (hN.after ((((Above.refl _ _).setCell (by simp; omega) _).setCell (by simp; omega) _).setCell (by simp; omega) _)) (by omega)
  · exact ((((hX.trans hE).setCell (by simp) _).setCell (by simp) _).setCell (by simp) _)

set_option maxRecDepth 100000 in
set_option maxHeartbeats 1000000 in
theorem spExtract_7 (n : Int) (ks : List Tr) (hk : ∀ t ∈ ks, SExtC t) (d : Int) (hsh : ∀ t ∈ ks, shape sigT t d = true) (w : World) (A : Option Addr) (cap : Nat) (hK : LiesK w A ks) (hl : ks.length ≤ cap) (hc : cap ≤ maxLen) (hks : Hid (ks.length = 0)) :
    Calls Try.prog 79 #[.agg #[.int .i64 7, .int .i64 n, .slice A ks.length cap]] w fun e w' => ∃ u, e = .returned u ∧ New w w' (exT (.mk 7 n ks)) u ∧ Ext w w' := by
  obtain ⟨wb, hwb⟩ : ∃ wb, wb = (w.alloc (.cells #[.int .i64 7, .int .i64 n, .slice A ks.length cap] 44)).alloc (.cells #[.int .i64 0, .int .i64 0, .slice none 0 0] 28) := ⟨_, rfl⟩
  have hX : Ext w wb := hwb ▸ ((Ext.refl w).alloc _).alloc _
  have hbs : wb.heap.size = w.heap.size + 1 + 1 := by rw [hwb]; simp
  obtain ⟨hb0, hb1, -⟩ := blk2 (Ext.refl ((w.alloc (.cells #[.int .i64 7, .int .i64 n, .slice A ks.length cap] 44)).alloc (.cells #[.int .i64 0, .int .i64 0, .slice none 0 0] 28)))
  rw [← hwb] at hb0 hb1
  rw [show exT (.mk 7 n ks) = .mk 4 0 [] from rfl]
  go_enter Try.func79, Try.ntmps79
  go_wp2_with fail
  rw [← hwb]
  refine (l12Node_any wb 4 none 0 [] (fun _ => rfl) (fun _ => False) (fun _ h => h.elim) (.inl rfl) (by simp)).mono ?_
  rintro e w3 ⟨u, rfl, hI, hE⟩
  have hs1 := hE.size
  obtain ⟨a1', a2', a3', a4', a5', rfl⟩ := hI.three
  obtain ⟨s0, s1, s2, f0, f1, f2⟩ := own3 (hE.blk hb1)
  clear hb1 hb0
  go_wp2_with fail
  refine bodyPost_ret (v := .agg #[.int .i64 a1', .int .i64 a2', .slice a3' a4' a5']) (by simp [results, Try.results79, go_sem, s0, s1, s2]) rfl ⟨_, rfl, ?_, ?_⟩
  · have hN : New wb w3 _ _ := hI.mono (fun b hb => by unfold Plus at hb; simp at hb; omega) (fun _ _ => rfl)
    exact New.since (hN.after ((((Above.refl _ _).setCell (by simp; omega) _).setCell (by simp; omega) _).setCell (by simp; omega) _)) (by omega)
  · exact ((((hX.trans hE).setCell (by simp) _).setCell (by simp) _).setCell (by simp) _)

set_option maxRecDepth 100000 in
set_option maxHeartbeats 1000000 in
theorem spExtract_8 (n : Int) (ks : List Tr) (hk : ∀ t ∈ ks, SExtC t) (d : Int) (hsh : ∀ t ∈ ks, shape sigT t d = true) (w : World) (A : Option Addr) (cap : Nat) (hK : LiesK w A ks) (hl : ks.length ≤ cap) (hc : cap ≤ maxLen) (hks : Hid (ks.length = 1)) :
    Calls Try.prog 79 #[.agg #[.int .i64 8, .int .i64 n, .slice A ks.length cap]] w fun e w' => ∃ u, e = .returned u ∧ New w w' (exT (.mk 8 n ks)) u ∧ Ext w w' := by
  obtain ⟨wb, hwb⟩ : ∃ wb, wb = (w.alloc (.cells #[.int .i64 8, .int .i64 n, .slice A ks.length cap] 44)).alloc (.cells #[.int .i64 0, .int .i64 0, .slice none 0 0] 28) := ⟨_, rfl⟩
  have hX : Ext w wb := hwb ▸ ((Ext.refl w).alloc _).alloc _
  have hbs : wb.heap.size = w.heap.size + 1 + 1 := by rw [hwb]; simp
  obtain ⟨hb0, hb1, -⟩ := blk2 (Ext.refl ((w.alloc (.cells #[.int .i64 8, .int .i64 n, .slice A ks.length cap] 44)).alloc (.cells #[.int .i64 0, .int .i64 0, .slice none 0 0] 28)))
  rw [← hwb] at hb0 hb1
  have hlt0 : 0 < ks.length := by have := hks.out; omega
  have hi0 : (0 : Int) < (ks.length : Int) := by have := hks.out; omega
  obtain ⟨b, o0, k0, n0, A0, cap0, kids0, hA0, HK0, c00, c01, c02, hkl0, hkc0, hK0, hin0, hmem0⟩ := hK.get hX hlt0
  simp only [Nat.zero_mul, Nat.add_zero] at c00 c01 c02
  subst hA0
  have hlb := World.block_lt_of_cell? _ _ c00
  have hcc := hc
  unfold maxLen at hcc
  have e0 : (exS ks).getD 0 dflt = exT (.mk k0 n0 kids0) := by rw [exS_get hlt0, HK0.out]
  rw [show exT (.mk 8 n ks) = .mk 5 0 (sel (exS ks) [0]) from rfl, show sel (exS ks) [0] = [exT (.mk k0 n0 kids0)] from by simp only [sel, List.map_cons, List.map_nil, e0]]
  clear e0
  go_enter Try.func79, Try.ntmps79
  rw [hwb] at c00 c01 c02
  go_wp2_with fail
  rw [← hwb]
  refine (hk _ hmem0 d _ _ (hsh _ hmem0) hin0).mono ?_
  rintro e w1 ⟨u, rfl, hM, h1⟩
  obtain ⟨a1, a2, a3, a4, a5, rfl⟩ := hM.three
  have hs1 := h1.size
  go_wp2_with fail
  refine (l12Node_any _ 5 _ 1 [exT (.mk k0 n0 kids0)] (by intro h; cases h) (fun b => wb.heap.size ≤ b ∧ b < w1.heap.size + 1) (by intro b hb; simp; omega) (InK.one (hM.to ((Ext.refl w1).alloc _) (Nat.le_refl _) (fun b h h' => ⟨h, by omega⟩)) (heap_alloc_new w1 _) ⟨hs1, by omega⟩) (by simp)).mono ?_
  rintro e w3 ⟨u, rfl, hI, h3⟩
  have hs3 := h3.size
  simp only [World.size_alloc] at hs3
  have hE := h1.trans h3.pre
  obtain ⟨a1', a2', a3', a4', a5', rfl⟩ := hI.three
  obtain ⟨s0, s1, s2, f0, f1, f2⟩ := own3 (hE.blk hb1)
  clear hb1 hb0 c00 c01 c02
  go_wp2_with fail
  refine bodyPost_ret (v := .agg #[.int .i64 a1', .int .i64 a2', .slice a3' a4' a5']) (by simp [results, Try.results79, go_sem, s0, s1, s2]) rfl ⟨_, rfl, ?_, ?_⟩
  · have hN : New wb w3 _ _ := hI.mono (fun b hb => by unfold Plus at hb; simp at hb; omega) (fun _ _ => rfl)
    exact New.since (hN.after ((((Above.refl _ _).setCell (by simp; omega) _).setCell (by simp; omega) _).setCell (by simp; omega) _)) (by omega)
  · exact ((((hX.trans hE).setCell (by simp) _).setCell (by simp) _).setCell (by simp) _)

set_option maxRecDepth 100000 in
set_option maxHeartbeats 1000000 in
theorem spExtract_9 (n : Int) (ks : List Tr) (hk : ∀ t ∈ ks, SExtC t) (d : Int) (hsh : ∀ t ∈ ks, shape sigT t d = true) (w : World) (A : Option Addr) (cap : Nat) (hK : LiesK w A ks) (hl : ks.length ≤ cap) (hc : cap ≤ maxLen) (hks : Hid (ks.length = 4)) :
    Calls Try.prog 79 #[.agg #[.int .i64 9, .int .i64 n, .slice A ks.length cap]] w fun e w' => ∃ u, e = .returned u ∧ New w w' (exT (.mk 9 n ks)) u ∧ Ext w w' := by
  obtain ⟨wb, hwb⟩ : ∃ wb, wb = (w.alloc (.cells #[.int .i64 9, .int .i64 n, .slice A ks.length cap] 44)).alloc (.cells #[.int .i64 0, .int .i64 0, .slice none 0 0] 28) := ⟨_, rfl⟩
  have hX : Ext w wb := hwb ▸ ((Ext.refl w).alloc _).alloc _
  have hbs : wb.heap.size = w.heap.size + 1 + 1 := by rw [hwb]; simp
  obtain ⟨hb0, hb1, -⟩ := blk2 (Ext.refl ((w.alloc (.cells #[.int .i64 9, .int .i64 n, .slice A ks.length cap] 44)).alloc (.cells #[.int .i64 0, .int .i64 0, .slice none 0 0] 28)))
  rw [← hwb] at hb0 hb1
  have hlt0 : 1 < ks.length := by have := hks.out; omega
  have hi0 : (1 : Int) < (ks.length : Int) := by have := hks.out; omega
  obtain ⟨b, o0, k0, n0, A0, cap0, kids0, hA0, HK0, c00, c01, c02, hkl0, hkc0, hK0, hin0, hmem0⟩ := hK.get hX hlt0
  have hlt1 : 2 < ks.length := by have := hks.out; omega
  have hi1 : (2 : Int) < (ks.length : Int) := by have := hks.out; omega
  obtain ⟨b1, o1, k1, n1, A1, cap1, kids1, hA1, HK1, c10, c11, c12, hkl1, hkc1, hK1, hin1, hmem1⟩ := hK.get hX hlt1
  have hlt2 : 3 < ks.length := by have := hks.out; omega
  have hi2 : (3 : Int) < (ks.length : Int) := by have := hks.out; omega
  obtain ⟨b2, o2, k2, n2, A2, cap2, kids2, hA2, HK2, c20, c21, c22, hkl2, hkc2, hK2, hin2, hmem2⟩ := hK.get hX hlt2
  subst hA0
  injection hA1 with hA1
  injection hA1 with hB1 hC1 hD1
  subst hB1 hC1
  injection hA2 with hA2
  injection hA2 with hB2 hC2 hD2
  subst hB2 hC2
  have hlb := World.block_lt_of_cell? _ _ c00
  have hcc := hc
  unfold maxLen at hcc
  have e0 : (exS ks).getD 1 dflt = exT (.mk k0 n0 kids0) := by rw [exS_get hlt0, HK0.out]
  have e1 : (exS ks).getD 2 dflt = exT (.mk k1 n1 kids1) := by rw [exS_get hlt1, HK1.out]
  have e2 : (exS ks).getD 3 dflt = exT (.mk k2 n2 kids2) := by rw [exS_get hlt2, HK2.out]
  rw [show exT (.mk 9 n ks) = .mk 6 0 (sel (exS ks) [1, 2, 3]) from rfl, show sel (exS ks) [1, 2, 3] = [exT (.mk k0 n0 kids0), exT (.mk k1 n1 kids1), exT (.mk k2 n2 kids2)] from by simp only [sel, List.map_cons, List.map_nil, e0, e1, e2]]
  clear e0 e1 e2
  go_enter Try.func79, Try.ntmps79
  have hbk : b < w.heap.size := by
    rcases hK with hK | ⟨b', o', hab, hb', -⟩
    · have := hks.out; rw [hK] at this; simp at this
    · injection hab with hab; injection hab with hab; omega
  have hcells : ∀ w', Only [w.heap.size + 1] wb w' → w'.cell? ⟨w.heap.size, 2, none⟩ = some (.slice (some ⟨b, o0, none⟩) ks.length cap) ∧ w'.cell? ⟨b, o0 + 3, none⟩ = some (.int .i64 k0) ∧ w'.cell? ⟨b, o0 + 4, none⟩ = some (.int .i64 n0) ∧ w'.cell? ⟨b, o0 + 5, none⟩ = some (.slice A0 kids0.length cap0) ∧ w'.cell? ⟨b, o0 + 6, none⟩ = some (.int .i64 k1) ∧ w'.cell? ⟨b, o0 + 7, none⟩ = some (.int .i64 n1) ∧ w'.cell? ⟨b, o0 + 8, none⟩ = some (.slice A1 kids1.length cap1) ∧ w'.cell? ⟨b, o0 + 9, none⟩ = some (.int .i64 k2) ∧ w'.cell? ⟨b, o0 + 10, none⟩ = some (.int .i64 n2) ∧ w'.cell? ⟨b, o0 + 11, none⟩ = some (.slice A2 kids2.length cap2) := by
    intro w' h
    have hfar : ∀ q i v, q < w.heap.size + 1 → wb.cell? ⟨q, i, none⟩ = some v → w'.cell? ⟨q, i, none⟩ = some v := fun q i v hq hv =>
      (World.cell?_of_block (a := ⟨q, i, none⟩) (h.block q (by omega) (by simp; omega))).trans hv
    exact ⟨hfar _ _ _ (by omega) (cell_of_blk hb0 2), hfar _ _ _ (by omega) c00, hfar _ _ _ (by omega) c01, hfar _ _ _ (by omega) c02, hfar _ _ _ (by omega) c10, hfar _ _ _ (by omega) c11, hfar _ _ _ (by omega) c12, hfar _ _ _ (by omega) c20, hfar _ _ _ (by omega) c21, hfar _ _ _ (by omega) c22⟩
  have HC := Lib.hid hcells
  have hEd : Ext wb wb.drew := (Ext.refl wb).drew
  clear hcells
  go_wp2_with fail
  rw [← hwb]
  clear hwb
  go_region_held3 (fun w' => w'.cell? ⟨w.heap.size, 2, none⟩ = some (.slice (some ⟨b, o0, none⟩) ks.length cap) ∧ w'.cell? ⟨b, o0 + 3, none⟩ = some (.int .i64 k0) ∧ w'.cell? ⟨b, o0 + 4, none⟩ = some (.int .i64 n0) ∧ w'.cell? ⟨b, o0 + 5, none⟩ = some (.slice A0 kids0.length cap0) ∧ w'.cell? ⟨b, o0 + 6, none⟩ = some (.int .i64 k1) ∧ w'.cell? ⟨b, o0 + 7, none⟩ = some (.int .i64 n1) ∧ w'.cell? ⟨b, o0 + 8, none⟩ = some (.slice A1 kids1.length cap1) ∧ w'.cell? ⟨b, o0 + 9, none⟩ = some (.int .i64 k2) ∧ w'.cell? ⟨b, o0 + 10, none⟩ = some (.int .i64 n2) ∧ w'.cell? ⟨b, o0 + 11, none⟩ = some (.slice A2 kids2.length cap2))
    (first | exact HC.out _ ((((Only.of_ext ((((hEd.trans h1).trans h2).trans h3).trans hz.pre)).setCell (by simp) _).setCell (by simp) _).setCell (by simp) _) | exact HC.out _ (Only.of_ext ((((hEd.trans h1).trans h2).trans h3).trans hz.pre)) | exact HC.out _ (Only.of_ext ((((hEd.trans h1).trans h2).trans h3).alloc _)) | exact HC.out _ (Only.of_ext (((hEd.trans h1).trans h2).trans h3)) | exact HC.out _ (Only.of_ext ((hEd.trans h1).trans h2)) | exact HC.out _ (Only.of_ext (hEd.trans h1)) | exact HC.out _ (Only.of_ext hEd))
    (first | (go_at_call_of 79 A0; refine (hk _ hmem0 d _ _ (hsh _ hmem0) (hin0.ext (hEd))).mono ?_; rintro e w1 ⟨u1, rfl, hM1, h1⟩; obtain ⟨a01, a02, a03, a04, a05, rfl⟩ := hM1.three; have hs1 := h1.size) | (go_at_call_of 79 A1; refine (hk _ hmem1 d _ _ (hsh _ hmem1) (hin1.ext (hEd.trans (h1)))).mono ?_; rintro e w2 ⟨u2, rfl, hM2, h2⟩; obtain ⟨a11, a12, a13, a14, a15, rfl⟩ := hM2.three; have hs2 := h2.size) | (go_at_call_of 79 A2; refine (hk _ hmem2 d _ _ (hsh _ hmem2) (hin2.ext (hEd.trans (h1.trans (h2))))).mono ?_; rintro e w3 ⟨u3, rfl, hM3, h3⟩; obtain ⟨a21, a22, a23, a24, a25, rfl⟩ := hM3.three; have hs3 := h3.size) | (go_at_call 140; refine (l12Node_any _ 6 _ 3 [exT (.mk k0 n0 kids0), exT (.mk k1 n1 kids1), exT (.mk k2 n2 kids2)] (by intro h; cases h) (fun b => wb.heap.size ≤ b ∧ b < w3.heap.size + 1) (by intro b hb; simp; omega) (InK.three (hM1.to (W := wb) ((((Ext.refl _).trans h2).trans h3).alloc _) (Nat.le_refl _) (fun b h h' => ⟨h, by omega⟩)) (hM2.to (W := wb) (((Ext.refl _).trans h3).alloc _) (by have := hEd.size; omega) (fun b h h' => ⟨h, by omega⟩)) (hM3.to (W := wb) ((Ext.refl _).alloc _) (by have := hEd.size; omega) (fun b h h' => ⟨h, by omega⟩)) (heap_alloc_new w3 _) ⟨by have := hEd.size; omega, by omega⟩) (by simp)).mono ?_; rintro e wz ⟨u, rfl, hI, hz⟩; obtain ⟨a1', a2', a3', a4', a5', rfl⟩ := hI.three; obtain ⟨s0, s1, s2, f0, f1, f2⟩ := own3 (((((hEd.trans h1).trans h2).trans h3).trans hz.pre).blk hb1)))
  have hE := (((hEd.trans h1).trans h2).trans h3).trans hz.pre
  have hsz := hE.size
  have hsd := hEd.size
  have hs9 := hz.size
  simp only [World.size_alloc] at hs9
  clear HC hb0 hb1
  go_wp2_with fail
  refine bodyPost_ret (v := .agg #[.int .i64 a1', .int .i64 a2', .slice a3' a4' a5']) (by simp [results, Try.results79, go_sem, s0, s1, s2]) rfl ⟨_, rfl, ?_, ?_⟩
  · have hN : New wb wz _ _ := hI.mono (fun b hb => by unfold Plus at hb; simp at hb; omega) (fun _ _ => rfl)
    exact New.since (hN.after ((((Above.refl _ _).setCell (by simp; omega) _).setCell (by simp; omega) _).setCell (by simp; omega) _)) (by omega)
  · exact ((((hX.trans hE).setCell (by simp) _).setCell (by simp) _).setCell (by simp) _)

set_option maxRecDepth 100000 in
set_option maxHeartbeats 1000000 in
theorem spExtract_10 (n : Int) (ks : List Tr) (hk : ∀ t ∈ ks, SExtC t) (d : Int) (hsh : ∀ t ∈ ks, shape sigT t d = true) (w : World) (A : Option Addr) (cap : Nat) (hK : LiesK w A ks) (hl : ks.length ≤ cap) (hc : cap ≤ maxLen) (hks : Hid (ks.length = 3)) :
    Calls Try.prog 79 #[.agg #[.int .i64 10, .int .i64 n, .slice A ks.length cap]] w fun e w' => ∃ u, e = .returned u ∧ New w w' (exT (.mk 10 n ks)) u ∧ Ext w w' := by
  obtain ⟨wb, hwb⟩ : ∃ wb, wb = (w.alloc (.cells #[.int .i64 10, .int .i64 n, .slice A ks.length cap] 44)).alloc (.cells #[.int .i64 0, .int .i64 0, .slice none 0 0] 28) := ⟨_, rfl⟩
  have hX : Ext w wb := hwb ▸ ((Ext.refl w).alloc _).alloc _
  have hbs : wb.heap.size = w.heap.size + 1 + 1 := by rw [hwb]; simp
  obtain ⟨hb0, hb1, -⟩ := blk2 (Ext.refl ((w.alloc (.cells #[.int .i64 10, .int .i64 n, .slice A ks.length cap] 44)).alloc (.cells #[.int .i64 0, .int .i64 0, .slice none 0 0] 28)))
  rw [← hwb] at hb0 hb1
  rw [show exT (.mk 10 n ks) = .mk 10 0 [] from rfl]
  go_enter Try.func79, Try.ntmps79
  go_wp2_with fail
  rw [← hwb]
  refine (l12Node_any wb 10 none 0 [] (fun _ => rfl) (fun _ => False) (fun _ h => h.elim) (.inl rfl) (by simp)).mono ?_
  rintro e w3 ⟨u, rfl, hI, hE⟩
  have hs1 := hE.size
  obtain ⟨a1', a2', a3', a4', a5', rfl⟩ := hI.three
  obtain ⟨s0, s1, s2, f0, f1, f2⟩ := own3 (hE.blk hb1)
  clear hb1 hb0
  go_wp2_with fail
  refine bodyPost_ret (v := .agg #[.int .i64 a1', .int .i64 a2', .slice a3' a4' a5']) (by simp [results, Try.results79, go_sem, s0, s1, s2]) rfl ⟨_, rfl, ?_, ?_⟩
  · have hN : New wb w3 _ _ := hI.mono (fun b hb => by unfold Plus at hb; simp at hb; omega) (fun _ _ => rfl)
    exact New.since (hN.after ((((Above.refl _ _).setCell (by simp; omega) _).setCell (by simp; omega) _).setCell (by simp; omega) _)) (by omega)
  · exact ((((hX.trans hE).setCell (by simp) _).setCell (by simp) _).setCell (by simp) _)

set_option maxRecDepth 100000 in
set_option maxHeartbeats 1000000 in
theorem spExtract_11 (n : Int) (ks : List Tr) (hk : ∀ t ∈ ks, SExtC t) (d : Int) (hsh : ∀ t ∈ ks, shape sigT t d = true) (w : World) (A : Option Addr) (cap : Nat) (hK : LiesK w A ks) (hl : ks.length ≤ cap) (hc : cap ≤ maxLen) (hks : Hid (ks.length = 1)) :
    Calls Try.prog 79 #[.agg #[.int .i64 11, .int .i64 n, .slice A ks.length cap]] w fun e w' => ∃ u, e = .returned u ∧ New w w' (exT (.mk 11 n ks)) u ∧ Ext w w' := by
  obtain ⟨wb, hwb⟩ : ∃ wb, wb = (w.alloc (.cells #[.int .i64 11, .int .i64 n, .slice A ks.length cap] 44)).alloc (.cells #[.int .i64 0, .int .i64 0, .slice none 0 0] 28) := ⟨_, rfl⟩
  have hX : Ext w wb := hwb ▸ ((Ext.refl w).alloc _).alloc _
  have hbs : wb.heap.size = w.heap.size + 1 + 1 := by rw [hwb]; simp
  obtain ⟨hb0, hb1, -⟩ := blk2 (Ext.refl ((w.alloc (.cells #[.int .i64 11, .int .i64 n, .slice A ks.length cap] 44)).alloc (.cells #[.int .i64 0, .int .i64 0, .slice none 0 0] 28)))
  rw [← hwb] at hb0 hb1
  rw [show exT (.mk 11 n ks) = .mk 10 0 [] from rfl]
  go_enter Try.func79, Try.ntmps79
  go_wp2_with fail
  rw [← hwb]
  refine (l12Node_any wb 10 none 0 [] (fun _ => rfl) (fun _ => False) (fun _ h => h.elim) (.inl rfl) (by simp)).mono ?_
  rintro e w3 ⟨u, rfl, hI, hE⟩
  have hs1 := hE.size
  obtain ⟨a1', a2', a3', a4', a5', rfl⟩ := hI.three
  obtain ⟨s0, s1, s2, f0, f1, f2⟩ := own3 (hE.blk hb1)
  clear hb1 hb0
  go_wp2_with fail
  refine bodyPost_ret (v := .agg #[.int .i64 a1', .int .i64 a2', .slice a3' a4' a5']) (by simp [results, Try.results79, go_sem, s0, s1, s2]) rfl ⟨_, rfl, ?_, ?_⟩
  · have hN : New wb w3 _ _ := hI.mono (fun b hb => by unfold Plus at hb; simp at hb; omega) (fun _ _ => rfl)
    exact New.since (hN.after ((((Above.refl _ _).setCell (by simp; omega) _).setCell (by simp; omega) _).setCell (by simp; omega) _)) (by omega)
  · exact ((((hX.trans hE).setCell (by simp) _).setCell (by simp) _).setCell (by simp) _)

set_option maxRecDepth 100000 in
set_option maxHeartbeats 1000000 in
theorem spExtract_12 (n : Int) (ks : List Tr) (hk : ∀ t ∈ ks, SExtC t) (d : Int) (hsh : ∀ t ∈ ks, shape sigT t d = true) (w : World) (A : Option Addr) (cap : Nat) (hK : LiesK w A ks) (hl : ks.length ≤ cap) (hc : cap ≤ maxLen) (hks : Hid (ks.length = 3)) :
    Calls Try.prog 79 #[.agg #[.int .i64 12, .int .i64 n, .slice A ks.length cap]] w fun e w' => ∃ u, e = .returned u ∧ New w w' (exT (.mk 12 n ks)) u ∧ Ext w w' := by
  obtain ⟨wb, hwb⟩ : ∃ wb, wb = (w.alloc (.cells #[.int .i64 12, .int .i64 n, .slice A ks.length cap] 44)).alloc (.cells #[.int .i64 0, .int .i64 0, .slice none 0 0] 28) := ⟨_, rfl⟩
  have hX : Ext w wb := hwb ▸ ((Ext.refl w).alloc _).alloc _
  have hbs : wb.heap.size = w.heap.size + 1 + 1 := by rw [hwb]; simp
  obtain ⟨hb0, hb1, -⟩ := blk2 (Ext.refl ((w.alloc (.cells #[.int .i64 12, .int .i64 n, .slice A ks.length cap] 44)).alloc (.cells #[.int .i64 0, .int .i64 0, .slice none 0 0] 28)))
  rw [← hwb] at hb0 hb1
  have hlt0 : 2 < ks.length := by have := hks.out; omega
  have hi0 : (2 : Int) < (ks.length : Int) := by have := hks.out; omega
  obtain ⟨b, o0, k0, n0, A0, cap0, kids0, hA0, HK0, c00, c01, c02, hkl0, hkc0, hK0, hin0, hmem0⟩ := hK.get hX hlt0
  subst hA0
  have hlb := World.block_lt_of_cell? _ _ c00
  have hcc := hc
  unfold maxLen at hcc
  have e0 : (exS ks).getD 2 dflt = exT (.mk k0 n0 kids0) := by rw [exS_get hlt0, HK0.out]
  rw [show exT (.mk 12 n ks) = exT (.mk k0 n0 kids0) from e0]
  clear e0
  go_enter Try.func79, Try.ntmps79
  rw [hwb] at c00 c01 c02
  go_wp2_with fail
  rw [← hwb]
  refine (hk _ hmem0 d _ _ (hsh _ hmem0) hin0).mono ?_
  rintro e w1 ⟨u, rfl, hM, hE⟩
  obtain ⟨a1, a2, a3, a4, a5, rfl⟩ := hM.three
  have hs1 := hE.size
  obtain ⟨s0, s1, s2, f0, f1, f2⟩ := own3 (hE.blk hb1)
  clear hb1 hb0 c00 c01 c02
  go_wp2_with fail
  refine bodyPost_ret (v := .agg #[.int .i64 a1, .int .i64 a2, .slice a3 a4 a5]) (by simp [results, Try.results79, go_sem, s0, s1, s2]) rfl ⟨_, rfl, ?_, ?_⟩
  · exact New.since (hM.after ((((Above.refl _ _).setCell (by simp; omega) _).setCell (by simp; omega) _).setCell (by simp; omega) _)) (by omega)
  · exact ((((hX.trans hE).setCell (by simp) _).setCell (by simp) _).setCell (by simp) _)

set_option maxRecDepth 100000 in
set_option maxHeartbeats 1000000 in
theorem spExtract_13 (n : Int) (ks : List Tr) (hk : ∀ t ∈ ks, SExtC t) (d : Int) (hsh : ∀ t ∈ ks, shape sigT t d = true) (w : World) (A : Option Addr) (cap : Nat) (hK : LiesK w A ks) (hl : ks.length ≤ cap) (hc : cap ≤ maxLen) (hks : Hid (ks.length = 2)) :
    Calls Try.prog 79 #[.agg #[.int .i64 13, .int .i64 n, .slice A ks.length cap]] w fun e w' => ∃ u, e = .returned u ∧ New w w' (exT (.mk 13 n ks)) u ∧ Ext w w' := by
  obtain ⟨wb, hwb⟩ : ∃ wb, wb = (w.alloc (.cells #[.int .i64 13, .int .i64 n, .slice A ks.length cap] 44)).alloc (.cells #[.int .i64 0, .int .i64 0, .slice none 0 0] 28) := ⟨_, rfl⟩
  have hX : Ext w wb := hwb ▸ ((Ext.refl w).alloc _).alloc _
  have hbs : wb.heap.size = w.heap.size + 1 + 1 := by rw [hwb]; simp
  obtain ⟨hb0, hb1, -⟩ := blk2 (Ext.refl ((w.alloc (.cells #[.int .i64 13, .int .i64 n, .slice A ks.length cap] 44)).alloc (.cells #[.int .i64 0, .int .i64 0, .slice none 0 0] 28)))
  rw [← hwb] at hb0 hb1
  rw [show exT (.mk 13 n ks) = .mk 10 0 [] from rfl]
  go_enter Try.func79, Try.ntmps79
  go_wp2_with fail
  rw [← hwb]
  refine (l12Node_any wb 10 none 0 [] (fun _ => rfl) (fun _ => False) (fun _ h => h.elim) (.inl rfl) (by simp)).mono ?_
  rintro e w3 ⟨u, rfl, hI, hE⟩
  have hs1 := hE.size
  obtain ⟨a1', a2', a3', a4', a5', rfl⟩ := hI.three
  obtain ⟨s0, s1, s2, f0, f1, f2⟩ := own3 (hE.blk hb1)
  clear hb1 hb0
  go_wp2_with fail
  refine bodyPost_ret (v := .agg #[.int .i64 a1', .int .i64 a2', .slice a3' a4' a5']) (by simp [results, Try.results79, go_sem, s0, s1, s2]) rfl ⟨_, rfl, ?_, ?_⟩
  · have hN : New wb w3 _ _ := hI.mono (fun b hb => by unfold Plus at hb; simp at hb; omega) (fun _ _ => rfl)
    exact New.since (hN.after ((((Above.refl _ _).setCell (by simp; omega) _).setCell (by simp; omega) _).setCell (by simp; omega) _)) (by omega)
  · exact ((((hX.trans hE).setCell (by simp) _).setCell (by simp) _).setCell (by simp) _)

set_option maxRecDepth 100000 in
set_option maxHeartbeats 1000000 in
theorem spExtract_14 (n : Int) (ks : List Tr) (hk : ∀ t ∈ ks, SExtC t) (d : Int) (hsh : ∀ t ∈ ks, shape sigT t d = true) (w : World) (A : Option Addr) (cap : Nat) (hK : LiesK w A ks) (hl : ks.length ≤ cap) (hc : cap ≤ maxLen) (hks : Hid (ks.length = 3)) :
    Calls Try.prog 79 #[.agg #[.int .i64 14, .int .i64 n, .slice A ks.length cap]] w fun e w' => ∃ u, e = .returned u ∧ New w w' (exT (.mk 14 n ks)) u ∧ Ext w w' := by
  obtain ⟨wb, hwb⟩ : ∃ wb, wb = (w.alloc (.cells #[.int .i64 14, .int .i64 n, .slice A ks.length cap] 44)).alloc (.cells #[.int .i64 0, .int .i64 0, .slice none 0 0] 28) := ⟨_, rfl⟩
  have hX : Ext w wb := hwb ▸ ((Ext.refl w).alloc _).alloc _
  have hbs : wb.heap.size = w.heap.size + 1 + 1 := by rw [hwb]; simp
  obtain ⟨hb0, hb1, -⟩ := blk2 (Ext.refl ((w.alloc (.cells #[.int .i64 14, .int .i64 n, .slice A ks.length cap] 44)).alloc (.cells #[.int .i64 0, .int .i64 0, .slice none 0 0] 28)))
  rw [← hwb] at hb0 hb1
  have hlt0 : 1 < ks.length := by have := hks.out; omega
  have hi0 : (1 : Int) < (ks.length : Int) := by have := hks.out; omega
  obtain ⟨b, o0, k0, n0, A0, cap0, kids0, hA0, HK0, c00, c01, c02, hkl0, hkc0, hK0, hin0, hmem0⟩ := hK.get hX hlt0
  have hlt1 : 2 < ks.length := by have := hks.out; omega
  have hi1 : (2 : Int) < (ks.length : Int) := by have := hks.out; omega
  obtain ⟨b1, o1, k1, n1, A1, cap1, kids1, hA1, HK1, c10, c11, c12, hkl1, hkc1, hK1, hin1, hmem1⟩ := hK.get hX hlt1
  subst hA0
  injection hA1 with hA1
  injection hA1 with hB1 hC1 hD1
  subst hB1 hC1
  have hlb := World.block_lt_of_cell? _ _ c00
  have hcc := hc
  unfold maxLen at hcc
  have e0 : (exS ks).getD 1 dflt = exT (.mk k0 n0 kids0) := by rw [exS_get hlt0, HK0.out]
  have e1 : (exS ks).getD 2 dflt = exT (.mk k1 n1 kids1) := by rw [exS_get hlt1, HK1.out]
  rw [show exT (.mk 14 n ks) = .mk 7 0 (sel (exS ks) [1, 2]) from rfl, show sel (exS ks) [1, 2] = [exT (.mk k0 n0 kids0), exT (.mk k1 n1 kids1)] from by simp only [sel, List.map_cons, List.map_nil, e0, e1]]
  clear e0 e1
  go_enter Try.func79, Try.ntmps79
  have hbk : b < w.heap.size := by
    rcases hK with hK | ⟨b', o', hab, hb', -⟩
    · have := hks.out; rw [hK] at this; simp at this
    · injection hab with hab; injection hab with hab; omega
  have hcells : ∀ w', Only [w.heap.size + 1] wb w' → w'.cell? ⟨w.heap.size, 2, none⟩ = some (.slice (some ⟨b, o0, none⟩) ks.length cap) ∧ w'.cell? ⟨b, o0 + 3, none⟩ = some (.int .i64 k0) ∧ w'.cell? ⟨b, o0 + 4, none⟩ = some (.int .i64 n0) ∧ w'.cell? ⟨b, o0 + 5, none⟩ = some (.slice A0 kids0.length cap0) ∧ w'.cell? ⟨b, o0 + 6, none⟩ = some (.int .i64 k1) ∧ w'.cell? ⟨b, o0 + 7, none⟩ = some (.int .i64 n1) ∧ w'.cell? ⟨b, o0 + 8, none⟩ = some (.slice A1 kids1.length cap1) := by
    intro w' h
    have hfar : ∀ q i v, q < w.heap.size + 1 → wb.cell? ⟨q, i, none⟩ = some v → w'.cell? ⟨q, i, none⟩ = some v := fun q i v hq hv =>
      (World.cell?_of_block (a := ⟨q, i, none⟩) (h.block q (by omega) (by simp; omega))).trans hv
    exact ⟨hfar _ _ _ (by omega) (cell_of_blk hb0 2), hfar _ _ _ (by omega) c00, hfar _ _ _ (by omega) c01, hfar _ _ _ (by omega) c02, hfar _ _ _ (by omega) c10, hfar _ _ _ (by omega) c11, hfar _ _ _ (by omega) c12⟩
  have HC := Lib.hid hcells
  have hEd : Ext wb wb.drew := (Ext.refl wb).drew
  clear hcells
  go_wp2_with fail
  rw [← hwb]
  clear hwb
  go_region_held3 (fun w' => w'.cell? ⟨w.heap.size, 2, none⟩ = some (.slice (some ⟨b, o0, none⟩) ks.length cap) ∧ w'.cell? ⟨b, o0 + 3, none⟩ = some (.int .i64 k0) ∧ w'.cell? ⟨b, o0 + 4, none⟩ = some (.int .i64 n0) ∧ w'.cell? ⟨b, o0 + 5, none⟩ = some (.slice A0 kids0.length cap0) ∧ w'.cell? ⟨b, o0 + 6, none⟩ = some (.int .i64 k1) ∧ w'.cell? ⟨b, o0 + 7, none⟩ = some (.int .i64 n1) ∧ w'.cell? ⟨b, o0 + 8, none⟩ = some (.slice A1 kids1.length cap1))
    (first | exact HC.out _ ((((Only.of_ext (((hEd.trans h1).trans h2).trans hz.pre)).setCell (by simp) _).setCell (by simp) _).setCell (by simp) _) | exact HC.out _ (Only.of_ext (((hEd.trans h1).trans h2).trans hz.pre)) | exact HC.out _ (Only.of_ext (((hEd.trans h1).trans h2).alloc _)) | exact HC.out _ (Only.of_ext ((hEd.trans h1).trans h2)) | exact HC.out _ (Only.of_ext (hEd.trans h1)) | exact HC.out _ (Only.of_ext hEd))
    (first | (go_at_call_of 79 A0; refine (hk _ hmem0 d _ _ (hsh _ hmem0) (hin0.ext (hEd))).mono ?_; rintro e w1 ⟨u1, rfl, hM1, h1⟩; obtain ⟨a01, a02, a03, a04, a05, rfl⟩ := hM1.three; have hs1 := h1.size) | (go_at_call_of 79 A1; refine (hk _ hmem1 d _ _ (hsh _ hmem1) (hin1.ext (hEd.trans (h1)))).mono ?_; rintro e w2 ⟨u2, rfl, hM2, h2⟩; obtain ⟨a11, a12, a13, a14, a15, rfl⟩ := hM2.three; have hs2 := h2.size) | (go_at_call 140; refine (l12Node_any _ 7 _ 2 [exT (.mk k0 n0 kids0), exT (.mk k1 n1 kids1)] (by intro h; cases h) (fun b => wb.heap.size ≤ b ∧ b < w2.heap.size + 1) (by intro b hb; simp; omega) (InK.two (hM1.to (W := wb) (((Ext.refl _).trans h2).alloc _) (Nat.le_refl _) (fun b h h' => ⟨h, by omega⟩)) (hM2.to (W := wb) ((Ext.refl _).alloc _) (by have := hEd.size; omega) (fun b h h' => ⟨h, by omega⟩)) (heap_alloc_new w2 _) ⟨by have := hEd.size; omega, by omega⟩) (by simp)).mono ?_; rintro e wz ⟨u, rfl, hI, hz⟩; obtain ⟨a1', a2', a3', a4', a5', rfl⟩ := hI.three; obtain ⟨s0, s1, s2, f0, f1, f2⟩ := own3 ((((hEd.trans h1).trans h2).trans hz.pre).blk hb1)))
  have hE := ((hEd.trans h1).trans h2).trans hz.pre
  have hsz := hE.size
  have hsd := hEd.size
  have hs9 := hz.size
  simp only [World.size_alloc] at hs9
  clear HC hb0 hb1
  go_wp2_with fail
  refine bodyPost_ret (v := .agg #[.int .i64 a1', .int .i64 a2', .slice a3' a4' a5']) (by simp [results, Try.results79, go_sem, s0, s1, s2]) rfl ⟨_, rfl, ?_, ?_⟩
  · have hN : New wb wz _ _ := hI.mono (fun b hb => by unfold Plus at hb; simp at hb; omega) (fun _ _ => rfl)
    exact New.since (hN.after ((((Above.refl _ _).setCell (by simp; omega) _).setCell (by simp; omega) _).setCell (by simp; omega) _)) (by omega)
  · exact ((((hX.trans hE).setCell (by simp) _).setCell (by simp) _).setCell (by simp) _)

set_option maxRecDepth 100000 in
set_option maxHeartbeats 1000000 in
theorem spExtract_15 (n : Int) (ks : List Tr) (hk : ∀ t ∈ ks, SExtC t) (d : Int) (hsh : ∀ t ∈ ks, shape sigT t d = true) (w : World) (A : Option Addr) (cap : Nat) (hK : LiesK w A ks) (hl : ks.length ≤ cap) (hc : cap ≤ maxLen) (hks : Hid (ks.length = 1)) :
    Calls Try.prog 79 #[.agg #[.int .i64 15, .int .i64 n, .slice A ks.length cap]] w fun e w' => ∃ u, e = .returned u ∧ New w w' (exT (.mk 15 n ks)) u ∧ Ext w w' := by
  obtain ⟨wb, hwb⟩ : ∃ wb, wb = (w.alloc (.cells #[.int .i64 15, .int .i64 n, .slice A ks.length cap] 44)).alloc (.cells #[.int .i64 0, .int .i64 0, .slice none 0 0] 28) := ⟨_, rfl⟩
  have hX : Ext w wb := hwb ▸ ((Ext.refl w).alloc _).alloc _
  have hbs : wb.heap.size = w.heap.size + 1 + 1 := by rw [hwb]; simp
  obtain ⟨hb0, hb1, -⟩ := blk2 (Ext.refl ((w.alloc (.cells #[.int .i64 15, .int .i64 n, .slice A ks.length cap] 44)).alloc (.cells #[.int .i64 0, .int .i64 0, .slice none 0 0] 28)))
  rw [← hwb] at hb0 hb1
  have hlt0 : 0 < ks.length := by have := hks.out; omega
  have hi0 : (0 : Int) < (ks.length : Int) := by have := hks.out; omega
  obtain ⟨b, o0, k0, n0, A0, cap0, kids0, hA0, HK0, c00, c01, c02, hkl0, hkc0, hK0, hin0, hmem0⟩ := hK.get hX hlt0
  simp only [Nat.zero_mul, Nat.add_zero] at c00 c01 c02
  subst hA0
  have hlb := World.block_lt_of_cell? _ _ c00
  have hcc := hc
  unfold maxLen at hcc
  have e0 : (exS ks).getD 0 dflt = exT (.mk k0 n0 kids0) := by rw [exS_get hlt0, HK0.out]
  rw [show exT (.mk 15 n ks) = .mk 8 0 (sel (exS ks) [0]) from rfl, show sel (exS ks) [0] = [exT (.mk k0 n0 kids0)] from by simp only [sel, List.map_cons, List.map_nil, e0]]
  clear e0
  go_enter Try.func79, Try.ntmps79
  rw [hwb] at c00 c01 c02
  go_wp2_with fail
  rw [← hwb]
  refine (hk _ hmem0 d _ _ (hsh _ hmem0) hin0).mono ?_
  rintro e w1 ⟨u, rfl, hM, h1⟩
  obtain ⟨a1, a2, a3, a4, a5, rfl⟩ := hM.three
  have hs1 := h1.size
  go_wp2_with fail
  refine (l12Node_any _ 8 _ 1 [exT (.mk k0 n0 kids0)] (by intro h; cases h) (fun b => wb.heap.size ≤ b ∧ b < w1.heap.size + 1) (by intro b hb; simp; omega) (InK.one (hM.to ((Ext.refl w1).alloc _) (Nat.le_refl _) (fun b h h' => ⟨h, by omega⟩)) (heap_alloc_new w1 _) ⟨hs1, by omega⟩) (by simp)).mono ?_
  rintro e w3 ⟨u, rfl, hI, h3⟩
  have hs3 := h3.size
  simp only [World.size_alloc] at hs3
  have hE := h1.trans h3.pre
  obtain ⟨a1', a2', a3', a4', a5', rfl⟩ := hI.three
  obtain ⟨s0, s1, s2, f0, f1, f2⟩ := own3 (hE.blk hb1)
  clear hb1 hb0 c00 c01 c02
  go_wp2_with fail
  refine bodyPost_ret (v := .agg #[.int .i64 a1', .int .i64 a2', .slice a3' a4' a5']) (by simp [results, Try.results79, go_sem, s0, s1, s2]) rfl ⟨_, rfl, ?_, ?_⟩
  · have hN : New wb w3 _ _ := hI.mono (fun b hb => by unfold Plus at hb; simp at hb; omega) (fun _ _ => rfl)
    exact New.since (hN.after ((((Above.refl _ _).setCell (by simp; omega) _).setCell (by simp; omega) _).setCell (by simp; omega) _)) (by omega)
  · exact ((((hX.trans hE).setCell (by simp) _).setCell (by simp) _).setCell (by simp) _)

set_option maxRecDepth 100000 in
set_option maxHeartbeats 1000000 in
theorem spExtract_16 (n : Int) (ks : List Tr) (hk : ∀ t ∈ ks, SExtC t) (d : Int) (hsh : ∀ t ∈ ks, shape sigT t d = true) (w : World) (A : Option Addr) (cap : Nat) (hK : LiesK w A ks) (hl : ks.length ≤ cap) (hc : cap ≤ maxLen) (hks : Hid (ks.length = 1)) :
    Calls Try.prog 79 #[.agg #[.int .i64 16, .int .i64 n, .slice A ks.length cap]] w fun e w' => ∃ u, e = .returned u ∧ New w w' (exT (.mk 16 n ks)) u ∧ Ext w w' := by
  obtain ⟨wb, hwb⟩ : ∃ wb, wb = (w.alloc (.cells #[.int .i64 16, .int .i64 n, .slice A ks.length cap] 44)).alloc (.cells #[.int .i64 0, .int .i64 0, .slice none 0 0] 28) := ⟨_, rfl⟩
  have hX : Ext w wb := hwb ▸ ((Ext.refl w).alloc _).alloc _
  have hbs : wb.heap.size = w.heap.size + 1 + 1 := by rw [hwb]; simp
  obtain ⟨hb0, hb1, -⟩ := blk2 (Ext.refl ((w.alloc (.cells #[.int .i64 16, .int .i64 n, .slice A ks.length cap] 44)).alloc (.cells #[.int .i64 0, .int .i64 0, .slice none 0 0] 28)))
  rw [← hwb] at hb0 hb1
  have hlt0 : 0 < ks.length := by have := hks.out; omega
  have hi0 : (0 : Int) < (ks.length : Int) := by have := hks.out; omega
  obtain ⟨b, o0, k0, n0, A0, cap0, kids0, hA0, HK0, c00, c01, c02, hkl0, hkc0, hK0, hin0, hmem0⟩ := hK.get hX hlt0
  simp only [Nat.zero_mul, Nat.add_zero] at c00 c01 c02
  subst hA0
  have hlb := World.block_lt_of_cell? _ _ c00
  have hcc := hc
  unfold maxLen at hcc
  have e0 : (exS ks).getD 0 dflt = exT (.mk k0 n0 kids0) := by rw [exS_get hlt0, HK0.out]
  rw [show exT (.mk 16 n ks) = .mk 9 0 (sel (exS ks) [0]) from rfl, show sel (exS ks) [0] = [exT (.mk k0 n0 kids0)] from by simp only [sel, List.map_cons, List.map_nil, e0]]
  clear e0
  go_enter Try.func79, Try.ntmps79
  rw [hwb] at c00 c01 c02
  go_wp2_with fail
  rw [← hwb]
  refine (hk _ hmem0 d _ _ (hsh _ hmem0) hin0).mono ?_
  rintro e w1 ⟨u, rfl, hM, h1⟩
  obtain ⟨a1, a2, a3, a4, a5, rfl⟩ := hM.three
  have hs1 := h1.size
  go_wp2_with fail
  refine (l12Node_any _ 9 _ 1 [exT (.mk k0 n0 kids0)] (by intro h; cases h) (fun b => wb.heap.size ≤ b ∧ b < w1.heap.size + 1) (by intro b hb; simp; omega) (InK.one (hM.to ((Ext.refl w1).alloc _) (Nat.le_refl _) (fun b h h' => ⟨h, by omega⟩)) (heap_alloc_new w1 _) ⟨hs1, by omega⟩) (by simp)).mono ?_
  rintro e w3 ⟨u, rfl, hI, h3⟩
  have hs3 := h3.size
  simp only [World.size_alloc] at hs3
  have hE := h1.trans h3.pre
  obtain ⟨a1', a2', a3', a4', a5', rfl⟩ := hI.three
  obtain ⟨s0, s1, s2, f0, f1, f2⟩ := own3 (hE.blk hb1)
  clear hb1 hb0 c00 c01 c02
  go_wp2_with fail
  refine bodyPost_ret (v := .agg #[.int .i64 a1', .int .i64 a2', .slice a3' a4' a5']) (by simp [results, Try.results79, go_sem, s0, s1, s2]) rfl ⟨_, rfl, ?_, ?_⟩
  · have hN : New wb w3 _ _ := hI.mono (fun b hb => by unfold Plus at hb; simp at hb; omega) (fun _ _ => rfl)
    exact New.since (hN.after ((((Above.refl _ _).setCell (by simp; omega) _).setCell (by simp; omega) _).setCell (by simp; omega) _)) (by omega)
  · exact ((((hX.trans hE).setCell (by simp) _).setCell (by simp) _).setCell (by simp) _)

theorem spExtract_any : ∀ t : Tr, SExtC t := Tr.ind fun k n ks hk => by
  intro d w v hsh hin
  obtain ⟨A, cap, rfl, hl, hc, hK⟩ := Lies.mk_iff.1 hin
  obtain ⟨h1, h2, h3, h4⟩ := shape_kids hsh
  simp only [sigT] at h1
  have hr : 1 ≤ k ∧ k ≤ 16 := by
    by_cases h : 1 ≤ k ∧ k ≤ 16
    · exact h
    · exfalso
      unfold opsT at h1
      rw [if_neg (by omega), if_neg (by omega), if_neg (by omega), if_neg (by omega), if_neg (by omega), if_neg (by omega), if_neg (by omega), if_neg (by omega), if_neg (by omega), if_neg (by omega), if_neg (by omega), if_neg (by omega), if_neg (by omega), if_neg (by omega), if_neg (by omega), if_neg (by omega)] at h1
      omega
  rcases (show k = 1 ∨ k = 2 ∨ k = 3 ∨ k = 4 ∨ k = 5 ∨ k = 6 ∨ k = 7 ∨ k = 8 ∨ k = 9 ∨ k = 10 ∨ k = 11 ∨ k = 12 ∨ k = 13 ∨ k = 14 ∨ k = 15 ∨ k = 16 from by omega) with rfl | rfl | rfl | rfl | rfl | rfl | rfl | rfl | rfl | rfl | rfl | rfl | rfl | rfl | rfl | rfl
  · exact spExtract_1 n ks hk _ h4 w A cap hK hl hc (Lib.hid (by have : (0 : Int) = (ks.length : Int) := h1; omega))
  · exact spExtract_2 n ks hk _ h4 w A cap hK hl hc (Lib.hid (by have : (0 : Int) = (ks.length : Int) := h1; omega))
  · exact spExtract_3 n ks hk _ h4 w A cap hK hl hc (Lib.hid (by have : (2 : Int) = (ks.length : Int) := h1; omega))
  · exact spExtract_4 n ks hk _ h4 w A cap hK hl hc (Lib.hid (by have : (2 : Int) = (ks.length : Int) := h1; omega))
  · exact spExtract_5 n ks hk _ h4 w A cap hK hl hc (Lib.hid (by have : (2 : Int) = (ks.length : Int) := h1; omega))
  · exact spExtract_6 n ks hk _ h4 w A cap hK hl hc (Lib.hid (by have : (0 : Int) = (ks.length : Int) := h1; omega))
  · exact spExtract_7 n ks hk _ h4 w A cap hK hl hc (Lib.hid (by have : (0 : Int) = (ks.length : Int) := h1; omega))
  · exact spExtract_8 n ks hk _ h4 w A cap hK hl hc (Lib.hid (by have : (1 : Int) = (ks.length : Int) := h1; omega))
  · exact spExtract_9 n ks hk _ h4 w A cap hK hl hc (Lib.hid (by have : (4 : Int) = (ks.length : Int) := h1; omega))
  · exact spExtract_10 n ks hk _ h4 w A cap hK hl hc (Lib.hid (by have : (3 : Int) = (ks.length : Int) := h1; omega))
  · exact spExtract_11 n ks hk _ h4 w A cap hK hl hc (Lib.hid (by have : (1 : Int) = (ks.length : Int) := h1; omega))
  · exact spExtract_12 n ks hk _ h4 w A cap hK hl hc (Lib.hid (by have : (3 : Int) = (ks.length : Int) := h1; omega))
  · exact spExtract_13 n ks hk _ h4 w A cap hK hl hc (Lib.hid (by have : (2 : Int) = (ks.length : Int) := h1; omega))
  · exact spExtract_14 n ks hk _ h4 w A cap hK hl hc (Lib.hid (by have : (3 : Int) = (ks.length : Int) := h1; omega))
  · exact spExtract_15 n ks hk _ h4 w A cap hK hl hc (Lib.hid (by have : (1 : Int) = (ks.length : Int) := h1; omega))
  · exact spExtract_16 n ks hk _ h4 w A cap hK hl hc (Lib.hid (by have : (1 : Int) = (ks.length : Int) := h1; omega))
end Go.Proofs.Ytappakllopkfiaa

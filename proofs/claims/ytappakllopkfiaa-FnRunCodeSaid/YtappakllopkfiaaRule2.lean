/-
  The reference's l12Rule: a CodeRec at a successor; all kinds.
-/
import Derived.Test.YtappakllopkfiaaRule
import Derived.Test.YtappakllopkfiaaCStep
namespace Go.Proofs.Ytappakllopkfiaa
open Go.RowKit
set_option linter.unusedVariables false

structure KeptR (p : Prop) : Prop where
  out : p
theorem onceR {T p : Prop} (h : KeptR T → p) (k : T) : p := h ⟨k⟩
theorem l12Copy_from (t : Tr) (w : World) (v : Value) (hin : Lies w t v) (hc : cnt t ≤ 1000000) : Calls Try.prog 60 #[v] w fun e w' => ∃ a1 a2 a3 a4 a5 z y, e = .returned (.agg #[.int .i64 a1, .int .i64 a2, .slice a3 a4 a5]) ∧ InT w' (fun b => z ≤ b ∧ b < y) t (.agg #[.int .i64 a1, .int .i64 a2, .slice a3 a4 a5]) ∧ Ext w w' ∧ z = w.heap.size ∧ y = w'.heap.size := by
  refine (l12Copy_any t w v hin hc).mono ?_
  rintro e w' ⟨u, rfl, hM, h⟩
  obtain ⟨a1, a2, a3, a4, a5, rfl⟩ := hM.three'
  exact ⟨a1, a2, a3, a4, a5, _, _, rfl, hM.inT, h, rfl, rfl⟩
theorem node2 {w : World} {k : Int} {g : Nat} {t1 t2 : Tr} {v0 v1 v2 u0 u1 u2 : Value} {S1 S2 : Nat → Prop} (h1 : InT w S1 t1 (.agg #[v0, v1, v2])) (h2 : InT w S2 t2 (.agg #[u0, u1, u2])) (hg : w.heap[g]? = some (.cells #[v0, v1, v2, u0, u1, u2] 28 (0, 0))) :
    Calls Try.prog 140 #[.int .i64 k, .slice (some ⟨g, 0, none⟩) 2 2] w fun e w' => ∃ a1 a2 a3 a4 a5 z y, e = .returned (.agg #[.int .i64 a1, .int .i64 a2, .slice a3 a4 a5]) ∧ InT w' (fun b => (S1 b ∨ S2 b ∨ b = g) ∨ z ≤ b ∧ b < y) (.mk k 0 [t1, t2]) (.agg #[.int .i64 a1, .int .i64 a2, .slice a3 a4 a5]) ∧ Ext w w' ∧ z = w.heap.size ∧ y = w'.heap.size := by
  refine (l12Node_any w k (some ⟨g, 0, none⟩) 2 [t1, t2] (by intro h; cases h) (fun b => (S1 b ∨ S2 b ∨ b = g) ∧ b < w.heap.size) (fun b h => h.2) (InK.two (e := 28) (InT.mono (fun b h => ⟨.inl h.1, h.2⟩) (fun _ _ => rfl) h1.bound) (InT.mono (fun b h => ⟨.inr (.inl h.1), h.2⟩) (fun _ _ => rfl) h2.bound) hg ⟨.inr (.inr rfl), lt_of_blk hg⟩) (by simp)).mono ?_
  rintro e w' ⟨u, rfl, hM, h⟩
  obtain ⟨a1, a2, a3, a4, a5, rfl⟩ := InT.three hM
  exact ⟨_, _, _, _, _, _, _, rfl, InT.mono (fun b hb => by rcases hb with hb | hb; exact .inl hb.1; exact .inr hb) (fun _ _ => rfl) hM, h, rfl, rfl⟩
theorem node3 {w : World} {k : Int} {g : Nat} {t1 t2 t3 : Tr} {v0 v1 v2 u0 u1 u2 x0 x1 x2 : Value} {S1 S2 S3 : Nat → Prop} (h1 : InT w S1 t1 (.agg #[v0, v1, v2])) (h2 : InT w S2 t2 (.agg #[u0, u1, u2])) (h3 : InT w S3 t3 (.agg #[x0, x1, x2])) (hg : w.heap[g]? = some (.cells #[v0, v1, v2, u0, u1, u2, x0, x1, x2] 28 (0, 0))) :
    Calls Try.prog 140 #[.int .i64 k, .slice (some ⟨g, 0, none⟩) 3 3] w fun e w' => ∃ a1 a2 a3 a4 a5 z y, e = .returned (.agg #[.int .i64 a1, .int .i64 a2, .slice a3 a4 a5]) ∧ InT w' (fun b => (S1 b ∨ S2 b ∨ S3 b ∨ b = g) ∨ z ≤ b ∧ b < y) (.mk k 0 [t1, t2, t3]) (.agg #[.int .i64 a1, .int .i64 a2, .slice a3 a4 a5]) ∧ Ext w w' ∧ z = w.heap.size ∧ y = w'.heap.size := by
  refine (l12Node_any w k (some ⟨g, 0, none⟩) 3 [t1, t2, t3] (by intro h; cases h) (fun b => (S1 b ∨ S2 b ∨ S3 b ∨ b = g) ∧ b < w.heap.size) (fun b h => h.2) (InK.three (e := 28) (InT.mono (fun b h => ⟨.inl h.1, h.2⟩) (fun _ _ => rfl) h1.bound) (InT.mono (fun b h => ⟨.inr (.inl h.1), h.2⟩) (fun _ _ => rfl) h2.bound) (InT.mono (fun b h => ⟨.inr (.inr (.inl h.1)), h.2⟩) (fun _ _ => rfl) h3.bound) hg ⟨.inr (.inr (.inr rfl)), lt_of_blk hg⟩) (by simp)).mono ?_
  rintro e w' ⟨u, rfl, hM, h⟩
  obtain ⟨a1, a2, a3, a4, a5, rfl⟩ := InT.three hM
  exact ⟨_, _, _, _, _, _, _, rfl, InT.mono (fun b hb => by rcases hb with hb | hb; exact .inl hb.1; exact .inr hb) (fun _ _ => rfl) hM, h, rfl, rfl⟩

set_option maxRecDepth 100000 in
set_option maxHeartbeats 16000000 in
theorem l12Rule_6s (n : Int) (ks : List Tr) (d : Int) (hsh : ∀ t ∈ ks, shape sigC t d = true) (hcn : cnts ks ≤ 1000) (w : World) (A : Option Addr) (cap : Nat) (hK : LiesK w A ks) (hl : ks.length ≤ cap) (hc : cap ≤ maxLen) (hks : ks.length = 3) (hnot : (kid ks 2).kd = 5) :
    Calls Try.prog 132 #[.agg #[.int .i64 6, .int .i64 n, .slice A ks.length cap]] w (RulQ w (rul 6 ks)) := by
  obtain ⟨wb, hwb⟩ : ∃ wb, wb = (w.alloc (.cells #[.int .i64 6, .int .i64 n, .slice A ks.length cap] 28)).alloc (.cells #[.int .i64 0, .int .i64 0, .slice none 0 0] 28) := ⟨_, rfl⟩
  have hX : Ext w wb := hwb ▸ ((Ext.refl w).alloc _).alloc _
  have hbs : wb.heap.size = w.heap.size + 1 + 1 := by rw [hwb]; simp
  obtain ⟨hb0, hb1, -⟩ := blk2 (Ext.refl ((w.alloc (.cells #[.int .i64 6, .int .i64 n, .slice A ks.length cap] 28)).alloc (.cells #[.int .i64 0, .int .i64 0, .slice none 0 0] 28)))
  rw [← hwb] at hb0 hb1
  have hcc := hc
  unfold maxLen at hcc
  have hlt0 : 0 < ks.length := by omega
  have hi0 : (0 : Int) < (ks.length : Int) := by omega
  obtain ⟨b0, o0, k0, n0, A0, cap0, kids0, hA0, HK0, c00, c01, c02, hkl0, hkc0, hK0, hin0, hmem0⟩ := hK.get (Ext.refl w) hlt0
  simp only [Nat.zero_mul, Nat.add_zero] at c00 c01 c02
  have hkid0 : kid ks 0 = .mk k0 n0 kids0 := kid_get hlt0 HK0.out
  have hlt1 : 1 < ks.length := by omega
  have hi1 : (1 : Int) < (ks.length : Int) := by omega
  obtain ⟨b1, o1, k1, n1, A1, cap1, kids1, hA1, HK1, c10, c11, c12, hkl1, hkc1, hK1, hin1, hmem1⟩ := hK.get (Ext.refl w) hlt1
  simp only [Nat.one_mul, Nat.add_assoc, Nat.reduceAdd] at c10 c11 c12
  have hkid1 : kid ks 1 = .mk k1 n1 kids1 := kid_get hlt1 HK1.out
  have hlt2 : 2 < ks.length := by omega
  have hi2 : (2 : Int) < (ks.length : Int) := by omega
  obtain ⟨b2, o2, k2, n2, A2, cap2, kids2, hA2, HK2, c20, c21, c22, hkl2, hkc2, hK2, hin2, hmem2⟩ := hK.get (Ext.refl w) hlt2
  simp only [Nat.reduceMul, Nat.add_assoc, Nat.reduceAdd] at c20 c21 c22
  have hkid2 : kid ks 2 = .mk k2 n2 kids2 := kid_get hlt2 HK2.out
  subst hA0
  injection hA1 with hA1
  injection hA1 with hB1 hC1 hD1
  subst hB1 hC1
  injection hA2 with hA2
  injection hA2 with hB2 hC2 hD2
  subst hB2 hC2
  have hbk : b0 < w.heap.size := World.block_lt_of_cell? _ _ c00
  have hcm0 := cnt_mem hmem0
  have hcm1 := cnt_mem hmem1
  have hcm2 := cnt_mem hmem2
  rw [hkid2] at hnot
  simp only [Tr.kd] at hnot
  subst hnot
  obtain ⟨hops, -, -, hsk⟩ := shape_kids (hsh _ hmem2)
  have hlen : kids2.length = 1 := by have h9 : (1 : Int) = (kids2.length : Int) := hops; omega
  have hlt3 : 0 < kids2.length := by omega
  have hi3 : (0 : Int) < (kids2.length : Int) := by omega
  obtain ⟨b3, o3, k3, n3, A3, cap3, kids3, hA3, HK3, c30, c31, c32, hkl3, hkc3, hK3, hin3, hmem3⟩ := hK2.get (Ext.refl w) hlt3
  simp only [Nat.zero_mul, Nat.add_zero] at c30 c31 c32
  have hkid3 : kid kids2 0 = .mk k3 n3 kids3 := kid_get hlt3 HK3.out
  subst hA3
  have hbk3 : b3 < w.heap.size := World.block_lt_of_cell? _ _ c30
  have hcm3 := cnt_mem hmem3
  simp only [cnt] at hcm2
  have hrul : rul 6 ks = some (.mk 3 0 [.mk 3 0 [.mk k1 n1 kids1, .mk k3 n3 kids3], .mk 6 0 [.mk k0 n0 kids0, .mk k1 n1 kids1, .mk k3 n3 kids3]]) := by simp [rul, hkid0, hkid1, hkid2, hkid3, Tr.kd, Tr.kids]
  rw [hrul]
  obtain ⟨wS, hwS⟩ : ∃ wS, wS = wb.alloc (.cells #[.int .i64 5, .int .i64 n2, .slice (some ⟨b3, o3, none⟩) kids2.length cap2] 28) := ⟨_, rfl⟩
  have hXS : Ext wb wS := hwS ▸ (Ext.refl wb).alloc _
  have hX3 : Ext w wS := hX.trans hXS
  have hsS : wS.heap.size = w.heap.size + 3 := by rw [hwS]; simp; omega
  have hsSa : w.heap.size + 3 ≤ wS.heap.size := by omega
  have hsSb : wS.heap.size ≤ w.heap.size + 3 := by omega
  have hb2 : wS.heap[w.heap.size + 1 + 1]? = some (.cells #[.int .i64 5, .int .i64 n2, .slice (some ⟨b3, o3, none⟩) kids2.length cap2] 28 (0, 0)) := by
    have := heap_alloc_new wb (.cells #[.int .i64 5, .int .i64 n2, .slice (some ⟨b3, o3, none⟩) kids2.length cap2] 28)
    rw [hbs] at this
    rw [hwS]
    exact this
  replace hb0 := hXS.blk hb0
  replace hb1 := hXS.blk hb1
  have hcells : ∀ W, Ext wS W → ∀ w' : World, (∀ y, y < wS.heap.size → y ≠ w.heap.size + 1 → w'.heap[y]? = W.heap[y]?) → w'.cell? ⟨w.heap.size, 2, none⟩ = some (.slice (some ⟨b0, o0, none⟩) ks.length cap) ∧ w'.cell? ⟨b0, o0, none⟩ = some (.int .i64 k0) ∧ w'.cell? ⟨b0, o0 + 1, none⟩ = some (.int .i64 n0) ∧ w'.cell? ⟨b0, o0 + 2, none⟩ = some (.slice A0 kids0.length cap0) ∧ w'.cell? ⟨b0, o0 + 3, none⟩ = some (.int .i64 k1) ∧ w'.cell? ⟨b0, o0 + 4, none⟩ = some (.int .i64 n1) ∧ w'.cell? ⟨b0, o0 + 5, none⟩ = some (.slice A1 kids1.length cap1) ∧ w'.cell? ⟨w.heap.size + 1 + 1, 2, none⟩ = some (.slice (some ⟨b3, o3, none⟩) kids2.length cap2) ∧ w'.cell? ⟨b3, o3, none⟩ = some (.int .i64 k3) ∧ w'.cell? ⟨b3, o3 + 1, none⟩ = some (.int .i64 n3) ∧ w'.cell? ⟨b3, o3 + 2, none⟩ = some (.slice A3 kids3.length cap3) := by
    intro W hW w' h
    have hfar : ∀ q i v, q < wS.heap.size → q ≠ w.heap.size + 1 → wS.cell? ⟨q, i, none⟩ = some v → w'.cell? ⟨q, i, none⟩ = some v := fun q i v hq hn hv =>
      (World.cell?_of_block (a := ⟨q, i, none⟩) (h q hq hn)).trans (hW.cell hv)
    exact ⟨hfar _ _ _ (by omega) (by omega) (cell_of_blk hb0 2), hfar _ _ _ (by omega) (by omega) (hX3.cell c00), hfar _ _ _ (by omega) (by omega) (hX3.cell c01), hfar _ _ _ (by omega) (by omega) (hX3.cell c02), hfar _ _ _ (by omega) (by omega) (hX3.cell c10), hfar _ _ _ (by omega) (by omega) (hX3.cell c11), hfar _ _ _ (by omega) (by omega) (hX3.cell c12), hfar _ _ _ (by omega) (by omega) (cell_of_blk hb2 2), hfar _ _ _ (by omega) (by omega) (hX3.cell c30), hfar _ _ _ (by omega) (by omega) (hX3.cell c31), hfar _ _ _ (by omega) (by omega) (hX3.cell c32)⟩
  have HC := Lib.hid hcells
  have hEd : Ext wS wS.drew := (Ext.refl wS).drew
  have L0 := hin0.ext hX3
  have L1 := hin1.ext hX3
  have L3 := hin3.ext hX3
  have c00' := hX.cell c00
  have c01' := hX.cell c01
  have c02' := hX.cell c02
  have c10' := hX.cell c10
  have c11' := hX.cell c11
  have c12' := hX.cell c12
  have c20' := hX.cell c20
  have c21' := hX.cell c21
  have c22' := hX.cell c22
  have c30' := hX.cell c30
  have c31' := hX.cell c31
  have c32' := hX.cell c32
  rw [hwb] at c00' c01' c02' c10' c11' c12' c20' c21' c22' c30' c31' c32'
  clear hcells hrul c00 c01 c02 c10 c11 c12 c20 c21 c22 c30 c31 c32 HK0 HK1 HK2 HK3 hkid0 hkid1 hkid2 hkid3 hks hlen hops hb0 hb2 hsh hin0 hin1 hin2 hin3 hmem0 hmem1 hmem2 hmem3 hK hK0 hK1 hK2 hK3 hsk
  go_enter Try.func132, Try.ntmps132
  go_wp2_with fail
  rw [← hwb, ← hwS]
  clear hwb hwS hXS hbs hsS c00' c01' c02' c10' c11' c12' c20' c21' c22' c30' c31' c32'
  apply onceR
  case h =>
    intro REST
    go_region_held3 (fun w' => w'.cell? ⟨w.heap.size, 2, none⟩ = some (.slice (some ⟨b0, o0, none⟩) ks.length cap) ∧ w'.cell? ⟨b0, o0, none⟩ = some (.int .i64 k0) ∧ w'.cell? ⟨b0, o0 + 1, none⟩ = some (.int .i64 n0) ∧ w'.cell? ⟨b0, o0 + 2, none⟩ = some (.slice A0 kids0.length cap0) ∧ w'.cell? ⟨b0, o0 + 3, none⟩ = some (.int .i64 k1) ∧ w'.cell? ⟨b0, o0 + 4, none⟩ = some (.int .i64 n1) ∧ w'.cell? ⟨b0, o0 + 5, none⟩ = some (.slice A1 kids1.length cap1) ∧ w'.cell? ⟨w.heap.size + 1 + 1, 2, none⟩ = some (.slice (some ⟨b3, o3, none⟩) kids2.length cap2) ∧ w'.cell? ⟨b3, o3, none⟩ = some (.int .i64 k3) ∧ w'.cell? ⟨b3, o3 + 1, none⟩ = some (.int .i64 n3) ∧ w'.cell? ⟨b3, o3 + 2, none⟩ = some (.slice A3 kids3.length cap3))
      (first | exact HC.out _ H4 _ (fun y h1 _ => by rw [Below.heap_setCell _ _ _ _ (fun h9 => by have t1 := H1.size; have t2 := H2.size; have t3 := H3.size; dsimp only at h9; omega), Below.heap_setCell _ _ _ _ (fun h9 => by have t1 := H1.size; have t2 := H2.size; have t3 := H3.size; dsimp only at h9; omega), Below.heap_setCell _ _ _ _ (fun h9 => by have t1 := H1.size; have t2 := H2.size; have t3 := H3.size; dsimp only at h9; omega)]) | exact HC.out _ H4 _ (fun y h1 _ => by with_reducible rfl) | exact HC.out _ (H4.alloc _) _ (fun y h1 _ => by with_reducible rfl) | exact HC.out _ ((H4.alloc _).alloc _) _ (fun y h1 _ => by with_reducible rfl) | exact HC.out _ H3 _ (fun y h1 _ => by with_reducible rfl) | exact HC.out _ (H3.alloc _) _ (fun y h1 _ => by with_reducible rfl) | exact HC.out _ ((H3.alloc _).alloc _) _ (fun y h1 _ => by with_reducible rfl) | exact HC.out _ H2 _ (fun y h1 _ => by with_reducible rfl) | exact HC.out _ (H2.alloc _) _ (fun y h1 _ => by with_reducible rfl) | exact HC.out _ ((H2.alloc _).alloc _) _ (fun y h1 _ => by with_reducible rfl) | exact HC.out _ H1 _ (fun y h1 _ => by with_reducible rfl) | exact HC.out _ (H1.alloc _) _ (fun y h1 _ => by with_reducible rfl) | exact HC.out _ ((H1.alloc _).alloc _) _ (fun y h1 _ => by with_reducible rfl) | exact HC.out _ hEd _ (fun y h1 _ => by with_reducible rfl) | exact HC.out _ (hEd.alloc _) _ (fun y h1 _ => by with_reducible rfl) | exact HC.out _ ((Ext.refl wS).alloc _).drew _ (fun y h1 _ => by with_reducible rfl))
      (first | (go_at_call_of 60 A0; refine (l12Copy_from _ _ _ (L0.ext (by with_reducible (first | exact ((Ext.refl wS).alloc _).drew | exact hEd.alloc _ | exact hEd))) (by omega)).mono ?_; rintro e w1 ⟨p11, p12, p13, p14, p15, z1, y1, rfl, hM1, h1, hz1, hy1⟩; have H1 : Ext wS w1 := Ext.trans (by with_reducible (first | exact ((Ext.refl wS).alloc _).drew | exact hEd.alloc _ | exact hEd)) h1; (first | (have h1' : Ext (World.alloc (World.drew wS) (.cells #[.int .i64 0, .int .i64 0, .slice none 0 0] 28)) w1 := (by with_reducible exact h1); have qb1 : w1.heap[wS.heap.size]? = some (.cells #[.int .i64 0, .int .i64 0, .slice none 0 0] 28 (0, 0)) := Ext.blk h1' (heap_alloc_new wS.drew (.cells #[.int .i64 0, .int .i64 0, .slice none 0 0] 28))) | (have h1' : Ext (World.drew (World.alloc wS (.cells #[.int .i64 0, .int .i64 0, .slice none 0 0] 28))) w1 := (by with_reducible exact h1); have qb1 : w1.heap[wS.heap.size]? = some (.cells #[.int .i64 0, .int .i64 0, .slice none 0 0] 28 (0, 0)) := Ext.blk h1' (heap_alloc_new wS (.cells #[.int .i64 0, .int .i64 0, .slice none 0 0] 28))) | (have qb1 := trivial))) | (go_at_call_of 60 A1; refine (l12Copy_from _ _ _ (L1.ext (by with_reducible (first | exact (H1.alloc _).alloc _ | exact H1.alloc _ | exact H1 | exact ((Ext.refl wS).alloc _).drew | exact hEd.alloc _ | exact hEd))) (by omega)).mono ?_; rintro e w2 ⟨p21, p22, p23, p24, p25, z2, y2, rfl, hM2, h2, hz2, hy2⟩; have H2 : Ext wS w2 := Ext.trans (by with_reducible (first | exact (H1.alloc _).alloc _ | exact H1.alloc _ | exact H1 | exact ((Ext.refl wS).alloc _).drew | exact hEd.alloc _ | exact hEd)) h2; have X2 : Ext w1 w2 := (by with_reducible (first | exact h2 | exact ((Ext.refl _).alloc _).trans h2)); (first | (have qb2 := Ext.blk h2 qb1) | (have qb2 : w2.heap[w1.heap.size]? = some (.cells #[.int .i64 0, .int .i64 0, .slice none 0 0] 28 (0, 0)) := (by with_reducible exact Ext.blk h2 (heap_alloc_new w1 (.cells #[.int .i64 0, .int .i64 0, .slice none 0 0] 28)))) | (have qb2 := trivial))) | (go_at_call_of 60 A3; refine (l12Copy_from _ _ _ (L3.ext (by with_reducible (first | exact (H2.alloc _).alloc _ | exact H2.alloc _ | exact H2 | exact (H1.alloc _).alloc _ | exact H1.alloc _ | exact H1 | exact ((Ext.refl wS).alloc _).drew | exact hEd.alloc _ | exact hEd))) (by omega)).mono ?_; rintro e w3 ⟨p31, p32, p33, p34, p35, z3, y3, rfl, hM3, h3, hz3, hy3⟩; have H3 : Ext wS w3 := Ext.trans (by with_reducible (first | exact (H2.alloc _).alloc _ | exact H2.alloc _ | exact H2 | exact (H1.alloc _).alloc _ | exact H1.alloc _ | exact H1 | exact ((Ext.refl wS).alloc _).drew | exact hEd.alloc _ | exact hEd)) h3; have X3 : Ext w2 w3 := (by with_reducible (first | exact h3 | exact ((Ext.refl _).alloc _).trans h3)); (first | (have qb3 := Ext.blk h3 qb2) | (have qb3 : w3.heap[w2.heap.size]? = some (.cells #[.int .i64 0, .int .i64 0, .slice none 0 0] 28 (0, 0)) := (by with_reducible exact Ext.blk h3 (heap_alloc_new w2 (.cells #[.int .i64 0, .int .i64 0, .slice none 0 0] 28)))) | (have qb3 := trivial))) | (go_at_call 140; (with_reducible show Calls _ _ #[.int .i64 6, .slice (some ⟨_, 0, none⟩) 3 3] _ _); refine (node3 (hM1.later (X2.trans (X3.trans (by with_reducible (first | exact (Ext.refl _).alloc _ | exact ((Ext.refl _).alloc _).alloc _))))) (hM2.later (X3.trans (by with_reducible (first | exact (Ext.refl _).alloc _ | exact ((Ext.refl _).alloc _).alloc _)))) (hM3.later (by with_reducible (first | exact (Ext.refl _).alloc _ | exact ((Ext.refl _).alloc _).alloc _))) (by first | (with_reducible exact heap_alloc_at rfl) | (with_reducible exact heap_alloc_at (by simp)) | (with_reducible exact ((Ext.refl _).alloc _).blk (heap_alloc_at rfl)))).mono ?_; rintro e w4 ⟨q1, q2, q3, q4, q5, z4, y4, rfl, hM4, h4, hz4, hy4⟩; have X4 : Ext w3 w4 := Ext.trans (by with_reducible (first | exact (Ext.refl _).alloc _ | exact ((Ext.refl _).alloc _).alloc _)) h4; have H4 : Ext wS w4 := H3.trans X4; (first | (have qb4 := Ext.blk X4 qb3; obtain ⟨s0, s1, s2, f0, f1, f2⟩ := own3 qb4) | (have qb4 : w4.heap[w3.heap.size]? = some (.cells #[.int .i64 0, .int .i64 0, .slice none 0 0] 28 (0, 0)) := (by with_reducible exact Ext.blk h4 (((Ext.refl _).alloc _).blk (heap_alloc_new w3 (.cells #[.int .i64 0, .int .i64 0, .slice none 0 0] 28)))); obtain ⟨s0, s1, s2, f0, f1, f2⟩ := own3 qb4) | (have qb4 : w4.heap[w3.heap.size + 1]? = some (.cells #[.int .i64 0, .int .i64 0, .slice none 0 0] 28 (0, 0)) := (by with_reducible exact Ext.blk h4 (heap_alloc_at (o := (.cells #[.int .i64 0, .int .i64 0, .slice none 0 0] 28)) (by simp))); obtain ⟨s0, s1, s2, f0, f1, f2⟩ := own3 qb4) | (have qb4 := trivial))))
    all_goals (have t1 := H1.size; have t2 := X2.size; have t3 := X3.size; have t4 := X4.size; have u1 := h1.size; have u2 := h2.size; have u3 := h3.size; have u4 := h4.size; (try simp at u1); (try simp at u2); (try simp at u3); (try simp at u4); (try simp at hz1); (try simp at hz2); (try simp at hz3); (try simp at hz4); have B4 := hM4.bound)
    all_goals (first
      | (have hxw : wS.heap.size ≤ wS.heap.size := (by omega); have hne : ∀ b, ((((z1 ≤ b ∧ b < y1) ∨ (z2 ≤ b ∧ b < y2) ∨ (z3 ≤ b ∧ b < y3) ∨ b = w3.heap.size) ∨ z4 ≤ b ∧ b < y4) ∧ b < w4.heap.size) → b ≠ wS.heap.size ∧ wS.heap.size ≤ b := (fun b hb => by omega); obtain ⟨w7, hw7⟩ : ∃ x, x = ((w4.setCell ⟨wS.heap.size, 0, none⟩ (.int .i64 q1)).setCell ⟨wS.heap.size, 1, none⟩ (.int .i64 q2)).setCell ⟨wS.heap.size, 2, none⟩ (.slice q3 q4 q5) := ⟨_, rfl⟩; have en : Ext wS w7 := (by rw [hw7]; exact ((H4.setCell (p := ⟨wS.heap.size, 0, none⟩) hxw _).setCell (p := ⟨wS.heap.size, 1, none⟩) hxw _).setCell (p := ⟨wS.heap.size, 2, none⟩) hxw _); have bn : w7.heap[wS.heap.size]? = some (.cells #[.int .i64 q1, .int .i64 q2, .slice q3 q4 q5] 28 (0, 0)) := (by rw [hw7]; exact blk_setCell (blk_setCell (blk_setCell qb4 0 (.int .i64 q1)) 1 (.int .i64 q2)) 2 (.slice q3 q4 q5)); have Rn : New wS w7 (.mk 6 0 [.mk k0 n0 kids0, .mk k1 n1 kids1, .mk k3 n3 kids3]) (.agg #[.int .i64 q1, .int .i64 q2, .slice q3 q4 q5]) := (by rw [hw7]; exact InT.mono (fun b hb => ⟨(hne b hb).2, by simp only [World.size_setCell]; exact hb.2⟩) (fun b hb => by have h9 := (hne b hb).1; rw [Below.heap_setCell _ _ _ _ h9, Below.heap_setCell _ _ _ _ h9, Below.heap_setCell _ _ _ _ h9]) B4); rw [← hw7]; clear hw7; obtain ⟨g5, hg5⟩ : ∃ x, x = wS.heap.size := ⟨_, rfl⟩; rw [← hg5] at bn ⊢; have hg5l : wS.heap.size ≤ g5 := (by omega); obtain ⟨G9, hG9⟩ : ∃ x, x = w3.heap.size := ⟨_, rfl⟩; rw [← hG9]; clear hg5 hG9)
      | (have hxw : wS.heap.size ≤ w1.heap.size := (by omega); have hne : ∀ b, ((((z1 ≤ b ∧ b < y1) ∨ (z2 ≤ b ∧ b < y2) ∨ (z3 ≤ b ∧ b < y3) ∨ b = w3.heap.size) ∨ z4 ≤ b ∧ b < y4) ∧ b < w4.heap.size) → b ≠ w1.heap.size ∧ wS.heap.size ≤ b := (fun b hb => by omega); obtain ⟨w7, hw7⟩ : ∃ x, x = ((w4.setCell ⟨w1.heap.size, 0, none⟩ (.int .i64 q1)).setCell ⟨w1.heap.size, 1, none⟩ (.int .i64 q2)).setCell ⟨w1.heap.size, 2, none⟩ (.slice q3 q4 q5) := ⟨_, rfl⟩; have en : Ext wS w7 := (by rw [hw7]; exact ((H4.setCell (p := ⟨w1.heap.size, 0, none⟩) hxw _).setCell (p := ⟨w1.heap.size, 1, none⟩) hxw _).setCell (p := ⟨w1.heap.size, 2, none⟩) hxw _); have bn : w7.heap[w1.heap.size]? = some (.cells #[.int .i64 q1, .int .i64 q2, .slice q3 q4 q5] 28 (0, 0)) := (by rw [hw7]; exact blk_setCell (blk_setCell (blk_setCell qb4 0 (.int .i64 q1)) 1 (.int .i64 q2)) 2 (.slice q3 q4 q5)); have Rn : New wS w7 (.mk 6 0 [.mk k0 n0 kids0, .mk k1 n1 kids1, .mk k3 n3 kids3]) (.agg #[.int .i64 q1, .int .i64 q2, .slice q3 q4 q5]) := (by rw [hw7]; exact InT.mono (fun b hb => ⟨(hne b hb).2, by simp only [World.size_setCell]; exact hb.2⟩) (fun b hb => by have h9 := (hne b hb).1; rw [Below.heap_setCell _ _ _ _ h9, Below.heap_setCell _ _ _ _ h9, Below.heap_setCell _ _ _ _ h9]) B4); rw [← hw7]; clear hw7; obtain ⟨g5, hg5⟩ : ∃ x, x = w1.heap.size := ⟨_, rfl⟩; rw [← hg5] at bn ⊢; have hg5l : wS.heap.size ≤ g5 := (by omega); obtain ⟨G9, hG9⟩ : ∃ x, x = w3.heap.size := ⟨_, rfl⟩; rw [← hG9]; clear hg5 hG9)
      | (have hxw : wS.heap.size ≤ w2.heap.size := (by omega); have hne : ∀ b, ((((z1 ≤ b ∧ b < y1) ∨ (z2 ≤ b ∧ b < y2) ∨ (z3 ≤ b ∧ b < y3) ∨ b = w3.heap.size) ∨ z4 ≤ b ∧ b < y4) ∧ b < w4.heap.size) → b ≠ w2.heap.size ∧ wS.heap.size ≤ b := (fun b hb => by omega); obtain ⟨w7, hw7⟩ : ∃ x, x = ((w4.setCell ⟨w2.heap.size, 0, none⟩ (.int .i64 q1)).setCell ⟨w2.heap.size, 1, none⟩ (.int .i64 q2)).setCell ⟨w2.heap.size, 2, none⟩ (.slice q3 q4 q5) := ⟨_, rfl⟩; have en : Ext wS w7 := (by rw [hw7]; exact ((H4.setCell (p := ⟨w2.heap.size, 0, none⟩) hxw _).setCell (p := ⟨w2.heap.size, 1, none⟩) hxw _).setCell (p := ⟨w2.heap.size, 2, none⟩) hxw _); have bn : w7.heap[w2.heap.size]? = some (.cells #[.int .i64 q1, .int .i64 q2, .slice q3 q4 q5] 28 (0, 0)) := (by rw [hw7]; exact blk_setCell (blk_setCell (blk_setCell qb4 0 (.int .i64 q1)) 1 (.int .i64 q2)) 2 (.slice q3 q4 q5)); have Rn : New wS w7 (.mk 6 0 [.mk k0 n0 kids0, .mk k1 n1 kids1, .mk k3 n3 kids3]) (.agg #[.int .i64 q1, .int .i64 q2, .slice q3 q4 q5]) := (by rw [hw7]; exact InT.mono (fun b hb => ⟨(hne b hb).2, by simp only [World.size_setCell]; exact hb.2⟩) (fun b hb => by have h9 := (hne b hb).1; rw [Below.heap_setCell _ _ _ _ h9, Below.heap_setCell _ _ _ _ h9, Below.heap_setCell _ _ _ _ h9]) B4); rw [← hw7]; clear hw7; obtain ⟨g5, hg5⟩ : ∃ x, x = w2.heap.size := ⟨_, rfl⟩; rw [← hg5] at bn ⊢; have hg5l : wS.heap.size ≤ g5 := (by omega); obtain ⟨G9, hG9⟩ : ∃ x, x = w3.heap.size := ⟨_, rfl⟩; rw [← hG9]; clear hg5 hG9)
      | (have hxw : wS.heap.size ≤ w3.heap.size := (by omega); have hne : ∀ b, ((((z1 ≤ b ∧ b < y1) ∨ (z2 ≤ b ∧ b < y2) ∨ (z3 ≤ b ∧ b < y3) ∨ b = w3.heap.size + 1) ∨ z4 ≤ b ∧ b < y4) ∧ b < w4.heap.size) → b ≠ w3.heap.size ∧ wS.heap.size ≤ b := (fun b hb => by omega); obtain ⟨w7, hw7⟩ : ∃ x, x = ((w4.setCell ⟨w3.heap.size, 0, none⟩ (.int .i64 q1)).setCell ⟨w3.heap.size, 1, none⟩ (.int .i64 q2)).setCell ⟨w3.heap.size, 2, none⟩ (.slice q3 q4 q5) := ⟨_, rfl⟩; have en : Ext wS w7 := (by rw [hw7]; exact ((H4.setCell (p := ⟨w3.heap.size, 0, none⟩) hxw _).setCell (p := ⟨w3.heap.size, 1, none⟩) hxw _).setCell (p := ⟨w3.heap.size, 2, none⟩) hxw _); have bn : w7.heap[w3.heap.size]? = some (.cells #[.int .i64 q1, .int .i64 q2, .slice q3 q4 q5] 28 (0, 0)) := (by rw [hw7]; exact blk_setCell (blk_setCell (blk_setCell qb4 0 (.int .i64 q1)) 1 (.int .i64 q2)) 2 (.slice q3 q4 q5)); have Rn : New wS w7 (.mk 6 0 [.mk k0 n0 kids0, .mk k1 n1 kids1, .mk k3 n3 kids3]) (.agg #[.int .i64 q1, .int .i64 q2, .slice q3 q4 q5]) := (by rw [hw7]; exact InT.mono (fun b hb => ⟨(hne b hb).2, by simp only [World.size_setCell]; exact hb.2⟩) (fun b hb => by have h9 := (hne b hb).1; rw [Below.heap_setCell _ _ _ _ h9, Below.heap_setCell _ _ _ _ h9, Below.heap_setCell _ _ _ _ h9]) B4); rw [← hw7]; clear hw7; obtain ⟨G9, hG9⟩ : ∃ x, x = w3.heap.size + 1 := ⟨_, rfl⟩; rw [← hG9]; obtain ⟨g5, hg5⟩ : ∃ x, x = w3.heap.size := ⟨_, rfl⟩; rw [← hg5] at bn ⊢; have hg5l : wS.heap.size ≤ g5 := (by omega); clear hg5 hG9)
      | (have hxw : wS.heap.size ≤ (w3.heap.size + 1) := (by omega); have hne : ∀ b, ((((z1 ≤ b ∧ b < y1) ∨ (z2 ≤ b ∧ b < y2) ∨ (z3 ≤ b ∧ b < y3) ∨ b = w3.heap.size) ∨ z4 ≤ b ∧ b < y4) ∧ b < w4.heap.size) → b ≠ (w3.heap.size + 1) ∧ wS.heap.size ≤ b := (fun b hb => by omega); obtain ⟨w7, hw7⟩ : ∃ x, x = ((w4.setCell ⟨(w3.heap.size + 1), 0, none⟩ (.int .i64 q1)).setCell ⟨(w3.heap.size + 1), 1, none⟩ (.int .i64 q2)).setCell ⟨(w3.heap.size + 1), 2, none⟩ (.slice q3 q4 q5) := ⟨_, rfl⟩; have en : Ext wS w7 := (by rw [hw7]; exact ((H4.setCell (p := ⟨(w3.heap.size + 1), 0, none⟩) hxw _).setCell (p := ⟨(w3.heap.size + 1), 1, none⟩) hxw _).setCell (p := ⟨(w3.heap.size + 1), 2, none⟩) hxw _); have bn : w7.heap[(w3.heap.size + 1)]? = some (.cells #[.int .i64 q1, .int .i64 q2, .slice q3 q4 q5] 28 (0, 0)) := (by rw [hw7]; exact blk_setCell (blk_setCell (blk_setCell qb4 0 (.int .i64 q1)) 1 (.int .i64 q2)) 2 (.slice q3 q4 q5)); have Rn : New wS w7 (.mk 6 0 [.mk k0 n0 kids0, .mk k1 n1 kids1, .mk k3 n3 kids3]) (.agg #[.int .i64 q1, .int .i64 q2, .slice q3 q4 q5]) := (by rw [hw7]; exact InT.mono (fun b hb => ⟨(hne b hb).2, by simp only [World.size_setCell]; exact hb.2⟩) (fun b hb => by have h9 := (hne b hb).1; rw [Below.heap_setCell _ _ _ _ h9, Below.heap_setCell _ _ _ _ h9, Below.heap_setCell _ _ _ _ h9]) B4); rw [← hw7]; clear hw7; obtain ⟨g5, hg5⟩ : ∃ x, x = (w3.heap.size + 1) := ⟨_, rfl⟩; rw [← hg5] at bn ⊢; have hg5l : wS.heap.size ≤ g5 := (by omega); obtain ⟨G9, hG9⟩ : ∃ x, x = w3.heap.size := ⟨_, rfl⟩; rw [← hG9]; clear hg5 hG9)
      | (have hne : ∀ b, ((((z1 ≤ b ∧ b < y1) ∨ (z2 ≤ b ∧ b < y2) ∨ (z3 ≤ b ∧ b < y3) ∨ b = w3.heap.size) ∨ z4 ≤ b ∧ b < y4) ∧ b < w4.heap.size) → wS.heap.size ≤ b := (fun b hb => by omega); obtain ⟨w7, hw7⟩ : ∃ x, x = w4.alloc (.cells #[.int .i64 q1, .int .i64 q2, .slice q3 q4 q5] 28) := ⟨_, rfl⟩; have en : Ext wS w7 := (by rw [hw7]; exact H4.alloc _); have bn : w7.heap[w4.heap.size]? = some (.cells #[.int .i64 q1, .int .i64 q2, .slice q3 q4 q5] 28 (0, 0)) := (by rw [hw7]; exact heap_alloc_new w4 _); have Rn : New wS w7 (.mk 6 0 [.mk k0 n0 kids0, .mk k1 n1 kids1, .mk k3 n3 kids3]) (.agg #[.int .i64 q1, .int .i64 q2, .slice q3 q4 q5]) := (by rw [hw7]; exact InT.mono (fun b hb => ⟨hne b hb, by have h9 := hb.2; simp; omega⟩) (fun b hb => ((Ext.refl w4).alloc _).heap b hb.2) B4); rw [← hw7]; clear hw7; obtain ⟨g5, hg5⟩ : ∃ x, x = w4.heap.size := ⟨_, rfl⟩; rw [← hg5] at bn ⊢; have hg5l : wS.heap.size ≤ g5 := (by omega); obtain ⟨G9, hG9⟩ : ∃ x, x = w3.heap.size := ⟨_, rfl⟩; rw [← hG9]; clear hg5 hG9))
    all_goals (try clear s0 s1 s2 f0 f1 f2)
    all_goals clear B4 hM1 hM2 hM3 hM4 qb4 qb3 qb2 qb1 h4
    all_goals rename_i hheld
    all_goals clear hheld
    all_goals revert Rn
    all_goals revert bn
    all_goals revert en
    all_goals revert hg5l
    all_goals revert g5
    all_goals revert w7
    all_goals revert G9
    all_goals revert q5
    all_goals revert q4
    all_goals revert q3
    all_goals revert q2
    all_goals revert q1
    all_goals revert p35
    all_goals revert p34
    all_goals revert p33
    all_goals revert p32
    all_goals revert p31
    all_goals revert p25
    all_goals revert p24
    all_goals revert p23
    all_goals revert p22
    all_goals revert p21
    all_goals revert p15
    all_goals revert p14
    all_goals revert p13
    all_goals revert p12
    all_goals revert p11
    all_goals exact REST.out
  case k =>
    intro p11 p12 p13 p14 p15 p21 p22 p23 p24 p25 p31 p32 p33 p34 p35 q1 q2 q3 q4 q5 G9 w7 g5 hg5l en bn Rn
    have hg7 : g5 < w7.heap.size := lt_of_blk bn
    obtain ⟨y0, y1, y2, -, -, -⟩ := own3 bn
    have hb17 := en.blk hb1
    have hs7 := en.size
    have HC7 := Lib.hid (show ∀ w' : World, (∀ y, y < w7.heap.size → y ≠ w.heap.size + 1 → w'.heap[y]? = w7.heap[y]?) → w'.cell? ⟨w.heap.size, 2, none⟩ = some (.slice (some ⟨b0, o0, none⟩) ks.length cap) ∧ w'.cell? ⟨b0, o0 + 3, none⟩ = some (.int .i64 k1) ∧ w'.cell? ⟨b0, o0 + 4, none⟩ = some (.int .i64 n1) ∧ w'.cell? ⟨b0, o0 + 5, none⟩ = some (.slice A1 kids1.length cap1) ∧ w'.cell? ⟨w.heap.size + 1 + 1, 2, none⟩ = some (.slice (some ⟨b3, o3, none⟩) kids2.length cap2) ∧ w'.cell? ⟨b3, o3, none⟩ = some (.int .i64 k3) ∧ w'.cell? ⟨b3, o3 + 1, none⟩ = some (.int .i64 n3) ∧ w'.cell? ⟨b3, o3 + 2, none⟩ = some (.slice A3 kids3.length cap3) ∧ w'.cell? ⟨g5, 0, none⟩ = some (.int .i64 q1) ∧ w'.cell? ⟨g5, 1, none⟩ = some (.int .i64 q2) ∧ w'.cell? ⟨g5, 2, none⟩ = some (.slice q3 q4 q5) from fun w' hw => by
      obtain ⟨r1, r2, r3, r4, r5, r6, r7, r8, r9, r10, r11⟩ := HC.out w7 en w' (fun y h1 h2 => hw y (by omega) h2)
      have f : ∀ (j : Nat) (x : Value), w7.cell? ⟨g5, j, none⟩ = some x → w'.cell? ⟨g5, j, none⟩ = some x := fun j x h3 => (World.cell?_of_block (a := ⟨g5, j, none⟩) (hw g5 hg7 (by omega))).trans h3
      exact ⟨r1, r5, r6, r7, r8, r9, r10, r11, f _ _ y0, f _ _ y1, f _ _ y2⟩)
    have X7 : Ext w7 w7.drew := (Ext.refl w7).drew
    have L17 := L1.ext en
    have L37 := L3.ext en
    have HE7 := Lib.hid (hX3.trans en)
    clear y0 y1 y2 HC hb1 L0 L1 L3
    go_wp2_with fail
    go_region_held3 (fun w' => w'.cell? ⟨w.heap.size, 2, none⟩ = some (.slice (some ⟨b0, o0, none⟩) ks.length cap) ∧ w'.cell? ⟨b0, o0 + 3, none⟩ = some (.int .i64 k1) ∧ w'.cell? ⟨b0, o0 + 4, none⟩ = some (.int .i64 n1) ∧ w'.cell? ⟨b0, o0 + 5, none⟩ = some (.slice A1 kids1.length cap1) ∧ w'.cell? ⟨w.heap.size + 1 + 1, 2, none⟩ = some (.slice (some ⟨b3, o3, none⟩) kids2.length cap2) ∧ w'.cell? ⟨b3, o3, none⟩ = some (.int .i64 k3) ∧ w'.cell? ⟨b3, o3 + 1, none⟩ = some (.int .i64 n3) ∧ w'.cell? ⟨b3, o3 + 2, none⟩ = some (.slice A3 kids3.length cap3) ∧ w'.cell? ⟨g5, 0, none⟩ = some (.int .i64 q1) ∧ w'.cell? ⟨g5, 1, none⟩ = some (.int .i64 q2) ∧ w'.cell? ⟨g5, 2, none⟩ = some (.slice q3 q4 q5))
      (first | exact HC7.out _ (fun y h1 h2 => by rw [Below.heap_setCell _ _ _ _ h2, Below.heap_setCell _ _ _ _ h2, Below.heap_setCell _ _ _ _ h2]; exact H11.heap y h1) | exact HC7.out _ (fun y h1 _ => by with_reducible exact Ext.heap (H11) y h1) | exact HC7.out _ (fun y h1 _ => by with_reducible exact Ext.heap (H10.alloc _) y h1) | exact HC7.out _ (fun y h1 _ => by with_reducible exact Ext.heap (H10) y h1) | exact HC7.out _ (fun y h1 _ => by with_reducible exact Ext.heap (H9.alloc _) y h1) | exact HC7.out _ (fun y h1 _ => by with_reducible exact Ext.heap (H9) y h1) | exact HC7.out _ (fun y h1 _ => by with_reducible exact Ext.heap (H8) y h1) | exact HC7.out _ (fun y h1 _ => by with_reducible exact Ext.heap (X7) y h1))
      (first | (go_at_call 140; (with_reducible show Calls _ _ #[.int .i64 3, .slice (some ⟨w10.heap.size, 0, none⟩) 2 2] _ _); refine (node2 (hM10.later ((Ext.refl w10).alloc _)) (InT.later Rn (H10.alloc _)) (heap_alloc_new w10 _)).mono ?_; rintro e w11 ⟨a1, a2, a3, a4, a5, z11, y11, rfl, hM11, h11, hz11, hy11⟩; have H11 : Ext w7 w11 := (H10.alloc _).trans h11; obtain ⟨s0, s1, s2, f0, f1, f2⟩ := own3 (H11.blk hb17)) | (go_at_call 140; (with_reducible show Calls _ _ #[.int .i64 3, .slice (some ⟨w9.heap.size, 0, none⟩) 2 2] _ _); refine (node2 (hM8.later (h9.alloc _)) (hM9.later ((Ext.refl w9).alloc _)) (heap_alloc_new w9 _)).mono ?_; rintro e w10 ⟨e1, e2, e3, e4, e5, z10, y10, rfl, hM10, h10, hz10, hy10⟩; have H10 : Ext w7 w10 := (H9.alloc _).trans h10) | (go_at_call_of 60 A3; refine (l12Copy_from _ _ _ (L37.ext H8) (by omega)).mono ?_; rintro e w9 ⟨p21, p22, p23, p24, p25, z9, y9, rfl, hM9, h9, hz9, hy9⟩; have H9 : Ext w7 w9 := H8.trans h9) | (go_at_call_of 60 A1; refine (l12Copy_from _ _ _ (L17.ext X7) (by omega)).mono ?_; rintro e w8 ⟨p11, p12, p13, p14, p15, z8, y8, rfl, hM8, h8, hz8, hy8⟩; have H8 : Ext w7 w8 := X7.trans h8))
    have t8 := H8.size
    have t9 := h9.size
    have t10 := h10.size
    have t11 := h11.size
    have hw37 : w.heap.size + 3 ≤ w7.heap.size := by omega
    simp at hz8 hz9 hz10 hz11
    simp at t10 t11
    have HB11 := Lib.hid hM11.bound
    have HX := Lib.hid (HE7.out.trans H11)
    clear hb17 bn Rn HC7 hM8 hM9 hM10 hM11
    go_wp2_with fail
    refine bodyPost_ret (v := .tuple #[.agg #[.int .i64 a1, .int .i64 a2, .slice a3 a4 a5], .bool true]) (by simp [results, Try.results132, go_sem, s0, s1, s2]) rfl ⟨_, _, _, _, _, rfl, fun t' ht => ?_, ?_⟩
    · injection ht with ht; subst ht
      refine InT.mono ?ca ?cb HB11.out
      case ca => exact fun b hb => ⟨by have h9 := hb.1; omega, by have h9 := hb.2; simp only [World.size_setCell]; exact h9⟩
      case cb =>
        intro b hb
        have hne : b ≠ w.heap.size + 1 := by have h9 := hb.1; omega
        rw [Below.heap_setCell _ _ _ _ hne, Below.heap_setCell _ _ _ _ hne, Below.heap_setCell _ _ _ _ hne]
    · exact ((HX.out.setCell (p := ⟨w.heap.size + 1, 0, none⟩) (by show w.heap.size ≤ w.heap.size + 1; omega) _).setCell (p := ⟨w.heap.size + 1, 1, none⟩) (by show w.heap.size ≤ w.heap.size + 1; omega) _).setCell (p := ⟨w.heap.size + 1, 2, none⟩) (by show w.heap.size ≤ w.heap.size + 1; omega) _

theorem l12Rule_any (k n : Int) (ks : List Tr) (d : Int) (hsh : shape sigC (.mk k n ks) d = true) (hcn : cnt (.mk k n ks) ≤ 1000) (w : World) (v : Value) (hin : Lies w (.mk k n ks) v) :
    Calls Try.prog 132 #[v] w (RulQ w (rul k ks)) := by
  obtain ⟨A, cap, rfl, hl, hc, hK⟩ := Lies.mk_iff.1 hin
  obtain ⟨hops, -, -, hsk⟩ := shape_kids hsh
  simp only [cnt] at hcn
  by_cases h3 : k = 3
  · subst h3
    exact l12Rule_3 n ks _ hsk (by omega) w A cap hK hl hc (by have h9 : (2 : Int) = (ks.length : Int) := hops; omega)
  by_cases h6 : k = 6
  · subst h6
    by_cases h5 : (kid ks 2).kd = 5
    · exact l12Rule_6s n ks _ hsk (by omega) w A cap hK hl hc (by have h9 : (3 : Int) = (ks.length : Int) := hops; omega) h5
    · exact l12Rule_6 n ks _ hsk (by omega) w A cap hK hl hc (by have h9 : (3 : Int) = (ks.length : Int) := hops; omega) h5
  by_cases h8 : k = 8
  · subst h8
    exact l12Rule_8 n ks _ hsk (by omega) w A cap hK hl hc (by have h9 : (1 : Int) = (ks.length : Int) := hops; omega)
  by_cases h9 : k = 9
  · subst h9
    exact l12Rule_9 n ks _ hsk (by omega) w A cap hK hl hc (by have h9 : (1 : Int) = (ks.length : Int) := hops; omega)
  exact l12Rule_0 k n ks w A cap h3 h6 h8 h9
end Go.Proofs.Ytappakllopkfiaa

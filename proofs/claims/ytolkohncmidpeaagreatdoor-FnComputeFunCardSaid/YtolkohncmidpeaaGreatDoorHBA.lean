/-
  Lemmas towards the law, 27: L3Succ.
-/
import Derived.Test.YtolkohncmidpeaaGreatDoorHAC
import Derived.Test.YtolkohncmidpeaaGreatDoorHAG
import Derived.Test.YtolkohncmidpeaaGreatDoorHAR
import Derived.Test.YtolkohncmidpeaaGreatDoorHAZ
import Derived.Deep.RegionHeld3
namespace Go.Proofs.YtolkohncmidpeaaGreatDoor
open Go.RowKit
set_option linter.unusedVariables false
structure KeptL (p : Prop) : Prop where
  out : p
theorem onceL {T p : Prop} (h : KeptL T → p) (k : T) : p := h ⟨k⟩
/-- All rows are new. -/
def NewQ (w : World) (t : Tr) (e : Ending) (w' : World) : Prop := ∃ r, e = .returned r ∧ InT w' (fun b => w.heap.size ≤ b ∧ b < w'.heap.size) t r ∧ Ext w w'
theorem l1Copy_from (t : Tr) (w : World) (v : Value) (hin : Lies w t v) (hc : cnt t ≤ 1000000) : Calls Tryz.prog 96 #[v] w fun e w' => ∃ a1 a2 a3 a4 a5 z y, e = .returned (.agg #[.int .i64 a1, .int .i64 a2, .slice a3 a4 a5]) ∧ InT w' (fun b => z ≤ b ∧ b < y) t (.agg #[.int .i64 a1, .int .i64 a2, .slice a3 a4 a5]) ∧ Ext w w' ∧ z = w.heap.size ∧ y = w'.heap.size := by
  refine (l1Copy_any t w v hin hc).mono ?_
  rintro e w' ⟨u, rfl, hM, h⟩
  obtain ⟨a1, a2, a3, a4, a5, rfl⟩ := hM.three'
  exact ⟨a1, a2, a3, a4, a5, _, _, rfl, hM.inT, h, rfl, rfl⟩
theorem tnode2 {w : World} {k : Int} {g : Nat} {t1 t2 : Tr} {v0 v1 v2 u0 u1 u2 : Value} {S1 S2 : Nat → Prop} (h1 : InT w S1 t1 (.agg #[v0, v1, v2])) (h2 : InT w S2 t2 (.agg #[u0, u1, u2])) (hg : w.heap[g]? = some (.cells #[v0, v1, v2, u0, u1, u2] 45 (0, 0))) :
    Calls Tryz.prog 94 #[.int .i64 k, .slice (some ⟨g, 0, none⟩) 2 2] w fun e w' => ∃ a1 a2 a3 a4 a5 z y, e = .returned (.agg #[.int .i64 a1, .int .i64 a2, .slice a3 a4 a5]) ∧ InT w' (fun b => (S1 b ∨ S2 b ∨ b = g) ∨ z ≤ b ∧ b < y) (.mk k 0 [t1, t2]) (.agg #[.int .i64 a1, .int .i64 a2, .slice a3 a4 a5]) ∧ Ext w w' ∧ z = w.heap.size ∧ y = w'.heap.size := by
  refine (l1Node_any w k (some ⟨g, 0, none⟩) 2 [t1, t2] (by intro h; cases h) (fun b => (S1 b ∨ S2 b ∨ b = g) ∧ b < w.heap.size) (fun b h => h.2) (InK.two (e := 45) (InT.mono (fun b h => ⟨.inl h.1, h.2⟩) (fun _ _ => rfl) h1.bound) (InT.mono (fun b h => ⟨.inr (.inl h.1), h.2⟩) (fun _ _ => rfl) h2.bound) hg ⟨.inr (.inr rfl), lt_of_blk hg⟩) (by simp)).mono ?_
  rintro e w' ⟨u, rfl, hM, h⟩
  obtain ⟨a1, a2, a3, a4, a5, rfl⟩ := InT.three hM
  exact ⟨_, _, _, _, _, _, _, rfl, InT.mono (fun b hb => by rcases hb with hb | hb; exact .inl hb.1; exact .inr hb) (fun _ _ => rfl) hM, h, rfl, rfl⟩
theorem tnode4 {w : World} {k : Int} {g : Nat} {t1 t2 t3 t4 : Tr} {v0 v1 v2 u0 u1 u2 x0 x1 x2 y0 y1 y2 : Value} {S1 S2 S3 S4 : Nat → Prop} (h1 : InT w S1 t1 (.agg #[v0, v1, v2])) (h2 : InT w S2 t2 (.agg #[u0, u1, u2])) (h3 : InT w S3 t3 (.agg #[x0, x1, x2])) (h4 : InT w S4 t4 (.agg #[y0, y1, y2])) (hg : w.heap[g]? = some (.cells #[v0, v1, v2, u0, u1, u2, x0, x1, x2, y0, y1, y2] 45 (0, 0))) :
    Calls Tryz.prog 94 #[.int .i64 k, .slice (some ⟨g, 0, none⟩) 4 4] w fun e w' => ∃ a1 a2 a3 a4 a5 z y, e = .returned (.agg #[.int .i64 a1, .int .i64 a2, .slice a3 a4 a5]) ∧ InT w' (fun b => (S1 b ∨ S2 b ∨ S3 b ∨ S4 b ∨ b = g) ∨ z ≤ b ∧ b < y) (.mk k 0 [t1, t2, t3, t4]) (.agg #[.int .i64 a1, .int .i64 a2, .slice a3 a4 a5]) ∧ Ext w w' ∧ z = w.heap.size ∧ y = w'.heap.size := by
  have hK : InK w (fun b => (S1 b ∨ S2 b ∨ S3 b ∨ S4 b ∨ b = g) ∧ b < w.heap.size) (some ⟨g, 0, none⟩) [t1, t2, t3, t4] := by
    refine .inr ⟨g, 0, rfl, ⟨.inr (.inr (.inr (.inr rfl))), lt_of_blk hg⟩, ?_⟩
    unfold InL
    refine ⟨⟨v0, v1, v2, cell_of_blk hg 0, cell_of_blk hg 1, cell_of_blk hg 2, InT.mono (fun b h => ⟨.inl h.1, h.2⟩) (fun _ _ => rfl) h1.bound⟩, ?_⟩
    unfold InL
    refine ⟨⟨u0, u1, u2, cell_of_blk hg 3, cell_of_blk hg 4, cell_of_blk hg 5, InT.mono (fun b h => ⟨.inr (.inl h.1), h.2⟩) (fun _ _ => rfl) h2.bound⟩, ?_⟩
    unfold InL
    refine ⟨⟨x0, x1, x2, cell_of_blk hg 6, cell_of_blk hg 7, cell_of_blk hg 8, InT.mono (fun b h => ⟨.inr (.inr (.inl h.1)), h.2⟩) (fun _ _ => rfl) h3.bound⟩, ?_⟩
    unfold InL
    refine ⟨⟨y0, y1, y2, cell_of_blk hg 9, cell_of_blk hg 10, cell_of_blk hg 11, InT.mono (fun b h => ⟨.inr (.inr (.inr (.inl h.1))), h.2⟩) (fun _ _ => rfl) h4.bound⟩, ?_⟩
    unfold InL
    trivial
  refine (l1Node_any w k (some ⟨g, 0, none⟩) 4 [t1, t2, t3, t4] (by intro h; cases h) _ (fun b h => h.2) hK (by simp)).mono ?_
  rintro e w' ⟨u, rfl, hM, h⟩
  obtain ⟨a1, a2, a3, a4, a5, rfl⟩ := InT.three hM
  exact ⟨_, _, _, _, _, _, _, rfl, InT.mono (fun b hb => by rcases hb with hb | hb; exact .inl hb.1; exact .inr hb) (fun _ _ => rfl) hM, h, rfl, rfl⟩
set_option maxRecDepth 100000 in
set_option maxHeartbeats 16000000 in
theorem l3con_3 (n : Int) (ks : List Tr) (hv : valid sigT (.mk 9 n ks) = true) (w : World) (A : Option Addr) (cap : Nat) (hin : Lies w (.mk 9 n ks) (.agg #[.int .i64 9, .int .i64 n, .slice A ks.length cap])) (hK : LiesK w A ks) (hl : ks.length ≤ cap) (hc : cap ≤ maxLen) (hc3 : (kd ks 3).kind = 8) :
    Calls Tryz.prog 162 #[.agg #[.int .i64 9, .int .i64 n, .slice A ks.length cap]] w (NewQ w (ctr 9 ks)) := by
  obtain ⟨hsh, hcn⟩ := valid_parts hv
  have hops : opsT 9 = (ks.length : Int) := (shape_kids' hsh).1
  have hks : ks.length = 4 := by have h9 : (4 : Int) = (ks.length : Int) := hops; omega
  have hsk := (shape_kids' hsh).2.2.2
  have hvk : ∀ t ∈ ks, valid sigT t = true := fun t ht => by
    have h1 := hsk t ht
    have h2 := cnt_mem ht
    simp only [cnt] at hcn
    unfold valid
    rw [shape_up h1 (by decide), Bool.true_and, decide_eq_true_eq]
    omega
  have hcc := hc
  unfold maxLen at hcc
  have HRX := Lib.hid (fun W (hW : Ext w W) => l3Redex_any (.mk 9 n ks) 30 hsh W _ (hin.ext hW))
  obtain ⟨wb, hwb⟩ : ∃ wb, wb = (w.alloc (.cells #[.int .i64 9, .int .i64 n, .slice A ks.length cap] 45)).alloc (.cells #[.int .i64 0, .int .i64 0, .slice none 0 0] 45) := ⟨_, rfl⟩
  have hX : Ext w wb := hwb ▸ ((Ext.refl w).alloc _).alloc _
  have hb0 : wb.heap[w.heap.size]? = some (.cells #[.int .i64 9, .int .i64 n, .slice A ks.length cap] 45 (0, 0)) := by rw [hwb]; exact (blk2 (Ext.refl _)).1
  have hb1 : wb.heap[w.heap.size + 1]? = some (.cells #[.int .i64 0, .int .i64 0, .slice none 0 0] 45 (0, 0)) := by rw [hwb]; exact (blk2 (Ext.refl _)).2.1
  have hs0 : w.heap.size + 1 < wb.heap.size := lt_of_blk hb1
  have hlt0 : 0 < ks.length := by omega
  have hi0 : (0 : Int) < (ks.length : Int) := by omega
  obtain ⟨b0, o0, k0, n0, A0, cap0, kids0, hA0, HK0, c00, c01, c02, hkl0, hkc0, hK0, hin0, hmem0⟩ := hK.get (Ext.refl w) hlt0
  simp only [Nat.zero_mul, Nat.add_zero] at c00 c01 c02
  have hkd0 : kd ks 0 = .mk k0 n0 kids0 := kd_get hlt0 HK0.out
  have hlt1 : 1 < ks.length := by omega
  have hi1 : (1 : Int) < (ks.length : Int) := by omega
  obtain ⟨b1, o1, k1, n1, A1, cap1, kids1, hA1, HK1, c10, c11, c12, hkl1, hkc1, hK1, hin1, hmem1⟩ := hK.get (Ext.refl w) hlt1
  simp only [Nat.one_mul, Nat.add_assoc, Nat.reduceAdd] at c10 c11 c12
  have hkd1 : kd ks 1 = .mk k1 n1 kids1 := kd_get hlt1 HK1.out
  have hlt2 : 2 < ks.length := by omega
  have hi2 : (2 : Int) < (ks.length : Int) := by omega
  obtain ⟨b2, o2, k2, n2, A2, cap2, kids2, hA2, HK2, c20, c21, c22, hkl2, hkc2, hK2, hin2, hmem2⟩ := hK.get (Ext.refl w) hlt2
  simp only [Nat.reduceMul, Nat.add_assoc, Nat.reduceAdd] at c20 c21 c22
  have hkd2 : kd ks 2 = .mk k2 n2 kids2 := kd_get hlt2 HK2.out
  have hlt3 : 3 < ks.length := by omega
  have hi3 : (3 : Int) < (ks.length : Int) := by omega
  obtain ⟨b3, o3, k3, n3, A3, cap3, kids3, hA3, HK3, c30, c31, c32, hkl3, hkc3, hK3, hin3, hmem3⟩ := hK.get (Ext.refl w) hlt3
  simp only [Nat.reduceMul, Nat.add_assoc, Nat.reduceAdd] at c30 c31 c32
  have hkd3 : kd ks 3 = .mk k3 n3 kids3 := kd_get hlt3 HK3.out
  subst hA0
  injection hA1 with hA1
  injection hA1 with hB1 hC1 hD1
  subst hB1 hC1
  injection hA2 with hA2
  injection hA2 with hB2 hC2 hD2
  subst hB2 hC2
  injection hA3 with hA3
  injection hA3 with hB3 hC3 hD3
  subst hB3 hC3
  rw [hkd3] at hc3
  have hk8 : k3 = 8 := hc3
  subst hk8
  have hv3 := hvk _ hmem3
  have hop3 : opsT 8 = (kids3.length : Int) := (shape_kids' (valid_parts hv3).1).1
  have hks3 : kids3.length = 1 := by have h9 : (1 : Int) = (kids3.length : Int) := hop3; omega
  have hlt4 : 0 < kids3.length := by omega
  have hi4 : (0 : Int) < (kids3.length : Int) := by omega
  obtain ⟨b4, o4, k4, n4, A4, cap4, kids4, hA4, HK4, c40, c41, c42, hkl4, hkc4, hK4, hin4, hmem4⟩ := hK3.get (Ext.refl w) hlt4
  simp only [Nat.zero_mul, Nat.add_zero] at c40 c41 c42
  have hkd4 : kd kids3 0 = .mk k4 n4 kids4 := kd_get hlt4 HK4.out
  subst hA4
  have q0 := (valid_parts (hvk _ hmem0)).2
  have q1 := (valid_parts (hvk _ hmem1)).2
  have q2 := (valid_parts (hvk _ hmem2)).2
  have q4 := (valid_parts hv3).2
  have q5 := cnt_mem hmem4
  simp only [cnt] at q4
  have hct : ctr 9 ks = .mk 5 0 [.mk 5 0 [.mk k2 n2 kids2, .mk k4 n4 kids4], .mk 9 0 [.mk k0 n0 kids0, .mk k1 n1 kids1, .mk k2 n2 kids2, .mk k4 n4 kids4]] := by rw [ctr_succ (by rw [hkd3]; rfl), hkd0, hkd1, hkd2, hkd3, show kd (Tr.kids (.mk 8 n3 kids3)) 0 = _ from hkd4]
  rw [hct]
  have hrd : rdx 9 ks = 3 := by unfold rdx; rw [hkd3]; simp [Tr.kind]
  clear hct
  have hrt : rdxT (.mk 9 n ks) = 3 := hrd
  rw [hrt] at HRX
  clear hrt hrd hks hops
  clear hks3
  go_enter Tryz.func162, Tryz.ntmps162
  go_wp2_with fail
  rw [← hwb]
  clear hwb
  refine (HRX.out _ hX).mono ?_
  rintro e wr ⟨rfl, hr⟩
  have hX1 := hX.trans hr
  have hb01 := hr.blk hb0
  have hb11 := hr.blk hb1
  have hs1 : w.heap.size + 1 < wr.heap.size := lt_of_blk hb11
  obtain ⟨z0, z1, z2, -, -, -⟩ := own3 hb01
  clear hb0 hb1 HRX hr
  have d32 := hX1.cell c32
  have d40 := hX1.cell c40
  have d41 := hX1.cell c41
  have d42 := hX1.cell c42
  have hbk : b0 < w.heap.size := World.block_lt_of_cell? _ _ c00
  obtain ⟨wS, hwS⟩ : ∃ x, x = wr.alloc (.cells #[.int .i64 k4, .int .i64 n4, .slice A4 kids4.length cap4] 45) := ⟨_, rfl⟩
  have eS : Ext wr wS := hwS ▸ (Ext.refl wr).alloc _
  have bS := heap_alloc_new wr (.cells #[.int .i64 k4, .int .i64 n4, .slice A4 kids4.length cap4] 45)
  rw [← hwS] at bS
  go_wp2_with fail
  rw [← hwS]
  clear hwS
  have hX3 : Ext w wS := hX1.trans eS
  have hgS : wr.heap.size < wS.heap.size := lt_of_blk bS
  have hbS1 := eS.blk hb11
  have hbS0 := eS.blk hb01
  have hgw : w.heap.size + 1 < wr.heap.size := hs1
  have hsSa : wr.heap.size + 1 ≤ wS.heap.size := hgS
  have hcells : ∀ W, Ext wS W → ∀ w' : World, (∀ y, y < wS.heap.size → y ≠ w.heap.size + 1 → w'.heap[y]? = W.heap[y]?) → w'.cell? ⟨w.heap.size, 2, none⟩ = some (.slice (some ⟨b0, o0, none⟩) ks.length cap) ∧ w'.cell? ⟨b0, o0, none⟩ = some (.int .i64 k0) ∧ w'.cell? ⟨b0, o0 + 1, none⟩ = some (.int .i64 n0) ∧ w'.cell? ⟨b0, o0 + 2, none⟩ = some (.slice A0 kids0.length cap0) ∧ w'.cell? ⟨b0, o0 + 3, none⟩ = some (.int .i64 k1) ∧ w'.cell? ⟨b0, o0 + 4, none⟩ = some (.int .i64 n1) ∧ w'.cell? ⟨b0, o0 + 5, none⟩ = some (.slice A1 kids1.length cap1) ∧ w'.cell? ⟨b0, o0 + 6, none⟩ = some (.int .i64 k2) ∧ w'.cell? ⟨b0, o0 + 7, none⟩ = some (.int .i64 n2) ∧ w'.cell? ⟨b0, o0 + 8, none⟩ = some (.slice A2 kids2.length cap2) ∧ w'.cell? ⟨wr.heap.size, 0, none⟩ = some (.int .i64 k4) ∧ w'.cell? ⟨wr.heap.size, 1, none⟩ = some (.int .i64 n4) ∧ w'.cell? ⟨wr.heap.size, 2, none⟩ = some (.slice A4 kids4.length cap4) := by
    intro W hW w' h
    have hfar : ∀ q i v, q < wS.heap.size → q ≠ w.heap.size + 1 → wS.cell? ⟨q, i, none⟩ = some v → w'.cell? ⟨q, i, none⟩ = some v := fun q i v hq hn hv =>
      (World.cell?_of_block (a := ⟨q, i, none⟩) (h q hq hn)).trans (hW.cell hv)
    exact ⟨hfar _ _ _ (by omega) (by omega) (cell_of_blk hbS0 2), hfar _ _ _ (by omega) (by omega) (hX3.cell c00), hfar _ _ _ (by omega) (by omega) (hX3.cell c01), hfar _ _ _ (by omega) (by omega) (hX3.cell c02), hfar _ _ _ (by omega) (by omega) (hX3.cell c10), hfar _ _ _ (by omega) (by omega) (hX3.cell c11), hfar _ _ _ (by omega) (by omega) (hX3.cell c12), hfar _ _ _ (by omega) (by omega) (hX3.cell c20), hfar _ _ _ (by omega) (by omega) (hX3.cell c21), hfar _ _ _ (by omega) (by omega) (hX3.cell c22), hfar _ _ _ (by omega) (by omega) (cell_of_blk bS 0), hfar _ _ _ (by omega) (by omega) (cell_of_blk bS 1), hfar _ _ _ (by omega) (by omega) (cell_of_blk bS 2)⟩
  have HC := Lib.hid hcells
  have hEd : Ext wS wS.drew := (Ext.refl wS).drew
  have L0 := hin0.ext hX3
  have L1 := hin1.ext hX3
  have L2 := hin2.ext hX3
  have L4 := hin4.ext hX3
  clear hcells HK0 hkd0 hK0 hin0 hmem0 HK1 hkd1 hK1 hin1 hmem1 HK2 hkd2 hK2 hin2 hmem2 HK3 hkd3 hK3 hin3 hmem3 HK4 hkd4 hK4 hin4 hmem4 c00 c01 c02 c10 c11 c12 c20 c21 c22 c30 c31 c32 c40 c41 c42 d32 d40 d41 d42 hK hin hop3 z0 z1 z2 hb01 hb11 hbS0 bS hsk hvk hv hv3 hsh hcn hc3 eS hX1 hX hs1
  go_wp2_with fail
  apply onceL
  case h =>
    intro REST
    go_region_held3 (fun w' => w'.cell? ⟨w.heap.size, 2, none⟩ = some (.slice (some ⟨b0, o0, none⟩) ks.length cap) ∧ w'.cell? ⟨b0, o0, none⟩ = some (.int .i64 k0) ∧ w'.cell? ⟨b0, o0 + 1, none⟩ = some (.int .i64 n0) ∧ w'.cell? ⟨b0, o0 + 2, none⟩ = some (.slice A0 kids0.length cap0) ∧ w'.cell? ⟨b0, o0 + 3, none⟩ = some (.int .i64 k1) ∧ w'.cell? ⟨b0, o0 + 4, none⟩ = some (.int .i64 n1) ∧ w'.cell? ⟨b0, o0 + 5, none⟩ = some (.slice A1 kids1.length cap1) ∧ w'.cell? ⟨b0, o0 + 6, none⟩ = some (.int .i64 k2) ∧ w'.cell? ⟨b0, o0 + 7, none⟩ = some (.int .i64 n2) ∧ w'.cell? ⟨b0, o0 + 8, none⟩ = some (.slice A2 kids2.length cap2) ∧ w'.cell? ⟨wr.heap.size, 0, none⟩ = some (.int .i64 k4) ∧ w'.cell? ⟨wr.heap.size, 1, none⟩ = some (.int .i64 n4) ∧ w'.cell? ⟨wr.heap.size, 2, none⟩ = some (.slice A4 kids4.length cap4))
      (first | exact HC.out _ H5 _ (fun y h1 _ => by rw [Below.heap_setCell _ _ _ _ (fun h9 => by have t1 := H1.size; have t2 := H2.size; have t3 := H3.size; have t4 := H4.size; dsimp only at h9; omega), Below.heap_setCell _ _ _ _ (fun h9 => by have t1 := H1.size; have t2 := H2.size; have t3 := H3.size; have t4 := H4.size; dsimp only at h9; omega), Below.heap_setCell _ _ _ _ (fun h9 => by have t1 := H1.size; have t2 := H2.size; have t3 := H3.size; have t4 := H4.size; dsimp only at h9; omega)]) | exact HC.out _ H5 _ (fun y h1 _ => by with_reducible rfl) | exact HC.out _ (H5.alloc _) _ (fun y h1 _ => by with_reducible rfl) | exact HC.out _ ((H5.alloc _).alloc _) _ (fun y h1 _ => by with_reducible rfl) | exact HC.out _ H4 _ (fun y h1 _ => by with_reducible rfl) | exact HC.out _ (H4.alloc _) _ (fun y h1 _ => by with_reducible rfl) | exact HC.out _ ((H4.alloc _).alloc _) _ (fun y h1 _ => by with_reducible rfl) | exact HC.out _ H3 _ (fun y h1 _ => by with_reducible rfl) | exact HC.out _ (H3.alloc _) _ (fun y h1 _ => by with_reducible rfl) | exact HC.out _ ((H3.alloc _).alloc _) _ (fun y h1 _ => by with_reducible rfl) | exact HC.out _ H2 _ (fun y h1 _ => by with_reducible rfl) | exact HC.out _ (H2.alloc _) _ (fun y h1 _ => by with_reducible rfl) | exact HC.out _ ((H2.alloc _).alloc _) _ (fun y h1 _ => by with_reducible rfl) | exact HC.out _ H1 _ (fun y h1 _ => by with_reducible rfl) | exact HC.out _ (H1.alloc _) _ (fun y h1 _ => by with_reducible rfl) | exact HC.out _ ((H1.alloc _).alloc _) _ (fun y h1 _ => by with_reducible rfl) | exact HC.out _ hEd _ (fun y h1 _ => by with_reducible rfl) | exact HC.out _ (hEd.alloc _) _ (fun y h1 _ => by with_reducible rfl) | exact HC.out _ ((Ext.refl wS).alloc _).drew _ (fun y h1 _ => by with_reducible rfl))
      (first | (go_at_call_of 96 A0; refine (l1Copy_from _ _ _ (L0.ext (by with_reducible (first | exact ((Ext.refl wS).alloc _).drew | exact hEd.alloc _ | exact hEd))) (by omega)).mono ?_; rintro e w1 ⟨p11, p12, p13, p14, p15, z1, y1, rfl, hM1, h1, hz1, hy1⟩; have H1 : Ext wS w1 := Ext.trans (by with_reducible (first | exact ((Ext.refl wS).alloc _).drew | exact hEd.alloc _ | exact hEd)) h1; (first | (have h1' : Ext (World.alloc (World.drew wS) (.cells #[.int .i64 0, .int .i64 0, .slice none 0 0] 45)) w1 := (by with_reducible exact h1); have qb1 : w1.heap[wS.heap.size]? = some (.cells #[.int .i64 0, .int .i64 0, .slice none 0 0] 45 (0, 0)) := Ext.blk h1' (heap_alloc_new wS.drew (.cells #[.int .i64 0, .int .i64 0, .slice none 0 0] 45))) | (have h1' : Ext (World.drew (World.alloc wS (.cells #[.int .i64 0, .int .i64 0, .slice none 0 0] 45))) w1 := (by with_reducible exact h1); have qb1 : w1.heap[wS.heap.size]? = some (.cells #[.int .i64 0, .int .i64 0, .slice none 0 0] 45 (0, 0)) := Ext.blk h1' (heap_alloc_new wS (.cells #[.int .i64 0, .int .i64 0, .slice none 0 0] 45))) | (have qb1 := trivial))) | (go_at_call_of 96 A1; refine (l1Copy_from _ _ _ (L1.ext (by with_reducible (first | exact (H1.alloc _).alloc _ | exact H1.alloc _ | exact H1 | exact ((Ext.refl wS).alloc _).drew | exact hEd.alloc _ | exact hEd))) (by omega)).mono ?_; rintro e w2 ⟨p21, p22, p23, p24, p25, z2, y2, rfl, hM2, h2, hz2, hy2⟩; have H2 : Ext wS w2 := Ext.trans (by with_reducible (first | exact (H1.alloc _).alloc _ | exact H1.alloc _ | exact H1 | exact ((Ext.refl wS).alloc _).drew | exact hEd.alloc _ | exact hEd)) h2; have X2 : Ext w1 w2 := (by with_reducible (first | exact h2 | exact ((Ext.refl _).alloc _).trans h2)); (first | (have qb2 := Ext.blk h2 qb1) | (have qb2 : w2.heap[w1.heap.size]? = some (.cells #[.int .i64 0, .int .i64 0, .slice none 0 0] 45 (0, 0)) := (by with_reducible exact Ext.blk h2 (heap_alloc_new w1 (.cells #[.int .i64 0, .int .i64 0, .slice none 0 0] 45)))) | (have qb2 := trivial))) | (go_at_call_of 96 A2; refine (l1Copy_from _ _ _ (L2.ext (by with_reducible (first | exact (H2.alloc _).alloc _ | exact H2.alloc _ | exact H2 | exact (H1.alloc _).alloc _ | exact H1.alloc _ | exact H1 | exact ((Ext.refl wS).alloc _).drew | exact hEd.alloc _ | exact hEd))) (by omega)).mono ?_; rintro e w3 ⟨p31, p32, p33, p34, p35, z3, y3, rfl, hM3, h3, hz3, hy3⟩; have H3 : Ext wS w3 := Ext.trans (by with_reducible (first | exact (H2.alloc _).alloc _ | exact H2.alloc _ | exact H2 | exact (H1.alloc _).alloc _ | exact H1.alloc _ | exact H1 | exact ((Ext.refl wS).alloc _).drew | exact hEd.alloc _ | exact hEd)) h3; have X3 : Ext w2 w3 := (by with_reducible (first | exact h3 | exact ((Ext.refl _).alloc _).trans h3)); (first | (have qb3 := Ext.blk h3 qb2) | (have qb3 : w3.heap[w2.heap.size]? = some (.cells #[.int .i64 0, .int .i64 0, .slice none 0 0] 45 (0, 0)) := (by with_reducible exact Ext.blk h3 (heap_alloc_new w2 (.cells #[.int .i64 0, .int .i64 0, .slice none 0 0] 45)))) | (have qb3 := trivial))) | (go_at_call_of 96 A4; refine (l1Copy_from _ _ _ (L4.ext (by with_reducible (first | exact (H3.alloc _).alloc _ | exact H3.alloc _ | exact H3 | exact (H2.alloc _).alloc _ | exact H2.alloc _ | exact H2 | exact (H1.alloc _).alloc _ | exact H1.alloc _ | exact H1 | exact ((Ext.refl wS).alloc _).drew | exact hEd.alloc _ | exact hEd))) (by omega)).mono ?_; rintro e w4 ⟨p41, p42, p43, p44, p45, z4, y4, rfl, hM4, h4, hz4, hy4⟩; have H4 : Ext wS w4 := Ext.trans (by with_reducible (first | exact (H3.alloc _).alloc _ | exact H3.alloc _ | exact H3 | exact (H2.alloc _).alloc _ | exact H2.alloc _ | exact H2 | exact (H1.alloc _).alloc _ | exact H1.alloc _ | exact H1 | exact ((Ext.refl wS).alloc _).drew | exact hEd.alloc _ | exact hEd)) h4; have X4 : Ext w3 w4 := (by with_reducible (first | exact h4 | exact ((Ext.refl _).alloc _).trans h4)); (first | (have qb4 := Ext.blk h4 qb3) | (have qb4 : w4.heap[w3.heap.size]? = some (.cells #[.int .i64 0, .int .i64 0, .slice none 0 0] 45 (0, 0)) := (by with_reducible exact Ext.blk h4 (heap_alloc_new w3 (.cells #[.int .i64 0, .int .i64 0, .slice none 0 0] 45)))) | (have qb4 := trivial))) | (go_at_call 94; (with_reducible show Calls _ _ #[.int .i64 9, .slice (some ⟨_, 0, none⟩) 4 4] _ _); refine (tnode4 (hM1.later (X2.trans (X3.trans (X4.trans (by with_reducible (first | exact (Ext.refl _).alloc _ | exact ((Ext.refl _).alloc _).alloc _)))))) (hM2.later (X3.trans (X4.trans (by with_reducible (first | exact (Ext.refl _).alloc _ | exact ((Ext.refl _).alloc _).alloc _))))) (hM3.later (X4.trans (by with_reducible (first | exact (Ext.refl _).alloc _ | exact ((Ext.refl _).alloc _).alloc _)))) (hM4.later (by with_reducible (first | exact (Ext.refl _).alloc _ | exact ((Ext.refl _).alloc _).alloc _))) (by first | (with_reducible exact heap_alloc_at rfl) | (with_reducible exact heap_alloc_at (by simp)) | (with_reducible exact ((Ext.refl _).alloc _).blk (heap_alloc_at rfl)))).mono ?_; rintro e w5 ⟨q1, q2, q3, q4, q5, z5, y5, rfl, hM5, h5, hz5, hy5⟩; have X5 : Ext w4 w5 := Ext.trans (by with_reducible (first | exact (Ext.refl _).alloc _ | exact ((Ext.refl _).alloc _).alloc _)) h5; have H5 : Ext wS w5 := H4.trans X5; (first | (have qb5 := Ext.blk X5 qb4; obtain ⟨s0, s1, s2, f0, f1, f2⟩ := own3 qb5) | (have qb5 : w5.heap[w4.heap.size]? = some (.cells #[.int .i64 0, .int .i64 0, .slice none 0 0] 45 (0, 0)) := (by with_reducible exact Ext.blk h5 (((Ext.refl _).alloc _).blk (heap_alloc_new w4 (.cells #[.int .i64 0, .int .i64 0, .slice none 0 0] 45)))); obtain ⟨s0, s1, s2, f0, f1, f2⟩ := own3 qb5) | (have qb5 : w5.heap[w4.heap.size + 1]? = some (.cells #[.int .i64 0, .int .i64 0, .slice none 0 0] 45 (0, 0)) := (by with_reducible exact Ext.blk h5 (heap_alloc_at (o := (.cells #[.int .i64 0, .int .i64 0, .slice none 0 0] 45)) (by simp))); obtain ⟨s0, s1, s2, f0, f1, f2⟩ := own3 qb5) | (have qb5 := trivial))))
    all_goals (have t1 := H1.size; have t2 := X2.size; have t3 := X3.size; have t4 := X4.size; have t5 := X5.size; have u1 := h1.size; have u2 := h2.size; have u3 := h3.size; have u4 := h4.size; have u5 := h5.size; (try simp at u1); (try simp at hz1); (try simp at u2); (try simp at hz2); (try simp at u3); (try simp at hz3); (try simp at u4); (try simp at hz4); (try simp at u5); (try simp at hz5); have B5 := hM5.bound)
    all_goals (first
      | (have hxw : wS.heap.size ≤ wS.heap.size := (by omega); have hne : ∀ b, ((((z1 ≤ b ∧ b < y1) ∨ (z2 ≤ b ∧ b < y2) ∨ (z3 ≤ b ∧ b < y3) ∨ (z4 ≤ b ∧ b < y4) ∨ b = w4.heap.size) ∨ z5 ≤ b ∧ b < y5) ∧ b < w5.heap.size) → b ≠ wS.heap.size ∧ wS.heap.size ≤ b := (fun b hb => by omega); obtain ⟨w7, hw7⟩ : ∃ x, x = ((w5.setCell ⟨wS.heap.size, 0, none⟩ (.int .i64 q1)).setCell ⟨wS.heap.size, 1, none⟩ (.int .i64 q2)).setCell ⟨wS.heap.size, 2, none⟩ (.slice q3 q4 q5) := ⟨_, rfl⟩; have en : Ext wS w7 := (by rw [hw7]; exact ((H5.setCell (p := ⟨wS.heap.size, 0, none⟩) hxw _).setCell (p := ⟨wS.heap.size, 1, none⟩) hxw _).setCell (p := ⟨wS.heap.size, 2, none⟩) hxw _); have bn : w7.heap[wS.heap.size]? = some (.cells #[.int .i64 q1, .int .i64 q2, .slice q3 q4 q5] 45 (0, 0)) := (by rw [hw7]; exact blk_setCell (blk_setCell (blk_setCell qb5 0 (.int .i64 q1)) 1 (.int .i64 q2)) 2 (.slice q3 q4 q5)); have Rn : New wS w7 (.mk 9 0 [.mk k0 n0 kids0, .mk k1 n1 kids1, .mk k2 n2 kids2, .mk k4 n4 kids4]) (.agg #[.int .i64 q1, .int .i64 q2, .slice q3 q4 q5]) := (by rw [hw7]; exact InT.mono (fun b hb => ⟨(hne b hb).2, by simp only [World.size_setCell]; exact hb.2⟩) (fun b hb => by have h9 := (hne b hb).1; rw [Below.heap_setCell _ _ _ _ h9, Below.heap_setCell _ _ _ _ h9, Below.heap_setCell _ _ _ _ h9]) B5); rw [← hw7]; clear hw7; obtain ⟨g5, hg5⟩ : ∃ x, x = wS.heap.size := ⟨_, rfl⟩; rw [← hg5] at bn ⊢; have hg5l : wS.heap.size ≤ g5 := (by omega); obtain ⟨G9, hG9⟩ : ∃ x, x = w4.heap.size := ⟨_, rfl⟩; rw [← hG9]; clear hg5 hG9)
      | (have hxw : wS.heap.size ≤ w1.heap.size := (by omega); have hne : ∀ b, ((((z1 ≤ b ∧ b < y1) ∨ (z2 ≤ b ∧ b < y2) ∨ (z3 ≤ b ∧ b < y3) ∨ (z4 ≤ b ∧ b < y4) ∨ b = w4.heap.size) ∨ z5 ≤ b ∧ b < y5) ∧ b < w5.heap.size) → b ≠ w1.heap.size ∧ wS.heap.size ≤ b := (fun b hb => by omega); obtain ⟨w7, hw7⟩ : ∃ x, x = ((w5.setCell ⟨w1.heap.size, 0, none⟩ (.int .i64 q1)).setCell ⟨w1.heap.size, 1, none⟩ (.int .i64 q2)).setCell ⟨w1.heap.size, 2, none⟩ (.slice q3 q4 q5) := ⟨_, rfl⟩; have en : Ext wS w7 := (by rw [hw7]; exact ((H5.setCell (p := ⟨w1.heap.size, 0, none⟩) hxw _).setCell (p := ⟨w1.heap.size, 1, none⟩) hxw _).setCell (p := ⟨w1.heap.size, 2, none⟩) hxw _); have bn : w7.heap[w1.heap.size]? = some (.cells #[.int .i64 q1, .int .i64 q2, .slice q3 q4 q5] 45 (0, 0)) := (by rw [hw7]; exact blk_setCell (blk_setCell (blk_setCell qb5 0 (.int .i64 q1)) 1 (.int .i64 q2)) 2 (.slice q3 q4 q5)); have Rn : New wS w7 (.mk 9 0 [.mk k0 n0 kids0, .mk k1 n1 kids1, .mk k2 n2 kids2, .mk k4 n4 kids4]) (.agg #[.int .i64 q1, .int .i64 q2, .slice q3 q4 q5]) := (by rw [hw7]; exact InT.mono (fun b hb => ⟨(hne b hb).2, by simp only [World.size_setCell]; exact hb.2⟩) (fun b hb => by have h9 := (hne b hb).1; rw [Below.heap_setCell _ _ _ _ h9, Below.heap_setCell _ _ _ _ h9, Below.heap_setCell _ _ _ _ h9]) B5); rw [← hw7]; clear hw7; obtain ⟨g5, hg5⟩ : ∃ x, x = w1.heap.size := ⟨_, rfl⟩; rw [← hg5] at bn ⊢; have hg5l : wS.heap.size ≤ g5 := (by omega); obtain ⟨G9, hG9⟩ : ∃ x, x = w4.heap.size := ⟨_, rfl⟩; rw [← hG9]; clear hg5 hG9)
      | (have hxw : wS.heap.size ≤ w2.heap.size := (by omega); have hne : ∀ b, ((((z1 ≤ b ∧ b < y1) ∨ (z2 ≤ b ∧ b < y2) ∨ (z3 ≤ b ∧ b < y3) ∨ (z4 ≤ b ∧ b < y4) ∨ b = w4.heap.size) ∨ z5 ≤ b ∧ b < y5) ∧ b < w5.heap.size) → b ≠ w2.heap.size ∧ wS.heap.size ≤ b := (fun b hb => by omega); obtain ⟨w7, hw7⟩ : ∃ x, x = ((w5.setCell ⟨w2.heap.size, 0, none⟩ (.int .i64 q1)).setCell ⟨w2.heap.size, 1, none⟩ (.int .i64 q2)).setCell ⟨w2.heap.size, 2, none⟩ (.slice q3 q4 q5) := ⟨_, rfl⟩; have en : Ext wS w7 := (by rw [hw7]; exact ((H5.setCell (p := ⟨w2.heap.size, 0, none⟩) hxw _).setCell (p := ⟨w2.heap.size, 1, none⟩) hxw _).setCell (p := ⟨w2.heap.size, 2, none⟩) hxw _); have bn : w7.heap[w2.heap.size]? = some (.cells #[.int .i64 q1, .int .i64 q2, .slice q3 q4 q5] 45 (0, 0)) := (by rw [hw7]; exact blk_setCell (blk_setCell (blk_setCell qb5 0 (.int .i64 q1)) 1 (.int .i64 q2)) 2 (.slice q3 q4 q5)); have Rn : New wS w7 (.mk 9 0 [.mk k0 n0 kids0, .mk k1 n1 kids1, .mk k2 n2 kids2, .mk k4 n4 kids4]) (.agg #[.int .i64 q1, .int .i64 q2, .slice q3 q4 q5]) := (by rw [hw7]; exact InT.mono (fun b hb => ⟨(hne b hb).2, by simp only [World.size_setCell]; exact hb.2⟩) (fun b hb => by have h9 := (hne b hb).1; rw [Below.heap_setCell _ _ _ _ h9, Below.heap_setCell _ _ _ _ h9, Below.heap_setCell _ _ _ _ h9]) B5); rw [← hw7]; clear hw7; obtain ⟨g5, hg5⟩ : ∃ x, x = w2.heap.size := ⟨_, rfl⟩; rw [← hg5] at bn ⊢; have hg5l : wS.heap.size ≤ g5 := (by omega); obtain ⟨G9, hG9⟩ : ∃ x, x = w4.heap.size := ⟨_, rfl⟩; rw [← hG9]; clear hg5 hG9)
      | (have hxw : wS.heap.size ≤ w3.heap.size := (by omega); have hne : ∀ b, ((((z1 ≤ b ∧ b < y1) ∨ (z2 ≤ b ∧ b < y2) ∨ (z3 ≤ b ∧ b < y3) ∨ (z4 ≤ b ∧ b < y4) ∨ b = w4.heap.size) ∨ z5 ≤ b ∧ b < y5) ∧ b < w5.heap.size) → b ≠ w3.heap.size ∧ wS.heap.size ≤ b := (fun b hb => by omega); obtain ⟨w7, hw7⟩ : ∃ x, x = ((w5.setCell ⟨w3.heap.size, 0, none⟩ (.int .i64 q1)).setCell ⟨w3.heap.size, 1, none⟩ (.int .i64 q2)).setCell ⟨w3.heap.size, 2, none⟩ (.slice q3 q4 q5) := ⟨_, rfl⟩; have en : Ext wS w7 := (by rw [hw7]; exact ((H5.setCell (p := ⟨w3.heap.size, 0, none⟩) hxw _).setCell (p := ⟨w3.heap.size, 1, none⟩) hxw _).setCell (p := ⟨w3.heap.size, 2, none⟩) hxw _); have bn : w7.heap[w3.heap.size]? = some (.cells #[.int .i64 q1, .int .i64 q2, .slice q3 q4 q5] 45 (0, 0)) := (by rw [hw7]; exact blk_setCell (blk_setCell (blk_setCell qb5 0 (.int .i64 q1)) 1 (.int .i64 q2)) 2 (.slice q3 q4 q5)); have Rn : New wS w7 (.mk 9 0 [.mk k0 n0 kids0, .mk k1 n1 kids1, .mk k2 n2 kids2, .mk k4 n4 kids4]) (.agg #[.int .i64 q1, .int .i64 q2, .slice q3 q4 q5]) := (by rw [hw7]; exact InT.mono (fun b hb => ⟨(hne b hb).2, by simp only [World.size_setCell]; exact hb.2⟩) (fun b hb => by have h9 := (hne b hb).1; rw [Below.heap_setCell _ _ _ _ h9, Below.heap_setCell _ _ _ _ h9, Below.heap_setCell _ _ _ _ h9]) B5); rw [← hw7]; clear hw7; obtain ⟨g5, hg5⟩ : ∃ x, x = w3.heap.size := ⟨_, rfl⟩; rw [← hg5] at bn ⊢; have hg5l : wS.heap.size ≤ g5 := (by omega); obtain ⟨G9, hG9⟩ : ∃ x, x = w4.heap.size := ⟨_, rfl⟩; rw [← hG9]; clear hg5 hG9)
      | (have hxw : wS.heap.size ≤ w4.heap.size := (by omega); have hne : ∀ b, ((((z1 ≤ b ∧ b < y1) ∨ (z2 ≤ b ∧ b < y2) ∨ (z3 ≤ b ∧ b < y3) ∨ (z4 ≤ b ∧ b < y4) ∨ b = w4.heap.size + 1) ∨ z5 ≤ b ∧ b < y5) ∧ b < w5.heap.size) → b ≠ w4.heap.size ∧ wS.heap.size ≤ b := (fun b hb => by omega); obtain ⟨w7, hw7⟩ : ∃ x, x = ((w5.setCell ⟨w4.heap.size, 0, none⟩ (.int .i64 q1)).setCell ⟨w4.heap.size, 1, none⟩ (.int .i64 q2)).setCell ⟨w4.heap.size, 2, none⟩ (.slice q3 q4 q5) := ⟨_, rfl⟩; have en : Ext wS w7 := (by rw [hw7]; exact ((H5.setCell (p := ⟨w4.heap.size, 0, none⟩) hxw _).setCell (p := ⟨w4.heap.size, 1, none⟩) hxw _).setCell (p := ⟨w4.heap.size, 2, none⟩) hxw _); have bn : w7.heap[w4.heap.size]? = some (.cells #[.int .i64 q1, .int .i64 q2, .slice q3 q4 q5] 45 (0, 0)) := (by rw [hw7]; exact blk_setCell (blk_setCell (blk_setCell qb5 0 (.int .i64 q1)) 1 (.int .i64 q2)) 2 (.slice q3 q4 q5)); have Rn : New wS w7 (.mk 9 0 [.mk k0 n0 kids0, .mk k1 n1 kids1, .mk k2 n2 kids2, .mk k4 n4 kids4]) (.agg #[.int .i64 q1, .int .i64 q2, .slice q3 q4 q5]) := (by rw [hw7]; exact InT.mono (fun b hb => ⟨(hne b hb).2, by simp only [World.size_setCell]; exact hb.2⟩) (fun b hb => by have h9 := (hne b hb).1; rw [Below.heap_setCell _ _ _ _ h9, Below.heap_setCell _ _ _ _ h9, Below.heap_setCell _ _ _ _ h9]) B5); rw [← hw7]; clear hw7; obtain ⟨G9, hG9⟩ : ∃ x, x = w4.heap.size + 1 := ⟨_, rfl⟩; rw [← hG9]; obtain ⟨g5, hg5⟩ : ∃ x, x = w4.heap.size := ⟨_, rfl⟩; rw [← hg5] at bn ⊢; have hg5l : wS.heap.size ≤ g5 := (by omega); clear hg5 hG9)
      | (have hxw : wS.heap.size ≤ (w4.heap.size + 1) := (by omega); have hne : ∀ b, ((((z1 ≤ b ∧ b < y1) ∨ (z2 ≤ b ∧ b < y2) ∨ (z3 ≤ b ∧ b < y3) ∨ (z4 ≤ b ∧ b < y4) ∨ b = w4.heap.size) ∨ z5 ≤ b ∧ b < y5) ∧ b < w5.heap.size) → b ≠ (w4.heap.size + 1) ∧ wS.heap.size ≤ b := (fun b hb => by omega); obtain ⟨w7, hw7⟩ : ∃ x, x = ((w5.setCell ⟨(w4.heap.size + 1), 0, none⟩ (.int .i64 q1)).setCell ⟨(w4.heap.size + 1), 1, none⟩ (.int .i64 q2)).setCell ⟨(w4.heap.size + 1), 2, none⟩ (.slice q3 q4 q5) := ⟨_, rfl⟩; have en : Ext wS w7 := (by rw [hw7]; exact ((H5.setCell (p := ⟨(w4.heap.size + 1), 0, none⟩) hxw _).setCell (p := ⟨(w4.heap.size + 1), 1, none⟩) hxw _).setCell (p := ⟨(w4.heap.size + 1), 2, none⟩) hxw _); have bn : w7.heap[(w4.heap.size + 1)]? = some (.cells #[.int .i64 q1, .int .i64 q2, .slice q3 q4 q5] 45 (0, 0)) := (by rw [hw7]; exact blk_setCell (blk_setCell (blk_setCell qb5 0 (.int .i64 q1)) 1 (.int .i64 q2)) 2 (.slice q3 q4 q5)); have Rn : New wS w7 (.mk 9 0 [.mk k0 n0 kids0, .mk k1 n1 kids1, .mk k2 n2 kids2, .mk k4 n4 kids4]) (.agg #[.int .i64 q1, .int .i64 q2, .slice q3 q4 q5]) := (by rw [hw7]; exact InT.mono (fun b hb => ⟨(hne b hb).2, by simp only [World.size_setCell]; exact hb.2⟩) (fun b hb => by have h9 := (hne b hb).1; rw [Below.heap_setCell _ _ _ _ h9, Below.heap_setCell _ _ _ _ h9, Below.heap_setCell _ _ _ _ h9]) B5); rw [← hw7]; clear hw7; obtain ⟨g5, hg5⟩ : ∃ x, x = (w4.heap.size + 1) := ⟨_, rfl⟩; rw [← hg5] at bn ⊢; have hg5l : wS.heap.size ≤ g5 := (by omega); obtain ⟨G9, hG9⟩ : ∃ x, x = w4.heap.size := ⟨_, rfl⟩; rw [← hG9]; clear hg5 hG9)
      | (have hne : ∀ b, ((((z1 ≤ b ∧ b < y1) ∨ (z2 ≤ b ∧ b < y2) ∨ (z3 ≤ b ∧ b < y3) ∨ (z4 ≤ b ∧ b < y4) ∨ b = w4.heap.size) ∨ z5 ≤ b ∧ b < y5) ∧ b < w5.heap.size) → wS.heap.size ≤ b := (fun b hb => by omega); obtain ⟨w7, hw7⟩ : ∃ x, x = w5.alloc (.cells #[.int .i64 q1, .int .i64 q2, .slice q3 q4 q5] 45) := ⟨_, rfl⟩; have en : Ext wS w7 := (by rw [hw7]; exact H5.alloc _); have bn : w7.heap[w5.heap.size]? = some (.cells #[.int .i64 q1, .int .i64 q2, .slice q3 q4 q5] 45 (0, 0)) := (by rw [hw7]; exact heap_alloc_new w5 _); have Rn : New wS w7 (.mk 9 0 [.mk k0 n0 kids0, .mk k1 n1 kids1, .mk k2 n2 kids2, .mk k4 n4 kids4]) (.agg #[.int .i64 q1, .int .i64 q2, .slice q3 q4 q5]) := (by rw [hw7]; exact InT.mono (fun b hb => ⟨hne b hb, by have h9 := hb.2; simp; omega⟩) (fun b hb => ((Ext.refl w5).alloc _).heap b hb.2) B5); rw [← hw7]; clear hw7; obtain ⟨g5, hg5⟩ : ∃ x, x = w5.heap.size := ⟨_, rfl⟩; rw [← hg5] at bn ⊢; have hg5l : wS.heap.size ≤ g5 := (by omega); obtain ⟨G9, hG9⟩ : ∃ x, x = w4.heap.size := ⟨_, rfl⟩; rw [← hG9]; clear hg5 hG9))
    all_goals (try clear s0 s1 s2 f0 f1 f2)
    all_goals clear B5 hM1 hM2 hM3 hM4 hM5 qb5 qb4 qb3 qb2 qb1 h5
    all_goals rename_i hheld
    all_goals clear hheld
    all_goals revert Rn
    all_goals revert bn
    all_goals revert en
    all_goals revert hg5l
    all_goals revert g5
    all_goals revert w7
    all_goals revert G9
    all_goals revert q5
    all_goals revert q4
    all_goals revert q3
    all_goals revert q2
    all_goals revert q1
    all_goals revert p45
    all_goals revert p44
    all_goals revert p43
    all_goals revert p42
    all_goals revert p41
    all_goals revert p35
    all_goals revert p34
    all_goals revert p33
    all_goals revert p32
    all_goals revert p31
    all_goals revert p25
    all_goals revert p24
    all_goals revert p23
    all_goals revert p22
    all_goals revert p21
    all_goals revert p15
    all_goals revert p14
    all_goals revert p13
    all_goals revert p12
    all_goals revert p11
    all_goals exact REST.out
  case k =>
    intro p11 p12 p13 p14 p15 p21 p22 p23 p24 p25 p31 p32 p33 p34 p35 p41 p42 p43 p44 p45 q1 q2 q3 q4 q5 G9 w7 g5 hg5l en bn Rn
    have hg7 : g5 < w7.heap.size := lt_of_blk bn
    obtain ⟨y0, y1, y2, -, -, -⟩ := own3 bn
    have hb17 := en.blk hbS1
    have hs7 := en.size
    have HC7 := Lib.hid (show ∀ w' : World, (∀ y, y < w7.heap.size → y ≠ w.heap.size + 1 → w'.heap[y]? = w7.heap[y]?) → w'.cell? ⟨w.heap.size, 2, none⟩ = some (.slice (some ⟨b0, o0, none⟩) ks.length cap) ∧ w'.cell? ⟨b0, o0 + 6, none⟩ = some (.int .i64 k2) ∧ w'.cell? ⟨b0, o0 + 7, none⟩ = some (.int .i64 n2) ∧ w'.cell? ⟨b0, o0 + 8, none⟩ = some (.slice A2 kids2.length cap2) ∧ w'.cell? ⟨wr.heap.size, 0, none⟩ = some (.int .i64 k4) ∧ w'.cell? ⟨wr.heap.size, 1, none⟩ = some (.int .i64 n4) ∧ w'.cell? ⟨wr.heap.size, 2, none⟩ = some (.slice A4 kids4.length cap4) ∧ w'.cell? ⟨g5, 0, none⟩ = some (.int .i64 q1) ∧ w'.cell? ⟨g5, 1, none⟩ = some (.int .i64 q2) ∧ w'.cell? ⟨g5, 2, none⟩ = some (.slice q3 q4 q5) from fun w' hw => by
      obtain ⟨r1, r2, r3, r4, r5, r6, r7, r8, r9, r10, r11, r12, r13⟩ := HC.out w7 en w' (fun y h1 h2 => hw y (by omega) h2)
      have f : ∀ (j : Nat) (x : Value), w7.cell? ⟨g5, j, none⟩ = some x → w'.cell? ⟨g5, j, none⟩ = some x := fun j x h3 => (World.cell?_of_block (a := ⟨g5, j, none⟩) (hw g5 hg7 (by omega))).trans h3
      exact ⟨r1, r8, r9, r10, r11, r12, r13, f _ _ y0, f _ _ y1, f _ _ y2⟩)
    have X7 : Ext w7 w7.drew := (Ext.refl w7).drew
    have L27 := L2.ext en
    have L47 := L4.ext en
    have HE7 := Lib.hid (hX3.trans en)
    clear y0 y1 y2 HC hbS1 L0 L1 L2 L4
    go_wp2_with fail
    go_region_held3 (fun w' => w'.cell? ⟨w.heap.size, 2, none⟩ = some (.slice (some ⟨b0, o0, none⟩) ks.length cap) ∧ w'.cell? ⟨b0, o0 + 6, none⟩ = some (.int .i64 k2) ∧ w'.cell? ⟨b0, o0 + 7, none⟩ = some (.int .i64 n2) ∧ w'.cell? ⟨b0, o0 + 8, none⟩ = some (.slice A2 kids2.length cap2) ∧ w'.cell? ⟨wr.heap.size, 0, none⟩ = some (.int .i64 k4) ∧ w'.cell? ⟨wr.heap.size, 1, none⟩ = some (.int .i64 n4) ∧ w'.cell? ⟨wr.heap.size, 2, none⟩ = some (.slice A4 kids4.length cap4) ∧ w'.cell? ⟨g5, 0, none⟩ = some (.int .i64 q1) ∧ w'.cell? ⟨g5, 1, none⟩ = some (.int .i64 q2) ∧ w'.cell? ⟨g5, 2, none⟩ = some (.slice q3 q4 q5))
      (first | exact HC7.out _ (fun y h1 h2 => by rw [Below.heap_setCell _ _ _ _ h2, Below.heap_setCell _ _ _ _ h2, Below.heap_setCell _ _ _ _ h2]; exact H11.heap y h1) | exact HC7.out _ (fun y h1 _ => by with_reducible exact Ext.heap (H11) y h1) | exact HC7.out _ (fun y h1 _ => by with_reducible exact Ext.heap (H10.alloc _) y h1) | exact HC7.out _ (fun y h1 _ => by with_reducible exact Ext.heap (H10) y h1) | exact HC7.out _ (fun y h1 _ => by with_reducible exact Ext.heap (H9.alloc _) y h1) | exact HC7.out _ (fun y h1 _ => by with_reducible exact Ext.heap (H9) y h1) | exact HC7.out _ (fun y h1 _ => by with_reducible exact Ext.heap (H8) y h1) | exact HC7.out _ (fun y h1 _ => by with_reducible exact Ext.heap (X7) y h1))
      (first | (go_at_call 94; (with_reducible show Calls _ _ #[.int .i64 5, .slice (some ⟨w10.heap.size, 0, none⟩) 2 2] _ _); refine (tnode2 (hM10.later ((Ext.refl w10).alloc _)) (InT.later Rn (H10.alloc _)) (heap_alloc_new w10 _)).mono ?_; rintro e w11 ⟨a1, a2, a3, a4, a5, z11, y11, rfl, hM11, h11, hz11, hy11⟩; have H11 : Ext w7 w11 := (H10.alloc _).trans h11; obtain ⟨s0, s1, s2, f0, f1, f2⟩ := own3 (H11.blk hb17)) | (go_at_call 94; (with_reducible show Calls _ _ #[.int .i64 5, .slice (some ⟨w9.heap.size, 0, none⟩) 2 2] _ _); refine (tnode2 (hM8.later (h9.alloc _)) (hM9.later ((Ext.refl w9).alloc _)) (heap_alloc_new w9 _)).mono ?_; rintro e w10 ⟨e1, e2, e3, e4, e5, z10, y10, rfl, hM10, h10, hz10, hy10⟩; have H10 : Ext w7 w10 := (H9.alloc _).trans h10) | (go_at_call_of 96 A4; refine (l1Copy_from _ _ _ (L47.ext H8) (by omega)).mono ?_; rintro e w9 ⟨p21, p22, p23, p24, p25, z9, y9, rfl, hM9, h9, hz9, hy9⟩; have H9 : Ext w7 w9 := H8.trans h9) | (go_at_call_of 96 A2; refine (l1Copy_from _ _ _ (L27.ext X7) (by omega)).mono ?_; rintro e w8 ⟨p11, p12, p13, p14, p15, z8, y8, rfl, hM8, h8, hz8, hy8⟩; have H8 : Ext w7 w8 := X7.trans h8))
    have t8 := H8.size
    have t9 := h9.size
    have t10 := h10.size
    have t11 := h11.size
    simp at hz8 hz9 hz10 hz11
    simp at t10 t11
    have HB11 := Lib.hid hM11.bound
    have HX := Lib.hid (HE7.out.trans H11)
    clear hb17 bn Rn HC7 hM8 hM9 hM10 hM11
    go_wp2_with fail
    refine bodyPost_ret (v := .agg #[.int .i64 a1, .int .i64 a2, .slice a3 a4 a5]) (by simp [results, Tryz.results162, go_sem, s0, s1, s2]) rfl ⟨_, rfl, ?_, ?_⟩
    · refine InT.mono ?ca ?cb HB11.out
      case ca => exact fun b hb => by have h8 := hb.1; have h9 := hb.2; simp only [World.size_setCell]; exact ⟨by omega, h9⟩
      case cb =>
        intro b hb
        have hne : b ≠ w.heap.size + 1 := by have h9 := hb.1; omega
        rw [Below.heap_setCell _ _ _ _ hne, Below.heap_setCell _ _ _ _ hne, Below.heap_setCell _ _ _ _ hne]
    · exact ((HX.out.setCell (p := ⟨w.heap.size + 1, 0, none⟩) (by show w.heap.size ≤ w.heap.size + 1; omega) _).setCell (p := ⟨w.heap.size + 1, 1, none⟩) (by show w.heap.size ≤ w.heap.size + 1; omega) _).setCell (p := ⟨w.heap.size + 1, 2, none⟩) (by show w.heap.size ≤ w.heap.size + 1; omega) _
theorem l3Contract_new (t : Tr) (hv : valid sigT t = true) (hr : isRdx t = true) (w : World) (v : Value) (hin : Lies w t v) : Calls Tryz.prog 162 #[v] w (NewQ w (ctrT t)) := by
  obtain ⟨k, n, ks⟩ := t
  obtain ⟨A, cap, rfl, hl, hc, hK⟩ := Lies.mk_iff.1 hin
  have f : ∀ {t : Tr} {e : Ending} {w' : World}, MadeQ w t e w' → NewQ w t e w' := fun ⟨r, h1, h2, h3⟩ => ⟨r, h1, h2.inT, h3⟩
  rcases rdx_cases (isRdx_iff.1 hr) with ⟨rfl, h⟩ | ⟨rfl, h⟩ | ⟨rfl, h⟩ | ⟨rfl, h⟩ | ⟨rfl, h⟩ | ⟨rfl, h⟩
  · exact (l3con_1 n ks hv w A cap hin hK hl hc h).mono fun _ _ => f
  · exact (l3con_2 n ks hv w A cap hin hK hl hc h).mono fun _ _ => f
  · exact l3con_3 n ks hv w A cap hin hK hl hc h
  · exact (l3con_4 n ks hv w A cap hin hK hl hc h).mono fun _ _ => f
  · exact (l3con_5 n ks hv w A cap hin hK hl hc h).mono fun _ _ => f
  · exact (l3con_6 n ks hv w A cap hin hK hl hc h).mono fun _ _ => f
end Go.Proofs.YtolkohncmidpeaaGreatDoor

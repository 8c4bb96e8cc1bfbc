/-
  The reference's l12Rule.
-/
import Derived.Test.YtappakllopkfiaaFilled2
import Derived.Test.YtappakllopkfiaaClosed
import Derived.Test.YtappakllopkfiaaSpExtract
import Derived.Test.YtappakllopkfiaaRow
import Derived.Deep.RegionHeld3
namespace Go.Proofs.Ytappakllopkfiaa
open Go.RowKit
set_option linter.unusedVariables false

/-- What l12Rule answers: the tree of the rule, made since, if there is one. -/
def RulQ (w : World) (o : Option Tr) (e : Ending) (w' : World) : Prop := ∃ a1 a2 a3 a4 a5, e = .returned (.tuple #[.agg #[.int .i64 a1, .int .i64 a2, .slice a3 a4 a5], .bool o.isSome]) ∧ (∀ t', o = some t' → New w w' t' (.agg #[.int .i64 a1, .int .i64 a2, .slice a3 a4 a5])) ∧ Ext w w'
theorem kid_get {ks : List Tr} {j : Nat} {t : Tr} (h : j < ks.length) (e : ks[j] = t) : kid ks j = t := by
  unfold kid
  rw [List.getD_eq_getElem?_getD, List.getElem?_eq_getElem h, e]
  rfl
set_option maxRecDepth 100000 in
set_option maxHeartbeats 2000000 in
theorem l12Rule_3 (n : Int) (ks : List Tr) (d : Int) (hsh : ∀ t ∈ ks, shape sigC t d = true) (hcn : cnts ks ≤ 1000) (w : World) (A : Option Addr) (cap : Nat) (hK : LiesK w A ks) (hl : ks.length ≤ cap) (hc : cap ≤ maxLen) (hks : ks.length = 2) :
    Calls Try.prog 132 #[.agg #[.int .i64 3, .int .i64 n, .slice A ks.length cap]] w (RulQ w (rul 3 ks)) := by
  obtain ⟨wb, hwb⟩ : ∃ wb, wb = (w.alloc (.cells #[.int .i64 3, .int .i64 n, .slice A ks.length cap] 28)).alloc (.cells #[.int .i64 0, .int .i64 0, .slice none 0 0] 28) := ⟨_, rfl⟩
  have hX : Ext w wb := hwb ▸ ((Ext.refl w).alloc _).alloc _
  have hbs : wb.heap.size = w.heap.size + 1 + 1 := by rw [hwb]; simp
  obtain ⟨hb0, hb1, -⟩ := blk2 (Ext.refl ((w.alloc (.cells #[.int .i64 3, .int .i64 n, .slice A ks.length cap] 28)).alloc (.cells #[.int .i64 0, .int .i64 0, .slice none 0 0] 28)))
  rw [← hwb] at hb0 hb1
  have hcc := hc
  unfold maxLen at hcc
  have hlt0 : 0 < ks.length := by omega
  have hi0 : (0 : Int) < (ks.length : Int) := by omega
  obtain ⟨b0, o0, k0, n0, A0, cap0, kids0, hA0, HK0, c00, c01, c02, hkl0, hkc0, hK0, hin0, hmem0⟩ := hK.get (Ext.refl w) hlt0
  simp only [Nat.zero_mul, Nat.add_zero] at c00 c01 c02
  have hkid0 : kid ks 0 = .mk k0 n0 kids0 := kid_get hlt0 HK0.out
  have hlt1 : 1 < ks.length := by omega
  have hi1 : (1 : Int) < (ks.length : Int) := by omega
  obtain ⟨b1, o1, k1, n1, A1, cap1, kids1, hA1, HK1, c10, c11, c12, hkl1, hkc1, hK1, hin1, hmem1⟩ := hK.get (Ext.refl w) hlt1
  simp only [Nat.one_mul, Nat.add_assoc, Nat.reduceAdd] at c10 c11 c12
  have hkid1 : kid ks 1 = .mk k1 n1 kids1 := kid_get hlt1 HK1.out
  subst hA0
  injection hA1 with hA1
  injection hA1 with hB1 hC1 hD1
  subst hB1 hC1
  have hbk : b0 < w.heap.size := World.block_lt_of_cell? _ _ c00
  have hcm0 := cnt_mem hmem0
  have hcm1 := cnt_mem hmem1
  by_cases h0 : k0 = 2
  · subst h0
    obtain ⟨hops, -, -, hsk⟩ := shape_kids (hsh _ hmem0)
    have hlen : kids0.length = 1 := by have h9 : (1 : Int) = (kids0.length : Int) := hops; omega
    have hlt3 : 0 < kids0.length := by omega
    have hi3 : (0 : Int) < (kids0.length : Int) := by omega
    obtain ⟨b3, o3, k3, n3, A3, cap3, kids3, hA3, HK3, c30, c31, c32, hkl3, hkc3, hK3, hin3, hmem3⟩ := hK0.get (Ext.refl w) hlt3
    simp only [Nat.zero_mul, Nat.add_zero] at c30 c31 c32
    have hkid3 : kid kids0 0 = .mk k3 n3 kids3 := kid_get hlt3 HK3.out
    subst hA3
    have hbk3 : b3 < w.heap.size := World.block_lt_of_cell? _ _ c30
    have hcm3 := cnt_mem hmem3
    simp only [cnt] at hcm0
    have hrul : rul 3 ks = some (putT (.mk k3 n3 kids3) 0 (.mk k1 n1 kids1)) := by simp [rul, hkid0, hkid1, hkid3, Tr.kd, Tr.kids]
    rw [hrul]
    have hcells : ∀ w', Only [w.heap.size + 1] wb w' → w'.cell? ⟨w.heap.size, 2, none⟩ = some (.slice (some ⟨b0, o0, none⟩) ks.length cap) ∧ w'.cell? ⟨b0, o0 + 2, none⟩ = some (.slice (some ⟨b3, o3, none⟩) kids0.length cap0) ∧ w'.cell? ⟨b3, o3, none⟩ = some (.int .i64 k3) ∧ w'.cell? ⟨b3, o3 + 1, none⟩ = some (.int .i64 n3) ∧ w'.cell? ⟨b3, o3 + 2, none⟩ = some (.slice A3 kids3.length cap3) ∧ w'.cell? ⟨b0, o0 + 3, none⟩ = some (.int .i64 k1) ∧ w'.cell? ⟨b0, o0 + 4, none⟩ = some (.int .i64 n1) ∧ w'.cell? ⟨b0, o0 + 5, none⟩ = some (.slice A1 kids1.length cap1) := by
      intro w' h
      have hfar : ∀ q i v, q < w.heap.size + 1 → wb.cell? ⟨q, i, none⟩ = some v → w'.cell? ⟨q, i, none⟩ = some v := fun q i v hq hv =>
        (World.cell?_of_block (a := ⟨q, i, none⟩) (h.block q (by omega) (by simp; omega))).trans hv
      exact ⟨hfar _ _ _ (by omega) (cell_of_blk hb0 2), hfar _ _ _ (by omega) (hX.cell c02), hfar _ _ _ (by omega) (hX.cell c30), hfar _ _ _ (by omega) (hX.cell c31), hfar _ _ _ (by omega) (hX.cell c32), hfar _ _ _ (by omega) (hX.cell c10), hfar _ _ _ (by omega) (hX.cell c11), hfar _ _ _ (by omega) (hX.cell c12)⟩
    have HC := Lib.hid hcells
    have hEd : Ext wb wb.drew := (Ext.refl wb).drew
    clear hcells
    have c00' := hX.cell c00
    have c01' := hX.cell c01
    have c02' := hX.cell c02
    have c10' := hX.cell c10
    have c11' := hX.cell c11
    have c12' := hX.cell c12
    have c30' := hX.cell c30
    have c31' := hX.cell c31
    have c32' := hX.cell c32
    rw [hwb] at c00' c01' c02' c10' c11' c12' c30' c31' c32'
    clear hrul c00 c01 c02 c10 c11 c12 c30 c31 c32 HK0 HK1 HK3 hkid0 hkid1 hkid3 hks hlen hops
    go_enter Try.func132, Try.ntmps132
    go_wp2_with fail
    rw [← hwb]
    clear hwb c00' c01' c02' c10' c11' c12' c30' c31' c32'
    go_region_held3 (fun w' => w'.cell? ⟨w.heap.size, 2, none⟩ = some (.slice (some ⟨b0, o0, none⟩) ks.length cap) ∧ w'.cell? ⟨b0, o0 + 2, none⟩ = some (.slice (some ⟨b3, o3, none⟩) kids0.length cap0) ∧ w'.cell? ⟨b3, o3, none⟩ = some (.int .i64 k3) ∧ w'.cell? ⟨b3, o3 + 1, none⟩ = some (.int .i64 n3) ∧ w'.cell? ⟨b3, o3 + 2, none⟩ = some (.slice A3 kids3.length cap3) ∧ w'.cell? ⟨b0, o0 + 3, none⟩ = some (.int .i64 k1) ∧ w'.cell? ⟨b0, o0 + 4, none⟩ = some (.int .i64 n1) ∧ w'.cell? ⟨b0, o0 + 5, none⟩ = some (.slice A1 kids1.length cap1))
      (first | exact HC.out _ (((Only.of_ext (hEd.trans h3)).setCell (by simp) _).setCell (by simp) _ |>.setCell (by simp) _) | exact HC.out _ (Only.of_ext (hEd.trans h3)) | exact HC.out _ (Only.of_ext hEd))
      (first | (go_at_call 178; refine (l12Put_any _ _ _ _ _ 0 ((hin3.ext hX).ext hEd) ((hin1.ext hX).ext hEd) (by omega) (by omega) (by omega) (by omega)).mono ?_; rintro e w3 ⟨r, rfl, hM, h3⟩; obtain ⟨a1, a2, a3, a4, a5, rfl⟩ := hM.three'; obtain ⟨s0, s1, s2, f0, f1, f2⟩ := own3 ((hEd.trans h3).blk hb1)))
    have hE := hEd.trans h3
    have hsz := hE.size
    have HN := Lib.hid (Made.inT (Made.since (hM.after ((((Above.refl _ _).setCell (p := ⟨w.heap.size + 1, 0, none⟩) (by show w.heap.size + 1 < _; simp; omega) (.int .i64 a1)).setCell (p := ⟨w.heap.size + 1, 1, none⟩) (by show w.heap.size + 1 < _; simp; omega) (.int .i64 a2)).setCell (p := ⟨w.heap.size + 1, 2, none⟩) (by show w.heap.size + 1 < _; simp; omega) (.slice a3 a4 a5))) (a := w) (by simp; omega)))
    have HE := Lib.hid (((((hX.trans hE).setCell (p := ⟨w.heap.size + 1, 0, none⟩) (by show w.heap.size ≤ w.heap.size + 1; omega) (.int .i64 a1)).setCell (p := ⟨w.heap.size + 1, 1, none⟩) (by show w.heap.size ≤ w.heap.size + 1; omega) (.int .i64 a2)).setCell (p := ⟨w.heap.size + 1, 2, none⟩) (by show w.heap.size ≤ w.heap.size + 1; omega) (.slice a3 a4 a5)))
    clear HC hb0 hb1
    go_wp2_with fail
    refine bodyPost_ret (v := .tuple #[.agg #[.int .i64 a1, .int .i64 a2, .slice a3 a4 a5], .bool true]) (by simp [results, Try.results132, go_sem, s0, s1, s2]) rfl ⟨_, _, _, _, _, rfl, (by intro t' h; cases h; exact HN.out), HE.out⟩
  · have hrul : rul 3 ks = none := by simp [rul, hkid0, Tr.kd, h0]
    have h0b : (k0 == 2) = false := beq_eq_false_iff_ne.2 h0
    have hrul := Lib.hid hrul
    have c00' := hX.cell c00
    have c01' := hX.cell c01
    have c02' := hX.cell c02
    have c10' := hX.cell c10
    have c11' := hX.cell c11
    have c12' := hX.cell c12
    rw [hwb] at c00' c01' c02' c10' c11' c12'
    have hrul2 := hrul.out
    rw [hrul2]
    clear hrul hrul2 hb0 hb1 c00 c01 c02 c10 c11 c12 HK0 hkid0 HK1 hkid1 hks hwb
    go_enter Try.func132, Try.ntmps132
    go_wp2_with fail
    refine bodyPost_ret (v := .tuple #[.agg #[.int .i64 3, .int .i64 n, .slice (some ⟨b0, o0, none⟩) ks.length cap], .bool false]) (by simp [results, Try.results132, go_sem]) rfl ⟨_, _, _, _, _, rfl, (by intro t' h; cases h), ?_⟩
    first | exact ((((((Ext.refl w).alloc _).alloc _).setCell (by simp) _).setCell (by simp) _).setCell (by simp) _) | exact (((Ext.refl w).alloc _).alloc _) | exact ((((((Ext.refl w).alloc _).alloc _).alloc _).setCell (by simp) _).setCell (by simp) _).setCell (by simp) _ | exact ((((Ext.refl w).alloc _).alloc _).alloc _)

set_option maxRecDepth 100000 in
set_option maxHeartbeats 2000000 in
theorem l12Rule_8 (n : Int) (ks : List Tr) (d : Int) (hsh : ∀ t ∈ ks, shape sigC t d = true) (hcn : cnts ks ≤ 1000) (w : World) (A : Option Addr) (cap : Nat) (hK : LiesK w A ks) (hl : ks.length ≤ cap) (hc : cap ≤ maxLen) (hks : ks.length = 1) :
    Calls Try.prog 132 #[.agg #[.int .i64 8, .int .i64 n, .slice A ks.length cap]] w (RulQ w (rul 8 ks)) := by
  obtain ⟨wb, hwb⟩ : ∃ wb, wb = (w.alloc (.cells #[.int .i64 8, .int .i64 n, .slice A ks.length cap] 28)).alloc (.cells #[.int .i64 0, .int .i64 0, .slice none 0 0] 28) := ⟨_, rfl⟩
  have hX : Ext w wb := hwb ▸ ((Ext.refl w).alloc _).alloc _
  have hbs : wb.heap.size = w.heap.size + 1 + 1 := by rw [hwb]; simp
  obtain ⟨hb0, hb1, -⟩ := blk2 (Ext.refl ((w.alloc (.cells #[.int .i64 8, .int .i64 n, .slice A ks.length cap] 28)).alloc (.cells #[.int .i64 0, .int .i64 0, .slice none 0 0] 28)))
  rw [← hwb] at hb0 hb1
  have hcc := hc
  unfold maxLen at hcc
  have hlt0 : 0 < ks.length := by omega
  have hi0 : (0 : Int) < (ks.length : Int) := by omega
  obtain ⟨b0, o0, k0, n0, A0, cap0, kids0, hA0, HK0, c00, c01, c02, hkl0, hkc0, hK0, hin0, hmem0⟩ := hK.get (Ext.refl w) hlt0
  simp only [Nat.zero_mul, Nat.add_zero] at c00 c01 c02
  have hkid0 : kid ks 0 = .mk k0 n0 kids0 := kid_get hlt0 HK0.out
  subst hA0
  have hbk : b0 < w.heap.size := World.block_lt_of_cell? _ _ c00
  have hcm0 := cnt_mem hmem0
  by_cases h0 : k0 = 7
  · subst h0
    obtain ⟨hops, -, -, hsk⟩ := shape_kids (hsh _ hmem0)
    have hlen : kids0.length = 2 := by have h9 : (2 : Int) = (kids0.length : Int) := hops; omega
    have hlt3 : 0 < kids0.length := by omega
    have hi3 : (0 : Int) < (kids0.length : Int) := by omega
    obtain ⟨b3, o3, k3, n3, A3, cap3, kids3, hA3, HK3, c30, c31, c32, hkl3, hkc3, hK3, hin3, hmem3⟩ := hK0.get (Ext.refl w) hlt3
    simp only [Nat.zero_mul, Nat.add_zero] at c30 c31 c32
    have hkid3 : kid kids0 0 = .mk k3 n3 kids3 := kid_get hlt3 HK3.out
    subst hA3
    have hbk3 : b3 < w.heap.size := World.block_lt_of_cell? _ _ c30
    have hcm3 := cnt_mem hmem3
    simp only [cnt] at hcm0
    have hrul : rul 8 ks = some (.mk k3 n3 kids3) := by simp [rul, hkid0, hkid3, Tr.kd, Tr.kids]
    rw [hrul]
    have hcells : ∀ w', Only [w.heap.size + 1] wb w' → w'.cell? ⟨w.heap.size, 0, none⟩ = some (.int .i64 8) ∧ w'.cell? ⟨w.heap.size, 2, none⟩ = some (.slice (some ⟨b0, o0, none⟩) ks.length cap) ∧ w'.cell? ⟨b0, o0 + 2, none⟩ = some (.slice (some ⟨b3, o3, none⟩) kids0.length cap0) ∧ w'.cell? ⟨b3, o3, none⟩ = some (.int .i64 k3) ∧ w'.cell? ⟨b3, o3 + 1, none⟩ = some (.int .i64 n3) ∧ w'.cell? ⟨b3, o3 + 2, none⟩ = some (.slice A3 kids3.length cap3) := by
      intro w' h
      have hfar : ∀ q i v, q < w.heap.size + 1 → wb.cell? ⟨q, i, none⟩ = some v → w'.cell? ⟨q, i, none⟩ = some v := fun q i v hq hv =>
        (World.cell?_of_block (a := ⟨q, i, none⟩) (h.block q (by omega) (by simp; omega))).trans hv
      exact ⟨hfar _ _ _ (by omega) (cell_of_blk hb0 0), hfar _ _ _ (by omega) (cell_of_blk hb0 2), hfar _ _ _ (by omega) (hX.cell c02), hfar _ _ _ (by omega) (hX.cell c30), hfar _ _ _ (by omega) (hX.cell c31), hfar _ _ _ (by omega) (hX.cell c32)⟩
    have HC := Lib.hid hcells
    have hEd : Ext wb wb.drew := (Ext.refl wb).drew
    clear hcells
    have c00' := hX.cell c00
    have c01' := hX.cell c01
    have c02' := hX.cell c02
    have c30' := hX.cell c30
    have c31' := hX.cell c31
    have c32' := hX.cell c32
    rw [hwb] at c00' c01' c02' c30' c31' c32'
    clear hrul c00 c01 c02 c30 c31 c32 HK0 HK3 hkid0 hkid3 hks hlen hops
    go_enter Try.func132, Try.ntmps132
    go_wp2_with fail
    rw [← hwb]
    clear hwb c00' c01' c02' c30' c31' c32'
    have hw1 : IntKind.wrap .i64 (8 - 8) = 0 := by decide
    have hw2 : IntKind.wrap .i64 0 = 0 := by decide
    go_region_held3 (fun w' => w'.cell? ⟨w.heap.size, 0, none⟩ = some (.int .i64 8) ∧ w'.cell? ⟨w.heap.size, 2, none⟩ = some (.slice (some ⟨b0, o0, none⟩) ks.length cap) ∧ w'.cell? ⟨b0, o0 + 2, none⟩ = some (.slice (some ⟨b3, o3, none⟩) kids0.length cap0) ∧ w'.cell? ⟨b3, o3, none⟩ = some (.int .i64 k3) ∧ w'.cell? ⟨b3, o3 + 1, none⟩ = some (.int .i64 n3) ∧ w'.cell? ⟨b3, o3 + 2, none⟩ = some (.slice A3 kids3.length cap3))
      (first | exact HC.out _ (((Only.of_ext (hEd.trans h3)).setCell (by simp) _).setCell (by simp) _ |>.setCell (by simp) _) | exact HC.out _ (Only.of_ext (hEd.trans h3)) | exact HC.out _ (Only.of_ext hEd))
      (first | (go_at_call 60; refine (l12Copy_any _ _ _ ((hin3.ext hX).ext hEd) (by omega)).mono ?_; rintro e w3 ⟨r, rfl, hM, h3⟩; obtain ⟨a1, a2, a3, a4, a5, rfl⟩ := hM.three'; obtain ⟨s0, s1, s2, f0, f1, f2⟩ := own3 ((hEd.trans h3).blk hb1)))
    have hE := hEd.trans h3
    have hsz := hE.size
    have HN := Lib.hid (Made.inT (Made.since (hM.after ((((Above.refl _ _).setCell (p := ⟨w.heap.size + 1, 0, none⟩) (by show w.heap.size + 1 < _; simp; omega) (.int .i64 a1)).setCell (p := ⟨w.heap.size + 1, 1, none⟩) (by show w.heap.size + 1 < _; simp; omega) (.int .i64 a2)).setCell (p := ⟨w.heap.size + 1, 2, none⟩) (by show w.heap.size + 1 < _; simp; omega) (.slice a3 a4 a5))) (a := w) (by simp; omega)))
    have HE := Lib.hid (((((hX.trans hE).setCell (p := ⟨w.heap.size + 1, 0, none⟩) (by show w.heap.size ≤ w.heap.size + 1; omega) (.int .i64 a1)).setCell (p := ⟨w.heap.size + 1, 1, none⟩) (by show w.heap.size ≤ w.heap.size + 1; omega) (.int .i64 a2)).setCell (p := ⟨w.heap.size + 1, 2, none⟩) (by show w.heap.size ≤ w.heap.size + 1; omega) (.slice a3 a4 a5)))
    clear HC hb0 hb1
    go_wp2_with fail
    refine bodyPost_ret (v := .tuple #[.agg #[.int .i64 a1, .int .i64 a2, .slice a3 a4 a5], .bool true]) (by simp [results, Try.results132, go_sem, s0, s1, s2]) rfl ⟨_, _, _, _, _, rfl, (by intro t' h; cases h; exact HN.out), HE.out⟩
  · have hrul : rul 8 ks = none := by simp [rul, hkid0, Tr.kd, h0]
    have h0b : (k0 == 7) = false := beq_eq_false_iff_ne.2 h0
    have hrul := Lib.hid hrul
    have c00' := hX.cell c00
    have c01' := hX.cell c01
    have c02' := hX.cell c02
    rw [hwb] at c00' c01' c02'
    have hrul2 := hrul.out
    rw [hrul2]
    clear hrul hrul2 hb0 hb1 c00 c01 c02 HK0 hkid0 hks hwb
    go_enter Try.func132, Try.ntmps132
    go_wp2_with fail
    refine bodyPost_ret (v := .tuple #[.agg #[.int .i64 8, .int .i64 n, .slice (some ⟨b0, o0, none⟩) ks.length cap], .bool false]) (by simp [results, Try.results132, go_sem]) rfl ⟨_, _, _, _, _, rfl, (by intro t' h; cases h), ?_⟩
    first | exact ((((((Ext.refl w).alloc _).alloc _).setCell (by simp) _).setCell (by simp) _).setCell (by simp) _) | exact (((Ext.refl w).alloc _).alloc _) | exact ((((((Ext.refl w).alloc _).alloc _).alloc _).setCell (by simp) _).setCell (by simp) _).setCell (by simp) _ | exact ((((Ext.refl w).alloc _).alloc _).alloc _)

set_option maxRecDepth 100000 in
set_option maxHeartbeats 2000000 in
theorem l12Rule_9 (n : Int) (ks : List Tr) (d : Int) (hsh : ∀ t ∈ ks, shape sigC t d = true) (hcn : cnts ks ≤ 1000) (w : World) (A : Option Addr) (cap : Nat) (hK : LiesK w A ks) (hl : ks.length ≤ cap) (hc : cap ≤ maxLen) (hks : ks.length = 1) :
    Calls Try.prog 132 #[.agg #[.int .i64 9, .int .i64 n, .slice A ks.length cap]] w (RulQ w (rul 9 ks)) := by
  obtain ⟨wb, hwb⟩ : ∃ wb, wb = (w.alloc (.cells #[.int .i64 9, .int .i64 n, .slice A ks.length cap] 28)).alloc (.cells #[.int .i64 0, .int .i64 0, .slice none 0 0] 28) := ⟨_, rfl⟩
  have hX : Ext w wb := hwb ▸ ((Ext.refl w).alloc _).alloc _
  have hbs : wb.heap.size = w.heap.size + 1 + 1 := by rw [hwb]; simp
  obtain ⟨hb0, hb1, -⟩ := blk2 (Ext.refl ((w.alloc (.cells #[.int .i64 9, .int .i64 n, .slice A ks.length cap] 28)).alloc (.cells #[.int .i64 0, .int .i64 0, .slice none 0 0] 28)))
  rw [← hwb] at hb0 hb1
  have hcc := hc
  unfold maxLen at hcc
  have hlt0 : 0 < ks.length := by omega
  have hi0 : (0 : Int) < (ks.length : Int) := by omega
  obtain ⟨b0, o0, k0, n0, A0, cap0, kids0, hA0, HK0, c00, c01, c02, hkl0, hkc0, hK0, hin0, hmem0⟩ := hK.get (Ext.refl w) hlt0
  simp only [Nat.zero_mul, Nat.add_zero] at c00 c01 c02
  have hkid0 : kid ks 0 = .mk k0 n0 kids0 := kid_get hlt0 HK0.out
  subst hA0
  have hbk : b0 < w.heap.size := World.block_lt_of_cell? _ _ c00
  have hcm0 := cnt_mem hmem0
  by_cases h0 : k0 = 7
  · subst h0
    obtain ⟨hops, -, -, hsk⟩ := shape_kids (hsh _ hmem0)
    have hlen : kids0.length = 2 := by have h9 : (2 : Int) = (kids0.length : Int) := hops; omega
    have hlt3 : 1 < kids0.length := by omega
    have hi3 : (1 : Int) < (kids0.length : Int) := by omega
    obtain ⟨b3, o3, k3, n3, A3, cap3, kids3, hA3, HK3, c30, c31, c32, hkl3, hkc3, hK3, hin3, hmem3⟩ := hK0.get (Ext.refl w) hlt3
    simp only [Nat.one_mul, Nat.add_assoc, Nat.reduceAdd] at c30 c31 c32
    have hkid3 : kid kids0 1 = .mk k3 n3 kids3 := kid_get hlt3 HK3.out
    subst hA3
    have hbk3 : b3 < w.heap.size := World.block_lt_of_cell? _ _ c30
    have hcm3 := cnt_mem hmem3
    simp only [cnt] at hcm0
    have hrul : rul 9 ks = some (.mk k3 n3 kids3) := by simp [rul, hkid0, hkid3, Tr.kd, Tr.kids]
    rw [hrul]
    have hcells : ∀ w', Only [w.heap.size + 1] wb w' → w'.cell? ⟨w.heap.size, 0, none⟩ = some (.int .i64 9) ∧ w'.cell? ⟨w.heap.size, 2, none⟩ = some (.slice (some ⟨b0, o0, none⟩) ks.length cap) ∧ w'.cell? ⟨b0, o0 + 2, none⟩ = some (.slice (some ⟨b3, o3, none⟩) kids0.length cap0) ∧ w'.cell? ⟨b3, o3 + 3, none⟩ = some (.int .i64 k3) ∧ w'.cell? ⟨b3, o3 + 4, none⟩ = some (.int .i64 n3) ∧ w'.cell? ⟨b3, o3 + 5, none⟩ = some (.slice A3 kids3.length cap3) := by
      intro w' h
      have hfar : ∀ q i v, q < w.heap.size + 1 → wb.cell? ⟨q, i, none⟩ = some v → w'.cell? ⟨q, i, none⟩ = some v := fun q i v hq hv =>
        (World.cell?_of_block (a := ⟨q, i, none⟩) (h.block q (by omega) (by simp; omega))).trans hv
      exact ⟨hfar _ _ _ (by omega) (cell_of_blk hb0 0), hfar _ _ _ (by omega) (cell_of_blk hb0 2), hfar _ _ _ (by omega) (hX.cell c02), hfar _ _ _ (by omega) (hX.cell c30), hfar _ _ _ (by omega) (hX.cell c31), hfar _ _ _ (by omega) (hX.cell c32)⟩
    have HC := Lib.hid hcells
    have hEd : Ext wb wb.drew := (Ext.refl wb).drew
    clear hcells
    have c00' := hX.cell c00
    have c01' := hX.cell c01
    have c02' := hX.cell c02
    have c30' := hX.cell c30
    have c31' := hX.cell c31
    have c32' := hX.cell c32
    rw [hwb] at c00' c01' c02' c30' c31' c32'
    clear hrul c00 c01 c02 c30 c31 c32 HK0 HK3 hkid0 hkid3 hks hlen hops
    go_enter Try.func132, Try.ntmps132
    go_wp2_with fail
    rw [← hwb]
    clear hwb c00' c01' c02' c30' c31' c32'
    have hw1 : IntKind.wrap .i64 (9 - 8) = 1 := by decide
    have hw2 : IntKind.wrap .i64 1 = 1 := by decide
    go_region_held3 (fun w' => w'.cell? ⟨w.heap.size, 0, none⟩ = some (.int .i64 9) ∧ w'.cell? ⟨w.heap.size, 2, none⟩ = some (.slice (some ⟨b0, o0, none⟩) ks.length cap) ∧ w'.cell? ⟨b0, o0 + 2, none⟩ = some (.slice (some ⟨b3, o3, none⟩) kids0.length cap0) ∧ w'.cell? ⟨b3, o3 + 3, none⟩ = some (.int .i64 k3) ∧ w'.cell? ⟨b3, o3 + 4, none⟩ = some (.int .i64 n3) ∧ w'.cell? ⟨b3, o3 + 5, none⟩ = some (.slice A3 kids3.length cap3))
      (first | exact HC.out _ (((Only.of_ext (hEd.trans h3)).setCell (by simp) _).setCell (by simp) _ |>.setCell (by simp) _) | exact HC.out _ (Only.of_ext (hEd.trans h3)) | exact HC.out _ (Only.of_ext hEd))
      (first | (go_at_call 60; refine (l12Copy_any _ _ _ ((hin3.ext hX).ext hEd) (by omega)).mono ?_; rintro e w3 ⟨r, rfl, hM, h3⟩; obtain ⟨a1, a2, a3, a4, a5, rfl⟩ := hM.three'; obtain ⟨s0, s1, s2, f0, f1, f2⟩ := own3 ((hEd.trans h3).blk hb1)))
    have hE := hEd.trans h3
    have hsz := hE.size
    have HN := Lib.hid (Made.inT (Made.since (hM.after ((((Above.refl _ _).setCell (p := ⟨w.heap.size + 1, 0, none⟩) (by show w.heap.size + 1 < _; simp; omega) (.int .i64 a1)).setCell (p := ⟨w.heap.size + 1, 1, none⟩) (by show w.heap.size + 1 < _; simp; omega) (.int .i64 a2)).setCell (p := ⟨w.heap.size + 1, 2, none⟩) (by show w.heap.size + 1 < _; simp; omega) (.slice a3 a4 a5))) (a := w) (by simp; omega)))
    have HE := Lib.hid (((((hX.trans hE).setCell (p := ⟨w.heap.size + 1, 0, none⟩) (by show w.heap.size ≤ w.heap.size + 1; omega) (.int .i64 a1)).setCell (p := ⟨w.heap.size + 1, 1, none⟩) (by show w.heap.size ≤ w.heap.size + 1; omega) (.int .i64 a2)).setCell (p := ⟨w.heap.size + 1, 2, none⟩) (by show w.heap.size ≤ w.heap.size + 1; omega) (.slice a3 a4 a5)))
    clear HC hb0 hb1
    go_wp2_with fail
    refine bodyPost_ret (v := .tuple #[.agg #[.int .i64 a1, .int .i64 a2, .slice a3 a4 a5], .bool true]) (by simp [results, Try.results132, go_sem, s0, s1, s2]) rfl ⟨_, _, _, _, _, rfl, (by intro t' h; cases h; exact HN.out), HE.out⟩
  · have hrul : rul 9 ks = none := by simp [rul, hkid0, Tr.kd, h0]
    have h0b : (k0 == 7) = false := beq_eq_false_iff_ne.2 h0
    have hrul := Lib.hid hrul
    have c00' := hX.cell c00
    have c01' := hX.cell c01
    have c02' := hX.cell c02
    rw [hwb] at c00' c01' c02'
    have hrul2 := hrul.out
    rw [hrul2]
    clear hrul hrul2 hb0 hb1 c00 c01 c02 HK0 hkid0 hks hwb
    go_enter Try.func132, Try.ntmps132
    go_wp2_with fail
    refine bodyPost_ret (v := .tuple #[.agg #[.int .i64 9, .int .i64 n, .slice (some ⟨b0, o0, none⟩) ks.length cap], .bool false]) (by simp [results, Try.results132, go_sem]) rfl ⟨_, _, _, _, _, rfl, (by intro t' h; cases h), ?_⟩
    first | exact ((((((Ext.refl w).alloc _).alloc _).setCell (by simp) _).setCell (by simp) _).setCell (by simp) _) | exact (((Ext.refl w).alloc _).alloc _) | exact ((((((Ext.refl w).alloc _).alloc _).alloc _).setCell (by simp) _).setCell (by simp) _).setCell (by simp) _ | exact ((((Ext.refl w).alloc _).alloc _).alloc _)

set_option maxRecDepth 100000 in
set_option maxHeartbeats 2000000 in
theorem l12Rule_6 (n : Int) (ks : List Tr) (d : Int) (hsh : ∀ t ∈ ks, shape sigC t d = true) (hcn : cnts ks ≤ 1000) (w : World) (A : Option Addr) (cap : Nat) (hK : LiesK w A ks) (hl : ks.length ≤ cap) (hc : cap ≤ maxLen) (hks : ks.length = 3) (hnot : (kid ks 2).kd ≠ 5) :
    Calls Try.prog 132 #[.agg #[.int .i64 6, .int .i64 n, .slice A ks.length cap]] w (RulQ w (rul 6 ks)) := by
  obtain ⟨wb, hwb⟩ : ∃ wb, wb = (w.alloc (.cells #[.int .i64 6, .int .i64 n, .slice A ks.length cap] 28)).alloc (.cells #[.int .i64 0, .int .i64 0, .slice none 0 0] 28) := ⟨_, rfl⟩
  have hX : Ext w wb := hwb ▸ ((Ext.refl w).alloc _).alloc _
  have hbs : wb.heap.size = w.heap.size + 1 + 1 := by rw [hwb]; simp
  obtain ⟨hb0, hb1, -⟩ := blk2 (Ext.refl ((w.alloc (.cells #[.int .i64 6, .int .i64 n, .slice A ks.length cap] 28)).alloc (.cells #[.int .i64 0, .int .i64 0, .slice none 0 0] 28)))
  rw [← hwb] at hb0 hb1
  have hcc := hc
  unfold maxLen at hcc
  have hlt0 : 0 < ks.length := by omega
  have hi0 : (0 : Int) < (ks.length : Int) := by omega
  obtain ⟨b0, o0, k0, n0, A0, cap0, kids0, hA0, HK0, c00, c01, c02, hkl0, hkc0, hK0, hin0, hmem0⟩ := hK.get (Ext.refl w) hlt0
  simp only [Nat.zero_mul, Nat.add_zero] at c00 c01 c02
  have hkid0 : kid ks 0 = .mk k0 n0 kids0 := kid_get hlt0 HK0.out
  have hlt1 : 1 < ks.length := by omega
  have hi1 : (1 : Int) < (ks.length : Int) := by omega
  obtain ⟨b1, o1, k1, n1, A1, cap1, kids1, hA1, HK1, c10, c11, c12, hkl1, hkc1, hK1, hin1, hmem1⟩ := hK.get (Ext.refl w) hlt1
  simp only [Nat.one_mul, Nat.add_assoc, Nat.reduceAdd] at c10 c11 c12
  have hkid1 : kid ks 1 = .mk k1 n1 kids1 := kid_get hlt1 HK1.out
  have hlt2 : 2 < ks.length := by omega
  have hi2 : (2 : Int) < (ks.length : Int) := by omega
  obtain ⟨b2, o2, k2, n2, A2, cap2, kids2, hA2, HK2, c20, c21, c22, hkl2, hkc2, hK2, hin2, hmem2⟩ := hK.get (Ext.refl w) hlt2
  simp only [Nat.reduceMul, Nat.add_assoc, Nat.reduceAdd] at c20 c21 c22
  have hkid2 : kid ks 2 = .mk k2 n2 kids2 := kid_get hlt2 HK2.out
  subst hA0
  injection hA1 with hA1
  injection hA1 with hB1 hC1 hD1
  subst hB1 hC1
  injection hA2 with hA2
  injection hA2 with hB2 hC2 hD2
  subst hB2 hC2
  have hbk : b0 < w.heap.size := World.block_lt_of_cell? _ _ c00
  have hcm0 := cnt_mem hmem0
  rw [hkid2] at hnot
  by_cases h0 : k2 = 4
  · subst h0
    have hrul : rul 6 ks = some (.mk k0 n0 kids0) := by simp [rul, hkid0, hkid2, Tr.kd]
    rw [hrul]
    have hX3 := hX.alloc (.cells #[.int .i64 4, .int .i64 n2, .slice A2 kids2.length cap2] 28)
    have hb13 := ((Ext.refl wb).alloc (.cells #[.int .i64 4, .int .i64 n2, .slice A2 kids2.length cap2] 28)).blk hb1
    have hb03 := ((Ext.refl wb).alloc (.cells #[.int .i64 4, .int .i64 n2, .slice A2 kids2.length cap2] 28)).blk hb0
    have c00' := hX3.cell c00
    have c01' := hX3.cell c01
    have c02' := hX3.cell c02
    have c20' := hX3.cell c20
    have c21' := hX3.cell c21
    have c22' := hX3.cell c22
    have c00'' := hX.cell c00
    have c01'' := hX.cell c01
    have c02'' := hX.cell c02
    have c20'' := hX.cell c20
    have c21'' := hX.cell c21
    have c22'' := hX.cell c22
    have hcv := hin0.ext hX3
    rw [hwb] at hX3 hb13 hb03 hcv c00' c01' c02' c20' c21' c22' c00'' c01'' c02'' c20'' c21'' c22''
    have hbs3 : w.heap.size + 1 < (((w.alloc (.cells #[.int .i64 6, .int .i64 n, .slice (some ⟨b0, o0, none⟩) ks.length cap] 28)).alloc (.cells #[.int .i64 0, .int .i64 0, .slice none 0 0] 28)).alloc (.cells #[.int .i64 4, .int .i64 n2, .slice A2 kids2.length cap2] 28)).heap.size := by first | (simp; done) | (simp; omega)
    clear hrul hb0 hb1 HK0 HK1 HK2 hkid0 hkid1 hkid2 hks hwb hnot hX c00 c01 c02 c10 c11 c12 c20 c21 c22
    go_enter Try.func132, Try.ntmps132
    go_wp2_with fail
    generalize World.alloc (World.alloc (World.alloc w _) _) _ = w3 at hX3 hb13 hb03 hcv hbs3 c00' c01' c02' c20' c21' c22' ⊢
    refine (l12Copy_any _ _ _ hcv (by omega)).mono ?_
    rintro e w4 ⟨r, rfl, hM, h4⟩
    obtain ⟨a1, a2, a3, a4, a5, rfl⟩ := hM.three'
    obtain ⟨s0, s1, s2, f0, f1, f2⟩ := own3 (h4.blk hb13)
    have hsz := h4.size
    have hs3 := hX3.size
    have HN := Lib.hid (Made.inT (Made.since (hM.after ((((Above.refl _ _).setCell (p := ⟨w.heap.size + 1, 0, none⟩) (by show w.heap.size + 1 < _; omega) (.int .i64 a1)).setCell (p := ⟨w.heap.size + 1, 1, none⟩) (by show w.heap.size + 1 < _; omega) (.int .i64 a2)).setCell (p := ⟨w.heap.size + 1, 2, none⟩) (by show w.heap.size + 1 < _; omega) (.slice a3 a4 a5))) (a := w) (by omega)))
    have HE := Lib.hid (((((hX3.trans h4).setCell (p := ⟨w.heap.size + 1, 0, none⟩) (by show w.heap.size ≤ w.heap.size + 1; omega) (.int .i64 a1)).setCell (p := ⟨w.heap.size + 1, 1, none⟩) (by show w.heap.size ≤ w.heap.size + 1; omega) (.int .i64 a2)).setCell (p := ⟨w.heap.size + 1, 2, none⟩) (by show w.heap.size ≤ w.heap.size + 1; omega) (.slice a3 a4 a5)))
    clear hb13 hb03
    go_wp2_with fail
    refine bodyPost_ret (v := .tuple #[.agg #[.int .i64 a1, .int .i64 a2, .slice a3 a4 a5], .bool true]) (by simp [results, Try.results132, go_sem, s0, s1, s2]) rfl ⟨_, _, _, _, _, rfl, (by intro t' h; cases h; exact HN.out), HE.out⟩
  · have hrul : rul 6 ks = none := by simp only [Tr.kd] at hnot; simp [rul, hkid2, Tr.kd, h0, hnot]
    have h0b : (k2 == 4) = false := beq_eq_false_iff_ne.2 h0
    have h0c : (k2 == 5) = false := beq_eq_false_iff_ne.2 hnot
    have hrul := Lib.hid hrul
    have c00' := hX.cell c00
    have c01' := hX.cell c01
    have c02' := hX.cell c02
    have c10' := hX.cell c10
    have c11' := hX.cell c11
    have c12' := hX.cell c12
    have c20' := hX.cell c20
    have c21' := hX.cell c21
    have c22' := hX.cell c22
    rw [hwb] at c00' c01' c02' c10' c11' c12' c20' c21' c22'
    have hrul2 := hrul.out
    rw [hrul2]
    clear hrul hrul2 hb0 hb1 c00 c01 c02 c10 c11 c12 c20 c21 c22 HK0 hkid0 HK1 hkid1 HK2 hkid2 hks hwb
    go_enter Try.func132, Try.ntmps132
    go_wp2_with fail
    refine bodyPost_ret (v := .tuple #[.agg #[.int .i64 6, .int .i64 n, .slice (some ⟨b0, o0, none⟩) ks.length cap], .bool false]) (by simp [results, Try.results132, go_sem]) rfl ⟨_, _, _, _, _, rfl, (by intro t' h; cases h), ?_⟩
    first | exact ((((((Ext.refl w).alloc _).alloc _).setCell (by simp) _).setCell (by simp) _).setCell (by simp) _) | exact (((Ext.refl w).alloc _).alloc _) | exact ((((((Ext.refl w).alloc _).alloc _).alloc _).setCell (by simp) _).setCell (by simp) _).setCell (by simp) _ | exact ((((Ext.refl w).alloc _).alloc _).alloc _)

set_option maxRecDepth 100000 in
set_option maxHeartbeats 2000000 in
theorem l12Rule_0 (k n : Int) (ks : List Tr) (w : World) (A : Option Addr) (cap : Nat) (h3 : k ≠ 3) (h6 : k ≠ 6) (h8 : k ≠ 8) (h9 : k ≠ 9) :
    Calls Try.prog 132 #[.agg #[.int .i64 k, .int .i64 n, .slice A ks.length cap]] w (RulQ w (rul k ks)) := by
  have d3 : (k == 3) = false := beq_eq_false_iff_ne.2 h3
  have d6 : (k == 6) = false := beq_eq_false_iff_ne.2 h6
  have d8 : (k == 8) = false := beq_eq_false_iff_ne.2 h8
  have d9 : (k == 9) = false := beq_eq_false_iff_ne.2 h9
  rw [show rul k ks = none from by simp [rul, h3, h6, h8, h9]]
  go_enter Try.func132, Try.ntmps132
  go_wp2_with fail
  refine bodyPost_ret (v := .tuple #[.agg #[.int .i64 k, .int .i64 n, .slice A ks.length cap], .bool false]) (by simp [results, Try.results132, go_sem]) rfl ⟨_, _, _, _, _, rfl, (by intro t' h; cases h), ?_⟩
  first | exact ((((((Ext.refl w).alloc _).alloc _).setCell (by simp) _).setCell (by simp) _).setCell (by simp) _) | exact (((Ext.refl w).alloc _).alloc _)

end Go.Proofs.Ytappakllopkfiaa

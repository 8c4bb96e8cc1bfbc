/-
  Lemmas towards the law, 29: Contract.
-/
import Derived.Test.YtdkamgafpphdjaaEBA
namespace Go.Proofs.Ytdkamgafpphdjaa
open Go.RowKit
set_option linter.unusedVariables false
theorem kd_get {ks : List Tr} {j : Nat} {t : Tr} (h : j < ks.length) (e : ks[j] = t) : kd ks j = t := by
  unfold kd
  rw [List.getD_eq_getElem?_getD, List.getElem?_eq_getElem h, e]
  rfl
/-- What contract answers. -/
def ConQ (w : World) (t : Tr) (e : Ending) (w' : World) : Prop := ∃ r, e = .returned (.tuple #[r, .bool (valid sigT t)]) ∧ Made w w' 27 (okT t) r ∧ Ext w w'
theorem valid_made {W w : World} {t : Tr} {u : Value} (h : Made W w 27 t u) : Calls Try.prog 67 #[u] w fun e w' => ∃ a1 a2 a3 a4 a5, e = .returned (.tuple #[.agg #[.int .i64 a1, .int .i64 a2, .slice a3 a4 a5], .bool (valid sigT t)]) ∧ Made W w' 27 (okT t) (.agg #[.int .i64 a1, .int .i64 a2, .slice a3 a4 a5]) ∧ Ext w w' := by
  obtain ⟨k, n, ks⟩ := t
  obtain ⟨A, cap, rfl, hl, hc, hK⟩ := Made.mk_iff.1 h
  refine (valid_any k n ks A cap w h.lies).mono ?_
  rintro e w' ⟨h1, h2⟩
  by_cases hv : valid sigT (.mk k n ks) = true
  · rw [if_pos hv] at h1
    refine ⟨_, _, _, _, _, by rw [h1, hv], ?_, h2⟩
    unfold okT
    rw [if_pos hv]
    exact h.ext h2
  · rw [if_neg hv] at h1
    refine ⟨0, 0, none, 0, 0, by rw [h1, Bool.eq_false_iff.2 hv], ?_, h2⟩
    unfold okT
    rw [if_neg hv]
    exact Made.leaf _ _ _ 0 0
theorem subst_made {t u TT : Tr} (hT : TT = sbsT u t 0 0) (w : World) (v vu : Value) (hin : Lies w t v) (hv : valid sigT t = true) (hinu : Lies w u vu) (hvu : valid sigT u = true) :
    Calls Try.prog 53 #[v, .int .i64 0, vu] w fun e w' => ∃ a1 a2 a3 a4 a5, e = .returned (.tuple #[.agg #[.int .i64 a1, .int .i64 a2, .slice a3 a4 a5], .bool (valid sigT TT)]) ∧ Made w w' 27 (okT TT) (.agg #[.int .i64 a1, .int .i64 a2, .slice a3 a4 a5]) ∧ Ext w w' := by
  subst hT
  refine (subst_any t 0 u w v vu hin hv hinu hvu (by omega) (by omega)).mono ?_
  rintro e w' ⟨r, rfl, hM, h⟩
  obtain ⟨a1, a2, a3, a4, a5, rfl⟩ := hM.three'
  exact ⟨_, _, _, _, _, rfl, hM, h⟩
set_option maxRecDepth 100000 in
set_option maxHeartbeats 4000000 in
theorem contract_2 (n : Int) (ks : List Tr) (hv : valid sigT (.mk 9 n ks) = true) (w : World) (A : Option Addr) (cap : Nat) (hin : Lies w (.mk 9 n ks) (.agg #[.int .i64 9, .int .i64 n, .slice A ks.length cap])) (hK : LiesK w A ks) (hl : ks.length ≤ cap) (hc : cap ≤ maxLen) (hc3 : (kd ks 3).kind = 7) :
    Calls Try.prog 76 #[.agg #[.int .i64 9, .int .i64 n, .slice A ks.length cap]] w (ConQ w (ctr 9 ks)) := by
  obtain ⟨hsh, hcn⟩ := valid_parts hv
  have hops : opsT 9 = (ks.length : Int) := (shape_kids' hsh).1
  have hks : ks.length = 4 := by have h9 : (4 : Int) = (ks.length : Int) := hops; omega
  have hsk := (shape_kids' hsh).2.2.2
  have hvk : ∀ t ∈ ks, valid sigT t = true := fun t ht => by
    have h1 := hsk t ht
    have h2 := cnt_mem ht
    simp only [cnt] at hcn
    unfold valid
    rw [shape_up h1 (by decide), Bool.true_and, decide_eq_true_eq]
    omega
  have hcc := hc
  unfold maxLen at hcc
  have HRX := Lib.hid (fun W (hW : Ext w W) => redex_any (.mk 9 n ks) 30 hsh W _ (hin.ext hW))
  obtain ⟨wb, hwb⟩ : ∃ wb, wb = (w.alloc (.cells #[.int .i64 9, .int .i64 n, .slice A ks.length cap] 27)).alloc (.cells #[.int .i64 0, .int .i64 0, .slice none 0 0] 27) := ⟨_, rfl⟩
  have hX : Ext w wb := hwb ▸ ((Ext.refl w).alloc _).alloc _
  have hb0 : wb.heap[w.heap.size]? = some (.cells #[.int .i64 9, .int .i64 n, .slice A ks.length cap] 27 (0, 0)) := by rw [hwb]; exact (blk2 (Ext.refl _)).1
  have hb1 : wb.heap[w.heap.size + 1]? = some (.cells #[.int .i64 0, .int .i64 0, .slice none 0 0] 27 (0, 0)) := by rw [hwb]; exact (blk2 (Ext.refl _)).2.1
  have hs0 : w.heap.size + 1 < wb.heap.size := lt_of_blk hb1
  have hlt1 : 1 < ks.length := by omega
  have hi1 : (1 : Int) < (ks.length : Int) := by omega
  obtain ⟨b1, o1, k1, n1, A1, cap1, kids1, hA1, HK1, c10, c11, c12, hkl1, hkc1, hK1, hin1, hmem1⟩ := hK.get (Ext.refl w) hlt1
  simp only [Nat.one_mul, Nat.add_assoc, Nat.reduceAdd] at c10 c11 c12
  have hkd1 : kd ks 1 = .mk k1 n1 kids1 := kd_get hlt1 HK1.out
  subst hA1
  have hct : ctr 9 ks = .mk k1 n1 kids1 := (ctr_zero hc3).trans hkd1
  rw [hct]
  have hrd : rdx 9 ks = 2 := by unfold rdx; simp [hc3]
  obtain ⟨TT, hTT⟩ : ∃ x, x = Tr.mk k1 n1 kids1 := ⟨_, rfl⟩
  rw [← hTT]
  have HTT := Lib.hid hTT
  clear hTT
  have hcT : cnt (.mk k1 n1 kids1) ≤ 400 := (valid_parts (hvk _ hmem1)).2
  clear hct
  have hrt : rdxT (.mk 9 n ks) = 2 := hrd
  rw [hrt] at HRX
  clear hrt hrd hks hops
  skip
  go_enter Try.func76, Try.ntmps76
  go_wp2_with fail
  rw [← hwb]
  clear hwb
  refine (HRX.out _ hX).mono ?_
  rintro e w1 ⟨rfl, h1⟩
  have hX1 := hX.trans h1
  have hb01 := h1.blk hb0
  have hb11 := h1.blk hb1
  have hs1 : w.heap.size + 1 < w1.heap.size := lt_of_blk hb11
  obtain ⟨z0, z1, z2, -, -, -⟩ := own3 hb01
  clear hb0 hb1 HRX h1
  have d10 := hX1.cell c10
  have d11 := hX1.cell c11
  have d12 := hX1.cell c12
  have HIN := Lib.hid (hin1.ext hX1)
  clear HK1 hkd1 hK1 hin1 hmem1 c10 c11 c12 hK hin
  go_wp2_with fail
  refine (own_any _ _ _ HIN.out (by omega)).mono ?_
  rintro e w2 ⟨u, rfl, hM2, h2⟩
  obtain ⟨u1, u2, u3, u4, u5, rfl⟩ := hM2.three'
  go_wp2_with fail
  rw [← HTT.out] at hM2
  refine (valid_made hM2).mono ?_
  rintro e w3 ⟨a1, a2, a3, a4, a5, rfl, hM, h3⟩
  have hE := hX1.trans (h2.trans h3)
  obtain ⟨s0, s1, s2, f0, f1, f2⟩ := own3 ((h2.trans h3).blk hb11)
  clear hM2 hb01 hb11 d10 d11 d12 z0 z1 z2
  go_wp2_with fail
  have hsz := hX1.size
  refine bodyPost_ret (v := .tuple #[.agg #[.int .i64 a1, .int .i64 a2, .slice a3 a4 a5], .bool (valid sigT TT)]) (by simp [results, Try.results76, go_sem, s0, s1, s2]) rfl ⟨_, rfl, Made.since (hM.after ((((Above.refl _ _).setCell (p := ⟨w.heap.size + 1, 0, none⟩) (by show w.heap.size + 1 < _; omega) (.int .i64 a1)).setCell (p := ⟨w.heap.size + 1, 1, none⟩) (by show w.heap.size + 1 < _; omega) (.int .i64 a2)).setCell (p := ⟨w.heap.size + 1, 2, none⟩) (by show w.heap.size + 1 < _; omega) (.slice a3 a4 a5))) (by omega), (((hE.setCell (p := ⟨w.heap.size + 1, 0, none⟩) (by show w.heap.size ≤ w.heap.size + 1; omega) _).setCell (p := ⟨w.heap.size + 1, 1, none⟩) (by show w.heap.size ≤ w.heap.size + 1; omega) _).setCell (p := ⟨w.heap.size + 1, 2, none⟩) (by show w.heap.size ≤ w.heap.size + 1; omega) _)⟩
set_option maxRecDepth 100000 in
set_option maxHeartbeats 4000000 in
theorem contract_4 (n : Int) (ks : List Tr) (hv : valid sigT (.mk 12 n ks) = true) (w : World) (A : Option Addr) (cap : Nat) (hin : Lies w (.mk 12 n ks) (.agg #[.int .i64 12, .int .i64 n, .slice A ks.length cap])) (hK : LiesK w A ks) (hl : ks.length ≤ cap) (hc : cap ≤ maxLen) (hc1 : (kd ks 1).kind = 11) :
    Calls Try.prog 76 #[.agg #[.int .i64 12, .int .i64 n, .slice A ks.length cap]] w (ConQ w (ctr 12 ks)) := by
  obtain ⟨hsh, hcn⟩ := valid_parts hv
  have hops : opsT 12 = (ks.length : Int) := (shape_kids' hsh).1
  have hks : ks.length = 3 := by have h9 : (3 : Int) = (ks.length : Int) := hops; omega
  have hsk := (shape_kids' hsh).2.2.2
  have hvk : ∀ t ∈ ks, valid sigT t = true := fun t ht => by
    have h1 := hsk t ht
    have h2 := cnt_mem ht
    simp only [cnt] at hcn
    unfold valid
    rw [shape_up h1 (by decide), Bool.true_and, decide_eq_true_eq]
    omega
  have hcc := hc
  unfold maxLen at hcc
  have HRX := Lib.hid (fun W (hW : Ext w W) => redex_any (.mk 12 n ks) 30 hsh W _ (hin.ext hW))
  obtain ⟨wb, hwb⟩ : ∃ wb, wb = (w.alloc (.cells #[.int .i64 12, .int .i64 n, .slice A ks.length cap] 27)).alloc (.cells #[.int .i64 0, .int .i64 0, .slice none 0 0] 27) := ⟨_, rfl⟩
  have hX : Ext w wb := hwb ▸ ((Ext.refl w).alloc _).alloc _
  have hb0 : wb.heap[w.heap.size]? = some (.cells #[.int .i64 12, .int .i64 n, .slice A ks.length cap] 27 (0, 0)) := by rw [hwb]; exact (blk2 (Ext.refl _)).1
  have hb1 : wb.heap[w.heap.size + 1]? = some (.cells #[.int .i64 0, .int .i64 0, .slice none 0 0] 27 (0, 0)) := by rw [hwb]; exact (blk2 (Ext.refl _)).2.1
  have hs0 : w.heap.size + 1 < wb.heap.size := lt_of_blk hb1
  have hlt2 : 2 < ks.length := by omega
  have hi2 : (2 : Int) < (ks.length : Int) := by omega
  obtain ⟨b2, o2, k2, n2, A2, cap2, kids2, hA2, HK2, c20, c21, c22, hkl2, hkc2, hK2, hin2, hmem2⟩ := hK.get (Ext.refl w) hlt2
  simp only [Nat.reduceMul, Nat.add_assoc, Nat.reduceAdd] at c20 c21 c22
  have hkd2 : kd ks 2 = .mk k2 n2 kids2 := kd_get hlt2 HK2.out
  subst hA2
  have hct : ctr 12 ks = .mk k2 n2 kids2 := ctr_move.trans hkd2
  rw [hct]
  have hrd : rdx 12 ks = 4 := by unfold rdx; simp [hc1]
  obtain ⟨TT, hTT⟩ : ∃ x, x = Tr.mk k2 n2 kids2 := ⟨_, rfl⟩
  rw [← hTT]
  have HTT := Lib.hid hTT
  clear hTT
  have hcT : cnt (.mk k2 n2 kids2) ≤ 400 := (valid_parts (hvk _ hmem2)).2
  clear hct
  have hrt : rdxT (.mk 12 n ks) = 4 := hrd
  rw [hrt] at HRX
  clear hrt hrd hks hops
  skip
  go_enter Try.func76, Try.ntmps76
  go_wp2_with fail
  rw [← hwb]
  clear hwb
  refine (HRX.out _ hX).mono ?_
  rintro e w1 ⟨rfl, h1⟩
  have hX1 := hX.trans h1
  have hb01 := h1.blk hb0
  have hb11 := h1.blk hb1
  have hs1 : w.heap.size + 1 < w1.heap.size := lt_of_blk hb11
  obtain ⟨z0, z1, z2, -, -, -⟩ := own3 hb01
  clear hb0 hb1 HRX h1
  have d20 := hX1.cell c20
  have d21 := hX1.cell c21
  have d22 := hX1.cell c22
  have HIN := Lib.hid (hin2.ext hX1)
  clear HK2 hkd2 hK2 hin2 hmem2 c20 c21 c22 hK hin
  go_wp2_with fail
  refine (own_any _ _ _ HIN.out (by omega)).mono ?_
  rintro e w2 ⟨u, rfl, hM2, h2⟩
  obtain ⟨u1, u2, u3, u4, u5, rfl⟩ := hM2.three'
  go_wp2_with fail
  rw [← HTT.out] at hM2
  refine (valid_made hM2).mono ?_
  rintro e w3 ⟨a1, a2, a3, a4, a5, rfl, hM, h3⟩
  have hE := hX1.trans (h2.trans h3)
  obtain ⟨s0, s1, s2, f0, f1, f2⟩ := own3 ((h2.trans h3).blk hb11)
  clear hM2 hb01 hb11 d20 d21 d22 z0 z1 z2
  go_wp2_with fail
  have hsz := hX1.size
  refine bodyPost_ret (v := .tuple #[.agg #[.int .i64 a1, .int .i64 a2, .slice a3 a4 a5], .bool (valid sigT TT)]) (by simp [results, Try.results76, go_sem, s0, s1, s2]) rfl ⟨_, rfl, Made.since (hM.after ((((Above.refl _ _).setCell (p := ⟨w.heap.size + 1, 0, none⟩) (by show w.heap.size + 1 < _; omega) (.int .i64 a1)).setCell (p := ⟨w.heap.size + 1, 1, none⟩) (by show w.heap.size + 1 < _; omega) (.int .i64 a2)).setCell (p := ⟨w.heap.size + 1, 2, none⟩) (by show w.heap.size + 1 < _; omega) (.slice a3 a4 a5))) (by omega), (((hE.setCell (p := ⟨w.heap.size + 1, 0, none⟩) (by show w.heap.size ≤ w.heap.size + 1; omega) _).setCell (p := ⟨w.heap.size + 1, 1, none⟩) (by show w.heap.size ≤ w.heap.size + 1; omega) _).setCell (p := ⟨w.heap.size + 1, 2, none⟩) (by show w.heap.size ≤ w.heap.size + 1; omega) _)⟩
set_option maxRecDepth 100000 in
set_option maxHeartbeats 4000000 in
theorem contract_5 (n : Int) (ks : List Tr) (hv : valid sigT (.mk 15 n ks) = true) (w : World) (A : Option Addr) (cap : Nat) (hin : Lies w (.mk 15 n ks) (.agg #[.int .i64 15, .int .i64 n, .slice A ks.length cap])) (hK : LiesK w A ks) (hl : ks.length ≤ cap) (hc : cap ≤ maxLen) (hc0 : (kd ks 0).kind = 14) :
    Calls Try.prog 76 #[.agg #[.int .i64 15, .int .i64 n, .slice A ks.length cap]] w (ConQ w (ctr 15 ks)) := by
  obtain ⟨hsh, hcn⟩ := valid_parts hv
  have hops : opsT 15 = (ks.length : Int) := (shape_kids' hsh).1
  have hks : ks.length = 1 := by have h9 : (1 : Int) = (ks.length : Int) := hops; omega
  have hsk := (shape_kids' hsh).2.2.2
  have hvk : ∀ t ∈ ks, valid sigT t = true := fun t ht => by
    have h1 := hsk t ht
    have h2 := cnt_mem ht
    simp only [cnt] at hcn
    unfold valid
    rw [shape_up h1 (by decide), Bool.true_and, decide_eq_true_eq]
    omega
  have hcc := hc
  unfold maxLen at hcc
  have HRX := Lib.hid (fun W (hW : Ext w W) => redex_any (.mk 15 n ks) 30 hsh W _ (hin.ext hW))
  obtain ⟨wb, hwb⟩ : ∃ wb, wb = (w.alloc (.cells #[.int .i64 15, .int .i64 n, .slice A ks.length cap] 27)).alloc (.cells #[.int .i64 0, .int .i64 0, .slice none 0 0] 27) := ⟨_, rfl⟩
  have hX : Ext w wb := hwb ▸ ((Ext.refl w).alloc _).alloc _
  have hb0 : wb.heap[w.heap.size]? = some (.cells #[.int .i64 15, .int .i64 n, .slice A ks.length cap] 27 (0, 0)) := by rw [hwb]; exact (blk2 (Ext.refl _)).1
  have hb1 : wb.heap[w.heap.size + 1]? = some (.cells #[.int .i64 0, .int .i64 0, .slice none 0 0] 27 (0, 0)) := by rw [hwb]; exact (blk2 (Ext.refl _)).2.1
  have hs0 : w.heap.size + 1 < wb.heap.size := lt_of_blk hb1
  have hlt0 : 0 < ks.length := by omega
  have hi0 : (0 : Int) < (ks.length : Int) := by omega
  obtain ⟨b0, o0, k0, n0, A0, cap0, kids0, hA0, HK0, c00, c01, c02, hkl0, hkc0, hK0, hin0, hmem0⟩ := hK.get (Ext.refl w) hlt0
  simp only [Nat.zero_mul, Nat.add_zero] at c00 c01 c02
  have hkd0 : kd ks 0 = .mk k0 n0 kids0 := kd_get hlt0 HK0.out
  subst hA0
  rw [hkd0] at hc0
  have hk14 : k0 = 14 := hc0
  subst hk14
  have hv0 := hvk _ hmem0
  have hop0 : opsT 14 = (kids0.length : Int) := (shape_kids' (valid_parts hv0).1).1
  have hks0 : kids0.length = 3 := by have h9 : (3 : Int) = (kids0.length : Int) := hop0; omega
  have hlt3 : 1 < kids0.length := by omega
  have hi3 : (1 : Int) < (kids0.length : Int) := by omega
  obtain ⟨b3, o3, k3, n3, A3, cap3, kids3, hA3, HK3, c30, c31, c32, hkl3, hkc3, hK3, hin3, hmem3⟩ := hK0.get (Ext.refl w) hlt3
  simp only [Nat.one_mul, Nat.add_assoc, Nat.reduceAdd] at c30 c31 c32
  have hkd3 : kd kids0 1 = .mk k3 n3 kids3 := kd_get hlt3 HK3.out
  subst hA3
  have hct : ctr 15 ks = .mk k3 n3 kids3 := by rw [ctr_fst, hkd0]; exact hkd3
  rw [hct]
  have hrd : rdx 15 ks = 5 := by unfold rdx; rw [hkd0]; simp [Tr.kind]
  obtain ⟨TT, hTT⟩ : ∃ x, x = Tr.mk k3 n3 kids3 := ⟨_, rfl⟩
  rw [← hTT]
  have HTT := Lib.hid hTT
  clear hTT
  have hcT : cnt (.mk k3 n3 kids3) ≤ 400 := by have h1 := cnt_mem hmem3; have h2 := (valid_parts hv0).2; simp only [cnt] at h2; omega
  clear hct
  have hrt : rdxT (.mk 15 n ks) = 5 := hrd
  rw [hrt] at HRX
  clear hrt hrd hks hops
  clear hks0
  go_enter Try.func76, Try.ntmps76
  go_wp2_with fail
  rw [← hwb]
  clear hwb
  refine (HRX.out _ hX).mono ?_
  rintro e w1 ⟨rfl, h1⟩
  have hX1 := hX.trans h1
  have hb01 := h1.blk hb0
  have hb11 := h1.blk hb1
  have hs1 : w.heap.size + 1 < w1.heap.size := lt_of_blk hb11
  obtain ⟨z0, z1, z2, -, -, -⟩ := own3 hb01
  clear hb0 hb1 HRX h1
  have d00 := hX1.cell c00
  have d01 := hX1.cell c01
  have d02 := hX1.cell c02
  have d30 := hX1.cell c30
  have d31 := hX1.cell c31
  have d32 := hX1.cell c32
  have HIN := Lib.hid (hin3.ext hX1)
  clear HK0 hkd0 hK0 hin0 hmem0 HK3 hkd3 hK3 hin3 hmem3 c00 c01 c02 c30 c31 c32 hK hin hop0
  go_wp2_with fail
  refine (own_any _ _ _ HIN.out (by omega)).mono ?_
  rintro e w2 ⟨u, rfl, hM2, h2⟩
  obtain ⟨u1, u2, u3, u4, u5, rfl⟩ := hM2.three'
  go_wp2_with fail
  rw [← HTT.out] at hM2
  refine (valid_made hM2).mono ?_
  rintro e w3 ⟨a1, a2, a3, a4, a5, rfl, hM, h3⟩
  have hE := hX1.trans (h2.trans h3)
  obtain ⟨s0, s1, s2, f0, f1, f2⟩ := own3 ((h2.trans h3).blk hb11)
  clear hM2 hb01 hb11 d00 d01 d02 d30 d31 d32 z0 z1 z2
  go_wp2_with fail
  have hsz := hX1.size
  refine bodyPost_ret (v := .tuple #[.agg #[.int .i64 a1, .int .i64 a2, .slice a3 a4 a5], .bool (valid sigT TT)]) (by simp [results, Try.results76, go_sem, s0, s1, s2]) rfl ⟨_, rfl, Made.since (hM.after ((((Above.refl _ _).setCell (p := ⟨w.heap.size + 1, 0, none⟩) (by show w.heap.size + 1 < _; omega) (.int .i64 a1)).setCell (p := ⟨w.heap.size + 1, 1, none⟩) (by show w.heap.size + 1 < _; omega) (.int .i64 a2)).setCell (p := ⟨w.heap.size + 1, 2, none⟩) (by show w.heap.size + 1 < _; omega) (.slice a3 a4 a5))) (by omega), (((hE.setCell (p := ⟨w.heap.size + 1, 0, none⟩) (by show w.heap.size ≤ w.heap.size + 1; omega) _).setCell (p := ⟨w.heap.size + 1, 1, none⟩) (by show w.heap.size ≤ w.heap.size + 1; omega) _).setCell (p := ⟨w.heap.size + 1, 2, none⟩) (by show w.heap.size ≤ w.heap.size + 1; omega) _)⟩
set_option maxRecDepth 100000 in
set_option maxHeartbeats 4000000 in
theorem contract_6 (n : Int) (ks : List Tr) (hv : valid sigT (.mk 16 n ks) = true) (w : World) (A : Option Addr) (cap : Nat) (hin : Lies w (.mk 16 n ks) (.agg #[.int .i64 16, .int .i64 n, .slice A ks.length cap])) (hK : LiesK w A ks) (hl : ks.length ≤ cap) (hc : cap ≤ maxLen) (hc0 : (kd ks 0).kind = 14) :
    Calls Try.prog 76 #[.agg #[.int .i64 16, .int .i64 n, .slice A ks.length cap]] w (ConQ w (ctr 16 ks)) := by
  obtain ⟨hsh, hcn⟩ := valid_parts hv
  have hops : opsT 16 = (ks.length : Int) := (shape_kids' hsh).1
  have hks : ks.length = 1 := by have h9 : (1 : Int) = (ks.length : Int) := hops; omega
  have hsk := (shape_kids' hsh).2.2.2
  have hvk : ∀ t ∈ ks, valid sigT t = true := fun t ht => by
    have h1 := hsk t ht
    have h2 := cnt_mem ht
    simp only [cnt] at hcn
    unfold valid
    rw [shape_up h1 (by decide), Bool.true_and, decide_eq_true_eq]
    omega
  have hcc := hc
  unfold maxLen at hcc
  have HRX := Lib.hid (fun W (hW : Ext w W) => redex_any (.mk 16 n ks) 30 hsh W _ (hin.ext hW))
  obtain ⟨wb, hwb⟩ : ∃ wb, wb = (w.alloc (.cells #[.int .i64 16, .int .i64 n, .slice A ks.length cap] 27)).alloc (.cells #[.int .i64 0, .int .i64 0, .slice none 0 0] 27) := ⟨_, rfl⟩
  have hX : Ext w wb := hwb ▸ ((Ext.refl w).alloc _).alloc _
  have hb0 : wb.heap[w.heap.size]? = some (.cells #[.int .i64 16, .int .i64 n, .slice A ks.length cap] 27 (0, 0)) := by rw [hwb]; exact (blk2 (Ext.refl _)).1
  have hb1 : wb.heap[w.heap.size + 1]? = some (.cells #[.int .i64 0, .int .i64 0, .slice none 0 0] 27 (0, 0)) := by rw [hwb]; exact (blk2 (Ext.refl _)).2.1
  have hs0 : w.heap.size + 1 < wb.heap.size := lt_of_blk hb1
  have hlt0 : 0 < ks.length := by omega
  have hi0 : (0 : Int) < (ks.length : Int) := by omega
  obtain ⟨b0, o0, k0, n0, A0, cap0, kids0, hA0, HK0, c00, c01, c02, hkl0, hkc0, hK0, hin0, hmem0⟩ := hK.get (Ext.refl w) hlt0
  simp only [Nat.zero_mul, Nat.add_zero] at c00 c01 c02
  have hkd0 : kd ks 0 = .mk k0 n0 kids0 := kd_get hlt0 HK0.out
  subst hA0
  rw [hkd0] at hc0
  have hk14 : k0 = 14 := hc0
  subst hk14
  have hv0 := hvk _ hmem0
  have hop0 : opsT 14 = (kids0.length : Int) := (shape_kids' (valid_parts hv0).1).1
  have hks0 : kids0.length = 3 := by have h9 : (3 : Int) = (kids0.length : Int) := hop0; omega
  have hlt3 : 2 < kids0.length := by omega
  have hi3 : (2 : Int) < (kids0.length : Int) := by omega
  obtain ⟨b3, o3, k3, n3, A3, cap3, kids3, hA3, HK3, c30, c31, c32, hkl3, hkc3, hK3, hin3, hmem3⟩ := hK0.get (Ext.refl w) hlt3
  simp only [Nat.reduceMul, Nat.add_assoc, Nat.reduceAdd] at c30 c31 c32
  have hkd3 : kd kids0 2 = .mk k3 n3 kids3 := kd_get hlt3 HK3.out
  subst hA3
  have hct : ctr 16 ks = .mk k3 n3 kids3 := by rw [ctr_snd, hkd0]; exact hkd3
  rw [hct]
  have hrd : rdx 16 ks = 6 := by unfold rdx; rw [hkd0]; simp [Tr.kind]
  obtain ⟨TT, hTT⟩ : ∃ x, x = Tr.mk k3 n3 kids3 := ⟨_, rfl⟩
  rw [← hTT]
  have HTT := Lib.hid hTT
  clear hTT
  have hcT : cnt (.mk k3 n3 kids3) ≤ 400 := by have h1 := cnt_mem hmem3; have h2 := (valid_parts hv0).2; simp only [cnt] at h2; omega
  clear hct
  have hrt : rdxT (.mk 16 n ks) = 6 := hrd
  rw [hrt] at HRX
  clear hrt hrd hks hops
  clear hks0
  go_enter Try.func76, Try.ntmps76
  go_wp2_with fail
  rw [← hwb]
  clear hwb
  refine (HRX.out _ hX).mono ?_
  rintro e w1 ⟨rfl, h1⟩
  have hX1 := hX.trans h1
  have hb01 := h1.blk hb0
  have hb11 := h1.blk hb1
  have hs1 : w.heap.size + 1 < w1.heap.size := lt_of_blk hb11
  obtain ⟨z0, z1, z2, -, -, -⟩ := own3 hb01
  clear hb0 hb1 HRX h1
  have d00 := hX1.cell c00
  have d01 := hX1.cell c01
  have d02 := hX1.cell c02
  have d30 := hX1.cell c30
  have d31 := hX1.cell c31
  have d32 := hX1.cell c32
  have HIN := Lib.hid (hin3.ext hX1)
  clear HK0 hkd0 hK0 hin0 hmem0 HK3 hkd3 hK3 hin3 hmem3 c00 c01 c02 c30 c31 c32 hK hin hop0
  go_wp2_with fail
  refine (own_any _ _ _ HIN.out (by omega)).mono ?_
  rintro e w2 ⟨u, rfl, hM2, h2⟩
  obtain ⟨u1, u2, u3, u4, u5, rfl⟩ := hM2.three'
  go_wp2_with fail
  rw [← HTT.out] at hM2
  refine (valid_made hM2).mono ?_
  rintro e w3 ⟨a1, a2, a3, a4, a5, rfl, hM, h3⟩
  have hE := hX1.trans (h2.trans h3)
  obtain ⟨s0, s1, s2, f0, f1, f2⟩ := own3 ((h2.trans h3).blk hb11)
  clear hM2 hb01 hb11 d00 d01 d02 d30 d31 d32 z0 z1 z2
  go_wp2_with fail
  have hsz := hX1.size
  refine bodyPost_ret (v := .tuple #[.agg #[.int .i64 a1, .int .i64 a2, .slice a3 a4 a5], .bool (valid sigT TT)]) (by simp [results, Try.results76, go_sem, s0, s1, s2]) rfl ⟨_, rfl, Made.since (hM.after ((((Above.refl _ _).setCell (p := ⟨w.heap.size + 1, 0, none⟩) (by show w.heap.size + 1 < _; omega) (.int .i64 a1)).setCell (p := ⟨w.heap.size + 1, 1, none⟩) (by show w.heap.size + 1 < _; omega) (.int .i64 a2)).setCell (p := ⟨w.heap.size + 1, 2, none⟩) (by show w.heap.size + 1 < _; omega) (.slice a3 a4 a5))) (by omega), (((hE.setCell (p := ⟨w.heap.size + 1, 0, none⟩) (by show w.heap.size ≤ w.heap.size + 1; omega) _).setCell (p := ⟨w.heap.size + 1, 1, none⟩) (by show w.heap.size ≤ w.heap.size + 1; omega) _).setCell (p := ⟨w.heap.size + 1, 2, none⟩) (by show w.heap.size ≤ w.heap.size + 1; omega) _)⟩
set_option maxRecDepth 100000 in
set_option maxHeartbeats 4000000 in
theorem contract_1 (n : Int) (ks : List Tr) (hv : valid sigT (.mk 5 n ks) = true) (w : World) (A : Option Addr) (cap : Nat) (hin : Lies w (.mk 5 n ks) (.agg #[.int .i64 5, .int .i64 n, .slice A ks.length cap])) (hK : LiesK w A ks) (hl : ks.length ≤ cap) (hc : cap ≤ maxLen) (hc0 : (kd ks 0).kind = 4) :
    Calls Try.prog 76 #[.agg #[.int .i64 5, .int .i64 n, .slice A ks.length cap]] w (ConQ w (ctr 5 ks)) := by
  obtain ⟨hsh, hcn⟩ := valid_parts hv
  have hops : opsT 5 = (ks.length : Int) := (shape_kids' hsh).1
  have hks : ks.length = 2 := by have h9 : (2 : Int) = (ks.length : Int) := hops; omega
  have hsk := (shape_kids' hsh).2.2.2
  have hvk : ∀ t ∈ ks, valid sigT t = true := fun t ht => by
    have h1 := hsk t ht
    have h2 := cnt_mem ht
    simp only [cnt] at hcn
    unfold valid
    rw [shape_up h1 (by decide), Bool.true_and, decide_eq_true_eq]
    omega
  have hcc := hc
  unfold maxLen at hcc
  have HRX := Lib.hid (fun W (hW : Ext w W) => redex_any (.mk 5 n ks) 30 hsh W _ (hin.ext hW))
  obtain ⟨wb, hwb⟩ : ∃ wb, wb = (w.alloc (.cells #[.int .i64 5, .int .i64 n, .slice A ks.length cap] 27)).alloc (.cells #[.int .i64 0, .int .i64 0, .slice none 0 0] 27) := ⟨_, rfl⟩
  have hX : Ext w wb := hwb ▸ ((Ext.refl w).alloc _).alloc _
  have hb0 : wb.heap[w.heap.size]? = some (.cells #[.int .i64 5, .int .i64 n, .slice A ks.length cap] 27 (0, 0)) := by rw [hwb]; exact (blk2 (Ext.refl _)).1
  have hb1 : wb.heap[w.heap.size + 1]? = some (.cells #[.int .i64 0, .int .i64 0, .slice none 0 0] 27 (0, 0)) := by rw [hwb]; exact (blk2 (Ext.refl _)).2.1
  have hs0 : w.heap.size + 1 < wb.heap.size := lt_of_blk hb1
  have hlt0 : 0 < ks.length := by omega
  have hi0 : (0 : Int) < (ks.length : Int) := by omega
  obtain ⟨b0, o0, k0, n0, A0, cap0, kids0, hA0, HK0, c00, c01, c02, hkl0, hkc0, hK0, hin0, hmem0⟩ := hK.get (Ext.refl w) hlt0
  simp only [Nat.zero_mul, Nat.add_zero] at c00 c01 c02
  have hkd0 : kd ks 0 = .mk k0 n0 kids0 := kd_get hlt0 HK0.out
  have hlt1 : 1 < ks.length := by omega
  have hi1 : (1 : Int) < (ks.length : Int) := by omega
  obtain ⟨b1, o1, k1, n1, A1, cap1, kids1, hA1, HK1, c10, c11, c12, hkl1, hkc1, hK1, hin1, hmem1⟩ := hK.get (Ext.refl w) hlt1
  simp only [Nat.one_mul, Nat.add_assoc, Nat.reduceAdd] at c10 c11 c12
  have hkd1 : kd ks 1 = .mk k1 n1 kids1 := kd_get hlt1 HK1.out
  subst hA0
  injection hA1 with hA1
  injection hA1 with hB1 hC1 hD1
  subst hB1 hC1
  rw [hkd0] at hc0
  have hk4 : k0 = 4 := hc0
  subst hk4
  have hv0 := hvk _ hmem0
  have hop0 : opsT 4 = (kids0.length : Int) := (shape_kids' (valid_parts hv0).1).1
  have hks0 : kids0.length = 2 := by have h9 : (2 : Int) = (kids0.length : Int) := hop0; omega
  have hlt3 : 1 < kids0.length := by omega
  have hi3 : (1 : Int) < (kids0.length : Int) := by omega
  obtain ⟨b3, o3, k3, n3, A3, cap3, kids3, hA3, HK3, c30, c31, c32, hkl3, hkc3, hK3, hin3, hmem3⟩ := hK0.get (Ext.refl w) hlt3
  simp only [Nat.one_mul, Nat.add_assoc, Nat.reduceAdd] at c30 c31 c32
  have hkd3 : kd kids0 1 = .mk k3 n3 kids3 := kd_get hlt3 HK3.out
  subst hA3
  have hv1 := hvk _ hmem1
  have hv3 : valid sigT (.mk k3 n3 kids3) = true := by
    have h1 := (shape_kids' (valid_parts hv0).1).2.2.2 _ hmem3
    have h2 := cnt_mem hmem3
    have h3 := (valid_parts hv0).2
    simp only [cnt] at h3
    unfold valid
    rw [shape_up h1 (by decide), Bool.true_and, decide_eq_true_eq]
    omega
  have hct : ctr 5 ks = sbsT (.mk k1 n1 kids1) (.mk k3 n3 kids3) 0 0 := by rw [ctr_app, hkd0, hkd1]; exact congrArg (fun t => sbsT (.mk k1 n1 kids1) t 0 0) hkd3
  rw [hct]
  have hrd : rdx 5 ks = 1 := by unfold rdx; rw [hkd0]; simp [Tr.kind]
  obtain ⟨TT, hTT⟩ : ∃ x, x = sbsT (.mk k1 n1 kids1) (.mk k3 n3 kids3) 0 0 := ⟨_, rfl⟩
  rw [← hTT]
  have HTT := Lib.hid hTT
  clear hTT hct
  have hrt : rdxT (.mk 5 n ks) = 1 := hrd
  rw [hrt] at HRX
  clear hrt hrd hks hops
  clear hks0
  go_enter Try.func76, Try.ntmps76
  go_wp2_with fail
  rw [← hwb]
  clear hwb
  refine (HRX.out _ hX).mono ?_
  rintro e w1 ⟨rfl, h1⟩
  have hX1 := hX.trans h1
  have hb01 := h1.blk hb0
  have hb11 := h1.blk hb1
  have hs1 : w.heap.size + 1 < w1.heap.size := lt_of_blk hb11
  obtain ⟨z0, z1, z2, -, -, -⟩ := own3 hb01
  clear hb0 hb1 HRX h1
  have hbk : b0 < w.heap.size := World.block_lt_of_cell? _ _ c00
  have hbk3 : b3 < w.heap.size := World.block_lt_of_cell? _ _ c30
  have HC := Lib.hid (show ∀ w' : World, (∀ y, y < w1.heap.size → y ≠ w.heap.size + 1 → w'.heap[y]? = w1.heap[y]?) → w'.cell? ⟨w.heap.size, 2, none⟩ = some (.slice (some ⟨b0, o0, none⟩) ks.length cap) ∧ w'.cell? ⟨b0, o0 + 2, none⟩ = some (.slice (some ⟨b3, o3, none⟩) kids0.length cap0) ∧ w'.cell? ⟨b3, o3 + 3, none⟩ = some (.int .i64 k3) ∧ w'.cell? ⟨b3, o3 + 4, none⟩ = some (.int .i64 n3) ∧ w'.cell? ⟨b3, o3 + 5, none⟩ = some (.slice A3 kids3.length cap3) ∧ w'.cell? ⟨b0, o0 + 3, none⟩ = some (.int .i64 k1) ∧ w'.cell? ⟨b0, o0 + 4, none⟩ = some (.int .i64 n1) ∧ w'.cell? ⟨b0, o0 + 5, none⟩ = some (.slice A1 kids1.length cap1) from fun w' h => by
    have hfar : ∀ q i v, q < w.heap.size + 1 → w1.cell? ⟨q, i, none⟩ = some v → w'.cell? ⟨q, i, none⟩ = some v := fun q i v hq hv => (World.cell?_of_block (a := ⟨q, i, none⟩) (h q (by omega) (by omega))).trans hv
    exact ⟨hfar _ _ _ (by omega) z2, hfar _ _ _ (by omega) (hX1.cell c02), hfar _ _ _ (by omega) (hX1.cell c30), hfar _ _ _ (by omega) (hX1.cell c31), hfar _ _ _ (by omega) (hX1.cell c32), hfar _ _ _ (by omega) (hX1.cell c10), hfar _ _ _ (by omega) (hX1.cell c11), hfar _ _ _ (by omega) (hX1.cell c12)⟩)
  have hEd : Ext w1 w1.drew := (Ext.refl w1).drew
  have L3 := hin3.ext hX1
  have L1 := hin1.ext hX1
  clear HK0 HK1 HK3 hkd0 hkd1 hkd3 hK0 hK1 hK3 hin0 hin1 hin3 hmem0 hmem1 hmem3 hK hin hop0 c00 c01 c02 c10 c11 c12 c30 c31 c32 z0 z1 z2 hb01
  go_wp2_with fail
  go_region_held3 (fun w' => w'.cell? ⟨w.heap.size, 2, none⟩ = some (.slice (some ⟨b0, o0, none⟩) ks.length cap) ∧ w'.cell? ⟨b0, o0 + 2, none⟩ = some (.slice (some ⟨b3, o3, none⟩) kids0.length cap0) ∧ w'.cell? ⟨b3, o3 + 3, none⟩ = some (.int .i64 k3) ∧ w'.cell? ⟨b3, o3 + 4, none⟩ = some (.int .i64 n3) ∧ w'.cell? ⟨b3, o3 + 5, none⟩ = some (.slice A3 kids3.length cap3) ∧ w'.cell? ⟨b0, o0 + 3, none⟩ = some (.int .i64 k1) ∧ w'.cell? ⟨b0, o0 + 4, none⟩ = some (.int .i64 n1) ∧ w'.cell? ⟨b0, o0 + 5, none⟩ = some (.slice A1 kids1.length cap1))
    (first | exact HC.out _ (fun y h1 h2 => by rw [Below.heap_setCell _ _ _ _ h2, Below.heap_setCell _ _ _ _ h2, Below.heap_setCell _ _ _ _ h2]; exact (hEd.trans h2').heap y h1) | exact HC.out _ (fun y h1 _ => (hEd.trans h2').heap y h1) | exact HC.out _ (fun y h1 _ => hEd.heap y h1))
    (first | (go_at_call 53; refine (subst_made HTT.out _ _ _ (L3.ext hEd) hv3 (L1.ext hEd) hv1).mono ?_; rintro e w2 ⟨a1, a2, a3, a4, a5, rfl, hM, h2'⟩; obtain ⟨s0, s1, s2, f0, f1, f2⟩ := own3 ((hEd.trans h2').blk hb11)))
  have hE := hX1.trans (hEd.trans h2')
  have hsd : w1.heap.size ≤ w1.drew.heap.size := hEd.size
  clear HC hb11
  go_wp2_with fail
  have hsz := hX1.size
  refine bodyPost_ret (v := .tuple #[.agg #[.int .i64 a1, .int .i64 a2, .slice a3 a4 a5], .bool (valid sigT TT)]) (by simp [results, Try.results76, go_sem, s0, s1, s2]) rfl ⟨_, rfl, Made.since (hM.after ((((Above.refl _ _).setCell (p := ⟨w.heap.size + 1, 0, none⟩) (by show w.heap.size + 1 < _; omega) (.int .i64 a1)).setCell (p := ⟨w.heap.size + 1, 1, none⟩) (by show w.heap.size + 1 < _; omega) (.int .i64 a2)).setCell (p := ⟨w.heap.size + 1, 2, none⟩) (by show w.heap.size + 1 < _; omega) (.slice a3 a4 a5))) (by omega), (((hE.setCell (p := ⟨w.heap.size + 1, 0, none⟩) (by show w.heap.size ≤ w.heap.size + 1; omega) _).setCell (p := ⟨w.heap.size + 1, 1, none⟩) (by show w.heap.size ≤ w.heap.size + 1; omega) _).setCell (p := ⟨w.heap.size + 1, 2, none⟩) (by show w.heap.size ≤ w.heap.size + 1; omega) _)⟩
end Go.Proofs.Ytdkamgafpphdjaa

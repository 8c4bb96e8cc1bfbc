/-
  extract, kind by kind; ExtractTerm.
-/
import Derived.Test.YtappakllopkfiaaExtract
import Derived.Test.YtappakllopkfiaaDrawFun
namespace Go.Proofs.Ytappakllopkfiaa
open Go.RowKit
set_option linter.unusedVariables false

theorem extract_1 (n : Int) (ks : List Tr) (hk : ∀ t ∈ ks, ExtC t) (d : Int) (hsh : ∀ t ∈ ks, shape sigT t d = true) (w : World) (A : Option Addr) (cap : Nat) (hK : LiesK w A ks) (hl : ks.length ≤ cap) (hc : cap ≤ maxLen) (hks : Hid (ks.length = 0)) :
    Calls Try.prog 84 #[.agg #[.int .i64 1, .int .i64 n, .slice A ks.length cap]] w fun e w' => ∃ u, e = .returned u ∧ Made w w' 28 (exT (.mk 1 n ks)) u ∧ Ext w w' := by
  rw [show exT (.mk 1 n ks) = .mk 1 n [] from rfl]
  go_enter Try.func84, Try.ntmps84
  go_wp2_with fail
  exact bodyPost_ret (v := .agg #[.int .i64 1, .int .i64 n, .slice none 0 0]) (by simp [results, Try.results84, go_sem]) rfl ⟨_, rfl, Made.leaf _ _ _ _ _, ((Ext.refl w).alloc _).alloc _⟩
theorem extract_2 (n : Int) (ks : List Tr) (hk : ∀ t ∈ ks, ExtC t) (d : Int) (hsh : ∀ t ∈ ks, shape sigT t d = true) (w : World) (A : Option Addr) (cap : Nat) (hK : LiesK w A ks) (hl : ks.length ≤ cap) (hc : cap ≤ maxLen) (hks : Hid (ks.length = 0)) :
    Calls Try.prog 84 #[.agg #[.int .i64 2, .int .i64 n, .slice A ks.length cap]] w fun e w' => ∃ u, e = .returned u ∧ Made w w' 28 (exT (.mk 2 n ks)) u ∧ Ext w w' := by
  rw [show exT (.mk 2 n ks) = .mk 10 0 (sel (exS ks) []) from rfl]
  go_enter Try.func84, Try.ntmps84
  go_wp2_with fail
  have hX := Ext.refl ((w.alloc (.cells #[.int .i64 2, .int .i64 n, .slice A ks.length cap] 44)).alloc (.cells #[.int .i64 0, .int .i64 0, .slice none 0 0] 28))
  obtain ⟨hb0, hb1, -⟩ := blk2 hX
  refine (extractOf 2 n ks hk d hsh ((w.alloc (.cells #[.int .i64 2, .int .i64 n, .slice A ks.length cap] 44)).alloc (.cells #[.int .i64 0, .int .i64 0, .slice none 0 0] 28)) A cap (hK.ext hX.pre.pre) hl hc (by have := hks.out; omega) w.heap.size hb0 10 none 0 [] (by simp) (.inl rfl) (by simp) (by decide) (by simp)).mono ?_
  rintro e w1 ⟨u, rfl, hM, hE⟩
  obtain ⟨a1, a2, a3, a4, a5, rfl⟩ := hM.three'
  have hbb := hE.blk hb1
  have hM' := hM
  have hE' := hE
  obtain ⟨s0, s1, s2, f0, f1, f2⟩ := own3 hbb
  clear hb0 hb1 hbb hX hM
  go_wp2_with fail
  refine bodyPost_ret (v := .agg #[.int .i64 a1, .int .i64 a2, .slice a3 a4 a5]) (by simp [results, Try.results84, go_sem, s0, s1, s2]) rfl ⟨_, rfl, ?_, ?_⟩
  · exact Made.since (hM'.after ((((Above.refl _ _).setCell (by simp) _).setCell (by simp) _).setCell (by simp) _)) (by simp; omega)
  · exact ((((hE'.pre.pre).setCell (by simp) _).setCell (by simp) _).setCell (by simp) _)
theorem extract_3 (n : Int) (ks : List Tr) (hk : ∀ t ∈ ks, ExtC t) (d : Int) (hsh : ∀ t ∈ ks, shape sigT t d = true) (w : World) (A : Option Addr) (cap : Nat) (hK : LiesK w A ks) (hl : ks.length ≤ cap) (hc : cap ≤ maxLen) (hks : Hid (ks.length = 2)) :
    Calls Try.prog 84 #[.agg #[.int .i64 3, .int .i64 n, .slice A ks.length cap]] w fun e w' => ∃ u, e = .returned u ∧ Made w w' 28 (exT (.mk 3 n ks)) u ∧ Ext w w' := by
  rw [show exT (.mk 3 n ks) = .mk 10 0 (sel (exS ks) []) from rfl]
  go_enter Try.func84, Try.ntmps84
  go_wp2_with fail
  have hX := Ext.refl ((w.alloc (.cells #[.int .i64 3, .int .i64 n, .slice A ks.length cap] 44)).alloc (.cells #[.int .i64 0, .int .i64 0, .slice none 0 0] 28))
  obtain ⟨hb0, hb1, -⟩ := blk2 hX
  refine (extractOf 3 n ks hk d hsh ((w.alloc (.cells #[.int .i64 3, .int .i64 n, .slice A ks.length cap] 44)).alloc (.cells #[.int .i64 0, .int .i64 0, .slice none 0 0] 28)) A cap (hK.ext hX.pre.pre) hl hc (by have := hks.out; omega) w.heap.size hb0 10 none 0 [] (by simp) (.inl rfl) (by simp) (by decide) (by simp)).mono ?_
  rintro e w1 ⟨u, rfl, hM, hE⟩
  obtain ⟨a1, a2, a3, a4, a5, rfl⟩ := hM.three'
  have hbb := hE.blk hb1
  have hM' := hM
  have hE' := hE
  obtain ⟨s0, s1, s2, f0, f1, f2⟩ := own3 hbb
  clear hb0 hb1 hbb hX hM
  go_wp2_with fail
  refine bodyPost_ret (v := .agg #[.int .i64 a1, .int .i64 a2, .slice a3 a4 a5]) (by simp [results, Try.results84, go_sem, s0, s1, s2]) rfl ⟨_, rfl, ?_, ?_⟩
  · exact Made.since (hM'.after ((((Above.refl _ _).setCell (by simp) _).setCell (by simp) _).setCell (by simp) _)) (by simp; omega)
  · exact ((((hE'.pre.pre).setCell (by simp) _).setCell (by simp) _).setCell (by simp) _)
theorem extract_4 (n : Int) (ks : List Tr) (hk : ∀ t ∈ ks, ExtC t) (d : Int) (hsh : ∀ t ∈ ks, shape sigT t d = true) (w : World) (A : Option Addr) (cap : Nat) (hK : LiesK w A ks) (hl : ks.length ≤ cap) (hc : cap ≤ maxLen) (hks : Hid (ks.length = 2)) :
    Calls Try.prog 84 #[.agg #[.int .i64 4, .int .i64 n, .slice A ks.length cap]] w fun e w' => ∃ u, e = .returned u ∧ Made w w' 28 (exT (.mk 4 n ks)) u ∧ Ext w w' := by
  rw [show exT (.mk 4 n ks) = .mk 2 0 (sel (exS ks) [1]) from rfl]
  go_enter Try.func84, Try.ntmps84
  go_wp2_with fail
  have hX := Ext.refl (((w.alloc (.cells #[.int .i64 4, .int .i64 n, .slice A ks.length cap] 44)).alloc (.cells #[.int .i64 0, .int .i64 0, .slice none 0 0] 28)).alloc (.cells #[.int .i64 1] 3))
  obtain ⟨hb0, hb1, hb2, -⟩ := blk3 hX
  refine (extractOf 4 n ks hk d hsh (((w.alloc (.cells #[.int .i64 4, .int .i64 n, .slice A ks.length cap] 44)).alloc (.cells #[.int .i64 0, .int .i64 0, .slice none 0 0] 28)).alloc (.cells #[.int .i64 1] 3)) A cap (hK.ext hX.pre.pre.pre) hl hc (by have := hks.out; omega) w.heap.size hb0 2 _ 1 [1] (by have := hks.out; simp; omega) (nums_of_row hb2 rfl) (by simp) (by decide) (by simp)).mono ?_
  rintro e w1 ⟨u, rfl, hM, hE⟩
  obtain ⟨a1, a2, a3, a4, a5, rfl⟩ := hM.three'
  have hbb := hE.blk hb1
  have hM' : Made ((w.alloc (.cells #[.int .i64 4, .int .i64 n, .slice A ks.length cap] 44)).alloc (.cells #[.int .i64 0, .int .i64 0, .slice none 0 0] 28)) w1 28 (.mk 2 0 (sel (exS ks) [1])) (.agg #[.int .i64 a1, .int .i64 a2, .slice a3 a4 a5]) := hM.since (by simp)
  have hE' := hE.pre
  obtain ⟨s0, s1, s2, f0, f1, f2⟩ := own3 hbb
  clear hb0 hb1 hbb hX hM
  go_wp2_with fail
  refine bodyPost_ret (v := .agg #[.int .i64 a1, .int .i64 a2, .slice a3 a4 a5]) (by simp [results, Try.results84, go_sem, s0, s1, s2]) rfl ⟨_, rfl, ?_, ?_⟩
  · exact Made.since (hM'.after ((((Above.refl _ _).setCell (by simp) _).setCell (by simp) _).setCell (by simp) _)) (by simp; omega)
  · exact ((((hE'.pre.pre).setCell (by simp) _).setCell (by simp) _).setCell (by simp) _)
theorem extract_5 (n : Int) (ks : List Tr) (hk : ∀ t ∈ ks, ExtC t) (d : Int) (hsh : ∀ t ∈ ks, shape sigT t d = true) (w : World) (A : Option Addr) (cap : Nat) (hK : LiesK w A ks) (hl : ks.length ≤ cap) (hc : cap ≤ maxLen) (hks : Hid (ks.length = 2)) :
    Calls Try.prog 84 #[.agg #[.int .i64 5, .int .i64 n, .slice A ks.length cap]] w fun e w' => ∃ u, e = .returned u ∧ Made w w' 28 (exT (.mk 5 n ks)) u ∧ Ext w w' := by
  rw [show exT (.mk 5 n ks) = .mk 3 0 (sel (exS ks) [0, 1]) from rfl]
  go_enter Try.func84, Try.ntmps84
  go_wp2_with fail
  have hX := Ext.refl (((w.alloc (.cells #[.int .i64 5, .int .i64 n, .slice A ks.length cap] 44)).alloc (.cells #[.int .i64 0, .int .i64 0, .slice none 0 0] 28)).alloc (.cells #[.int .i64 0, .int .i64 1] 3))
  obtain ⟨hb0, hb1, hb2, -⟩ := blk3 hX
  refine (extractOf 5 n ks hk d hsh (((w.alloc (.cells #[.int .i64 5, .int .i64 n, .slice A ks.length cap] 44)).alloc (.cells #[.int .i64 0, .int .i64 0, .slice none 0 0] 28)).alloc (.cells #[.int .i64 0, .int .i64 1] 3)) A cap (hK.ext hX.pre.pre.pre) hl hc (by have := hks.out; omega) w.heap.size hb0 3 _ 2 [0, 1] (by have := hks.out; simp; omega) (nums_of_row hb2 rfl) (by simp) (by decide) (by simp)).mono ?_
  rintro e w1 ⟨u, rfl, hM, hE⟩
  obtain ⟨a1, a2, a3, a4, a5, rfl⟩ := hM.three'
  have hbb := hE.blk hb1
  have hM' : Made ((w.alloc (.cells #[.int .i64 5, .int .i64 n, .slice A ks.length cap] 44)).alloc (.cells #[.int .i64 0, .int .i64 0, .slice none 0 0] 28)) w1 28 (.mk 3 0 (sel (exS ks) [0, 1])) (.agg #[.int .i64 a1, .int .i64 a2, .slice a3 a4 a5]) := hM.since (by simp)
  have hE' := hE.pre
  obtain ⟨s0, s1, s2, f0, f1, f2⟩ := own3 hbb
  clear hb0 hb1 hbb hX hM
  go_wp2_with fail
  refine bodyPost_ret (v := .agg #[.int .i64 a1, .int .i64 a2, .slice a3 a4 a5]) (by simp [results, Try.results84, go_sem, s0, s1, s2]) rfl ⟨_, rfl, ?_, ?_⟩
  · exact Made.since (hM'.after ((((Above.refl _ _).setCell (by simp) _).setCell (by simp) _).setCell (by simp) _)) (by simp; omega)
  · exact ((((hE'.pre.pre).setCell (by simp) _).setCell (by simp) _).setCell (by simp) _)
theorem extract_6 (n : Int) (ks : List Tr) (hk : ∀ t ∈ ks, ExtC t) (d : Int) (hsh : ∀ t ∈ ks, shape sigT t d = true) (w : World) (A : Option Addr) (cap : Nat) (hK : LiesK w A ks) (hl : ks.length ≤ cap) (hc : cap ≤ maxLen) (hks : Hid (ks.length = 0)) :
    Calls Try.prog 84 #[.agg #[.int .i64 6, .int .i64 n, .slice A ks.length cap]] w fun e w' => ∃ u, e = .returned u ∧ Made w w' 28 (exT (.mk 6 n ks)) u ∧ Ext w w' := by
  rw [show exT (.mk 6 n ks) = .mk 10 0 (sel (exS ks) []) from rfl]
  go_enter Try.func84, Try.ntmps84
  go_wp2_with fail
  have hX := Ext.refl ((w.alloc (.cells #[.int .i64 6, .int .i64 n, .slice A ks.length cap] 44)).alloc (.cells #[.int .i64 0, .int .i64 0, .slice none 0 0] 28))
  obtain ⟨hb0, hb1, -⟩ := blk2 hX
  refine (extractOf 6 n ks hk d hsh ((w.alloc (.cells #[.int .i64 6, .int .i64 n, .slice A ks.length cap] 44)).alloc (.cells #[.int .i64 0, .int .i64 0, .slice none 0 0] 28)) A cap (hK.ext hX.pre.pre) hl hc (by have := hks.out; omega) w.heap.size hb0 10 none 0 [] (by simp) (.inl rfl) (by simp) (by decide) (by simp)).mono ?_
  rintro e w1 ⟨u, rfl, hM, hE⟩
  obtain ⟨a1, a2, a3, a4, a5, rfl⟩ := hM.three'
  have hbb := hE.blk hb1
  have hM' := hM
  have hE' := hE
  obtain ⟨s0, s1, s2, f0, f1, f2⟩ := own3 hbb
  clear hb0 hb1 hbb hX hM
  go_wp2_with fail
  refine bodyPost_ret (v := .agg #[.int .i64 a1, .int .i64 a2, .slice a3 a4 a5]) (by simp [results, Try.results84, go_sem, s0, s1, s2]) rfl ⟨_, rfl, ?_, ?_⟩
  · exact Made.since (hM'.after ((((Above.refl _ _).setCell (by simp) _).setCell (by simp) _).setCell (by simp) _)) (by simp; omega)
  · exact ((((hE'.pre.pre).setCell (by simp) _).setCell (by simp) _).setCell (by simp) _)
theorem extract_7 (n : Int) (ks : List Tr) (hk : ∀ t ∈ ks, ExtC t) (d : Int) (hsh : ∀ t ∈ ks, shape sigT t d = true) (w : World) (A : Option Addr) (cap : Nat) (hK : LiesK w A ks) (hl : ks.length ≤ cap) (hc : cap ≤ maxLen) (hks : Hid (ks.length = 0)) :
    Calls Try.prog 84 #[.agg #[.int .i64 7, .int .i64 n, .slice A ks.length cap]] w fun e w' => ∃ u, e = .returned u ∧ Made w w' 28 (exT (.mk 7 n ks)) u ∧ Ext w w' := by
  rw [show exT (.mk 7 n ks) = .mk 4 0 (sel (exS ks) []) from rfl]
  go_enter Try.func84, Try.ntmps84
  go_wp2_with fail
  have hX := Ext.refl ((w.alloc (.cells #[.int .i64 7, .int .i64 n, .slice A ks.length cap] 44)).alloc (.cells #[.int .i64 0, .int .i64 0, .slice none 0 0] 28))
  obtain ⟨hb0, hb1, -⟩ := blk2 hX
  refine (extractOf 7 n ks hk d hsh ((w.alloc (.cells #[.int .i64 7, .int .i64 n, .slice A ks.length cap] 44)).alloc (.cells #[.int .i64 0, .int .i64 0, .slice none 0 0] 28)) A cap (hK.ext hX.pre.pre) hl hc (by have := hks.out; omega) w.heap.size hb0 4 none 0 [] (by simp) (.inl rfl) (by simp) (by decide) (by simp)).mono ?_
  rintro e w1 ⟨u, rfl, hM, hE⟩
  obtain ⟨a1, a2, a3, a4, a5, rfl⟩ := hM.three'
  have hbb := hE.blk hb1
  have hM' := hM
  have hE' := hE
  obtain ⟨s0, s1, s2, f0, f1, f2⟩ := own3 hbb
  clear hb0 hb1 hbb hX hM
  go_wp2_with fail
  refine bodyPost_ret (v := .agg #[.int .i64 a1, .int .i64 a2, .slice a3 a4 a5]) (by simp [results, Try.results84, go_sem, s0, s1, s2]) rfl ⟨_, rfl, ?_, ?_⟩
  · exact Made.since (hM'.after ((((Above.refl _ _).setCell (by simp) _).setCell (by simp) _).setCell (by simp) _)) (by simp; omega)
  · exact ((((hE'.pre.pre).setCell (by simp) _).setCell (by simp) _).setCell (by simp) _)
theorem extract_8 (n : Int) (ks : List Tr) (hk : ∀ t ∈ ks, ExtC t) (d : Int) (hsh : ∀ t ∈ ks, shape sigT t d = true) (w : World) (A : Option Addr) (cap : Nat) (hK : LiesK w A ks) (hl : ks.length ≤ cap) (hc : cap ≤ maxLen) (hks : Hid (ks.length = 1)) :
    Calls Try.prog 84 #[.agg #[.int .i64 8, .int .i64 n, .slice A ks.length cap]] w fun e w' => ∃ u, e = .returned u ∧ Made w w' 28 (exT (.mk 8 n ks)) u ∧ Ext w w' := by
  rw [show exT (.mk 8 n ks) = .mk 5 0 (sel (exS ks) [0]) from rfl]
  go_enter Try.func84, Try.ntmps84
  go_wp2_with fail
  have hX := Ext.refl (((w.alloc (.cells #[.int .i64 8, .int .i64 n, .slice A ks.length cap] 44)).alloc (.cells #[.int .i64 0, .int .i64 0, .slice none 0 0] 28)).alloc (.cells #[.int .i64 0] 3))
  obtain ⟨hb0, hb1, hb2, -⟩ := blk3 hX
  refine (extractOf 8 n ks hk d hsh (((w.alloc (.cells #[.int .i64 8, .int .i64 n, .slice A ks.length cap] 44)).alloc (.cells #[.int .i64 0, .int .i64 0, .slice none 0 0] 28)).alloc (.cells #[.int .i64 0] 3)) A cap (hK.ext hX.pre.pre.pre) hl hc (by have := hks.out; omega) w.heap.size hb0 5 _ 1 [0] (by have := hks.out; simp; omega) (nums_of_row hb2 rfl) (by simp) (by decide) (by simp)).mono ?_
  rintro e w1 ⟨u, rfl, hM, hE⟩
  obtain ⟨a1, a2, a3, a4, a5, rfl⟩ := hM.three'
  have hbb := hE.blk hb1
  have hM' : Made ((w.alloc (.cells #[.int .i64 8, .int .i64 n, .slice A ks.length cap] 44)).alloc (.cells #[.int .i64 0, .int .i64 0, .slice none 0 0] 28)) w1 28 (.mk 5 0 (sel (exS ks) [0])) (.agg #[.int .i64 a1, .int .i64 a2, .slice a3 a4 a5]) := hM.since (by simp)
  have hE' := hE.pre
  obtain ⟨s0, s1, s2, f0, f1, f2⟩ := own3 hbb
  clear hb0 hb1 hbb hX hM
  go_wp2_with fail
  refine bodyPost_ret (v := .agg #[.int .i64 a1, .int .i64 a2, .slice a3 a4 a5]) (by simp [results, Try.results84, go_sem, s0, s1, s2]) rfl ⟨_, rfl, ?_, ?_⟩
  · exact Made.since (hM'.after ((((Above.refl _ _).setCell (by simp) _).setCell (by simp) _).setCell (by simp) _)) (by simp; omega)
  · exact ((((hE'.pre.pre).setCell (by simp) _).setCell (by simp) _).setCell (by simp) _)
theorem extract_9 (n : Int) (ks : List Tr) (hk : ∀ t ∈ ks, ExtC t) (d : Int) (hsh : ∀ t ∈ ks, shape sigT t d = true) (w : World) (A : Option Addr) (cap : Nat) (hK : LiesK w A ks) (hl : ks.length ≤ cap) (hc : cap ≤ maxLen) (hks : Hid (ks.length = 4)) :
    Calls Try.prog 84 #[.agg #[.int .i64 9, .int .i64 n, .slice A ks.length cap]] w fun e w' => ∃ u, e = .returned u ∧ Made w w' 28 (exT (.mk 9 n ks)) u ∧ Ext w w' := by
  rw [show exT (.mk 9 n ks) = .mk 6 0 (sel (exS ks) [1, 2, 3]) from rfl]
  go_enter Try.func84, Try.ntmps84
  go_wp2_with fail
  have hX := Ext.refl (((w.alloc (.cells #[.int .i64 9, .int .i64 n, .slice A ks.length cap] 44)).alloc (.cells #[.int .i64 0, .int .i64 0, .slice none 0 0] 28)).alloc (.cells #[.int .i64 1, .int .i64 2, .int .i64 3] 3))
  obtain ⟨hb0, hb1, hb2, -⟩ := blk3 hX
  refine (extractOf 9 n ks hk d hsh (((w.alloc (.cells #[.int .i64 9, .int .i64 n, .slice A ks.length cap] 44)).alloc (.cells #[.int .i64 0, .int .i64 0, .slice none 0 0] 28)).alloc (.cells #[.int .i64 1, .int .i64 2, .int .i64 3] 3)) A cap (hK.ext hX.pre.pre.pre) hl hc (by have := hks.out; omega) w.heap.size hb0 6 _ 3 [1, 2, 3] (by have := hks.out; simp; omega) (nums_of_row hb2 rfl) (by simp) (by decide) (by simp)).mono ?_
  rintro e w1 ⟨u, rfl, hM, hE⟩
  obtain ⟨a1, a2, a3, a4, a5, rfl⟩ := hM.three'
  have hbb := hE.blk hb1
  have hM' : Made ((w.alloc (.cells #[.int .i64 9, .int .i64 n, .slice A ks.length cap] 44)).alloc (.cells #[.int .i64 0, .int .i64 0, .slice none 0 0] 28)) w1 28 (.mk 6 0 (sel (exS ks) [1, 2, 3])) (.agg #[.int .i64 a1, .int .i64 a2, .slice a3 a4 a5]) := hM.since (by simp)
  have hE' := hE.pre
  obtain ⟨s0, s1, s2, f0, f1, f2⟩ := own3 hbb
  clear hb0 hb1 hbb hX hM
  go_wp2_with fail
  refine bodyPost_ret (v := .agg #[.int .i64 a1, .int .i64 a2, .slice a3 a4 a5]) (by simp [results, Try.results84, go_sem, s0, s1, s2]) rfl ⟨_, rfl, ?_, ?_⟩
  · exact Made.since (hM'.after ((((Above.refl _ _).setCell (by simp) _).setCell (by simp) _).setCell (by simp) _)) (by simp; omega)
  · exact ((((hE'.pre.pre).setCell (by simp) _).setCell (by simp) _).setCell (by simp) _)
theorem extract_10 (n : Int) (ks : List Tr) (hk : ∀ t ∈ ks, ExtC t) (d : Int) (hsh : ∀ t ∈ ks, shape sigT t d = true) (w : World) (A : Option Addr) (cap : Nat) (hK : LiesK w A ks) (hl : ks.length ≤ cap) (hc : cap ≤ maxLen) (hks : Hid (ks.length = 3)) :
    Calls Try.prog 84 #[.agg #[.int .i64 10, .int .i64 n, .slice A ks.length cap]] w fun e w' => ∃ u, e = .returned u ∧ Made w w' 28 (exT (.mk 10 n ks)) u ∧ Ext w w' := by
  rw [show exT (.mk 10 n ks) = .mk 10 0 (sel (exS ks) []) from rfl]
  go_enter Try.func84, Try.ntmps84
  go_wp2_with fail
  have hX := Ext.refl ((w.alloc (.cells #[.int .i64 10, .int .i64 n, .slice A ks.length cap] 44)).alloc (.cells #[.int .i64 0, .int .i64 0, .slice none 0 0] 28))
  obtain ⟨hb0, hb1, -⟩ := blk2 hX
  refine (extractOf 10 n ks hk d hsh ((w.alloc (.cells #[.int .i64 10, .int .i64 n, .slice A ks.length cap] 44)).alloc (.cells #[.int .i64 0, .int .i64 0, .slice none 0 0] 28)) A cap (hK.ext hX.pre.pre) hl hc (by have := hks.out; omega) w.heap.size hb0 10 none 0 [] (by simp) (.inl rfl) (by simp) (by decide) (by simp)).mono ?_
  rintro e w1 ⟨u, rfl, hM, hE⟩
  obtain ⟨a1, a2, a3, a4, a5, rfl⟩ := hM.three'
  have hbb := hE.blk hb1
  have hM' := hM
  have hE' := hE
  obtain ⟨s0, s1, s2, f0, f1, f2⟩ := own3 hbb
  clear hb0 hb1 hbb hX hM
  go_wp2_with fail
  refine bodyPost_ret (v := .agg #[.int .i64 a1, .int .i64 a2, .slice a3 a4 a5]) (by simp [results, Try.results84, go_sem, s0, s1, s2]) rfl ⟨_, rfl, ?_, ?_⟩
  · exact Made.since (hM'.after ((((Above.refl _ _).setCell (by simp) _).setCell (by simp) _).setCell (by simp) _)) (by simp; omega)
  · exact ((((hE'.pre.pre).setCell (by simp) _).setCell (by simp) _).setCell (by simp) _)
theorem extract_11 (n : Int) (ks : List Tr) (hk : ∀ t ∈ ks, ExtC t) (d : Int) (hsh : ∀ t ∈ ks, shape sigT t d = true) (w : World) (A : Option Addr) (cap : Nat) (hK : LiesK w A ks) (hl : ks.length ≤ cap) (hc : cap ≤ maxLen) (hks : Hid (ks.length = 1)) :
    Calls Try.prog 84 #[.agg #[.int .i64 11, .int .i64 n, .slice A ks.length cap]] w fun e w' => ∃ u, e = .returned u ∧ Made w w' 28 (exT (.mk 11 n ks)) u ∧ Ext w w' := by
  rw [show exT (.mk 11 n ks) = .mk 10 0 (sel (exS ks) []) from rfl]
  go_enter Try.func84, Try.ntmps84
  go_wp2_with fail
  have hX := Ext.refl ((w.alloc (.cells #[.int .i64 11, .int .i64 n, .slice A ks.length cap] 44)).alloc (.cells #[.int .i64 0, .int .i64 0, .slice none 0 0] 28))
  obtain ⟨hb0, hb1, -⟩ := blk2 hX
  refine (extractOf 11 n ks hk d hsh ((w.alloc (.cells #[.int .i64 11, .int .i64 n, .slice A ks.length cap] 44)).alloc (.cells #[.int .i64 0, .int .i64 0, .slice none 0 0] 28)) A cap (hK.ext hX.pre.pre) hl hc (by have := hks.out; omega) w.heap.size hb0 10 none 0 [] (by simp) (.inl rfl) (by simp) (by decide) (by simp)).mono ?_
  rintro e w1 ⟨u, rfl, hM, hE⟩
  obtain ⟨a1, a2, a3, a4, a5, rfl⟩ := hM.three'
  have hbb := hE.blk hb1
  have hM' := hM
  have hE' := hE
  obtain ⟨s0, s1, s2, f0, f1, f2⟩ := own3 hbb
  clear hb0 hb1 hbb hX hM
  go_wp2_with fail
  refine bodyPost_ret (v := .agg #[.int .i64 a1, .int .i64 a2, .slice a3 a4 a5]) (by simp [results, Try.results84, go_sem, s0, s1, s2]) rfl ⟨_, rfl, ?_, ?_⟩
  · exact Made.since (hM'.after ((((Above.refl _ _).setCell (by simp) _).setCell (by simp) _).setCell (by simp) _)) (by simp; omega)
  · exact ((((hE'.pre.pre).setCell (by simp) _).setCell (by simp) _).setCell (by simp) _)
theorem extract_12 (n : Int) (ks : List Tr) (hk : ∀ t ∈ ks, ExtC t) (d : Int) (hsh : ∀ t ∈ ks, shape sigT t d = true) (w : World) (A : Option Addr) (cap : Nat) (hK : LiesK w A ks) (hl : ks.length ≤ cap) (hc : cap ≤ maxLen) (hks : Hid (ks.length = 3)) :
    Calls Try.prog 84 #[.agg #[.int .i64 12, .int .i64 n, .slice A ks.length cap]] w fun e w' => ∃ u, e = .returned u ∧ Made w w' 28 (exT (.mk 12 n ks)) u ∧ Ext w w' := by
  have hlt : 2 < ks.length := by have := hks.out; omega
  obtain ⟨b, o, k', n', A', cap', kids, rfl, HK, c0, c1, c2, hkl, hkc, hK', hin, hmem⟩ := hK.get (Ext.refl w) hlt
  have e : exT (.mk 12 n ks) = exT (.mk k' n' kids) := by
    rw [← HK.out, ← exS_get hlt]
    rfl
  rw [e]
  have hlb := World.block_lt_of_cell? _ _ c0
  have hcc := hc
  unfold maxLen at hcc
  have hi0 : (2 : Int) < (ks.length : Int) := by omega
  clear e
  go_enter Try.func84, Try.ntmps84
  go_wp2_with fail
  refine (hk _ hmem d _ _ (hsh _ hmem) (hin.ext (((Ext.refl w).alloc _).alloc _))).mono ?_
  rintro e w1 ⟨u, rfl, hM, hE⟩
  obtain ⟨a1, a2, a3, a4, a5, rfl⟩ := hM.three'
  obtain ⟨-, hb2, hs2⟩ := blk2 hE
  obtain ⟨s0, s1, s2, f0, f1, f2⟩ := own3 hb2
  clear hb2 c0 c1 c2
  go_wp2_with fail
  refine bodyPost_ret (v := .agg #[.int .i64 a1, .int .i64 a2, .slice a3 a4 a5]) (by simp [results, Try.results84, go_sem, s0, s1, s2]) rfl ⟨_, rfl, ?_, ?_⟩
  · exact Made.since (hM.after ((((Above.refl _ _).setCell (by simp) _).setCell (by simp) _).setCell (by simp) _)) (by simp; omega)
  · exact ((((hE.pre.pre).setCell (by simp) _).setCell (by simp) _).setCell (by simp) _)
theorem extract_13 (n : Int) (ks : List Tr) (hk : ∀ t ∈ ks, ExtC t) (d : Int) (hsh : ∀ t ∈ ks, shape sigT t d = true) (w : World) (A : Option Addr) (cap : Nat) (hK : LiesK w A ks) (hl : ks.length ≤ cap) (hc : cap ≤ maxLen) (hks : Hid (ks.length = 2)) :
    Calls Try.prog 84 #[.agg #[.int .i64 13, .int .i64 n, .slice A ks.length cap]] w fun e w' => ∃ u, e = .returned u ∧ Made w w' 28 (exT (.mk 13 n ks)) u ∧ Ext w w' := by
  rw [show exT (.mk 13 n ks) = .mk 10 0 (sel (exS ks) []) from rfl]
  go_enter Try.func84, Try.ntmps84
  go_wp2_with fail
  have hX := Ext.refl ((w.alloc (.cells #[.int .i64 13, .int .i64 n, .slice A ks.length cap] 44)).alloc (.cells #[.int .i64 0, .int .i64 0, .slice none 0 0] 28))
  obtain ⟨hb0, hb1, -⟩ := blk2 hX
  refine (extractOf 13 n ks hk d hsh ((w.alloc (.cells #[.int .i64 13, .int .i64 n, .slice A ks.length cap] 44)).alloc (.cells #[.int .i64 0, .int .i64 0, .slice none 0 0] 28)) A cap (hK.ext hX.pre.pre) hl hc (by have := hks.out; omega) w.heap.size hb0 10 none 0 [] (by simp) (.inl rfl) (by simp) (by decide) (by simp)).mono ?_
  rintro e w1 ⟨u, rfl, hM, hE⟩
  obtain ⟨a1, a2, a3, a4, a5, rfl⟩ := hM.three'
  have hbb := hE.blk hb1
  have hM' := hM
  have hE' := hE
  obtain ⟨s0, s1, s2, f0, f1, f2⟩ := own3 hbb
  clear hb0 hb1 hbb hX hM
  go_wp2_with fail
  refine bodyPost_ret (v := .agg #[.int .i64 a1, .int .i64 a2, .slice a3 a4 a5]) (by simp [results, Try.results84, go_sem, s0, s1, s2]) rfl ⟨_, rfl, ?_, ?_⟩
  · exact Made.since (hM'.after ((((Above.refl _ _).setCell (by simp) _).setCell (by simp) _).setCell (by simp) _)) (by simp; omega)
  · exact ((((hE'.pre.pre).setCell (by simp) _).setCell (by simp) _).setCell (by simp) _)
theorem extract_14 (n : Int) (ks : List Tr) (hk : ∀ t ∈ ks, ExtC t) (d : Int) (hsh : ∀ t ∈ ks, shape sigT t d = true) (w : World) (A : Option Addr) (cap : Nat) (hK : LiesK w A ks) (hl : ks.length ≤ cap) (hc : cap ≤ maxLen) (hks : Hid (ks.length = 3)) :
    Calls Try.prog 84 #[.agg #[.int .i64 14, .int .i64 n, .slice A ks.length cap]] w fun e w' => ∃ u, e = .returned u ∧ Made w w' 28 (exT (.mk 14 n ks)) u ∧ Ext w w' := by
  rw [show exT (.mk 14 n ks) = .mk 7 0 (sel (exS ks) [1, 2]) from rfl]
  go_enter Try.func84, Try.ntmps84
  go_wp2_with fail
  have hX := Ext.refl (((w.alloc (.cells #[.int .i64 14, .int .i64 n, .slice A ks.length cap] 44)).alloc (.cells #[.int .i64 0, .int .i64 0, .slice none 0 0] 28)).alloc (.cells #[.int .i64 1, .int .i64 2] 3))
  obtain ⟨hb0, hb1, hb2, -⟩ := blk3 hX
  refine (extractOf 14 n ks hk d hsh (((w.alloc (.cells #[.int .i64 14, .int .i64 n, .slice A ks.length cap] 44)).alloc (.cells #[.int .i64 0, .int .i64 0, .slice none 0 0] 28)).alloc (.cells #[.int .i64 1, .int .i64 2] 3)) A cap (hK.ext hX.pre.pre.pre) hl hc (by have := hks.out; omega) w.heap.size hb0 7 _ 2 [1, 2] (by have := hks.out; simp; omega) (nums_of_row hb2 rfl) (by simp) (by decide) (by simp)).mono ?_
  rintro e w1 ⟨u, rfl, hM, hE⟩
  obtain ⟨a1, a2, a3, a4, a5, rfl⟩ := hM.three'
  have hbb := hE.blk hb1
  have hM' : Made ((w.alloc (.cells #[.int .i64 14, .int .i64 n, .slice A ks.length cap] 44)).alloc (.cells #[.int .i64 0, .int .i64 0, .slice none 0 0] 28)) w1 28 (.mk 7 0 (sel (exS ks) [1, 2])) (.agg #[.int .i64 a1, .int .i64 a2, .slice a3 a4 a5]) := hM.since (by simp)
  have hE' := hE.pre
  obtain ⟨s0, s1, s2, f0, f1, f2⟩ := own3 hbb
  clear hb0 hb1 hbb hX hM
  go_wp2_with fail
  refine bodyPost_ret (v := .agg #[.int .i64 a1, .int .i64 a2, .slice a3 a4 a5]) (by simp [results, Try.results84, go_sem, s0, s1, s2]) rfl ⟨_, rfl, ?_, ?_⟩
  · exact Made.since (hM'.after ((((Above.refl _ _).setCell (by simp) _).setCell (by simp) _).setCell (by simp) _)) (by simp; omega)
  · exact ((((hE'.pre.pre).setCell (by simp) _).setCell (by simp) _).setCell (by simp) _)
theorem extract_15 (n : Int) (ks : List Tr) (hk : ∀ t ∈ ks, ExtC t) (d : Int) (hsh : ∀ t ∈ ks, shape sigT t d = true) (w : World) (A : Option Addr) (cap : Nat) (hK : LiesK w A ks) (hl : ks.length ≤ cap) (hc : cap ≤ maxLen) (hks : Hid (ks.length = 1)) :
    Calls Try.prog 84 #[.agg #[.int .i64 15, .int .i64 n, .slice A ks.length cap]] w fun e w' => ∃ u, e = .returned u ∧ Made w w' 28 (exT (.mk 15 n ks)) u ∧ Ext w w' := by
  rw [show exT (.mk 15 n ks) = .mk 8 0 (sel (exS ks) [0]) from rfl]
  go_enter Try.func84, Try.ntmps84
  go_wp2_with fail
  have hX := Ext.refl (((w.alloc (.cells #[.int .i64 15, .int .i64 n, .slice A ks.length cap] 44)).alloc (.cells #[.int .i64 0, .int .i64 0, .slice none 0 0] 28)).alloc (.cells #[.int .i64 0] 3))
  obtain ⟨hb0, hb1, hb2, -⟩ := blk3 hX
  refine (extractOf 15 n ks hk d hsh (((w.alloc (.cells #[.int .i64 15, .int .i64 n, .slice A ks.length cap] 44)).alloc (.cells #[.int .i64 0, .int .i64 0, .slice none 0 0] 28)).alloc (.cells #[.int .i64 0] 3)) A cap (hK.ext hX.pre.pre.pre) hl hc (by have := hks.out; omega) w.heap.size hb0 8 _ 1 [0] (by have := hks.out; simp; omega) (nums_of_row hb2 rfl) (by simp) (by decide) (by simp)).mono ?_
  rintro e w1 ⟨u, rfl, hM, hE⟩
  obtain ⟨a1, a2, a3, a4, a5, rfl⟩ := hM.three'
  have hbb := hE.blk hb1
  have hM' : Made ((w.alloc (.cells #[.int .i64 15, .int .i64 n, .slice A ks.length cap] 44)).alloc (.cells #[.int .i64 0, .int .i64 0, .slice none 0 0] 28)) w1 28 (.mk 8 0 (sel (exS ks) [0])) (.agg #[.int .i64 a1, .int .i64 a2, .slice a3 a4 a5]) := hM.since (by simp)
  have hE' := hE.pre
  obtain ⟨s0, s1, s2, f0, f1, f2⟩ := own3 hbb
  clear hb0 hb1 hbb hX hM
  go_wp2_with fail
  refine bodyPost_ret (v := .agg #[.int .i64 a1, .int .i64 a2, .slice a3 a4 a5]) (by simp [results, Try.results84, go_sem, s0, s1, s2]) rfl ⟨_, rfl, ?_, ?_⟩
  · exact Made.since (hM'.after ((((Above.refl _ _).setCell (by simp) _).setCell (by simp) _).setCell (by simp) _)) (by simp; omega)
  · exact ((((hE'.pre.pre).setCell (by simp) _).setCell (by simp) _).setCell (by simp) _)
theorem extract_16 (n : Int) (ks : List Tr) (hk : ∀ t ∈ ks, ExtC t) (d : Int) (hsh : ∀ t ∈ ks, shape sigT t d = true) (w : World) (A : Option Addr) (cap : Nat) (hK : LiesK w A ks) (hl : ks.length ≤ cap) (hc : cap ≤ maxLen) (hks : Hid (ks.length = 1)) :
    Calls Try.prog 84 #[.agg #[.int .i64 16, .int .i64 n, .slice A ks.length cap]] w fun e w' => ∃ u, e = .returned u ∧ Made w w' 28 (exT (.mk 16 n ks)) u ∧ Ext w w' := by
  rw [show exT (.mk 16 n ks) = .mk 9 0 (sel (exS ks) [0]) from rfl]
  go_enter Try.func84, Try.ntmps84
  go_wp2_with fail
  have hX := Ext.refl (((w.alloc (.cells #[.int .i64 16, .int .i64 n, .slice A ks.length cap] 44)).alloc (.cells #[.int .i64 0, .int .i64 0, .slice none 0 0] 28)).alloc (.cells #[.int .i64 0] 3))
  obtain ⟨hb0, hb1, hb2, -⟩ := blk3 hX
  refine (extractOf 16 n ks hk d hsh (((w.alloc (.cells #[.int .i64 16, .int .i64 n, .slice A ks.length cap] 44)).alloc (.cells #[.int .i64 0, .int .i64 0, .slice none 0 0] 28)).alloc (.cells #[.int .i64 0] 3)) A cap (hK.ext hX.pre.pre.pre) hl hc (by have := hks.out; omega) w.heap.size hb0 9 _ 1 [0] (by have := hks.out; simp; omega) (nums_of_row hb2 rfl) (by simp) (by decide) (by simp)).mono ?_
  rintro e w1 ⟨u, rfl, hM, hE⟩
  obtain ⟨a1, a2, a3, a4, a5, rfl⟩ := hM.three'
  have hbb := hE.blk hb1
  have hM' : Made ((w.alloc (.cells #[.int .i64 16, .int .i64 n, .slice A ks.length cap] 44)).alloc (.cells #[.int .i64 0, .int .i64 0, .slice none 0 0] 28)) w1 28 (.mk 9 0 (sel (exS ks) [0])) (.agg #[.int .i64 a1, .int .i64 a2, .slice a3 a4 a5]) := hM.since (by simp)
  have hE' := hE.pre
  obtain ⟨s0, s1, s2, f0, f1, f2⟩ := own3 hbb
  clear hb0 hb1 hbb hX hM
  go_wp2_with fail
  refine bodyPost_ret (v := .agg #[.int .i64 a1, .int .i64 a2, .slice a3 a4 a5]) (by simp [results, Try.results84, go_sem, s0, s1, s2]) rfl ⟨_, rfl, ?_, ?_⟩
  · exact Made.since (hM'.after ((((Above.refl _ _).setCell (by simp) _).setCell (by simp) _).setCell (by simp) _)) (by simp; omega)
  · exact ((((hE'.pre.pre).setCell (by simp) _).setCell (by simp) _).setCell (by simp) _)
theorem extract_any : ∀ t : Tr, ExtC t := Tr.ind fun k n ks hk => by
  intro d w v hsh hin
  obtain ⟨A, cap, rfl, hl, hc, hK⟩ := Lies.mk_iff.1 hin
  obtain ⟨h1, h2, h3, h4⟩ := shape_kids hsh
  simp only [sigT] at h1
  have hr : 1 ≤ k ∧ k ≤ 16 := by
    by_cases h : 1 ≤ k ∧ k ≤ 16
    · exact h
    · exfalso
      unfold opsT at h1
      rw [if_neg (by omega), if_neg (by omega), if_neg (by omega), if_neg (by omega), if_neg (by omega), if_neg (by omega), if_neg (by omega), if_neg (by omega), if_neg (by omega), if_neg (by omega), if_neg (by omega), if_neg (by omega), if_neg (by omega), if_neg (by omega), if_neg (by omega), if_neg (by omega)] at h1
      omega
  rcases (show k = 1 ∨ k = 2 ∨ k = 3 ∨ k = 4 ∨ k = 5 ∨ k = 6 ∨ k = 7 ∨ k = 8 ∨ k = 9 ∨ k = 10 ∨ k = 11 ∨ k = 12 ∨ k = 13 ∨ k = 14 ∨ k = 15 ∨ k = 16 from by omega) with rfl | rfl | rfl | rfl | rfl | rfl | rfl | rfl | rfl | rfl | rfl | rfl | rfl | rfl | rfl | rfl
  · exact extract_1 n ks hk _ h4 w A cap hK hl hc (Lib.hid (by have : (0 : Int) = (ks.length : Int) := h1; omega))
  · exact extract_2 n ks hk _ h4 w A cap hK hl hc (Lib.hid (by have : (0 : Int) = (ks.length : Int) := h1; omega))
  · exact extract_3 n ks hk _ h4 w A cap hK hl hc (Lib.hid (by have : (2 : Int) = (ks.length : Int) := h1; omega))
  · exact extract_4 n ks hk _ h4 w A cap hK hl hc (Lib.hid (by have : (2 : Int) = (ks.length : Int) := h1; omega))
  · exact extract_5 n ks hk _ h4 w A cap hK hl hc (Lib.hid (by have : (2 : Int) = (ks.length : Int) := h1; omega))
  · exact extract_6 n ks hk _ h4 w A cap hK hl hc (Lib.hid (by have : (0 : Int) = (ks.length : Int) := h1; omega))
  · exact extract_7 n ks hk _ h4 w A cap hK hl hc (Lib.hid (by have : (0 : Int) = (ks.length : Int) := h1; omega))
  · exact extract_8 n ks hk _ h4 w A cap hK hl hc (Lib.hid (by have : (1 : Int) = (ks.length : Int) := h1; omega))
  · exact extract_9 n ks hk _ h4 w A cap hK hl hc (Lib.hid (by have : (4 : Int) = (ks.length : Int) := h1; omega))
  · exact extract_10 n ks hk _ h4 w A cap hK hl hc (Lib.hid (by have : (3 : Int) = (ks.length : Int) := h1; omega))
  · exact extract_11 n ks hk _ h4 w A cap hK hl hc (Lib.hid (by have : (1 : Int) = (ks.length : Int) := h1; omega))
  · exact extract_12 n ks hk _ h4 w A cap hK hl hc (Lib.hid (by have : (3 : Int) = (ks.length : Int) := h1; omega))
  · exact extract_13 n ks hk _ h4 w A cap hK hl hc (Lib.hid (by have : (2 : Int) = (ks.length : Int) := h1; omega))
  · exact extract_14 n ks hk _ h4 w A cap hK hl hc (Lib.hid (by have : (3 : Int) = (ks.length : Int) := h1; omega))
  · exact extract_15 n ks hk _ h4 w A cap hK hl hc (Lib.hid (by have : (1 : Int) = (ks.length : Int) := h1; omega))
  · exact extract_16 n ks hk _ h4 w A cap hK hl hc (Lib.hid (by have : (1 : Int) = (ks.length : Int) := h1; omega))

end Go.Proofs.Ytappakllopkfiaa

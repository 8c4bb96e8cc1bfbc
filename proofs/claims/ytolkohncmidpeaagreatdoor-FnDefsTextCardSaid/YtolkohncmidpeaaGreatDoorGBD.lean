/-
  Lemmas towards the law, 30: TxtP, StrS.
-/
import Derived.Test.YtolkohncmidpeaaGreatDoorGBB
import Derived.Test.YtolkohncmidpeaaGreatDoorGBC
import Derived.Test.YtolkohncmidpeaaGreatDoorDSH
namespace Go.Proofs.YtolkohncmidpeaaGreatDoor
set_option linter.unusedVariables false
/-- The operands' texts, each with the piece behind it. -/
def catP (f : Tr → List UInt8) : List (List UInt8) → List Tr → List UInt8
  | p :: ps, t :: ts => f t ++ p ++ catP f ps ts
  | _, _ => []
theorem catP_step {f : Tr → List UInt8} {ps : List (List UInt8)} {ks : List Tr} {j : Nat} (h1 : j < ks.length) (h2 : j < ps.length) : catP f (ps.drop j) (ks.drop j) = f ks[j] ++ ps[j] ++ catP f (ps.drop (j + 1)) (ks.drop (j + 1)) := by
  rw [List.drop_eq_getElem_cons h1, List.drop_eq_getElem_cons h2, catP]
theorem catP_end {f : Tr → List UInt8} {ps : List (List UInt8)} {ks : List Tr} {j : Nat} (h1 : ks.length ≤ j) : catP f (ps.drop j) (ks.drop j) = [] := by
  rw [List.drop_of_length_le h1]
  cases ps.drop j <;> rfl
theorem fmtL_parts {k n d : Int} {ks : List Tr} (h : shape sigT (.mk k n ks) d = true) (h1 : k ≠ 1) (h2 : k ≠ 2) : fmtL (.mk k n ks) = (prt k).headD [] ++ catP fmtL (prt k).tail ks ∧ (prt k).length = ks.length + 1 := by
  obtain ⟨hops, hn0, hn1, hks⟩ := shape_kids' h
  have hops2 : opsT k = (ks.length : Int) := hops
  have hmost : n ≤ mostT k := hn1
  rcases opsT_kind hops2 with rfl | rfl | rfl | rfl | rfl | rfl | rfl | rfl | rfl | rfl | rfl | rfl | rfl | rfl | rfl | rfl
  · exact absurd rfl h1
  · exact absurd rfl h2
  · have hn : n = 0 := by have : mostT 3 = 0 := rfl; omega
    subst hn
    obtain ⟨x, y, rfl⟩ : ∃ x y, ks = [x, y] := by
      have hlen : ks.length = 2 := by have : opsT 3 = 2 := rfl; omega
      match ks, hlen with
      | [x, y], _ => exact ⟨x, y, rfl⟩
    have e := fmt_3 (x := x) (y := y) []
    rw [List.append_nil] at e
    rw [e]
    exact ⟨by simp [prt, catP], rfl⟩
  · have hn : n = 0 := by have : mostT 4 = 0 := rfl; omega
    subst hn
    obtain ⟨x, y, rfl⟩ : ∃ x y, ks = [x, y] := by
      have hlen : ks.length = 2 := by have : opsT 4 = 2 := rfl; omega
      match ks, hlen with
      | [x, y], _ => exact ⟨x, y, rfl⟩
    have e := fmt_4 (x := x) (y := y) []
    rw [List.append_nil] at e
    rw [e]
    exact ⟨by simp [prt, catP], rfl⟩
  · have hn : n = 0 := by have : mostT 5 = 0 := rfl; omega
    subst hn
    obtain ⟨x, y, rfl⟩ : ∃ x y, ks = [x, y] := by
      have hlen : ks.length = 2 := by have : opsT 5 = 2 := rfl; omega
      match ks, hlen with
      | [x, y], _ => exact ⟨x, y, rfl⟩
    have e := fmt_5 (x := x) (y := y) []
    rw [List.append_nil] at e
    rw [e]
    exact ⟨by simp [prt, catP], rfl⟩
  · have hn : n = 0 := by have : mostT 6 = 0 := rfl; omega
    subst hn
    have hk0 : ks = [] := List.eq_nil_of_length_eq_zero (by have : opsT 6 = 0 := rfl; omega)
    subst hk0
    have e := fmt_6 []
    rw [List.append_nil] at e
    rw [e]
    exact ⟨by simp [prt, catP], rfl⟩
  · have hn : n = 0 := by have : mostT 7 = 0 := rfl; omega
    subst hn
    have hk0 : ks = [] := List.eq_nil_of_length_eq_zero (by have : opsT 7 = 0 := rfl; omega)
    subst hk0
    have e := fmt_7 []
    rw [List.append_nil] at e
    rw [e]
    exact ⟨by simp [prt, catP], rfl⟩
  · have hn : n = 0 := by have : mostT 8 = 0 := rfl; omega
    subst hn
    obtain ⟨x, rfl⟩ : ∃ x, ks = [x] := by
      have hlen : ks.length = 1 := by have : opsT 8 = 1 := rfl; omega
      match ks, hlen with
      | [x], _ => exact ⟨x, rfl⟩
    have e := fmt_8 (x := x) []
    rw [List.append_nil] at e
    rw [e]
    exact ⟨by simp [prt, catP], rfl⟩
  · have hn : n = 0 := by have : mostT 9 = 0 := rfl; omega
    subst hn
    obtain ⟨x, y, z, u, rfl⟩ : ∃ x y z u, ks = [x, y, z, u] := by
      have hlen : ks.length = 4 := by have : opsT 9 = 4 := rfl; omega
      match ks, hlen with
      | [x, y, z, u], _ => exact ⟨x, y, z, u, rfl⟩
    have e := fmt_9 (x := x) (y := y) (z := z) (u := u) []
    rw [List.append_nil] at e
    rw [e]
    exact ⟨by simp [prt, catP], rfl⟩
  · have hn : n = 0 := by have : mostT 10 = 0 := rfl; omega
    subst hn
    obtain ⟨x, y, z, rfl⟩ : ∃ x y z, ks = [x, y, z] := by
      have hlen : ks.length = 3 := by have : opsT 10 = 3 := rfl; omega
      match ks, hlen with
      | [x, y, z], _ => exact ⟨x, y, z, rfl⟩
    have e := fmt_10 (x := x) (y := y) (z := z) []
    rw [List.append_nil] at e
    rw [e]
    exact ⟨by simp [prt, catP], rfl⟩
  · have hn : n = 0 := by have : mostT 11 = 0 := rfl; omega
    subst hn
    obtain ⟨x, rfl⟩ : ∃ x, ks = [x] := by
      have hlen : ks.length = 1 := by have : opsT 11 = 1 := rfl; omega
      match ks, hlen with
      | [x], _ => exact ⟨x, rfl⟩
    have e := fmt_11 (x := x) []
    rw [List.append_nil] at e
    rw [e]
    exact ⟨by simp [prt, catP], rfl⟩
  · have hn : n = 0 := by have : mostT 12 = 0 := rfl; omega
    subst hn
    obtain ⟨x, y, z, rfl⟩ : ∃ x y z, ks = [x, y, z] := by
      have hlen : ks.length = 3 := by have : opsT 12 = 3 := rfl; omega
      match ks, hlen with
      | [x, y, z], _ => exact ⟨x, y, z, rfl⟩
    have e := fmt_12 (x := x) (y := y) (z := z) []
    rw [List.append_nil] at e
    rw [e]
    exact ⟨by simp [prt, catP], rfl⟩
  · have hn : n = 0 := by have : mostT 13 = 0 := rfl; omega
    subst hn
    obtain ⟨x, y, rfl⟩ : ∃ x y, ks = [x, y] := by
      have hlen : ks.length = 2 := by have : opsT 13 = 2 := rfl; omega
      match ks, hlen with
      | [x, y], _ => exact ⟨x, y, rfl⟩
    have e := fmt_13 (x := x) (y := y) []
    rw [List.append_nil] at e
    rw [e]
    exact ⟨by simp [prt, catP], rfl⟩
  · have hn : n = 0 := by have : mostT 14 = 0 := rfl; omega
    subst hn
    obtain ⟨x, y, z, rfl⟩ : ∃ x y z, ks = [x, y, z] := by
      have hlen : ks.length = 3 := by have : opsT 14 = 3 := rfl; omega
      match ks, hlen with
      | [x, y, z], _ => exact ⟨x, y, z, rfl⟩
    have e := fmt_14 (x := x) (y := y) (z := z) []
    rw [List.append_nil] at e
    rw [e]
    exact ⟨by simp [prt, catP], rfl⟩
  · have hn : n = 0 := by have : mostT 15 = 0 := rfl; omega
    subst hn
    obtain ⟨x, rfl⟩ : ∃ x, ks = [x] := by
      have hlen : ks.length = 1 := by have : opsT 15 = 1 := rfl; omega
      match ks, hlen with
      | [x], _ => exact ⟨x, rfl⟩
    have e := fmt_15 (x := x) []
    rw [List.append_nil] at e
    rw [e]
    exact ⟨by simp [prt, catP], rfl⟩
  · have hn : n = 0 := by have : mostT 16 = 0 := rfl; omega
    subst hn
    obtain ⟨x, rfl⟩ : ∃ x, ks = [x] := by
      have hlen : ks.length = 1 := by have : opsT 16 = 1 := rfl; omega
      match ks, hlen with
      | [x], _ => exact ⟨x, rfl⟩
    have e := fmt_16 (x := x) []
    rw [List.append_nil] at e
    rw [e]
    exact ⟨by simp [prt, catP], rfl⟩
end Go.Proofs.YtolkohncmidpeaaGreatDoor
namespace Go.Proofs.YtolkohncmidpeaaGreatDoor
open Go.RowKit
set_option linter.unusedVariables false
attribute [local go_sem ↓] Go.wp_at_zero Go.wp_at_succ
/-- bytealg's bound is some int. -/
def EnvM (w : World) : Prop := ∃ m, w.cell? ⟨0, 0, none⟩ = some (.int .i64 m)
theorem EnvM.ext {w w' : World} (h : EnvM w) (he : Ext w w') : EnvM w' := by
  obtain ⟨m, h1⟩ := h
  exact ⟨m, he.cell h1⟩
theorem envM_of {w : World} (h : w.ShapedOpen Tryz.prog) : EnvM w := Tryz.laysM146.s1_3 w h
theorem map_ofL {xs : List ByteArray} {ys : List (List UInt8)} (h : xs.map (·.data.toList) = ys) : xs.map Value.string = strs ys := by
  subst h
  unfold strs
  rw [List.map_map]
  apply List.map_congr_left
  intro a _
  show Value.string a = Value.string (ofL a.data.toList)
  rw [ofL_of]
theorem strs_get {xs : List (List UInt8)} {j : Nat} (h : j < xs.length) : (strs xs).toArray[j]? = some (.string (ofL xs[j])) := by
  unfold strs
  simp [h]
theorem split_any (l : List UInt8) (c : UInt8) (w : World) (hw : EnvM w) (hl : l.length ≤ 1000000000) : Calls Tryz.prog 39 #[.string (ofL l), .string (ofL [c])] w fun e w' => e = .returned (.slice (some ⟨w.heap.size, 0, none⟩) (cutL c l).length (cutL c l).length) ∧ w' = w.alloc (.cells (strs (cutL c l)).toArray 9) := by
  obtain ⟨m, hm⟩ := hw
  have h1 : 1 ≤ (ofL [c]).size := by rw [ofL_size]; exact Nat.le_refl 1
  have h := Tryz.strings_Split (ofL l) (ofL [c]) m w (by rw [ofL_size]; omega) hm h1
  have hd := Lib.splitB_data (ofL [c]) 0 (Lib.countB (ofL l) (ofL [c])) (ofL l)
  have hc : Lib.countB (ofL l) (ofL [c]) = Lib.count l [c] := by
    show Lib.count (ofL l).data.toList (ofL [c]).data.toList = _
    rw [ofL_list, ofL_list]
  rw [hc, ofL_list, ofL_list, split_cut c l.length l (Nat.le_refl _)] at hd
  have hlen := Lib.splitB_all (ofL [c]) h1 0 (Lib.countB (ofL l) (ofL [c])) (ofL l) rfl
  rw [hc] at h hlen
  have hn : (cutL c l).length = Lib.count l [c] + 1 := by rw [← hd, List.length_map, hlen]
  rw [map_ofL hd] at h
  rw [hn]
  exact h
/-- The pieces lie in a new block. -/
theorem split_at (l : List UInt8) (c : UInt8) (xs : List (List UInt8)) (hxs : cutL c l = xs) (w : World) (hw : EnvM w) (hl : l.length ≤ 1000000000) : Calls Tryz.prog 39 #[.string (ofL l), .string (ofL [c])] w fun e w' => ∃ b, e = .returned (.slice (some ⟨b, 0, none⟩) xs.length xs.length) ∧ (∀ j (hj : j < xs.length), w'.cell? ⟨b, j, none⟩ = some (.string (ofL xs[j]))) ∧ w.heap.size ≤ b ∧ b < w'.heap.size ∧ Ext w w' := by
  subst hxs
  refine (split_any l c w hw hl).mono ?_
  rintro e w' ⟨rfl, rfl⟩
  refine ⟨_, rfl, fun j hj => ?_, Nat.le_refl _, by simp, (Ext.refl w).alloc _⟩
  rw [cell_of_blk (heap_alloc_new w _)]
  exact strs_get hj
theorem decDigits_decL {n : Nat} (h : n < 100) : Lib.decDigits n = decL n := by
  by_cases h9 : n ≤ 9
  · rw [Lib.decDigits, dif_pos (by omega)]
    unfold decL
    rw [if_pos (by omega)]
    simp
  · rw [Lib.decDigits, dif_neg (by omega), Lib.decDigits, dif_pos (by omega)]
    unfold decL
    rw [if_neg (by omega)]
    simp
theorem itoa_any (n : Nat) (hn : n < 100) (w : World) : Calls Tryz.prog 78 #[.int .i64 n] w fun e w' => e = .returned (.string (ofL (decL n))) ∧ w' = w := by
  have h := Tryz.strconv_Itoa_small n hn w
  rw [decDigits_decL hn] at h
  exact h
/-- The shapes of terms. -/
def shpL : List (List UInt8) := [[35], [42], [40, 46, 62, 46, 41], [91, 46, 93, 46], [40, 46, 32, 46, 41], [78], [48], [43, 46], [60, 46, 44, 46, 44, 46, 44, 46, 62], [123, 46, 44, 46, 44, 46, 125], [33, 46], [64, 60, 46, 44, 46, 44, 46, 62], [40, 46, 42, 46, 41], [124, 46, 44, 46, 44, 46, 124], [94, 46], [95, 46]]
theorem shpL_facts : ∀ j, j < 16 → cutL 46 (shpL.getD j []) = prt ((j : Int) + 1) ∧ (shpL.getD j []).length ≤ 9 := by decide
set_option maxRecDepth 100000 in
theorem shapes_at (w : World) : Calls Tryz.prog 77 #[] w fun e w' => ∃ b, e = .returned (.slice (some ⟨b, 0, none⟩) 16 16) ∧ (∀ j, j < 16 → w'.cell? ⟨b, j, none⟩ = some (.string (ofL (shpL.getD j [])))) ∧ Ext w w' := by
  have HO := Lib.hid (show ∀ j, j < 16 → (w.alloc (.cells (strs shpL).toArray 9)).cell? ⟨w.heap.size, j, none⟩ = some (.string (ofL (shpL.getD j []))) from fun j hj => by
    rw [cell_of_blk (heap_alloc_new w _)]
    have h2 : j < shpL.length := hj
    rw [strs_get h2, List.getD_eq_getElem?_getD, List.getElem?_eq_getElem h2]
    rfl)
  go_enter Tryz.func77, Tryz.ntmps77
  go_wp2_with fail
  go_ret
  exact ⟨_, rfl, HO.out, (Ext.refl w).alloc _⟩
end Go.Proofs.YtolkohncmidpeaaGreatDoor

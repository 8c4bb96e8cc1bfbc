/-
  Lemmas towards the law, 24: StrS.
-/
import Derived.Test.YtenpknapajckbaaDoorFAW
import Derived.Test.YtenpknapajckbaaDoorShelf
namespace Go.Proofs.YtenpknapajckbaaDoor
open Go.RowKit
set_option linter.unusedVariables false
attribute [local go_sem ↓] Go.wp_at_zero Go.wp_at_succ
/-- bytealg's bound is some int. -/
def EnvM (w : World) : Prop := ∃ m, w.cell? ⟨1, 0, none⟩ = some (.int .i64 m)
theorem EnvM.ext {w w' : World} (h : EnvM w) (he : Ext w w') : EnvM w' := by
  obtain ⟨m, h1⟩ := h
  exact ⟨m, he.cell h1⟩
theorem envM_of {w : World} (h : w.ShapedOpen Tryd.prog) : EnvM w := Tryd.laysM146.s1_3 w h
theorem map_ofL {xs : List ByteArray} {ys : List (List UInt8)} (h : xs.map (·.data.toList) = ys) : xs.map Value.string = strs ys := by
  subst h
  unfold strs
  rw [List.map_map]
  apply List.map_congr_left
  intro a _
  show Value.string a = Value.string (ofL a.data.toList)
  rw [ofL_of]
theorem strs_get {xs : List (List UInt8)} {j : Nat} (h : j < xs.length) : (strs xs).toArray[j]? = some (.string (ofL xs[j])) := by
  unfold strs
  simp [h]
theorem split_any (l : List UInt8) (c : UInt8) (w : World) (hw : EnvM w) (hl : l.length ≤ 1000000000) : Calls Tryd.prog 42 #[.string (ofL l), .string (ofL [c])] w fun e w' => e = .returned (.slice (some ⟨w.heap.size, 0, none⟩) (cutL c l).length (cutL c l).length) ∧ w' = w.alloc (.cells (strs (cutL c l)).toArray 9) := by
  obtain ⟨m, hm⟩ := hw
  have h1 : 1 ≤ (ofL [c]).size := by rw [ofL_size]; exact Nat.le_refl 1
  have h := Tryd.strings_Split (ofL l) (ofL [c]) m w (by rw [ofL_size]; omega) hm h1
  have hd := Lib.splitB_data (ofL [c]) 0 (Lib.countB (ofL l) (ofL [c])) (ofL l)
  have hc : Lib.countB (ofL l) (ofL [c]) = Lib.count l [c] := by
    show Lib.count (ofL l).data.toList (ofL [c]).data.toList = _
    rw [ofL_list, ofL_list]
  rw [hc, ofL_list, ofL_list, split_cut c l.length l (Nat.le_refl _)] at hd
  have hlen := Lib.splitB_all (ofL [c]) h1 0 (Lib.countB (ofL l) (ofL [c])) (ofL l) rfl
  rw [hc] at h hlen
  have hn : (cutL c l).length = Lib.count l [c] + 1 := by rw [← hd, List.length_map, hlen]
  rw [map_ofL hd] at h
  rw [hn]
  exact h
/-- The pieces lie in a new block. -/
theorem split_at (l : List UInt8) (c : UInt8) (xs : List (List UInt8)) (hxs : cutL c l = xs) (w : World) (hw : EnvM w) (hl : l.length ≤ 1000000000) : Calls Tryd.prog 42 #[.string (ofL l), .string (ofL [c])] w fun e w' => ∃ b, e = .returned (.slice (some ⟨b, 0, none⟩) xs.length xs.length) ∧ (∀ j (hj : j < xs.length), w'.cell? ⟨b, j, none⟩ = some (.string (ofL xs[j]))) ∧ w.heap.size ≤ b ∧ b < w'.heap.size ∧ Ext w w' := by
  subst hxs
  refine (split_any l c w hw hl).mono ?_
  rintro e w' ⟨rfl, rfl⟩
  refine ⟨_, rfl, fun j hj => ?_, Nat.le_refl _, by simp, (Ext.refl w).alloc _⟩
  rw [cell_of_blk (heap_alloc_new w _)]
  exact strs_get hj
theorem decDigits_decL {n : Nat} (h : n < 100) : Lib.decDigits n = decL n := by
  by_cases h9 : n ≤ 9
  · rw [Lib.decDigits, dif_pos (by omega)]
    unfold decL
    rw [if_pos (by omega)]
    simp
  · rw [Lib.decDigits, dif_neg (by omega), Lib.decDigits, dif_pos (by omega)]
    unfold decL
    rw [if_neg (by omega)]
    simp
theorem itoa_any (n : Nat) (hn : n < 100) (w : World) : Calls Tryd.prog 41 #[.int .i64 n] w fun e w' => e = .returned (.string (ofL (decL n))) ∧ w' = w := by
  have h := Tryd.strconv_Itoa_small n hn w
  rw [decDigits_decL hn] at h
  exact h
/-- The shapes of terms. -/
def shpL : List (List UInt8) := [[35], [42], [40, 46, 62, 46, 41], [91, 46, 93, 46], [40, 46, 32, 46, 41], [78], [48], [43, 46], [60, 46, 44, 46, 44, 46, 44, 46, 62], [123, 46, 44, 46, 44, 46, 125], [33, 46], [64, 60, 46, 44, 46, 44, 46, 62], [40, 46, 42, 46, 41], [124, 46, 44, 46, 44, 46, 124], [94, 46], [95, 46]]
theorem shpL_facts : ∀ j, j < 16 → cutL 46 (shpL.getD j []) = prt ((j : Int) + 1) ∧ (shpL.getD j []).length ≤ 9 := by decide
set_option maxRecDepth 100000 in
theorem shapes_at (w : World) : Calls Tryd.prog 49 #[] w fun e w' => ∃ b, e = .returned (.slice (some ⟨b, 0, none⟩) 16 16) ∧ (∀ j, j < 16 → w'.cell? ⟨b, j, none⟩ = some (.string (ofL (shpL.getD j [])))) ∧ Ext w w' := by
  have HO := Lib.hid (show ∀ j, j < 16 → (w.alloc (.cells (strs shpL).toArray 9)).cell? ⟨w.heap.size, j, none⟩ = some (.string (ofL (shpL.getD j []))) from fun j hj => by
    rw [cell_of_blk (heap_alloc_new w _)]
    have h2 : j < shpL.length := hj
    rw [strs_get h2, List.getD_eq_getElem?_getD, List.getElem?_eq_getElem h2]
    rfl)
  go_enter Tryd.func49, Tryd.ntmps49
  go_wp2_with fail
  go_ret
  exact ⟨_, rfl, HO.out, (Ext.refl w).alloc _⟩
end Go.Proofs.YtenpknapajckbaaDoor

/-
  Lemmas towards the law, 38: Read, Pairs.
-/
import Derived.Test.YtappakllopkfiaaCAL
import Derived.Test.YtappakllopkfiaaCAS
import Derived.Test.YtappakllopkfiaaCAT
import Derived.Test.YtappakllopkfiaaCBA
import Derived.Test.YtappakllopkfiaaCBC
import Derived.Test.YtappakllopkfiaaCBG
namespace Go.Proofs.Ytappakllopkfiaa
open Go.RowKit
set_option linter.unusedVariables false
/-- The terms of some texts. -/
def readT (xs : List (List UInt8)) : List Tr := xs.filterMap prsV
theorem readT_step {xs : List (List UInt8)} {j : Nat} (h : j < xs.length) : readT (xs.drop j) = (match prsV xs[j] with | none => [] | some t => [t]) ++ readT (xs.drop (j + 1)) := by
  unfold readT
  rw [List.drop_eq_getElem_cons h, List.filterMap_cons]
  cases prsV xs[j] <;> rfl
theorem readT_valid {xs : List (List UInt8)} {t : Tr} (h : t ∈ readT xs) : valid sigT t = true := by
  unfold readT at h
  obtain ⟨l, -, h2⟩ := List.mem_filterMap.1 h
  exact (prsV_valid h2).1
theorem infoTermR : (Try.prog.info? 44).map (fun i => (i.zero, i.size, i.bytes)) = some (some (.agg #[.int .i64 0, .int .i64 0, .slice none 0 0]), 3, 40) := by kernel_rfl
set_option maxRecDepth 100000 in
set_option maxHeartbeats 1000000 in
theorem l5Read_any (xs : List (List UInt8)) (b o cap : Nat) (w : World) (hb : b < w.heap.size) (hl : xs.length ≤ cap) (hc : cap ≤ maxLen) (hn : xs.length ≤ 1000) (hsz : ∀ x ∈ xs, x.length ≤ 1000)
    (hN : ∀ j (hj : j < xs.length), w.cell? ⟨b, o + j, none⟩ = some (.string (ofL xs[j]))) :
    Calls Try.prog 157 #[.slice (some ⟨b, o, none⟩) xs.length cap] w fun e w' => ∃ A c, e = .returned (.slice A (readT xs).length c) ∧ (readT xs).length ≤ c ∧ c ≤ maxLen ∧ FromK w.heap.size w' A (readT xs) ∧ Ext w w' := by
  obtain ⟨i0, hi, hz0, hz1, hz2⟩ := info_parts infoTermR
  have hcc := hc
  unfold maxLen at hcc
  have HN := Lib.hid hN
  have HSZ := Lib.hid hsz
  obtain ⟨N, hNx⟩ : ∃ N, xs.length = N := ⟨_, rfl⟩
  rw [hNx] at hl hn ⊢
  have HNX := Lib.hid hNx
  obtain ⟨R, hR⟩ : ∃ R, readT xs = R := ⟨_, rfl⟩
  rw [hR]
  have HR := Lib.hid hR
  have hx0 := (Ext.refl w).alloc (.cells #[] 44)
  have hb0 := heap_alloc_new w (.cells #[] 44)
  clear hN hsz hNx hR
  go_enter Try.func157, Try.ntmps157
  go_wp2_with fail
  generalize hw0 : w.alloc _ = w0 at hx0 hb0 ⊢
  clear hw0
  go_loopw [3, 4] (fun vo i wr => ∃ (v : Value) (j : Nat) (ks : List Tr), v = vo ∧ j ≤ N ∧ i = .int .i64 j ∧ GrowS (fun b => b < w.heap.size) w wr 44 v ks ∧ ks.length ≤ j ∧ ks ++ readT (xs.drop j) = R ∧ Ext w wr) (fun _ i _ => N - (intOf i).toNat)
  case atStart => exact ⟨_, 0, [], rfl, Nat.zero_le _, rfl, GrowS.lit hb0 (Nat.le_refl _), Nat.le_refl _, by simpa using HR.out, hx0⟩
  case round =>
    obtain ⟨v, j, ks, rfl, hj, rfl, hG, hkj, hjl, hx⟩ := hrel
    have HJ := Lib.hid hjl
    have hsw := hx.size
    clear hjl
    by_cases hlt : j < N
    · have hjz : (j : Int) < (N : Int) := by omega
      have hjx : j < xs.length := by rw [HNX.out]; exact hlt
      have hst := readT_step hjx
      have hcx := hx.cell (HN.out j hjx)
      obtain ⟨x, hxj⟩ : ∃ x, x = xs[j] := ⟨_, rfl⟩
      have hxl : (ofL x).size ≤ 1000000000 := by have := HSZ.out _ (List.getElem_mem hjx); rw [ofL_size, hxj]; omega
      rw [← hxj] at hst hcx
      have HP := Lib.hid (fun W => parseTerm_any (ofL x) W hxl)
      rw [ofL_list] at HP
      obtain ⟨L, hL⟩ : ∃ L, prsV x = L := ⟨_, rfl⟩
      rw [hL] at HP hst
      have HST := Lib.hid hst
      clear hst hL hxj hjx
      go_wp2_with fail
      refine (HP.out _).mono ?_
      rintro e w3 ⟨u, rfl, hF, e3⟩
      obtain ⟨k1, n1, A1, l1, c1, rfl⟩ := hF.three
      have e34 := (Ext.refl w3).alloc (.cells #[.int .i64 k1, .int .i64 n1, .slice A1 l1 c1] 44)
      have hb4 := heap_alloc_new w3 (.cells #[.int .i64 k1, .int .i64 n1, .slice A1 l1 c1] 44)
      have hx4 := (hx.trans e3).trans e34
      have hs3 := e3.size
      obtain ⟨s0, s1, s2, -⟩ := own3 hb4
      cases L with
      | none =>
        have hjl2 : ks ++ readT (xs.drop (j + 1)) = R := by
          rw [← HJ.out, HST.out]
          simp
        have HJ2 := Lib.hid hjl2
        have hG4 := (hG.ext e3).ext e34
        clear hjl2 s0 s1 s2
        go_wp2_with fail
        go_roundw
        case rel => exact ⟨_, j + 1, ks, rfl, by omega, by go_num, hG4, by omega, HJ2.out, hx4⟩
        case measure => simp [intOf]; omega
      | some t =>
        have hjl2 : (ks ++ [t]) ++ readT (xs.drop (j + 1)) = R := by
          rw [← HJ.out, HST.out]
          simp
        have HJ2 := Lib.hid hjl2
        have hlt2 : ∀ r, v.ownBlock = some r → r < wr.heap.size := by
          obtain ⟨ys, q1, -⟩ := hG
          exact fun r hr => (q1.lt r hr).2
        have hT : InT ((w3.alloc (.cells #[.int .i64 k1, .int .i64 n1, .slice A1 l1 c1] 44)).alloc (.cells #[.int .i64 k1, .int .i64 n1, .slice A1 l1 c1] 44)) (fun b => b < ((w3.alloc (.cells #[.int .i64 k1, .int .i64 n1, .slice A1 l1 c1] 44)).alloc (.cells #[.int .i64 k1, .int .i64 n1, .slice A1 l1 c1] 44)).heap.size ∧ v.ownBlock ≠ some b ∧ ¬ b < w.heap.size) t (.agg #[.int .i64 k1, .int .i64 n1, .slice A1 l1 c1]) :=
          InT.mono (fun b hb => ⟨by have := hb.2; simp; omega, fun he => by have := hlt2 b he; have := hb.1; omega, by have := hb.1; omega⟩) (fun b hb => (e34.alloc (.cells #[.int .i64 k1, .int .i64 n1, .slice A1 l1 c1] 44)).heap b hb.2) hF
        have hG5 := (hG.ext e3).ext (e34.alloc (.cells #[.int .i64 k1, .int .i64 n1, .slice A1 l1 c1] 44))
        have hb5 : ((w3.alloc (.cells #[.int .i64 k1, .int .i64 n1, .slice A1 l1 c1] 44)).alloc (.cells #[.int .i64 k1, .int .i64 n1, .slice A1 l1 c1] 44)).heap[w3.heap.size + 1]? = some (.cells #[.int .i64 k1, .int .i64 n1, .slice A1 l1 c1] 44 (0, 0)) := by simpa using heap_alloc_new (w3.alloc (.cells #[.int .i64 k1, .int .i64 n1, .slice A1 l1 c1] 44)) (.cells #[.int .i64 k1, .int .i64 n1, .slice A1 l1 c1] 44)
        have hx5 := hx4.alloc (.cells #[.int .i64 k1, .int .i64 n1, .slice A1 l1 c1] 44)
        have HLT := Lib.hid hlt2
        clear hjl2 hlt2 hF hb4
        go_wp2_with (at_builtin; refine wpList_append_treeS _ rfl (.tmp 23) (.tmp 25) 42 rfl 44 i0 _ Try.underlying42 hi hz0 hz1 hz2 rfl rfl hG5 (by simp; omega) hT rfl hb5 (by omega) ?_ (fun b hb => hb))
        intro v' w6 hG6 hB6
        have hx6 : Ext w w6 := Below.trans hx5 hB6
        go_wp2_with fail
        go_roundw
        case rel => exact ⟨_, j + 1, ks ++ [t], rfl, by omega, by go_num, hG6, by simp; omega, HJ2.out, hx6⟩
        case measure => simp [intOf]; omega
    · have hjl2 : ks = R := by
        rw [← HJ.out, List.drop_of_length_le (by rw [HNX.out]; omega)]
        simp [readT]
      obtain ⟨A, c, rfl, q1, q2, hK, -⟩ := hG.lies (fun b hb => hb)
      have hK2 : FromK w.heap.size wr A ks := InK.mono (fun b hb => ⟨by have := hb.2; omega, hb.1⟩) (fun _ _ => rfl) hK
      have HKR := Lib.hid hjl2
      clear hjl2
      go_wp2_with fail
      go_ret
      exact ⟨A, c, by rw [← HKR.out]; rfl, by rw [← HKR.out]; exact q1, q2, by rw [← HKR.out]; exact hK2, hx⟩
end Go.Proofs.Ytappakllopkfiaa
namespace Go.Proofs.Ytappakllopkfiaa
open Go.RowKit
set_option linter.unusedVariables false
attribute [local go_sem ↓] Go.wp_at_zero Go.wp_at_succ
def prC0 : List (List UInt8) := []
def prX0 : List (List UInt8) := [[91, 42, 48, 93, 91, 35, 48, 93, 35, 48], [91, 78, 93, 33, 35, 48], [91, 78, 93, 91, 78, 93, 60, 91, 78, 93, 78, 44, 35, 49, 44, 91, 78, 93, 91, 78, 93, 43, 35, 48, 44, 35, 48, 62], [40, 78, 62, 42, 48, 41], [40, 91, 42, 48, 93, 91, 35, 48, 93, 35, 48, 32, 78, 41], [91, 40, 78, 42, 78, 41, 93, 124, 40, 78, 42, 78, 41, 44, 95, 35, 48, 44, 94, 35, 48, 124], [91, 78, 93, 124, 40, 78, 42, 123, 78, 44, 35, 48, 44, 35, 49, 125, 41, 44, 35, 48, 44, 33, 35, 48, 124], [91, 78, 93, 91, 78, 93, 91, 123, 78, 44, 35, 49, 44, 35, 48, 125, 93, 64, 60, 91, 78, 93, 123, 78, 44, 35, 48, 44, 35, 51, 125, 44, 35, 48, 44, 33, 35, 50, 62], [60, 91, 78, 93, 42, 48, 44, 78, 44, 91, 78, 93, 91, 42, 48, 93, 40, 78, 62, 35, 49, 41, 44, 43, 43, 48, 62], [40, 42, 48, 62, 40, 35, 48, 62, 35, 49, 41, 41], [91, 42, 48, 93, 91, 40, 35, 48, 62, 35, 49, 41, 93, 35, 48], [42, 50]]
def prC1 : List (List UInt8) := [[42, 48], [35, 48], [40, 35, 49, 62, 35, 50, 41]]
def prX1 : List (List UInt8) := [[40, 35, 48, 32, 35, 49, 41], [33, 35, 49], [123, 35, 50, 44, 35, 49, 44, 40, 35, 48, 32, 35, 49, 41, 125], [91, 35, 50, 93, 35, 49], [124, 40, 35, 50, 42, 35, 51, 41, 44, 35, 49, 44, 40, 35, 48, 32, 35, 49, 41, 124], [91, 123, 35, 50, 44, 35, 49, 44, 40, 35, 48, 32, 35, 49, 41, 125, 93, 64, 60, 91, 35, 51, 93, 35, 52, 44, 35, 48, 44, 35, 50, 62]]
def prC2 : List (List UInt8) := [[78], [123, 78, 44, 35, 48, 44, 43, 48, 125]]
def prX2 : List (List UInt8) := [[35, 48], [64, 60, 91, 78, 93, 123, 78, 44, 43, 35, 50, 44, 43, 35, 48, 125, 44, 35, 48, 44, 33, 43, 35, 49, 62], [43, 35, 49], [64, 60, 91, 78, 93, 78, 44, 35, 48, 44, 35, 49, 62], [60, 91, 78, 93, 78, 44, 48, 44, 91, 78, 93, 91, 78, 93, 35, 49, 44, 35, 49, 62]]
def prC3 : List (List UInt8) := [[40, 78, 62, 42, 48, 41], [40, 78, 62, 40, 35, 49, 32, 35, 48, 41, 41]]
def prX3 : List (List UInt8) := [[40, 35, 48, 32, 48, 41], [91, 78, 93, 40, 35, 49, 32, 35, 48, 41], [40, 35, 49, 32, 43, 43, 48, 41], [91, 78, 93, 91, 123, 78, 44, 35, 48, 44, 48, 125, 93, 64, 60, 35, 51, 44, 35, 48, 44, 40, 35, 50, 32, 35, 49, 41, 62]]
/-- A context's texts, and the texts of terms that have types in it. -/
def pairsC : List (List (List UInt8) × List (List UInt8)) := [(prC0, prX0), (prC1, prX1), (prC2, prX2), (prC3, prX3)]
theorem readT_pos {x : List UInt8} {xs : List (List UInt8)} (h : (prsV x).isSome = true) : 0 < (readT (x :: xs)).length := by
  unfold readT
  rw [List.filterMap_cons]
  cases hp : prsV x with
  | none => rw [hp] at h; cases h
  | some t => simp
theorem pairsC_facts : ∀ p ∈ pairsC, p.1.length ≤ 3 ∧ p.2.length ≤ 12 ∧ (∀ x ∈ p.1, x.length ≤ 1000) ∧ (∀ x ∈ p.2, x.length ≤ 1000) := by decide
theorem pairsC_pos : ∀ p ∈ pairsC, 0 < (readT p.2).length := by
  intro p hp
  simp only [pairsC, List.mem_cons, List.not_mem_nil, or_false] at hp
  rcases hp with rfl | rfl | rfl | rfl
  · exact readT_pos (x := [91, 42, 48, 93, 91, 35, 48, 93, 35, 48]) (by decide +kernel)
  · exact readT_pos (x := [40, 35, 48, 32, 35, 49, 41]) (by decide +kernel)
  · exact readT_pos (x := [35, 48]) (by decide +kernel)
  · exact readT_pos (x := [40, 35, 48, 32, 48, 41]) (by decide +kernel)
theorem readT_len (xs : List (List UInt8)) : (readT xs).length ≤ xs.length := List.length_filterMap_le _ _
/-- The cells of a block bear texts. -/
def StrAt (w : World) (b : Nat) (xs : List (List UInt8)) : Prop := b < w.heap.size ∧ ∀ j (hj : j < xs.length), w.cell? ⟨b, 0 + j, none⟩ = some (.string (ofL xs[j]))
theorem StrAt.ext {w w' : World} {b : Nat} {xs : List (List UInt8)} (h : StrAt w b xs) (he : Ext w w') : StrAt w' b xs := ⟨Nat.lt_of_lt_of_le h.1 he.size, fun j hj => he.cell (h.2 j hj)⟩
theorem StrAt.of {w : World} {b : Nat} {xs : List (List UInt8)} {e : TypeId} (h : w.heap[b]? = some (.cells (xs.map fun x => Value.string (ofL x)).toArray e (0, 0))) : StrAt w b xs :=
  ⟨lt_of_blk h, fun j hj => by rw [Nat.zero_add, cell_of_blk h]; simp [hj]⟩
set_option maxRecDepth 100000 in
set_option maxHeartbeats 1000000 in
theorem l5Pairs_any (k : Int) (w : World) : Calls Try.prog 156 #[.int .i64 k] w fun e w' => ∃ b1 b2 p, e = .returned (.tuple #[.slice (some ⟨b1, 0, none⟩) p.1.length p.1.length, .slice (some ⟨b2, 0, none⟩) p.2.length p.2.length]) ∧ p ∈ pairsC ∧ w.heap.size ≤ b1 ∧ w.heap.size ≤ b2 ∧ StrAt w' b1 p.1 ∧ StrAt w' b2 p.2 ∧ Ext w w' := by
  by_cases h0 : k = 0
  · subst h0
    obtain ⟨hb1, hb2, -⟩ := blk2 (Ext.refl ((w.alloc (.cells (prC0.map fun x => Value.string (ofL x)).toArray 9)).alloc (.cells (prX0.map fun x => Value.string (ofL x)).toArray 9)))
    have hx : Ext w ((w.alloc (.cells (prC0.map fun x => Value.string (ofL x)).toArray 9)).alloc (.cells (prX0.map fun x => Value.string (ofL x)).toArray 9)) := ((Ext.refl w).alloc _).alloc _
    have HO := Lib.hid (show ∃ b1 b2 p, (Value.tuple #[.slice (some ⟨w.heap.size, 0, none⟩) prC0.length prC0.length, .slice (some ⟨w.heap.size + 1, 0, none⟩) prX0.length prX0.length]) = (Value.tuple #[.slice (some ⟨b1, 0, none⟩) (Prod.fst p).length p.1.length, .slice (some ⟨b2, 0, none⟩) p.2.length p.2.length]) ∧ p ∈ pairsC ∧ w.heap.size ≤ b1 ∧ w.heap.size ≤ b2 ∧ StrAt _ b1 p.1 ∧ StrAt _ b2 p.2 ∧ Ext w _ from ⟨w.heap.size, w.heap.size + 1, (prC0, prX0), rfl, by simp [pairsC], Nat.le_refl _, Nat.le_succ _, StrAt.of hb1, StrAt.of hb2, hx⟩)
    clear hb1 hb2 hx
    go_enter Try.func156, Try.ntmps156
    go_wp2_with fail
    go_ret2
    obtain ⟨b1, b2, p, h1, h2⟩ := HO.out
    exact ⟨b1, b2, p, congrArg Ending.returned h1, h2⟩
  · have e0 : (k == 0) = false := beq_eq_false_iff_ne.2 h0
    by_cases h1 : k = 1
    · subst h1
      obtain ⟨hb1, hb2, -⟩ := blk2 (Ext.refl ((w.alloc (.cells (prC1.map fun x => Value.string (ofL x)).toArray 9)).alloc (.cells (prX1.map fun x => Value.string (ofL x)).toArray 9)))
      have hx : Ext w ((w.alloc (.cells (prC1.map fun x => Value.string (ofL x)).toArray 9)).alloc (.cells (prX1.map fun x => Value.string (ofL x)).toArray 9)) := ((Ext.refl w).alloc _).alloc _
      have HO := Lib.hid (show ∃ b1 b2 p, (Value.tuple #[.slice (some ⟨w.heap.size, 0, none⟩) prC1.length prC1.length, .slice (some ⟨w.heap.size + 1, 0, none⟩) prX1.length prX1.length]) = (Value.tuple #[.slice (some ⟨b1, 0, none⟩) (Prod.fst p).length p.1.length, .slice (some ⟨b2, 0, none⟩) p.2.length p.2.length]) ∧ p ∈ pairsC ∧ w.heap.size ≤ b1 ∧ w.heap.size ≤ b2 ∧ StrAt _ b1 p.1 ∧ StrAt _ b2 p.2 ∧ Ext w _ from ⟨w.heap.size, w.heap.size + 1, (prC1, prX1), rfl, by simp [pairsC], Nat.le_refl _, Nat.le_succ _, StrAt.of hb1, StrAt.of hb2, hx⟩)
      clear hb1 hb2 hx
      go_enter Try.func156, Try.ntmps156
      go_wp2_with fail
      go_ret2
      obtain ⟨b1, b2, p, h1, h2⟩ := HO.out
      exact ⟨b1, b2, p, congrArg Ending.returned h1, h2⟩
    · have e1 : (k == 1) = false := beq_eq_false_iff_ne.2 h1
      by_cases h2 : k = 2
      · subst h2
        obtain ⟨hb1, hb2, -⟩ := blk2 (Ext.refl ((w.alloc (.cells (prC2.map fun x => Value.string (ofL x)).toArray 9)).alloc (.cells (prX2.map fun x => Value.string (ofL x)).toArray 9)))
        have hx : Ext w ((w.alloc (.cells (prC2.map fun x => Value.string (ofL x)).toArray 9)).alloc (.cells (prX2.map fun x => Value.string (ofL x)).toArray 9)) := ((Ext.refl w).alloc _).alloc _
        have HO := Lib.hid (show ∃ b1 b2 p, (Value.tuple #[.slice (some ⟨w.heap.size, 0, none⟩) prC2.length prC2.length, .slice (some ⟨w.heap.size + 1, 0, none⟩) prX2.length prX2.length]) = (Value.tuple #[.slice (some ⟨b1, 0, none⟩) (Prod.fst p).length p.1.length, .slice (some ⟨b2, 0, none⟩) p.2.length p.2.length]) ∧ p ∈ pairsC ∧ w.heap.size ≤ b1 ∧ w.heap.size ≤ b2 ∧ StrAt _ b1 p.1 ∧ StrAt _ b2 p.2 ∧ Ext w _ from ⟨w.heap.size, w.heap.size + 1, (prC2, prX2), rfl, by simp [pairsC], Nat.le_refl _, Nat.le_succ _, StrAt.of hb1, StrAt.of hb2, hx⟩)
        clear hb1 hb2 hx
        go_enter Try.func156, Try.ntmps156
        go_wp2_with fail
        go_ret2
        obtain ⟨b1, b2, p, h1, h2⟩ := HO.out
        exact ⟨b1, b2, p, congrArg Ending.returned h1, h2⟩
      · have e2 : (k == 2) = false := beq_eq_false_iff_ne.2 h2
        obtain ⟨hb1, hb2, -⟩ := blk2 (Ext.refl ((w.alloc (.cells (prC3.map fun x => Value.string (ofL x)).toArray 9)).alloc (.cells (prX3.map fun x => Value.string (ofL x)).toArray 9)))
        have hx : Ext w ((w.alloc (.cells (prC3.map fun x => Value.string (ofL x)).toArray 9)).alloc (.cells (prX3.map fun x => Value.string (ofL x)).toArray 9)) := ((Ext.refl w).alloc _).alloc _
        have HO := Lib.hid (show ∃ b1 b2 p, (Value.tuple #[.slice (some ⟨w.heap.size, 0, none⟩) prC3.length prC3.length, .slice (some ⟨w.heap.size + 1, 0, none⟩) prX3.length prX3.length]) = (Value.tuple #[.slice (some ⟨b1, 0, none⟩) (Prod.fst p).length p.1.length, .slice (some ⟨b2, 0, none⟩) p.2.length p.2.length]) ∧ p ∈ pairsC ∧ w.heap.size ≤ b1 ∧ w.heap.size ≤ b2 ∧ StrAt _ b1 p.1 ∧ StrAt _ b2 p.2 ∧ Ext w _ from ⟨w.heap.size, w.heap.size + 1, (prC3, prX3), rfl, by simp [pairsC], Nat.le_refl _, Nat.le_succ _, StrAt.of hb1, StrAt.of hb2, hx⟩)
        clear hb1 hb2 hx
        go_enter Try.func156, Try.ntmps156
        go_wp2_with fail
        go_ret2
        obtain ⟨b1, b2, p, h1, h2⟩ := HO.out
        exact ⟨b1, b2, p, congrArg Ending.returned h1, h2⟩
end Go.Proofs.Ytappakllopkfiaa

/-
  Lemmas towards the law, 39: Read.
-/
import Derived.Test.YtolkohncmidpeaaGreatDoorGBA
import Derived.Test.YtolkohncmidpeaaGreatDoorGBG
import Derived.Test.YtolkohncmidpeaaGreatDoorGBL
namespace Go.Proofs.YtolkohncmidpeaaGreatDoor
open Go.RowKit
set_option linter.unusedVariables false
/-- The terms of some texts. -/
def readT (xs : List (List UInt8)) : List Tr := xs.filterMap prsV
theorem readT_step {xs : List (List UInt8)} {j : Nat} (h : j < xs.length) : readT (xs.drop j) = (match prsV xs[j] with | none => [] | some t => [t]) ++ readT (xs.drop (j + 1)) := by
  unfold readT
  rw [List.drop_eq_getElem_cons h, List.filterMap_cons]
  cases prsV xs[j] <;> rfl
theorem readT_valid {xs : List (List UInt8)} {t : Tr} (h : t ∈ readT xs) : valid sigT t = true := by
  unfold readT at h
  obtain ⟨l, -, h2⟩ := List.mem_filterMap.1 h
  exact (prsV_valid h2).1
set_option maxRecDepth 100000 in
set_option maxHeartbeats 1000000 in
theorem l5Read_any (xs : List (List UInt8)) (b o cap : Nat) (w : World) (hb : b < w.heap.size) (hl : xs.length ≤ cap) (hc : cap ≤ maxLen) (hn : xs.length ≤ 1000) (hsz : ∀ x ∈ xs, x.length ≤ 1000)
    (hN : ∀ j (hj : j < xs.length), w.cell? ⟨b, o + j, none⟩ = some (.string (ofL xs[j]))) :
    Calls Tryz.prog 92 #[.slice (some ⟨b, o, none⟩) xs.length cap] w fun e w' => ∃ A c, e = .returned (.slice A (readT xs).length c) ∧ (readT xs).length ≤ c ∧ c ≤ maxLen ∧ FromK w.heap.size w' A (readT xs) ∧ Ext w w' := by
  obtain ⟨i0, hi, hz0, hz1, hz2⟩ := info_parts infoTermR
  have hcc := hc
  unfold maxLen at hcc
  have HN := Lib.hid hN
  have HSZ := Lib.hid hsz
  obtain ⟨N, hNx⟩ : ∃ N, xs.length = N := ⟨_, rfl⟩
  rw [hNx] at hl hn ⊢
  have HNX := Lib.hid hNx
  obtain ⟨R, hR⟩ : ∃ R, readT xs = R := ⟨_, rfl⟩
  rw [hR]
  have HR := Lib.hid hR
  have hx0 := (Ext.refl w).alloc (.cells #[] 45)
  have hb0 := heap_alloc_new w (.cells #[] 45)
  clear hN hsz hNx hR
  go_enter Tryz.func92, Tryz.ntmps92
  go_wp2_with fail
  generalize hw0 : w.alloc _ = w0 at hx0 hb0 ⊢
  clear hw0
  go_loopw [3, 4] (fun vo i wr => ∃ (v : Value) (j : Nat) (ks : List Tr), v = vo ∧ j ≤ N ∧ i = .int .i64 j ∧ GrowS (fun b => b < w.heap.size) w wr 45 v ks ∧ ks.length ≤ j ∧ ks ++ readT (xs.drop j) = R ∧ Ext w wr) (fun _ i _ => N - (intOf i).toNat)
  case atStart => exact ⟨_, 0, [], rfl, Nat.zero_le _, rfl, GrowS.lit hb0 (Nat.le_refl _), Nat.le_refl _, by simpa using HR.out, hx0⟩
  case round =>
    obtain ⟨v, j, ks, rfl, hj, rfl, hG, hkj, hjl, hx⟩ := hrel
    have HJ := Lib.hid hjl
    have hsw := hx.size
    clear hjl
    by_cases hlt : j < N
    · have hjz : (j : Int) < (N : Int) := by omega
      have hjx : j < xs.length := by rw [HNX.out]; exact hlt
      have hst := readT_step hjx
      have hcx := hx.cell (HN.out j hjx)
      obtain ⟨x, hxj⟩ : ∃ x, x = xs[j] := ⟨_, rfl⟩
      have hxl : (ofL x).size ≤ 1000000000 := by have := HSZ.out _ (List.getElem_mem hjx); rw [ofL_size, hxj]; omega
      rw [← hxj] at hst hcx
      have HP := Lib.hid (fun W => parseTerm_any (ofL x) W hxl)
      rw [ofL_list] at HP
      obtain ⟨L, hL⟩ : ∃ L, prsV x = L := ⟨_, rfl⟩
      rw [hL] at HP hst
      have HST := Lib.hid hst
      clear hst hL hxj hjx
      go_wp2_with fail
      refine (HP.out _).mono ?_
      rintro e w3 ⟨u, rfl, hF, e3⟩
      obtain ⟨k1, n1, A1, l1, c1, rfl⟩ := hF.three
      have e34 := (Ext.refl w3).alloc (.cells #[.int .i64 k1, .int .i64 n1, .slice A1 l1 c1] 45)
      have hb4 := heap_alloc_new w3 (.cells #[.int .i64 k1, .int .i64 n1, .slice A1 l1 c1] 45)
      have hx4 := (hx.trans e3).trans e34
      have hs3 := e3.size
      obtain ⟨s0, s1, s2, -⟩ := own3 hb4
      cases L with
      | none =>
        have hjl2 : ks ++ readT (xs.drop (j + 1)) = R := by
          rw [← HJ.out, HST.out]
          simp
        have HJ2 := Lib.hid hjl2
        have hG4 := (hG.ext e3).ext e34
        clear hjl2 s0 s1 s2
        go_wp2_with fail
        go_roundw
        case rel => exact ⟨_, j + 1, ks, rfl, by omega, by go_num, hG4, by omega, HJ2.out, hx4⟩
        case measure => simp [intOf]; omega
      | some t =>
        have hjl2 : (ks ++ [t]) ++ readT (xs.drop (j + 1)) = R := by
          rw [← HJ.out, HST.out]
          simp
        have HJ2 := Lib.hid hjl2
        have hlt2 : ∀ r, v.ownBlock = some r → r < wr.heap.size := by
          obtain ⟨ys, q1, -⟩ := hG
          exact fun r hr => (q1.lt r hr).2
        have hT : InT ((w3.alloc (.cells #[.int .i64 k1, .int .i64 n1, .slice A1 l1 c1] 45)).alloc (.cells #[.int .i64 k1, .int .i64 n1, .slice A1 l1 c1] 45)) (fun b => b < ((w3.alloc (.cells #[.int .i64 k1, .int .i64 n1, .slice A1 l1 c1] 45)).alloc (.cells #[.int .i64 k1, .int .i64 n1, .slice A1 l1 c1] 45)).heap.size ∧ v.ownBlock ≠ some b ∧ ¬ b < w.heap.size) t (.agg #[.int .i64 k1, .int .i64 n1, .slice A1 l1 c1]) :=
          InT.mono (fun b hb => ⟨by have := hb.2; simp; omega, fun he => by have := hlt2 b he; have := hb.1; omega, by have := hb.1; omega⟩) (fun b hb => (e34.alloc (.cells #[.int .i64 k1, .int .i64 n1, .slice A1 l1 c1] 45)).heap b hb.2) hF
        have hG5 := (hG.ext e3).ext (e34.alloc (.cells #[.int .i64 k1, .int .i64 n1, .slice A1 l1 c1] 45))
        have hb5 : ((w3.alloc (.cells #[.int .i64 k1, .int .i64 n1, .slice A1 l1 c1] 45)).alloc (.cells #[.int .i64 k1, .int .i64 n1, .slice A1 l1 c1] 45)).heap[w3.heap.size + 1]? = some (.cells #[.int .i64 k1, .int .i64 n1, .slice A1 l1 c1] 45 (0, 0)) := by simpa using heap_alloc_new (w3.alloc (.cells #[.int .i64 k1, .int .i64 n1, .slice A1 l1 c1] 45)) (.cells #[.int .i64 k1, .int .i64 n1, .slice A1 l1 c1] 45)
        have hx5 := hx4.alloc (.cells #[.int .i64 k1, .int .i64 n1, .slice A1 l1 c1] 45)
        have HLT := Lib.hid hlt2
        clear hjl2 hlt2 hF hb4
        go_wp2_with (at_builtin; refine wpList_append_treeS _ rfl (.tmp 23) (.tmp 25) 43 rfl 45 i0 _ Tryz.underlying43 hi hz0 hz1 hz2 rfl rfl hG5 (by simp; omega) hT rfl hb5 (by omega) ?_ (fun b hb => hb))
        intro v' w6 hG6 hB6
        have hx6 : Ext w w6 := Below.trans hx5 hB6
        go_wp2_with fail
        go_roundw
        case rel => exact ⟨_, j + 1, ks ++ [t], rfl, by omega, by go_num, hG6, by simp; omega, HJ2.out, hx6⟩
        case measure => simp [intOf]; omega
    · have hjl2 : ks = R := by
        rw [← HJ.out, List.drop_of_length_le (by rw [HNX.out]; omega)]
        simp [readT]
      obtain ⟨A, c, rfl, q1, q2, hK, -⟩ := hG.lies (fun b hb => hb)
      have hK2 : FromK w.heap.size wr A ks := InK.mono (fun b hb => ⟨by have := hb.2; omega, hb.1⟩) (fun _ _ => rfl) hK
      have HKR := Lib.hid hjl2
      clear hjl2
      go_wp2_with fail
      go_ret
      exact ⟨A, c, by rw [← HKR.out]; rfl, by rw [← HKR.out]; exact q1, q2, by rw [← HKR.out]; exact hK2, hx⟩
end Go.Proofs.YtolkohncmidpeaaGreatDoor

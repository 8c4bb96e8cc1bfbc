/-
  Lemmas towards the law, 6: WalkValid, Scan.
-/
import Derived.Test.YtolkohncmidpeaaGreatDoorGAE
import Derived.BigQuiet
import Derived.Deep.RegionHeld3
import Derived.Deep.RegionWith
import Derived.Outline
import Derived.StillTailTactics
import Derived.Test.YtolkohncmidpeaaGreatDoorProg
namespace Go.Proofs.YtolkohncmidpeaaGreatDoor
open Go.RowKit
set_option linter.unusedVariables false
theorem within_any (n lo hi : Int) (w : World) : Calls Tryz.prog 57 #[.int .i64 n, .int .i64 lo, .int .i64 hi] w fun e w' => e = .returned (.bool (inR n lo hi)) ∧ w = w' := by
  by_cases h1 : lo ≤ n
  · by_cases h2 : n ≤ hi
    · have e : inR n lo hi = true := inR_iff.2 ⟨h1, h2⟩
      have E := Lib.hid e
      have d1 : decide (lo ≤ n) = true := by simpa using h1
      have d2 : decide (n ≤ hi) = true := by simpa using h2
      clear e
      go_enter Tryz.func57, Tryz.ntmps57
      go_wp2_with fail
      go_ret
      exact ⟨by rw [E.out]; rfl, rfl⟩
    · have e : inR n lo hi = false := inR_false.2 (.inr (by omega))
      have E := Lib.hid e
      have d1 : decide (lo ≤ n) = true := by simpa using h1
      have d2 : decide (n ≤ hi) = false := by simpa using h2
      clear e
      go_enter Tryz.func57, Tryz.ntmps57
      go_wp2_with fail
      go_ret
      exact ⟨by rw [E.out]; rfl, rfl⟩
  · have e : inR n lo hi = false := inR_false.2 (.inl (by omega))
    have E := Lib.hid e
    have d1 : decide (lo ≤ n) = false := by simpa using h1
    clear e
    go_enter Tryz.func57, Tryz.ntmps57
    go_wp2_with fail
    go_ret
    exact ⟨by rw [E.out]; rfl, rfl⟩
theorem opsT_any (k : Int) (w : World) : Calls Tryz.prog 123 #[.int .i64 k] w fun e w' => e = .returned (.int .i64 (opsT k)) ∧ Ext w w' := by
  by_cases h1 : inR k 1 16 = true
  · have H1 := Lib.hid h1
    have h2 := inR_iff.1 h1
    clear h1
    have hcs : ∀ j : Nat, j < 16 → k = (j : Int) + 1 → Calls Tryz.prog 123 #[.int .i64 k] w fun e w' => e = .returned (.int .i64 (opsT k)) ∧ Ext w w' := by
      intro j hj hk
      subst hk
      have HX := H1
      go_enter Tryz.func123, Tryz.ntmps123
      go_wp2_with (go_at_call 57; refine (within_any _ _ _ _).mono ?_; rw [HX.out]; rintro e w1 ⟨rfl, rfl⟩)
      go_ret
      refine ⟨?_, (Ext.refl _).alloc _⟩
      rcases (by omega : j = 0 ∨ j = 1 ∨ j = 2 ∨ j = 3 ∨ j = 4 ∨ j = 5 ∨ j = 6 ∨ j = 7 ∨ j = 8 ∨ j = 9 ∨ j = 10 ∨ j = 11 ∨ j = 12 ∨ j = 13 ∨ j = 14 ∨ j = 15) with rfl | rfl | rfl | rfl | rfl | rfl | rfl | rfl | rfl | rfl | rfl | rfl | rfl | rfl | rfl | rfl <;> rfl
    exact hcs (k - 1).toNat (by omega) (by omega)
  · have h2 : inR k 1 16 = false := by simpa using h1
    have H2 := Lib.hid h2
    have h3 := inR_false.1 h2
    have e : opsT k = -1 := by
      unfold opsT
      repeat rw [if_neg (by omega)]
    have E := Lib.hid e
    clear h1 h2 e
    go_enter Tryz.func123, Tryz.ntmps123
    go_wp2_with (go_at_call 57; refine (within_any _ _ _ _).mono ?_; rw [H2.out]; rintro e w1 ⟨rfl, rfl⟩)
    go_ret
    exact ⟨by rw [E.out]; rfl, Ext.refl _⟩
theorem mostT_any (k : Int) (w : World) : Calls Tryz.prog 124 #[.int .i64 k] w fun e w' => e = .returned (.int .i64 (mostT k)) ∧ w = w' := by
  by_cases h1 : k = 1
  · have e : mostT k = 20 := by simp [mostT, h1]
    have E := Lib.hid e
    have d1 : (k == 1) = true := by simpa using h1
    clear e h1
    go_enter Tryz.func124, Tryz.ntmps124
    go_wp2_with fail
    go_ret
    exact ⟨by rw [E.out]; rfl, rfl⟩
  · have d1 : (k == 1) = false := by simpa using h1
    by_cases h2 : k = 2
    · have e : mostT k = 3 := by simp [mostT, h2]
      have E := Lib.hid e
      have d2 : (k == 2) = true := by simpa using h2
      clear e h1 h2
      go_enter Tryz.func124, Tryz.ntmps124
      go_wp2_with fail
      go_ret
      exact ⟨by rw [E.out]; rfl, rfl⟩
    · have e : mostT k = 0 := by simp [mostT, h1, h2]
      have E := Lib.hid e
      have d2 : (k == 2) = false := by simpa using h2
      clear e h1 h2
      go_enter Tryz.func124, Tryz.ntmps124
      go_wp2_with fail
      go_ret
      exact ⟨by rw [E.out]; rfl, rfl⟩
end Go.Proofs.YtolkohncmidpeaaGreatDoor
namespace Go.Proofs.YtolkohncmidpeaaGreatDoor
open Go.RowKit
set_option linter.unusedVariables false
def ScanTermC (t : Tr) : Prop := ∀ (w : World) (B g : Nat) (v : Value) (deep c : Int), InT w (fun b => b < B) t v → B ≤ g → w.heap[g]? = some (.cells #[.int .i64 c] 3 (0, 0)) → 0 ≤ c → c ≤ 400 → 0 ≤ deep → deep ≤ 40 →
  Calls Tryz.prog 84 #[v, .int .i64 deep, .pointer (some ⟨g, 0, none⟩)] w fun e w' => e = .returned (.bool (scanR sigT t deep c).1) ∧ w'.heap[g]? = some (.cells #[.int .i64 (scanR sigT t deep c).2] 3 (0, 0)) ∧ Below B w w'
set_option maxRecDepth 100000 in
set_option maxHeartbeats 1600000 in
theorem scanTerm_any : ∀ t : Tr, ScanTermC t := Tr.ind fun k n ks hk => by
  intro w B g v deep c hin hBg hblk hc0 hc1 hd0 hd1
  obtain ⟨A, cap, rfl, hl, hc, h⟩ := InT.mk_iff.1 hin
  clear hin
  have hc' := hc
  unfold maxLen at hc'
  have hgs := lt_of_blk hblk
  have q0 : w.cell? ⟨g, 0, none⟩ = some (.int .i64 c) := cell_of_blk hblk 0
  have q1 := frozen_of_blk hblk 0
  have e : scanR sigT (.mk k n ks) deep c = if 400 < c + 1 then (false, c + 1) else if 30 < deep then (false, c + 1) else if opsT k = (ks.length : Int) then (if inR n 0 (mostT k) = true then scanRs sigT ks (deep + 1) (c + 1) else (false, c + 1)) else (false, c + 1) := by
    unfold scanR; rfl
  have E := Lib.hid e
  have HB := Lib.hid hblk
  have hW : ∀ W, W = (w.setCell ⟨g, 0, none⟩ (.int .i64 (c + 1))).alloc (.cells #[.int .i64 k, .int .i64 n, .slice A ks.length cap] 45) → W.heap[g]? = some (.cells #[.int .i64 (c + 1)] 3 (0, 0)) ∧ W.heap[w.heap.size]? = some (.cells #[.int .i64 k, .int .i64 n, .slice A ks.length cap] 45 (0, 0)) ∧ Below B w W ∧ w.heap.size < W.heap.size := by
    rintro W rfl
    have e0 := heap_alloc_new (w.setCell ⟨g, 0, none⟩ (.int .i64 (c + 1))) (.cells #[.int .i64 k, .int .i64 n, .slice A ks.length cap] 45)
    rw [World.size_setCell] at e0
    exact ⟨blk_alloc (blk_setCell HB.out 0 _) _, e0, ((Below.refl B w).setCell hBg _).alloc (by simp; omega) _, by simp⟩
  have HW := Lib.hid hW
  clear hW e 
  by_cases a1 : 400 < c + 1
  · rw [if_pos a1] at E
    have d1 : decide (400 < c + 1) = true := decide_eq_true a1
    go_enter Tryz.func84, Tryz.ntmps84
    go_wp2_with fail
    have hb := HW.out _ rfl
    generalize (w.setCell _ _).alloc _ = W at hb
    obtain ⟨b1, b2, b3, b4⟩ := hb
    obtain ⟨y0, y1, y2⟩ := Later.own3 b2
    have y3 : ∀ y : Later W, y.world.cell? ⟨g, 0, none⟩ = some (.int .i64 (c + 1)) := fun y => Later.cell (cell_of_blk b1 0) y
    have B1 := Lib.hid b1
    have B2 := Lib.hid b2
    clear b2 b1 q0 q1 hblk
    refine wp_region_later (by kernel_rfl) (by kernel_rfl) ?_
    repeat (go_big_quiet_step (first | (go_at_call 123; exact later_of (opsT_any _ _)) | (go_at_call 57; exact later_of_same (within_any _ _ _ _)) | (go_at_call 124; exact later_of_same (mostT_any _ _))))
    refine wpQuiet_nil ?_
    intro w3 hw'
    obtain ⟨⟨_, h3⟩, rfl⟩ := hw'
    clear y0 y1 y2 y3
    go_wp2_with fail
    go_ret
    exact ⟨by rw [E.out]; rfl, by rw [E.out]; exact h3.blk B1.out, b3.trans (h3.mono (by omega))⟩
  rw [if_neg a1] at E
  have d1 : decide (400 < c + 1) = false := decide_eq_false a1
  by_cases a2 : 30 < deep
  · rw [if_pos a2] at E
    have d2 : decide (30 < deep) = true := decide_eq_true a2
    go_enter Tryz.func84, Tryz.ntmps84
    go_wp2_with fail
    have hb := HW.out _ rfl
    generalize (w.setCell _ _).alloc _ = W at hb
    obtain ⟨b1, b2, b3, b4⟩ := hb
    obtain ⟨y0, y1, y2⟩ := Later.own3 b2
    have y3 : ∀ y : Later W, y.world.cell? ⟨g, 0, none⟩ = some (.int .i64 (c + 1)) := fun y => Later.cell (cell_of_blk b1 0) y
    have B1 := Lib.hid b1
    have B2 := Lib.hid b2
    clear b2 b1 q0 q1 hblk
    refine wp_region_later (by kernel_rfl) (by kernel_rfl) ?_
    repeat (go_big_quiet_step (first | (go_at_call 123; exact later_of (opsT_any _ _)) | (go_at_call 57; exact later_of_same (within_any _ _ _ _)) | (go_at_call 124; exact later_of_same (mostT_any _ _))))
    refine wpQuiet_nil ?_
    intro w3 hw'
    obtain ⟨⟨_, h3⟩, rfl⟩ := hw'
    clear y0 y1 y2 y3
    go_wp2_with fail
    go_ret
    exact ⟨by rw [E.out]; rfl, by rw [E.out]; exact h3.blk B1.out, b3.trans (h3.mono (by omega))⟩
  rw [if_neg a2] at E
  have d2 : decide (30 < deep) = false := decide_eq_false a2
  by_cases a3 : opsT k = (ks.length : Int)
  · rw [if_pos a3] at E
    have d3 : (opsT k != (ks.length : Int)) = false := by rw [a3]; simp
    clear a3
    obtain ⟨z, hz⟩ : ∃ z, inR n 0 (mostT k) = z := ⟨_, rfl⟩
    cases z with
    | false =>
      rw [hz, if_neg (by decide)] at E
      go_enter Tryz.func84, Tryz.ntmps84
      go_wp2_with fail
      have hb := HW.out _ rfl
      generalize (w.setCell _ _).alloc _ = W at hb
      obtain ⟨b1, b2, b3, b4⟩ := hb
      obtain ⟨y0, y1, y2⟩ := Later.own3 b2
      have y3 : ∀ y : Later W, y.world.cell? ⟨g, 0, none⟩ = some (.int .i64 (c + 1)) := fun y => Later.cell (cell_of_blk b1 0) y
      have B1 := Lib.hid b1
      have B2 := Lib.hid b2
      clear b2 b1 q0 q1 hblk
      refine wp_region_later (by kernel_rfl) (by kernel_rfl) ?_
      repeat (go_big_quiet_step (first | (go_at_call 123; exact later_of (opsT_any _ _)) | (go_at_call 57; exact later_of_same (within_any _ _ _ _)) | (go_at_call 124; exact later_of_same (mostT_any _ _))))
      refine wpQuiet_nil ?_
      intro w3 hw'
      obtain ⟨⟨_, h3⟩, rfl⟩ := hw'
      clear y0 y1 y2 y3
      go_wp2_with fail
      go_ret
      exact ⟨by rw [E.out]; rfl, by rw [E.out]; exact h3.blk B1.out, b3.trans (h3.mono (by omega))⟩
    | true =>
      rw [hz, if_pos rfl] at E
      go_enter Tryz.func84, Tryz.ntmps84
      go_wp2_with fail
      have hb := HW.out _ rfl
      generalize (w.setCell _ _).alloc _ = W at hb
      obtain ⟨b1, b2, b3, b4⟩ := hb
      obtain ⟨y0, y1, y2⟩ := Later.own3 b2
      have y3 : ∀ y : Later W, y.world.cell? ⟨g, 0, none⟩ = some (.int .i64 (c + 1)) := fun y => Later.cell (cell_of_blk b1 0) y
      have B1 := Lib.hid b1
      have B2 := Lib.hid b2
      clear b2 b1 q0 q1 hblk
      refine wp_region_later (by kernel_rfl) (by kernel_rfl) ?_
      repeat (go_big_quiet_step (first | (go_at_call 123; exact later_of (opsT_any _ _)) | (go_at_call 57; exact later_of_same (within_any _ _ _ _)) | (go_at_call 124; exact later_of_same (mostT_any _ _))))
      refine wpQuiet_nil ?_
      intro w3 hw'
      obtain ⟨⟨_, h3⟩, rfl⟩ := hw'
      clear y0 y1 y2 y3
      clear hz
      obtain ⟨z0, z1, z2, -, -, -⟩ := own3 (h3.blk B2.out)
      have hg3 := h3.blk B1.out
      have hB3 : Below B w w3 := b3.trans (h3.mono (by omega))
      have B4 := Lib.hid hg3
      clear hg3
      go_wp2_with fail
      clear z0 z1 z2
      go_loopw [43] (fun i wr => ∃ (j : Nat) (q : Int), j ≤ ks.length ∧ i = .int .i64 j ∧ wr.heap[g]? = some (.cells #[.int .i64 q] 3 (0, 0)) ∧ 0 ≤ q ∧ q ≤ 400 ∧ Below B w wr ∧ scanRs sigT ks (deep + 1) (c + 1) = scanRs sigT (ks.drop j) (deep + 1) q) (fun i _ => ks.length - (intOf i).toNat)
      case atStart => exact ⟨0, c + 1, Nat.zero_le _, rfl, B4.out, by omega, by omega, hB3, rfl⟩
      case round =>
        obtain ⟨j, q, hj, rfl, hblk, hq0, hq1, hbel, heq⟩ := hrel
        have HE := Lib.hid heq
        clear heq
        by_cases hlt : j < ks.length
        · obtain ⟨b, o, k2, n2, A2, cap2, kids, rfl, HK, c0, c1, c2, hkl, hkc, hK, hin, hmem, hSb⟩ := h.get (fun x hx => hbel.block x hx) hlt
          have hks := List.drop_eq_getElem_cons hlt
          rw [HK.out] at hks
          have hst : scanRs sigT (ks.drop j) (deep + 1) q = if (scanR sigT (.mk k2 n2 kids) (deep + 1) q).1 = true then scanRs sigT (ks.drop (j + 1)) (deep + 1) (scanR sigT (.mk k2 n2 kids) (deep + 1) q).2 else (false, (scanR sigT (.mk k2 n2 kids) (deep + 1) q).2) := by rw [hks]; conv => lhs; unfold scanRs
          have hsp := scanR_spec sigT (.mk k2 n2 kids) (deep + 1) q hq0 hq1
          have HB2 := Lib.hid hblk
          have hgwr := lt_of_blk hblk
          clear hblk hks
          go_wp2_with fail
          have hE1 := (Ext.refl wr).alloc (.cells #[.int .i64 k2, .int .i64 n2, .slice A2 kids.length cap2] 45)
          have hbw : B ≤ wr.heap.size := by omega
          refine (hk _ hmem _ B g _ (deep + 1) q (hin.mono (fun _ h => h) (fun x hx => hE1.heap x (by omega))) hBg (hE1.blk HB2.out) hq0 hq1 (by omega) (by omega)).mono ?_
          rintro e w4 ⟨rfl, h4, h5⟩
          have hbel4 : Below B w w4 := hbel.trans ((Below.mono hE1 hbw).trans h5)
          generalize scanR sigT (.mk k2 n2 kids) (deep + 1) q = r at hst hsp h4
          obtain ⟨r1, r2⟩ := r
          dsimp only at hst hsp h4
          cases r1 with
          | false =>
            rw [if_neg (by decide)] at hst
            have HT := Lib.hid hst
            have H4 := Lib.hid h4
            clear hst h4 hsp
            go_wp2_with fail
            go_ret
            exact ⟨by rw [E.out, HE.out, HT.out]; rfl, by rw [E.out, HE.out, HT.out]; exact H4.out, hbel4⟩
          | true =>
            rw [if_pos rfl] at hst
            have HT := Lib.hid hst
            have H4 := Lib.hid h4
            have hr2 := hsp.2.2.2.2 rfl
            have hr3 := hsp.2.2.1
            clear hst h4 hsp
            go_wp2_with fail
            go_roundw
            case rel => exact ⟨j + 1, r2, by omega, by go_num, H4.out, by omega, hr2, hbel4, by rw [HE.out, HT.out]⟩
            case measure => simp [intOf]; omega
        · have HB2 := Lib.hid hblk
          clear hblk
          go_wp2_with fail
          go_ret
          have hjk : ks.drop j = [] := List.drop_of_length_le (by omega)
          exact ⟨by rw [E.out, HE.out, hjk]; rfl, by rw [E.out, HE.out, hjk]; exact HB2.out, hbel⟩
  · rw [if_neg a3] at E
    have d3 : (opsT k != (ks.length : Int)) = true := by rw [bne_iff_ne]; exact a3
    clear a3
    go_enter Tryz.func84, Tryz.ntmps84
    go_wp2_with fail
    have hb := HW.out _ rfl
    generalize (w.setCell _ _).alloc _ = W at hb
    obtain ⟨b1, b2, b3, b4⟩ := hb
    obtain ⟨y0, y1, y2⟩ := Later.own3 b2
    have y3 : ∀ y : Later W, y.world.cell? ⟨g, 0, none⟩ = some (.int .i64 (c + 1)) := fun y => Later.cell (cell_of_blk b1 0) y
    have B1 := Lib.hid b1
    have B2 := Lib.hid b2
    clear b2 b1 q0 q1 hblk
    refine wp_region_later (by kernel_rfl) (by kernel_rfl) ?_
    repeat (go_big_quiet_step (first | (go_at_call 123; exact later_of (opsT_any _ _)) | (go_at_call 57; exact later_of_same (within_any _ _ _ _)) | (go_at_call 124; exact later_of_same (mostT_any _ _))))
    refine wpQuiet_nil ?_
    intro w3 hw'
    obtain ⟨⟨_, h3⟩, rfl⟩ := hw'
    clear y0 y1 y2 y3
    go_wp2_with fail
    go_ret
    exact ⟨by rw [E.out]; rfl, by rw [E.out]; exact h3.blk B1.out, b3.trans (h3.mono (by omega))⟩
end Go.Proofs.YtolkohncmidpeaaGreatDoor

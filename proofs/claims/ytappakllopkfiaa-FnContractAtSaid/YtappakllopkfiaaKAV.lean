/-
  Lemmas towards the law, 22: Walked2.
-/
import Derived.Test.YtappakllopkfiaaKAQ
import Derived.Test.YtappakllopkfiaaKAU
namespace Go.Proofs.Ytappakllopkfiaa
open Go.RowKit
set_option linter.unusedVariables false
attribute [local go_sem ↓] Go.wp_at_zero Go.wp_at_succ
theorem atT_cnt : ∀ (a : List Int) (t u : Tr), atT t a = some u → cnt u ≤ cnt t
  | [], t, u, e => by
    have e : t = u := by cases t; simpa [atT] using e
    subst e
    exact Nat.le_refl _
  | i :: a, .mk k n ks, u, e => by
    rw [atT] at e
    split at e
    · rename_i hi
      have h1 := atT_cnt a _ u e
      have h2 := cnt_mem (kd_mem (ks := ks) (i := i.toNat) (by omega))
      rw [cnt]
      omega
    · cases e
/-- TermAt's answer. -/
def atV (t : Tr) (p : List Int) : Tr × Bool := if valid sigT t = true then ((atT t p).getD dflt0, (atT t p).isSome) else (dflt0, false)
set_option maxRecDepth 100000 in
set_option maxHeartbeats 4000000 in
theorem l8At_any (t : Tr) (d : Int) (hsh : shape sigT t d = true) (hd : d ≤ 1000) (path : List Int) (w : World) (v : Value) (hin : Lies w t v) (A : Option Addr) (cap : Nat) (hl : path.length ≤ cap) (hc : cap ≤ maxLen) (hP : Nums w A path) :
    Calls Try.prog 163 #[v, .slice A path.length cap] w fun e w' => ∃ x, e = .returned (.tuple #[x, .bool (atT t path).isSome]) ∧ Lies w' ((atT t path).getD dflt0) x ∧ Ext w w' := by
  obtain ⟨k, n, ks⟩ := t
  obtain ⟨At, ct, rfl, hlt, hct, hKt⟩ := Lies.mk_iff.1 hin
  have hcc := hc
  unfold maxLen at hcc
  have hx0 := ((Ext.refl w).alloc (.cells #[.int .i64 k, .int .i64 n, .slice At ks.length ct] 44)).alloc (.cells #[.int .i64 0, .int .i64 0, .slice none 0 0] 44)
  obtain ⟨hb0, hb1, hs0⟩ := blk2 (Ext.refl ((w.alloc (.cells #[.int .i64 k, .int .i64 n, .slice At ks.length ct] 44)).alloc (.cells #[.int .i64 0, .int .i64 0, .slice none 0 0] 44)))
  clear hin
  go_enter Try.func163, Try.ntmps163
  go_wp2_with fail
  generalize World.alloc (World.alloc w _) _ = wS at hx0 hb0 hb1 hs0 ⊢
  go_loopw [6] (fun i wr => ∃ (j : Nat) (k' n' : Int) (kids : List Tr) (A' : Option Addr) (c' : Nat) (d' : Int), j ≤ path.length ∧ i = .int .i64 j ∧
    Hid (atT (.mk k n ks) path = atT (.mk k' n' kids) (path.drop j)) ∧ shape sigT (.mk k' n' kids) d' = true ∧ d' + j ≤ 1000 ∧ kids.length ≤ c' ∧ c' ≤ maxLen ∧ LiesK w A' kids ∧
    wr.heap[w.heap.size]? = some (.cells #[.int .i64 k', .int .i64 n', .slice A' kids.length c'] 44 (0, 0)) ∧ wr.heap[w.heap.size + 1]? = some (.cells #[.int .i64 0, .int .i64 0, .slice none 0 0] 44 (0, 0)) ∧ Ext w wr) (fun i _ => path.length - (intOf i).toNat)
  case atStart => exact ⟨0, k, n, ks, At, ct, d, Nat.zero_le _, rfl, Lib.hid rfl, hsh, by simpa using hd, hlt, hct, hKt, hb0, hb1, hx0⟩
  case round =>
    obtain ⟨j, k', n', kids, A', c', d', hj, rfl, HA, hsh', hd', hkl, hkc, hK, hb, hbR, hx⟩ := hrel
    have hsz : w.heap.size + 1 < wr.heap.size := lt_of_blk hbR
    have hdp := shape_pos' hsh'
    by_cases hlj : j < path.length
    · obtain ⟨bp, op, rfl, cp⟩ := hP.get hx hlj
      have hdr : path.drop j = path[j] :: path.drop (j + 1) := List.drop_eq_getElem_cons hlj
      have HA1 := Lib.hid (HA.out.trans (by rw [hdr, atT_step]))
      clear HA hdr
      generalize path[j] = i at cp HA1
      have hj2 : (j : Int) < (path.length : Int) := by omega
      have hj0 : (0 : Int) ≤ (j : Int) := Int.natCast_nonneg _
      obtain ⟨hops, -, -, hsk⟩ := shape_kids hsh'
      obtain ⟨z0, z1, z2, f0, f1, f2⟩ := own3 hb
      obtain ⟨y0, y1, y2, g0, g1, g2⟩ := own3 hbR
      have hkc' := hkc
      unfold maxLen at hkc'
      by_cases hi2 : 0 ≤ i ∧ i < (kids.length : Int)
      · rw [if_pos hi2] at HA1
        obtain ⟨m, rfl⟩ := Int.eq_ofNat_of_zero_le hi2.1
        have hm : m < kids.length := by omega
        have e0 : ((m : Int)).toNat = m := by omega
        have HA2 := Lib.hid (show atT (.mk k n ks) path = atT (kd kids m) (path.drop (j + 1)) by have := HA1.out; rwa [e0] at this)
        clear HA1 e0
        obtain ⟨b, o, k2, n2, A2, c2, kids2, rfl, HK, e0, e1, e2, hkl2, hkc2, hK2, hin2, hmem⟩ := hK.get (Ext.refl w) hm
        have hkd : kd kids m = .mk k2 n2 kids2 := kd_of hm HK.out
        have hsk2 := hsk _ hmem
        rw [hkd] at HA2
        have hm2 : (m : Int) < (kids.length : Int) := hi2.2
        have hm0 : (0 : Int) ≤ (m : Int) := hi2.1
        have dl1 : decide ((m : Int) < 0) = false := decide_eq_false (by omega)
        have dl2 : decide ((kids.length : Int) ≤ (m : Int)) = false := decide_eq_false (by omega)
        have dl3 : decide (kids.length ≤ m) = false := decide_eq_false (by omega)
        have d0 := hx.cell e0
        have d1 := hx.cell e1
        have d2 := hx.cell e2
        have hwl : w.heap.size < wr.heap.size := by omega
        have HBD := Lib.hid (fun q : Nat => (show (wr.drewN q).heap[w.heap.size]? = some (.cells #[.int .i64 k', .int .i64 n', .slice (some ⟨b, o, none⟩) kids.length c'] 44 (0, 0)) from hb))
        have HBR := Lib.hid (fun q : Nat => (show (wr.drewN q).heap[w.heap.size + 1]? = some (.cells #[.int .i64 0, .int .i64 0, .slice none 0 0] 44 (0, 0)) from hbR))
        clear hkd HK hmem hi2 e0 e1 e2
        go_wp2_with fail
        go_quiet (fail)
        go_wp2_with fail
        first | (go_region_law (fail)) | fail
        all_goals (
          go_wp2_with fail
          go_roundw
          case rel => exact ⟨j + 1, k2, n2, kids2, A2, c2, d' - 1, by omega, by go_num, HA2, hsk2, by omega, hkl2, hkc2, hK2, blk_setCell (blk_setCell (blk_setCell (HBD.out _) 0 _) 1 _) 2 _, blk_setCell_ne (blk_setCell_ne (blk_setCell_ne (HBR.out _) (by simp) _) (by simp) _) (by simp) _, (((hx.drewN _).setCell (by simp) _).setCell (by simp) _).setCell (by simp) _⟩
          case measure => simp [intOf]; omega)
      · rw [if_neg hi2] at HA1
        by_cases hi0 : i < 0
        · have dl1 : decide (i < 0) = true := decide_eq_true hi0
          clear hi2
          go_wp2_with fail
          go_quiet (fail)
          go_wp2_with fail
          refine bodyPost_ret (v := .tuple #[.agg #[.int .i64 0, .int .i64 0, .slice none 0 0], .bool false]) (by simp [results, Try.results163, go_sem, y0, y1, y2]) rfl ⟨_, by rw [HA1.out]; rfl, ?_, ?_⟩
          · rw [HA1.out]; exact Lies.leaf _ _ _
          · exact (((hx.drewN _).setCell (by simp) _).setCell (by simp) _).setCell (by simp) _
        · have dl1 : decide (i < 0) = false := decide_eq_false hi0
          have dl2 : decide ((kids.length : Int) ≤ i) = true := decide_eq_true (by omega)
          have hge : (kids.length : Int) ≤ i := by omega
          clear hi2
          go_wp2_with fail
          go_quiet (fail)
          go_wp2_with fail
          refine bodyPost_ret (v := .tuple #[.agg #[.int .i64 0, .int .i64 0, .slice none 0 0], .bool false]) (by simp [results, Try.results163, go_sem, y0, y1, y2]) rfl ⟨_, by rw [HA1.out]; rfl, ?_, ?_⟩
          · rw [HA1.out]; exact Lies.leaf _ _ _
          · exact (((hx.drewN _).setCell (by simp) _).setCell (by simp) _).setCell (by simp) _
    · have hd0 : path.drop j = [] := List.drop_of_length_le (by omega)
      have HA1 := Lib.hid (show atT (.mk k n ks) path = some (.mk k' n' kids) by rw [HA.out, hd0]; rfl)
      obtain ⟨z0, z1, z2, f0, f1, f2⟩ := own3 hb
      obtain ⟨y0, y1, y2, g0, g1, g2⟩ := own3 hbR
      have hwl : w.heap.size < wr.heap.size := by omega
      clear HA hd0
      go_wp2_with fail
      refine bodyPost_ret (v := .tuple #[.agg #[.int .i64 k', .int .i64 n', .slice A' kids.length c'], .bool true]) (by simp [results, Try.results163, go_sem, y0, y1, y2]) rfl ⟨_, by rw [HA1.out]; rfl, ?_, ?_⟩
      · rw [HA1.out]
        exact Lies.mk hkl hkc (hK.ext (((hx.setCell (by simp) _).setCell (by simp) _).setCell (by simp) _))
      · exact ((hx.setCell (by simp) _).setCell (by simp) _).setCell (by simp) _
set_option maxRecDepth 100000 in
set_option maxHeartbeats 1000000 in
theorem specTermAt_any (t : Tr) (path : List Int) (w : World) (v : Value) (hin : Lies w t v) (A : Option Addr) (cap : Nat) (hl : path.length ≤ cap) (hc : cap ≤ maxLen) (hP : Nums w A path) : Calls Try.prog 101 #[v, .slice A path.length cap] w fun e w' => ∃ u, e = .returned (.tuple #[u, .bool (atV t path).2]) ∧ Lies w' (atV t path).1 u ∧ Ext w w' := by
  have HV := Lib.hid (fun W (hW : Ext w W) => specValidTerm t W v (hin.ext hW))
  have HX := Lib.hid (fun (h : valid sigT t = true) W (hW : Ext w W) => l8At_any t 30 (cnt_of_valid h).2 (by decide) path W v (hin.ext hW) A cap hl hc (hP.ext hW))
  have hcn : valid sigT t = true → ∀ u, atT t path = some u → cnt u ≤ 400 := fun h u hu => Nat.le_trans (atT_cnt path t u hu) (cnt_of_valid h).1
  have hav : atV t path = if valid sigT t = true then ((atT t path).getD dflt0, (atT t path).isSome) else (dflt0, false) := rfl
  generalize atT t path = q at HX hcn hav
  obtain ⟨z, hz⟩ : ∃ z, valid sigT t = z := ⟨_, rfl⟩
  rw [hz] at HV hav HX hcn
  clear hz
  obtain ⟨k, n, ks⟩ := t
  obtain ⟨At, ct, rfl, -, -, -⟩ := Lies.mk_iff.1 hin
  have hx0 := ((Ext.refl w).alloc (.cells #[.int .i64 k, .int .i64 n, .slice At ks.length ct] 44)).alloc (.cells #[.int .i64 0, .int .i64 0, .slice none 0 0] 44)
  cases z with
  | false =>
    rw [if_neg (by decide)] at hav
    have E2 := Lib.hid hav
    clear hav HX hcn
    go_enter Try.func101, Try.ntmps101
    go_wp2_with fail
    refine (HV.out _ hx0).mono ?_
    rintro e w1 ⟨rfl, h1⟩
    obtain ⟨-, hb2, hs2⟩ := blk2 h1
    obtain ⟨s0, s1, s2, f0, f1, f2⟩ := own3 hb2
    clear hb2
    go_wp2_with fail
    rw [E2.out]
    refine bodyPost_ret (v := .tuple #[.agg #[.int .i64 0, .int .i64 0, .slice none 0 0], .bool false]) (by simp [results, Try.results101, go_sem, s0, s1, s2]) rfl ⟨_, rfl, Lies.leaf _ _ _, ?_⟩
    exact ((((h1.pre.pre).setCell (by simp) _).setCell (by simp) _).setCell (by simp) _)
  | true =>
    rw [if_pos rfl] at hav
    have HX2 := Lib.hid (HX.out rfl)
    have HCN := Lib.hid (hcn rfl)
    have E2 := Lib.hid hav
    clear hav HX hcn
    cases q with
    | none =>
      go_enter Try.func101, Try.ntmps101
      go_wp2_with fail
      refine (HV.out _ hx0).mono ?_
      rintro e w1 ⟨rfl, h1⟩
      obtain ⟨hb1, hb2, hs2⟩ := blk2 h1
      obtain ⟨z0, z1, z2, -, -, -⟩ := own3 hb1
      go_wp2_with fail
      refine (HX2.out _ (hx0.trans h1)).mono ?_
      rintro e w2 ⟨x, rfl, hL2, h2⟩
      obtain ⟨x1, x2, x3, x4, x5, rfl⟩ := InT.three (t := dflt0) hL2
      have hx3 := (Ext.refl w2).alloc (.cells #[.int .i64 x1, .int .i64 x2, .slice x3 x4 x5] 44)
      obtain ⟨s0, s1, s2, f0, f1, f2⟩ := own3 ((h2.trans hx3).blk hb2)
      have hxx := (hx0.trans h1).trans h2
      clear z0 z1 z2 hb1 hb2 hs2 hx3
      go_wp2_with fail
      rw [E2.out]
      refine bodyPost_ret (v := .tuple #[.agg #[.int .i64 0, .int .i64 0, .slice none 0 0], .bool false]) (by simp [results, Try.results101, go_sem, s0, s1, s2]) rfl ⟨_, rfl, Lies.leaf _ _ _, ?_⟩
      exact ((((hxx.alloc _).setCell (by simp) _).setCell (by simp) _).setCell (by simp) _)
    | some u =>
      have hcu := HCN.out u rfl
      go_enter Try.func101, Try.ntmps101
      go_wp2_with fail
      refine (HV.out _ hx0).mono ?_
      rintro e w1 ⟨rfl, h1⟩
      obtain ⟨hb1, hb2, hs2⟩ := blk2 h1
      obtain ⟨z0, z1, z2, -, -, -⟩ := own3 hb1
      go_wp2_with fail
      refine (HX2.out _ (hx0.trans h1)).mono ?_
      rintro e w2 ⟨x, rfl, hL2, h2⟩
      simp only [Option.getD_some] at hL2
      obtain ⟨x1, x2, x3, x4, x5, rfl⟩ := hL2.three
      have hx3 := (Ext.refl w2).alloc (.cells #[.int .i64 x1, .int .i64 x2, .slice x3 x4 x5] 44)
      have hs3 : w.heap.size + 1 < w2.heap.size := lt_of_blk (h2.blk hb2)
      clear z0 z1 z2 hb1
      go_wp2_with fail
      refine (l1Copy_any u _ _ (hL2.ext hx3) (by omega)).mono ?_
      rintro e w4 ⟨y, rfl, hM4, h4⟩
      obtain ⟨y1, y2, y3, y4, y5, rfl⟩ := hM4.three
      have hb4 := (h2.trans (hx3.trans h4)).blk hb2
      obtain ⟨s0, s1, s2, f0, f1, f2⟩ := own3 hb4
      have hxx := ((hx0.trans h1).trans h2).trans (hx3.trans h4)
      clear hb2 hb4
      go_wp2_with fail
      rw [E2.out]
      refine bodyPost_ret (v := .tuple #[.agg #[.int .i64 y1, .int .i64 y2, .slice y3 y4 y5], .bool true]) (by simp [results, Try.results101, go_sem, s0, s1, s2]) rfl ⟨_, rfl, ?_, ?_⟩
      · exact Made.lies (hM4.after ((((Above.refl _ _).setCell (by simp; omega) _).setCell (by simp; omega) _).setCell (by simp; omega) _))
      · exact (((hxx.setCell (by simp) _).setCell (by simp) _).setCell (by simp) _)
end Go.Proofs.Ytappakllopkfiaa

/-
  Lemmas towards the law, 33: Contracted, StepT.
-/
import Derived.Test.YtappakllopkfiaaKAN
import Derived.Test.YtappakllopkfiaaKBE
import Derived.Test.YtappakllopkfiaaKBF
namespace Go.Proofs.Ytappakllopkfiaa
open Go.RowKit
set_option linter.unusedVariables false
theorem contract_any (t : Tr) (hv : valid sigT t = true) (hr : isRdx t = true) (w : World) (v : Value) (hin : Lies w t v) : Calls Try.prog 152 #[v] w (ConQ w (ctrT t)) := by
  obtain ⟨k, n, ks⟩ := t
  obtain ⟨A, cap, rfl, hl, hc, hK⟩ := Lies.mk_iff.1 hin
  rcases rdx_cases (isRdx_iff.1 hr) with ⟨rfl, h⟩ | ⟨rfl, h⟩ | ⟨rfl, h⟩ | ⟨rfl, h⟩ | ⟨rfl, h⟩ | ⟨rfl, h⟩
  · exact contract_1 n ks hv w A cap hin hK hl hc h
  · exact contract_2 n ks hv w A cap hin hK hl hc h
  · exact contract_3 n ks hv w A cap hin hK hl hc h
  · exact contract_4 n ks hv w A cap hin hK hl hc h
  · exact contract_5 n ks hv w A cap hin hK hl hc h
  · exact contract_6 n ks hv w A cap hin hK hl hc h
set_option maxRecDepth 100000 in
set_option maxHeartbeats 1000000 in
theorem at_any (t : Tr) (path : List Int) (u : Tr) (hat : atT t path = some u) (w : World) (v : Value) (hin : Lies w t v) (A : Option Addr) (cap : Nat) (hl : path.length ≤ cap) (hc : cap ≤ maxLen) (hP : Nums w A path) :
    Calls Try.prog 153 #[v, .slice A path.length cap] w fun e w' => ∃ x, e = .returned x ∧ Lies w' u x ∧ Ext w w' := by
  obtain ⟨k, n, ks⟩ := t
  obtain ⟨At, ct, rfl, hlt, hct, hKt⟩ := Lies.mk_iff.1 hin
  have hcc := hc
  unfold maxLen at hcc
  have hx0 := ((Ext.refl w).alloc (.cells #[.int .i64 k, .int .i64 n, .slice At ks.length ct] 44)).alloc (.cells #[.int .i64 0, .int .i64 0, .slice none 0 0] 44)
  obtain ⟨hb0, hb1, hs0⟩ := blk2 (Ext.refl ((w.alloc (.cells #[.int .i64 k, .int .i64 n, .slice At ks.length ct] 44)).alloc (.cells #[.int .i64 0, .int .i64 0, .slice none 0 0] 44)))
  clear hin
  go_enter Try.func153, Try.ntmps153
  go_wp2_with fail
  generalize World.alloc (World.alloc w _) _ = wS at hx0 hb0 hb1 hs0 ⊢
  go_loopw [9] (fun i wr => ∃ (j : Nat) (k' n' : Int) (kids : List Tr) (A' : Option Addr) (c' : Nat), j ≤ path.length ∧ i = .int .i64 j ∧
    Hid (atT (.mk k' n' kids) (path.drop j) = some u) ∧ kids.length ≤ c' ∧ c' ≤ maxLen ∧ LiesK w A' kids ∧
    wr.heap[w.heap.size]? = some (.cells #[.int .i64 k', .int .i64 n', .slice A' kids.length c'] 44 (0, 0)) ∧ wr.heap[w.heap.size + 1]? = some (.cells #[.int .i64 0, .int .i64 0, .slice none 0 0] 44 (0, 0)) ∧ Ext w wr) (fun i _ => path.length - (intOf i).toNat)
  case atStart => exact ⟨0, k, n, ks, At, ct, Nat.zero_le _, rfl, Lib.hid hat, hlt, hct, hKt, hb0, hb1, hx0⟩
  case round =>
    obtain ⟨j, k', n', kids, A', c', hj, rfl, HA, hkl, hkc, hK, hb, hbR, hx⟩ := hrel
    have hsz : w.heap.size + 1 < wr.heap.size := lt_of_blk hbR
    obtain ⟨z0, z1, z2, f0, f1, f2⟩ := own3 hb
    obtain ⟨y0, y1, y2, g0, g1, g2⟩ := own3 hbR
    by_cases hlj : j < path.length
    · obtain ⟨bp, op, rfl, cp⟩ := hP.get hx hlj
      have hdr : path.drop j = path[j] :: path.drop (j + 1) := List.drop_eq_getElem_cons hlj
      have HA1 := HA.out
      rw [hdr, atT_step] at HA1
      clear HA hdr
      generalize path[j] = i at cp HA1
      have hj2 : (j : Int) < (path.length : Int) := by omega
      have hj0 : (0 : Int) ≤ (j : Int) := Int.natCast_nonneg _
      have hi2 : 0 ≤ i ∧ i < (kids.length : Int) := by
        split at HA1
        · assumption
        · cases HA1
      rw [if_pos hi2] at HA1
      obtain ⟨m, rfl⟩ := Int.eq_ofNat_of_zero_le hi2.1
      have hm : m < kids.length := by omega
      have e0 : ((m : Int)).toNat = m := by omega
      rw [e0] at HA1
      obtain ⟨b, o, k2, n2, A2, c2, kids2, rfl, HK, d0, d1, d2, hkl2, hkc2, hK2, hin2, hmem⟩ := hK.get (Ext.refl w) hm
      have hkd : kd kids m = .mk k2 n2 kids2 := kd_of hm HK.out
      rw [hkd] at HA1
      have HA2 := Lib.hid HA1
      have hm2 : (m : Int) < (kids.length : Int) := hi2.2
      have hm0 : (0 : Int) ≤ (m : Int) := hi2.1
      have c0 := hx.cell d0
      have c1 := hx.cell d1
      have c2' := hx.cell d2
      clear hkd HK hmem hi2 e0 d0 d1 d2 HA1
      have hkc3 := hkc
      unfold maxLen at hkc3
      go_wp2_with fail
      go_roundw
      case rel => exact ⟨j + 1, k2, n2, kids2, A2, c2, by omega, by go_num, HA2, hkl2, hkc2, hK2, blk_setCell (blk_setCell (blk_setCell hb 0 _) 1 _) 2 _, blk_setCell_ne (blk_setCell_ne (blk_setCell_ne hbR (by simp) _) (by simp) _) (by simp) _, ((hx.setCell (by simp) _).setCell (by simp) _).setCell (by simp) _⟩
      case measure => simp [intOf]; omega
    · have hje : path.drop j = [] := List.drop_of_length_le (by omega)
      have HA1 := HA.out
      rw [hje] at HA1
      have HU : (.mk k' n' kids : Tr) = u := by simpa [atT] using HA1
      clear HA HA1 hje
      go_wp2_with fail
      refine bodyPost_ret (v := .agg #[.int .i64 k', .int .i64 n', .slice A' kids.length c']) (by simp [results, Try.results153, go_sem, y0, y1, y2]) rfl ⟨_, rfl, ?_, ?_⟩
      · rw [← HU]
        exact Lies.mk hkl hkc (hK.ext (((hx.setCell (by simp) _).setCell (by simp) _).setCell (by simp) _))
      · exact (((hx.setCell (by simp) _).setCell (by simp) _).setCell (by simp) _)
set_option maxRecDepth 100000 in
set_option maxHeartbeats 2000000 in
theorem contracted_any (t : Tr) (p : List Int) (hv : valid sigT t = true) (hr : rdxA t p = true) (w : World) (v : Value) (hin : Lies w t v) (A : Option Addr) (n cap : Nat) (hp : PFs w A n cap p) (hn : n ≤ 1000) :
    Calls Try.prog 94 #[v, .slice A n cap] w fun e w' => ∃ r, e = .returned (.tuple #[r, .bool (conV t p).2]) ∧ Made w w' 44 (conV t p).1 r ∧ Ext w w' := by
  obtain ⟨u, hat, hru⟩ := rdxA_some hr
  have hvu := valid_at hv hat
  have hca : conA t p = putA t p (ctrT u) := by unfold conA; rw [hat]
  have HAT := Lib.hid (fun W (hW : Ext w W) => by
    have := at_any t p u hat W v (hin.ext hW) A cap (by rw [hp.hn]; exact hp.hl) hp.hc (hp.hP.ext hW)
    rw [hp.hn] at this
    exact this)
  have HCT := Lib.hid (fun W x (hx : Lies W u x) => contract_any u hvu hru W x hx)
  have HPT := Lib.hid (fun W (hW : Ext w W) x (hx : Lies W (ctrT u) x) => put_any p t (ctrT u) 30 (cnt_of_valid hv).2 (by rw [hat]; rfl) W v x (fun b => b < W.heap.size) (fun _ h => h) (hin.ext hW) hx A n cap (hp.ext hW) hn (by have := (cnt_of_valid hv).1; omega))
  have hcn : valid sigT (ctrT u) = true → cnt (putA t p (ctrT u)) ≤ 1000000 := fun h => by
    have h1 := cnt_putA p t (ctrT u) u hat
    have h2 := (cnt_of_valid h).1
    have h3 := (cnt_of_valid hv).1
    omega
  have hpart := conA_part (t := t) hat
  have hc1 : (conV t p).1 = okT (putA t p (ctrT u)) := by unfold conV okT; rw [hca]; split <;> rfl
  have hc2 : (conV t p).2 = valid sigT (putA t p (ctrT u)) := by
    unfold conV; rw [hca]; split
    · rename_i h; exact h.symm
    · rename_i h; exact (Bool.eq_false_iff.2 h).symm
  rw [hca] at hpart
  rw [hc1, hc2]
  clear hc1 hc2 hca hat hru hr hvu
  generalize putA t p (ctrT u) = X at HPT hcn hpart ⊢
  generalize ctrT u = c at HCT HPT hcn hpart
  obtain ⟨k, nn, ks⟩ := t
  obtain ⟨At, ct, rfl, -, -, -⟩ := Lies.mk_iff.1 hin
  have hx0 := ((Ext.refl w).alloc (.cells #[.int .i64 k, .int .i64 nn, .slice At ks.length ct] 44)).alloc (.cells #[.int .i64 0, .int .i64 0, .slice none 0 0] 44)
  obtain ⟨hb0, hb1, hs2⟩ := blk2 (Ext.refl ((w.alloc (.cells #[.int .i64 k, .int .i64 nn, .slice At ks.length ct] 44)).alloc (.cells #[.int .i64 0, .int .i64 0, .slice none 0 0] 44)))
  obtain ⟨wS, hwS⟩ : ∃ x, x = (w.alloc (.cells #[.int .i64 k, .int .i64 nn, .slice At ks.length ct] 44)).alloc (.cells #[.int .i64 0, .int .i64 0, .slice none 0 0] 44) := ⟨_, rfl⟩
  rw [← hwS] at hx0 hb0 hb1 hs2
  obtain ⟨z, hz⟩ : ∃ z, valid sigT c = z := ⟨_, rfl⟩
  have HCT2 := Lib.hid (show ∀ W x, Lies W u x → Calls Try.prog 152 #[x] W fun e w' => ∃ r, e = .returned (.tuple #[r, .bool z]) ∧ Made W w' 44 (okT c) r ∧ Ext W w' from fun W x hx => hz ▸ HCT.out W x hx)
  clear HCT
  have HOK := Lib.hid (show z = true → okT c = c from fun h => by unfold okT; rw [if_pos (hz.trans h)])
  have HNO := Lib.hid (show z = false → valid sigT X = false from fun h => Bool.eq_false_iff.2 fun h' => by have := hpart h'; rw [hz, h] at this; cases this)
  have HCN := Lib.hid (show z = true → cnt X ≤ 1000000 from fun h => hcn (hz.trans h))
  clear hz hcn hpart
  cases z with
  | false =>
    have E2 := HNO.out rfl
    have E3 : okT X = dflt0 := by unfold okT; rw [if_neg (by rw [E2]; decide)]
    rw [E2, E3]
    clear HNO HOK HCN E2 E3 HPT
    go_enter Try.func94, Try.ntmps94
    go_wp2_with fail
    rw [← hwS]
    clear hwS
    refine (HAT.out _ hx0).mono ?_
    rintro e w1 ⟨x, rfl, hL, h1⟩
    go_wp2_with fail
    refine (HCT2.out _ _ hL).mono ?_
    rintro e w2 ⟨r, rfl, hM, h2⟩
    obtain ⟨a1, a2, a3, a4, a5, rfl⟩ := hM.three'
    obtain ⟨s0, s1, s2, f0, f1, f2⟩ := own3 (((h1.trans h2).trans ((Ext.refl w2).alloc (.cells #[.int .i64 a1, .int .i64 a2, .slice a3 a4 a5] 44))).blk hb1)
    go_wp2_with fail
    refine bodyPost_ret (v := .tuple #[.agg #[.int .i64 0, .int .i64 0, .slice none 0 0], .bool false]) (by simp [results, Try.results94, go_sem, s0, s1, s2]) rfl ⟨_, rfl, Made.leaf _ _ _ 0 0, ?_⟩
    exact ((((((hx0.trans h1).trans h2).alloc _).setCell (by simp) _).setCell (by simp) _).setCell (by simp) _)
  | true =>
    have E2 := HOK.out rfl
    have HC := HCN.out rfl
    rw [E2] at HCT2
    clear HNO HOK HCN E2
    go_enter Try.func94, Try.ntmps94
    go_wp2_with fail
    rw [← hwS]
    clear hwS
    refine (HAT.out _ hx0).mono ?_
    rintro e w1 ⟨x, rfl, hL, h1⟩
    go_wp2_with fail
    refine (HCT2.out _ _ hL).mono ?_
    rintro e w2 ⟨r, rfl, hM, h2⟩
    obtain ⟨a1, a2, a3, a4, a5, rfl⟩ := hM.three'
    have h3 := (Ext.refl w2).alloc (.cells #[.int .i64 a1, .int .i64 a2, .slice a3 a4 a5] 44)
    have h13 := (h1.trans h2).trans h3
    obtain ⟨z0, z1, z2, -, -, -⟩ := own3 (h13.blk hb0)
    have hL3 := hM.lies.ext h3
    clear hM hL
    go_wp2_with fail
    refine (HPT.out _ (hx0.trans h13) _ hL3).mono ?_
    rintro e w4 ⟨y, rfl, hY, h4⟩
    have hLY : Lies w4 X y := InT.mono (fun b hb => by rcases hb with h | h; exact Nat.lt_of_lt_of_le h h4.size; exact h.2) (fun _ _ => rfl) hY
    clear hY hL3
    go_wp2_with fail
    refine (own_any _ _ _ hLY HC).mono ?_
    rintro e w5 ⟨yo, rfl, hMo, h5⟩
    go_wp2_with fail
    refine (valid_made hMo).mono ?_
    rintro e w6 ⟨b1, b2, b3, b4, b5, rfl, hM6, h6⟩
    have h16 := ((h13.trans h4).trans h5).trans h6
    obtain ⟨s0, s1, s2, f0, f1, f2⟩ := own3 (h16.blk hb1)
    have hw4 : w.heap.size + 2 ≤ w4.heap.size := by have := hx0.size; have := (h13.trans h4).size; omega
    go_wp2_with fail
    refine bodyPost_ret (v := .tuple #[.agg #[.int .i64 b1, .int .i64 b2, .slice b3 b4 b5], .bool (valid sigT X)]) (by simp [results, Try.results94, go_sem, s0, s1, s2]) rfl ⟨_, rfl, Made.since (hM6.after ((((Above.refl _ _).setCell (p := ⟨w.heap.size + 1, 0, none⟩) (by show w.heap.size + 1 < _; omega) (.int .i64 b1)).setCell (p := ⟨w.heap.size + 1, 1, none⟩) (by show w.heap.size + 1 < _; omega) (.int .i64 b2)).setCell (p := ⟨w.heap.size + 1, 2, none⟩) (by show w.heap.size + 1 < _; omega) (.slice b3 b4 b5))) (by omega), ?_⟩
    exact ((((hx0.trans h16).setCell (by simp) _).setCell (by simp) _).setCell (by simp) _)
end Go.Proofs.Ytappakllopkfiaa
namespace Go.Proofs.Ytappakllopkfiaa
open Go.RowKit
set_option linter.unusedVariables false
theorem atT_len : ∀ (p : List Int) (t u : Tr) (d : Int), shape sigT t d = true → atT t p = some u → (p.length : Int) < d
  | [], t, u, d, h, _ => by have := shape_pos' h; simp; omega
  | i :: r, .mk k n ks, u, d, h, e => by
    rw [atT_step] at e
    split at e
    · rename_i hi
      obtain ⟨-, -, -, hsk⟩ := shape_kids h
      have := atT_len r _ u (d - 1) (hsk _ (kd_mem (i := i.toNat) (by omega))) e
      simp only [List.length_cons]
      omega
    · cases e
theorem pfs_row {w : World} {base : Nat} {v : Value} {p : List Int} (h : w.ownsRow base 3 1 v p.length (p.map (Value.int .i64))) : ∃ B c, v = .slice B p.length c ∧ PFs w B p.length c p := by
  obtain ⟨B, c, rfl, h1, h2, h3⟩ := ownsRow_nums h
  exact ⟨B, c, rfl, rfl, h1, h2, h3⟩
set_option maxRecDepth 100000 in
set_option maxHeartbeats 2000000 in
theorem contractAt_any (t : Tr) (p : List Int) (w : World) (v : Value) (hin : Lies w t v) (A : Option Addr) (n cap : Nat) (hp : PFs w A n cap p) :
    Calls Try.prog 33 #[v, .slice A n cap] w fun e w' => ∃ r, e = .returned (.tuple #[r, .bool (conP t p).2]) ∧ Made w w' 44 (conP t p).1 r ∧ Ext w w' := by
  have HV := Lib.hid (fun W (hW : Ext w W) => validTerm_any t W v (hin.ext hW))
  have HX := Lib.hid (fun (h : valid sigT t = true) W (hW : Ext w W) => by
    have := walked_any t 30 (cnt_of_valid h).2 (by decide) p W v (hin.ext hW) A cap (by rw [hp.hn]; exact hp.hl) hp.hc (hp.hP.ext hW)
    rw [hp.hn] at this
    exact this)
  have HRX := Lib.hid (fun (h : valid sigT t = true) u (hu : atT t p = some u) W x (hx : Lies W u x) => redex_any u 30 (cnt_of_valid (valid_at h hu)).2 W x hx)
  have HCO := Lib.hid (fun (h : valid sigT t = true) (hr : rdxA t p = true) W (hW : Ext w W) => contracted_any t p h hr W v (hin.ext hW) A n cap (hp.ext hW) (by
    obtain ⟨u, hu, -⟩ := rdxA_some hr
    have h1 := atT_len p t u 30 (cnt_of_valid h).2 hu
    have h2 := hp.hn
    omega))
  have E : conP t p = if (valid sigT t && rdxA t p) = true then conV t p else (dflt0, false) := rfl
  have ER : rdxA t p = match atT t p with | some u => isRdx u | none => false := rfl
  rw [E]
  clear E
  generalize rdxA t p = rr at ER HCO ⊢
  generalize atT t p = q at ER HX HRX
  generalize conV t p = Y at HCO ⊢
  obtain ⟨z, hz⟩ : ∃ z, valid sigT t = z := ⟨_, rfl⟩
  rw [hz] at HV HX HCO HRX ⊢
  clear hz
  obtain ⟨k, nn, ks⟩ := t
  obtain ⟨At, ct, rfl, -, -, -⟩ := Lies.mk_iff.1 hin
  have hx0 := ((Ext.refl w).alloc (.cells #[.int .i64 k, .int .i64 nn, .slice At ks.length ct] 44)).alloc (.cells #[.int .i64 0, .int .i64 0, .slice none 0 0] 44)
  obtain ⟨hb0, hb1, hs2⟩ := blk2 (Ext.refl ((w.alloc (.cells #[.int .i64 k, .int .i64 nn, .slice At ks.length ct] 44)).alloc (.cells #[.int .i64 0, .int .i64 0, .slice none 0 0] 44)))
  obtain ⟨wS, hwS⟩ : ∃ x, x = (w.alloc (.cells #[.int .i64 k, .int .i64 nn, .slice At ks.length ct] 44)).alloc (.cells #[.int .i64 0, .int .i64 0, .slice none 0 0] 44) := ⟨_, rfl⟩
  rw [← hwS] at hx0 hb0 hb1 hs2
  cases z with
  | false =>
    rw [if_neg (by simp)]
    clear ER HX HRX HCO
    go_enter Try.func33, Try.ntmps33
    go_wp2_with fail
    rw [← hwS]
    clear hwS
    refine (HV.out _ hx0).mono ?_
    rintro e w1 ⟨rfl, h1⟩
    obtain ⟨s0, s1, s2, f0, f1, f2⟩ := own3 (h1.blk hb1)
    go_wp2_with fail
    refine bodyPost_ret (v := .tuple #[.agg #[.int .i64 0, .int .i64 0, .slice none 0 0], .bool false]) (by simp [results, Try.results33, go_sem, s0, s1, s2]) rfl ⟨_, rfl, Made.leaf _ _ _ 0 0, ?_⟩
    exact ((((hx0.trans h1).setCell (by simp) _).setCell (by simp) _).setCell (by simp) _)
  | true =>
    have HX2 := Lib.hid (HX.out rfl)
    have HRX2 := Lib.hid (HRX.out rfl)
    have HCO2 := Lib.hid (HCO.out rfl)
    clear HX HRX HCO
    cases q with
    | none =>
      simp only at ER
      subst ER
      rw [if_neg (by simp)]
      clear HRX2 HCO2
      simp only [Option.isSome_none, Option.getD_none] at HX2
      go_enter Try.func33, Try.ntmps33
      go_wp2_with fail
      rw [← hwS]
      clear hwS
      refine (HV.out _ hx0).mono ?_
      rintro e w1 ⟨rfl, h1⟩
      obtain ⟨z0, z1, z2, -, -, -⟩ := own3 (h1.blk hb0)
      go_wp2_with fail
      refine (HX2.out _ (hx0.trans h1)).mono ?_
      rintro e w2 ⟨x, ar, rfl, hL, -, -, h2⟩
      obtain ⟨b1, b2, b3, b4, b5, rfl⟩ := InT.three hL
      have h16 := (h1.trans h2).trans ((Ext.refl w2).alloc (.cells #[.int .i64 b1, .int .i64 b2, .slice b3 b4 b5] 44))
      obtain ⟨s0, s1, s2, f0, f1, f2⟩ := own3 (h16.blk hb1)
      clear z0 z1 z2
      go_wp2_with fail
      refine bodyPost_ret (v := .tuple #[.agg #[.int .i64 0, .int .i64 0, .slice none 0 0], .bool false]) (by simp [results, Try.results33, go_sem, s0, s1, s2]) rfl ⟨_, rfl, Made.leaf _ _ _ 0 0, ?_⟩
      exact ((((hx0.trans h16).setCell (by simp) _).setCell (by simp) _).setCell (by simp) _)
    | some u =>
      simp only at ER
      simp only [Option.isSome_some, Option.getD_some] at HX2
      obtain ⟨r, hr⟩ : ∃ r, rdxT u = r := ⟨_, rfl⟩
      have HRX3 := Lib.hid (show ∀ W x, Lies W u x → Calls Try.prog 88 #[x] W fun e w' => e = .returned (.int .i64 r) ∧ Ext W w' from fun W x hx => hr ▸ HRX2.out u rfl W x hx)
      have ER2 : rr = (r != 0) := by rw [ER]; unfold isRdx; rw [hr]
      clear ER hr HRX2
      by_cases h0 : r = 0
      · subst h0
        have ER3 : rr = false := ER2
        subst ER3
        rw [if_neg (by simp)]
        clear ER2 HCO2
        go_enter Try.func33, Try.ntmps33
        go_wp2_with fail
        rw [← hwS]
        clear hwS
        refine (HV.out _ hx0).mono ?_
        rintro e w1 ⟨rfl, h1⟩
        obtain ⟨z0, z1, z2, -, -, -⟩ := own3 (h1.blk hb0)
        go_wp2_with fail
        refine (HX2.out _ (hx0.trans h1)).mono ?_
        rintro e w2 ⟨x, ar, rfl, hL, -, -, h2⟩
        obtain ⟨b1, b2, b3, b4, b5, rfl⟩ := InT.three hL
        have h3 := (Ext.refl w2).alloc (.cells #[.int .i64 b1, .int .i64 b2, .slice b3 b4 b5] 44)
        have hL2 := Lies.ext hL h3
        clear z0 z1 z2
        go_wp2_with fail
        refine (HRX3.out _ _ hL2).mono ?_
        rintro e w4 ⟨rfl, h4⟩
        have h16 := ((h1.trans h2).trans h3).trans h4
        obtain ⟨s0, s1, s2, f0, f1, f2⟩ := own3 (h16.blk hb1)
        go_wp2_with fail
        refine bodyPost_ret (v := .tuple #[.agg #[.int .i64 0, .int .i64 0, .slice none 0 0], .bool false]) (by simp [results, Try.results33, go_sem, s0, s1, s2]) rfl ⟨_, rfl, Made.leaf _ _ _ 0 0, ?_⟩
        exact ((((hx0.trans h16).setCell (by simp) _).setCell (by simp) _).setCell (by simp) _)
      · have ER3 : rr = true := ER2.trans (bne_iff_ne.2 h0)
        have hb0r : (r == 0) = false := beq_eq_false_iff_ne.2 h0
        subst ER3
        rw [if_pos (by rfl)]
        have HCO3 := Lib.hid (HCO2.out rfl)
        clear ER2 HCO2
        go_enter Try.func33, Try.ntmps33
        go_wp2_with fail
        rw [← hwS]
        clear hwS
        refine (HV.out _ hx0).mono ?_
        rintro e w1 ⟨rfl, h1⟩
        obtain ⟨z0, z1, z2, -, -, -⟩ := own3 (h1.blk hb0)
        go_wp2_with fail
        refine (HX2.out _ (hx0.trans h1)).mono ?_
        rintro e w2 ⟨x, ar, rfl, hL, -, -, h2⟩
        obtain ⟨b1, b2, b3, b4, b5, rfl⟩ := InT.three hL
        have h3 := (Ext.refl w2).alloc (.cells #[.int .i64 b1, .int .i64 b2, .slice b3 b4 b5] 44)
        have hL2 := Lies.ext hL h3
        clear z0 z1 z2
        go_wp2_with fail
        refine (HRX3.out _ _ hL2).mono ?_
        rintro e w4 ⟨rfl, h4⟩
        have h14 := ((h1.trans h2).trans h3).trans h4
        obtain ⟨z0, z1, z2, -, -, -⟩ := own3 (h14.blk hb0)
        go_wp2_with fail
        refine (HCO3.out _ (hx0.trans h14)).mono ?_
        rintro e w5 ⟨y, rfl, hM, h5⟩
        obtain ⟨c1, c2, c3, c4, c5, rfl⟩ := hM.three'
        have h16 := h14.trans h5
        obtain ⟨s0, s1, s2, f0, f1, f2⟩ := own3 (h16.blk hb1)
        have hw4 : w.heap.size + 2 ≤ w4.heap.size := by have := hx0.size; have := h14.size; omega
        clear z0 z1 z2
        go_wp2_with fail
        refine bodyPost_ret (v := .tuple #[.agg #[.int .i64 c1, .int .i64 c2, .slice c3 c4 c5], .bool Y.2]) (by simp [results, Try.results33, go_sem, s0, s1, s2]) rfl ⟨_, rfl, Made.since (hM.after ((((Above.refl _ _).setCell (p := ⟨w.heap.size + 1, 0, none⟩) (by show w.heap.size + 1 < _; omega) (.int .i64 c1)).setCell (p := ⟨w.heap.size + 1, 1, none⟩) (by show w.heap.size + 1 < _; omega) (.int .i64 c2)).setCell (p := ⟨w.heap.size + 1, 2, none⟩) (by show w.heap.size + 1 < _; omega) (.slice c3 c4 c5))) (by omega), ?_⟩
        exact ((((hx0.trans h16).setCell (by simp) _).setCell (by simp) _).setCell (by simp) _)
end Go.Proofs.Ytappakllopkfiaa

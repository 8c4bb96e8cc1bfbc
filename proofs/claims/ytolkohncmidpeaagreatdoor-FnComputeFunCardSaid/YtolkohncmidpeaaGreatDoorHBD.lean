/-
  Lemmas towards the law, 30: Places3, Contracted, StepT, Norm.
-/
import Derived.Test.YtolkohncmidpeaaGreatDoorHAM
import Derived.Test.YtolkohncmidpeaaGreatDoorHAN
import Derived.Test.YtolkohncmidpeaaGreatDoorHAW
import Derived.Test.YtolkohncmidpeaaGreatDoorHBC
namespace Go.Proofs.YtolkohncmidpeaaGreatDoor
open Go.RowKit
set_option linter.unusedVariables false
attribute [local go_sem ↓] Go.wp_at_zero Go.wp_at_succ
def outP (t : Tr) : List Int := (outT t).getD []
def OutC (t : Tr) : Prop := ∀ (w : World) (v : Value) (d : Int), shape sigT t d = true → Lies w t v → d ≤ 1000 → Calls Tryz.prog 103 #[v] w fun e w' => ∃ x, e = .returned (.tuple #[x, .bool (outT t).isSome]) ∧ w'.ownsRow w.heap.size 3 1 x (outP t).length ((outP t).map (Value.int .i64)) ∧ Ext w w'
set_option maxRecDepth 100000 in
set_option maxHeartbeats 2000000 in
theorem outer_any : ∀ t : Tr, OutC t := Tr.ind fun k n ks hk => by
  intro w v d hsh hin hd
  have HR := Lib.hid (fun V (hV : Ext w V) => redex_any (.mk k n ks) d hsh V v (hin.ext hV))
  have hol := outT_len (.mk k n ks) d hsh
  obtain ⟨-, -, -, hsk⟩ := shape_kids hsh
  obtain ⟨A, cap, rfl, hl, hc, hK⟩ := Lies.mk_iff.1 hin
  obtain ⟨i0, hi, hz0, hz1, hz2⟩ := info_parts infoIntP
  have hcc := hc
  unfold maxLen at hcc
  have ho : outT (.mk k n ks) = if rdx k ks = 0 then outTs 0 ks else some [] := by rw [outT]
  have hx0 := (Ext.refl w).alloc (.cells #[.int .i64 k, .int .i64 n, .slice A ks.length cap] 45)
  have hbB := heap_alloc_new w (.cells #[.int .i64 k, .int .i64 n, .slice A ks.length cap] 45)
  obtain ⟨r, hr⟩ : ∃ r, rdx k ks = r := ⟨_, rfl⟩
  have HR2 := Lib.hid (show ∀ V, Ext w V → Calls Tryz.prog 136 #[.agg #[.int .i64 k, .int .i64 n, .slice A ks.length cap]] V fun e w' => e = .returned (.int .i64 r) ∧ Ext V w' from fun V hV => by have := HR.out V hV; rw [show rdxT (.mk k n ks) = r from hr] at this; exact this)
  rw [hr] at ho
  clear hr HR
  by_cases h0 : r = 0
  · rw [if_pos h0] at ho
    have hb0 : (r != 0) = false := by rw [h0]; rfl
    subst h0
    have HO := Lib.hid ho
    clear ho hin
    go_enter Tryz.func103, Tryz.ntmps103
    go_wp2_with fail
    refine (HR2.out _ hx0).mono ?_
    rintro e w1 ⟨rfl, h1⟩
    obtain ⟨z0, z1, z2, -, -, -⟩ := own3 (h1.blk hbB)
    have lz := lt_of_blk (h1.blk hbB)
    have hx1 := hx0.trans h1
    clear hbB h1 hx0 HR2
    go_wp2_with fail
    clear z0 z1 z2 lz
    go_loopw [14] (fun i wr => ∃ (j : Nat), j ≤ ks.length ∧ i = .int .i64 j ∧ Hid (outTs 0 ks = outTs j (ks.drop j)) ∧ Ext w wr) (fun i _ => ks.length - (intOf i).toNat)
    case atStart => exact ⟨0, Nat.zero_le _, rfl, Lib.hid rfl, hx1⟩
    case round =>
      obtain ⟨j, hj', rfl, HE, hx⟩ := hrel
      by_cases hlt : j < ks.length
      · obtain ⟨b, o, k', n', A', cap', kids, rfl, HK, c0, c1, c2, hkl, hkc, hK', hin', hmem⟩ := hK.get hx hlt
        have hst : outTs j (ks.drop j) = match outT (.mk k' n' kids) with | some p => some ((j : Int) :: p) | none => outTs (j + 1) (ks.drop (j + 1)) := by
          rw [List.drop_eq_getElem_cons hlt, HK.out]; conv => lhs; unfold outTs
          rfl
        have hol2 := outT_len (.mk k' n' kids) (d - 1) (hsk _ hmem)
        have hx5 := (Ext.refl wr).alloc (.cells #[.int .i64 k', .int .i64 n', .slice A' kids.length cap'] 45)
        have HC := Lib.hid (hk _ hmem _ _ (d - 1) (hsk _ hmem) (hin'.ext hx5) (by omega))
        have hpe : outP (.mk k' n' kids) = (outT (.mk k' n' kids)).getD [] := rfl
        rw [hpe] at HC
        clear hpe
        generalize outT (.mk k' n' kids) = q at hst hol2 HC
        have hj2 : (j : Int) < (ks.length : Int) := by omega
        clear hol hin'
        go_wp2_with fail
        refine HC.out.mono ?_
        rintro e w2 ⟨x, rfl, hq, h2⟩
        have hx2 := (hx.trans hx5).trans h2
        cases q with
        | some p =>
          have hpl := hol2 p rfl
          simp only [Option.getD_some] at hq
          simp only at hst
          have HO2 := Lib.hid ((HO.out.trans HE.out).trans hst)
          have hpa := ownsRow_pathL hq
          obtain ⟨Bq, cq, rfl, -, -, -⟩ := ownsRow_nums hq
          have hx3 := (Ext.refl w2).alloc (.cells #[.int .i64 j] 3)
          have hG : (w2.alloc (.cells #[.int .i64 j] 3)).ownsRow w2.heap.size 3 1 (.slice (some ⟨w2.heap.size, 0, none⟩) 1 1) ([(j : Int)]).length (([(j : Int)]).map (Value.int .i64)) := World.ownsRow_lit w2 #[.int .i64 j] 1 (Nat.le_refl _) (by decide) rfl
          have hpa3 := hpa.ext hx3
          clear hst HC HE HO hpa hq hol2
          go_wp2_with (at_builtin; refine wpList_append_ints _ rfl (.tmp 26) (.tmp 27) 32 rfl w2.heap.size 3 i0 _ 8 Tryz.underlying32 hi hz0 hz1 hz2 (by decide) rfl (ns := [(j : Int)]) (p := p) rfl hG (by simp) rfl hpa3 (by simp; omega) ?_)
          intro va wa hva hga hoa
          have hEa : Ext w wa := hx2.trans (hx3.grown hga (by intro g hg; simp [Value.ownBlock] at hg; omega))
          have hsz := hx2.size
          have hvw : wa.ownsRow w.heap.size 3 1 va ((j : Int) :: p).length ((((j : Int) :: p)).map (Value.int .i64)) := ownsRow_since hva hsz
          have HVW := Lib.hid hvw
          clear hva hga hoa hvw
          go_wp2_with fail
          go_ret2
          have hou : outP (.mk k n ks) = (j : Int) :: p := by unfold outP; rw [HO2.out]; rfl
          exact ⟨_, by rw [HO2.out]; rfl, by rw [hou]; exact HVW.out, hEa⟩
        | none =>
          simp only at hst
          have HE2 := Lib.hid (HE.out.trans hst)
          clear hst HC hq hol2
          go_wp2_with fail
          go_roundw
          case rel => exact ⟨j + 1, by omega, by go_num, HE2, hx2⟩
          case measure => simp [intOf]; omega
      · have HO2 := Lib.hid ((HO.out.trans HE.out).trans (show outTs j (ks.drop j) = none by rw [List.drop_of_length_le (by omega), outTs]))
        clear HE HO
        go_wp2_with fail
        go_ret2
        have hou : outP (.mk k n ks) = [] := by unfold outP; rw [HO2.out]; rfl
        exact ⟨_, by rw [HO2.out]; rfl, by rw [hou]; exact World.ownsRow_nil _ _ _ _, hx⟩
  · rw [if_neg h0] at ho
    have hb0 : (r != 0) = true := bne_iff_ne.2 h0
    have HO := Lib.hid ho
    clear ho
    go_enter Tryz.func103, Tryz.ntmps103
    go_wp2_with fail
    refine (HR2.out _ hx0).mono ?_
    rintro e w1 ⟨rfl, h1⟩
    go_wp2_with fail
    go_ret2
    have hou : outP (.mk k n ks) = [] := by unfold outP; rw [HO.out]; rfl
    exact ⟨_, by rw [HO.out]; rfl, by rw [hou]; exact World.ownsRow_nil _ _ _ _, hx0.trans h1⟩
end Go.Proofs.YtolkohncmidpeaaGreatDoor
namespace Go.Proofs.YtolkohncmidpeaaGreatDoor
open Go.RowKit
set_option linter.unusedVariables false
theorem contract_any (t : Tr) (hv : valid sigT t = true) (hr : isRdx t = true) (w : World) (v : Value) (hin : Lies w t v) : Calls Tryz.prog 164 #[v] w (ConQ w (ctrT t)) := by
  obtain ⟨k, n, ks⟩ := t
  obtain ⟨A, cap, rfl, hl, hc, hK⟩ := Lies.mk_iff.1 hin
  rcases rdx_cases (isRdx_iff.1 hr) with ⟨rfl, h⟩ | ⟨rfl, h⟩ | ⟨rfl, h⟩ | ⟨rfl, h⟩ | ⟨rfl, h⟩ | ⟨rfl, h⟩
  · exact contract_1 n ks hv w A cap hin hK hl hc h
  · exact contract_2 n ks hv w A cap hin hK hl hc h
  · exact contract_3 n ks hv w A cap hin hK hl hc h
  · exact contract_4 n ks hv w A cap hin hK hl hc h
  · exact contract_5 n ks hv w A cap hin hK hl hc h
  · exact contract_6 n ks hv w A cap hin hK hl hc h
set_option maxRecDepth 100000 in
set_option maxHeartbeats 1000000 in
theorem at_any (t : Tr) (path : List Int) (u : Tr) (hat : atT t path = some u) (w : World) (v : Value) (hin : Lies w t v) (A : Option Addr) (cap : Nat) (hl : path.length ≤ cap) (hc : cap ≤ maxLen) (hP : Nums w A path) :
    Calls Tryz.prog 165 #[v, .slice A path.length cap] w fun e w' => ∃ x, e = .returned x ∧ Lies w' u x ∧ Ext w w' := by
  obtain ⟨k, n, ks⟩ := t
  obtain ⟨At, ct, rfl, hlt, hct, hKt⟩ := Lies.mk_iff.1 hin
  have hcc := hc
  unfold maxLen at hcc
  have hx0 := ((Ext.refl w).alloc (.cells #[.int .i64 k, .int .i64 n, .slice At ks.length ct] 45)).alloc (.cells #[.int .i64 0, .int .i64 0, .slice none 0 0] 45)
  obtain ⟨hb0, hb1, hs0⟩ := blk2 (Ext.refl ((w.alloc (.cells #[.int .i64 k, .int .i64 n, .slice At ks.length ct] 45)).alloc (.cells #[.int .i64 0, .int .i64 0, .slice none 0 0] 45)))
  clear hin
  go_enter Tryz.func165, Tryz.ntmps165
  go_wp2_with fail
  generalize World.alloc (World.alloc w _) _ = wS at hx0 hb0 hb1 hs0 ⊢
  go_loopw [9] (fun i wr => ∃ (j : Nat) (k' n' : Int) (kids : List Tr) (A' : Option Addr) (c' : Nat), j ≤ path.length ∧ i = .int .i64 j ∧
    Hid (atT (.mk k' n' kids) (path.drop j) = some u) ∧ kids.length ≤ c' ∧ c' ≤ maxLen ∧ LiesK w A' kids ∧
    wr.heap[w.heap.size]? = some (.cells #[.int .i64 k', .int .i64 n', .slice A' kids.length c'] 45 (0, 0)) ∧ wr.heap[w.heap.size + 1]? = some (.cells #[.int .i64 0, .int .i64 0, .slice none 0 0] 45 (0, 0)) ∧ Ext w wr) (fun i _ => path.length - (intOf i).toNat)
  case atStart => exact ⟨0, k, n, ks, At, ct, Nat.zero_le _, rfl, Lib.hid hat, hlt, hct, hKt, hb0, hb1, hx0⟩
  case round =>
    obtain ⟨j, k', n', kids, A', c', hj, rfl, HA, hkl, hkc, hK, hb, hbR, hx⟩ := hrel
    have hsz : w.heap.size + 1 < wr.heap.size := lt_of_blk hbR
    obtain ⟨z0, z1, z2, f0, f1, f2⟩ := own3 hb
    obtain ⟨y0, y1, y2, g0, g1, g2⟩ := own3 hbR
    by_cases hlj : j < path.length
    · obtain ⟨bp, op, rfl, cp⟩ := hP.get hx hlj
      have hdr : path.drop j = path[j] :: path.drop (j + 1) := List.drop_eq_getElem_cons hlj
      have HA1 := HA.out
      rw [hdr, atT_step] at HA1
      clear HA hdr
      generalize path[j] = i at cp HA1
      have hj2 : (j : Int) < (path.length : Int) := by omega
      have hj0 : (0 : Int) ≤ (j : Int) := Int.natCast_nonneg _
      have hi2 : 0 ≤ i ∧ i < (kids.length : Int) := by
        split at HA1
        · assumption
        · cases HA1
      rw [if_pos hi2] at HA1
      obtain ⟨m, rfl⟩ := Int.eq_ofNat_of_zero_le hi2.1
      have hm : m < kids.length := by omega
      have e0 : ((m : Int)).toNat = m := by omega
      rw [e0] at HA1
      obtain ⟨b, o, k2, n2, A2, c2, kids2, rfl, HK, d0, d1, d2, hkl2, hkc2, hK2, hin2, hmem⟩ := hK.get (Ext.refl w) hm
      have hkd : kd kids m = .mk k2 n2 kids2 := kd_of hm HK.out
      rw [hkd] at HA1
      have HA2 := Lib.hid HA1
      have hm2 : (m : Int) < (kids.length : Int) := hi2.2
      have hm0 : (0 : Int) ≤ (m : Int) := hi2.1
      have c0 := hx.cell d0
      have c1 := hx.cell d1
      have c2' := hx.cell d2
      clear hkd HK hmem hi2 e0 d0 d1 d2 HA1
      have hkc3 := hkc
      unfold maxLen at hkc3
      go_wp2_with fail
      go_roundw
      case rel => exact ⟨j + 1, k2, n2, kids2, A2, c2, by omega, by go_num, HA2, hkl2, hkc2, hK2, blk_setCell (blk_setCell (blk_setCell hb 0 _) 1 _) 2 _, blk_setCell_ne (blk_setCell_ne (blk_setCell_ne hbR (by simp) _) (by simp) _) (by simp) _, ((hx.setCell (by simp) _).setCell (by simp) _).setCell (by simp) _⟩
      case measure => simp [intOf]; omega
    · have hje : path.drop j = [] := List.drop_of_length_le (by omega)
      have HA1 := HA.out
      rw [hje] at HA1
      have HU : (.mk k' n' kids : Tr) = u := by simpa [atT] using HA1
      clear HA HA1 hje
      go_wp2_with fail
      refine bodyPost_ret (v := .agg #[.int .i64 k', .int .i64 n', .slice A' kids.length c']) (by simp [results, Tryz.results165, go_sem, y0, y1, y2]) rfl ⟨_, rfl, ?_, ?_⟩
      · rw [← HU]
        exact Lies.mk hkl hkc (hK.ext (((hx.setCell (by simp) _).setCell (by simp) _).setCell (by simp) _))
      · exact (((hx.setCell (by simp) _).setCell (by simp) _).setCell (by simp) _)
set_option maxRecDepth 100000 in
set_option maxHeartbeats 2000000 in
theorem contracted_any (t : Tr) (p : List Int) (hv : valid sigT t = true) (hr : rdxA t p = true) (w : World) (v : Value) (hin : Lies w t v) (A : Option Addr) (n cap : Nat) (hp : PFs w A n cap p) (hn : n ≤ 1000) :
    Calls Tryz.prog 135 #[v, .slice A n cap] w fun e w' => ∃ r, e = .returned (.tuple #[r, .bool (conV t p).2]) ∧ Made w w' 45 (conV t p).1 r ∧ Ext w w' := by
  obtain ⟨u, hat, hru⟩ := rdxA_some hr
  have hvu := valid_at hv hat
  have hca : conA t p = putA t p (ctrT u) := by unfold conA; rw [hat]
  have HAT := Lib.hid (fun W (hW : Ext w W) => by
    have := at_any t p u hat W v (hin.ext hW) A cap (by rw [hp.hn]; exact hp.hl) hp.hc (hp.hP.ext hW)
    rw [hp.hn] at this
    exact this)
  have HCT := Lib.hid (fun W x (hx : Lies W u x) => contract_any u hvu hru W x hx)
  have HPT := Lib.hid (fun W (hW : Ext w W) x (hx : Lies W (ctrT u) x) => put_any p t (ctrT u) 30 (cnt_of_valid hv).2 (by rw [hat]; rfl) W v x (fun b => b < W.heap.size) (fun _ h => h) (hin.ext hW) hx A n cap (hp.ext hW) hn (by have := (cnt_of_valid hv).1; omega))
  have hcn : valid sigT (ctrT u) = true → cnt (putA t p (ctrT u)) ≤ 1000000 := fun h => by
    have h1 := cnt_putA p t (ctrT u) u hat
    have h2 := (cnt_of_valid h).1
    have h3 := (cnt_of_valid hv).1
    omega
  have hpart := conA_part (t := t) hat
  have hc1 : (conV t p).1 = okT (putA t p (ctrT u)) := by unfold conV okT; rw [hca]; split <;> rfl
  have hc2 : (conV t p).2 = valid sigT (putA t p (ctrT u)) := by
    unfold conV; rw [hca]; split
    · rename_i h; exact h.symm
    · rename_i h; exact (Bool.eq_false_iff.2 h).symm
  rw [hca] at hpart
  rw [hc1, hc2]
  clear hc1 hc2 hca hat hru hr hvu
  generalize putA t p (ctrT u) = X at HPT hcn hpart ⊢
  generalize ctrT u = c at HCT HPT hcn hpart
  obtain ⟨k, nn, ks⟩ := t
  obtain ⟨At, ct, rfl, -, -, -⟩ := Lies.mk_iff.1 hin
  have hx0 := ((Ext.refl w).alloc (.cells #[.int .i64 k, .int .i64 nn, .slice At ks.length ct] 45)).alloc (.cells #[.int .i64 0, .int .i64 0, .slice none 0 0] 45)
  obtain ⟨hb0, hb1, hs2⟩ := blk2 (Ext.refl ((w.alloc (.cells #[.int .i64 k, .int .i64 nn, .slice At ks.length ct] 45)).alloc (.cells #[.int .i64 0, .int .i64 0, .slice none 0 0] 45)))
  obtain ⟨wS, hwS⟩ : ∃ x, x = (w.alloc (.cells #[.int .i64 k, .int .i64 nn, .slice At ks.length ct] 45)).alloc (.cells #[.int .i64 0, .int .i64 0, .slice none 0 0] 45) := ⟨_, rfl⟩
  rw [← hwS] at hx0 hb0 hb1 hs2
  obtain ⟨z, hz⟩ : ∃ z, valid sigT c = z := ⟨_, rfl⟩
  have HCT2 := Lib.hid (show ∀ W x, Lies W u x → Calls Tryz.prog 164 #[x] W fun e w' => ∃ r, e = .returned (.tuple #[r, .bool z]) ∧ Made W w' 45 (okT c) r ∧ Ext W w' from fun W x hx => hz ▸ HCT.out W x hx)
  clear HCT
  have HOK := Lib.hid (show z = true → okT c = c from fun h => by unfold okT; rw [if_pos (hz.trans h)])
  have HNO := Lib.hid (show z = false → valid sigT X = false from fun h => Bool.eq_false_iff.2 fun h' => by have := hpart h'; rw [hz, h] at this; cases this)
  have HCN := Lib.hid (show z = true → cnt X ≤ 1000000 from fun h => hcn (hz.trans h))
  clear hz hcn hpart
  cases z with
  | false =>
    have E2 := HNO.out rfl
    have E3 : okT X = dflt0 := by unfold okT; rw [if_neg (by rw [E2]; decide)]
    rw [E2, E3]
    clear HNO HOK HCN E2 E3 HPT
    go_enter Tryz.func135, Tryz.ntmps135
    go_wp2_with fail
    rw [← hwS]
    clear hwS
    refine (HAT.out _ hx0).mono ?_
    rintro e w1 ⟨x, rfl, hL, h1⟩
    go_wp2_with fail
    refine (HCT2.out _ _ hL).mono ?_
    rintro e w2 ⟨r, rfl, hM, h2⟩
    obtain ⟨a1, a2, a3, a4, a5, rfl⟩ := hM.three'
    obtain ⟨s0, s1, s2, f0, f1, f2⟩ := own3 (((h1.trans h2).trans ((Ext.refl w2).alloc (.cells #[.int .i64 a1, .int .i64 a2, .slice a3 a4 a5] 45))).blk hb1)
    go_wp2_with fail
    refine bodyPost_ret (v := .tuple #[.agg #[.int .i64 0, .int .i64 0, .slice none 0 0], .bool false]) (by simp [results, Tryz.results135, go_sem, s0, s1, s2]) rfl ⟨_, rfl, Made.leaf _ _ _ 0 0, ?_⟩
    exact ((((((hx0.trans h1).trans h2).alloc _).setCell (by simp) _).setCell (by simp) _).setCell (by simp) _)
  | true =>
    have E2 := HOK.out rfl
    have HC := HCN.out rfl
    rw [E2] at HCT2
    clear HNO HOK HCN E2
    go_enter Tryz.func135, Tryz.ntmps135
    go_wp2_with fail
    rw [← hwS]
    clear hwS
    refine (HAT.out _ hx0).mono ?_
    rintro e w1 ⟨x, rfl, hL, h1⟩
    go_wp2_with fail
    refine (HCT2.out _ _ hL).mono ?_
    rintro e w2 ⟨r, rfl, hM, h2⟩
    obtain ⟨a1, a2, a3, a4, a5, rfl⟩ := hM.three'
    have h3 := (Ext.refl w2).alloc (.cells #[.int .i64 a1, .int .i64 a2, .slice a3 a4 a5] 45)
    have h13 := (h1.trans h2).trans h3
    obtain ⟨z0, z1, z2, -, -, -⟩ := own3 (h13.blk hb0)
    have hL3 := hM.lies.ext h3
    clear hM hL
    go_wp2_with fail
    refine (HPT.out _ (hx0.trans h13) _ hL3).mono ?_
    rintro e w4 ⟨y, rfl, hY, h4⟩
    have hLY : Lies w4 X y := InT.mono (fun b hb => by rcases hb with h | h; exact Nat.lt_of_lt_of_le h h4.size; exact h.2) (fun _ _ => rfl) hY
    clear hY hL3
    go_wp2_with fail
    refine (own_any _ _ _ hLY HC).mono ?_
    rintro e w5 ⟨yo, rfl, hMo, h5⟩
    go_wp2_with fail
    refine (valid_made hMo).mono ?_
    rintro e w6 ⟨b1, b2, b3, b4, b5, rfl, hM6, h6⟩
    have h16 := ((h13.trans h4).trans h5).trans h6
    obtain ⟨s0, s1, s2, f0, f1, f2⟩ := own3 (h16.blk hb1)
    have hw4 : w.heap.size + 2 ≤ w4.heap.size := by have := hx0.size; have := (h13.trans h4).size; omega
    go_wp2_with fail
    refine bodyPost_ret (v := .tuple #[.agg #[.int .i64 b1, .int .i64 b2, .slice b3 b4 b5], .bool (valid sigT X)]) (by simp [results, Tryz.results135, go_sem, s0, s1, s2]) rfl ⟨_, rfl, Made.since (hM6.after ((((Above.refl _ _).setCell (p := ⟨w.heap.size + 1, 0, none⟩) (by show w.heap.size + 1 < _; omega) (.int .i64 b1)).setCell (p := ⟨w.heap.size + 1, 1, none⟩) (by show w.heap.size + 1 < _; omega) (.int .i64 b2)).setCell (p := ⟨w.heap.size + 1, 2, none⟩) (by show w.heap.size + 1 < _; omega) (.slice b3 b4 b5))) (by omega), ?_⟩
    exact ((((hx0.trans h16).setCell (by simp) _).setCell (by simp) _).setCell (by simp) _)
end Go.Proofs.YtolkohncmidpeaaGreatDoor
namespace Go.Proofs.YtolkohncmidpeaaGreatDoor
open Go.RowKit
set_option linter.unusedVariables false
theorem pfs_row {w : World} {base : Nat} {v : Value} {p : List Int} (h : w.ownsRow base 3 1 v p.length (p.map (Value.int .i64))) : ∃ B c, v = .slice B p.length c ∧ PFs w B p.length c p := by
  obtain ⟨B, c, rfl, h1, h2, h3⟩ := ownsRow_nums h
  exact ⟨B, c, rfl, rfl, h1, h2, h3⟩
end Go.Proofs.YtolkohncmidpeaaGreatDoor
namespace Go.Proofs.YtolkohncmidpeaaGreatDoor
open Go.RowKit
set_option linter.unusedVariables false
theorem nrmC_none {x : Tr} (h : outT x = none) (f : Nat) : nrmC f x = (x, 0) := by
  cases f <;> (unfold nrmC; rw [h])
theorem nrmC_zero {x : Tr} {p : List Int} (h : outT x = some p) : nrmC 0 x = (dflt0, 1) := by
  unfold nrmC; rw [h]
theorem nrmC_no {x : Tr} {p : List Int} (h : outT x = some p) (hv : valid sigT (conA x p) = false) (f : Nat) : nrmC (f + 1) x = (dflt0, 2) := by
  rw [nrmC, h]
  simp only
  rw [if_neg (by rw [hv]; decide)]
theorem nrmC_go {x : Tr} {p : List Int} (h : outT x = some p) (hv : valid sigT (conA x p) = true) (f : Nat) : nrmC (f + 1) x = nrmC f (conA x p) := by
  rw [nrmC, h]
  simp only
  rw [if_pos hv]
set_option maxRecDepth 100000 in
set_option maxHeartbeats 4000000 in
theorem reduce_any (t : Tr) (f : Int) (w : World) (v : Value) (hin : Lies w t v) :
    Calls Tryz.prog 102 #[v, .int .i64 f, .func (.func 103) #[] #[]] w fun e w' => ∃ r s, e = .returned (.tuple #[r, .int .i64 s, .int .i64 (normV t f).2]) ∧ Made w w' 45 (normV t f).1 r ∧ Ext w w' := by
  have HV := Lib.hid (fun W (hW : Ext w W) => validTerm_any t W v (hin.ext hW))
  have E : normV t f = if (valid sigT t && inR f 0 200) = true then nrmC f.toNat t else (dflt0, 3) := rfl
  rw [E]
  clear E
  obtain ⟨z, hz⟩ : ∃ z, valid sigT t = z := ⟨_, rfl⟩
  obtain ⟨y, hy⟩ : ∃ y, inR f 0 200 = y := ⟨_, rfl⟩
  rw [hz] at HV ⊢
  rw [hy]
  obtain ⟨k, n, ks⟩ := t
  obtain ⟨A, cap, rfl, hl, hc, hK⟩ := Lies.mk_iff.1 hin
  have hx0 := ((Ext.refl w).alloc (.cells #[.int .i64 k, .int .i64 n, .slice A ks.length cap] 45)).alloc (.cells #[.int .i64 0, .int .i64 0, .slice none 0 0] 45)
  obtain ⟨hb0, hb1, hs2⟩ := blk2 (Ext.refl ((w.alloc (.cells #[.int .i64 k, .int .i64 n, .slice A ks.length cap] 45)).alloc (.cells #[.int .i64 0, .int .i64 0, .slice none 0 0] 45)))
  obtain ⟨wS, hwS⟩ : ∃ x, x = (w.alloc (.cells #[.int .i64 k, .int .i64 n, .slice A ks.length cap] 45)).alloc (.cells #[.int .i64 0, .int .i64 0, .slice none 0 0] 45) := ⟨_, rfl⟩
  rw [← hwS] at hx0 hb0 hb1 hs2
  cases z with
  | false =>
    rw [if_neg (by simp)]
    go_enter Tryz.func102, Tryz.ntmps102
    go_wp2_with fail
    rw [← hwS]
    clear hwS
    refine (HV.out _ hx0).mono ?_
    rintro e w1 ⟨rfl, h1⟩
    obtain ⟨s0, s1, s2, f0, f1, f2⟩ := own3 (h1.blk hb1)
    go_wp2_with fail
    refine bodyPost_ret (v := .tuple #[.agg #[.int .i64 0, .int .i64 0, .slice none 0 0], .int .i64 0, .int .i64 3]) (by simp [results, Tryz.results102, go_sem, s0, s1, s2]) rfl ⟨_, _, rfl, Made.leaf _ _ _ 0 0, ?_⟩
    exact ((((hx0.trans h1).setCell (by simp) _).setCell (by simp) _).setCell (by simp) _)
  | true =>
    cases y with
    | false =>
      rw [if_neg (by simp)]
      go_enter Tryz.func102, Tryz.ntmps102
      go_wp2_with fail
      rw [← hwS]
      clear hwS
      refine (HV.out _ hx0).mono ?_
      rintro e w1 ⟨rfl, h1⟩
      obtain ⟨s0, s1, s2, f0, f1, f2⟩ := own3 (h1.blk hb1)
      go_wp2_with (go_at_call 57; refine (within_any _ _ _ _).mono ?_; rw [hy]; rintro e w3 ⟨rfl, rfl⟩)
      refine bodyPost_ret (v := .tuple #[.agg #[.int .i64 0, .int .i64 0, .slice none 0 0], .int .i64 0, .int .i64 3]) (by simp [results, Tryz.results102, go_sem, s0, s1, s2]) rfl ⟨_, _, rfl, Made.leaf _ _ _ 0 0, ?_⟩
      exact ((((hx0.trans h1).setCell (by simp) _).setCell (by simp) _).setCell (by simp) _)
    | true =>
      rw [if_pos (by simp)]
      obtain ⟨hf1, hf2⟩ := inR_iff.1 hy
      obtain ⟨F, rfl⟩ := Int.eq_ofNat_of_zero_le hf1
      rw [show ((F : Int)).toNat = F from by omega]
      obtain ⟨R, hR⟩ : ∃ R, nrmC F (.mk k n ks) = R := ⟨_, rfl⟩
      rw [hR]
      have HR := Lib.hid hR
      have HY := Lib.hid hy
      have HZ := Lib.hid hz
      have HF := Lib.hid hf2
      clear hy hR hz hf1 hf2
      go_enter Tryz.func102, Tryz.ntmps102
      go_wp2_with fail
      rw [← hwS]
      clear hwS
      refine (HV.out _ hx0).mono ?_
      rintro e w1 ⟨rfl, h1⟩
      have hb10 := h1.blk hb0
      have hb11 := h1.blk hb1
      have hx1 := hx0.trans h1
      go_wp2_with (go_at_call 57; refine (within_any _ _ _ _).mono ?_; rw [HY.out]; rintro e w3 ⟨rfl, rfl⟩)
      clear HV hx0 hb0 hb1 hs2 h1 hin HY
      go_loopw [9] (fun i wr => ∃ (j : Nat) (k' n' : Int) (kids : List Tr) (A' : Option Addr) (c' : Nat), j ≤ F ∧ i = .int .i64 j ∧
        Hid (nrmC (F - j) (.mk k' n' kids) = R) ∧ Hid (valid sigT (.mk k' n' kids) = true) ∧ kids.length ≤ c' ∧ c' ≤ maxLen ∧ InK wr (fun b => b < wr.heap.size ∧ (b < w.heap.size ∨ w.heap.size + 2 ≤ b)) A' kids ∧
        wr.heap[w.heap.size]? = some (.cells #[.int .i64 k', .int .i64 n', .slice A' kids.length c'] 45 (0, 0)) ∧ wr.heap[w.heap.size + 1]? = some (.cells #[.int .i64 0, .int .i64 0, .slice none 0 0] 45 (0, 0)) ∧ Ext w wr) (fun i _ => F - (intOf i).toNat)
      case atStart => exact ⟨0, k, n, ks, A, cap, Nat.zero_le _, rfl, Lib.hid HR.out, HZ, hl, hc, InK.mono (fun b hb => ⟨Nat.lt_of_lt_of_le hb hx1.size, .inl hb⟩) (fun b hb => hx1.heap b hb) hK, hb10, hb11, hx1⟩
      case round =>
        obtain ⟨j, k', n', kids, A', c', hj, rfl, HN, HVX, hkl, hkc, hT, hb, hbR, hx⟩ := hrel
        have hsz : w.heap.size + 1 < wr.heap.size := lt_of_blk hbR
        have hL : Lies wr (.mk k' n' kids) (.agg #[.int .i64 k', .int .i64 n', .slice A' kids.length c']) := Lies.mk hkl hkc (InK.mono (fun b hb => hb.1) (fun _ _ => rfl) hT)
        have HO := outer_any (.mk k' n' kids) wr _ 30 (cnt_of_valid HVX.out).2 hL (by decide)
        have HOW := Lib.hid (fun W (hW : Ext wr W) => own_any (.mk k' n' kids) W _ (hL.ext hW) (by have := (cnt_of_valid HVX.out).1; omega))
        have HCO := Lib.hid (fun p (hp : outT (.mk k' n' kids) = some p) W (hW : Ext wr W) B c (hP : PFs W B p.length c p) => contracted_any (.mk k' n' kids) p HVX.out (outT_at _ p hp) W _ (hL.ext hW) B p.length c hP (by have := outT_len _ 30 (cnt_of_valid HVX.out).2 p hp; omega))
        rw [show outP (.mk k' n' kids) = (outT (.mk k' n' kids)).getD [] from rfl] at HO
        have HO2 := Lib.hid HO
        clear HO hT hK hb10 hb11 hx1
        obtain ⟨z0, z1, z2, -, -, -⟩ := own3 hb
        obtain ⟨q, hq⟩ : ∃ q, outT (.mk k' n' kids) = q := ⟨_, rfl⟩
        rw [hq] at HO2
        cases q with
        | none =>
          have HE := Lib.hid (HN.out.symm.trans (nrmC_none hq (F - j)))
          clear HCO hq HN
          go_wp2_with fail
          refine HO2.out.mono ?_
          rintro e w2 ⟨x, rfl, -, h2⟩
          obtain ⟨y0, y1, y2, -, -, -⟩ := own3 (h2.blk hb)
          clear z0 z1 z2
          go_wp2_with fail
          refine (HOW.out _ h2).mono ?_
          rintro e w3 ⟨r, rfl, hM, h3⟩
          obtain ⟨b1, b2, b3, b4, b5, rfl⟩ := hM.three'
          have h16 := h2.trans h3
          obtain ⟨s0, s1, s2, f0, f1, f2⟩ := own3 (h16.blk hbR)
          have hw4 : w.heap.size + 2 ≤ w2.heap.size := by have := h2.size; omega
          clear y0 y1 y2
          go_wp2_with fail
          rw [HE.out]
          refine bodyPost_ret (v := .tuple #[.agg #[.int .i64 b1, .int .i64 b2, .slice b3 b4 b5], .int .i64 j, .int .i64 0]) (by simp [results, Tryz.results102, go_sem, s0, s1, s2]) rfl ⟨_, _, rfl, Made.since (hM.after ((((Above.refl _ _).setCell (p := ⟨w.heap.size + 1, 0, none⟩) (by show w.heap.size + 1 < _; omega) (.int .i64 b1)).setCell (p := ⟨w.heap.size + 1, 1, none⟩) (by show w.heap.size + 1 < _; omega) (.int .i64 b2)).setCell (p := ⟨w.heap.size + 1, 2, none⟩) (by show w.heap.size + 1 < _; omega) (.slice b3 b4 b5))) (by omega), ?_⟩
          exact ((((hx.trans h16).setCell (by simp) _).setCell (by simp) _).setCell (by simp) _)
        | some p =>
          have HCO2 := Lib.hid (HCO.out p hq)
          simp only [Option.isSome_some, Option.getD_some] at HO2
          have HQ := Lib.hid hq
          clear HCO hq HOW
          by_cases hjF : j = F
          · have HE := Lib.hid (HN.out.symm.trans (show nrmC (F - j) (.mk k' n' kids) = (dflt0, 1) by rw [show F - j = 0 by omega]; exact nrmC_zero HQ.out))
            clear HCO2 HN
            subst hjF
            go_wp2_with fail
            refine HO2.out.mono ?_
            rintro e w2 ⟨x, rfl, hRw, h2⟩
            obtain ⟨B, c, rfl, hP⟩ := pfs_row hRw
            obtain ⟨s0, s1, s2, f0, f1, f2⟩ := own3 (h2.blk hbR)
            clear z0 z1 z2 hRw
            go_wp2_with fail
            rw [HE.out]
            refine bodyPost_ret (v := .tuple #[.agg #[.int .i64 0, .int .i64 0, .slice none 0 0], .int .i64 j, .int .i64 1]) (by simp [results, Tryz.results102, go_sem, s0, s1, s2]) rfl ⟨_, _, rfl, Made.leaf _ _ _ 0 0, ?_⟩
            exact ((((hx.trans h2).setCell (by simp) _).setCell (by simp) _).setCell (by simp) _)
          · have hj1 : ((j : Int) == (F : Int)) = false := beq_eq_false_iff_ne.2 (by omega)
            have hj2 : (j == F) = false := beq_eq_false_iff_ne.2 hjF
            have hlt : j < F := by omega
            have hj3 : (j : Int) < 200 := by have := HF.out; omega
            have hj4 : F ≤ 200 := by have := HF.out; omega
            obtain ⟨g, hg⟩ : ∃ g, F - j = g + 1 := ⟨F - j - 1, by omega⟩
            have hg2 : F - (j + 1) = g := by omega
            have hcv : conV (.mk k' n' kids) p = if valid sigT (conA (.mk k' n' kids) p) = true then (conA (.mk k' n' kids) p, true) else (dflt0, false) := rfl
            have HN1 := HN.out
            rw [hg] at HN1
            by_cases hcx : valid sigT (conA (.mk k' n' kids) p) = true
            · rw [if_pos hcx] at hcv
              rw [nrmC_go HQ.out hcx, ← hg2] at HN1
              rw [hcv] at HCO2
              clear hcv HN hg hg2
              generalize conA (.mk k' n' kids) p = X at HCO2 HN1 hcx
              obtain ⟨k2, n2, kids2⟩ := X
              have HX1 := Lib.hid HN1
              have HX2 := Lib.hid hcx
              clear HN1 hcx
              go_wp2_with fail
              refine HO2.out.mono ?_
              rintro e w2 ⟨x, rfl, hRw, h2⟩
              obtain ⟨B, c, rfl, hP⟩ := pfs_row hRw
              obtain ⟨y0, y1, y2, -, -, -⟩ := own3 (h2.blk hb)
              clear z0 z1 z2 hRw
              go_wp2_with fail
              refine (HCO2.out _ h2 _ _ hP).mono ?_
              rintro e w3 ⟨r, rfl, hM, h3⟩
              have hF3 := From.made hM
              obtain ⟨A2, c2, rfl, hl2, hc2, hK2⟩ := InT.mk_iff.1 hF3
              have h16 := (h2.trans h3).trans ((Ext.refl w3).alloc (.cells #[.int .i64 k2, .int .i64 n2, .slice A2 kids2.length c2] 45))
              obtain ⟨s0, s1, s2, f0, f1, f2⟩ := own3 (h16.blk hb)
              have hb7 := h16.blk hb
              have hb8 := h16.blk hbR
              have hs23 : wr.heap.size ≤ w2.heap.size := h2.size
              have hs33 : w2.heap.size ≤ w3.heap.size := h3.size
              have KEEP := Lib.hid (fun (a0 a1 a2 : Value) (b : Nat) (hb : b < w3.heap.size) (hne : b ≠ w.heap.size) => (show ((((w3.alloc (.cells #[.int .i64 k2, .int .i64 n2, .slice A2 kids2.length c2] 45)).setCell ⟨w.heap.size, 0, none⟩ a0).setCell ⟨w.heap.size, 1, none⟩ a1).setCell ⟨w.heap.size, 2, none⟩ a2).heap[b]? = w3.heap[b]? from by
                rw [Below.heap_setCell _ _ _ _ hne, Below.heap_setCell _ _ _ _ hne, Below.heap_setCell _ _ _ _ hne]; exact ((Ext.refl w3).alloc _).heap b hb))
              clear y0 y1 y2 hb hbR hM hF3
              go_wp2_with fail
              go_roundw
              case rel => exact ⟨j + 1, k2, n2, kids2, A2, c2, hlt, by go_num, HX1, HX2, hl2, hc2, InK.mono (fun b hb => ⟨by simp; omega, .inr (by omega)⟩) (fun b hb => KEEP.out _ _ _ b hb.2 (by omega)) hK2, blk_setCell (blk_setCell (blk_setCell hb7 0 _) 1 _) 2 _, blk_setCell_ne (blk_setCell_ne (blk_setCell_ne hb8 (by simp) _) (by simp) _) (by simp) _, (((hx.trans h16).setCell (by simp) _).setCell (by simp) _).setCell (by simp) _⟩
              case measure => simp [intOf]; omega
            · rw [if_neg hcx] at hcv
              rw [nrmC_no HQ.out (Bool.eq_false_iff.2 hcx)] at HN1
              rw [hcv] at HCO2
              have HE := Lib.hid HN1.symm
              clear hcv HN hg hg2 hcx HN1
              go_wp2_with fail
              refine HO2.out.mono ?_
              rintro e w2 ⟨x, rfl, hRw, h2⟩
              obtain ⟨B, c, rfl, hP⟩ := pfs_row hRw
              obtain ⟨y0, y1, y2, -, -, -⟩ := own3 (h2.blk hb)
              clear z0 z1 z2 hRw
              go_wp2_with fail
              refine (HCO2.out _ h2 _ _ hP).mono ?_
              rintro e w3 ⟨r, rfl, hM, h3⟩
              obtain ⟨b1, b2, b3, b4, b5, rfl⟩ := hM.three'
              have h16 := (h2.trans h3).trans ((Ext.refl w3).alloc (.cells #[.int .i64 b1, .int .i64 b2, .slice b3 b4 b5] 45))
              obtain ⟨s0, s1, s2, f0, f1, f2⟩ := own3 (h16.blk hbR)
              clear y0 y1 y2
              go_wp2_with fail
              rw [HE.out]
              refine bodyPost_ret (v := .tuple #[.agg #[.int .i64 0, .int .i64 0, .slice none 0 0], .int .i64 j, .int .i64 2]) (by simp [results, Tryz.results102, go_sem, s0, s1, s2]) rfl ⟨_, _, rfl, Made.leaf _ _ _ 0 0, ?_⟩
              exact ((((hx.trans h16).setCell (by simp) _).setCell (by simp) _).setCell (by simp) _)
set_option maxRecDepth 100000 in
theorem normalize_any (t : Tr) (f : Int) (w : World) (v : Value) (hin : Lies w t v) :
    Calls Tryz.prog 59 #[v, .int .i64 f] w fun e w' => ∃ r, e = .returned (.tuple #[r, .int .i64 (normV t f).2]) ∧ Made w w' 45 (normV t f).1 r ∧ Ext w w' := by
  have HS := Lib.hid (fun W (hW : Ext w W) => reduce_any t f W v (hin.ext hW))
  obtain ⟨S, hS⟩ : ∃ S, normV t f = S := ⟨_, rfl⟩
  rw [hS] at HS ⊢
  obtain ⟨k, n, ks⟩ := t
  obtain ⟨A, cap, rfl, hl, hc, hK⟩ := Lies.mk_iff.1 hin
  clear hS
  have hx0 := ((Ext.refl w).alloc (.cells #[.int .i64 k, .int .i64 n, .slice A ks.length cap] 45)).alloc (.cells #[.int .i64 0, .int .i64 0, .slice none 0 0] 45)
  obtain ⟨hb0, hb1, hs2⟩ := blk2 (Ext.refl ((w.alloc (.cells #[.int .i64 k, .int .i64 n, .slice A ks.length cap] 45)).alloc (.cells #[.int .i64 0, .int .i64 0, .slice none 0 0] 45)))
  obtain ⟨wS, hwS⟩ : ∃ x, x = (w.alloc (.cells #[.int .i64 k, .int .i64 n, .slice A ks.length cap] 45)).alloc (.cells #[.int .i64 0, .int .i64 0, .slice none 0 0] 45) := ⟨_, rfl⟩
  rw [← hwS] at hx0 hb0 hb1 hs2
  go_enter Tryz.func59, Tryz.ntmps59
  go_wp2_with fail
  rw [← hwS]
  clear hwS
  refine (HS.out _ hx0).mono ?_
  rintro e w3 ⟨r, s, rfl, hM, h3⟩
  obtain ⟨b1, b2, b3, b4, b5, rfl⟩ := hM.three'
  have h16 := h3.trans ((Ext.refl w3).alloc (.cells #[.int .i64 b1, .int .i64 b2, .slice b3 b4 b5] 45))
  obtain ⟨s0, s1, s2, f0, f1, f2⟩ := own3 (h16.blk hb1)
  have hM2 := hM.ext ((Ext.refl w3).alloc (.cells #[.int .i64 b1, .int .i64 b2, .slice b3 b4 b5] 45))
  have hw4 : w.heap.size + 2 ≤ wS.heap.size := by omega
  go_wp2_with fail
  refine bodyPost_ret (v := .tuple #[.agg #[.int .i64 b1, .int .i64 b2, .slice b3 b4 b5], .int .i64 S.2]) (by simp [results, Tryz.results59, go_sem, s0, s1, s2]) rfl ⟨_, rfl, Made.since (hM2.after ((((Above.refl _ _).setCell (p := ⟨w.heap.size + 1, 0, none⟩) (by show w.heap.size + 1 < _; omega) (.int .i64 b1)).setCell (p := ⟨w.heap.size + 1, 1, none⟩) (by show w.heap.size + 1 < _; omega) (.int .i64 b2)).setCell (p := ⟨w.heap.size + 1, 2, none⟩) (by show w.heap.size + 1 < _; omega) (.slice b3 b4 b5))) (by omega), ?_⟩
  exact ((((hx0.trans h16).setCell (by simp) _).setCell (by simp) _).setCell (by simp) _)
end Go.Proofs.YtolkohncmidpeaaGreatDoor

/-
  Lemmas towards the law, 43: CtxS.
-/
import Derived.Test.YtappakllopkfiaaCBE
namespace Go.Proofs.Ytappakllopkfiaa
open Go.RowKit
set_option linter.unusedVariables false
attribute [local go_sem ↓] Go.wp_at_zero Go.wp_at_succ
theorem atV_sndS (t : Tr) (p : List Int) : (atV t p).2 = (valid sigT t && (atT t p).isSome) := by
  unfold atV
  split <;> rename_i h <;> simp [h]
theorem Grow.litC {W w : World} {e : TypeId} (hW : W.heap.size ≤ w.heap.size) : Grow W (w.alloc (.cells #[] e)) e (.slice (some ⟨w.heap.size, 0, none⟩) 0 0) [] :=
  ⟨[], [], World.ownsRow_lit (size := 3) w #[] 0 hW (Nat.zero_le _) rfl, OwnL.nil, Fresh.nil _ _, fun _ _ h => by cases h⟩
theorem Grow.drewS {W w : World} {e : TypeId} {v : Value} {ks : List Tr} (h : Grow W w e v ks) : Grow W w.drew e v ks := h.same (Nat.le_refl _) (fun _ _ _ => rfl)
set_option maxRecDepth 100000 in
set_option maxHeartbeats 1000000 in
theorem l5Fits_any (ks : List Tr) (w : World) (A : Option Addr) (cap : Nat) (hl : ks.length ≤ cap) (hc : cap ≤ maxLen) (h : LiesK w A ks) :
    Calls Try.prog 102 #[.slice A ks.length cap] w fun e w' => e = .returned (.bool (fitsC ks)) ∧ Ext w w' := by
  have he : fitsC ks = (decide (ks.length ≤ 8) && !ks.any (fun t => !valid sigT t)) := rfl
  have HE := Lib.hid he
  have hcc := hc
  unfold maxLen at hcc
  clear he
  go_enter Try.func102, Try.ntmps102
  go_wp2_with fail
  go_loopw [3] (fun i wr => ∃ j : Nat, j ≤ ks.length ∧ i = .int .i64 j ∧ Hid (ks.any (fun t => !valid sigT t) = (ks.drop j).any (fun t => !valid sigT t)) ∧ Ext w wr) (fun i _ => ks.length - (intOf i).toNat)
  case atStart => exact ⟨0, Nat.zero_le _, rfl, Lib.hid rfl, Ext.refl _⟩
  case round =>
    obtain ⟨j, hj, rfl, HA, hx⟩ := hrel
    by_cases hlt : j < ks.length
    · obtain ⟨b, o, k, n, A', cap', kids, rfl, HK, c0, c1, c2, hkl, hkc, hK, hin, hmem⟩ := h.get hx hlt
      have hst : (ks.drop j).any (fun t => !valid sigT t) = (!valid sigT (.mk k n kids) || (ks.drop (j + 1)).any (fun t => !valid sigT t)) := by
        rw [List.drop_eq_getElem_cons hlt, HK.out, List.any_cons]
      have HV := Lib.hid (fun W (hW : Ext wr W) => specValidTerm (.mk k n kids) W _ (hin.ext hW))
      have hjz : (j : Int) < (ks.length : Int) := by omega
      go_wp2_with fail
      refine (HV.out wr (Ext.refl wr)).mono ?_
      rintro e w1 ⟨rfl, h1⟩
      generalize valid sigT (.mk k n kids) = r at hst
      cases r with
      | true =>
        have HA2 := Lib.hid (HA.out.trans (hst.trans (by rfl)))
        clear hst
        go_wp2_with fail
        go_roundw
        case rel => exact ⟨j + 1, by omega, by go_num, Lib.hid (by rw [HA2.out]; simp), hx.trans h1⟩
        case measure => simp [intOf]; omega
      | false =>
        have HA2 := Lib.hid (show fitsC ks = false by rw [HE.out, HA.out, hst]; simp)
        clear hst
        go_wp2_with fail
        go_ret
        exact ⟨by rw [HA2.out]; rfl, hx.trans h1⟩
    · have HA2 := Lib.hid (show fitsC ks = decide (ks.length ≤ 8) by rw [HE.out, HA.out, List.drop_of_length_le (by omega)]; simp)
      by_cases h8 : ks.length ≤ 8
      · have d : decide ((ks.length : Int) ≤ 8) = true := decide_eq_true (by omega)
        have HA3 := Lib.hid (HA2.out.trans (decide_eq_true h8))
        go_wp2_with fail
        go_ret
        exact ⟨by rw [HA3.out]; rfl, hx⟩
      · have d : decide ((ks.length : Int) ≤ 8) = false := decide_eq_false (by omega)
        have HA3 := Lib.hid (HA2.out.trans (decide_eq_false h8))
        go_wp2_with fail
        go_ret
        exact ⟨by rw [HA3.out]; rfl, hx⟩
theorem infoTermCs : (Try.prog.info? 44).map (fun i => (i.zero, i.size, i.bytes)) = some (some (.agg #[.int .i64 0, .int .i64 0, .slice none 0 0]), 3, 40) := by kernel_rfl
set_option maxRecDepth 100000 in
set_option maxHeartbeats 4000000 in
theorem specContextAt_any (ctx : List Tr) (t : Tr) (path : List Int) (w : World) (v : Value) (A Ap : Option Addr) (cap pc : Nat) (hin : Lies w t v) (hK : LiesK w A ctx) (hl : ctx.length ≤ cap) (hc : cap ≤ maxLen) (hP : Nums w Ap path) (hpl : path.length ≤ pc) (hpc : pc ≤ maxLen) (hp9 : path.length < 1000) :
    Calls Try.prog 37 #[.slice A ctx.length cap, v, .slice Ap path.length pc] w fun e w' => ∃ B c, e = .returned (.tuple #[.slice B (ctxV ctx t path).1.length c, .bool (ctxV ctx t path).2]) ∧ (ctxV ctx t path).1.length ≤ c ∧ c ≤ maxLen ∧ LiesK w' B (ctxV ctx t path).1 ∧ Ext w w' := by
  obtain ⟨i0, hi, hz0, hz1, hz2⟩ := info_parts infoTermCs
  have HAT := Lib.hid (fun W (hW : Ext w W) => specTermAt_any t path W v (hin.ext hW) Ap pc hpl hpc (hP.ext hW))
  have HF := Lib.hid (fun W (hW : Ext w W) => l5Fits_any ctx W A cap hl hc (hK.ext hW))
  have HV2 := Lib.hid (atV_sndS t path)
  have hV : ctxV ctx t path = if (fitsC ctx && (atV t path).2 && decide (ctx.length + (bndT t path).length ≤ 8)) = true then (ctx ++ bndT t path, true) else ([], false) := rfl
  have HFM := Lib.hid (fun (h : fitsC ctx = true) => fitsC_mem h)
  have HBL := Lib.hid (Nat.lt_of_le_of_lt (bndT_len path t) hp9)
  have HBC := Lib.hid (fun (h : valid sigT t = true) x hx => Nat.le_trans (bndT_cnt path t x hx) (valid_parts h).2)
  have HSH := Lib.hid (fun (h : valid sigT t = true) => (cnt_of_valid h).2)
  obtain ⟨q1, q2, hq⟩ : ∃ q1 q2, atV t path = (q1, q2) := ⟨_, _, rfl⟩
  rw [hq] at HAT HV2 hV
  obtain ⟨f, hf⟩ : ∃ f, fitsC ctx = f := ⟨_, rfl⟩
  rw [hf] at HF HFM hV
  simp only at HAT HV2 hV
  clear hq hf
  obtain ⟨k, n, ks⟩ := t
  obtain ⟨At, ct, rfl, hlt0, hct0, hKt0⟩ := Lies.mk_iff.1 hin
  have hx0 := (Ext.refl w).alloc (.cells #[.int .i64 k, .int .i64 n, .slice At ks.length ct] 44)
  have hb0 := heap_alloc_new w (.cells #[.int .i64 k, .int .i64 n, .slice At ks.length ct] 44)
  have hcc := hc
  unfold maxLen at hcc
  clear hin
  cases q2 with
  | false =>
    rw [if_neg (by simp)] at hV
    rw [hV]
    clear hV HF HFM HBC HBL HSH HV2 hb0
    go_enter Try.func37, Try.ntmps37
    go_wp2_with fail
    refine (HAT.out _ hx0).mono ?_
    rintro e w1 ⟨u, rfl, hL, h1⟩
    obtain ⟨x1, x2, x3, x4, x5, rfl⟩ := hL.three
    have h2 := (hx0.trans h1).alloc (.cells #[.int .i64 x1, .int .i64 x2, .slice x3 x4 x5] 44)
    go_wp2_with fail
    go_ret2
    exact ⟨_, _, rfl, by simp, by simp [maxLen], .inl rfl, h2.alloc _⟩
  | true =>
    cases f with
    | false =>
      rw [if_neg (by simp)] at hV
      rw [hV]
      clear hV HFM HBC HBL HSH HV2 hb0
      go_enter Try.func37, Try.ntmps37
      go_wp2_with fail
      refine (HAT.out _ hx0).mono ?_
      rintro e w1 ⟨u, rfl, hL, h1⟩
      obtain ⟨x1, x2, x3, x4, x5, rfl⟩ := hL.three
      have h2 := (hx0.trans h1).alloc (.cells #[.int .i64 x1, .int .i64 x2, .slice x3 x4 x5] 44)
      go_wp2_with fail
      refine (HF.out _ h2).mono ?_
      rintro e w3 ⟨rfl, h3⟩
      go_wp2_with fail
      go_ret2
      exact ⟨_, _, rfl, by simp, by simp [maxLen], .inl rfl, (h2.trans h3).alloc _⟩
    | true =>
      obtain ⟨hc8, hmv⟩ := HFM.out rfl
      have HMV := Lib.hid hmv
      have hv2 := HV2.out
      rw [eq_comm, Bool.and_eq_true] at hv2
      obtain ⟨hval, hsome⟩ := hv2
      have hsh := HSH.out hval
      have HBC2 := Lib.hid (HBC.out hval)
      have HSM := Lib.hid hsome
      rw [Bool.true_and, Bool.true_and] at hV
      have HVV := Lib.hid hV
      clear hV HFM HV2 HSH HBC hval hsome hmv
      go_enter Try.func37, Try.ntmps37
      go_wp2_with fail
      refine (HAT.out _ hx0).mono ?_
      rintro e w1 ⟨u, rfl, hL, h1⟩
      obtain ⟨x1, x2, x3, x4, x5, rfl⟩ := hL.three
      have h2 := (hx0.trans h1).alloc (.cells #[.int .i64 x1, .int .i64 x2, .slice x3 x4 x5] 44)
      have hb2 := (h1.trans ((Ext.refl w1).alloc (.cells #[.int .i64 x1, .int .i64 x2, .slice x3 x4 x5] 44))).blk hb0
      go_wp2_with fail
      refine (HF.out _ h2).mono ?_
      rintro e w3 ⟨rfl, h3⟩
      have hx3 := h2.trans h3
      have hb3 := h3.blk hb2
      have hlt3 : w.heap.size < w3.heap.size := lt_of_blk hb3
      have hG0 := Grow.litC (e := 44) (Nat.le_refl w3.heap.size)
      clear hL h1 h2 h3 hb0 hb2 hx0 HAT HF
      go_wp2_with fail
      have hx4 := hx3.alloc (.cells #[] 44)
      have hb4 := ((Ext.refl w3).alloc (.cells #[] 44)).blk hb3
      have hB4 : Ext w3 (w3.alloc (.cells #[] 44)) := (Ext.refl w3).alloc _
      generalize World.alloc w3 _ = w4 at hx4 hb4 hB4 hG0 ⊢
      go_loopw [10, 11] (fun v i wr => ∃ (j : Nat), j ≤ ctx.length ∧ i = .int .i64 j ∧ Grow w3 wr 44 v (ctx.take j) ∧ Ext w3 wr) (fun _ i _ => ctx.length - (intOf i).toNat)
      case atStart => exact ⟨0, Nat.zero_le _, rfl, hG0, hB4⟩
      case round =>
        obtain ⟨j, hj, rfl, hG, hx⟩ := hrel
        by_cases hlt : j < ctx.length
        · obtain ⟨b, o, k1, n1, A1, p1, kids1, rfl, HK1, c0, c1, c2, l1, m1, hK1, hin1, hmem1⟩ := hK.get (hx3.trans hx) hlt
          have hj' : (j : Int) < (ctx.length : Int) := by omega
          have hl6 : w3.heap.size ≤ wr.heap.size := hx.size
          have htk := List.take_append_getElem hlt
          rw [HK1.out] at htk
          have HTK := Lib.hid htk
          have hlen : (ctx.take j).length = j := by rw [List.length_take]; omega
          have HLEN := Lib.hid hlen
          clear htk hlen hG0 hb4 hB4 hx4
          go_wp2_with fail
          refine (l1Copy_any _ _ _ hin1 (by have := (valid_parts (HMV.out _ hmem1)).2; omega)).mono ?_
          rintro e w2 ⟨u, rfl, hM, e2⟩
          obtain ⟨a1, a2, a3, a4, a5, rfl⟩ := hM.three'
          clear c0 c1 c2
          go_wp2_with (at_builtin; refine wpList_append_tree _ (by rfl) (.tmp 34) (.tmp 40) _ (by rfl) 44 i0 _ Try.underlying42 hi hz0 hz1 hz2 rfl (by rfl) hG hx.size e2 (hM.since (by omega)) ((Ext.refl _).alloc _) (by rfl) (heap_alloc_new _ _) (by rw [HLEN.out]; omega) ?_)
          intro v' w5 hG5 hB5
          obtain ⟨B5, c5, rfl, q1, q2, -⟩ := hG5.made
          rw [HTK.out] at hG5
          go_wp2_with fail
          go_roundw
          case rel => exact ⟨j + 1, by omega, by go_num, by simpa [HTK.out] using hG5, hx.trans' hB5 (Nat.le_refl _)⟩
          case measure => simp [intOf]; omega
        · have hjl : ctx.take j = ctx := List.take_of_length_le (by omega)
          rw [hjl] at hG
          have hbr := hx.blk hb3
          have hxr := hx3.trans hx
          have hsr := hx.size
          clear hG0 hb4 hB4 hx4 hb3 hjl HMV
          go_wp2_with fail
          generalize hwr : wr = wB at hG hbr hxr hsr ⊢
          clear hwr
          go_loopw [10, 12] (fun v i wr => ∃ (j : Nat) (k' n' : Int) (kids : List Tr) (A' : Option Addr) (c' : Nat) (d' : Int) (ds : List Tr), j ≤ path.length ∧ i = .int .i64 j ∧
            Hid ((atT (.mk k' n' kids) (path.drop j)).isSome = true) ∧ Hid (bndT (.mk k n ks) path = ds ++ bndT (.mk k' n' kids) (path.drop j)) ∧ shape sigT (.mk k' n' kids) d' = true ∧ d' + j ≤ 1000 ∧ kids.length ≤ c' ∧ c' ≤ maxLen ∧ LiesK w A' kids ∧
            wr.heap[w.heap.size]? = some (.cells #[.int .i64 k', .int .i64 n', .slice A' kids.length c'] 44 (0, 0)) ∧ Grow w3 wr 44 v (ctx ++ ds) ∧ ds.length ≤ j ∧ Ext w wr ∧ w3.heap.size ≤ wr.heap.size) (fun _ i _ => path.length - (intOf i).toNat)
          case atStart => exact ⟨0, k, n, ks, At, ct, 30, [], Nat.zero_le _, rfl, Lib.hid (by simpa using HSM.out), Lib.hid (by simp), hsh, by decide, hlt0, hct0, hKt0, hbr, by simpa using hG, Nat.le_refl _, hxr, hsr⟩
          case round =>
            obtain ⟨j, k', n', kids, A', c', d', ds, hj, rfl, HA, HB, hsh', hd', hkl, hkc, hK', hb, hG, hdl, hx, hsz⟩ := hrel
            have hdp := shape_pos' hsh'
            by_cases hlj : j < path.length
            · obtain ⟨bp, op, rfl, cw⟩ := hP.get (Ext.refl w) hlj
              have hdr : path.drop j = path[j] :: path.drop (j + 1) := List.drop_eq_getElem_cons hlj
              have HA1 := HA.out
              rw [hdr, atT_step] at HA1
              have HB1 := HB.out
              rw [hdr, bndT_step] at HB1
              clear HA HB hdr
              generalize path[j] = i at cw HA1 HB1
              have cp := hx.cell cw
              have hj2 : (j : Int) < (path.length : Int) := by omega
              have hj0 : (0 : Int) ≤ (j : Int) := Int.natCast_nonneg _
              obtain ⟨hops, -, -, hsk⟩ := shape_kids hsh'
              obtain ⟨z0, z1, z2, f0, f1, f2⟩ := own3 hb
              have hkc' := hkc
              unfold maxLen at hkc'
              by_cases hi2 : 0 ≤ i ∧ i < (kids.length : Int)
              · rw [if_pos hi2] at HA1 HB1
                obtain ⟨m, rfl⟩ := Int.eq_ofNat_of_zero_le hi2.1
                have hm : m < kids.length := by omega
                have e0 : ((m : Int)).toNat = m := by omega
                rw [e0] at HA1 HB1
                have HA2 := Lib.hid HA1
                clear HA1 e0
                have hund := und_eq k' m
                have HBI := Lib.hid (fun W => l2Binds_any k' m W)
                obtain ⟨b, o, k2, n2, A2, c2, kids2, rfl, HK, e0, e1, e2, hkl2, hkc2, hK2, hin2, hmem⟩ := hK'.get (Ext.refl w) hm
                have hkd : kd kids m = .mk k2 n2 kids2 := kd_of hm HK.out
                have hsk2 := hsk _ hmem
                rw [hkd] at HA2 HB1
                have hm2 : (m : Int) < (kids.length : Int) := hi2.2
                have hm0 : (0 : Int) ≤ (m : Int) := hi2.1
                have d0 := hx.cell e0
                have d1 := hx.cell e1
                have d2 := hx.cell e2
                have hwl : w.heap.size < wr.heap.size := by omega
                have HBD := Lib.hid (fun q : Nat => (show (wr.drewN q).heap[w.heap.size]? = some (.cells #[.int .i64 k', .int .i64 n', .slice (some ⟨b, o, none⟩) kids.length c'] 44 (0, 0)) from hb))
                have HGD := Lib.hid (fun q : Nat => (show Grow w3 (wr.drewN q) 44 _ (ctx ++ ds) from hG.same (Nat.le_refl _) (fun _ _ _ => rfl)))
                obtain ⟨bd, hbd⟩ : ∃ bd, ((m : Int) == 1 && isB k') = bd := ⟨_, rfl⟩
                rw [hbd] at HBI hund
                clear hkd HK hmem hi2 hG
                cases bd with
                | true =>
                  rw [if_pos rfl] at hund
                  rw [hund, if_pos (by decide)] at HB1
                  have hlen0 : 0 < kids.length := by omega
                  obtain ⟨b', o', k0, n0, A0, c0, kids0, hbo, HK0, g0, g1, g2, hkl0, hkc0, hK0, hin0, hmem0⟩ := hK'.get hx hlen0
                  cases hbo
                  have hkd0 : kd kids 0 = .mk k0 n0 kids0 := kd_of hlen0 HK0.out
                  have hc0 : cnt (.mk k0 n0 kids0) ≤ 400 := HBC2.out _ (by rw [HB1, hkd0]; simp)
                  have HB3 := Lib.hid (show bndT (.mk k n ks) path = (ds ++ [kd kids 0]) ++ bndT (.mk k2 n2 kids2) (path.drop (j + 1)) by rw [HB1]; simp)
                  rw [hkd0] at HB3
                  rw [Nat.zero_mul, Nat.add_zero] at g0 g1 g2
                  have hlz : (0 : Int) < (kids.length : Int) := by omega
                  clear HB1 hund hbd hkd0 HK0
                  go_wp2_with fail
                  go_quiet (first | (go_at_call 104; exact Calls.quiet_of_same ((HBI.out _).mono fun e w' h => ⟨h.1, h.2.symm⟩)))
                  go_wp2_with fail
                  refine (l1Copy_any _ _ _ (hin0.ext ((Ext.refl wr).drewN _)) (by omega)).mono ?_
                  rintro e w2 ⟨u, rfl, hM, e2'⟩
                  obtain ⟨a1, a2, a3, a4, a5, rfl⟩ := hM.three'
                  clear g0 g1 g2 d0 d1 d2 z0 z1 z2 f0 f1 f2 cp
                  go_wp2_with (at_builtin; refine wpList_append_tree _ (by rfl) (.tmp 55) (.tmp 61) _ (by rfl) 44 i0 _ Try.underlying42 hi hz0 hz1 hz2 rfl (by rfl) (HGD.out _) hsz e2' hM ((Ext.refl _).alloc _) (by rfl) (heap_alloc_new _ _) (by simp; omega) ?_)
                  intro v' w5 hG5 hB5
                  have hwl3 : w.heap.size ≤ w3.heap.size := by omega
                  have hx5 : Ext w w5 := (hx.drewN _).trans' hB5 hwl3
                  have hs5 := hB5.size
                  have hs5' : w3.heap.size ≤ w5.heap.size := by simp at hs5; omega
                  have hb5 := (hB5.block _ hlt3).trans (HBD.out _)
                  obtain ⟨z0, z1, z2, f0, f1, f2⟩ := own3 hb5
                  have d0 := hx5.cell e0
                  have d1 := hx5.cell e1
                  have d2 := hx5.cell e2
                  have cp := hx5.cell cw
                  have HG6 := Lib.hid (show Grow w3 w5 44 v' (ctx ++ (ds ++ [.mk k0 n0 kids0])) from by first | exact hG5 | (rw [← List.append_assoc]; exact hG5))
                  obtain ⟨B5, c5, rfl, -, -, -⟩ := hG5.made
                  have HG7 := Lib.hid (show Grow w3 w5 44 (.slice B5 (ctx.length + (ds.length + 1)) c5) (ctx ++ (ds ++ [.mk k0 n0 kids0])) from by have := HG6.out; simpa using this)
                  have HBD5 := Lib.hid hb5
                  have hwl5 : w.heap.size < w5.heap.size := by omega
                  clear hG5 HG6 hB5 HGD HBD hb5 hM e2' hb hx e0 e1 e2 cw
                  go_wp2_with fail
                  first | (go_region_law (fail)) | fail
                  all_goals (
                    go_wp2_with fail
                    go_roundw
                    case rel => exact ⟨j + 1, k2, n2, kids2, A2, c2, d' - 1, ds ++ [.mk k0 n0 kids0], by omega, by go_num, HA2, HB3, hsk2, by omega, hkl2, hkc2, hK2, blk_setCell (blk_setCell (blk_setCell HBD5.out 0 _) 1 _) 2 _, (HG7.out.after ((((Above.refl _ _).setCell (by show w.heap.size < _; omega) _).setCell (by show w.heap.size < _; omega) _).setCell (by show w.heap.size < _; omega) _)).drewS, by simp; omega, (((hx5.setCell (by show w.heap.size ≤ w.heap.size; omega) _).setCell (by show w.heap.size ≤ w.heap.size; omega) _).setCell (by show w.heap.size ≤ w.heap.size; omega) _).drew, by simp; omega⟩
                    case measure => simp [intOf]; omega)
                | false =>
                  rw [if_neg (by decide)] at hund
                  rw [hund, if_neg (by decide), List.nil_append] at HB1
                  have HB3 := Lib.hid HB1
                  clear HB1 hund hbd e0 e1 e2 cw hb
                  go_wp2_with fail
                  go_quiet (first | (go_at_call 104; exact Calls.quiet_of_same ((HBI.out _).mono fun e w' h => ⟨h.1, h.2.symm⟩)))
                  go_wp2_with fail
                  first | (go_region_law (fail)) | fail
                  all_goals (
                    go_wp2_with fail
                    go_roundw
                    case rel => exact ⟨j + 1, k2, n2, kids2, A2, c2, d' - 1, ds, by omega, by go_num, HA2, HB3, hsk2, by omega, hkl2, hkc2, hK2, blk_setCell (blk_setCell (blk_setCell (HBD.out _) 0 _) 1 _) 2 _, (HGD.out _).after ((((Above.refl _ _).setCell (by simp; omega) _).setCell (by simp; omega) _).setCell (by simp; omega) _), by omega, (((hx.drewN _).setCell (by simp) _).setCell (by simp) _).setCell (by simp) _, by simp; omega⟩
                    case measure => simp [intOf]; omega)
              · rw [if_neg hi2] at HA1
                cases HA1
            · have hd0 : path.drop j = [] := List.drop_of_length_le (by omega)
              have hB2 : bndT (.mk k n ks) path = ds := by
                rw [HB.out, hd0, bndT]
                simp
              have HVF := HVV.out
              rw [hB2] at HVF
              have HVG := Lib.hid HVF
              obtain ⟨B5, c5, rfl, q1, q2, hM⟩ := hG.made
              have hK5 := hM.lies
              rw [List.length_append] at q1
              have hq2 := q2
              unfold maxLen at hq2
              clear HA HB HVF hB2 hG hM hb HVV
              by_cases h8 : ctx.length + ds.length ≤ 8
              · have d8 : decide ((8 : Int) < (ctx.length : Int) + (ds.length : Int)) = false := decide_eq_false (by omega)
                have HV3 := Lib.hid (HVG.out.trans (if_pos (by simpa using h8)))
                go_wp2_with fail
                go_ret2
                rw [HV3.out]
                exact ⟨_, _, by simp, by simpa using q1, q2, hK5, hx⟩
              · have d8 : decide ((8 : Int) < (ctx.length : Int) + (ds.length : Int)) = true := decide_eq_true (by omega)
                have HV3 := Lib.hid (HVG.out.trans (if_neg (by simpa using h8)))
                go_wp2_with fail
                go_ret2
                rw [HV3.out]
                exact ⟨_, _, rfl, by simp, by simp [maxLen], .inl rfl, hx.alloc _⟩
end Go.Proofs.Ytappakllopkfiaa

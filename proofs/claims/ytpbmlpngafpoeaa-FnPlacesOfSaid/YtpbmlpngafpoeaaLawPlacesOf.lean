/-
  PROVED: the law FnPlacesOf returns true for every input: there are as many places as nodes, they are different, and each of them exists.
  CONDITIONS: none.
-/
import Derived.Test.YtpbmlpngafpoeaaRows
import Derived.Test.YtpbmlpngafpoeaaLift
import Derived.Test.YtpbmlpngafpoeaaDrawPl
import Derived.Test.YtpbmlpngafpoeaaPlaces3
import Derived.Test.YtpbmlpngafpoeaaWalked2
import Derived.Deep.RegionHeld3
namespace Go.Proofs.Ytpbmlpngafpoeaa.placesOf
open Go.RowKit Go.ChangeShapes Go.WideShapes Go.ChangeAt
set_option linter.unusedVariables false

theorem own : ownKnob Try.prog.godebug = none := by kernel_rfl

theorem plFacts (t : Tr) : (cntV sigT t = ((plV false t).length : Int)) ∧ (∀ p ∈ plV false t, (atV t p).2 = true) ∧ (plV false t).Nodup := by
  unfold plV cntV
  cases h : valid sigT t with
  | false => exact ⟨by simp, fun p hp => by simp at hp, by simp⟩
  | true =>
    simp only [if_true, Bool.false_eq_true, if_false]
    refine ⟨by rw [plc_len]; exact congrArg Int.ofNat (cntP_true t).symm, fun p hp => ?_, plc_nodup _ _ _⟩
    obtain ⟨r, u, h1, h2, -⟩ := plc_at _ _ _ _ hp
    rw [List.nil_append] at h1
    subst h1
    unfold atV
    rw [if_pos h, h2]
    rfl
set_option maxRecDepth 100000 in
set_option maxHeartbeats 4000000 in
theorem walk (w0 : World) (A : Option Addr) (cap : Nat) (bs : List Int) (hl : bs.length ≤ cap) (hc : cap ≤ maxLen) (hB : Bytes w0 w0.heap.size A bs) :
    Calls Try.prog 11 #[.slice A bs.length cap] w0 fun e w' => e = .returned (.bool true) ∧ Ext w0 w' := by
  have hcc := hc
  unfold maxLen at hcc
  by_cases hn : 1048576 < (bs.length : Int)
  · have d1 : decide (1048576 < (bs.length : Int)) = true := decide_eq_true hn
    go_enter Try.func11, Try.ntmps11
    go_wp2_with fail
    go_ret
    exact ⟨rfl, Ext.refl _⟩
  have d1 : decide (1048576 < (bs.length : Int)) = false := decide_eq_false hn
  go_enter Try.func11, Try.ntmps11
  go_wp2_with fail
  refine (drawPlacesOf_any w0 A cap bs hl hc hB).mono ?_
  rintro e w1 ⟨⟨k0, m0, ks0⟩, u, rfl, hct, hF0, e1⟩
  have s1 : w0.heap.size ≤ w1.heap.size := e1.size
  have hL0 := hF0.lies
  obtain ⟨A0, cap0, rfl, hl0, hc0, hK0⟩ := Lies.mk_iff.1 hL0
  clear hF0
  obtain ⟨w2, hw2⟩ : ∃ w2, w2 = w1.alloc (.cells #[.int .i64 k0, .int .i64 m0, .slice A0 ks0.length cap0] 42) := ⟨_, rfl⟩
  have e2 : Ext w1 w2 := hw2 ▸ (Ext.refl w1).alloc _
  have b2 := heap_alloc_new w1 (.cells #[.int .i64 k0, .int .i64 m0, .slice A0 ks0.length cap0] 42)
  rw [← hw2] at b2
  have s2 : w1.heap.size < w2.heap.size := lt_of_blk b2
  go_wp2_with fail
  rw [← hw2]
  clear hw2
  have X1_2 : Ext w1 w2 := (Ext.refl w1).trans e2
  refine (plcA_top (.mk k0 m0 ks0) w2 _ (hL0.ext X1_2)).mono ?_
  rintro e w3 ⟨x, rfl, hG3, e3⟩
  have s3 : w2.heap.size ≤ w3.heap.size := e3.size
  obtain ⟨hcv, hok0, hnd⟩ := plFacts (.mk k0 m0 ks0)
  obtain ⟨ps, hps⟩ : ∃ ps, plV false (.mk k0 m0 ks0) = ps := ⟨_, rfl⟩
  rw [hps] at hcv hok0 hnd hG3
  have HPS := Lib.hid hps
  clear hps
  obtain ⟨B3, c3, rfl⟩ := hG3.form
  obtain ⟨L, hL⟩ : ∃ L, ps.length = L := ⟨_, rfl⟩
  rw [hL] at hcv hG3 ⊢
  have HL := Lib.hid hL
  clear hL
  have HOK := Lib.hid hok0
  have HND := Lib.hid hnd
  have HCV := Lib.hid hcv
  clear hok0 hnd hcv
  have ba0_3 := e3.blk b2
  obtain ⟨za00, za01, za02, -, -, -⟩ := own3 ba0_3
  have lza0 := lt_of_blk ba0_3
  go_wp2_with fail
  clear za00 za01 za02 lza0
  have X1_3 : Ext w1 w3 := X1_2.trans e3
  refine (specPlacesOf_any (.mk k0 m0 ks0) w3 _ (hL0.ext X1_3)).mono ?_
  rintro e w4 ⟨y, rfl, hG4, e4⟩
  have s4 : w3.heap.size ≤ w4.heap.size := e4.size
  rw [HPS.out] at hG4
  obtain ⟨B4, c4, rfl⟩ := hG4.form
  rw [HL.out] at hG4 ⊢
  have hLL : ((L : Int) != (L : Int)) = false := by simp
  have ba0_4 := e4.blk ba0_3
  obtain ⟨za00, za01, za02, -, -, -⟩ := own3 ba0_4
  have lza0 := lt_of_blk ba0_4
  go_wp2_with fail
  clear za00 za01 za02 lza0
  have X1_4 : Ext w1 w4 := X1_3.trans e4
  refine (countTerm_any (.mk k0 m0 ks0) w4 _ (hL0.ext X1_4)).mono ?_
  rw [HCV.out]
  rintro e w5 ⟨rfl, e5⟩
  have s5 : w4.heap.size ≤ w5.heap.size := e5.size
  have X3_4 : Ext w3 w4 := (Ext.refl w3).trans e4
  have X3_5 : Ext w3 w5 := X3_4.trans e5
  have X4_5 : Ext w4 w5 := (Ext.refl w4).trans e5
  have X1_5 : Ext w1 w5 := X1_4.trans e5
  have X0_1 : Ext w0 w1 := (Ext.refl w0).trans e1
  have X0_2 : Ext w0 w2 := X0_1.trans e2
  have X0_3 : Ext w0 w3 := X0_2.trans e3
  have X0_4 : Ext w0 w4 := X0_3.trans e4
  have X0_5 : Ext w0 w5 := X0_4.trans e5
  have hG3L := hG3.ext X3_5
  have hG4L := hG4.ext X4_5
  clear hG3 hG4
  have ba0_5 := e5.blk ba0_4
  have HBOX := Lib.hid ba0_5
  obtain ⟨A3, cc3, he3, hl3, hm3, hn3, hc3⟩ := hG3L.slice
  obtain ⟨A4, cc4, he4, hl4, hm4, hn4, hc4⟩ := hG4L.slice
  rw [HL.out] at he3 he4
  simp only [Value.slice.injEq, true_and] at he3 he4
  obtain ⟨rfl, rfl⟩ := he3
  obtain ⟨rfl, rfl⟩ := he4
  rw [HL.out] at hl3 hl4
  unfold maxLen at hm3 hm4
  have hps : ps.length = L := HL.out
  have HPSL := Lib.hid hps
  clear hps
  have HC3 := Lib.hid hc3
  have HC4 := Lib.hid hc4
  clear hc3 hc4 hG3L hG4L
  obtain ⟨za00, za01, za02, -, -, -⟩ := own3 ba0_5
  have lza0 := lt_of_blk ba0_5
  go_wp2_with fail
  clear za00 za01 za02 lza0
  go_loopw [6] (fun i wr => ∃ (j : Nat), j ≤ L ∧ i = .int .i64 j ∧ Ext w5 wr) (fun i _ => L - (intOf i).toNat)
  case atStart => exact ⟨0, Nat.zero_le _, rfl, Ext.refl _⟩
  case round =>
    obtain ⟨j, hj, rfl, hx⟩ := hrel
    by_cases hlt : j < L
    · rcases j with _ | m
      · skip
        have hjL : 0 < ps.length := by rw [HPSL.out]; omega
        obtain ⟨b3, u3, h3b, c3j, P3⟩ := HC3.out 0 hjL
        obtain ⟨b4, u4, h4b, c4j, P4⟩ := HC4.out 0 hjL
        subst h3b h4b
        obtain ⟨Au3, cu3, rfl, l3a, l3b, N3⟩ := P3.slice (fun b hb => hb.2.1)
        obtain ⟨Au4, cu4, rfl, l4a, l4b, N4⟩ := P4.slice (fun b hb => hb.2.1)
        have hok := HOK.out _ (List.getElem_mem hjL)
        clear P3 P4
        generalize ps[0] = pj at *
        have HTA := Lib.hid (fun W (hW : Ext w5 W) => termAt_any (.mk k0 m0 ks0) pj W _ (hL0.ext (X1_5.trans hW)) _ cu3 l3a l3b (N3.ext hW))
        rw [hok] at HTA
        have HDK := Lib.hid (fun W (hW : Ext w5 W) => dkInts_q pj pj W _ _ cu3 cu4 (N3.ext hW) l3a l3b (N4.ext hW) l4a l4b)
        rw [decide_eq_true rfl] at HDK
        have c3r := hx.cell c3j
        have c4r := hx.cell c4j
        obtain ⟨z0, z1, z2, -, -, -⟩ := own3 (hx.blk HBOX.out)
        have hj2 : ((0 : Nat) : Int) < (L : Int) := by omega
        have hwl : w1.heap.size < wr.heap.size := lt_of_blk (hx.blk HBOX.out)
        clear hok N3 N4 hj
        have HS := Lib.hid (show ∀ w', Ext wr w' → w'.cell? ⟨w1.heap.size, 0, none⟩ = some (.int .i64 k0) ∧ w'.cell? ⟨w1.heap.size, 1, none⟩ = some (.int .i64 m0) ∧ w'.cell? ⟨w1.heap.size, 2, none⟩ = some (.slice A0 ks0.length cap0) ∧ w'.cell? ⟨b3, 0, none⟩ = some (.slice Au3 pj.length cu3) from fun w' hw => ⟨hw.cell z0, hw.cell z1, hw.cell z2, hw.cell c3r⟩)
        have hX : Ext wr wr.drew := (Ext.refl wr).drew
        go_wp2_with fail
        clear z0 z1 z2
        go_region_held3 (fun w' => w'.cell? ⟨w1.heap.size, 0, none⟩ = some (.int .i64 k0) ∧ w'.cell? ⟨w1.heap.size, 1, none⟩ = some (.int .i64 m0) ∧ w'.cell? ⟨w1.heap.size, 2, none⟩ = some (.slice A0 ks0.length cap0) ∧ w'.cell? ⟨b3, 0, none⟩ = some (.slice Au3 pj.length cu3))
          (first | exact HS.out _ (((hxd.setCell (p := ⟨wr.heap.size, 0, none⟩) (Nat.le_refl _) _).setCell (p := ⟨wr.heap.size, 1, none⟩) (Nat.le_refl _) _).setCell (p := ⟨wr.heap.size, 2, none⟩) (Nat.le_refl _) _) | exact HS.out _ (hxd.alloc _) | exact HS.out _ hxd | exact HS.out _ hX | exact HS.out _ (hX.alloc _) | exact HS.out _ ((Ext.refl wr).alloc _).drew)
          (first | (go_at_call 58; refine (HTA.out _ (hx.trans (by first | exact hX | exact hX.alloc _ | exact ((Ext.refl wr).alloc _).drew))).mono ?_; rintro e wd ⟨u, rfl, hLu, ed⟩; have hxd : Ext wr wd := (by first | exact hX.trans ed | exact (hX.alloc _).trans ed | exact (((Ext.refl wr).alloc _).drew).trans ed); obtain ⟨ua, ub, uc, ud, ue, rfl⟩ := InT.three hLu; clear hLu; (first | (have qb : wd.heap[wr.heap.size]? = some (.cells #[.int .i64 0, .int .i64 0, .slice none 0 0] 42 (0, 0)) := ed.blk (heap_alloc_new wr.drew (.cells #[.int .i64 0, .int .i64 0, .slice none 0 0] 42)); obtain ⟨sa, sb, sc, fa, fb, fc⟩ := own3 qb) | (have qb : wd.heap[wr.heap.size]? = some (.cells #[.int .i64 0, .int .i64 0, .slice none 0 0] 42 (0, 0)) := ed.blk (heap_alloc_new wr (.cells #[.int .i64 0, .int .i64 0, .slice none 0 0] 42)); obtain ⟨sa, sb, sc, fa, fb, fc⟩ := own3 qb) | (have qb := trivial))))
        all_goals clear qb
        all_goals (first
          | (have en : Ext wr (wd.alloc (.cells #[.int .i64 ua, .int .i64 ub, .slice uc ud ue] 42)) := hxd.alloc _; obtain ⟨wN, hwN⟩ : ∃ x, x = wd.alloc (.cells #[.int .i64 ua, .int .i64 ub, .slice uc ud ue] 42) := ⟨_, rfl⟩; rw [← hwN]; rw [← hwN] at en; clear hwN)
          | (have en : Ext wr (((wd.setCell ⟨wr.heap.size, 0, none⟩ (.int .i64 ua)).setCell ⟨wr.heap.size, 1, none⟩ (.int .i64 ub)).setCell ⟨wr.heap.size, 2, none⟩ (.slice uc ud ue)) := ((hxd.setCell (p := ⟨wr.heap.size, 0, none⟩) (Nat.le_refl _) _).setCell (p := ⟨wr.heap.size, 1, none⟩) (Nat.le_refl _) _).setCell (p := ⟨wr.heap.size, 2, none⟩) (Nat.le_refl _) _; obtain ⟨wN, hwN⟩ : ∃ x, x = (((wd.setCell ⟨wr.heap.size, 0, none⟩ (.int .i64 ua)).setCell ⟨wr.heap.size, 1, none⟩ (.int .i64 ub)).setCell ⟨wr.heap.size, 2, none⟩ (.slice uc ud ue)) := ⟨_, rfl⟩; rw [← hwN]; rw [← hwN] at en; clear hwN))
        all_goals (
          clear hxd ed HS hX
          have c3n := en.cell c3r
          have c4n := en.cell c4r
          go_wp2_with fail
          go_quiet (first | (go_at_call 59; refine Calls.quiet_of (HDK.out _ ((hx.trans en).drewN _))))
          have hend := (hx.trans en).drewN nq
          go_wp2_with fail
          go_roundw
          case rel => exact ⟨1, by omega, by go_num, hend⟩
          case measure => simp [intOf]; omega)

      · skip
        have hjL : (m + 1) < ps.length := by rw [HPSL.out]; omega
        obtain ⟨b3, u3, h3b, c3j, P3⟩ := HC3.out (m + 1) hjL
        obtain ⟨b4, u4, h4b, c4j, P4⟩ := HC4.out (m + 1) hjL
        subst h3b h4b
        obtain ⟨Au3, cu3, rfl, l3a, l3b, N3⟩ := P3.slice (fun b hb => hb.2.1)
        obtain ⟨Au4, cu4, rfl, l4a, l4b, N4⟩ := P4.slice (fun b hb => hb.2.1)
        have hok := HOK.out _ (List.getElem_mem hjL)
        have hjP : m < ps.length := by omega
        obtain ⟨b5, u5, h5b, c5j, P5⟩ := HC3.out m hjP
        simp only [Option.some.injEq, Addr.mk.injEq, and_true] at h5b
        subst h5b
        obtain ⟨Au5, cu5, rfl, l5a, l5b, N5⟩ := P5.slice (fun b hb => hb.2.1)
        have hne : ps[(m + 1)] ≠ ps[m] := fun he => by have := (List.getElem_inj HND.out).1 he; omega
        have c5r := hx.cell c5j
        clear P5
        clear P3 P4
        generalize ps[(m + 1)] = pj at *
        generalize ps[m] = pq at *
        have HDK2 := Lib.hid (fun W (hW : Ext w5 W) => dkInts_q pj pq W _ _ cu3 cu5 (N3.ext hW) l3a l3b (N5.ext hW) l5a l5b)
        rw [decide_eq_false hne] at HDK2
        clear hne
        have HTA := Lib.hid (fun W (hW : Ext w5 W) => termAt_any (.mk k0 m0 ks0) pj W _ (hL0.ext (X1_5.trans hW)) _ cu3 l3a l3b (N3.ext hW))
        rw [hok] at HTA
        have HDK := Lib.hid (fun W (hW : Ext w5 W) => dkInts_q pj pj W _ _ cu3 cu4 (N3.ext hW) l3a l3b (N4.ext hW) l4a l4b)
        rw [decide_eq_true rfl] at HDK
        have c3r := hx.cell c3j
        have c4r := hx.cell c4j
        obtain ⟨z0, z1, z2, -, -, -⟩ := own3 (hx.blk HBOX.out)
        have hj2 : (((m + 1) : Nat) : Int) < (L : Int) := by omega
        have hj3 : ((m : Nat) : Int) + 1 < (L : Int) := by omega
        have hj4 : (0 : Int) ≤ ((m : Nat) : Int) + 1 := by omega
        have hwl : w1.heap.size < wr.heap.size := lt_of_blk (hx.blk HBOX.out)
        clear hok N3 N4 hj
        have HS := Lib.hid (show ∀ w', Ext wr w' → w'.cell? ⟨w1.heap.size, 0, none⟩ = some (.int .i64 k0) ∧ w'.cell? ⟨w1.heap.size, 1, none⟩ = some (.int .i64 m0) ∧ w'.cell? ⟨w1.heap.size, 2, none⟩ = some (.slice A0 ks0.length cap0) ∧ w'.cell? ⟨b3, (m + 1), none⟩ = some (.slice Au3 pj.length cu3) from fun w' hw => ⟨hw.cell z0, hw.cell z1, hw.cell z2, hw.cell c3r⟩)
        have hX : Ext wr wr.drew := (Ext.refl wr).drew
        go_wp2_with fail
        clear z0 z1 z2
        go_region_held3 (fun w' => w'.cell? ⟨w1.heap.size, 0, none⟩ = some (.int .i64 k0) ∧ w'.cell? ⟨w1.heap.size, 1, none⟩ = some (.int .i64 m0) ∧ w'.cell? ⟨w1.heap.size, 2, none⟩ = some (.slice A0 ks0.length cap0) ∧ w'.cell? ⟨b3, (m + 1), none⟩ = some (.slice Au3 pj.length cu3))
          (first | exact HS.out _ (((hxd.setCell (p := ⟨wr.heap.size, 0, none⟩) (Nat.le_refl _) _).setCell (p := ⟨wr.heap.size, 1, none⟩) (Nat.le_refl _) _).setCell (p := ⟨wr.heap.size, 2, none⟩) (Nat.le_refl _) _) | exact HS.out _ (hxd.alloc _) | exact HS.out _ hxd | exact HS.out _ hX | exact HS.out _ (hX.alloc _) | exact HS.out _ ((Ext.refl wr).alloc _).drew)
          (first | (go_at_call 58; refine (HTA.out _ (hx.trans (by first | exact hX | exact hX.alloc _ | exact ((Ext.refl wr).alloc _).drew))).mono ?_; rintro e wd ⟨u, rfl, hLu, ed⟩; have hxd : Ext wr wd := (by first | exact hX.trans ed | exact (hX.alloc _).trans ed | exact (((Ext.refl wr).alloc _).drew).trans ed); obtain ⟨ua, ub, uc, ud, ue, rfl⟩ := InT.three hLu; clear hLu; (first | (have qb : wd.heap[wr.heap.size]? = some (.cells #[.int .i64 0, .int .i64 0, .slice none 0 0] 42 (0, 0)) := ed.blk (heap_alloc_new wr.drew (.cells #[.int .i64 0, .int .i64 0, .slice none 0 0] 42)); obtain ⟨sa, sb, sc, fa, fb, fc⟩ := own3 qb) | (have qb : wd.heap[wr.heap.size]? = some (.cells #[.int .i64 0, .int .i64 0, .slice none 0 0] 42 (0, 0)) := ed.blk (heap_alloc_new wr (.cells #[.int .i64 0, .int .i64 0, .slice none 0 0] 42)); obtain ⟨sa, sb, sc, fa, fb, fc⟩ := own3 qb) | (have qb := trivial))))
        all_goals clear qb
        all_goals (first
          | (have en : Ext wr (wd.alloc (.cells #[.int .i64 ua, .int .i64 ub, .slice uc ud ue] 42)) := hxd.alloc _; obtain ⟨wN, hwN⟩ : ∃ x, x = wd.alloc (.cells #[.int .i64 ua, .int .i64 ub, .slice uc ud ue] 42) := ⟨_, rfl⟩; rw [← hwN]; rw [← hwN] at en; clear hwN)
          | (have en : Ext wr (((wd.setCell ⟨wr.heap.size, 0, none⟩ (.int .i64 ua)).setCell ⟨wr.heap.size, 1, none⟩ (.int .i64 ub)).setCell ⟨wr.heap.size, 2, none⟩ (.slice uc ud ue)) := ((hxd.setCell (p := ⟨wr.heap.size, 0, none⟩) (Nat.le_refl _) _).setCell (p := ⟨wr.heap.size, 1, none⟩) (Nat.le_refl _) _).setCell (p := ⟨wr.heap.size, 2, none⟩) (Nat.le_refl _) _; obtain ⟨wN, hwN⟩ : ∃ x, x = (((wd.setCell ⟨wr.heap.size, 0, none⟩ (.int .i64 ua)).setCell ⟨wr.heap.size, 1, none⟩ (.int .i64 ub)).setCell ⟨wr.heap.size, 2, none⟩ (.slice uc ud ue)) := ⟨_, rfl⟩; rw [← hwN]; rw [← hwN] at en; clear hwN))
        all_goals (
          clear hxd ed HS hX
          have c3n := en.cell c3r
          have c4n := en.cell c4r
          have c5n := en.cell c5r
          have hp1 : (0 : Int) ≤ (m : Int) := Int.natCast_nonneg _
          have hp2 : ((m : Nat) : Int) < (L : Int) := by omega
          have hp3 : decide ((0 : Int) < (m : Int) + 1) = true := decide_eq_true (by omega)
          have hwr : IntKind.i64.wrap ((m : Int) + 1 - 1) = (m : Int) := by rw [Int.add_sub_cancel]; exact IntWalk.i64_in _ ⟨by omega, by omega⟩
          go_wp2_with fail
          go_quiet (first | (go_at_call 59; (with_reducible show Calls _ _ #[_, .slice Au4 _ cu4] _ _); refine Calls.quiet_of (HDK.out _ ((hx.trans en).drewN _))) | (go_at_call 59; (with_reducible show Calls _ _ #[_, .slice Au5 _ cu5] _ _); refine Calls.quiet_of (HDK2.out _ ((hx.trans en).drewN _))))
          have hend := (hx.trans en).drewN nq
          go_wp2_with fail
          go_roundw
          case rel => exact ⟨m + 1 + 1, by omega, by go_num, hend⟩
          case measure => simp [intOf]; omega)

    · go_wp2_with fail
      go_ret
      exact ⟨rfl, X0_5.trans hx⟩

set_option maxRecDepth 100000 in
theorem lifted (os : Os) (started : os.Started) (H : Type) (enc : TypeId × Value → H) :
    ReturnsInHanded {} Try.checked os 11 .any (Rows.fnPlacesOfSpec.pre6 enc Try.prog Try.f11 Rows.fnPlacesOfRow.domain false) (Rows.fnPlacesOfSpec.post enc Try.prog Try.f11 false true false false) := by
  refine law_lift (C := Try.checked) (fn := Try.f11) (tb := 4) own started (by kernel_rfl) Try.func11 (by kernel_rfl) (by kernel_rfl) rfl Try.underlying4 rfl
    (fun ds h => by
      match ds, h with
      | [d1], _ => exact ⟨rfl, rfl, rfl⟩)
    (ChangeSpec.witness6 (enc := enc) (C := Try.checked) false ⟨#[], #[.slice none 0 0], []⟩ 8 (by kernel_rfl) (by kernel_rfl) (by kernel_rfl) (by kernel_rfl)) ?_
  intro W base args ds p hval hA hlt
  rw [Try.params11] at hA hval
  obtain ⟨v0, vs0, d0, ds0, p0, q0, hargs, rfl, rfl, h0, r0⟩ := trodAll_cons hA
  obtain ⟨rfl, rfl, rfl⟩ := trodAll_nil r0
  obtain rfl : args = #[v0] := by cases args; simp_all
  obtain ⟨A0, cap0, bs0, rfl, hl0, hc0, ha0⟩ := open_bytes Try.underlying64 Try.underlying5 (by kernel_rfl) (hval 0 64 v0 rfl rfl) h0
  exact walk W A0 cap0 bs0 hl0 hc0 ha0.1

theorem over : Rows.fnPlacesOfRow.holds Try.pinned (OpenSpec.ofChange Rows.fnPlacesOfSpec) :=
  OpenClaim.holds_of_wide 11 Try.f11 rfl rfl rfl rfl rfl rfl rfl ⟨rfl, rfl, rfl, rfl, rfl⟩ rfl rfl rfl rfl rfl (by kernel_rfl) Try.func11 (by kernel_rfl)
    (of_decide_eq_true (by kernel_rfl)) (by unfold Func.isWrapper; first | (rw [if_pos (by decide +kernel)]; kernel_rfl) | (rw [if_neg (by decide +kernel)]; exact ⟨rfl, rfl⟩))
    (fun os started H enc _ => lifted os started H enc)

theorem proved : Rows.FnPlacesOfSaid := over
#print axioms proved
end Go.Proofs.Ytpbmlpngafpoeaa.placesOf

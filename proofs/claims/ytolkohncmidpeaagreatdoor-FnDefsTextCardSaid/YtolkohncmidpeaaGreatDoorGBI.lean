/-
  Lemmas towards the law, 35: PDefs, Bld.
-/
import Derived.Test.YtolkohncmidpeaaGreatDoorGAB
import Derived.Test.YtolkohncmidpeaaGreatDoorGBA
import Derived.Test.YtolkohncmidpeaaGreatDoorGBC
import Derived.Test.YtolkohncmidpeaaGreatDoorGBH
import Derived.Test.YtolkohncmidpeaaGreatDoorDSH
namespace Go.Proofs.YtolkohncmidpeaaGreatDoor
open Go.RowKit
set_option linter.unusedVariables false
attribute [local go_sem ↓] Go.wp_at_zero Go.wp_at_succ
theorem cut_len (l : List UInt8) : (Lib.cut l [61]).1.length ≤ l.length ∧ (Lib.cut l [61]).2.1.length ≤ l.length := by
  unfold Lib.cut
  split <;> simp <;> omega
theorem cut_any (l : List UInt8) (w : World) (hw : EnvM w) (hl : l.length ≤ 1000000000) : Calls Tryz.prog 40 #[.string (ofL l), .string (ofL [61])] w fun e w' => ∃ b, e = .returned (.tuple #[.string (ofL (Lib.cut l [61]).1), .string (ofL (Lib.cut l [61]).2.1), .bool b]) ∧ Ext w w' := by
  obtain ⟨m, hm⟩ := hw
  refine (Tryz.strings_Cut (ofL l) (ofL [61]) m w (by rw [ofL_size]; omega) hm).mono ?_
  rintro e w' ⟨rfl, n, rfl⟩
  rw [ofL_list, ofL_list]
  exact ⟨_, rfl, (Ext.refl w).drewN n⟩
theorem linesI_step {xs : List (List UInt8)} {j : Nat} (h : j < xs.length) : linesI (xs.drop j) = match lineI xs[j] with
    | none => none
    | some (t, b) => (linesI (xs.drop (j + 1))).map fun ds => t :: b :: ds := by
  rw [List.drop_eq_getElem_cons h, linesI]
  rfl
theorem linesI_end {xs : List (List UInt8)} {j : Nat} (h : xs.length ≤ j) : linesI (xs.drop j) = some [] := by
  rw [List.drop_of_length_le h, linesI]
theorem infoDefI : (Tryz.prog.info? 61).map (fun i => (i.zero, i.size, i.bytes)) = some (some (.agg #[.int .i64 0, .int .i64 0, .slice none 0 0, .int .i64 0, .int .i64 0, .slice none 0 0]), 6, 80) := by kernel_rfl
/-- What ParseDefs is to hand back. -/
def PdQ (w : World) (o : Option (List Tr)) (e : Ending) (w' : World) : Prop :=
  ∃ A n cap, e = .returned (.tuple #[.slice A n cap, .bool o.isSome]) ∧ n ≤ cap ∧ cap ≤ maxLen ∧ (o.getD []).length = n * 2 ∧ MadeD w w' 61 45 A (o.getD []) ∧ Ext w w'
theorem PdQ.nil {w w' : World} (h : Ext w w') : PdQ w none (.returned (.tuple #[.slice none 0 0, .bool false])) w' :=
  ⟨none, 0, 0, rfl, Nat.le_refl _, Nat.zero_le _, rfl, ⟨[], .inl ⟨rfl, rfl⟩, Fresh.nil _ _⟩, h⟩
set_option maxRecDepth 100000 in
set_option maxHeartbeats 4000000 in
theorem parseDefsI_any (l : List UInt8) (hl : l.length ≤ 1000000000) (w : World) (hW : EnvR w) : Calls Tryz.prog 11 #[.string (ofL l)] w (PdQ w (psD l)) := by
  rw [← pdI_eq]
  obtain ⟨P, hP⟩ : ∃ P, pdI l = P := ⟨_, rfl⟩
  rw [hP]
  obtain ⟨xs, hxs⟩ : ∃ xs, cutL 10 l = xs := ⟨_, rfl⟩
  have hsz : ∀ x ∈ xs, x.length ≤ 1000000000 := fun x hx => by
    rw [← hxs] at hx
    have := cutS_size 10 l [] x hx
    simp only [List.length_nil] at this
    omega
  have hne : xs ≠ [] := hxs ▸ cutS_ne 10 l []
  have hpos : 0 < xs.length := List.length_pos_iff.2 hne
  have hps : P = if xs.getLastD [] ≠ [] ∨ 9 < xs.length then none else match linesI xs.dropLast with
    | none => none
    | some ks => if dfV ks (ks.length / 2) = true then some ks else none := by rw [← hP, ← hxs]; rfl
  have HSPL := Lib.hid (fun W (hx : Ext w W) => split_blk l 10 xs hxs W (hW.ext hx).1 hl)
  have HPS := Lib.hid hps
  have HSZ := Lib.hid hsz
  obtain ⟨N, hN⟩ : ∃ N, xs.length = N + 1 := ⟨xs.length - 1, by omega⟩
  have hlast : xs.getLastD [] = xs[N]'(by omega) := by
    rw [List.getLastD_eq_getLast?, List.getLast?_eq_getElem?]
    have e : xs.length - 1 = N := by omega
    simp [e, List.getElem?_eq_getElem (show N < xs.length by omega)]
  have HN := Lib.hid hN
  rw [hN] at HSPL
  obtain ⟨z, hz⟩ : ∃ z, z = xs[N]'(by omega) := ⟨_, rfl⟩
  have HLZ := Lib.hid (show xs.getLastD [] = z by rw [hlast, hz])
  have HZ := Lib.hid hz
  obtain ⟨i0, hi, hz0, hz1, hz2⟩ := info_parts infoDefI
  have hN9 : N ≤ 1000000000 := by
    have := cutS_len 10 l []
    rw [show cutS 10 [] l = xs from hxs, hN] at this
    omega
  have hNw : IntKind.i64.wrap ((N : Int) + 1 - 1) = (N : Int) := by rw [show (N : Int) + 1 - 1 = N by omega]; exact IntWalk.i64_in _ ⟨by omega, by omega⟩
  have hNn : (0 : Int) ≤ (N : Int) := by omega
  have hN1 : (N : Int) < (N : Int) + 1 := by omega
  clear hP hxs hps hsz hne hpos hlast hz hl
  go_enter Tryz.func11, Tryz.ntmps11
  go_wp2_with fail
  refine (HSPL.out w (Ext.refl w)).mono ?_
  rintro e w1 ⟨b, rfl, hb, h1⟩
  have HC := Lib.hid (fun (W : World) (hx : Ext w1 W) (j : Nat) (hj : j < xs.length) => strs_cell (hx.blk hb) hj)
  have hcN := HC.out w1 (Ext.refl _) N (by rw [HN.out]; omega)
  rw [← HZ.out] at hcN
  clear HSPL
  by_cases hz1 : z = []
  case neg =>
    have hp : P = none := by rw [HPS.out, if_pos (.inl (by rw [HLZ.out]; exact hz1))]
    have hze : (ofL z).toList.isEmpty = false := by
      rw [ofL_tl]
      cases z with
      | nil => exact absurd rfl hz1
      | cons a b => rfl
    subst hp
    clear hz1
    go_wp2_with fail
    go_ret2
    exact PdQ.nil h1
  subst hz1
  have hze : (ofL []).toList.isEmpty = true := by rw [ofL_tl]; rfl
  by_cases h8 : 8 < N
  · have hp : P = none := by rw [HPS.out, if_pos (.inr (by rw [HN.out]; omega))]
    have d8 : decide ((8 : Int) < (N : Int)) = true := decide_eq_true (by omega)
    subst hp
    go_wp2_with fail
    go_ret2
    exact PdQ.nil h1
  have d8 : decide ((8 : Int) < (N : Int)) = false := decide_eq_false (by omega)
  obtain ⟨Z, hZ9⟩ : ∃ Z, linesI xs.dropLast = Z := ⟨_, rfl⟩
  have hp : P = Z.bind fun ks => if dfV ks (ks.length / 2) = true then some ks else none := by
    rw [HPS.out, if_neg (fun h => by rcases h with h | h; exact h (by rw [HLZ.out]); rw [HN.out] at h; omega), ← hZ9]
    cases linesI xs.dropLast <;> rfl
  have HP := Lib.hid hp
  have hyl : xs.dropLast.length = N := by rw [List.length_dropLast, HN.out]; omega
  have HYL := Lib.hid hyl
  have HZ0 := Lib.hid hZ9
  have HYG := Lib.hid (fun (j : Nat) (h : j < xs.dropLast.length) (h2 : j < xs.length) => (show xs.dropLast[j]'h = xs[j]'h2 from by simp))
  have hNc : (N : Int) ≤ (N : Int) + 1 := by omega
  have hN8 : N ≤ 8 := by omega
  clear hp hyl hZ9
  go_wp2_with fail
  go_loopw [6, 34] (fun o i wr => ∃ (j : Nat) (ks : List Tr), j ≤ N ∧ i = .int .i64 j ∧ Hid (GrowB w1 wr 61 45 o ks j) ∧ Hid ((linesI (xs.dropLast.drop j)).map (ks ++ ·) = Z) ∧ Ext w1 wr) (fun _ i _ => N - (intOf i).toNat)
  case atStart => exact ⟨0, [], Nat.zero_le _, rfl, Lib.hid (GrowB.nil _ _ _ _), Lib.hid (by rw [← HZ0.out]; simp), Ext.refl _⟩
  case round =>
    obtain ⟨j, ks, hj, rfl, HG, HJ, hx⟩ := hrel
    by_cases hlt : j < N
    · have hjz : (j : Int) < (N : Int) := by omega
      have hjx : j < xs.length := by rw [HN.out]; omega
      have hcx := HC.out wr hx j hjx
      obtain ⟨x, hxj⟩ : ∃ x, x = xs[j] := ⟨_, rfl⟩
      rw [← hxj] at hcx
      have hxl : x.length ≤ 1000000000 := by rw [hxj]; exact HSZ.out _ (List.getElem_mem hjx)
      have hst := linesI_step (xs := xs.dropLast) (j := j) (by rw [HYL.out]; exact hlt)
      rw [HYG.out j _ hjx, ← hxj] at hst
      have HST := Lib.hid (HJ.out.symm.trans (by rw [hst]))
      have hcl := cut_len x
      obtain ⟨x1, hx1⟩ : ∃ y, (Lib.cut x [61]).1 = y := ⟨_, rfl⟩
      obtain ⟨x2, hx2⟩ : ∃ y, (Lib.cut x [61]).2.1 = y := ⟨_, rfl⟩
      have HCUT := Lib.hid (fun (W : World) (h : Ext w W) => cut_any x W (hW.ext h).1 hxl)
      have hli : lineI x = match rdV x1, rdV x2 with
        | some t, some b => some (t, b)
        | _, _ => none := by rw [← hx1, ← hx2]; rfl
      rw [hx1, hx2] at HCUT hcl
      have HP1 := Lib.hid (fun (W : World) (h : Ext w W) => parseTermI_any x1 (by omega) W (hW.ext h))
      have HP2 := Lib.hid (fun (W : World) (h : Ext w W) => parseTermI_any x2 (by omega) W (hW.ext h))
      rw [← rdV_eq] at HP1 HP2
      obtain ⟨R1, hR1⟩ : ∃ R, rdV x1 = R := ⟨_, rfl⟩
      obtain ⟨R2, hR2⟩ : ∃ R, rdV x2 = R := ⟨_, rfl⟩
      rw [hR1] at HP1 hli
      rw [hR2] at HP2 hli
      have HLI := Lib.hid hli
      have hjw : IntKind.i64.wrap ((j : Int) + 1) = (j : Int) + 1 := IntWalk.i64_in _ ⟨by omega, by omega⟩
      have hwx := h1.trans hx
      have hj9 : j ≤ 8 := by omega
      have hsr := hx.size
      clear hst hli hR1 hR2 hx1 hx2 hxj hcl
      go_wp2_with fail
      refine (HCUT.out wr hwx).mono ?_
      rintro e w2 ⟨bb, rfl, h2⟩
      go_wp2_with fail
      refine (HP1.out w2 (hwx.trans h2)).mono ?_
      rintro e w3 ⟨u, rfl, hM3, h3⟩
      obtain ⟨a1, a2, a3, a4, a5, rfl⟩ := hM3.three
      have hE3 := (Ext.refl w3).alloc (.cells #[.int .i64 a1, .int .i64 a2, .slice a3 a4 a5] 45)
      have hb3 := heap_alloc_new w3 (.cells #[.int .i64 a1, .int .i64 a2, .slice a3 a4 a5] 45)
      have hs3 : w3.heap.size < (w3.alloc (.cells #[.int .i64 a1, .int .i64 a2, .slice a3 a4 a5] 45)).heap.size := by simp
      have hwx3 := ((hwx.trans h2).trans h3).trans hE3
      go_wp2_with fail
      generalize hw4 : w3.alloc _ = w4 at hE3 hb3 hs3 hwx3 ⊢
      refine (HP2.out w4 hwx3).mono ?_
      rintro e w5 ⟨u, rfl, hM5, h5⟩
      obtain ⟨c1, c2, c3, c4, c5, rfl⟩ := hM5.three
      have hb5 := ((h5.alloc (.cells #[.int .i64 c1, .int .i64 c2, .slice c3 c4 c5] 45))).blk hb3
      have hx5 := (hx.trans ((h2.trans h3).trans hE3)).trans h5
      clear hw4
      cases R1 with
      | none =>
        have hz : Z = none := by rw [HST.out, HLI.out]; rfl
        have hp : P = none := by rw [HP.out, hz]; rfl
        have HPN := Lib.hid hp
        clear hz hp
        go_wp2_with fail
        go_ret2
        rw [HPN.out]
        exact PdQ.nil (h1.trans (hx5.alloc _))
      | some t1 =>
        cases R2 with
        | none =>
          have hz : Z = none := by rw [HST.out, HLI.out]; rfl
          have hp : P = none := by rw [HP.out, hz]; rfl
          have HPN := Lib.hid hp
          clear hz hp
          go_wp2_with fail
          go_ret2
          rw [HPN.out]
          exact PdQ.nil (h1.trans (hx5.alloc _))
        | some t2 =>
          have hst2 : Z = (linesI (xs.dropLast.drop (j + 1))).map ((ks ++ [t1, t2]) ++ ·) := by
            rw [HST.out, HLI.out]
            simp only [Option.map_map]
            congr 1
            funext ds
            simp
          have HST2 := Lib.hid hst2.symm
          have hML := (MadeL.two hM3 hM5 hE3 h3.size h5).since h2.size
          have h55 := ((h2.trans h3).trans hE3).trans h5
          have hgg := HG.out
          obtain ⟨y0, y1, y2, f0, f1, f2⟩ := own3 hb5
          clear hst2
          go_wp2_with (at_builtin; refine wpList_append_defB _ (by rfl) (.tmp 60) (.tmp 64) _ (by rfl) 61 45 i0 _ Tryz.underlying23 hi hz0 hz1 hz2 rfl (by rfl) hgg hsr h55 hML (((Ext.refl _).alloc _).alloc _) (by rfl) (by first | exact alloc2_new _ _ _ | exact heap_alloc_new _ _) (by omega) ?_)
          intro v' w6 hG6 hB6 hK6
          clear hK6 y0 y1 y2 f0 f1 f2
          go_wp2_with fail
          go_roundw
          case rel => exact ⟨j + 1, ks ++ [t1, t2], by omega, by go_num, Lib.hid hG6, HST2, Below.trans hx hB6⟩
          case measure => simp [intOf]; omega
    · obtain rfl : j = N := by omega
      obtain ⟨A, cap, rfl, q1, q2, hMD⟩ := HG.out.made
      have hkn := HG.out.1
      have hzs : Z = some ks := by
        rw [← HJ.out, linesI_end (by rw [HYL.out]; omega)]
        simp
      have hpp : P = if dfV ks j = true then some ks else none := by
        rw [HP.out, hzs]
        show (if dfV ks (ks.length / 2) = true then some ks else none) = _
        rw [hkn, Nat.mul_div_cancel _ (by decide)]
      have HPP := Lib.hid hpp
      have HDV := Lib.hid (fun (W : World) (h : Ext wr W) => defsValid_any ks j cap W A (hMD.lies.ext h) hkn q1 q2)
      obtain ⟨bd, hbd⟩ : ∃ b, dfV ks j = b := ⟨_, rfl⟩
      rw [hbd] at HPP HDV
      have HKN := Lib.hid hkn
      clear hpp hzs hbd hkn
      cases bd with
      | false =>
        go_wp2_with fail
        refine (HDV.out wr (Ext.refl _)).mono ?_
        rintro e w5 ⟨rfl, h5⟩
        go_wp2_with fail
        go_ret2
        rw [HPP.out]
        exact PdQ.nil ((h1.trans hx).trans h5)
      | true =>
        go_wp2_with fail
        refine (HDV.out wr (Ext.refl _)).mono ?_
        rintro e w5 ⟨rfl, h5⟩
        go_wp2_with fail
        go_ret2
        rw [HPP.out]
        obtain ⟨L, hO, hF⟩ := hMD.ext h5
        exact ⟨A, j, cap, rfl, q1, q2, HKN.out, ⟨L, hO, hF.mono h1.size (Nat.le_refl _)⟩, (h1.trans hx).trans h5⟩
end Go.Proofs.YtolkohncmidpeaaGreatDoor
namespace Go.Proofs.YtolkohncmidpeaaGreatDoor
open Go.RowKit
set_option linter.unusedVariables false
theorem bldSize : (Tryz.prog.info? 59).map (·.size) = some 2 := by kernel_rfl
theorem bldLies : liesAt Tryz.prog Tryz.prog.depth 59 (2 / Tryz.prog.cellsOf 59) 0 59 1 = true := by kernel_rfl
set_option maxHeartbeats 1000000 in
set_option maxRecDepth 100000 in
theorem check_used (b : Nat) (w : World) (h0 : w.cell? ⟨b, 0, none⟩ = some (.pointer (some ⟨b, 0, none⟩))) : Calls Tryz.prog 76 #[.pointer (some ⟨b, 0, none⟩)] w fun e w' => e = .returned (.tuple #[]) ∧ w' = w := by
  obtain ⟨j, hj, _⟩ := Option.map_eq_some_iff.1 bldSize
  go_enter Tryz.func76, Tryz.ntmps76
  go_wp2
  rw [Lib.run_neq_ptr_same w _ Tryz.underlying57 hj]
  go_wp2
  go_end0
  exact ⟨rfl, rfl⟩
set_option maxHeartbeats 1000000 in
set_option maxRecDepth 100000 in
theorem check_fresh (b : Nat) (w : World) (h0 : w.cell? ⟨b, 0, none⟩ = some (.pointer none)) (hsh : w.shape? b = some (59, 2)) (hfz : w.frozen? ⟨b, 0, none⟩ = false) : Calls Tryz.prog 76 #[.pointer (some ⟨b, 0, none⟩)] w fun e w' => e = .returned (.tuple #[]) ∧ w' = w.setCell ⟨b, 0, none⟩ (.pointer (some ⟨b, 0, none⟩)) := by
  obtain ⟨j, hj, hjs⟩ := Option.map_eq_some_iff.1 bldSize
  go_enter Tryz.func76, Tryz.ntmps76
  go_wp2
  rw [Lib.run_to_unsafe w ⟨b, 0, none⟩ Tryz.underlying57 Tryz.underlying128 hj (by rw [hjs]; decide) hsh (Nat.zero_lt_succ 1)]
  simp only [Result.andThen]
  rw [Oper.upon_value]
  go_wp2
  rw [run_callFunc_extern Tryz.func114 (by kernel_rfl) (by kernel_rfl) (by kernel_rfl) (e := Extern.AbiNoEscape.same) (by kernel_rfl)]
  rw [Lib.run_noEscape]
  simp only [Result.andThen]
  rw [Oper.upon_value]
  go_wp2
  rw [Lib.run_from_unsafe w ⟨b, 0, none⟩ Tryz.underlying128 Tryz.underlying57 hj hsh bldLies]
  simp only [Result.andThen]
  rw [Oper.upon_value]
  go_wp2
  go_end0
  exact ⟨rfl, rfl⟩
theorem check_any (B b : Nat) (bs : List Value) (w : World) (h : Lib.IsBuilder 59 5 B b bs w) : Calls Tryz.prog 76 #[.pointer (some ⟨b, 0, none⟩)] w fun e w' => e = .returned (.tuple #[]) ∧ Lib.BuilderAt 59 5 B b (.pointer (some ⟨b, 0, none⟩)) bs w' ∧ (∀ q, q ≠ b → w'.heap[q]? = w.heap[q]?) ∧ Below B w w' := by
  rcases h with h | h
  · refine (check_fresh b w h.cell0 h.shape h.frozen0).mono ?_
    rintro e w' ⟨rfl, rfl⟩
    exact ⟨rfl, h.used _, fun q hq => Below.heap_setCell _ _ _ _ hq, (Below.refl B w).setCell (p := ⟨b, 0, none⟩) h.1 _⟩
  · refine (check_used b w h.cell0).mono ?_
    rintro e w' ⟨rfl, rfl⟩
    exact ⟨rfl, h, fun _ _ => rfl, Below.refl B _⟩
theorem infoByte : (Tryz.prog.info? 5).map (fun i => (i.zero, i.size, i.bytes)) = some (some (.int .u8 0), 1, 1) := by kernel_rfl
set_option maxHeartbeats 1000000 in
set_option maxRecDepth 100000 in
theorem writeString_any (B b : Nat) (bs : List Value) (s : ByteArray) (w : World) (h : Lib.IsBuilder 59 5 B b bs w) (hlen : bs.length + s.size ≤ 140737488355328) (hBw : B ≤ w.heap.size) :
    Calls Tryz.prog 36 #[.pointer (some ⟨b, 0, none⟩), .string s] w fun e w' => e = .returned (.tuple #[.int .i64 s.size, .nilIface]) ∧ Lib.IsBuilder 59 5 B b (bs ++ Lib.strCells s) w' ∧ (∀ q cs e' r, w.heap[q]? = some (.cells cs e' r) → e' ≠ 5 → q ≠ b → w'.heap[q]? = some (.cells cs e' r)) ∧ Below B w w' := by
  obtain ⟨i0, hi, hz0, hz1, hz2⟩ := info_parts infoByte
  have hne5 : 59 ≠ 5 := by decide
  go_enter Tryz.func36, Tryz.ntmps36
  go_wp2_with fail
  refine (check_any B b bs _ h).mono ?_
  rintro e w1 ⟨rfl, h1, hk1, hb1⟩
  obtain ⟨hB, v, hbk, hown, hne⟩ := h1
  have c0 : w1.cell? ⟨b, 0, none⟩ = some (.pointer (some ⟨b, 0, none⟩)) := by rw [Lib.cell_of_heap hbk]; rfl
  have c1 : w1.cell? ⟨b, 1, none⟩ = some v := by rw [Lib.cell_of_heap hbk]; rfl
  have hlt : b < w1.heap.size := lt_of_blk hbk
  go_wp2_with (at_builtin; refine Lib.wpList_append_own_string _ rfl _ _ 22 9 rfl B 5 i0 Tryz.underlying22 Tryz.underlying9 hi hz0 hz1 hz2 _ _ _ rfl hown s rfl ?c3 ?c4 ?c5 ?_)
  case c3 => unfold maxLen; omega
  case c4 => omega
  case c5 => have := hb1.size; omega
  intro v' w2 hown' hgrow _
  have hb2 : w2.heap[b]? = some (.cells #[.pointer (some ⟨b, 0, none⟩), v] 59 (0, 0)) := by
    rw [hgrow.block b hlt (fun e => hne e.symm)]
    exact hbk
  have d0 : w2.cell? ⟨b, 0, none⟩ = some (.pointer (some ⟨b, 0, none⟩)) := by rw [Lib.cell_of_heap hb2]; rfl
  have d1 : w2.cell? ⟨b, 1, none⟩ = some v := by rw [Lib.cell_of_heap hb2]; rfl
  have f1 : w2.frozen? ⟨b, 1, none⟩ = false := Lib.frozen_of_heap hb2 1
  obtain ⟨ao, n', cap, rfl⟩ : ∃ ao n' cap, v' = .slice ao n' cap := by
    rcases hown'.2 with ⟨hv, _⟩ | ⟨g, cap, cur, hv, _⟩
    · exact ⟨_, _, _, hv⟩
    · exact ⟨_, _, _, hv⟩
  have hkeep : ∀ q cs e' r, w.heap[q]? = some (.cells cs e' r) → e' ≠ 5 → q ≠ b → w2.heap[q]? = some (.cells cs e' r) := fun q cs e' r hq he hqb => by
    have h9 : w1.heap[q]? = some (.cells cs e' r) := (hk1 q hqb).trans hq
    refine (hgrow.block q (lt_of_blk h9) (fun hv => ?_)).trans h9
    rcases hown.2 with ⟨h3, -⟩ | ⟨g, c, cur, h3, -, hg, -⟩
    · rw [h3] at hv; simp [Value.ownBlock] at hv
    · rw [h3] at hv
      simp only [Value.ownBlock, Option.some.injEq] at hv
      subst hv
      rw [hg] at h9
      simp only [Option.some.injEq, Obj.cells.injEq] at h9
      exact he h9.2.1.symm
  have HKEEP := Lib.hid hkeep
  clear hkeep
  go_wp2_with fail
  go_ret2
  refine ⟨rfl, .inr ?_, fun q cs e' r hq he hqb => (Below.heap_setCell _ _ _ _ hqb).trans (HKEEP.out q cs e' r hq he hqb), ?_⟩
  · exact Lib.BuilderAt.put (T := 59) (e := 5) hB hb2 (bs' := bs ++ Lib.strCells s) (by simpa [Lib.strCells_length] using hown') hne5
  · exact (hb1.grown hgrow (by have := hb1.size; omega) (fun k hk => (hown.lt k hk).1)).setCell (p := ⟨b, 1, none⟩) hB _
end Go.Proofs.YtolkohncmidpeaaGreatDoor

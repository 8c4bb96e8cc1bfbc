/-
  PROVED: the law FnUsedDefs returns true for every input: a definition that is not used can be replaced by another one without changing the unfolded term.
  CONDITIONS: none.
-/
import Derived.Test.YtappakllopkfiaaZAB
import Derived.Test.YtappakllopkfiaaZAX
import Derived.Test.YtappakllopkfiaaZBD
import Derived.Test.YtappakllopkfiaaZBF
import Derived.Test.YtappakllopkfiaaZBG
import Derived.Test.YtappakllopkfiaaZBH
import Derived.Test.YtappakllopkfiaaZBI
import Derived.Test.YtappakllopkfiaaZBJ
import Derived.Deep.RegionHeld3
import Derived.Test.YtappakllopkfiaaRows
namespace Go.Proofs.Ytappakllopkfiaa.usedDefsL
open Go.RowKit Go.ChangeShapes Go.WideShapes Go.ChangeAt
set_option linter.unusedVariables false

theorem own : ownKnob Try.prog.godebug = none := by kernel_rfl

theorem same1 (c : Tr) (w : World) (v u : Value) (h : Lies w c v) (k : Lies w c u) : Calls Try.prog 34 #[v, u] w fun e w' => e = .returned (.bool true) ∧ Ext w w' := by
  have := sameTerm_any c w c v u h k
  rw [eqTr_self] at this
  exact this
theorem u1 {t x : Tr} {z : Bool} {ks : List Tr} {n : Nat} (h : unfV ks n t = (x, z)) (w : World) (v : Value) (hin : Lies w t v) (A : Option Addr) (cap : Nat) (hK : LiesK w A ks) (hn : ks.length = n * 2) (hl : n ≤ cap) (hc : cap ≤ maxLen) : Calls Try.prog 44 #[.slice A n cap, v] w fun e w' => ∃ u, e = .returned (.tuple #[u, .bool z]) ∧ Lies w' x u ∧ Ext w w' := by
  have := unfoldTerm_any ks n cap w A t v hK hn hl hc hin
  rw [h] at this
  exact this.mono fun e w' ⟨r, h1, h2, h3⟩ => ⟨r, h1, h2.lies, h3⟩
theorem u2 {t x : Tr} {z : Bool} {ks : List Tr} {n : Nat} (h : unfV ks n t = (x, z)) (w : World) (v : Value) (hin : Lies w t v) (A : Option Addr) (cap : Nat) (hK : LiesK w A ks) (hn : ks.length = n * 2) (hl : n ≤ cap) (hc : cap ≤ maxLen) : Calls Try.prog 45 #[.slice A n cap, v] w fun e w' => ∃ u, e = .returned (.tuple #[u, .bool z]) ∧ Lies w' x u ∧ Ext w w' := by
  have := specUnfoldTerm_any ks n cap w A t v hK hn hl hc hin
  rw [h] at this
  exact this.mono fun e w' ⟨r, h1, h2, h3⟩ => ⟨r, h1, h2.lies, h3⟩
theorem unfV_parts {t x : Tr} {ks : List Tr} {n : Nat} (h : unfV ks n t = (x, true)) : dfV ks n = true ∧ valid sigT t = true ∧ mxf t 0 ≤ (n : Int) ∧ unfD ks n t = (x, true) := by
  unfold unfV at h
  split at h
  · rename_i hh
    simp only [Bool.and_eq_true, decide_eq_true_eq] at hh
    exact ⟨hh.1, hh.2.1, hh.2.2, h⟩
  · cases h
theorem ud1 {t : Tr} {us : List Int} {ks : List Tr} {n : Nat} (h : usedV ks n t = us) (w : World) (v : Value) (hin : Lies w t v) (A : Option Addr) (cap : Nat) (hK : LiesK w A ks) (hn : ks.length = n * 2) (hl : n ≤ cap) (hc : cap ≤ maxLen) (hn9 : n ≤ 9) : Calls Try.prog 47 #[.slice A n cap, v] w fun e w' => ∃ B c, e = .returned (.slice B us.length c) ∧ us.length ≤ c ∧ c ≤ maxLen ∧ Nums w' B us ∧ Ext w w' := by
  have := usedDefs_any ks n cap w A t v hK hn hl hc hin (by omega)
  rw [h] at this
  exact this.mono fun e w' ⟨B, c, L, h1, h2, h3, h4, h5⟩ => ⟨B, c, h1, h2, h3, h4.1.nums, h5⟩
theorem ud2 {t : Tr} {us : List Int} {ks : List Tr} {n : Nat} (h : usedV ks n t = us) (w : World) (v : Value) (hin : Lies w t v) (A : Option Addr) (cap : Nat) (hK : LiesK w A ks) (hn : ks.length = n * 2) (hl : n ≤ cap) (hc : cap ≤ maxLen) (hn9 : n ≤ 9) : Calls Try.prog 49 #[.slice A n cap, v] w fun e w' => ∃ B c, e = .returned (.slice B us.length c) ∧ us.length ≤ c ∧ c ≤ maxLen ∧ Nums w' B us ∧ Ext w w' := by
  have := specUsedDefs_any ks n cap w A t v hK hn hl hc hin (by omega)
  rw [h] at this
  exact this
theorem dk1 (us : List Int) (w : World) (A A' : Option Addr) (cap cap' : Nat) (h : Nums w A us) (hl : us.length ≤ cap) (hc : cap ≤ maxLen) (h' : Nums w A' us) (hl' : us.length ≤ cap') (hc' : cap' ≤ maxLen) : Calls Try.prog 48 #[.slice A us.length cap, .slice A' us.length cap'] w fun e w' => e = .returned (.bool true) ∧ Ext w w' := by
  have := dkInts_any us us w A A' cap cap' h hl hc h' hl' hc'
  rw [decide_eq_true rfl] at this
  exact this
theorem infoDefU : (Try.prog.info? 74).map (fun i => (i.zero, i.size, i.bytes)) = some (some (.agg #[.int .i64 0, .int .i64 0, .slice none 0 0, .int .i64 0, .int .i64 0, .slice none 0 0]), 6, 80) := by kernel_rfl
theorem outI_len : ∀ (s : List Bool) (i : Nat), (outI s i).length ≤ s.length
  | [], _ => by simp [outI]
  | b :: s, i => by
    have := outI_len s (i + 1)
    unfold outI
    split <;> simp <;> omega
theorem usD_len (ks : List Tr) : ∀ (j : Nat) (s : List Bool), (usD ks j s).length = s.length
  | 0, _ => rfl
  | j + 1, s => by
    unfold usD
    rw [usD_len ks j]
    split
    · exact markF_len _ _ _
    · rfl
theorem usedV_len {ks : List Tr} {n : Nat} (_ : ks.length = n * 2) (t : Tr) : (usedV ks n t).length ≤ n := by
  unfold usedV
  split
  · refine Nat.le_trans (outI_len _ _) ?_
    rw [usD_len, markF_len]
    simp
  · simp
theorem take_mem {us : List Int} {q : Nat} (h : q < us.length) (x : Int) : decide (x ∈ us.take (q + 1)) = (decide (x ∈ us.take q) || (us[q] == x)) := by
  rw [List.take_add_one, List.getElem?_eq_getElem h]
  simp only [Option.toList_some, List.mem_append, List.mem_singleton]
  by_cases h1 : x ∈ us.take q
  · simp [h1]
  · by_cases h2 : us[q] = x
    · simp [h2]
    · have h3 : ¬ x = us[q] := fun e => h2 e.symm
      simp [h1, h2, h3]
set_option maxRecDepth 100000 in
set_option maxHeartbeats 4000000 in
theorem walk (w0 : World) (A : Option Addr) (cap : Nat) (bs : List Int) (hl : bs.length ≤ cap) (hc : cap ≤ maxLen) (hB : Bytes w0 w0.heap.size A bs) :
    Calls Try.prog 11 #[.slice A bs.length cap] w0 fun e w' => e = .returned (.bool true) ∧ Ext w0 w' := by
  have hcc := hc
  unfold maxLen at hcc
  by_cases hn : 1048576 < (bs.length : Int)
  · have d1 : decide (1048576 < (bs.length : Int)) = true := decide_eq_true hn
    go_enter Try.func11, Try.ntmps11
    go_wp2_with fail
    go_ret
    exact ⟨rfl, Ext.refl _⟩
  have d1 : decide (1048576 < (bs.length : Int)) = false := decide_eq_false hn
  go_enter Try.func11, Try.ntmps11
  go_wp2_with fail
  refine (drawUsedDefs_any w0 A cap bs hl hc hB).mono ?_
  rintro e w1 ⟨Al, nl, cl, ks, ⟨k0, m0, ks0⟩, u, rfl, hla, hlb, hlz, hln, hl9, hlc, hct, hFK, hF0, e1⟩
  have s1 : w0.heap.size ≤ w1.heap.size := e1.size
  have hL0 := hF0.lies
  obtain ⟨A0, cap0, rfl, hl0, hc0, hK0⟩ := Lies.mk_iff.1 hL0
  have hKs : LiesK w1 Al ks := InK.mono (fun b hb => hb.2) (fun _ _ => rfl) hFK
  clear hF0 hFK hlc
  obtain ⟨w2, hw2⟩ : ∃ w2, w2 = w1.alloc (.cells #[.int .i64 k0, .int .i64 m0, .slice A0 ks0.length cap0] 44) := ⟨_, rfl⟩
  have e2 : Ext w1 w2 := hw2 ▸ (Ext.refl w1).alloc _
  have b2 := heap_alloc_new w1 (.cells #[.int .i64 k0, .int .i64 m0, .slice A0 ks0.length cap0] 44)
  rw [← hw2] at b2
  have s2 : w1.heap.size < w2.heap.size := lt_of_blk b2
  go_wp2_with fail
  rw [← hw2]
  clear hw2
  obtain ⟨us, hus⟩ : ∃ us, usedV ks nl (.mk k0 m0 ks0) = us := ⟨_, rfl⟩
  have HUS := Lib.hid hus
  clear hus
  have X1_2 : Ext w1 w2 := (Ext.refl w1).trans e2
  refine (ud1 HUS.out w2 _ (hL0.ext X1_2) Al cl (hKs.ext X1_2) hln hla hlb hl9).mono ?_
  rintro e w3 ⟨Bu, cu, rfl, hlu, hcu, hNu, e3⟩
  have s3 : w2.heap.size ≤ w3.heap.size := e3.size
  have ba0_3 := e3.blk b2
  obtain ⟨za00, za01, za02, -, -, -⟩ := own3 ba0_3
  have lza0 := lt_of_blk ba0_3
  go_wp2_with fail
  clear za00 za01 za02 lza0
  have X1_3 : Ext w1 w3 := X1_2.trans e3
  refine (ud2 HUS.out w3 _ (hL0.ext X1_3) Al cl (hKs.ext X1_3) hln hla hlb hl9).mono ?_
  rintro e w4 ⟨Bs, cs, rfl, hls, hcs, hNs, e4⟩
  have s4 : w3.heap.size ≤ w4.heap.size := e4.size
  have ba0_4 := e4.blk ba0_3
  obtain ⟨za00, za01, za02, -, -, -⟩ := own3 ba0_4
  have lza0 := lt_of_blk ba0_4
  go_wp2_with fail
  clear za00 za01 za02 lza0
  have X3_4 : Ext w3 w4 := (Ext.refl w3).trans e4
  refine (dk1 us w4 _ _ _ _ (hNu.ext X3_4) hlu hcu (hNs.ext (Ext.refl w4)) hls hcs).mono ?_
  rintro e w5 ⟨rfl, e5⟩
  have s5 : w4.heap.size ≤ w5.heap.size := e5.size
  have ba0_5 := e5.blk ba0_4
  obtain ⟨za00, za01, za02, -, -, -⟩ := own3 ba0_5
  have lza0 := lt_of_blk ba0_5
  go_wp2_with fail
  clear za00 za01 za02 lza0
  have X1_4 : Ext w1 w4 := X1_3.trans e4
  have X1_5 : Ext w1 w5 := X1_4.trans e5
  refine (defsValid_any ks nl cl w5 Al (hKs.ext X1_5) hln hla hlb).mono ?_
  rintro e w6 ⟨rfl, e6⟩
  have s6 : w5.heap.size ≤ w6.heap.size := e6.size
  obtain ⟨dv, hdv⟩ : ∃ b, dfV ks nl = b := ⟨_, rfl⟩
  rw [hdv]
  clear hdv
  cases dv with
  | false =>
    have ba0_6 := e6.blk ba0_5
    obtain ⟨za00, za01, za02, -, -, -⟩ := own3 ba0_6
    have lza0 := lt_of_blk ba0_6
    go_wp2_with fail
    clear za00 za01 za02 lza0
    have X1_6 : Ext w1 w6 := X1_5.trans e6
    refine (ud2 HUS.out w6 _ (hL0.ext X1_6) Al cl (hKs.ext X1_6) hln hla hlb hl9).mono ?_
    rintro e w7 ⟨Bt, ct, rfl, hlt, hct2, hNt, e7⟩
    have s7 : w6.heap.size ≤ w7.heap.size := e7.size
    have ba0_7 := e7.blk ba0_6
    obtain ⟨za00, za01, za02, -, -, -⟩ := own3 ba0_7
    have lza0 := lt_of_blk ba0_7
    go_wp2_with fail
    clear za00 za01 za02 lza0
    have X3_5 : Ext w3 w5 := X3_4.trans e5
    have X3_6 : Ext w3 w6 := X3_5.trans e6
    have X3_7 : Ext w3 w7 := X3_6.trans e7
    refine (dk1 us w7 _ _ _ _ (hNu.ext X3_7) hlu hcu (hNt.ext (Ext.refl w7)) hlt hct2).mono ?_
    rintro e w8 ⟨rfl, e8⟩
    have s8 : w7.heap.size ≤ w8.heap.size := e8.size
    have ba0_8 := e8.blk ba0_7
    obtain ⟨za00, za01, za02, -, -, -⟩ := own3 ba0_8
    have lza0 := lt_of_blk ba0_8
    go_wp2_with fail
    clear za00 za01 za02 lza0
    have X0_1 : Ext w0 w1 := (Ext.refl w0).trans e1
    have X0_2 : Ext w0 w2 := X0_1.trans e2
    have X0_3 : Ext w0 w3 := X0_2.trans e3
    have X0_4 : Ext w0 w4 := X0_3.trans e4
    have X0_5 : Ext w0 w5 := X0_4.trans e5
    have X0_6 : Ext w0 w6 := X0_5.trans e6
    have X0_7 : Ext w0 w7 := X0_6.trans e7
    have X0_8 : Ext w0 w8 := X0_7.trans e8
    go_ret
    exact ⟨rfl, X0_8⟩
  | true =>
    have X1_6 : Ext w1 w6 := X1_5.trans e6
    have X3_5 : Ext w3 w5 := X3_4.trans e5
    have X3_6 : Ext w3 w6 := X3_5.trans e6
    obtain ⟨i0, hi, hz0, hz1, hz2⟩ := info_parts infoDefU
    have hKk := (hKs.ext X1_6)
    have hNk := (hNu.ext X3_6)
    have hLk := (hL0.ext X1_6)
    have hKa : InK (w6.alloc (.cells #[] 74)) (fun b => b < w6.heap.size) Al ks := InK.mono (fun b hb => hb) (fun b hb => ((Ext.refl w6).alloc _).heap b hb) hKk
    have hown : (w6.alloc (.cells #[] 74)).ownsRow w6.heap.size 74 6 (.slice (some ⟨w6.heap.size, 0, none⟩) 0 0) 0 [] := ⟨rfl, .inr ⟨_, 0, #[], rfl, Nat.le_refl _, heap_alloc_new _ _, Nat.le_refl _, Nat.zero_le _, rfl, rfl⟩⟩
    have ba0_6 := e6.blk ba0_5
    obtain ⟨za00, za01, za02, -, -, -⟩ := own3 ba0_6
    have lza0 := lt_of_blk ba0_6
    obtain ⟨U, hU⟩ : ∃ U, us.length = U := ⟨_, rfl⟩
    rw [hU] at hlu ⊢
    have HU := Lib.hid hU
    clear hU
    go_wp2_with (at_builtin; refine wpList_append_defs _ rfl (.tmp 41) (.tmp 42) 66 rfl 74 i0 _ Try.underlying66 hi hz0 hz1 hz2 rfl rfl hown (by simp) rfl hlz hKa hln (by omega) ?_)
    clear za00 za01 za02 lza0
    intro v7 wz hE7 hB7
    have hx7 : Ext w6 wz := Below.trans ((Ext.refl w6).alloc _) hB7
    obtain ⟨Ao, co, rfl, ho1, ho2, -⟩ := hE7.slice
    clear hKa hown hB7
    have hUi : (U : Int) ≤ (U : Int) := Int.le_refl _
    unfold maxLen at ho2 hcu
    have hU9 : U ≤ nl := by rw [← HU.out, ← HUS.out]; exact usedV_len hln _
    have HBA := Lib.hid (show ∀ w', Ext w6 w' → w'.cell? ⟨w1.heap.size, 0, none⟩ = some (.int .i64 k0) ∧ w'.cell? ⟨w1.heap.size, 1, none⟩ = some (.int .i64 m0) ∧ w'.cell? ⟨w1.heap.size, 2, none⟩ = some (.slice A0 ks0.length cap0) from fun w' hw => by
      obtain ⟨y0, y1, y2, -, -, -⟩ := own3 (hw.blk ba0_6)
      exact ⟨y0, y1, y2⟩)
    go_wp2_with fail
    go_loopw [7] (fun i wr => ∃ j : Nat, j ≤ nl ∧ i = .int .i64 j ∧ GrowE w6.heap.size wr 74 (.slice Ao nl co) (repD us ks j) nl ∧ Ext w6 wr) (fun i _ => nl - (intOf i).toNat)
    case atStart => exact ⟨0, Nat.zero_le _, rfl, hE7, hx7⟩
    case round =>
      obtain ⟨j, hj, rfl, hG, hxr⟩ := hrel
      by_cases hlt : j < nl
      · have hjz : (j : Int) < (nl : Int) := by omega
        have hrl := repD_len us ks j
        obtain ⟨r, co', he, hr1, hr2, -, -, hcell⟩ := hG.row (by omega)
        simp only [Value.slice.injEq, true_and] at he
        obtain ⟨rfl, rfl⟩ := he
        obtain ⟨x0, y0, z0⟩ := hcell (j * 6) (by omega)
        obtain ⟨x1, y1, z1⟩ := hcell (j * 6 + 1) (by omega)
        obtain ⟨x2, y2, z2⟩ := hcell (j * 6 + 2) (by omega)
        obtain ⟨x3, y3, z3⟩ := hcell (j * 6 + 3) (by omega)
        obtain ⟨x4, y4, z4⟩ := hcell (j * 6 + 3 + 1) (by omega)
        obtain ⟨x5, y5, z5⟩ := hcell (j * 6 + 3 + 2) (by omega)
        have HG := Lib.hid hG
        have HNK := Lib.hid (fun (q : Nat) (hq : q < us.length) => hNk.get hxr hq)
        clear hcell hG hE7
        obtain ⟨wJ, hwJ⟩ : ∃ x, x = wr := ⟨_, rfl⟩
        subst hwJ
        go_wp2_with fail
        go_loopw [8, 9] (fun sm k wr => ∃ (q : Nat) (b : Bool), q ≤ U ∧ k = .int .i64 q ∧ sm = .bool b ∧ decide ((j : Int) ∈ us.take q) = b ∧ wr = wJ) (fun _ k _ => U - (intOf k).toNat)
        case atStart => exact ⟨0, false, Nat.zero_le _, rfl, rfl, by simp, rfl⟩
        case round =>
          obtain ⟨q, b, hq, rfl, rfl, hb, rfl⟩ := hrel
          have HBB := Lib.hid hb
          clear hb
          by_cases hqu : q < U
          · have hqz : (q : Int) < (U : Int) := by omega
            have hqU : q < us.length := by rw [HU.out]; exact hqu
            obtain ⟨bu, ou, rfl, hcu2⟩ := HNK.out q hqU
            have htm := take_mem hqU (j : Int)
            obtain ⟨uq, huq⟩ : ∃ u, us[q] = u := ⟨_, rfl⟩
            rw [huq] at hcu2 htm
            rw [HBB.out] at htm
            obtain ⟨eq, heq⟩ : ∃ e, (uq == (j : Int)) = e := ⟨_, rfl⟩
            rw [heq] at htm
            have HTM := Lib.hid htm
            clear htm huq hqU
            cases b with
            | true =>
              go_wp2_with fail
              go_roundw
              case rel => exact ⟨q + 1, true, by omega, by go_num, rfl, by rw [HTM.out]; simp, by first | exact rfl | trivial⟩
              case measure => simp [intOf]; omega
            | false =>
              go_wp2_with fail
              go_roundw
              case rel => exact ⟨q + 1, eq, by omega, by go_num, rfl, by rw [HTM.out]; simp, by first | exact rfl | trivial⟩
              case measure => simp [intOf]; omega
          · have hqe : us.take q = us := List.take_of_length_le (by rw [HU.out]; omega)
            have hbm := HBB.out
            rw [hqe] at hbm
            have hqf : decide ((q : Int) < (U : Int)) = false := decide_eq_false (by omega)
            have hqn : ¬ ((q : Int) < (U : Int)) := by omega
            clear hqe
            cases b with
            | true =>
              have hrp : repD us ks (j + 1) = repD us ks j := by
                conv => lhs; unfold repD
                rw [if_pos (of_decide_eq_true hbm)]
              have HRP := Lib.hid hrp
              clear hrp hbm
              go_wp2_with fail
              go_roundw
              case rel => exact ⟨j + 1, by omega, by go_num, by rw [HRP.out]; exact HG.out, hxr⟩
              case measure => simp [intOf]; omega
            | false =>
              have hrp : repD us ks (j + 1) = ((repD us ks j).set (j * 2) natT).set (j * 2 + 1) zeroT := by
                conv => lhs; unfold repD
                rw [if_neg (of_decide_eq_false hbm)]
              have s1 := HG.out.set (j := j * 2) (t := natT) (v0 := .int .i64 6) (v1 := .int .i64 0) (v2 := .slice none 0 0) (by omega) (leafIn _ _ 6 0)
              have s2 := s1.set (j := j * 2 + 1) (t := zeroT) (v0 := .int .i64 7) (v1 := .int .i64 0) (v2 := .slice none 0 0) (by rw [List.length_set]; omega) (leafIn _ _ 7 0)
              rw [← hrp, show j * 2 * 3 = j * 6 by omega, show (j * 2 + 1) * 3 = j * 6 + 3 by omega] at s2
              have HS2 := Lib.hid s2
              have hset := (((((hxr.setCell (p := ⟨r, j * 6, none⟩) hr1 (.int .i64 6)).setCell (p := ⟨r, j * 6 + 1, none⟩) hr1 (.int .i64 0)).setCell (p := ⟨r, j * 6 + 2, none⟩) hr1 (.slice none 0 0)).setCell (p := ⟨r, j * 6 + 3, none⟩) hr1 (.int .i64 7)).setCell (p := ⟨r, j * 6 + 3 + 1, none⟩) hr1 (.int .i64 0)).setCell (p := ⟨r, j * 6 + 3 + 2, none⟩) hr1 (.slice none 0 0)
              clear hrp hbm s1 s2
              go_wp2_with fail
              go_roundw
              case rel => exact ⟨j + 1, by omega, by go_num, HS2.out, hset⟩
              case measure => simp [intOf]; omega
      · have hjn : j = nl := by omega
        subst hjn
        obtain ⟨w7, hw7⟩ : ∃ x, x = wr := ⟨_, rfl⟩
        subst hw7
        have e7 : Ext w6 w7 := hxr
        obtain ⟨Ao', co', he, -, -, hKo⟩ := hG.slice
        simp only [Value.slice.injEq, true_and] at he
        obtain ⟨rfl, rfl⟩ := he
        clear hG hE7 hx7
        have s7 : w6.heap.size ≤ w7.heap.size := e7.size
        obtain ⟨⟨k1, m1, ks1⟩, p, hp⟩ : ∃ x z, unfV ks j (.mk k0 m0 ks0) = (x, z) := ⟨_, _, rfl⟩
        have HP := Lib.hid hp
        obtain ⟨⟨k2, m2, ks2⟩, q, hq⟩ : ∃ x z, unfV (repD us ks j) j (.mk k0 m0 ks0) = (x, z) := ⟨_, _, rfl⟩
        have HQ := Lib.hid hq
        clear hp hq
        have ba0_7 := e7.blk ba0_6
        obtain ⟨za00, za01, za02, -, -, -⟩ := own3 ba0_7
        have lza0 := lt_of_blk ba0_7
        go_wp2_with fail
        clear za00 za01 za02 lza0
        have X1_7 : Ext w1 w7 := X1_6.trans e7
        refine (u1 HP.out w7 _ (hL0.ext X1_7) Al cl (hKs.ext X1_7) hln hla hlb).mono ?_
        rintro e w8 ⟨u, rfl, hL1, e8⟩
        have s8 : w7.heap.size ≤ w8.heap.size := e8.size
        obtain ⟨A1, cap1, rfl, hl1, hc1, hK1⟩ := Lies.mk_iff.1 hL1
        obtain ⟨w9, hw9⟩ : ∃ w9, w9 = w8.alloc (.cells #[.int .i64 k1, .int .i64 m1, .slice A1 ks1.length cap1] 44) := ⟨_, rfl⟩
        have e9 : Ext w8 w9 := hw9 ▸ (Ext.refl w8).alloc _
        have b9 := heap_alloc_new w8 (.cells #[.int .i64 k1, .int .i64 m1, .slice A1 ks1.length cap1] 44)
        rw [← hw9] at b9
        have s9 : w8.heap.size < w9.heap.size := lt_of_blk b9
        have ba0_8 := e8.blk ba0_7
        obtain ⟨za00, za01, za02, -, -, -⟩ := own3 ba0_8
        have lza0 := lt_of_blk ba0_8
        go_wp2_with fail
        rw [← hw9]
        clear hw9
        clear za00 za01 za02 lza0
        have X1_8 : Ext w1 w8 := X1_7.trans e8
        have X1_9 : Ext w1 w9 := X1_8.trans e9
        have X7_8 : Ext w7 w8 := (Ext.refl w7).trans e8
        have X7_9 : Ext w7 w9 := X7_8.trans e9
        refine (u1 HQ.out w9 _ (hL0.ext X1_9) Ao co (LiesK.ext hKo X7_9) ((repD_len us ks j).trans hln) ho1 (by unfold maxLen; omega)).mono ?_
        rintro e w10 ⟨u, rfl, hL2, e10⟩
        have s10 : w9.heap.size ≤ w10.heap.size := e10.size
        obtain ⟨A2, cap2, rfl, hl2, hc2, hK2⟩ := Lies.mk_iff.1 hL2
        obtain ⟨w11, hw11⟩ : ∃ w11, w11 = w10.alloc (.cells #[.int .i64 k2, .int .i64 m2, .slice A2 ks2.length cap2] 44) := ⟨_, rfl⟩
        have e11 : Ext w10 w11 := hw11 ▸ (Ext.refl w10).alloc _
        have b11 := heap_alloc_new w10 (.cells #[.int .i64 k2, .int .i64 m2, .slice A2 ks2.length cap2] 44)
        rw [← hw11] at b11
        have s11 : w10.heap.size < w11.heap.size := lt_of_blk b11
        cases p with
        | false =>
          have ba0_9 := e9.blk ba0_8
          have ba0_10 := e10.blk ba0_9
          obtain ⟨za00, za01, za02, -, -, -⟩ := own3 ba0_10
          have lza0 := lt_of_blk ba0_10
          have ba1_10 := e10.blk b9
          obtain ⟨za10, za11, za12, -, -, -⟩ := own3 ba1_10
          have lza1 := lt_of_blk ba1_10
          go_wp2_with fail
          rw [← hw11]
          clear hw11
          clear za00 za01 za02 lza0 za10 za11 za12 lza1
          have X0_1 : Ext w0 w1 := (Ext.refl w0).trans e1
          have X0_2 : Ext w0 w2 := X0_1.trans e2
          have X0_3 : Ext w0 w3 := X0_2.trans e3
          have X0_4 : Ext w0 w4 := X0_3.trans e4
          have X0_5 : Ext w0 w5 := X0_4.trans e5
          have X0_6 : Ext w0 w6 := X0_5.trans e6
          have X0_7 : Ext w0 w7 := X0_6.trans e7
          have X0_8 : Ext w0 w8 := X0_7.trans e8
          have X0_9 : Ext w0 w9 := X0_8.trans e9
          have X0_10 : Ext w0 w10 := X0_9.trans e10
          have X0_11 : Ext w0 w11 := X0_10.trans e11
          go_ret
          exact ⟨rfl, X0_11⟩
        | true =>
          cases q with
          | false =>
            have ba0_9 := e9.blk ba0_8
            have ba0_10 := e10.blk ba0_9
            obtain ⟨za00, za01, za02, -, -, -⟩ := own3 ba0_10
            have lza0 := lt_of_blk ba0_10
            have ba1_10 := e10.blk b9
            obtain ⟨za10, za11, za12, -, -, -⟩ := own3 ba1_10
            have lza1 := lt_of_blk ba1_10
            go_wp2_with fail
            rw [← hw11]
            clear hw11
            clear za00 za01 za02 lza0 za10 za11 za12 lza1
            have X0_1 : Ext w0 w1 := (Ext.refl w0).trans e1
            have X0_2 : Ext w0 w2 := X0_1.trans e2
            have X0_3 : Ext w0 w3 := X0_2.trans e3
            have X0_4 : Ext w0 w4 := X0_3.trans e4
            have X0_5 : Ext w0 w5 := X0_4.trans e5
            have X0_6 : Ext w0 w6 := X0_5.trans e6
            have X0_7 : Ext w0 w7 := X0_6.trans e7
            have X0_8 : Ext w0 w8 := X0_7.trans e8
            have X0_9 : Ext w0 w9 := X0_8.trans e9
            have X0_10 : Ext w0 w10 := X0_9.trans e10
            have X0_11 : Ext w0 w11 := X0_10.trans e11
            go_ret
            exact ⟨rfl, X0_11⟩
          | true =>
            have hxe := udFacts hln HP.out (by rw [HUS.out]; exact HQ.out)
            simp only [Tr.mk.injEq] at hxe
            obtain ⟨rfl, rfl, rfl⟩ := hxe
            have ba0_9 := e9.blk ba0_8
            have ba0_10 := e10.blk ba0_9
            obtain ⟨za00, za01, za02, -, -, -⟩ := own3 ba0_10
            have lza0 := lt_of_blk ba0_10
            have ba1_10 := e10.blk b9
            obtain ⟨za10, za11, za12, -, -, -⟩ := own3 ba1_10
            have lza1 := lt_of_blk ba1_10
            go_wp2_with fail
            rw [← hw11]
            clear hw11
            clear za00 za01 za02 lza0 za10 za11 za12 lza1
            have X8_9 : Ext w8 w9 := (Ext.refl w8).trans e9
            have X8_10 : Ext w8 w10 := X8_9.trans e10
            have X8_11 : Ext w8 w11 := X8_10.trans e11
            have X10_11 : Ext w10 w11 := (Ext.refl w10).trans e11
            refine (same1 _ w11 _ _ (hL1.ext X8_11) (hL2.ext X10_11)).mono ?_
            rintro e w12 ⟨rfl, e12⟩
            have s12 : w11.heap.size ≤ w12.heap.size := e12.size
            have ba0_11 := e11.blk ba0_10
            have ba0_12 := e12.blk ba0_11
            obtain ⟨za00, za01, za02, -, -, -⟩ := own3 ba0_12
            have lza0 := lt_of_blk ba0_12
            have ba1_11 := e11.blk ba1_10
            have ba1_12 := e12.blk ba1_11
            obtain ⟨za10, za11, za12, -, -, -⟩ := own3 ba1_12
            have lza1 := lt_of_blk ba1_12
            have ba2_12 := e12.blk b11
            obtain ⟨za20, za21, za22, -, -, -⟩ := own3 ba2_12
            have lza2 := lt_of_blk ba2_12
            go_wp2_with fail
            clear za00 za01 za02 lza0 za10 za11 za12 lza1 za20 za21 za22 lza2
            have X0_1 : Ext w0 w1 := (Ext.refl w0).trans e1
            have X0_2 : Ext w0 w2 := X0_1.trans e2
            have X0_3 : Ext w0 w3 := X0_2.trans e3
            have X0_4 : Ext w0 w4 := X0_3.trans e4
            have X0_5 : Ext w0 w5 := X0_4.trans e5
            have X0_6 : Ext w0 w6 := X0_5.trans e6
            have X0_7 : Ext w0 w7 := X0_6.trans e7
            have X0_8 : Ext w0 w8 := X0_7.trans e8
            have X0_9 : Ext w0 w9 := X0_8.trans e9
            have X0_10 : Ext w0 w10 := X0_9.trans e10
            have X0_11 : Ext w0 w11 := X0_10.trans e11
            have X0_12 : Ext w0 w12 := X0_11.trans e12
            go_ret
            exact ⟨rfl, X0_12⟩

set_option maxRecDepth 100000 in
theorem lifted (os : Os) (started : os.Started) (H : Type) (enc : TypeId × Value → H) :
    ReturnsInHanded {} Try.checked os 11 .any (Rows.fnUsedDefsSpec.pre6 enc Try.prog Try.f11 Rows.fnUsedDefsRow.domain false) (Rows.fnUsedDefsSpec.post enc Try.prog Try.f11 false true false false) := by
  refine law_lift (C := Try.checked) (fn := Try.f11) (tb := 4) own started (by kernel_rfl) Try.func11 (by kernel_rfl) (by kernel_rfl) rfl Try.underlying4 rfl
    (fun ds h => by
      match ds, h with
      | [d1], _ => exact ⟨rfl, rfl, rfl⟩)
    (ChangeSpec.witness6 (enc := enc) (C := Try.checked) false ⟨#[], #[.slice none 0 0], []⟩ 8 (by kernel_rfl) (by kernel_rfl) (by kernel_rfl) (by kernel_rfl)) ?_
  intro W base args ds p hval hA hlt
  rw [Try.params11] at hA hval
  obtain ⟨v0, vs0, d0, ds0, p0, q0, hargs, rfl, rfl, h0, r0⟩ := trodAll_cons hA
  obtain ⟨rfl, rfl, rfl⟩ := trodAll_nil r0
  obtain rfl : args = #[v0] := by cases args; simp_all
  obtain ⟨A0, cap0, bs0, rfl, hl0, hc0, ha0⟩ := open_bytes Try.underlying35 Try.underlying5 (by kernel_rfl) (hval 0 35 v0 rfl rfl) h0
  exact walk W A0 cap0 bs0 hl0 hc0 ha0.1

theorem over : Rows.fnUsedDefsRow.holds Try.pinned (OpenSpec.ofChange Rows.fnUsedDefsSpec) :=
  OpenClaim.holds_of_wide 11 Try.f11 rfl rfl rfl rfl rfl rfl rfl ⟨rfl, rfl, rfl, rfl, rfl⟩ rfl rfl rfl rfl rfl (by kernel_rfl) Try.func11 (by kernel_rfl)
    (of_decide_eq_true (by kernel_rfl)) (by unfold Func.isWrapper; first | (rw [if_pos (by decide +kernel)]; kernel_rfl) | (rw [if_neg (by decide +kernel)]; exact ⟨rfl, rfl⟩))
    (fun os started H enc _ => lifted os started H enc)

theorem proved : Rows.FnUsedDefsSaid := over
#print axioms proved
end Go.Proofs.Ytappakllopkfiaa.usedDefsL

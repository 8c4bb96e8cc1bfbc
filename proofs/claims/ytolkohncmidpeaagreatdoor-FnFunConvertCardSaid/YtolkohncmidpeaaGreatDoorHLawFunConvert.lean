/-
  PROVED: the law FnFunConvert returns true for every input: computation is conversion.
  CONDITIONS: none.
-/
import Derived.Test.YtolkohncmidpeaaGreatDoorHAB
import Derived.Test.YtolkohncmidpeaaGreatDoorHBM
import Derived.Test.YtolkohncmidpeaaGreatDoorHBN
import Derived.Test.YtolkohncmidpeaaGreatDoorHBO
import Derived.Deep.RegionHeld3
import Derived.LaidMore
import Derived.Lay
import Derived.ProofKit
import Derived.SevenTiedAt
import Derived.Test.YtolkohncmidpeaaGreatDoorCards
import Derived.Test.YtolkohncmidpeaaGreatDoorRows
import Derived.Test.YtolkohncmidpeaaGreatDoorTie
namespace Go.Proofs.YtolkohncmidpeaaGreatDoor.funConvert
open Go.RowKit Go.ChangeShapes Go.WideShapes Go.ChangeAt
set_option linter.unusedVariables false

theorem own : ownKnob Tryz.prog.godebug = none := by kernel_rfl

theorem envOf {W : World} (h : laidMetH Tryz.prog Rows.fnFunConvertRow.laid W) (hsh : W.ShapedOpen Tryz.prog) : EnvR W := by
  rw [MakeChecks.laidMetH_plain _ _ _ (by kernel_rfl)] at h
  exact envR_of h hsh
set_option maxRecDepth 100000 in
set_option maxHeartbeats 4000000 in
theorem walk (w : World) (hE0 : EnvR w) (A : Option Addr) (cap : Nat) (bs : List Int) (hl : bs.length ≤ cap) (hc : cap ≤ maxLen) (hB : Bytes w w.heap.size A bs) :
    Calls Tryz.prog 7 #[.slice A bs.length cap] w fun e w' => e = .returned (.bool true) ∧ Ext w w' := by
  have hcc := hc
  unfold maxLen at hcc
  by_cases hn : 1048576 < (bs.length : Int)
  · have d1 : decide (1048576 < (bs.length : Int)) = true := decide_eq_true hn
    go_enter Tryz.func7, Tryz.ntmps7
    go_wp2_with fail
    go_ret
    exact ⟨rfl, Ext.refl _⟩
  have d1 : decide (1048576 < (bs.length : Int)) = false := decide_eq_false hn
  go_enter Tryz.func7, Tryz.ntmps7
  go_wp2_with fail
  refine (drawComputeFun_any w A cap bs hl hc hB).mono ?_
  rintro e w1 ⟨f, x, B, c, ns, rfl, q1, q2, hN, h1⟩
  clear d1 hB
  go_wp2_with fail
  refine (computeFun_any f ns x w1 (hE0.ext h1) B c q1 q2 hN).mono ?_
  rintro e w2 ⟨rfl, h2⟩
  go_wp2_with fail
  refine (specComputeFun_any f ns x w2 B c q1 q2 (hN.ext h2)).mono ?_
  rintro e w3 ⟨rfl, h3⟩
  have hx := h1.trans (h2.trans h3)
  replace hN := hN.ext (h2.trans h3)
  clear h1 h2 h3
  obtain ⟨⟨n, k⟩, hq⟩ : ∃ q, cmpV f ns x = q := ⟨_, rfl⟩
  rw [hq]
  have hn0 : (n != n) = false := by simp
  have hn1 : (n == n) = true := by simp
  have hk0 : (k != k) = false := by simp
  have hk1 : (k == k) = true := by simp
  by_cases hk : k = 0
  · subst hk
    obtain ⟨T, q, j, hT, hA, rfl, hj20, hn2, hne, hc1, hc2⟩ := fcFacts hq
    obtain ⟨i0, hi, hz0, hz1, hz2⟩ := info_parts infoTermM
    have HNE := Lib.hid hne
    have HA := Lib.hid hA
    have HC1 := Lib.hid hc1
    have HC2 := Lib.hid hc2
    have HFT := Lib.hid (funTerm_any f w3 (hE0.ext hx))
    rw [hT] at HFT
    simp only [Option.isSome_some, Option.getD_some] at HFT
    clear hq hT hA hc1 hc2 hne hE0
    go_wp2_with fail
    refine HFT.out.mono ?_
    rintro e w4 ⟨u, rfl, hM, e4⟩
    have hLT : Lies w4 T u := hM.lies
    obtain ⟨a1, a2, a3, a4, a5, rfl⟩ := hLT.three
    have HLT := Lib.hid hLT
    clear hM hLT HFT
    obtain ⟨w5, hw5⟩ : ∃ y, y = w4.alloc (.cells #[.int .i64 a1, .int .i64 a2, .slice a3 a4 a5] 45) := ⟨_, rfl⟩
    have e5 : Ext w4 w5 := hw5 ▸ (Ext.refl w4).alloc _
    have b5 := heap_alloc_new w4 (.cells #[.int .i64 a1, .int .i64 a2, .slice a3 a4 a5] 45)
    rw [← hw5] at b5
    have hsz5 : w5.heap.size = w4.heap.size + 1 := by rw [hw5]; simp
    have hg0 : (w5.alloc (.cells #[] 45)).heap[w4.heap.size + 1]? = some (.cells #[] 45 (0, 0)) := by rw [← hsz5]; exact heap_alloc_new w5 _
    have hG0 : GrowS (fun b => b < w5.heap.size) w5 (w5.alloc (.cells #[] 45)) 45 (.slice (some ⟨w4.heap.size + 1, 0, none⟩) 0 0) [] := GrowS.lit hg0 (by rw [hsz5]; exact Nat.le_refl _)
    have E55 : Ext w5 (w5.alloc (.cells #[] 45)) := (Ext.refl w5).alloc _
    clear hg0 hsz5
    go_wp2_with fail
    rw [← hw5]
    clear hw5
    generalize World.alloc w5 _ = w5' at hG0 E55 ⊢
    have X5 := (hx.trans e4).trans e5
    have Y5 : Ext w3 w5 := e4.trans e5
    go_loopw [11, 12, 13] (fun b v i wr => ∃ (j : Nat), j ≤ ns.length ∧ b = .bool true ∧ i = .int .i64 j ∧ GrowS (fun b => b < w5.heap.size) w5 wr 45 v (numL (ns.take j)) ∧ Ext w5 wr) (fun _ _ i _ => ns.length - (intOf i).toNat)
    case atStart => exact ⟨0, Nat.zero_le _, rfl, rfl, hG0, E55⟩
    case round =>
      obtain ⟨i, hi', rfl, rfl, hG, hxr⟩ := hrel
      by_cases hlt : i < ns.length
      · obtain ⟨b, o, rfl, c0⟩ := hN.get (Y5.trans hxr) hlt
        have hj' : (i : Int) < (ns.length : Int) := by omega
        have hl6 : w5.heap.size ≤ wr.heap.size := hxr.size
        have hmem := HNE.out ns[i] (List.getElem_mem hlt)
        obtain ⟨m, hm⟩ := Int.eq_ofNat_of_zero_le hmem.1
        have hm20 : m ≤ 20 := by omega
        have htk : numL (ns.take (i + 1)) = numL (ns.take i) ++ [numTr m] := by
          unfold numL
          rw [List.take_succ_eq_append_getElem hlt, List.map_append, List.map_cons, List.map_nil, hm, Int.toNat_natCast]
        have HTK := Lib.hid htk
        have HLEN := Lib.hid (show (numL (ns.take i)).length = i by rw [numL_len, List.length_take]; omega)
        rw [hm] at c0
        have hjw : IntKind.i64.wrap ((i : Int) + 1) = (i : Int) + 1 := IntWalk.i64_in _ ⟨by omega, by omega⟩
        have HNU := Lib.hid (numeralAns_any (m : Int) wr)
        rw [numAns_good hm20] at HNU
        clear htk hG0 E55 hm hmem
        go_wp2_with fail
        refine HNU.out.mono ?_
        rintro e w6 ⟨u, rfl, hM4, e6⟩
        have hF := From.made hM4
        obtain ⟨d1, d2, d3, d4, d5, rfl⟩ := InT.three hF
        clear c0 HNU
        have en := (Ext.refl w6).alloc (.cells #[.int .i64 d1, .int .i64 d2, .slice d3 d4 d5] 45)
        have bn := heap_alloc_new w6 (.cells #[.int .i64 d1, .int .i64 d2, .slice d3 d4 d5] 45)
        obtain ⟨w7, hw7⟩ : ∃ y, y = w6.alloc (.cells #[.int .i64 d1, .int .i64 d2, .slice d3 d4 d5] 45) := ⟨_, rfl⟩
        rw [← hw7] at en bn
        obtain ⟨y0, y1, y2, -, -, -⟩ := own3 bn
        have e7 := e6.trans en
        have en2 := (Ext.refl w7).alloc (.cells #[.int .i64 d1, .int .i64 d2, .slice d3 d4 d5] 45)
        have e8 := e7.trans en2
        have hG8 := hG.ext e8
        have hF8 := hG.off hl6 (From.ext hF (en.trans en2))
        have hs7 : w7.heap.size = w6.heap.size + 1 := by rw [hw7]; simp
        go_wp2_with (at_builtin; rw [← hw7]; refine wpList_append_treeS _ rfl (.tmp 89) (.tmp 91) 43 rfl 45 i0 _ Tryz.underlying43 hi hz0 hz1 hz2 rfl rfl hG8 (by have := e8.size; omega) hF8 rfl (by rw [← hs7]; exact heap_alloc_new _ _) (by rw [HLEN.out]; omega) ?_ (fun b hb => hb))
        intro v' w9 hG9 hB9
        rw [← hw7] at hB9
        obtain ⟨B6, c6, rfl, -, -, -⟩ := hG9.lies (fun b hb => hb)
        have hln : (numL (ns.take (i + 1))).length = i + 1 := by rw [numL_len, List.length_take]; omega
        rw [← HTK.out, hln] at hG9
        rw [← HTK.out, hln]
        go_wp2_with fail
        go_roundw
        case rel => exact ⟨i + 1, by omega, rfl, by go_num, hG9, (hxr.trans e8).trans' hB9 (Nat.le_refl _)⟩
        case measure => simp [intOf]; omega
      · have hjl : ns.take i = ns := List.take_of_length_le (by omega)
        rw [hjl] at hG
        have hXr := Y5.trans hxr
        have hbr := hxr.blk b5
        have hsr := hxr.size
        obtain ⟨Bq, cq, rfl, hq1, hq2, hq3, -⟩ := hG.lies (fun b hb => hb)
        have hLK : LiesK wr Bq (numL ns) := InK.mono (fun b hb => hb.1) (fun _ _ => rfl) hq3
        have HAP := Lib.hid (applyAll_any T (numL ns) wr _ (HLT.out.ext (e5.trans hxr)) Bq cq hq1 hq2 hLK)
        rw [numL_len, HA.out] at HAP
        rw [numL_len] at hq1 ⊢
        simp only at HAP
        obtain ⟨zz0, zz1, zz2, -, -, -⟩ := own3 hbr
        have hlw : w4.heap.size < wr.heap.size := lt_of_blk hbr
        have hdj : decide ((i : Int) < (ns.length : Int)) = false := decide_eq_false (by omega)
        clear hG hG0 E55 hjl hLK hq3
        go_wp2_with fail
        refine HAP.out.mono ?_
        rintro e wa ⟨u, rfl, hLq, ea⟩
        obtain ⟨k1, k2, k3, k4, k5, rfl⟩ := hLq.three
        have HLq := Lib.hid hLq
        have xa := hx.trans (hXr.trans ea)
        have eb := (Ext.refl wa).alloc (.cells #[.int .i64 k1, .int .i64 k2, .slice k3 k4 k5] 45)
        have bb := heap_alloc_new wa (.cells #[.int .i64 k1, .int .i64 k2, .slice k3 k4 k5] 45)
        obtain ⟨wb, hwb⟩ : ∃ y, y = wa.alloc (.cells #[.int .i64 k1, .int .i64 k2, .slice k3 k4 k5] 45) := ⟨_, rfl⟩
        rw [← hwb] at eb bb
        have HNJ := Lib.hid (numeralAns_any (j : Int) wb)
        rw [numAns_good hj20] at HNJ
        have hjw : IntKind.i64.wrap ((j : Int) + 1) = (j : Int) + 1 := IntWalk.i64_in _ ⟨by omega, by omega⟩
        clear zz0 zz1 zz2 hLq HAP
        go_wp2_with fail
        rw [← hwb]
        clear hwb
        refine HNJ.out.mono ?_
        rintro e wc ⟨u, rfl, hM, ec⟩
        have hLc := hM.lies
        obtain ⟨l1, l2, l3, l4, l5, rfl⟩ := hLc.three
        have HLc := Lib.hid hLc
        have ed := (Ext.refl wc).alloc (.cells #[.int .i64 l1, .int .i64 l2, .slice l3 l4 l5] 45)
        have bd := heap_alloc_new wc (.cells #[.int .i64 l1, .int .i64 l2, .slice l3 l4 l5] 45)
        obtain ⟨wd, hwd⟩ : ∃ y, y = wc.alloc (.cells #[.int .i64 l1, .int .i64 l2, .slice l3 l4 l5] 45) := ⟨_, rfl⟩
        rw [← hwd] at ed bd
        clear hLc hM HNJ
        have HN1 := Lib.hid (numeralAns_any ((j : Int) + 1) wd)
        go_wp2_with fail
        rw [← hwd]
        clear hwd
        by_cases hj1 : j + 1 ≤ 20
        · rw [show ((j : Int) + 1) = ((j + 1 : Nat) : Int) by omega, numAns_good hj1] at HN1
          refine HN1.out.mono ?_
          rintro e we ⟨u, rfl, hM, ee⟩
          have hLe := hM.lies
          obtain ⟨m1, m2, m3, m4, m5, rfl⟩ := hLe.three
          have HLe := Lib.hid hLe
          have ef := (Ext.refl we).alloc (.cells #[.int .i64 m1, .int .i64 m2, .slice m3 m4 m5] 45)
          have bf := heap_alloc_new we (.cells #[.int .i64 m1, .int .i64 m2, .slice m3 m4 m5] 45)
          have e1 := eb.trans (ec.trans (ed.trans (ee.trans ef)))
          have e2 := ed.trans (ee.trans ef)
          obtain ⟨x0, x1, x2, -, -, -⟩ := own3 ((ec.trans e2).blk bb)
          obtain ⟨y0, y1, y2, -, -, -⟩ := own3 ((ee.trans ef).blk bd)
          obtain ⟨z0, z1, z2, -, -, -⟩ := own3 bf
          have HCV := Lib.hid (convertible_any q (numTr j) x (we.alloc (.cells #[.int .i64 m1, .int .i64 m2, .slice m3 m4 m5] 45)) _ _ (HLq.out.ext e1) (HLc.out.ext e2))
          rw [HC1.out] at HCV
          have HCV2 := Lib.hid (fun W (hW : Ext (we.alloc (.cells #[.int .i64 m1, .int .i64 m2, .slice m3 m4 m5] 45)) W) => convertible_any q (numTr (j + 1)) x W _ _ (HLq.out.ext (e1.trans hW)) (HLe.out.ext (ef.trans hW)))
          rw [HC2.out hj1] at HCV2
          clear hLe hM HN1
          go_wp2_with fail
          refine HCV.out.mono ?_
          rintro e wg ⟨rfl, eg⟩
          have e2g := e1.trans eg
          obtain ⟨x0, x1, x2, -, -, -⟩ := own3 ((ec.trans (e2.trans eg)).blk bb)
          obtain ⟨z0, z1, z2, -, -, -⟩ := own3 (eg.blk bf)
          go_wp2_with fail
          refine (HCV2.out wg eg).mono ?_
          rintro e wh ⟨rfl, eh⟩
          go_wp2_with fail
          go_ret
          exact ⟨rfl, xa.trans (e2g.trans eh)⟩
        · rw [numAns_bad (by omega)] at HN1
          refine HN1.out.mono ?_
          rintro e we ⟨u, rfl, hM, ee⟩
          have hLe := hM.lies
          obtain ⟨m1, m2, m3, m4, m5, rfl⟩ := hLe.three
          have ef := (Ext.refl we).alloc (.cells #[.int .i64 m1, .int .i64 m2, .slice m3 m4 m5] 45)
          have e1 := eb.trans (ec.trans (ed.trans (ee.trans ef)))
          have e2 := ed.trans (ee.trans ef)
          obtain ⟨x0, x1, x2, -, -, -⟩ := own3 ((ec.trans e2).blk bb)
          obtain ⟨y0, y1, y2, -, -, -⟩ := own3 ((ee.trans ef).blk bd)
          have HCV := Lib.hid (convertible_any q (numTr j) x (we.alloc (.cells #[.int .i64 m1, .int .i64 m2, .slice m3 m4 m5] 45)) _ _ (HLq.out.ext e1) (HLc.out.ext e2))
          rw [HC1.out] at HCV
          clear hLe hM HN1
          go_wp2_with fail
          refine HCV.out.mono ?_
          rintro e wg ⟨rfl, eg⟩
          have e2g := e1.trans eg
          go_wp2_with fail
          go_ret
          exact ⟨rfl, xa.trans e2g⟩
  · have t1 : (k != 0) = true := by simp [hk]
    have t2 : (k == 0) = false := by simp [hk]
    have hz := cmpV_zero f x ns
    rw [hq] at hz
    simp only [hk, false_or] at hz
    clear hk hq hN hz
    go_wp2_with fail
    go_ret
    exact ⟨rfl, hx⟩

set_option maxRecDepth 100000 in
theorem lifted (os : Os) (started : os.Started) (H : Type) (enc : TypeId × Value → H) :
    ReturnsInHanded {} Tryz.checked os 7 .any (fun w args => (Rows.fnFunConvertSpec.pre enc Tryz.prog Tryz.f7 [] false w args ∧ laidMetH Tryz.prog Rows.fnFunConvertRow.laid w) ∧ sizedMet enc Tryz.prog Tryz.f7 (OpenSpec.ofChange Rows.fnFunConvertSpec) false w args) (Rows.fnFunConvertSpec.post enc Tryz.prog Tryz.f7 false true false false) := by
  refine law_liftD (C := Tryz.checked) (fn := Tryz.f7) (tb := 4) (X := fun w _ => laidMetH Tryz.prog Rows.fnFunConvertRow.laid w) (fun _ _ _ hh h => h.of_heap hh) own started (by kernel_rfl) Tryz.func7 (by kernel_rfl) (by kernel_rfl) rfl Tryz.underlying4 rfl
    (fun ds h => by
      match ds, h with
      | [d1], _ => exact ⟨rfl, rfl, rfl⟩)
    (ChangeSpec.witness_shaped (enc := enc) (C := Tryz.checked) (os := os) (X := fun w _ => laidMetH Tryz.prog Rows.fnFunConvertRow.laid w) false (World.laidAll Tryz.prog os Rows.fnFunConvertRow.laid) #[.slice none 0 0] 8 (World.laidAll_os _ _ _)
      (World.shaped_of_ZipB (by kernel_rfl) (by kernel_rfl)) (by kernel_rfl) (by kernel_rfl) (by kernel_rfl)
      (by rw [MakeChecks.laidMetH_plain _ _ _ (by kernel_rfl)]; exact laidMet_laidAll _ (by kernel_rfl) (by kernel_rfl))) ?_
  intro W base args ds p hval hA hlt hXW hsh
  rw [Tryz.params7] at hA hval
  obtain ⟨v0, vs0, d0, ds0, p0, q0, hargs, rfl, rfl, h0, r0⟩ := trodAll_cons hA
  obtain ⟨rfl, rfl, rfl⟩ := trodAll_nil r0
  obtain rfl : args = #[v0] := by cases args; simp_all
  obtain ⟨A0, cap0, bs0, rfl, hl0, hc0, ha0⟩ := open_bytes Tryz.underlying22 Tryz.underlying5 (by kernel_rfl) (hval 0 22 v0 rfl rfl) h0
  exact walk W (envOf hXW hsh) A0 cap0 bs0 hl0 hc0 ha0.1

theorem over : Rows.fnFunConvertRow.holds Tryz.pinned (OpenSpec.ofChange Rows.fnFunConvertSpec) :=
  OpenClaim.holds_of_wide 7 Tryz.f7 rfl rfl rfl rfl rfl rfl rfl ⟨rfl, rfl, rfl, rfl, rfl⟩ rfl rfl rfl rfl rfl (by kernel_rfl) Tryz.func7 (by kernel_rfl)
    (of_decide_eq_true (by kernel_rfl)) (by unfold Func.isWrapper; first | (rw [if_pos (by decide +kernel)]; kernel_rfl) | (rw [if_neg (by decide +kernel)]; exact ⟨rfl, rfl⟩))
    (fun os started H enc _ => lifted os started H enc)
/-- The tied card. -/
theorem proved : Rows.FnFunConvertCardSaid :=
  Claim7.holds_tied_plain_at .later [] Rows.fnFunConvertCard.laidKinds true Rows.fnFunConvertCard.stood.harness true over (fun _ h => by cases h) (by kernel_rfl) (fun _ h => by cases h) fnFunConvert_row_tie rfl ⟨rfl, rfl⟩ (by kernel_rfl) rfl
    (fun f fn hf hfn => by
      obtain rfl : f = 7 := Option.some.inj ((show Tryz.prog.funcNamed "loop.example/depkernel/laws.FnFunConvert" = some 7 by kernel_rfl).symm.trans hf) |>.symm
      obtain rfl : fn = Tryz.f7 := (Option.some.inj (Tryz.func7.symm.trans hfn)).symm
      exact ⟨by kernel_rfl, fun j t ht => by
        rw [Tryz.params7] at ht
        have hm : t ∈ [22] := by simpa using Array.mem_of_getElem? ht
        have hall : ([22].all fun u => !Tryz.prog.wantsStandIn u) = true := by kernel_rfl
        exact (show Tryz.prog.wantsStandIn t = false by simpa using List.all_eq_true.1 hall t hm)⟩)
    (by kernel_rfl)
#print axioms proved
end Go.Proofs.YtolkohncmidpeaaGreatDoor.funConvert

/-
  Lemmas towards the law, 39: Cmp, LiftS, LiftR.
-/
import Derived.Test.YtolkohncmidpeaaGreatDoorHAB
import Derived.Test.YtolkohncmidpeaaGreatDoorHAG
import Derived.Test.YtolkohncmidpeaaGreatDoorHAU
import Derived.Test.YtolkohncmidpeaaGreatDoorHBD
import Derived.Test.YtolkohncmidpeaaGreatDoorHBE
import Derived.Test.YtolkohncmidpeaaGreatDoorHBI
import Derived.Test.YtolkohncmidpeaaGreatDoorHBK
import Derived.Test.YtolkohncmidpeaaGreatDoorHBL
import Derived.HandedShaped
import Derived.Lib.Hide
import Derived.MakeChecks
import Derived.Stop.LaidErr
import Derived.Test.YtolkohncmidpeaaGreatDoorRows
namespace Go.Proofs.YtolkohncmidpeaaGreatDoor
open Go.RowKit
set_option linter.unusedVariables false
attribute [local go_sem ↓] Go.wp_at_zero Go.wp_at_succ
def numL (ns : List Int) : List Tr := ns.map fun n => numTr n.toNat
theorem numL_len (ns : List Int) : (numL ns).length = ns.length := by simp [numL]
/-- ComputeFun's answer, once the arguments fit. -/
def cmpN (x : Tr × Int) : Int × Int := if x.2 = 0 then (if (numV sigT 8 7 x.1).2 = true then ((numV sigT 8 7 x.1).1, 0) else (0, 2)) else (0, x.2)
def cmpA (t : Tr × Bool) (f : Int) : Int × Int := if t.2 = true then cmpN (nrmC f.toNat t.1) else (0, 2)
def cmpV (k : Int) (ns : List Int) (f : Int) : Int × Int := if (fits k ns && inR f 0 200) = true then cmpA (aplV ((fnV k).getD dflt0) (numL ns)) f else (0, 3)
theorem normAt {t : Tr} {F : Nat} (hv : valid sigT t = true) (hF : (F : Int) ≤ 200) (w : World) (v : Value) (hin : Lies w t v) :
    Calls Tryz.prog 59 #[v, .int .i64 F] w fun e w' => ∃ r, e = .returned (.tuple #[r, .int .i64 (nrmC F t).2]) ∧ Made w w' 45 (nrmC F t).1 r ∧ Ext w w' := by
  have hh := normalize_any t (F : Int) w v hin
  have e : normV t (F : Int) = nrmC F t := by
    unfold normV
    rw [if_pos (by rw [hv, inR_iff.2 ⟨by omega, hF⟩]; rfl), Int.toNat_natCast]
  rw [e] at hh
  exact hh
theorem fits_each {k : Int} {ns : List Int} (h : fits k ns = true) : ns.length ≤ 2 ∧ ∀ n ∈ ns, 0 ≤ n ∧ n ≤ 20 := by
  rcases fits_true h with ⟨a, b, rfl, h1, h2, h3, h4, -⟩ | ⟨a, rfl, h1, h2, -⟩
  · refine ⟨by simp, fun n hn => ?_⟩
    simp only [List.mem_cons, List.not_mem_nil, or_false] at hn
    rcases hn with rfl | rfl
    · exact ⟨h1, h2⟩
    · exact ⟨h3, h4⟩
  · refine ⟨by simp, fun n hn => ?_⟩
    simp only [List.mem_cons, List.not_mem_nil, or_false] at hn
    subst hn
    exact ⟨h1, h2⟩
theorem aplV_valid {f : Tr} {ts : List Tr} (h : (aplV f ts).2 = true) : valid sigT (aplV f ts).1 = true := by
  unfold aplV at h ⊢
  split at h
  · rename_i h1
    rw [if_pos h1]
    split at h
    · rename_i h2
      rw [if_pos h2]
      exact h2
    · simp at h
  · simp at h
set_option maxRecDepth 100000 in
set_option maxHeartbeats 4000000 in
theorem computeFun_any (k : Int) (ns : List Int) (f : Int) (w0 : World) (hE0 : EnvR w0) (A : Option Addr) (cap : Nat) (hl : ns.length ≤ cap) (hc : cap ≤ maxLen) (h : Nums w0 A ns) :
    Calls Tryz.prog 20 #[.int .i64 k, .slice A ns.length cap, .int .i64 f] w0 fun e w' => e = .returned (.tuple #[.int .i64 (cmpV k ns f).1, .int .i64 (cmpV k ns f).2]) ∧ Ext w0 w' := by
  obtain ⟨i0, hi, hz0, hz1, hz2⟩ := info_parts infoTermM
  have hcc := hc
  unfold maxLen at hcc
  obtain ⟨R, hR⟩ : ∃ R, cmpV k ns f = R := ⟨_, rfl⟩
  rw [hR]
  unfold cmpV at hR
  obtain ⟨z, hz⟩ : ∃ z, fits k ns = z := ⟨_, rfl⟩
  obtain ⟨y, hy⟩ : ∃ y, inR f 0 200 = y := ⟨_, rfl⟩
  have HA := Lib.hid (fun W (hW : Ext w0 W) => areArgs_any k ns W A cap hl hc (h.ext hW))
  rw [hz] at HA hR
  rw [hy] at hR
  cases z with
  | false =>
    rw [if_neg (by simp)] at hR
    subst hR
    clear hz hy
    go_enter Tryz.func20, Tryz.ntmps20
    go_wp2_with fail
    refine (HA.out w0 (Ext.refl _)).mono ?_
    rintro e w1 ⟨rfl, e1⟩
    go_wp2_with fail
    go_ret2
    exact ⟨rfl, e1⟩
  | true =>
    cases y with
    | false =>
      rw [if_neg (by simp)] at hR
      subst hR
      have HWI := Lib.hid (fun W => hy ▸ within_any f 0 200 W)
      clear hz hy
      go_enter Tryz.func20, Tryz.ntmps20
      go_wp2_with fail
      refine (HA.out w0 (Ext.refl _)).mono ?_
      rintro e w1 ⟨rfl, e1⟩
      go_wp2_with fail
      refine (HWI.out _).mono ?_
      rintro e w2 ⟨rfl, rfl⟩
      go_wp2_with fail
      go_ret2
      exact ⟨rfl, e1⟩
    | true =>
      rw [if_pos (by simp)] at hR
      obtain ⟨hf1, hf2⟩ := inR_iff.1 hy
      obtain ⟨F, rfl⟩ := Int.eq_ofNat_of_zero_le hf1
      rw [show ((F : Int)) = (F : Int) from rfl] at hR
      obtain ⟨hn2, hne⟩ := fits_each hz
      obtain ⟨T, hT⟩ : ∃ T, (fnV k).getD dflt0 = T := ⟨_, rfl⟩
      have HFT := Lib.hid (fun W (hW : Ext w0 W) => funTerm_any k W (hE0.ext hW))
      rw [hT] at HFT hR
      have HNE := Lib.hid hne
      have HRR := Lib.hid hR
      have HWI := Lib.hid (fun W => hy ▸ within_any (F : Int) 0 200 W)
      have HF := Lib.hid hf2
      clear hz hy hR hT hf1 hf2 hne
      go_enter Tryz.func20, Tryz.ntmps20
      go_wp2_with fail
      refine (HA.out w0 (Ext.refl _)).mono ?_
      rintro e w1 ⟨rfl, e1⟩
      go_wp2_with fail
      refine (HWI.out _).mono ?_
      rintro e w1' ⟨rfl, rfl⟩
      go_wp2_with fail
      refine (HFT.out w1 e1).mono ?_
      rintro e w2 ⟨u, rfl, hM, e2⟩
      have hLT : Lies w2 T u := hM.lies
      obtain ⟨a1, a2, a3, a4, a5, rfl⟩ := hLT.three
      have HLT := Lib.hid hLT
      clear hM hLT
      obtain ⟨w3, hw3⟩ : ∃ x, x = w2.alloc (.cells #[.int .i64 a1, .int .i64 a2, .slice a3 a4 a5] 45) := ⟨_, rfl⟩
      have e3 : Ext w2 w3 := hw3 ▸ (Ext.refl w2).alloc _
      have b3 := heap_alloc_new w2 (.cells #[.int .i64 a1, .int .i64 a2, .slice a3 a4 a5] 45)
      rw [← hw3] at b3
      go_wp2_with fail
      rw [← hw3]
      clear hw3
      have hG0 : GrowS (fun b => b < w3.heap.size) w3 w3 45 (.slice none 0 0) [] := GrowS.nil _ _ _ _
      have E33 : Ext w3 w3 := Ext.refl _
      have X3 := (e1.trans e2).trans e3
      go_loopw [10, 34] (fun v i wr => ∃ (j : Nat), j ≤ ns.length ∧ i = .int .i64 j ∧ GrowS (fun b => b < w3.heap.size) w3 wr 45 v (numL (ns.take j)) ∧ Ext w3 wr) (fun _ i _ => ns.length - (intOf i).toNat)
      case atStart => exact ⟨0, Nat.zero_le _, rfl, hG0, E33⟩
      case round =>
        obtain ⟨j, hj, rfl, hG, hx⟩ := hrel
        by_cases hlt : j < ns.length
        · obtain ⟨b, o, rfl, c0⟩ := h.get (X3.trans hx) hlt
          have hj' : (j : Int) < (ns.length : Int) := by omega
          have hl6 : w3.heap.size ≤ wr.heap.size := hx.size
          have hmem := HNE.out ns[j] (List.getElem_mem hlt)
          obtain ⟨m, hm⟩ := Int.eq_ofNat_of_zero_le hmem.1
          have htk : numL (ns.take (j + 1)) = numL (ns.take j) ++ [numTr m] := by
            unfold numL
            rw [List.take_succ_eq_append_getElem hlt, List.map_append, List.map_cons, List.map_nil, hm, Int.toNat_natCast]
          have HTK := Lib.hid htk
          have HLEN := Lib.hid (show (numL (ns.take j)).length = j by rw [numL_len, List.length_take]; omega)
          have HM := Lib.hid (show m ≤ 1000 by omega)
          rw [hm] at c0
          have hjw : IntKind.i64.wrap ((j : Int) + 1) = (j : Int) + 1 := IntWalk.i64_in _ ⟨by omega, by omega⟩
          clear htk hG0 E33 hm hmem
          go_wp2_with fail
          refine (numeral_any m HM.out _).mono ?_
          rintro e w4 ⟨u, rfl, hM4, e4⟩
          have hF := From.made hM4
          obtain ⟨d1, d2, d3, d4, d5, rfl⟩ := InT.three hF
          clear c0
          have e5 := e4.alloc (.cells #[.int .i64 d1, .int .i64 d2, .slice d3 d4 d5] 45)
          have hG5 := hG.ext e5
          have hF5 := hG.off hl6 (From.ext hF ((Ext.refl w4).alloc (.cells #[.int .i64 d1, .int .i64 d2, .slice d3 d4 d5] 45)))
          go_wp2_with (at_builtin; refine wpList_append_treeS _ rfl (.tmp 38) (.tmp 41) 43 rfl 45 i0 _ Tryz.underlying43 hi hz0 hz1 hz2 rfl rfl hG5 (by have := e5.size; omega) hF5 rfl (heap_alloc_new _ _) (by rw [HLEN.out]; omega) ?_ (fun b hb => hb))
          intro v' w6 hG6 hB6
          obtain ⟨B6, c6, rfl, -, -, -⟩ := hG6.lies (fun b hb => hb)
          have hln : (numL (ns.take (j + 1))).length = j + 1 := by rw [numL_len, List.length_take]; omega
          rw [← HTK.out, hln] at hG6
          rw [← HTK.out, hln]
          go_wp2_with fail
          go_roundw
          case rel => exact ⟨j + 1, by omega, by go_num, hG6, (hx.trans e5).trans' hB6 (Nat.le_refl _)⟩
          case measure => simp [intOf]; omega
        · have hjl : ns.take j = ns := List.take_of_length_le (by omega)
          rw [hjl] at hG
          have hxr := X3.trans hx
          have hbr := hx.blk b3
          have hsr := hx.size
          obtain ⟨Bq, cq, rfl, hq1, hq2, hq3, -⟩ := hG.lies (fun b hb => hb)
          have hLK : LiesK wr Bq (numL ns) := InK.mono (fun b hb => hb.1) (fun _ _ => rfl) hq3
          have HAP := Lib.hid (applyAll_any T (numL ns) wr _ (HLT.out.ext (e3.trans hx)) Bq cq hq1 hq2 hLK)
          rw [numL_len] at HAP hq1 ⊢
          have haplv := aplV_valid (f := T) (ts := numL ns)
          have hR := HRR.out
          unfold cmpA at hR
          generalize aplV T (numL ns) = q at HAP hR haplv
          obtain ⟨⟨k1, n1, kids1⟩, s⟩ := q
          simp only at HAP hR haplv
          obtain ⟨zz0, zz1, zz2, -, -, -⟩ := own3 hbr
          have hlw : w2.heap.size < wr.heap.size := lt_of_blk hbr
          have hdj : decide ((j : Int) < (ns.length : Int)) = false := decide_eq_false (by omega)
          have HV := Lib.hid haplv
          have HR := Lib.hid hR
          clear hG hG0 E33 hjl haplv hR hLK hq3
          go_wp2_with fail
          refine HAP.out.mono ?_
          rintro e w7 ⟨u, rfl, hL7, e7⟩
          obtain ⟨A7, c7, rfl, hl7, hc7, hK7⟩ := Lies.mk_iff.1 hL7
          have HL7 := Lib.hid hL7
          have hx7 := hxr.trans e7
          clear zz0 zz1 zz2 hL7 hK7 HAP
          cases s with
          | false =>
            obtain rfl : R = (0, 2) := by rw [← HR.out]; rfl
            go_wp2_with fail
            go_ret2
            exact ⟨rfl, hx7.alloc _⟩
          | true =>
            have hv := HV.out rfl
            have HR2 := Lib.hid (show cmpN (nrmC F (.mk k1 n1 kids1)) = R from by rw [← HR.out, if_pos rfl]; rfl)
            have e8 : Ext w7 (w7.alloc (.cells #[.int .i64 k1, .int .i64 n1, .slice A7 kids1.length c7] 45)) := (Ext.refl w7).alloc _
            have HNM := Lib.hid (fun W (hW : Ext w7 W) => normAt hv HF.out W _ (HL7.out.ext hW))
            have hR2 := HR2.out
            unfold cmpN at hR2
            generalize nrmC F (.mk k1 n1 kids1) = q at HNM hR2
            obtain ⟨⟨k2, n2, kids2⟩, c⟩ := q
            simp only at HNM hR2
            have HR3 := Lib.hid hR2
            clear hv hR2
            go_wp2_with fail
            refine (HNM.out _ e8).mono ?_
            rintro e w9 ⟨u, rfl, hL9, e9⟩
            have hL9' : Lies w9 (.mk k2 n2 kids2) u := hL9.lies
            obtain ⟨A9, c9, rfl, hl9, hc9, hK9⟩ := Lies.mk_iff.1 hL9'
            have hx9 := (hx7.trans e8).trans e9
            by_cases h0 : c = 0
            · have hR4 := HR3.out
              rw [if_pos h0] at hR4
              have HNV := Lib.hid (fun W (hW : Ext w9 W) => numTerm (.mk k2 n2 kids2) W _ (hL9'.ext hW))
              generalize numV sigT 8 7 (.mk k2 n2 kids2) = q at HNV hR4
              obtain ⟨m, y⟩ := q
              simp only at HNV hR4
              subst h0
              have e10 : Ext w9 (w9.alloc (.cells #[.int .i64 k2, .int .i64 n2, .slice A9 kids2.length c9] 45)) := (Ext.refl w9).alloc _
              cases y with
              | false =>
                obtain rfl : R = (0, 2) := by rw [← hR4]; rfl
                clear hR4 hL9 hL9' hK9
                go_wp2_with fail
                refine (HNV.out _ e10).mono ?_
                rintro e w11 ⟨rfl, e11⟩
                go_wp2_with fail
                go_ret2
                exact ⟨rfl, (hx9.trans e10).trans e11⟩
              | true =>
                obtain rfl : R = (m, 0) := by rw [← hR4]; rfl
                clear hR4 hL9 hL9' hK9
                go_wp2_with fail
                refine (HNV.out _ e10).mono ?_
                rintro e w11 ⟨rfl, e11⟩
                go_wp2_with fail
                go_ret2
                exact ⟨rfl, (hx9.trans e10).trans e11⟩
            · obtain rfl : R = (0, c) := by rw [← HR3.out, if_neg h0]
              have t1 : (c != 0) = true := by simp [h0]
              clear h0 hL9 hL9' hK9
              go_wp2_with fail
              go_ret2
              exact ⟨rfl, hx9.alloc _⟩
set_option maxRecDepth 100000 in
set_option maxHeartbeats 4000000 in
theorem specComputeFun_any (k : Int) (ns : List Int) (f : Int) (w0 : World) (A : Option Addr) (cap : Nat) (hl : ns.length ≤ cap) (hc : cap ≤ maxLen) (h : Nums w0 A ns) :
    Calls Tryz.prog 18 #[.int .i64 k, .slice A ns.length cap, .int .i64 f] w0 fun e w' => e = .returned (.tuple #[.int .i64 (cmpV k ns f).1, .int .i64 (cmpV k ns f).2]) ∧ Ext w0 w' := by
  obtain ⟨i0, hi, hz0, hz1, hz2⟩ := info_parts infoTermM
  have hcc := hc
  unfold maxLen at hcc
  obtain ⟨R, hR⟩ : ∃ R, cmpV k ns f = R := ⟨_, rfl⟩
  rw [hR]
  unfold cmpV at hR
  obtain ⟨z, hz⟩ : ∃ z, fits k ns = z := ⟨_, rfl⟩
  obtain ⟨y, hy⟩ : ∃ y, inR f 0 200 = y := ⟨_, rfl⟩
  have HA := Lib.hid (fun W (hW : Ext w0 W) => specFits k ns W A cap hl hc (h.ext hW))
  rw [hz] at HA hR
  rw [hy] at hR
  cases z with
  | false =>
    rw [if_neg (by simp)] at hR
    subst hR
    clear hz hy
    go_enter Tryz.func18, Tryz.ntmps18
    go_wp2_with fail
    refine (HA.out w0 (Ext.refl _)).mono ?_
    rintro e w1 ⟨rfl, e1⟩
    go_wp2_with fail
    go_ret2
    exact ⟨rfl, e1⟩
  | true =>
    cases y with
    | false =>
      rw [if_neg (by simp)] at hR
      subst hR
      rw [inR_false] at hy
      by_cases hf : f < 0
      · have d1 : decide (f < 0) = true := decide_eq_true hf
        clear hz hy
        go_enter Tryz.func18, Tryz.ntmps18
        go_wp2_with fail
        refine (HA.out w0 (Ext.refl _)).mono ?_
        rintro e w1 ⟨rfl, e1⟩
        go_wp2_with fail
        go_ret2
        exact ⟨rfl, e1⟩
      · have d1 : decide (f < 0) = false := decide_eq_false hf
        have d2 : decide (200 < f) = true := decide_eq_true (by omega)
        clear hz hy
        go_enter Tryz.func18, Tryz.ntmps18
        go_wp2_with fail
        refine (HA.out w0 (Ext.refl _)).mono ?_
        rintro e w1 ⟨rfl, e1⟩
        go_wp2_with fail
        go_ret2
        exact ⟨rfl, e1⟩
    | true =>
      rw [if_pos (by simp)] at hR
      obtain ⟨hf1, hf2⟩ := inR_iff.1 hy
      obtain ⟨F, rfl⟩ := Int.eq_ofNat_of_zero_le hf1
      rw [show ((F : Int)) = (F : Int) from rfl] at hR
      obtain ⟨hn2, hne⟩ := fits_each hz
      obtain ⟨T, hT⟩ : ∃ T, (fnV k).getD dflt0 = T := ⟨_, rfl⟩
      have HFT := Lib.hid (fun W (hW : Ext w0 W) => specFunTerm_any k W)
      rw [hT] at HFT hR
      have HNE := Lib.hid hne
      have HRR := Lib.hid hR
      have d1 : decide ((F : Int) < 0) = false := decide_eq_false (by omega)
      have d2 : decide (200 < (F : Int)) = false := decide_eq_false (by omega)
      have HF := Lib.hid hf2
      clear hz hy hR hT hf1 hf2 hne
      go_enter Tryz.func18, Tryz.ntmps18
      go_wp2_with fail
      refine (HA.out w0 (Ext.refl _)).mono ?_
      rintro e w1 ⟨rfl, e1⟩
      go_wp2_with fail
      refine (HFT.out w1 e1).mono ?_
      rintro e w2 ⟨u, rfl, hM, e2⟩
      have hLT : Lies w2 T u := hM.lies
      obtain ⟨a1, a2, a3, a4, a5, rfl⟩ := hLT.three
      have HLT := Lib.hid hLT
      clear hM hLT
      obtain ⟨w3, hw3⟩ : ∃ x, x = w2.alloc (.cells #[.int .i64 a1, .int .i64 a2, .slice a3 a4 a5] 45) := ⟨_, rfl⟩
      have e3 : Ext w2 w3 := hw3 ▸ (Ext.refl w2).alloc _
      have b3 := heap_alloc_new w2 (.cells #[.int .i64 a1, .int .i64 a2, .slice a3 a4 a5] 45)
      rw [← hw3] at b3
      have hsz3 : w3.heap.size = w2.heap.size + 1 := by rw [hw3]; simp
      have hg0 : (w3.alloc (.cells #[] 45)).heap[w2.heap.size + 1]? = some (.cells #[] 45 (0, 0)) := by rw [← hsz3]; exact heap_alloc_new w3 _
      have hG0 : GrowS (fun b => b < w3.heap.size) w3 (w3.alloc (.cells #[] 45)) 45 (.slice (some ⟨w2.heap.size + 1, 0, none⟩) 0 0) [] := GrowS.lit hg0 (by rw [hsz3]; exact Nat.le_refl _)
      have E33 : Ext w3 (w3.alloc (.cells #[] 45)) := (Ext.refl w3).alloc _
      clear hg0 hsz3
      go_wp2_with fail
      rw [← hw3]
      clear hw3
      generalize World.alloc w3 _ = w3' at hG0 E33 ⊢
      have X3 := (e1.trans e2).trans e3
      go_loopw [10, 11] (fun v i wr => ∃ (j : Nat), j ≤ ns.length ∧ i = .int .i64 j ∧ GrowS (fun b => b < w3.heap.size) w3 wr 45 v (numL (ns.take j)) ∧ Ext w3 wr) (fun _ i _ => ns.length - (intOf i).toNat)
      case atStart => exact ⟨0, Nat.zero_le _, rfl, hG0, E33⟩
      case round =>
        obtain ⟨j, hj, rfl, hG, hx⟩ := hrel
        by_cases hlt : j < ns.length
        · obtain ⟨b, o, rfl, c0⟩ := h.get (X3.trans hx) hlt
          have hj' : (j : Int) < (ns.length : Int) := by omega
          have hl6 : w3.heap.size ≤ wr.heap.size := hx.size
          have hmem := HNE.out ns[j] (List.getElem_mem hlt)
          obtain ⟨m, hm⟩ := Int.eq_ofNat_of_zero_le hmem.1
          have htk : numL (ns.take (j + 1)) = numL (ns.take j) ++ [numTr m] := by
            unfold numL
            rw [List.take_succ_eq_append_getElem hlt, List.map_append, List.map_cons, List.map_nil, hm, Int.toNat_natCast]
          have HTK := Lib.hid htk
          have HLEN := Lib.hid (show (numL (ns.take j)).length = j by rw [numL_len, List.length_take]; omega)
          have HM := Lib.hid (show m ≤ 1000 by omega)
          rw [hm] at c0
          have hjw : IntKind.i64.wrap ((j : Int) + 1) = (j : Int) + 1 := IntWalk.i64_in _ ⟨by omega, by omega⟩
          clear htk hG0 E33 hm hmem
          go_wp2_with fail
          refine (l1Numeral_any m HM.out _).mono ?_
          rintro e w4 ⟨u, rfl, hM4, e4⟩
          have hF := hM4
          obtain ⟨d1, d2, d3, d4, d5, rfl⟩ := InT.three hF
          clear c0
          have e5 := e4.alloc (.cells #[.int .i64 d1, .int .i64 d2, .slice d3 d4 d5] 45)
          have hG5 := hG.ext e5
          have hF5 := hG.off hl6 (From.ext hF ((Ext.refl w4).alloc (.cells #[.int .i64 d1, .int .i64 d2, .slice d3 d4 d5] 45)))
          go_wp2_with (at_builtin; refine wpList_append_treeS _ rfl (.tmp 42) (.tmp 48) 43 rfl 45 i0 _ Tryz.underlying43 hi hz0 hz1 hz2 rfl rfl hG5 (by have := e5.size; omega) hF5 rfl (heap_alloc_new _ _) (by rw [HLEN.out]; omega) ?_ (fun b hb => hb))
          intro v' w6 hG6 hB6
          obtain ⟨B6, c6, rfl, -, -, -⟩ := hG6.lies (fun b hb => hb)
          have hln : (numL (ns.take (j + 1))).length = j + 1 := by rw [numL_len, List.length_take]; omega
          rw [← HTK.out, hln] at hG6
          rw [← HTK.out, hln]
          go_wp2_with fail
          go_roundw
          case rel => exact ⟨j + 1, by omega, by go_num, hG6, (hx.trans e5).trans' hB6 (Nat.le_refl _)⟩
          case measure => simp [intOf]; omega
        · have hjl : ns.take j = ns := List.take_of_length_le (by omega)
          rw [hjl] at hG
          have hxr := X3.trans hx
          have hbr := hx.blk b3
          have hsr := hx.size
          obtain ⟨Bq, cq, rfl, hq1, hq2, hq3, -⟩ := hG.lies (fun b hb => hb)
          have hLK : LiesK wr Bq (numL ns) := InK.mono (fun b hb => hb.1) (fun _ _ => rfl) hq3
          have HAP := Lib.hid (specApplyAll_any T (numL ns) wr _ (HLT.out.ext (e3.trans hx)) Bq cq hq1 hq2 hLK)
          rw [numL_len] at HAP hq1 ⊢
          have haplv := aplV_valid (f := T) (ts := numL ns)
          have hR := HRR.out
          unfold cmpA at hR
          generalize aplV T (numL ns) = q at HAP hR haplv
          obtain ⟨⟨k1, n1, kids1⟩, s⟩ := q
          simp only at HAP hR haplv
          obtain ⟨zz0, zz1, zz2, -, -, -⟩ := own3 hbr
          have hlw : w2.heap.size < wr.heap.size := lt_of_blk hbr
          have hdj : decide ((j : Int) < (ns.length : Int)) = false := decide_eq_false (by omega)
          have HV := Lib.hid haplv
          have HR := Lib.hid hR
          clear hG hG0 E33 hjl haplv hR hLK hq3
          go_wp2_with fail
          refine HAP.out.mono ?_
          rintro e w7 ⟨u, rfl, hL7, e7⟩
          obtain ⟨A7, c7, rfl, hl7, hc7, hK7⟩ := Lies.mk_iff.1 hL7
          have HL7 := Lib.hid hL7
          have hx7 := hxr.trans e7
          clear zz0 zz1 zz2 hL7 hK7 HAP
          cases s with
          | false =>
            obtain rfl : R = (0, 2) := by rw [← HR.out]; rfl
            go_wp2_with fail
            go_ret2
            exact ⟨rfl, hx7.alloc _⟩
          | true =>
            have hv := HV.out rfl
            have HR2 := Lib.hid (show cmpN (nrmC F (.mk k1 n1 kids1)) = R from by rw [← HR.out, if_pos rfl]; rfl)
            have e8 : Ext w7 (w7.alloc (.cells #[.int .i64 k1, .int .i64 n1, .slice A7 kids1.length c7] 45)) := (Ext.refl w7).alloc _
            have HNM := Lib.hid (fun W (hW : Ext w7 W) => l3Norm_any (.mk k1 n1 kids1) F (by have := HF.out; omega) hv W _ (HL7.out.ext hW))
            have hR2 := HR2.out
            unfold cmpN at hR2
            generalize nrmC F (.mk k1 n1 kids1) = q at HNM hR2
            obtain ⟨⟨k2, n2, kids2⟩, c⟩ := q
            simp only at HNM hR2
            have HR3 := Lib.hid hR2
            clear hv hR2
            go_wp2_with fail
            refine (HNM.out _ e8).mono ?_
            rintro e w9 ⟨u, rfl, hL9, e9⟩
            have hL9' : Lies w9 (.mk k2 n2 kids2) u := hL9
            obtain ⟨A9, c9, rfl, hl9, hc9, hK9⟩ := Lies.mk_iff.1 hL9'
            have hx9 := (hx7.trans e8).trans e9
            by_cases h0 : c = 0
            · have hR4 := HR3.out
              rw [if_pos h0] at hR4
              have HNV := Lib.hid (fun W (hW : Ext w9 W) => specnumTerm (.mk k2 n2 kids2) W _ (hL9'.ext hW))
              generalize numV sigT 8 7 (.mk k2 n2 kids2) = q at HNV hR4
              obtain ⟨m, y⟩ := q
              simp only at HNV hR4
              subst h0
              have e10 : Ext w9 (w9.alloc (.cells #[.int .i64 k2, .int .i64 n2, .slice A9 kids2.length c9] 45)) := (Ext.refl w9).alloc _
              cases y with
              | false =>
                obtain rfl : R = (0, 2) := by rw [← hR4]; rfl
                clear hR4 hL9 hL9' hK9
                go_wp2_with fail
                refine (HNV.out _ e10).mono ?_
                rintro e w11 ⟨rfl, e11⟩
                go_wp2_with fail
                go_ret2
                exact ⟨rfl, (hx9.trans e10).trans e11⟩
              | true =>
                obtain rfl : R = (m, 0) := by rw [← hR4]; rfl
                clear hR4 hL9 hL9' hK9
                go_wp2_with fail
                refine (HNV.out _ e10).mono ?_
                rintro e w11 ⟨rfl, e11⟩
                go_wp2_with fail
                go_ret2
                exact ⟨rfl, (hx9.trans e10).trans e11⟩
            · obtain rfl : R = (0, c) := by rw [← HR3.out, if_neg h0]
              have t1 : (c != 0) = true := by simp [h0]
              clear h0 hL9 hL9' hK9
              go_wp2_with fail
              go_ret2
              exact ⟨rfl, hx9.alloc _⟩
end Go.Proofs.YtolkohncmidpeaaGreatDoor
namespace Go.Proofs.YtolkohncmidpeaaGreatDoor
open Go.RowKit Go.ChangeShapes Go.WideShapes Go.ChangeAt
set_option linter.unusedVariables false
section
variable {H : Type} {enc : TypeId × Value → H} {P : Program}

/-- As returnsInHanded_of_change_and, and the first world's shape is handed on. -/
theorem handed_and_shaped {a : Assume} {C : Checked} {os : Os} {f : FuncId} {fn : Func} {s : ChangeSpec} {conds : List PathCond} {apart fresh handsOn again : Bool} {X : World → Array Value → Prop}
    (hX : ∀ (w w' : World) (args : Array Value), w.heap = w'.heap → X w args → X w' args)
    (own : ownKnob C.prog.godebug = none) (started : os.Started) (noInit : C.prog.inits.idxOf? f = none) (hfn : C.prog.funcs[f]? = some fn)
    (witness : ∃ (w : World) (tape : Tape) (i : Input), w.os = os ∧ (w.forCall tape i).Shaped C.prog ∧ i.vars = [] ∧ Input.okWide C.prog (w.forCall tape i) .any w.heap.size f i ∧
      ((s.pre enc C.prog fn conds apart (w.forCall tape i).memory i.args ∧ X (w.forCall tape i).memory i.args) ∧ sizedMet enc C.prog fn (OpenSpec.ofChange s) apart (w.forCall tape i).memory i.args) ∧ a.holds C.prog (lone (Frame.enter C.prog f i.args .normal) [] (w.forCall tape i)))
    (contract : ∀ (W : World) (base : Nat) (args : Array Value) (ds gs : List (DataW H)) (before : List MemPlace),
      (∀ (j : Nat) t v, fn.params[j]? = some t → args[j]? = some v → Value.okWide C.prog W .any base t v) →
      DataW.Whole enc C.prog fn.params.toList s.vars apart W args.toList ds gs before →
      conds.all (PathCond.test C.prog ⟨fn.params.toList, ds, s.plain.varTypes C.prog, gs⟩) = true →
      (DataW.weightsEach C.prog (fn.params.toList ++ s.plain.varTypes C.prog) (ds ++ gs)).all (· ≤ reachBytes) = true → X W args → W.ShapedOpen C.prog →
      a.holds C.prog (lone (Frame.enter C.prog f args .normal) [] W) →
      Calls C.prog f args W fun e W' => ∃ v, e = .returned v ∧ s.post enc C.prog fn apart fresh handsOn again W args v W') :
    ReturnsInHanded a C os f .any (fun w args => (s.pre enc C.prog fn conds apart w args ∧ X w args) ∧ sizedMet enc C.prog fn (OpenSpec.ofChange s) apart w args) (s.post enc C.prog fn apart fresh handsOn again) := by
  refine returnsInHanded_of_calls own started noInit witness ?_
  intro w tape i _ hsh _ hok hpre hholds
  obtain ⟨_, _, _, fn', hfn', _, _, _, _, hval⟩ := hok
  have e : fn' = fn := Option.some.inj (hfn'.symm.trans hfn)
  subst e
  obtain ⟨⟨⟨ds, gs, before, hw, hc⟩, hx⟩, hz⟩ := hpre
  have hw' := DataW.Whole.of_heap (w' := w.forCall tape i) (by rfl) hw
  refine (contract (w.forCall tape i) w.heap.size i.args ds gs before hval hw' hc (hz.weights hw) (hX _ _ _ (by rfl) hx) hsh hholds).mono fun e W' ⟨v, he, hp⟩ => ?_
  subst he
  exact ChangeSpec.post_blind hp

/-- A law over listed variables that answers true and leaves all that was there as1 it was. -/
theorem law_liftD {C : Checked} {os : Os} {f : FuncId} {fn : Func} {s : ChangeSpec} {tb : TypeId} {X : World → Array Value → Prop} (hX : ∀ (w w' : World) (args : Array Value), w.heap = w'.heap → X w args → X w' args) (own : ownKnob C.prog.godebug = none) (started : os.Started) (noInit : C.prog.inits.idxOf? f = none) (hfn : C.prog.funcs[f]? = some fn)
    (hl : laidOutB C.prog = true) (hread : (fn.params.toList.all fun t => C.prog.readableRec t && decide (t < C.prog.types.size)) = true) (hres : fn.resultTypes = #[tb]) (hbool : C.prog.underlying tb = some .bool)
    (hvars : s.vars = []) (hspec : ∀ ds : List (DataW H), ds.length = fn.params.size → (s.fn H ds).results = [.lit (.bool true)] ∧ (s.fn H ds).args = ds ∧ (s.fn H ds).vars = [])
    (witness : ∃ (w : World) (tape : Tape) (i : Input), w.os = os ∧ (w.forCall tape i).Shaped C.prog ∧ i.vars = [] ∧ Input.okWide C.prog (w.forCall tape i) .any w.heap.size f i ∧
      ((s.pre enc C.prog fn [] false (w.forCall tape i).memory i.args ∧ X (w.forCall tape i).memory i.args) ∧ sizedMet enc C.prog fn (OpenSpec.ofChange s) false (w.forCall tape i).memory i.args) ∧ ({} : Assume).holds C.prog (lone (Frame.enter C.prog f i.args .normal) [] (w.forCall tape i)))
    (walk : ∀ (W : World) (base : Nat) (args : Array Value) (ds : List (DataW H)) (p : List MemPlace),
      (∀ (j : Nat) t v, fn.params[j]? = some t → args[j]? = some v → Value.okWide C.prog W .any base t v) → DataW.TrodAll enc C.prog W 0 (fun _ => true) true fn.params.toList args.toList ds p →
      (∀ x ∈ p, x.block < W.heap.size) → X W args → W.ShapedOpen C.prog → Calls C.prog f args W fun e W' => e = .returned (.bool true) ∧ Ext W W') :
    ReturnsInHanded {} C os f .any (fun w args => (s.pre enc C.prog fn [] false w args ∧ X w args) ∧ sizedMet enc C.prog fn (OpenSpec.ofChange s) false w args) (s.post enc C.prog fn false true false false) := by
  refine handed_and_shaped hX own started noInit hfn witness ?_
  intro W base args ds gs before hval hW _ _ hXW hsh _
  have hlt : ∀ x ∈ before, x.block < W.heap.size := fun x hx => hW.lt x hx
  have hW' := hW
  obtain ⟨p, q, hA, hV, rfl, hfz, hnd⟩ := hW
  rw [hvars] at hV
  obtain ⟨rfl, rfl⟩ := trodVars_none hV
  simp only [List.append_nil] at hlt hW'
  refine (walk W base args ds p hval hA hlt hXW hsh).mono ?_
  rintro e W' ⟨rfl, hE⟩
  have hlen : ds.length = fn.params.size := by
    have h1 : ∀ {ts : List TypeId} {vs : List Value} {es : List (DataW H)} {ps : List MemPlace}, DataW.TrodAll enc C.prog W 0 (fun _ => true) true ts vs es ps → es.length = ts.length := by
      intro ts
      induction ts with
      | nil => intro vs es ps h; obtain ⟨_, rfl, _⟩ := trodAll_nil h; rfl
      | cons t ts ih => intro vs es ps h; obtain ⟨v, vs', d, ds', p, q, rfl, rfl, rfl, h0, r⟩ := trodAll_cons h; simp [ih r]
    rw [h1 hA, Array.length_toList]
  obtain ⟨e1, e2, e3⟩ := hspec ds hlen
  refine ⟨_, rfl, ds, [], p, [], p, [], by simpa using hW', ?_, ?_, ?_, Below.frame hE _ |> World.keptBut_mono (fun x hx => ⟨hx, .inr (.inl hx)⟩), fun h => by cases h⟩
  · rw [List.append_nil, e1, hres]
    exact trodAll_mk1 (shut_bool hbool _)
  · rw [List.append_nil, e2]
    exact trodAll_stays hl hE hread hA hlt
  · rw [List.append_nil, e3, hvars]
    exact rfl
end
end Go.Proofs.YtolkohncmidpeaaGreatDoor

namespace Go.Proofs.YtolkohncmidpeaaGreatDoor
open Go.RowKit
set_option linter.unusedVariables false
theorem gRange : Tryz.prog.globalNamed "strconv.ErrRange" = some 5 := by kernel_rfl
theorem gSyntax : Tryz.prog.globalNamed "strconv.ErrSyntax" = some 4 := by kernel_rfl
theorem gRangeT : (Tryz.prog.globals[(5 : Nat)]?).map (·.type) = some 63 := by kernel_rfl
theorem gSyntaxT : (Tryz.prog.globals[(4 : Nat)]?).map (·.type) = some 63 := by kernel_rfl
theorem starErr : "*" ++ "errors.errorString" = "*errors.errorString" := by decide
theorem rowErr (u : TypeId) (h : Tryz.prog.typeName? 3 u = some "*errors.errorString") : u = 217 :=
  typeName_ptr_named (nm := "errors.errorString") (by rw [starErr]; kernel_rfl) (by kernel_rfl) (by decide) u (by rw [starErr]; exact h)
theorem cellsErr : Tryz.prog.cellsOf 219 = 1 := by kernel_rfl
theorem cellsStr : Tryz.prog.cellsOf 9 = 1 := by kernel_rfl
theorem laid_err {n : String} {text : List UInt8} {r : List (String × DataW Unit)} {W : World} {g : Nat} (hg : Tryz.prog.globalNamed n = some g) (ht : (Tryz.prog.globals[g]?).map (·.type) = some 63)
    (h : laidMet Tryz.prog ((n, .iface "*errors.errorString" (.ptr (.agg [.lit (.string text)]))) :: r) W) : ∃ v, W.cell? ⟨g, 0, none⟩ = some v ∧ (v = .nilIface ∨ ∃ t p, v = .iface t p) := by
  obtain ⟨a1, s1, hv1, -⟩ := laid_sentinel h hg ht Tryz.underlying63 rowErr Tryz.underlying217 Tryz.underlying219 rfl rfl Tryz.underlying9 cellsErr cellsStr
  have h0 := World.var?_cell hg hv1 0
  exact ⟨_, by simpa using h0, .inr ⟨_, _, rfl⟩⟩
/-- The whole environment. -/
theorem envR_of {W : World} {x0 x1 x2 x3 : String × DataW Unit} {t1 t2 : List UInt8} {r : List (String × DataW Unit)} (h : laidMet Tryz.prog (x0 :: x1 :: x2 :: x3 :: ("strconv.ErrRange", .iface "*errors.errorString" (.ptr (.agg [.lit (.string t1)]))) :: ("strconv.ErrSyntax", .iface "*errors.errorString" (.ptr (.agg [.lit (.string t2)]))) :: r) W) (hsh : W.ShapedOpen Tryz.prog) : EnvR W :=
  ⟨envM_of hsh, laid_err gSyntax gSyntaxT h.tail.tail.tail.tail.tail, laid_err gRange gRangeT h.tail.tail.tail.tail⟩
end Go.Proofs.YtolkohncmidpeaaGreatDoor

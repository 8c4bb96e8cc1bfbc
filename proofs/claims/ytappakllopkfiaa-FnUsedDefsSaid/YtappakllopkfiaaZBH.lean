/-
  Lemmas towards the law, 34: Used3.
-/
import Derived.Test.YtappakllopkfiaaZAM
import Derived.Test.YtappakllopkfiaaZBF
import Derived.Test.YtappakllopkfiaaZBG
namespace Go.Proofs.Ytappakllopkfiaa
open Go.RowKit
set_option linter.unusedVariables false
/-- The first j of s, or V. -/
def orI (s : List Bool) (j : Nat) (V : Nat → Bool) : List Bool := s.mapIdx fun q b => b || (decide (q < j) && V q)
theorem orI_len (s : List Bool) (j : Nat) (V : Nat → Bool) : (orI s j V).length = s.length := by simp [orI]
theorem orI_zero (s : List Bool) (V : Nat → Bool) : orI s 0 V = s := by
  apply List.ext_getElem (by simp [orI])
  intro i h1 h2
  simp [orI]
theorem orI_get {s : List Bool} {j q : Nat} {V : Nat → Bool} (h : q < s.length) : (orI s j V)[q]'(by rw [orI_len]; exact h) = (s[q] || (decide (q < j) && V q)) := by simp [orI]
theorem orI_set {s : List Bool} {j : Nat} {V : Nat → Bool} (h : j < s.length) : (orI s j V).set j (s[j] || V j) = orI s (j + 1) V := by
  apply List.ext_getElem (by simp [orI])
  intro i h1 h2
  have hi : i < s.length := by simpa [orI] using h2
  rw [List.getElem_set]
  by_cases e : j = i
  · subst e
    rw [if_pos rfl, orI_get hi]
    simp
  · rw [if_neg e, orI_get hi, orI_get hi]
    congr 2
    simp only [decide_eq_decide]
    omega
theorem markF_orI (top : Nat) : ∀ (fs : List Int) (s : List Bool), (∀ i ∈ fs, 0 ≤ i ∧ i < (top : Int)) → top ≤ s.length → markF fs top s = orI s top (fun q => decide ((top : Int) - 1 - (q : Int) ∈ fs))
  | [], s, _, _ => by
    apply List.ext_getElem (by simp [orI, markF])
    intro i h1 h2
    simp [orI, markF]
  | i :: fs, s, hf, ht => by
    have hi := hf i (by simp)
    have := markF_orI top fs (s.set ((top : Int) - 1 - i).toNat true) (fun x hx => hf x (by simp [hx])) (by simpa using ht)
    have e : markF (i :: fs) top s = markF fs top (s.set ((top : Int) - 1 - i).toNat true) := rfl
    rw [e, this]
    apply List.ext_getElem (by simp [orI])
    intro q h1 h2
    have hq : q < s.length := by simpa [orI] using h2
    rw [orI_get (by simpa using hq), orI_get hq, List.getElem_set]
    by_cases e2 : ((top : Int) - 1 - i).toNat = q
    · rw [if_pos e2]
      have h3 : (top : Int) - 1 - (q : Int) ∈ i :: fs := by rw [show (top : Int) - 1 - (q : Int) = i by omega]; simp
      have h4 : q < top := by omega
      simp [h3, h4]
    · rw [if_neg e2]
      by_cases h5 : q < top
      · have h6 : (top : Int) - 1 - (q : Int) ≠ i := by omega
        simp [List.mem_cons, h6]
      · simp [h5]
theorem usedV_pos {ks : List Tr} {n : Nat} {t : Tr} (h : (dfV ks n && (valid sigT t && decide (mxf t 0 ≤ (n : Int)))) = true) : usedV ks n t = outI (usD ks n (markF (fvs t 0) n (List.replicate n false))) 0 := if_pos h
theorem usedV_neg {ks : List Tr} {n : Nat} {t : Tr} (h : (dfV ks n && (valid sigT t && decide (mxf t 0 ≤ (n : Int)))) = false) : usedV ks n t = [] := if_neg (by rw [h]; decide)
set_option maxRecDepth 100000 in
set_option maxHeartbeats 2000000 in
theorem specUsedDefs_any (ks : List Tr) (n cap : Nat) (w : World) (A : Option Addr) (t : Tr) (v : Value) (h : LiesK w A ks) (hn : ks.length = n * 2) (hl : n ≤ cap) (hc : cap ≤ maxLen) (hin : Lies w t v) (hn20 : n ≤ 1048576) :
    Calls Try.prog 49 #[.slice A n cap, v] w fun e w' => ∃ B c, e = .returned (.slice B (usedV ks n t).length c) ∧ (usedV ks n t).length ≤ c ∧ c ≤ maxLen ∧ Nums w' B (usedV ks n t) ∧ Ext w w' := by
  have hcc := hc
  unfold maxLen at hcc
  have K1 := Lib.hid (fun W (hW : Ext w W) => specDefsValid_any ks n cap W A (h.ext hW) hn hl hc)
  have K2 := Lib.hid (fun W (hW : Ext w W) => specValidTerm t W v (hin.ext hW))
  have K3 := Lib.hid (fun W (hW : Ext w W) => specMaxFree_any t W v (hin.ext hW))
  have hU : (dfV ks n && (valid sigT t && decide (mxf t 0 ≤ (n : Int)))) = true → n ≤ 8 ∧ valid sigT t = true ∧ mxf t 0 ≤ n ∧ (∀ j (hj : j * 2 + 1 < ks.length), valid sigT ks[j * 2 + 1] = true ∧ mxf ks[j * 2 + 1] 0 ≤ j) := fun hh => by
    simp only [Bool.and_eq_true, decide_eq_true_eq] at hh
    have h8 := (dfV_small hh.1 hn).1
    have hd := hh.1
    unfold dfV at hd
    rw [Bool.and_eq_true] at hd
    exact ⟨h8, hh.2.1, hh.2.2, fun j hj => by have := dvs_body hd.1 j hj; rw [Nat.zero_add] at this; exact this⟩
  have hmx : valid sigT t = true → mxV t = mxf t 0 := fun h => by unfold mxV; rw [h]; rfl
  have hneg := usedV_neg (ks := ks) (n := n) (t := t)
  have hpos := usedV_pos (ks := ks) (n := n) (t := t)
  generalize mxV t = y at K3 hmx
  obtain ⟨vt, hvt⟩ : ∃ vt, vt = valid sigT t := ⟨_, rfl⟩
  obtain ⟨vd, hvd⟩ : ∃ vd, vd = dfV ks n := ⟨_, rfl⟩
  rw [← hvt] at K2 hU hmx hneg hpos
  rw [← hvd] at K1 hU hneg hpos
  obtain ⟨rs, hrs⟩ : ∃ rs, rs = usedV ks n t := ⟨_, rfl⟩
  rw [← hrs] at hneg hpos ⊢
  clear hvd hrs
  obtain ⟨k, m, ts⟩ := t
  obtain ⟨At, ct, rfl, -, -, -⟩ := Lies.mk_iff.1 hin
  have hE := ((Ext.refl w).alloc (.cells #[.int .i64 k, .int .i64 m, .slice At ts.length ct] 44)).alloc (.cells #[] 3)
  obtain ⟨hbT, hbO, hs1⟩ := blk2 (Ext.refl ((w.alloc (.cells #[.int .i64 k, .int .i64 m, .slice At ts.length ct] 44)).alloc (.cells #[] 3)))
  have OUT : ∀ wz, Ext w wz → (vd && (vt && decide (mxf (.mk k m ts) 0 ≤ (n : Int)))) = false → ∃ B c, Ending.returned (Value.slice (some ⟨w.heap.size + 1, 0, none⟩) 0 0) = Ending.returned (.slice B rs.length c) ∧ rs.length ≤ c ∧ c ≤ maxLen ∧ Nums wz B rs ∧ Ext w wz := fun wz hz hb => by
    have hr := hneg hb
    subst hr
    exact ⟨_, 0, rfl, by simp, by simp, .inl rfl, hz⟩
  have HOUT := Lib.hid OUT
  have HX := Lib.hid hmx
  have HU := Lib.hid hU
  have HP := Lib.hid hpos
  clear OUT hmx hU hneg hpos
  go_enter Try.func49, Try.ntmps49
  go_wp2_with fail
  refine (K1.out _ hE).mono ?_
  rintro e w1 ⟨rfl, e1⟩
  obtain ⟨x0, x1, x2, -, -, -⟩ := own3 (e1.blk hbT)
  have HVT0 := Lib.hid hvt
  clear hvt
  cases vd with
  | false =>
    go_wp2_with fail
    go_ret
    exact HOUT.out _ (hE.trans e1) rfl
  | true =>
    go_wp2_with fail
    refine (K2.out _ (hE.trans e1)).mono ?_
    rintro e w2 ⟨rfl, e2⟩
    have e12 := e1.trans e2
    clear x0 x1 x2
    obtain ⟨x0, x1, x2, -, -, -⟩ := own3 (e12.blk hbT)
    cases vt with
    | false =>
      go_wp2_with fail
      go_ret
      exact HOUT.out _ (hE.trans e12) rfl
    | true =>
      go_wp2_with fail
      refine (K3.out _ (hE.trans e12)).mono ?_
      rintro e w3 ⟨rfl, e3⟩
      have e13 := e12.trans e3
      clear x0 x1 x2
      obtain ⟨x0, x1, x2, -, -, -⟩ := own3 (e13.blk hbT)
      have hy := HX.out trivial
      by_cases hb3 : mxf (.mk k m ts) 0 ≤ (n : Int)
      · have d3 : decide ((n : Int) < y) = false := decide_eq_false (by omega)
        have hcond : (true && (true && decide (mxf (.mk k m ts) 0 ≤ (n : Int)))) = true := by rw [decide_eq_true hb3]; rfl
        obtain ⟨h8, -, -, hbod⟩ := HU.out hcond
        have hRS := HP.out hcond
        have HBOD := Lib.hid hbod
        have HRS := Lib.hid hRS
        obtain ⟨i0, hi, hz0, hz1, hz2⟩ := info_parts infoBool
        have hmk := fun W => run_make_rowN (P := Try.prog) 125 4 i0 _ Try.underlying125 hi hz0 .i64 .i64 n n (Nat.le_refl _) (by rw [hz2]; omega) (by omega) W
        rw [hz1, Nat.mul_one] at hmk
        clear hcond hRS hbod HU HP HOUT
        have hp := valid_parts HVT0.out.symm
        have HTM := Lib.hid (fun W (hW : Ext w W) x (hx0 : 0 ≤ x) (hx1 : x ≤ 1000) => l2Times_any (.mk k m ts) W _ x 30 hp.1 (hin.ext hW) hx0 (by omega))
        have hbT3 := e13.blk hbT
        have hE3 := hE.trans e13
        have hO3 : w3.heap[w.heap.size + 1]? = some (.cells #[] 3 (0, 0)) := e13.blk hbO
        clear hbT hbO x0 x1 x2
        go_wp2_with fail
        have hbG := heap_alloc_new w3 (.cells (madeCells #[.bool false] n) 4)
        have hB0 : BoolsAt (w3.alloc (.cells (madeCells #[.bool false] n) 4)) w3.heap.size n (List.replicate n false) := by
          refine ⟨by simp, hbG.trans ?_⟩
          congr 3
          apply Array.toList_inj.1
          rw [toList_madeCells_one]
          simp
        have hx0 := (Ext.refl w3).alloc (.cells (madeCells #[.bool false] n) 4)
        clear hbG hmk
        generalize World.alloc w3 _ = wB at hB0 hx0
        obtain ⟨g, hg⟩ : ∃ g, g = w3.heap.size := ⟨_, rfl⟩
        rw [← hg] at hB0 ⊢
        have HG := Lib.hid hg
        clear hg
        go_loopw [7] (fun i wr => ∃ j : Nat, j ≤ n ∧ i = .int .i64 j ∧ BoolsAt wr g n (orI (List.replicate n false) j (fun q => decide ((n : Int) - 1 - (q : Int) ∈ fvs (.mk k m ts) 0))) ∧ Ext w3 wr) (fun i _ => n - (intOf i).toNat)
        case atStart => exact ⟨0, Nat.zero_le _, rfl, by rw [orI_zero]; exact hB0, hx0⟩
        case round =>
          obtain ⟨j, hj, rfl, hB, hx⟩ := hrel
          by_cases hlt : j < n
          · have hjz : (j : Int) < (n : Int) := by omega
            obtain ⟨x0, x1, x2, -, -, -⟩ := own3 (hx.blk hbT3)
            have hst := orI_set (s := List.replicate n false) (j := j) (V := fun q => decide ((n : Int) - 1 - (q : Int) ∈ fvs (.mk k m ts) 0)) (by simpa using hlt)
            have hps := tms_pos (.mk k m ts) ((n : Int) - 1 - j) (by omega)
            have HST := Lib.hid hst
            have HPS := Lib.hid hps
            clear hst hps
            go_wp2_with fail
            refine (HTM.out _ (hE3.trans hx) ((n : Int) - 1 - j) (by omega) (by omega)).mono ?_
            rintro e w4 ⟨rfl, e4⟩
            have hB4 : BoolsAt w4 g n _ := ⟨hB.1, e4.blk hB.2⟩
            have c3 := hB4.cell hlt
            generalize (orI (List.replicate n false) j _)[j]'_ = old at c3
            have f3 := frozen_of_blk hB4.2 j
            have hps := HPS.out
            generalize tms (.mk k m ts) ((n : Int) - 1 - j) = z at hps
            obtain ⟨bb, hbb⟩ : ∃ bb, decide (0 < z) = bb := ⟨_, rfl⟩
            have hset : BoolsAt (w4.setCell ⟨g, j, none⟩ (.bool bb)) g n (orI (List.replicate n false) (j + 1) (fun q => decide ((n : Int) - 1 - (q : Int) ∈ fvs (.mk k m ts) 0))) := by
              have h0 := hB4.set j bb
              rw [← HST.out, show ((List.replicate n false)[j]'(by simpa using hlt) || (fun q : Nat => decide ((n : Int) - 1 - (q : Int) ∈ fvs (.mk k m ts) 0)) j) = bb from by simp [← hbb, hps]]
              exact h0
            have HSET := Lib.hid hset
            clear hset hps x0 x1 x2 hB hB4
            cases bb
            all_goals go_wp2_with fail
            all_goals go_roundw
            case rel => exact ⟨j + 1, by omega, by go_num, HSET.out, (hx.trans e4).setCell (by rw [HG.out]; exact Nat.le_refl _) _⟩
            case measure => simp [intOf]; omega
            case rel => exact ⟨j + 1, by omega, by go_num, HSET.out, (hx.trans e4).setCell (by rw [HG.out]; exact Nat.le_refl _) _⟩
            case measure => simp [intOf]; omega
          · have hjn : j = n := by omega
            subst hjn
            obtain ⟨s0, hs0⟩ : ∃ s0, s0 = markF (fvs (.mk k m ts) 0) j (List.replicate j false) := ⟨_, rfl⟩
            have HS0 := Lib.hid hs0
            rw [markF_orI j _ _ (fun i hi => by have := fvs_mem (.mk k m ts) 0 30 i hp.1 (by omega) hi; omega) (by simp)] at hs0
            rw [← hs0] at hB
            have hsl : s0.length = j := hB.1
            clear hs0
            obtain ⟨wA, hwA⟩ : ∃ x, x = wr := ⟨_, rfl⟩
            subst hwA
            go_wp2_with fail
            go_loopw [8] (fun i wr => ∃ (q : Nat) (s : List Bool), q ≤ j ∧ i = .int .i64 ((q : Int) - 1) ∧ s.length = j ∧ usD ks q s = usD ks j s0 ∧ BoolsAt wr g j s ∧ Ext w3 wr) (fun i _ => (intOf i + 1).toNat)
            case atStart => exact ⟨j, s0, Nat.le_refl _, rfl, hsl, rfl, hB, hx⟩
            case round =>
              obtain ⟨q, s, hq, rfl, hsn, hus, hB2, hx2⟩ := hrel
              have HUS := Lib.hid hus
              clear hus
              rcases q with _ | q
              · have hz : ((0 : Nat) : Int) - 1 = -1 := by omega
                have HUS0 := HUS.out
                simp only [usD] at HUS0
                have hrs' : rs = outI s 0 := by rw [HRS.out, ← HS0.out, ← HUS0]
                have HRS' := Lib.hid hrs'
                obtain ⟨i1, hi', hy0, hy1, hy2⟩ := info_parts infoInt
                have hbO2 := hx2.blk hO3
                have hxa := hE3.trans hx2
                obtain ⟨wE, hwE⟩ : ∃ x, x = wr := ⟨_, rfl⟩
                subst hwE
                have hgE : w.heap.size + 1 < wE.heap.size := lt_of_blk hbO2
                have hgg : g ≠ w.heap.size + 1 := by have := lt_of_blk hO3; rw [HG.out]; omega
                clear HUS0 HUS HRS hrs'
                rw [hz]
                clear hz
                go_wp2_with fail
                go_loopw [5, 10] (fun o i wr => ∃ (p : Nat) (ns : List Int), p ≤ j ∧ i = .int .i64 p ∧ wr.ownsRow (w.heap.size + 1) 3 1 o ns.length (ns.map (Value.int .i64)) ∧ (∀ r, o.ownBlock = some r → r = w.heap.size + 1 ∨ wE.heap.size ≤ r) ∧ ns.length ≤ p ∧ ns ++ outI (s.drop p) p = rs ∧ Only [w.heap.size + 1] wE wr) (fun _ i _ => j - (intOf i).toNat)
                case atStart => exact ⟨0, [], Nat.zero_le _, rfl, ⟨rfl, .inr ⟨_, 0, #[], rfl, Nat.le_refl _, hbO2, Nat.le_refl _, Nat.zero_le _, rfl, rfl⟩⟩, fun r hr => .inl (by injection hr with hr; exact hr.symm), Nat.le_refl _, by rw [HRS'.out]; rfl, Only.refl _ _⟩
                case round =>
                  obtain ⟨p, ns, hp', rfl, hG, hGb, hnj, heq, hq'⟩ := hrel
                  have HEQ := Lib.hid heq
                  have HGB := Lib.hid hGb
                  clear heq hGb
                  have hsE := hq'.size
                  have hown2 := hG
                  obtain ⟨Bo, co, rfl, ho1, ho2, hNN⟩ := ownsRow_nums hG
                  by_cases hlt : p < j
                  · have hB4 : BoolsAt wr g j s := ⟨hB2.1, (hq'.block g (lt_of_blk hB2.2) (by simpa using hgg)).trans hB2.2⟩
                    have c3 := hB4.cell hlt
                    have hpz : (p : Int) < (j : Int) := by omega
                    obtain ⟨bb, hbb⟩ : ∃ bb, bb = s[p]'(by omega) := ⟨_, rfl⟩
                    have hst : outI (s.drop p) p = if bb = true then (p : Int) :: outI (s.drop (p + 1)) (p + 1) else outI (s.drop (p + 1)) (p + 1) := by
                      rw [List.drop_eq_getElem_cons (show p < s.length by omega), hbb]
                      conv => lhs; unfold outI
                    rw [← hbb] at c3
                    have HST := Lib.hid hst
                    clear hbb hst
                    cases bb with
                    | false =>
                      go_wp2_with fail
                      go_roundw
                      case rel => exact ⟨p + 1, ns, by omega, by go_num, hown2, HGB.out, by omega, by rw [← HEQ.out, HST.out]; rfl, hq'⟩
                      case measure => simp [intOf]; omega
                    | true =>
                      have hGa : (wr.alloc (.cells #[.int .i64 p] 3)).ownsRow (w.heap.size + 1) 3 1 (.slice Bo ns.length co) ns.length (ns.map (Value.int .i64)) := World.ownsRow.alloc hG _
                      go_wp2_with (at_builtin; refine wpList_append_one _ rfl (.tmp 96) (.tmp 98) 55 rfl (w.heap.size + 1) 3 3 i1 (.int .i64 0) 8 Try.underlying55 hi' hy0 hy1 hy2 (by decide) rfl (y := .int .i64 p) rfl rfl hGa rfl (heap_alloc_new wr _) (by omega) (by simp; omega) ?_)
                      intro v' w6 hO6 hg6 hL6
                      have hq6 : Only [w.heap.size + 1] wE w6 := (hq'.alloc _).grown' hg6 (fun k hk => by rcases HGB.out k hk with h1 | h1; exact .inl (by simp [h1]); exact .inr h1)
                      have hGb6 : ∀ r, v'.ownBlock = some r → r = w.heap.size + 1 ∨ wE.heap.size ≤ r := fun r hr => by
                        rcases hL6 r hr with h1 | h1
                        · exact HGB.out r h1
                        · exact .inr (by first | omega | (simp at h1; omega))
                      have HG6 := Lib.hid hGb6
                      have hO7 : w6.ownsRow (w.heap.size + 1) 3 1 v' (ns ++ [(p : Int)]).length ((ns ++ [(p : Int)]).map (Value.int .i64)) := by simpa using hO6
                      clear hGa hO6 hGb6 hL6
                      go_wp2_with fail
                      go_roundw
                      case rel => exact ⟨p + 1, ns ++ [(p : Int)], by omega, by go_num, hO7, HG6.out, by simp; omega, by rw [← HEQ.out, HST.out]; simp, hq6⟩
                      case measure => simp [intOf]; omega
                  · have hns : ns = rs := by rw [← HEQ.out, List.drop_of_length_le (by omega)]; simp [outI]
                    have HNS := Lib.hid hns
                    clear hns
                    go_wp2_with fail
                    go_ret
                    exact ⟨Bo, co, by rw [HNS.out]; rfl, by rw [← HNS.out]; exact ho1, ho2, by rw [← HNS.out]; exact hNN, hq'.ext hxa (fun b hb => by rw [List.mem_singleton.1 hb]; omega)⟩
              · have hjz : ((q + 1 : Nat) : Int) - 1 = (q : Int) := by omega
                rw [hjz]
                obtain ⟨b, o, k3, n3, A3, p3, kids3, k2, n2, A2, p2, kids2, rfl, hbw, HK1, HK2, ⟨d0, d1', d2', c3, c4, c5⟩, -, ⟨l2, m2, hK2, hin2, hmem2⟩⟩ := h.getD (j := q) (hE3.trans hx2) (by omega)
                obtain ⟨bb, hbb⟩ : ∃ bb, bb = s[q]'(by omega) := ⟨_, rfl⟩
                obtain ⟨V, hV⟩ : ∃ V : Nat → Bool, V = fun p : Nat => decide ((q : Int) - 1 - (p : Int) ∈ fvs (.mk k2 n2 kids2) 0) := ⟨_, rfl⟩
                have HV := Lib.hid hV
                have HBB := Lib.hid hbb
                obtain ⟨wC, hwC⟩ : ∃ x, x = wr := ⟨_, rfl⟩
                subst hwC
                clear hV hbb
                go_wp2_with fail
                go_loopw [9] (fun i wr => ∃ kk : Nat, kk ≤ q ∧ i = .int .i64 kk ∧ (bb = false → kk = 0) ∧ BoolsAt wr g j (orI s kk V) ∧ Ext w3 wr) (fun i _ => q - (intOf i).toNat)
                case atStart => exact ⟨0, Nat.zero_le _, rfl, fun _ => rfl, by rw [orI_zero]; exact hB2, hx2⟩
                case round =>
                  obtain ⟨kk, hkk, rfl, hk0, hBk, hxk⟩ := hrel
                  have cq := hBk.cell (show q < j by omega)
                  have hqv : (orI s kk V)[q]'(by rw [hBk.1]; omega) = bb := by
                    rw [orI_get (by omega), HBB.out]
                    simp [show ¬ q < kk by omega]
                  rw [hqv] at cq
                  have hqz : (q : Int) < (j : Int) := by omega
                  by_cases hlt : kk < q
                  · have hlz : (kk : Int) < (q : Int) := by omega
                    cases bb with
                    | false =>
                      have hus' : usD ks q s = usD ks j s0 := by
                        rw [← HUS.out]
                        conv => rhs; unfold usD
                        rw [show s.getD q false = false from by rw [List.getD_eq_getElem?_getD, List.getElem?_eq_getElem (by omega), ← HBB.out]; rfl]
                        rfl
                      have HU2 := Lib.hid hus'
                      have hkz := hk0 rfl
                      rw [hkz, orI_zero] at hBk
                      clear hus'
                      go_wp2_with fail
                      go_roundw
                      case rel => exact ⟨q, s, by omega, by go_num, hsn, HU2.out, hBk, hxk⟩
                      case measure => simp [intOf]
                    | true =>
                      obtain ⟨b', o', k3', n3', A3', p3', kids3', k4, n4, A4, p4, kids4, hbo, -, -, HK4, ⟨-, -, -, c30, c40, c50⟩, -, ⟨-, -, -, hin4, -⟩⟩ := h.getD (j := q) (hE3.trans hxk) (by omega)
                      cases hbo
                      have e4 := HK4.out.symm.trans HK2.out
                      cases e4
                      have hbd := HBOD.out q (by omega)
                      rw [HK2.out] at hbd
                      have hpb := valid_parts hbd.1
                      obtain ⟨ob, hob⟩ : ∃ ob, ob = s[kk]'(by omega) := ⟨_, rfl⟩
                      have ck := hBk.cell (show kk < j by omega)
                      have hkv : (orI s kk V)[kk]'(by rw [hBk.1]; omega) = ob := by
                        rw [orI_get (by omega), hob]
                        simp
                      rw [hkv] at ck
                      have fk := frozen_of_blk hBk.2 kk
                      have hkz' : (kk : Int) < (j : Int) := by omega
                      have hsets := orI_set (s := s) (j := kk) (V := V) (by omega)
                      rw [← hob] at hsets
                      have HSETS := Lib.hid hsets
                      have HLT := Lib.hid (l2Times_any (.mk k2 n2 kids2) wr _ ((q : Int) - 1 - kk) 30 hpb.1 hin4 (by omega) (by omega))
                      have HPS := Lib.hid (tms_pos (.mk k2 n2 kids2) ((q : Int) - 1 - kk) (by omega))
                      clear hsets hkv hob c3 c4 c5 hbd
                      have HVK := Lib.hid (show V kk = decide ((q : Int) - 1 - (kk : Int) ∈ fvs (.mk k2 n2 kids2) 0) from by rw [HV.out])
                      cases ob with
                      | true =>
                        go_wp2_with fail
                        have h0 := hBk.set kk true
                        rw [show (true : Bool) = (true || V kk) from rfl, HSETS.out] at h0
                        refine ⟨⟨kk + 1, by omega, by go_num, (fun hh => by cases hh), h0, hxk.setCell (by show _ ≤ g; rw [HG.out]; exact Nat.le_refl _) _⟩, by simp [intOf]; omega⟩
                      | false =>
                        go_wp2_with fail
                        refine HLT.out.mono ?_
                        rintro e w5 ⟨rfl, e5⟩
                        have hB5 : BoolsAt w5 g j (orI s kk V) := ⟨hBk.1, e5.blk hBk.2⟩
                        have fk5 := frozen_of_blk hB5.2 kk
                        have ck5 := hB5.cell (show kk < j by omega)
                        generalize (orI s kk V)[kk]'_ = old at ck5
                        have hps := HPS.out
                        generalize tms (.mk k2 n2 kids2) ((q : Int) - 1 - kk) = z at hps
                        obtain ⟨bz, hbz⟩ : ∃ bz, decide (0 < z) = bz := ⟨_, rfl⟩
                        have h0 : BoolsAt (w5.setCell ⟨g, kk, none⟩ (.bool bz)) g j (orI s (kk + 1) V) := by
                          have h1 := hB5.set kk bz
                          rw [← HSETS.out, HVK.out, ← hps, hbz, Bool.false_or]
                          exact h1
                        have H0 := Lib.hid h0
                        clear h0 hps cq ck fk
                        cases bz
                        all_goals go_wp2_with fail
                        all_goals exact ⟨⟨kk + 1, by omega, by go_num, (fun hh => by cases hh), H0.out, (hxk.trans e5).setCell (by show _ ≤ g; rw [HG.out]; exact Nat.le_refl _) _⟩, by simp [intOf]; omega⟩
                  · have hkq : kk = q := by omega
                    subst hkq
                    have hbd := HBOD.out kk (by omega)
                    rw [HK2.out] at hbd
                    have hpb := valid_parts hbd.1
                    have hgb : ks.getD (kk * 2 + 1) dflt0 = .mk k2 n2 kids2 := by
                      rw [List.getD_eq_getElem?_getD, List.getElem?_eq_getElem (by omega), HK2.out]; rfl
                    have hgs : s.getD kk false = bb := by rw [List.getD_eq_getElem?_getD, List.getElem?_eq_getElem (by omega), HBB.out]; rfl
                    have hmk2 : markF (fvs (.mk k2 n2 kids2) 0) kk s = orI s kk V := by
                      rw [HV.out]
                      exact markF_orI kk _ s (fun i hi => by have := fvs_mem (.mk k2 n2 kids2) 0 30 i hpb.1 (by omega) hi; omega) (by omega)
                    have hus' : usD ks kk (orI s kk V) = usD ks j s0 := by
                      rw [← HUS.out]
                      conv => rhs; unfold usD
                      rw [hgs, hgb, hmk2]
                      cases bb with
                      | true => rfl
                      | false =>
                        have := hk0 rfl
                        subst this
                        rw [orI_zero]; rfl
                    have HU2 := Lib.hid hus'
                    clear hus' hmk2 hgs hgb hbd hpb cq hqv
                    go_wp2_with fail
                    go_roundw
                    case rel => exact ⟨kk, orI s kk V, by omega, by go_num, by rw [orI_len]; exact hsn, HU2.out, hBk, hxk⟩
                    case measure => simp [intOf]
      · have d3 : decide ((n : Int) < y) = true := decide_eq_true (by omega)
        go_wp2_with fail
        go_ret
        exact HOUT.out _ (hE.trans e13) (by rw [decide_eq_false (show ¬ mxf (.mk k m ts) 0 ≤ (n : Int) from by omega)]; rfl)
end Go.Proofs.Ytappakllopkfiaa

/-
  Lemmas towards the law, 17: Parse6, Parse7, Draws, Defs, DefKit.
-/
import Derived.Test.YtolkohncmidpeaaGreatDoorHAC
import Derived.Test.YtolkohncmidpeaaGreatDoorHAI
import Derived.Test.YtolkohncmidpeaaGreatDoorHAM
import Derived.Test.YtolkohncmidpeaaGreatDoorHAP
import Derived.Deep.DrawnRows
import Derived.Deep.RegionHeld3
import Derived.Deep.RegionLaw
import Derived.Outline
import Derived.StillTailTactics
import Derived.Test.YtolkohncmidpeaaGreatDoorProg
namespace Go.Proofs.YtolkohncmidpeaaGreatDoor
open Go.RowKit
set_option linter.unusedVariables false
set_option maxRecDepth 100000 in
set_option maxHeartbeats 2000000 in
theorem parse_91 (d : Nat) (hd : d ≤ 30) (ih : ParseC d) (s : ByteArray) (a : Nat) (w : World) (hs : s.size ≤ 1000000000) (ha : a < s.size) (hc : s[a] = 91) :
    Calls Tryz.prog 93 #[.string s, .int .i64 a, .int .i64 ((d : Int) + 1)] w (ParseQ w.heap.size w s.size (prs (d + 1) s.data.toList a)) := by
  have hR0 : prs (d + 1) s.data.toList a = sqr (prs d s.data.toList) s.data.toList (a + 1) := by rw [prs_at (at_eq ha hc)]; rfl
  rw [hR0]
  clear hR0
  have HI := Lib.hid (fun (a : Nat) (A : Int) (hA : A = a) W (ha : a ≤ s.size + 2) => (show Calls Tryz.prog 93 #[.string s, .int .i64 A, .int .i64 d] W (ParseQ W.heap.size W s.size (prs d s.data.toList a)) from by subst hA; exact ih s a W hs ha))
  obtain ⟨F, hF⟩ : ∃ F, F = prs d s.data.toList := ⟨_, rfl⟩
  rw [← hF] at HI ⊢
  have hdef : sqr F s.data.toList (a + 1) = match F (a + 1) with
    | none => none
    | some (x, b) => if s.data.toList[b]? = some 93 then (match F (b + 1) with | none => none | some (y, c) => some (.mk 4 0 [x, y], c)) else none := rfl
  obtain ⟨R, hR⟩ : ∃ R, R = sqr F s.data.toList (a + 1) := ⟨_, rfl⟩
  rw [← hR] at hdef ⊢
  have HD := Lib.hid hdef
  clear hR ih hF hdef
  go_enter Tryz.func93, Tryz.ntmps93
  go_wp2_with fail
  refine (HI.out (a + 1) _ (by omega) _ (by omega)).mono ?_
  rintro e w1 ⟨t, u, nx, rfl, hF, e1, q1, q2⟩
  obtain ⟨k0, n0, A0, l0, c0, rfl⟩ := hF.three
  have hb := e1.newBlk
  have hsz := e1.size_alloc
  have hx0 := ((Ext.refl w).alloc (.cells #[.int .i64 0, .int .i64 0, .slice none 0 0] 45)).trans e1
  have hx1 := hx0.trans ((Ext.refl w1).alloc (.cells #[.int .i64 k0, .int .i64 n0, .slice A0 l0 c0] 45))
  have hF1 := hF.ext ((Ext.refl w1).alloc (.cells #[.int .i64 k0, .int .i64 n0, .slice A0 l0 c0] 45))
  simp only [World.size_alloc] at hF1
  have hb' := ((Ext.refl w1).alloc (.cells #[.int .i64 k0, .int .i64 n0, .slice A0 l0 c0] 45)).blk hb
  have hbA := heap_alloc_new w1 (.cells #[.int .i64 k0, .int .i64 n0, .slice A0 l0 c0] 45)
  cases hFa : F (a + 1) with
  | none =>
    obtain rfl := q2 hFa
    have hRn := HD.out
    rw [hFa] at hRn
    have HR := Lib.hid hRn
    obtain ⟨s0, s1, s2, f0, f1, f2⟩ := own3 hb'
    clear q1 q2 hRn hFa hsz
    go_wp2_with fail
    exact bodyPost_ret (v := .tuple #[.agg #[.int .i64 0, .int .i64 0, .slice none 0 0], .int .i64 (-1)]) (by simp [results, Tryz.results93, go_sem, s0, s1, s2]) rfl (bodyBad _ _ _ _ _ HR.out (((hx1.setCell (by simp) _).setCell (by simp) _).setCell (by simp) _))
  | some y =>
    obtain ⟨x, b⟩ := y
    obtain ⟨h1, h2, h3⟩ := q1 _ hFa
    simp only at h1 h2 h3
    have hRs := HD.out
    rw [hFa] at hRs
    simp only at hRs
    subst h1 h2
    clear q1 q2 hFa
    have t0 : decide ((b : Int) < 0) = false := decide_eq_false (by omega)
    by_cases hlt : b < s.size
    · obtain ⟨c, hcc⟩ : ∃ c, s[b] = c := ⟨_, rfl⟩
      rw [at_eq hlt hcc] at hRs
      have hbz : (b : Int) < (s.size : Int) := by omega
      have t1 : decide ((s.size : Int) ≤ (b : Int)) = false := decide_eq_false (by omega)
      obtain ⟨m, hm⟩ : ∃ m, c.toNat = m := ⟨_, rfl⟩
      by_cases h93 : c = 93
      · have hm93 : m = 93 := by rw [← hm, h93]; rfl
        rw [if_pos (by rw [h93])] at hRs
        subst hm93
        have HRS := Lib.hid hRs
        clear hRs h93
        go_wp2_with fail
        refine (HI.out (b + 1) _ (by omega) _ (by omega)).mono ?_
        rintro e w2 ⟨t', u', nx', rfl, hF', e2, q1, q2⟩
        obtain ⟨k1, n1, A1, l1, c1, rfl⟩ := hF'.three
        have hs2 := e2.size_alloc
        have hxa := e2.trans ((Ext.refl w2).alloc (.cells #[.int .i64 k1, .int .i64 n1, .slice A1 l1 c1] 45))
        have hb2 := hxa.blk hb'
        have hbA2 := hxa.blk hbA
        have hbB := heap_alloc_new w2 (.cells #[.int .i64 k1, .int .i64 n1, .slice A1 l1 c1] 45)
        obtain ⟨x0, x1, x2, -, -, -⟩ := own3 hbA2
        have hx2 := hx1.trans hxa
        have hF2 := hF1.ext hxa
        have hF2' := (hF'.ext ((Ext.refl w2).alloc (.cells #[.int .i64 k1, .int .i64 n1, .slice A1 l1 c1] 45))).since (show w.heap.size + 1 ≤ _ by simp; omega)
        have HQ1 := Lib.hid q1
        have HQ2 := Lib.hid q2
        clear q1 q2 hs2
        go_wp2_with fail
        refine (l1Node_from (w.heap.size + 1) _ 4 _ 2 [t, t'] (by intro h; cases h) (FromK.two (g := w2.heap.size + 1) (e := 45) hF2 hF2' (by have := e2.size_alloc; simp; omega) (by simp)) (by have := e2.size_alloc; simp; omega) (by simp)).mono ?_
        rintro e w3 ⟨v, rfl, hN, e3⟩
        obtain ⟨k3, n3, A3, l3, c3, rfl⟩ := hN.three
        obtain ⟨z0, z1, z2, g0, g1, g2⟩ := own3 (e3.blk (((Ext.refl _).alloc _).blk hb2))
        have hx3 := hx2.trans (((Ext.refl _).alloc _).trans e3)
        clear x0 x1 x2
        go_wp2_with fail
        refine bodyPost_ret (v := .tuple #[.agg #[.int .i64 k3, .int .i64 n3, .slice A3 l3 c3], .int .i64 nx']) (by simp [results, Tryz.results93, go_sem, z0, z1, z2]) rfl ⟨_, _, _, rfl, (((hN.set (by simp) _).set (by simp) _).set (by simp) _).since (by omega), ((hx3.setCell (by simp) _).setCell (by simp) _).setCell (by simp) _, ?_, ?_⟩
        · intro x hx
          rw [HRS.out] at hx
          cases hFb : F (b + 1) with
          | none => rw [hFb] at hx; cases hx
          | some y2 =>
            rw [hFb] at hx
            cases hx
            obtain ⟨g1, g2, g3⟩ := HQ1.out _ hFb
            exact ⟨by rw [g1], g2, g3⟩
        · intro hx
          rw [HRS.out] at hx
          cases hFb : F (b + 1) with
          | none => exact HQ2.out hFb
          | some y2 => rw [hFb] at hx; cases hx
      · rw [if_neg (by intro h; cases h; exact h93 rfl)] at hRs
        have HR := Lib.hid hRs
        have t7 : ((m : Int) != 93) = true := by rw [bne_iff_ne]; intro h; exact h93 (UInt8.toNat_inj.1 (by rw [hm]; simp; omega))
        obtain ⟨s0, s1, s2, f0, f1, f2⟩ := own3 hb'
        clear hRs h93 hsz
        go_wp2_with fail
        exact bodyPost_ret (v := .tuple #[.agg #[.int .i64 0, .int .i64 0, .slice none 0 0], .int .i64 (-1)]) (by simp [results, Tryz.results93, go_sem, s0, s1, s2]) rfl (bodyBad _ _ _ _ _ HR.out (((hx1.setCell (by simp) _).setCell (by simp) _).setCell (by simp) _))
    · rw [at_none s (by omega), if_neg (by simp)] at hRs
      have HR := Lib.hid hRs
      have t1 : decide ((s.size : Int) ≤ (b : Int)) = true := decide_eq_true (by omega)
      obtain ⟨s0, s1, s2, f0, f1, f2⟩ := own3 hb'
      clear hRs hsz
      go_wp2_with fail
      exact bodyPost_ret (v := .tuple #[.agg #[.int .i64 0, .int .i64 0, .slice none 0 0], .int .i64 (-1)]) (by simp [results, Tryz.results93, go_sem, s0, s1, s2]) rfl (bodyBad _ _ _ _ _ HR.out (((hx1.setCell (by simp) _).setCell (by simp) _).setCell (by simp) _))
theorem byte_ne {c : UInt8} {p : Nat} {v : UInt8} (hp : c.toNat = p) (h : c ≠ v) : ((p : Int) == (v.toNat : Int)) = false := by
  rw [beq_eq_false_iff_ne]
  intro e
  exact h (UInt8.toNat_inj.1 (by rw [hp]; omega))
set_option maxRecDepth 100000 in
set_option maxHeartbeats 1000000 in
theorem parse_no (d : Nat) (hd : d ≤ 30) (s : ByteArray) (a : Nat) (w : World) (hs : s.size ≤ 1000000000) (ha : a < s.size) (c : UInt8) (hc : s[a] = c)
    (h1 : c ≠ 35) (h2 : c ≠ 42) (h3 : c ≠ 78) (h4 : c ≠ 48) (h5 : c ≠ 43) (h6 : c ≠ 33) (h7 : c ≠ 94) (h8 : c ≠ 95) (h9 : c ≠ 40) (h10 : c ≠ 91) (hk : blkK c = 0) :
    Calls Tryz.prog 93 #[.string s, .int .i64 a, .int .i64 ((d : Int) + 1)] w (ParseQ w.heap.size w s.size (prs (d + 1) s.data.toList a)) := by
  have HI := Lib.hid (fun W => block_no d hd s a W hs ha c hc hk)
  have hR := prs_at (d := d) (at_eq ha hc)
  rw [if_neg h1, if_neg h2, if_neg h3, if_neg h4, if_neg h5, if_neg h6, if_neg h7, if_neg h8, if_neg h9, if_neg h10] at hR
  rw [hR]
  obtain ⟨p, hp⟩ : ∃ p, c.toNat = p := ⟨_, rfl⟩
  have t1 : ((p : Int) == 35) = false := byte_ne hp h1
  have t2 : ((p : Int) == 42) = false := byte_ne hp h2
  have t3 : ((p : Int) == 78) = false := byte_ne hp h3
  have t4 : ((p : Int) == 48) = false := byte_ne hp h4
  have t5 : ((p : Int) == 43) = false := byte_ne hp h5
  have t6 : ((p : Int) == 33) = false := byte_ne hp h6
  have t7 : ((p : Int) == 94) = false := byte_ne hp h7
  have t8 : ((p : Int) == 95) = false := byte_ne hp h8
  have t9 : ((p : Int) == 40) = false := byte_ne hp h9
  have t10 : ((p : Int) == 91) = false := byte_ne hp h10
  clear hR h1 h2 h3 h4 h5 h6 h7 h8 h9 h10 hk
  go_enter Tryz.func93, Tryz.ntmps93
  go_wp2_with fail
  refine (HI.out _).mono ?_
  intro e w1 hq
  obtain ⟨t, k1, n1, A1, l1, c1, nx, rfl, hF, e1, HQ⟩ := hq.on
  obtain ⟨s0, s1, s2, f0, f1, f2⟩ := own3 e1.newBlk
  have hsz := e1.size_alloc
  have hE := ((Ext.refl w).alloc (.cells #[.int .i64 0, .int .i64 0, .slice none 0 0] 45)).trans e1
  have hF' : From (w.heap.size + 1) w1 t (.agg #[.int .i64 k1, .int .i64 n1, .slice A1 l1 c1]) := by simpa using hF
  clear hq hF
  go_wp2_with fail
  exact bodyPost_ret (v := .tuple #[.agg #[.int .i64 k1, .int .i64 n1, .slice A1 l1 c1], .int .i64 nx]) (by simp [results, Tryz.results93, go_sem, s0, s1, s2]) rfl ⟨t, _, nx, rfl, (((hF'.set (by simp) _).set (by simp) _).set (by simp) _).since (by omega), ((hE.setCell (by simp) _).setCell (by simp) _).setCell (by simp) _, HQ.out.1, HQ.out.2⟩
set_option maxRecDepth 100000 in
theorem parse_zero (s : ByteArray) (a : Nat) (w : World) : Calls Tryz.prog 93 #[.string s, .int .i64 a, .int .i64 0] w (ParseQ w.heap.size w s.size none) := by
  go_enter Tryz.func93, Tryz.ntmps93
  go_wp2_with fail
  exact bodyPost_ret (v := .tuple #[.agg #[.int .i64 0, .int .i64 0, .slice none 0 0], .int .i64 (-1)]) (by simp [results, Tryz.results93, go_sem]) rfl (bodyBad _ _ _ _ _ rfl ((Ext.refl w).alloc _))
set_option maxRecDepth 100000 in
theorem parse_far (d : Nat) (hd : d ≤ 30) (s : ByteArray) (a : Nat) (w : World) (hs : s.size ≤ 1000000000) (ha : s.size ≤ a) : Calls Tryz.prog 93 #[.string s, .int .i64 a, .int .i64 ((d : Int) + 1)] w (ParseQ w.heap.size w s.size none) := by
  have t0 : decide ((a : Int) < 0) = false := decide_eq_false (by omega)
  have t1 : decide ((s.size : Int) ≤ (a : Int)) = true := decide_eq_true (by omega)
  go_enter Tryz.func93, Tryz.ntmps93
  go_wp2_with fail
  exact bodyPost_ret (v := .tuple #[.agg #[.int .i64 0, .int .i64 0, .slice none 0 0], .int .i64 (-1)]) (by simp [results, Tryz.results93, go_sem]) rfl (bodyBad _ _ _ _ _ rfl ((Ext.refl w).alloc _))
theorem parse_any : ∀ d : Nat, d ≤ 30 → ParseC d
  | 0, _ => fun s a w hs ha => parse_zero s a w
  | d + 1, hd => by
    have ih := parse_any d (by omega)
    intro s a w hs ha
    rw [show ((d + 1 : Nat) : Int) = (d : Int) + 1 by omega]
    have hd' : d ≤ 30 := by omega
    rcases Nat.lt_or_ge a s.size with hlt | hge
    · obtain ⟨c, hc⟩ : ∃ c, s[a] = c := ⟨_, rfl⟩
      by_cases h35 : c = 35
      · exact parse_35 d hd' s a w hs hlt (by rw [hc, h35])
      by_cases h42 : c = 42
      · exact parse_42 d hd' s a w hs hlt (by rw [hc, h42])
      by_cases h78 : c = 78
      · exact parse_78 d hd' s a w hs hlt (by rw [hc, h78])
      by_cases h48 : c = 48
      · exact parse_48 d hd' s a w hs hlt (by rw [hc, h48])
      by_cases h43 : c = 43
      · exact parse_43 d hd' ih s a w hs hlt (by rw [hc, h43])
      by_cases h33 : c = 33
      · exact parse_33 d hd' ih s a w hs hlt (by rw [hc, h33])
      by_cases h94 : c = 94
      · exact parse_94 d hd' ih s a w hs hlt (by rw [hc, h94])
      by_cases h95 : c = 95
      · exact parse_95 d hd' ih s a w hs hlt (by rw [hc, h95])
      by_cases h40 : c = 40
      · exact parse_40 d hd' ih s a w hs hlt (by rw [hc, h40])
      by_cases h91 : c = 91
      · exact parse_91 d hd' ih s a w hs hlt (by rw [hc, h91])
      by_cases h60 : c = 60
      · exact parse_60 d hd' ih s a w hs hlt (by rw [hc, h60])
      by_cases h123 : c = 123
      · exact parse_123 d hd' ih s a w hs hlt (by rw [hc, h123])
      by_cases h124 : c = 124
      · exact parse_124 d hd' ih s a w hs hlt (by rw [hc, h124])
      by_cases h64 : c = 64
      · exact parse_64 d hd' ih s a w hs hlt (by rw [hc, h64])
      exact parse_no d hd' s a w hs hlt c hc h35 h42 h78 h48 h43 h33 h94 h95 h40 h91 (by unfold blkK; rw [if_neg h60, if_neg h123, if_neg h124, if_neg h64])
    · rw [prs_none (at_none s hge)]
      exact parse_far d hd' s a w hs hge
end Go.Proofs.YtolkohncmidpeaaGreatDoor
namespace Go.Proofs.YtolkohncmidpeaaGreatDoor
open Go.RowKit
set_option linter.unusedVariables false
theorem ofL_tl (l : List UInt8) : (ofL l).toList = l := by rw [ByteArray.toList_eq, ofL_list]
theorem prsV_some {l : List UInt8} {t : Tr} {b : Nat} (h : prs 30 l 0 = some (t, b)) : prsV l = if l ≠ [] ∧ b = l.length ∧ fmtV t = l then some t else none := by
  unfold prsV
  rw [h]
theorem prsV_none {l : List UInt8} (h : prs 30 l 0 = none) : prsV l = none := by
  unfold prsV
  rw [h]
set_option maxRecDepth 100000 in
set_option maxHeartbeats 1000000 in
theorem parseTerm_any (s : ByteArray) (w : World) (hs : s.size ≤ 1000000000) : Calls Tryz.prog 70 #[.string s] w fun e w' => ∃ u, e = .returned (.tuple #[u, .bool (prsV s.data.toList).isSome]) ∧ From w.heap.size w' ((prsV s.data.toList).getD (.mk 0 0 [])) u ∧ Ext w w' := by
  have HP := Lib.hid (fun W => (show Calls Tryz.prog 93 #[.string s, .int .i64 0, .int .i64 30] W (ParseQ W.heap.size W s.size (prs 30 s.data.toList 0)) from parse_any 30 (by omega) s 0 W hs (by omega)))
  have hlen : s.data.toList.length = s.size := by rw [Array.length_toList]; rfl
  have htl := ByteArray.toList_eq s
  obtain ⟨R, hR⟩ : ∃ R, R = prsV s.data.toList := ⟨_, rfl⟩
  rw [← hR]
  obtain ⟨F, hF0⟩ : ∃ F, F = prs 30 s.data.toList 0 := ⟨_, rfl⟩
  rw [← hF0] at HP
  cases F with
  | none =>
    have hRn : R = none := by rw [hR]; exact prsV_none hF0.symm
    have HR := Lib.hid hRn
    obtain ⟨be, hbe⟩ : ∃ be, s.toList.isEmpty = be := ⟨_, rfl⟩
    have hbe2 : (s.toList == []) = be := by rw [← hbe]; cases s.toList <;> rfl
    have t1 : ((-1 : Int) != (s.size : Int)) = true := by rw [bne_iff_ne]; omega
    clear hR hF0 hlen htl hRn
    cases be
    all_goals (
      go_enter Tryz.func70, Tryz.ntmps70
      go_wp2_with fail
      refine (HP.out _).mono ?_
      rintro e w1 ⟨t, u, nx, rfl, hF, e1, -, q2⟩
      obtain rfl := q2 rfl
      obtain ⟨k0, n0, A0, l0, c0, rfl⟩ := hF.three
      have hx1 := (((Ext.refl w).alloc (.cells #[.int .i64 0, .int .i64 0, .slice none 0 0] 45)).trans e1).trans ((Ext.refl w1).alloc (.cells #[.int .i64 k0, .int .i64 n0, .slice A0 l0 c0] 45))
      have hb' := ((Ext.refl w1).alloc (.cells #[.int .i64 k0, .int .i64 n0, .slice A0 l0 c0] 45)).blk e1.newBlk
      obtain ⟨s0, s1, s2, f0, f1, f2⟩ := own3 hb'
      clear hb' q2
      go_wp2_with fail
      exact bodyPost_ret (v := .tuple #[.agg #[.int .i64 0, .int .i64 0, .slice none 0 0], .bool false]) (by simp [results, Tryz.results70, go_sem, s0, s1, s2]) rfl ⟨_, by rw [HR.out]; rfl, by rw [HR.out]; exact From.leaf _ _ _ _, ((hx1.setCell (by simp) _).setCell (by simp) _).setCell (by simp) _⟩)
  | some y =>
    obtain ⟨t, b⟩ := y
    have hRs : R = if s.data.toList ≠ [] ∧ b = s.data.toList.length ∧ fmtV t = s.data.toList then some t else none := by rw [hR]; exact prsV_some hF0.symm
    have hne : s.data.toList ≠ [] := by
      intro h
      rw [h] at hF0
      rw [prs_none (by simp)] at hF0
      cases hF0
    have hbe : s.toList.isEmpty = false := by rw [htl]; cases hq : s.data.toList with | nil => exact absurd hq hne | cons => rfl
    have hbe2 : (s.toList == []) = false := by rw [htl]; cases hq : s.data.toList with | nil => exact absurd hq hne | cons => rfl
    have hbe3 : ¬ (s.toList = []) := by rw [htl]; exact hne
    rw [hlen] at hRs
    by_cases hb : b = s.size
    · obtain ⟨fv, hfv⟩ : ∃ fv, fv = fmtV t := ⟨_, rfl⟩
      rw [← hfv] at hRs
      have HF := Lib.hid (fun W v (h : Lies W t v) => formatTerm_any t W v h)
      rw [← hfv] at HF
      have t1 : ((b : Int) != (s.size : Int)) = false := by simp [hb]
      obtain ⟨bq, hbq⟩ : ∃ bq, ((ofL fv).toList == s.toList) = bq := ⟨_, rfl⟩
      have hRb : R = if bq = true then some t else none := by
        rw [hRs, ← hbq, ofL_tl, htl]
        by_cases hq : fv = s.data.toList
        · rw [if_pos ⟨hne, hb, hq⟩, if_pos (by rw [hq]; simp)]
        · rw [if_neg (fun h => hq h.2.2), if_neg (by simpa using hq)]
      have HR := Lib.hid hRb
      have HFV := Lib.hid hbq
      clear hR hF0 hRs hne htl hfv hRb hlen hb
      go_enter Tryz.func70, Tryz.ntmps70
      go_wp2_with fail
      refine (HP.out _).mono ?_
      rintro e w1 ⟨t', u, nx, rfl, hF, e1, q1, -⟩
      obtain ⟨h1, h2, h3⟩ := q1 _ rfl
      simp only at h1 h2 h3
      subst h1 h2
      obtain ⟨k0, n0, A0, l0, c0, rfl⟩ := hF.three
      have hsz := e1.size_alloc
      have hx1 := (((Ext.refl w).alloc (.cells #[.int .i64 0, .int .i64 0, .slice none 0 0] 45)).trans e1).trans ((Ext.refl w1).alloc (.cells #[.int .i64 k0, .int .i64 n0, .slice A0 l0 c0] 45))
      have hb' := ((Ext.refl w1).alloc (.cells #[.int .i64 k0, .int .i64 n0, .slice A0 l0 c0] 45)).blk e1.newBlk
      have hbT := heap_alloc_new w1 (.cells #[.int .i64 k0, .int .i64 n0, .slice A0 l0 c0] 45)
      have hFT : From (w.heap.size + 1) (w1.alloc (.cells #[.int .i64 k0, .int .i64 n0, .slice A0 l0 c0] 45)) t' (.agg #[.int .i64 k0, .int .i64 n0, .slice A0 l0 c0]) := by simpa using hF.ext ((Ext.refl w1).alloc (.cells #[.int .i64 k0, .int .i64 n0, .slice A0 l0 c0] 45))
      clear hF hsz q1
      go_wp2_with fail
      refine (HF.out _ _ hFT.lies).mono ?_
      rintro e w2 ⟨rfl, e2⟩
      have hx2 := hx1.trans e2
      have hF2 := hFT.ext e2
      obtain ⟨s0, s1, s2, f0, f1, f2⟩ := own3 (e2.blk hb')
      obtain ⟨x0, x1, x2, -, -, -⟩ := own3 (e2.blk hbT)
      have hq := HFV.out
      clear hb' hbT
      cases bq with
      | false =>
        go_wp2_with fail
        exact bodyPost_ret (v := .tuple #[.agg #[.int .i64 0, .int .i64 0, .slice none 0 0], .bool false]) (by simp [results, Tryz.results70, go_sem, s0, s1, s2]) rfl ⟨_, by rw [HR.out]; rfl, by rw [HR.out]; exact From.leaf _ _ _ _, ((hx2.setCell (by simp) _).setCell (by simp) _).setCell (by simp) _⟩
      | true =>
        go_wp2_with fail
        exact bodyPost_ret (v := .tuple #[.agg #[.int .i64 k0, .int .i64 n0, .slice A0 l0 c0], .bool true]) (by simp [results, Tryz.results70, go_sem, s0, s1, s2]) rfl ⟨_, by rw [HR.out]; rfl, by rw [HR.out]; exact (((hF2.set (by simp) _).set (by simp) _).set (by simp) _).since (by omega), ((hx2.setCell (by simp) _).setCell (by simp) _).setCell (by simp) _⟩
    · have hRn : R = none := by rw [hRs, if_neg (fun h => hb h.2.1)]
      have HR := Lib.hid hRn
      have t1 : ((b : Int) != (s.size : Int)) = true := by rw [bne_iff_ne]; omega
      clear hR hF0 hRs hne htl hRn hlen hb
      go_enter Tryz.func70, Tryz.ntmps70
      go_wp2_with fail
      refine (HP.out _).mono ?_
      rintro e w1 ⟨t', u, nx, rfl, hF, e1, q1, -⟩
      obtain ⟨h1, h2, h3⟩ := q1 _ rfl
      simp only at h1 h2 h3
      subst h1 h2
      obtain ⟨k0, n0, A0, l0, c0, rfl⟩ := hF.three
      have hx1 := (((Ext.refl w).alloc (.cells #[.int .i64 0, .int .i64 0, .slice none 0 0] 45)).trans e1).trans ((Ext.refl w1).alloc (.cells #[.int .i64 k0, .int .i64 n0, .slice A0 l0 c0] 45))
      have hb' := ((Ext.refl w1).alloc (.cells #[.int .i64 k0, .int .i64 n0, .slice A0 l0 c0] 45)).blk e1.newBlk
      obtain ⟨s0, s1, s2, f0, f1, f2⟩ := own3 hb'
      clear hb' q1
      go_wp2_with fail
      exact bodyPost_ret (v := .tuple #[.agg #[.int .i64 0, .int .i64 0, .slice none 0 0], .bool false]) (by simp [results, Tryz.results70, go_sem, s0, s1, s2]) rfl ⟨_, by rw [HR.out]; rfl, by rw [HR.out]; exact From.leaf _ _ _ _, ((hx1.setCell (by simp) _).setCell (by simp) _).setCell (by simp) _⟩
end Go.Proofs.YtolkohncmidpeaaGreatDoor
namespace Go.Proofs.YtolkohncmidpeaaGreatDoor
open Go.RowKit
set_option linter.unusedVariables false
attribute [local go_sem ↓] Go.wp_at_zero Go.wp_at_succ
theorem From.only {B : Nat} {w w' : World} {t : Tr} {v : Value} {L : List Nat} (h : From B w t v) (ho : Only L w w') (hL : ∀ b, b ∈ L → b < B) : From B w' t v :=
  h.mono (fun b hb => ⟨hb.1, Nat.lt_of_lt_of_le hb.2 ho.size⟩) (fun b hb => ho.block b hb.2 (fun hm => by have := hL b hm; omega))
theorem Only.setNew {L : List Nat} {a w : World} (h : Only L a w) {p : Addr} (hp : a.heap.size ≤ p.block) (u : Value) : Only L a (w.setCell p u) :=
  ⟨h.os, h.tape, h.output, by simpa using h.size, fun i hi hn => (Below.heap_setCell w p u i (by omega)).trans (h.block i hi hn)⟩
theorem Rd.set {w : World} {g m : Nat} (h : Rd w g m) {p : Addr} (hp : g < p.block) (u : Value) : Rd (w.setCell p u) g m := by
  obtain ⟨A, cap, bs, q, hb, h1, h2, h3, h4, hB⟩ := h
  exact ⟨A, cap, bs, q, blk_setCell_ne hb (by omega) u, h1, h2, h3, h4, hB.below (by simp) (fun b hb _ => Below.heap_setCell w p u b (by omega))⟩
theorem Only.one (w : World) (g i : Nat) (u : Value) : Only [g] w (w.setCell ⟨g, i, none⟩ u) := (Only.refl [g] w).setCell (by simp) u
theorem Rd.under {w w' : World} {g m B : Nat} (h : Rd w g m) (hb : Below B w w') (hB : g < B) : Rd w' g m := by
  obtain ⟨A, cap, bs, q, hk, h1, h2, h3, h4, hy⟩ := h
  exact ⟨A, cap, bs, q, (hb.block g hB).trans hk, h1, h2, h3, h4, hy.below hb.size (fun b hlt _ => hb.block b (by omega))⟩
end Go.Proofs.YtolkohncmidpeaaGreatDoor
namespace Go.Proofs.YtolkohncmidpeaaGreatDoor
open Go.RowKit
set_option linter.unusedVariables false
/-- A definition's six cells, asked for in a later world. -/
theorem LiesK.getD {w w' : World} {A : Option Addr} {ks : List Tr} {j : Nat} (h : LiesK w A ks) (he : Ext w w') (hj : j * 2 + 1 < ks.length) :
    ∃ b o k1 n1 A1 p1 kids1 k2 n2 A2 p2 kids2, A = some ⟨b, o, none⟩ ∧ b < w.heap.size ∧ Hid (ks[j * 2] = .mk k1 n1 kids1) ∧ Hid (ks[j * 2 + 1] = .mk k2 n2 kids2) ∧
      (w'.cell? ⟨b, o + j * 6, none⟩ = some (.int .i64 k1) ∧ w'.cell? ⟨b, o + j * 6 + 1, none⟩ = some (.int .i64 n1) ∧ w'.cell? ⟨b, o + j * 6 + 2, none⟩ = some (.slice A1 kids1.length p1) ∧
      w'.cell? ⟨b, o + j * 6 + 3, none⟩ = some (.int .i64 k2) ∧ w'.cell? ⟨b, o + j * 6 + 4, none⟩ = some (.int .i64 n2) ∧ w'.cell? ⟨b, o + j * 6 + 5, none⟩ = some (.slice A2 kids2.length p2)) ∧
      (kids1.length ≤ p1 ∧ p1 ≤ maxLen ∧ LiesK w' A1 kids1 ∧ Lies w' (.mk k1 n1 kids1) (.agg #[.int .i64 k1, .int .i64 n1, .slice A1 kids1.length p1]) ∧ Tr.mk k1 n1 kids1 ∈ ks) ∧
      (kids2.length ≤ p2 ∧ p2 ≤ maxLen ∧ LiesK w' A2 kids2 ∧ Lies w' (.mk k2 n2 kids2) (.agg #[.int .i64 k2, .int .i64 n2, .slice A2 kids2.length p2]) ∧ Tr.mk k2 n2 kids2 ∈ ks) := by
  obtain ⟨b, o, k1, n1, A1, p1, kids1, rfl, HK1, c0, c1, c2, r1⟩ := h.get (j := j * 2) he (by omega)
  obtain ⟨b', o', k2, n2, A2, p2, kids2, e, HK2, d0, d1, d2, r2⟩ := h.get (j := j * 2 + 1) he hj
  obtain ⟨rfl, rfl⟩ : b = b' ∧ o = o' := by cases e; exact ⟨rfl, rfl⟩
  rw [show o + j * 2 * 3 = o + j * 6 by omega] at c0 c1 c2
  rw [show o + (j * 2 + 1) * 3 = o + j * 6 + 3 by omega] at d0 d1 d2
  have hb : b < w.heap.size := by
    rcases h with h | ⟨b', o', e, hb, -⟩
    · rw [h] at hj; simp at hj
    · cases e; exact hb
  exact ⟨b, o, k1, n1, A1, p1, kids1, k2, n2, A2, p2, kids2, rfl, hb, HK1, HK2, ⟨c0, c1, c2, d0, d1, d2⟩, r1, r2⟩
end Go.Proofs.YtolkohncmidpeaaGreatDoor
namespace Go.Proofs.YtolkohncmidpeaaGreatDoor
open Go.RowKit
set_option linter.unusedVariables false
theorem OwnL.append {w : World} {e : TypeId} {ys : List Value} {ts : List Tr} {M : List Nat} (ht : OwnL w e ys ts M) : ∀ {xs : List Value} {ks : List Tr} {L : List Nat}, xs.length = ks.length * 3 → OwnL w e xs ks L → OwnL w e (xs ++ ys) (ks ++ ts) (L ++ M)
  | xs, [], L, hx, h => by
    have hx0 : xs = [] := List.eq_nil_of_length_eq_zero (by simpa using hx)
    subst hx0
    unfold OwnL at h
    subst h
    simpa using ht
  | xs, x :: ks, L, hx, h => by
    obtain ⟨u0, u1, u2, rest, L1, L2, rfl, h1, h2, rfl⟩ := OwnL.cons_iff.1 h
    exact OwnL.cons_iff.2 ⟨u0, u1, u2, _, L1, L2 ++ M, rfl, h1, OwnL.append ht (by simp only [List.length_cons] at hx; omega) h2, by simp⟩
/-- The cells of some trees, in a row or not, made between two worlds. -/
def MadeL (w w' : World) (e : TypeId) (xs : List Value) (ks : List Tr) : Prop := ∃ L, OwnL w' e xs ks L ∧ Fresh w w' L
theorem MadeL.two {a b c d : World} {e : TypeId} {t1 t2 : Tr} {x0 x1 x2 y0 y1 y2 : Value} (h1 : Made a b e t1 (.agg #[x0, x1, x2])) (h2 : Made c d e t2 (.agg #[y0, y1, y2])) (hbc : Ext b c) (hab : a.heap.size ≤ b.heap.size) (hcd : Ext c d) : MadeL a d e [x0, x1, x2, y0, y1, y2] [t1, t2] := by
  obtain ⟨L, h1, f1⟩ := h1
  obtain ⟨M, h2, f2⟩ := h2
  exact ⟨L ++ (M ++ []), OwnL.cons_iff.2 ⟨x0, x1, x2, [y0, y1, y2], L, M ++ [], rfl, h1.mono (fun b hb => (hbc.trans hcd).heap b (f1.2 b hb).2), OwnL.cons_iff.2 ⟨y0, y1, y2, [], M, [], rfl, h2, OwnL.nil, rfl⟩, rfl⟩, by simpa using f1.append f2 hbc.size hab hcd.size⟩
theorem MadeL.after {W w1 w3 : World} {e : TypeId} {xs : List Value} {ks : List Tr} (h : MadeL W w1 e xs ks) (ha : Above W.heap.size w1 w3) : MadeL W w3 e xs ks := by
  obtain ⟨L, h, hf⟩ := h
  exact ⟨L, h.mono fun b hb => ha.1 b (hf.2 b hb).1, hf.mono (Nat.le_refl _) ha.2⟩
theorem MadeL.since {a w w' : World} {e : TypeId} {xs : List Value} {ks : List Tr} (h : MadeL w w' e xs ks) (ha : a.heap.size ≤ w.heap.size) : MadeL a w' e xs ks := by
  obtain ⟨L, h, hf⟩ := h
  exact ⟨L, h, hf.mono ha (Nat.le_refl _)⟩
def OwnD (w : World) (e eT : TypeId) (A : Option Addr) (ks : List Tr) (L : List Nat) : Prop :=
  (ks = [] ∧ L = []) ∨ ∃ b cs L', A = some ⟨b, 0, none⟩ ∧ w.heap[b]? = some (.cells cs e (0, 0)) ∧ L = b :: L' ∧ OwnL w eT cs.toList ks L'
/-- A slice of definitions that was made between w and w'. -/
def MadeD (w w' : World) (e eT : TypeId) (A : Option Addr) (ks : List Tr) : Prop := ∃ L, OwnD w' e eT A ks L ∧ Fresh w w' L
theorem OwnL.inL' {w : World} {e e' : TypeId} {b : Nat} {cs : Array Value} {S : Nat → Prop} (hb : w.heap[b]? = some (.cells cs e' (0, 0))) : ∀ {xs pre : List Value} {ks : List Tr} {L : List Nat}, OwnL w e xs ks L → cs.toList = pre ++ xs → (∀ x, x ∈ L → S x) → InL w S b pre.length ks
  | _, _, [], _, _, _, _ => by unfold InL; trivial
  | xs, pre, t :: ts, L, h, he, hS => by
    obtain ⟨v0, v1, v2, rest, L1, L2, rfl, h1, h2, rfl⟩ := OwnL.cons_iff.1 h
    unfold InL
    have hc : ∀ i, w.cell? ⟨b, i, none⟩ = cs.toList[i]? := fun i => by rw [cell_of_blk hb]; simp
    refine ⟨⟨v0, v1, v2, ?_, ?_, ?_, InT.mono (fun x hx => hS x (by simp [hx])) (fun _ _ => rfl) (OwnT.inT h1)⟩, ?_⟩
    · rw [hc, he, List.getElem?_append_right (Nat.le_refl _)]; simp
    · rw [hc, he, List.getElem?_append_right (by omega)]; simp
    · rw [hc, he, List.getElem?_append_right (by omega)]; simp
    · have := OwnL.inL' hb (pre := pre ++ [v0, v1, v2]) h2 (by simp [he]) (fun x hx => hS x (by simp [hx]))
      simpa using this
theorem MadeD.lies {w w' : World} {e eT : TypeId} {A : Option Addr} {ks : List Tr} (h : MadeD w w' e eT A ks) : LiesK w' A ks := by
  obtain ⟨L, h, hf⟩ := h
  rcases h with ⟨rfl, _⟩ | ⟨b, cs, L', rfl, hb, rfl, hl⟩
  · exact .inl rfl
  · exact .inr ⟨b, 0, rfl, (hf.2 b (by simp)).2, OwnL.inL' hb (pre := []) hl rfl (fun x hx => (hf.2 x (by simp [hx])).2)⟩
theorem OwnD.mono {w w' : World} {e eT : TypeId} {A : Option Addr} {ks : List Tr} {L : List Nat} (h : OwnD w e eT A ks L) (hw : ∀ b, b ∈ L → w'.heap[b]? = w.heap[b]?) : OwnD w' e eT A ks L := by
  rcases h with h | ⟨b, cs, L', rfl, hb, rfl, hl⟩
  · exact .inl h
  · exact .inr ⟨b, cs, L', rfl, (hw b (by simp)).trans hb, rfl, hl.mono (fun x hx => hw x (by simp [hx]))⟩
theorem MadeD.ext {w w' w2 : World} {e eT : TypeId} {A : Option Addr} {ks : List Tr} (h : MadeD w w' e eT A ks) (he : Ext w' w2) : MadeD w w2 e eT A ks := by
  obtain ⟨L, h, hf⟩ := h
  refine ⟨L, ?_, hf.mono (Nat.le_refl _) he.size⟩
  rcases h with h | ⟨b, cs, L', rfl, hb, rfl, hl⟩
  · exact .inl h
  · exact .inr ⟨b, cs, L', rfl, he.blk hb, rfl, hl.mono (fun x hx => he.heap x (hf.2 x (by simp [hx])).2)⟩
theorem MadeD.row {w w1 w' : World} {e eT : TypeId} {g : Nat} {cs : Array Value} {ks : List Tr} {L : List Nat} (hb : w'.heap[g]? = some (.cells cs e (0, 0))) (hl : OwnL w' eT cs.toList ks L) (hf : Fresh w1 w' L) (hg : w.heap.size ≤ g) (hg1 : g < w1.heap.size) : MadeD w w' e eT (some ⟨g, 0, none⟩) ks := by
  refine ⟨g :: L, .inr ⟨g, cs, L, rfl, hb, rfl, hl⟩, List.nodup_cons.2 ⟨fun hm => ?_, hf.1⟩, fun b hm => ?_⟩
  · have := hf.2 g hm
    omega
  · rcases List.mem_cons.1 hm with rfl | hm
    · exact ⟨hg, lt_of_blk hb⟩
    · have := hf.2 b hm
      omega
end Go.Proofs.YtolkohncmidpeaaGreatDoor

/-
  Lemmas towards the law, 16: Parse6.
-/
import Derived.Test.YtolkohncmidpeaaGreatDoorGAO
namespace Go.Proofs.YtolkohncmidpeaaGreatDoor
open Go.RowKit
set_option linter.unusedVariables false
set_option maxRecDepth 100000 in
set_option maxHeartbeats 2000000 in
theorem parse_91 (d : Nat) (hd : d ≤ 30) (ih : ParseC d) (s : ByteArray) (a : Nat) (w : World) (hs : s.size ≤ 1000000000) (ha : a < s.size) (hc : s[a] = 91) :
    Calls Tryz.prog 93 #[.string s, .int .i64 a, .int .i64 ((d : Int) + 1)] w (ParseQ w.heap.size w s.size (prs (d + 1) s.data.toList a)) := by
  have hR0 : prs (d + 1) s.data.toList a = sqr (prs d s.data.toList) s.data.toList (a + 1) := by rw [prs_at (at_eq ha hc)]; rfl
  rw [hR0]
  clear hR0
  have HI := Lib.hid (fun (a : Nat) (A : Int) (hA : A = a) W (ha : a ≤ s.size + 2) => (show Calls Tryz.prog 93 #[.string s, .int .i64 A, .int .i64 d] W (ParseQ W.heap.size W s.size (prs d s.data.toList a)) from by subst hA; exact ih s a W hs ha))
  obtain ⟨F, hF⟩ : ∃ F, F = prs d s.data.toList := ⟨_, rfl⟩
  rw [← hF] at HI ⊢
  have hdef : sqr F s.data.toList (a + 1) = match F (a + 1) with
    | none => none
    | some (x, b) => if s.data.toList[b]? = some 93 then (match F (b + 1) with | none => none | some (y, c) => some (.mk 4 0 [x, y], c)) else none := rfl
  obtain ⟨R, hR⟩ : ∃ R, R = sqr F s.data.toList (a + 1) := ⟨_, rfl⟩
  rw [← hR] at hdef ⊢
  have HD := Lib.hid hdef
  clear hR ih hF hdef
  go_enter Tryz.func93, Tryz.ntmps93
  go_wp2_with fail
  refine (HI.out (a + 1) _ (by omega) _ (by omega)).mono ?_
  rintro e w1 ⟨t, u, nx, rfl, hF, e1, q1, q2⟩
  obtain ⟨k0, n0, A0, l0, c0, rfl⟩ := hF.three
  have hb := e1.newBlk
  have hsz := e1.size_alloc
  have hx0 := ((Ext.refl w).alloc (.cells #[.int .i64 0, .int .i64 0, .slice none 0 0] 45)).trans e1
  have hx1 := hx0.trans ((Ext.refl w1).alloc (.cells #[.int .i64 k0, .int .i64 n0, .slice A0 l0 c0] 45))
  have hF1 := hF.ext ((Ext.refl w1).alloc (.cells #[.int .i64 k0, .int .i64 n0, .slice A0 l0 c0] 45))
  simp only [World.size_alloc] at hF1
  have hb' := ((Ext.refl w1).alloc (.cells #[.int .i64 k0, .int .i64 n0, .slice A0 l0 c0] 45)).blk hb
  have hbA := heap_alloc_new w1 (.cells #[.int .i64 k0, .int .i64 n0, .slice A0 l0 c0] 45)
  cases hFa : F (a + 1) with
  | none =>
    obtain rfl := q2 hFa
    have hRn := HD.out
    rw [hFa] at hRn
    have HR := Lib.hid hRn
    obtain ⟨s0, s1, s2, f0, f1, f2⟩ := own3 hb'
    clear q1 q2 hRn hFa hsz
    go_wp2_with fail
    exact bodyPost_ret (v := .tuple #[.agg #[.int .i64 0, .int .i64 0, .slice none 0 0], .int .i64 (-1)]) (by simp [results, Tryz.results93, go_sem, s0, s1, s2]) rfl (bodyBad _ _ _ _ _ HR.out (((hx1.setCell (by simp) _).setCell (by simp) _).setCell (by simp) _))
  | some y =>
    obtain ⟨x, b⟩ := y
    obtain ⟨h1, h2, h3⟩ := q1 _ hFa
    simp only at h1 h2 h3
    have hRs := HD.out
    rw [hFa] at hRs
    simp only at hRs
    subst h1 h2
    clear q1 q2 hFa
    have t0 : decide ((b : Int) < 0) = false := decide_eq_false (by omega)
    by_cases hlt : b < s.size
    · obtain ⟨c, hcc⟩ : ∃ c, s[b] = c := ⟨_, rfl⟩
      rw [at_eq hlt hcc] at hRs
      have hbz : (b : Int) < (s.size : Int) := by omega
      have t1 : decide ((s.size : Int) ≤ (b : Int)) = false := decide_eq_false (by omega)
      obtain ⟨m, hm⟩ : ∃ m, c.toNat = m := ⟨_, rfl⟩
      by_cases h93 : c = 93
      · have hm93 : m = 93 := by rw [← hm, h93]; rfl
        rw [if_pos (by rw [h93])] at hRs
        subst hm93
        have HRS := Lib.hid hRs
        clear hRs h93
        go_wp2_with fail
        refine (HI.out (b + 1) _ (by omega) _ (by omega)).mono ?_
        rintro e w2 ⟨t', u', nx', rfl, hF', e2, q1, q2⟩
        obtain ⟨k1, n1, A1, l1, c1, rfl⟩ := hF'.three
        have hs2 := e2.size_alloc
        have hxa := e2.trans ((Ext.refl w2).alloc (.cells #[.int .i64 k1, .int .i64 n1, .slice A1 l1 c1] 45))
        have hb2 := hxa.blk hb'
        have hbA2 := hxa.blk hbA
        have hbB := heap_alloc_new w2 (.cells #[.int .i64 k1, .int .i64 n1, .slice A1 l1 c1] 45)
        obtain ⟨x0, x1, x2, -, -, -⟩ := own3 hbA2
        have hx2 := hx1.trans hxa
        have hF2 := hF1.ext hxa
        have hF2' := (hF'.ext ((Ext.refl w2).alloc (.cells #[.int .i64 k1, .int .i64 n1, .slice A1 l1 c1] 45))).since (show w.heap.size + 1 ≤ _ by simp; omega)
        have HQ1 := Lib.hid q1
        have HQ2 := Lib.hid q2
        clear q1 q2 hs2
        go_wp2_with fail
        refine (l1Node_from (w.heap.size + 1) _ 4 _ 2 [t, t'] (by intro h; cases h) (FromK.two (g := w2.heap.size + 1) (e := 45) hF2 hF2' (by have := e2.size_alloc; simp; omega) (by simp)) (by have := e2.size_alloc; simp; omega) (by simp)).mono ?_
        rintro e w3 ⟨v, rfl, hN, e3⟩
        obtain ⟨k3, n3, A3, l3, c3, rfl⟩ := hN.three
        obtain ⟨z0, z1, z2, g0, g1, g2⟩ := own3 (e3.blk (((Ext.refl _).alloc _).blk hb2))
        have hx3 := hx2.trans (((Ext.refl _).alloc _).trans e3)
        clear x0 x1 x2
        go_wp2_with fail
        refine bodyPost_ret (v := .tuple #[.agg #[.int .i64 k3, .int .i64 n3, .slice A3 l3 c3], .int .i64 nx']) (by simp [results, Tryz.results93, go_sem, z0, z1, z2]) rfl ⟨_, _, _, rfl, (((hN.set (by simp) _).set (by simp) _).set (by simp) _).since (by omega), ((hx3.setCell (by simp) _).setCell (by simp) _).setCell (by simp) _, ?_, ?_⟩
        · intro x hx
          rw [HRS.out] at hx
          cases hFb : F (b + 1) with
          | none => rw [hFb] at hx; cases hx
          | some y2 =>
            rw [hFb] at hx
            cases hx
            obtain ⟨g1, g2, g3⟩ := HQ1.out _ hFb
            exact ⟨by rw [g1], g2, g3⟩
        · intro hx
          rw [HRS.out] at hx
          cases hFb : F (b + 1) with
          | none => exact HQ2.out hFb
          | some y2 => rw [hFb] at hx; cases hx
      · rw [if_neg (by intro h; cases h; exact h93 rfl)] at hRs
        have HR := Lib.hid hRs
        have t7 : ((m : Int) != 93) = true := by rw [bne_iff_ne]; intro h; exact h93 (UInt8.toNat_inj.1 (by rw [hm]; simp; omega))
        obtain ⟨s0, s1, s2, f0, f1, f2⟩ := own3 hb'
        clear hRs h93 hsz
        go_wp2_with fail
        exact bodyPost_ret (v := .tuple #[.agg #[.int .i64 0, .int .i64 0, .slice none 0 0], .int .i64 (-1)]) (by simp [results, Tryz.results93, go_sem, s0, s1, s2]) rfl (bodyBad _ _ _ _ _ HR.out (((hx1.setCell (by simp) _).setCell (by simp) _).setCell (by simp) _))
    · rw [at_none s (by omega), if_neg (by simp)] at hRs
      have HR := Lib.hid hRs
      have t1 : decide ((s.size : Int) ≤ (b : Int)) = true := decide_eq_true (by omega)
      obtain ⟨s0, s1, s2, f0, f1, f2⟩ := own3 hb'
      clear hRs hsz
      go_wp2_with fail
      exact bodyPost_ret (v := .tuple #[.agg #[.int .i64 0, .int .i64 0, .slice none 0 0], .int .i64 (-1)]) (by simp [results, Tryz.results93, go_sem, s0, s1, s2]) rfl (bodyBad _ _ _ _ _ HR.out (((hx1.setCell (by simp) _).setCell (by simp) _).setCell (by simp) _))
theorem byte_ne {c : UInt8} {p : Nat} {v : UInt8} (hp : c.toNat = p) (h : c ≠ v) : ((p : Int) == (v.toNat : Int)) = false := by
  rw [beq_eq_false_iff_ne]
  intro e
  exact h (UInt8.toNat_inj.1 (by rw [hp]; omega))
set_option maxRecDepth 100000 in
set_option maxHeartbeats 1000000 in
theorem parse_no (d : Nat) (hd : d ≤ 30) (s : ByteArray) (a : Nat) (w : World) (hs : s.size ≤ 1000000000) (ha : a < s.size) (c : UInt8) (hc : s[a] = c)
    (h1 : c ≠ 35) (h2 : c ≠ 42) (h3 : c ≠ 78) (h4 : c ≠ 48) (h5 : c ≠ 43) (h6 : c ≠ 33) (h7 : c ≠ 94) (h8 : c ≠ 95) (h9 : c ≠ 40) (h10 : c ≠ 91) (hk : blkK c = 0) :
    Calls Tryz.prog 93 #[.string s, .int .i64 a, .int .i64 ((d : Int) + 1)] w (ParseQ w.heap.size w s.size (prs (d + 1) s.data.toList a)) := by
  have HI := Lib.hid (fun W => block_no d hd s a W hs ha c hc hk)
  have hR := prs_at (d := d) (at_eq ha hc)
  rw [if_neg h1, if_neg h2, if_neg h3, if_neg h4, if_neg h5, if_neg h6, if_neg h7, if_neg h8, if_neg h9, if_neg h10] at hR
  rw [hR]
  obtain ⟨p, hp⟩ : ∃ p, c.toNat = p := ⟨_, rfl⟩
  have t1 : ((p : Int) == 35) = false := byte_ne hp h1
  have t2 : ((p : Int) == 42) = false := byte_ne hp h2
  have t3 : ((p : Int) == 78) = false := byte_ne hp h3
  have t4 : ((p : Int) == 48) = false := byte_ne hp h4
  have t5 : ((p : Int) == 43) = false := byte_ne hp h5
  have t6 : ((p : Int) == 33) = false := byte_ne hp h6
  have t7 : ((p : Int) == 94) = false := byte_ne hp h7
  have t8 : ((p : Int) == 95) = false := byte_ne hp h8
  have t9 : ((p : Int) == 40) = false := byte_ne hp h9
  have t10 : ((p : Int) == 91) = false := byte_ne hp h10
  clear hR h1 h2 h3 h4 h5 h6 h7 h8 h9 h10 hk
  go_enter Tryz.func93, Tryz.ntmps93
  go_wp2_with fail
  refine (HI.out _).mono ?_
  intro e w1 hq
  obtain ⟨t, k1, n1, A1, l1, c1, nx, rfl, hF, e1, HQ⟩ := hq.on
  obtain ⟨s0, s1, s2, f0, f1, f2⟩ := own3 e1.newBlk
  have hsz := e1.size_alloc
  have hE := ((Ext.refl w).alloc (.cells #[.int .i64 0, .int .i64 0, .slice none 0 0] 45)).trans e1
  have hF' : From (w.heap.size + 1) w1 t (.agg #[.int .i64 k1, .int .i64 n1, .slice A1 l1 c1]) := by simpa using hF
  clear hq hF
  go_wp2_with fail
  exact bodyPost_ret (v := .tuple #[.agg #[.int .i64 k1, .int .i64 n1, .slice A1 l1 c1], .int .i64 nx]) (by simp [results, Tryz.results93, go_sem, s0, s1, s2]) rfl ⟨t, _, nx, rfl, (((hF'.set (by simp) _).set (by simp) _).set (by simp) _).since (by omega), ((hE.setCell (by simp) _).setCell (by simp) _).setCell (by simp) _, HQ.out.1, HQ.out.2⟩
set_option maxRecDepth 100000 in
theorem parse_zero (s : ByteArray) (a : Nat) (w : World) : Calls Tryz.prog 93 #[.string s, .int .i64 a, .int .i64 0] w (ParseQ w.heap.size w s.size none) := by
  go_enter Tryz.func93, Tryz.ntmps93
  go_wp2_with fail
  exact bodyPost_ret (v := .tuple #[.agg #[.int .i64 0, .int .i64 0, .slice none 0 0], .int .i64 (-1)]) (by simp [results, Tryz.results93, go_sem]) rfl (bodyBad _ _ _ _ _ rfl ((Ext.refl w).alloc _))
set_option maxRecDepth 100000 in
theorem parse_far (d : Nat) (hd : d ≤ 30) (s : ByteArray) (a : Nat) (w : World) (hs : s.size ≤ 1000000000) (ha : s.size ≤ a) : Calls Tryz.prog 93 #[.string s, .int .i64 a, .int .i64 ((d : Int) + 1)] w (ParseQ w.heap.size w s.size none) := by
  have t0 : decide ((a : Int) < 0) = false := decide_eq_false (by omega)
  have t1 : decide ((s.size : Int) ≤ (a : Int)) = true := decide_eq_true (by omega)
  go_enter Tryz.func93, Tryz.ntmps93
  go_wp2_with fail
  exact bodyPost_ret (v := .tuple #[.agg #[.int .i64 0, .int .i64 0, .slice none 0 0], .int .i64 (-1)]) (by simp [results, Tryz.results93, go_sem]) rfl (bodyBad _ _ _ _ _ rfl ((Ext.refl w).alloc _))
theorem parse_any : ∀ d : Nat, d ≤ 30 → ParseC d
  | 0, _ => fun s a w hs ha => parse_zero s a w
  | d + 1, hd => by
    have ih := parse_any d (by omega)
    intro s a w hs ha
    rw [show ((d + 1 : Nat) : Int) = (d : Int) + 1 by omega]
    have hd' : d ≤ 30 := by omega
    rcases Nat.lt_or_ge a s.size with hlt | hge
    · obtain ⟨c, hc⟩ : ∃ c, s[a] = c := ⟨_, rfl⟩
      by_cases h35 : c = 35
      · exact parse_35 d hd' s a w hs hlt (by rw [hc, h35])
      by_cases h42 : c = 42
      · exact parse_42 d hd' s a w hs hlt (by rw [hc, h42])
      by_cases h78 : c = 78
      · exact parse_78 d hd' s a w hs hlt (by rw [hc, h78])
      by_cases h48 : c = 48
      · exact parse_48 d hd' s a w hs hlt (by rw [hc, h48])
      by_cases h43 : c = 43
      · exact parse_43 d hd' ih s a w hs hlt (by rw [hc, h43])
      by_cases h33 : c = 33
      · exact parse_33 d hd' ih s a w hs hlt (by rw [hc, h33])
      by_cases h94 : c = 94
      · exact parse_94 d hd' ih s a w hs hlt (by rw [hc, h94])
      by_cases h95 : c = 95
      · exact parse_95 d hd' ih s a w hs hlt (by rw [hc, h95])
      by_cases h40 : c = 40
      · exact parse_40 d hd' ih s a w hs hlt (by rw [hc, h40])
      by_cases h91 : c = 91
      · exact parse_91 d hd' ih s a w hs hlt (by rw [hc, h91])
      by_cases h60 : c = 60
      · exact parse_60 d hd' ih s a w hs hlt (by rw [hc, h60])
      by_cases h123 : c = 123
      · exact parse_123 d hd' ih s a w hs hlt (by rw [hc, h123])
      by_cases h124 : c = 124
      · exact parse_124 d hd' ih s a w hs hlt (by rw [hc, h124])
      by_cases h64 : c = 64
      · exact parse_64 d hd' ih s a w hs hlt (by rw [hc, h64])
      exact parse_no d hd' s a w hs hlt c hc h35 h42 h78 h48 h43 h33 h94 h95 h40 h91 (by unfold blkK; rw [if_neg h60, if_neg h123, if_neg h124, if_neg h64])
    · rw [prs_none (at_none s hge)]
      exact parse_far d hd' s a w hs hge
end Go.Proofs.YtolkohncmidpeaaGreatDoor

/-
  Lemmas towards the law, 15: Parse3, Parse4.
-/
import Derived.Test.YtolkohncmidpeaaGreatDoorHAI
namespace Go.Proofs.YtolkohncmidpeaaGreatDoor
open Go.RowKit
set_option linter.unusedVariables false
/-- What the reader of a series hands back. -/
def SerQ (B : Nat) (w : World) (size : Nat) (o : Option (List Tr × Nat)) (e : Ending) (w' : World) : Prop :=
  ∃ (ts : List Tr) (A : Option Addr) (cap : Nat) (nx : Int), e = .returned (.tuple #[.slice A ts.length cap, .int .i64 nx]) ∧ ts.length ≤ cap ∧ cap ≤ maxLen ∧ FromK B w' A ts ∧ Ext w w' ∧ (∀ x, o = some x → ts = x.1 ∧ nx = x.2 ∧ x.2 ≤ size) ∧ (o = none → nx = -1)
theorem infoTermS : (Tryz.prog.info? 45).map (fun i => (i.zero, i.size, i.bytes)) = some (some (.agg #[.int .i64 0, .int .i64 0, .slice none 0 0]), 3, 40) := by kernel_rfl
theorem ser_step {p : Nat → Option (Tr × Nat)} {l : List UInt8} {last : UInt8} {m a b : Nat} {t : Tr} (h : p a = some (t, b)) : ser p l last (m + 1) a = if l[b]? = some (if m = 0 then last else 44) then (ser p l last m (b + 1)).map (fun x => (t :: x.1, x.2)) else none := by
  conv => lhs; unfold ser
  rw [h]
theorem ser_fail {p : Nat → Option (Tr × Nat)} {l : List UInt8} {last : UInt8} {m a : Nat} (h : p a = none) : ser p l last (m + 1) a = none := by
  conv => lhs; unfold ser
  rw [h]
set_option maxRecDepth 100000 in
set_option maxHeartbeats 4000000 in
theorem series_any (d : Nat) (ih : ParseC d) (s : ByteArray) (a many : Nat) (last : UInt8) (w : World) (hs : s.size ≤ 1000000000) (ha : a ≤ s.size + 2) (hm : many ≤ 4) (hm1 : 1 ≤ many) :
    Calls Tryz.prog 160 #[.string s, .int .i64 a, .int .i64 d, .int .i64 many, .int .u8 (last.toNat : Int)] w (SerQ w.heap.size w s.size (ser (prs d s.data.toList) s.data.toList last many a)) := by
  have HI := Lib.hid (fun a W (ha : a ≤ s.size + 2) => ih s a W hs ha)
  obtain ⟨F, hF⟩ : ∃ F, F = prs d s.data.toList := ⟨_, rfl⟩
  rw [← hF] at HI ⊢
  obtain ⟨R, hR⟩ : ∃ R, R = ser F s.data.toList last many a := ⟨_, rfl⟩
  rw [← hR]
  have HR := Lib.hid hR
  obtain ⟨i0, hi, hz0, hz1, hz2⟩ := info_parts infoTermS
  obtain ⟨q, hq⟩ : ∃ q, last.toNat = q := ⟨_, rfl⟩
  rw [hq]
  have HLQ := Lib.hid hq
  clear hR ih hF hq
  go_enter Tryz.func160, Tryz.ntmps160
  go_wp2_with fail
  have hx0 := (Ext.refl w).alloc (.cells #[] 45)
  have hb0 := heap_alloc_new w (.cells #[] 45)
  have hs0 : w.heap.size < (w.alloc (.cells #[] 45)).heap.size := by simp
  generalize World.alloc w _ = w1 at hx0 hb0 hs0
  go_loopw [1, 12, 13] (fun at_ o i wr => ∃ (j a' : Nat) (ts : List Tr), j ≤ many ∧ at_ = .int .i64 a' ∧ i = .int .i64 j ∧ a' ≤ s.size + 2 ∧ GrowS (· < w.heap.size) w wr 45 o ts ∧ ts.length = j ∧ Ext w wr ∧ w.heap.size < wr.heap.size ∧ R = (ser F s.data.toList last (many - j) a').map (fun x => (ts ++ x.1, x.2)) ∧ (j = many → a' ≤ s.size)) (fun _ _ i _ => many - (intOf i).toNat)
  case atStart => exact ⟨0, a, [], Nat.zero_le _, rfl, rfl, ha, GrowS.lit hb0 (Nat.le_refl _), rfl, hx0, hs0, by rw [HR.out]; simp, by omega⟩
  case round =>
    obtain ⟨j, a', ts, hj, rfl, rfl, ha', hG, htl, hx, hsz, heq, hend⟩ := hrel
    have HE := Lib.hid heq
    have HTL := Lib.hid htl
    have htl4 : ts.length ≤ 4 := by omega
    clear htl
    obtain ⟨Bo, co, rfl, hl1, hl2, hKo, -⟩ := hG.lies (fun b hb => hb)
    clear heq
    by_cases hlt : j < many
    · have hjz : (j : Int) < (many : Int) := by omega
      have HND := Lib.hid hend
      clear hend
      go_wp2_with fail
      refine (HI.out a' wr ha').mono ?_
      rintro e w2 ⟨t, u, nx, rfl, hF, e2, q1, q2⟩
      obtain ⟨k0, n0, A0, l0, c0, rfl⟩ := hF.three
      have hs2 := e2.size
      have hxa := e2.trans ((Ext.refl w2).alloc (.cells #[.int .i64 k0, .int .i64 n0, .slice A0 l0 c0] 45))
      cases hFa : F a' with
      | none =>
        obtain rfl := q2 hFa
        have hRn : R = none := by
          rw [HE.out, show many - j = (many - j - 1) + 1 by omega, ser_fail hFa]
          rfl
        have HRn := Lib.hid hRn
        clear q1 q2 hRn hFa
        go_wp2_with fail
        go_ret2
        exact ⟨[], none, 0, -1, rfl, Nat.le_refl _, Nat.zero_le _, .inl rfl, hx.trans hxa, (fun x hx => by rw [HRn.out] at hx; cases hx), fun _ => rfl⟩
      | some y =>
        obtain ⟨t', b⟩ := y
        obtain ⟨h1, h2, h3⟩ := q1 _ hFa
        simp only at h1 h2 h3
        subst h1 h2
        have hst := HE.out
        rw [show many - j = (many - (j + 1)) + 1 by omega, ser_step hFa] at hst
        clear q1 q2 hFa
        have t0 : decide ((b : Int) < 0) = false := decide_eq_false (by omega)
        by_cases hlb : b < s.size
        · obtain ⟨c, hc⟩ : ∃ c, s[b] = c := ⟨_, rfl⟩
          rw [at_eq hlb hc] at hst
          have hbz : (b : Int) < (s.size : Int) := by omega
          have t1 : decide ((s.size : Int) ≤ (b : Int)) = false := decide_eq_false (by omega)
          obtain ⟨p, hp⟩ : ∃ p, c.toNat = p := ⟨_, rfl⟩
          obtain ⟨want, hw⟩ : ∃ want : UInt8, want = if many - (j + 1) = 0 then last else 44 := ⟨_, rfl⟩
          rw [← hw] at hst
          by_cases hcw : c = want
          · rw [if_pos (by rw [hcw])] at hst
            have HST := Lib.hid hst
            have hG2 := hG.ext hxa
            have hlitG : ∀ o', GrowS (· < w.heap.size) w (w2.alloc (.cells #[.int .i64 k0, .int .i64 n0, .slice A0 l0 c0] 45)) 45 o' ts → True := fun _ _ => trivial
            have hown : ∀ g, (Value.slice Bo ts.length co).ownBlock = some g → g < wr.heap.size := by
              obtain ⟨xs, g1, -⟩ := hG
              exact fun g hg => (g1.lt g hg).2
            have HOWN := Lib.hid hown
            have hFx := (hF.ext ((Ext.refl w2).alloc (.cells #[.int .i64 k0, .int .i64 n0, .slice A0 l0 c0] 45))).ext ((Ext.refl _).alloc (.cells #[.int .i64 k0, .int .i64 n0, .slice A0 l0 c0] 45))
            have hGx := hG2.ext ((Ext.refl _).alloc (.cells #[.int .i64 k0, .int .i64 n0, .slice A0 l0 c0] 45))
            have hbz2 := heap_alloc_new (w2.alloc (.cells #[.int .i64 k0, .int .i64 n0, .slice A0 l0 c0] 45)) (.cells #[.int .i64 k0, .int .i64 n0, .slice A0 l0 c0] 45)
            simp only [World.size_alloc] at hbz2
            have hT : InT ((w2.alloc (.cells #[.int .i64 k0, .int .i64 n0, .slice A0 l0 c0] 45)).alloc (.cells #[.int .i64 k0, .int .i64 n0, .slice A0 l0 c0] 45)) (fun b => b < ((w2.alloc (.cells #[.int .i64 k0, .int .i64 n0, .slice A0 l0 c0] 45)).alloc (.cells #[.int .i64 k0, .int .i64 n0, .slice A0 l0 c0] 45)).heap.size ∧ (Value.slice Bo ts.length co).ownBlock ≠ some b ∧ ¬ (b < w.heap.size)) t (.agg #[.int .i64 k0, .int .i64 n0, .slice A0 l0 c0]) := hFx.mono (fun b hb => ⟨hb.2, fun h => by have := HOWN.out b h; omega, by omega⟩) (fun _ _ => rfl)
            have HT := Lib.hid hT
            have HGX := Lib.hid hGx
            have HW := Lib.hid hw
            clear hst hw hG hG2 hT hFx hF hown hGx hlitG hKo
            have hfin : (j + 1 < many ∧ p = 44 ∧ ((j : Int) + 1 == (many : Int)) = false) ∨ (many ≤ j + 1 ∧ p = q ∧ ((j : Int) + 1 == (many : Int)) = true) := by
              rcases Nat.lt_or_ge (j + 1) many with g | g
              · refine .inl ⟨g, ?_, by rw [beq_eq_false_iff_ne]; omega⟩
                have := hcw
                rw [HW.out, if_neg (by omega)] at this
                rw [← hp, this]; rfl
              · refine .inr ⟨g, ?_, by rw [beq_iff_eq]; omega⟩
                have := hcw
                rw [HW.out, if_pos (by omega)] at this
                rw [← hp, this, HLQ.out]
            clear hcw
            rcases hfin with ⟨g1, rfl, g3⟩ | ⟨g1, rfl, g3⟩
            all_goals (
              have gz : (j : Int) + 1 < (many : Int) ∨ (many : Int) ≤ (j : Int) + 1 := by omega
              have gd : decide ((j : Int) + 1 < (many : Int)) = decide (j + 1 < many) := decide_eq_decide.2 (by omega)
              clear gz)
            all_goals (
              have h44 : ((44 : Int) != 44) = false := by decide
              go_wp2_with (at_builtin; refine wpList_append_treeS _ rfl (.tmp 62) (.tmp 64) _ (by rfl) 45 i0 _ Tryz.underlying43 hi hz0 hz1 hz2 rfl (by rfl) (X := (· < w.heap.size)) (W := w) (tr := t) HGX.out (by simp; omega) HT.out (by rfl) hbz2 (by omega) ?_ (fun b hb => hb))
              intro v' w5 hG5 hB5
              obtain ⟨B5, c5, rfl, r1, r2, -, -⟩ := hG5.lies (fun b hb => hb)
              have hx5 : Ext w w5 := Below.trans (hx.trans (hxa.trans ((Ext.refl _).alloc (.cells #[.int .i64 k0, .int .i64 n0, .slice A0 l0 c0] 45)))) hB5
              have hs5 := hB5.size
              have HG5 := Lib.hid hG5
              have hs5' : w.heap.size < w5.heap.size := by simp at hs5; omega
              clear hG5 hB5 hs5 hbz2
              go_wp2_with fail
              go_roundw
              case rel => exact ⟨j + 1, b + 1, ts ++ [t], by omega, by go_num, by go_num, by omega, HG5.out, by rw [List.length_append, HTL.out]; rfl, hx5, hs5', by rw [HST.out, Option.map_map]; congr 1; funext x; simp, by omega⟩
              case measure => simp [intOf]; omega)
          · rw [if_neg (by intro h; cases h; exact hcw rfl)] at hst
            have HRn := Lib.hid (show R = none from by rw [hst]; rfl)
            have hfin : (j + 1 < many ∧ ((p : Int) != 44) = true) ∨ (many ≤ j + 1 ∧ ((p : Int) != (q : Int)) = true ∧ ((j : Int) + 1 == (many : Int)) = true) := by
              rcases Nat.lt_or_ge (j + 1) many with g | g
              · refine .inl ⟨g, ?_⟩
                rw [bne_iff_ne]
                intro h
                rw [hw, if_neg (by omega)] at hcw
                exact hcw (UInt8.toNat_inj.1 (by rw [hp]; simp; omega))
              · refine .inr ⟨g, ?_, by rw [beq_iff_eq]; omega⟩
                rw [bne_iff_ne]
                intro h
                rw [hw, if_pos (by omega)] at hcw
                exact hcw (UInt8.toNat_inj.1 (by rw [hp, HLQ.out]; omega))
            clear hst hw hcw hG hKo
            rcases hfin with ⟨g1, g2⟩ | ⟨g1, g2, g3⟩
            all_goals (
              go_wp2_with fail
              go_ret2
              exact ⟨[], none, 0, -1, rfl, Nat.le_refl _, Nat.zero_le _, .inl rfl, hx.trans hxa, (fun x hx => by rw [HRn.out] at hx; cases hx), fun _ => rfl⟩)
        · rw [at_none s (by omega), if_neg (by simp)] at hst
          have HRn := Lib.hid (show R = none from by rw [hst]; rfl)
          have t1 : decide ((s.size : Int) ≤ (b : Int)) = true := decide_eq_true (by omega)
          clear hst hG hKo
          go_wp2_with fail
          go_ret2
          exact ⟨[], none, 0, -1, rfl, Nat.le_refl _, Nat.zero_le _, .inl rfl, hx.trans hxa, (fun x hx => by rw [HRn.out] at hx; cases hx), fun _ => rfl⟩
    · have hjm : j = many := by omega
      have hRs : R = some (ts, a') := by
        rw [HE.out, hjm, Nat.sub_self]
        simp [ser]
      have HRs := Lib.hid hRs
      have hK2 : FromK w.heap.size wr Bo ts := hKo.mono (fun b hb => ⟨by omega, hb.1⟩) (fun _ _ => rfl)
      have hE2 := hend hjm
      clear hRs hend hKo hG
      go_wp2_with fail
      go_ret2
      refine ⟨ts, Bo, co, (a' : Int), ?_, hl1, hl2, hK2, hx, ?_, ?_⟩
      · rfl
      · intro x hx
        rw [HRs.out] at hx
        cases hx
        exact ⟨rfl, rfl, hE2⟩
      · intro hx
        rw [HRs.out] at hx
        cases hx
end Go.Proofs.YtolkohncmidpeaaGreatDoor
namespace Go.Proofs.YtolkohncmidpeaaGreatDoor
open Go.RowKit
set_option linter.unusedVariables false
theorem series_at (d : Nat) (ih : ParseC d) (s : ByteArray) (a many : Nat) (last : UInt8) (A M L : Int) (hA : A = a) (hM : M = many) (hL : L = (last.toNat : Int)) (w : World) (hs : s.size ≤ 1000000000) (ha : a ≤ s.size + 2) (hm : many ≤ 4) (hm1 : 1 ≤ many) :
    Calls Tryz.prog 160 #[.string s, .int .i64 A, .int .i64 d, .int .i64 M, .int .u8 L] w (SerQ w.heap.size w s.size (ser (prs d s.data.toList) s.data.toList last many a)) := by
  subst hA hM hL
  exact series_any d ih s a many last w hs ha hm hm1
theorem bodyBad (B : Nat) (w w' : World) (size : Nat) (o : Option (Tr × Nat)) (ho : o = none) (hx : Ext w w') : ParseQ B w size o (.returned (.tuple #[.agg #[.int .i64 0, .int .i64 0, .slice none 0 0], .int .i64 (-1)])) w' :=
  ⟨.mk 0 0 [], _, -1, rfl, From.leaf _ _ _ _, hx, (fun x hx => by rw [ho] at hx; cases hx), fun _ => rfl⟩
theorem FromK.set {B : Nat} {w : World} {A : Option Addr} {ks : List Tr} (h : FromK B w A ks) {p : Addr} (hp : p.block < B) (u : Value) : FromK B (w.setCell p u) A ks :=
  h.mono (fun b hb => ⟨hb.1, by simpa using hb.2⟩) (fun b hb => Below.heap_setCell w p u b (by omega))
theorem From.mk {B : Nat} {w : World} {A : Option Addr} {ks : List Tr} {cap : Nat} (k n : Int) (h : FromK B w A ks) (hl : ks.length ≤ cap) (hc : cap ≤ maxLen) : From B w (.mk k n ks) (.agg #[.int .i64 k, .int .i64 n, .slice A ks.length cap]) := InT.mk_iff.2 ⟨A, cap, rfl, hl, hc, h⟩
set_option maxRecDepth 100000 in
set_option maxHeartbeats 1000000 in
theorem block_60 (d : Nat) (hd : d ≤ 30) (ih : ParseC d) (s : ByteArray) (a : Nat) (w : World) (hs : s.size ≤ 1000000000) (ha : a < s.size) (hc : s[a] = 60) :
    Calls Tryz.prog 132 #[.string s, .int .i64 a, .int .i64 ((d : Int) + 1)] w (ParseQ w.heap.size w s.size (blk (prs d s.data.toList) s.data.toList a 60)) := by
  have HI := Lib.hid (fun W => series_at d ih s (a + 1) 4 62 ((a : Int) + 1) 4 62 (by omega) (by omega) (by decide) W hs (by omega) (by omega) (by omega))
  obtain ⟨F, hF⟩ : ∃ F, F = prs d s.data.toList := ⟨_, rfl⟩
  rw [← hF] at HI ⊢
  obtain ⟨S, hS⟩ : ∃ S, S = ser F s.data.toList 62 4 (a + 1) := ⟨_, rfl⟩
  rw [← hS] at HI
  have hR : blk F s.data.toList a 60 = S.map (fun x => (.mk 9 0 x.1, x.2)) := by rw [hS]; rfl
  rw [hR]
  have HK := Lib.hid (fun W => specopsT 9 W)
  have hop : opsT 9 = 4 := rfl
  rw [hop] at HK
  clear hR ih hF hS hop
  go_enter Tryz.func132, Tryz.ntmps132
  go_wp2_with fail
  refine (HK.out _).mono ?_
  rintro e w0 ⟨rfl, rfl⟩
  go_wp2_with fail
  refine (HI.out _).mono ?_
  rintro e w1 ⟨ts, A, cap, nx, rfl, h1, h2, hK, e1, q1, q2⟩
  obtain ⟨s0, s1, s2, f0, f1, f2⟩ := own3 e1.newBlk
  have hsz := e1.size_alloc
  have hx := ((Ext.refl w).alloc (.cells #[.int .i64 0, .int .i64 0, .slice none 0 0] 45)).trans e1
  have HQ1 := Lib.hid q1
  have HQ2 := Lib.hid q2
  have hK' : FromK (w.heap.size + 1) w1 A ts := by simpa using hK
  clear q1 q2 hK
  go_wp2_with fail
  refine bodyPost_ret (v := .tuple #[.agg #[.int .i64 9, .int .i64 0, .slice A ts.length cap], .int .i64 nx]) (by simp [results, Tryz.results132, go_sem, s0, s1, s2]) rfl ⟨.mk 9 0 ts, _, nx, rfl, ?_, ?_, ?_, ?_⟩
  · exact (From.mk 9 0 (((hK'.set (by simp) _).set (by simp) _).set (by simp) _) h1 h2).since (by omega)
  · exact ((hx.setCell (by simp) _).setCell (by simp) _).setCell (by simp) _
  · intro x hx
    cases S with
    | none => cases hx
    | some y =>
      obtain ⟨g1, g2, g3⟩ := HQ1.out y rfl
      cases hx
      exact ⟨by rw [g1], g2, g3⟩
  · intro hx
    cases S with
    | none => exact HQ2.out rfl
    | some y => cases hx
set_option maxRecDepth 100000 in
set_option maxHeartbeats 1000000 in
theorem block_123 (d : Nat) (hd : d ≤ 30) (ih : ParseC d) (s : ByteArray) (a : Nat) (w : World) (hs : s.size ≤ 1000000000) (ha : a < s.size) (hc : s[a] = 123) :
    Calls Tryz.prog 132 #[.string s, .int .i64 a, .int .i64 ((d : Int) + 1)] w (ParseQ w.heap.size w s.size (blk (prs d s.data.toList) s.data.toList a 123)) := by
  have HI := Lib.hid (fun W => series_at d ih s (a + 1) 3 125 ((a : Int) + 1) 3 125 (by omega) (by omega) (by decide) W hs (by omega) (by omega) (by omega))
  obtain ⟨F, hF⟩ : ∃ F, F = prs d s.data.toList := ⟨_, rfl⟩
  rw [← hF] at HI ⊢
  obtain ⟨S, hS⟩ : ∃ S, S = ser F s.data.toList 125 3 (a + 1) := ⟨_, rfl⟩
  rw [← hS] at HI
  have hR : blk F s.data.toList a 123 = S.map (fun x => (.mk 10 0 x.1, x.2)) := by rw [hS]; rfl
  rw [hR]
  have HK := Lib.hid (fun W => specopsT 10 W)
  have hop : opsT 10 = 3 := rfl
  rw [hop] at HK
  clear hR ih hF hS hop
  go_enter Tryz.func132, Tryz.ntmps132
  go_wp2_with fail
  refine (HK.out _).mono ?_
  rintro e w0 ⟨rfl, rfl⟩
  go_wp2_with fail
  refine (HI.out _).mono ?_
  rintro e w1 ⟨ts, A, cap, nx, rfl, h1, h2, hK, e1, q1, q2⟩
  obtain ⟨s0, s1, s2, f0, f1, f2⟩ := own3 e1.newBlk
  have hsz := e1.size_alloc
  have hx := ((Ext.refl w).alloc (.cells #[.int .i64 0, .int .i64 0, .slice none 0 0] 45)).trans e1
  have HQ1 := Lib.hid q1
  have HQ2 := Lib.hid q2
  have hK' : FromK (w.heap.size + 1) w1 A ts := by simpa using hK
  clear q1 q2 hK
  go_wp2_with fail
  refine bodyPost_ret (v := .tuple #[.agg #[.int .i64 10, .int .i64 0, .slice A ts.length cap], .int .i64 nx]) (by simp [results, Tryz.results132, go_sem, s0, s1, s2]) rfl ⟨.mk 10 0 ts, _, nx, rfl, ?_, ?_, ?_, ?_⟩
  · exact (From.mk 10 0 (((hK'.set (by simp) _).set (by simp) _).set (by simp) _) h1 h2).since (by omega)
  · exact ((hx.setCell (by simp) _).setCell (by simp) _).setCell (by simp) _
  · intro x hx
    cases S with
    | none => cases hx
    | some y =>
      obtain ⟨g1, g2, g3⟩ := HQ1.out y rfl
      cases hx
      exact ⟨by rw [g1], g2, g3⟩
  · intro hx
    cases S with
    | none => exact HQ2.out rfl
    | some y => cases hx
set_option maxRecDepth 100000 in
set_option maxHeartbeats 1000000 in
theorem block_124 (d : Nat) (hd : d ≤ 30) (ih : ParseC d) (s : ByteArray) (a : Nat) (w : World) (hs : s.size ≤ 1000000000) (ha : a < s.size) (hc : s[a] = 124) :
    Calls Tryz.prog 132 #[.string s, .int .i64 a, .int .i64 ((d : Int) + 1)] w (ParseQ w.heap.size w s.size (blk (prs d s.data.toList) s.data.toList a 124)) := by
  have HI := Lib.hid (fun W => series_at d ih s (a + 1) 3 124 ((a : Int) + 1) 3 124 (by omega) (by omega) (by decide) W hs (by omega) (by omega) (by omega))
  obtain ⟨F, hF⟩ : ∃ F, F = prs d s.data.toList := ⟨_, rfl⟩
  rw [← hF] at HI ⊢
  obtain ⟨S, hS⟩ : ∃ S, S = ser F s.data.toList 124 3 (a + 1) := ⟨_, rfl⟩
  rw [← hS] at HI
  have hR : blk F s.data.toList a 124 = S.map (fun x => (.mk 14 0 x.1, x.2)) := by rw [hS]; rfl
  rw [hR]
  have HK := Lib.hid (fun W => specopsT 14 W)
  have hop : opsT 14 = 3 := rfl
  rw [hop] at HK
  clear hR ih hF hS hop
  go_enter Tryz.func132, Tryz.ntmps132
  go_wp2_with fail
  refine (HK.out _).mono ?_
  rintro e w0 ⟨rfl, rfl⟩
  go_wp2_with fail
  refine (HI.out _).mono ?_
  rintro e w1 ⟨ts, A, cap, nx, rfl, h1, h2, hK, e1, q1, q2⟩
  obtain ⟨s0, s1, s2, f0, f1, f2⟩ := own3 e1.newBlk
  have hsz := e1.size_alloc
  have hx := ((Ext.refl w).alloc (.cells #[.int .i64 0, .int .i64 0, .slice none 0 0] 45)).trans e1
  have HQ1 := Lib.hid q1
  have HQ2 := Lib.hid q2
  have hK' : FromK (w.heap.size + 1) w1 A ts := by simpa using hK
  clear q1 q2 hK
  go_wp2_with fail
  refine bodyPost_ret (v := .tuple #[.agg #[.int .i64 14, .int .i64 0, .slice A ts.length cap], .int .i64 nx]) (by simp [results, Tryz.results132, go_sem, s0, s1, s2]) rfl ⟨.mk 14 0 ts, _, nx, rfl, ?_, ?_, ?_, ?_⟩
  · exact (From.mk 14 0 (((hK'.set (by simp) _).set (by simp) _).set (by simp) _) h1 h2).since (by omega)
  · exact ((hx.setCell (by simp) _).setCell (by simp) _).setCell (by simp) _
  · intro x hx
    cases S with
    | none => cases hx
    | some y =>
      obtain ⟨g1, g2, g3⟩ := HQ1.out y rfl
      cases hx
      exact ⟨by rw [g1], g2, g3⟩
  · intro hx
    cases S with
    | none => exact HQ2.out rfl
    | some y => cases hx
set_option maxRecDepth 100000 in
set_option maxHeartbeats 1000000 in
theorem block_64 (d : Nat) (hd : d ≤ 30) (ih : ParseC d) (s : ByteArray) (a : Nat) (w : World) (hs : s.size ≤ 1000000000) (ha : a < s.size) (hc : s[a] = 64) :
    Calls Tryz.prog 132 #[.string s, .int .i64 a, .int .i64 ((d : Int) + 1)] w (ParseQ w.heap.size w s.size (blk (prs d s.data.toList) s.data.toList a 64)) := by
  have HI := Lib.hid (fun W => series_at d ih s (a + 2) 3 62 ((a : Int) + 2) 3 62 (by omega) (by omega) (by decide) W hs (by omega) (by omega) (by omega))
  obtain ⟨F, hF⟩ : ∃ F, F = prs d s.data.toList := ⟨_, rfl⟩
  rw [← hF] at HI ⊢
  obtain ⟨S, hS⟩ : ∃ S, S = ser F s.data.toList 62 3 (a + 2) := ⟨_, rfl⟩
  rw [← hS] at HI
  have hR : blk F s.data.toList a 64 = if s.data.toList[a + 1]? = some 60 then S.map (fun x => (.mk 12 0 x.1, x.2)) else none := by rw [hS]; rfl
  obtain ⟨R, hRR⟩ : ∃ R, R = blk F s.data.toList a 64 := ⟨_, rfl⟩
  rw [← hRR] at hR ⊢
  have HK := Lib.hid (fun W => specopsT 12 W)
  have hop : opsT 12 = 3 := rfl
  rw [hop] at HK
  clear hRR ih hF hS hop
  by_cases h1 : a + 1 < s.size
  · obtain ⟨c, hcc⟩ : ∃ c, s[a + 1] = c := ⟨_, rfl⟩
    rw [at_eq h1 hcc] at hR
    have t1 : decide ((s.size : Int) < (a : Int) + 2) = false := decide_eq_false (by omega)
    have hz1 : (a : Int) + 1 < (s.size : Int) := by omega
    obtain ⟨p, hp⟩ : ∃ p, c.toNat = p := ⟨_, rfl⟩
    by_cases h60 : c = 60
    · rw [if_pos (by rw [h60])] at hR
      have hp60 : p = 60 := by rw [← hp, h60]; rfl
      have HR := Lib.hid hR
      subst hp60
      clear hR h60
      go_enter Tryz.func132, Tryz.ntmps132
      go_wp2_with fail
      refine (HK.out _).mono ?_
      rintro e w0 ⟨rfl, rfl⟩
      go_wp2_with fail
      refine (HI.out _).mono ?_
      rintro e w1 ⟨ts, A, cap, nx, rfl, h1', h2, hK, e1, q1, q2⟩
      obtain ⟨s0, s1, s2, f0, f1, f2⟩ := own3 e1.newBlk
      have hsz := e1.size_alloc
      have hx := ((Ext.refl w).alloc (.cells #[.int .i64 0, .int .i64 0, .slice none 0 0] 45)).trans e1
      have HQ1 := Lib.hid q1
      have HQ2 := Lib.hid q2
      have hK' : FromK (w.heap.size + 1) w1 A ts := by simpa using hK
      clear q1 q2 hK
      go_wp2_with fail
      refine bodyPost_ret (v := .tuple #[.agg #[.int .i64 12, .int .i64 0, .slice A ts.length cap], .int .i64 nx]) (by simp [results, Tryz.results132, go_sem, s0, s1, s2]) rfl ⟨.mk 12 0 ts, _, nx, rfl, ?_, ?_, ?_, ?_⟩
      · exact (From.mk 12 0 (((hK'.set (by simp) _).set (by simp) _).set (by simp) _) h1' h2).since (by omega)
      · exact ((hx.setCell (by simp) _).setCell (by simp) _).setCell (by simp) _
      · intro x hx
        rw [HR.out] at hx
        cases S with
        | none => cases hx
        | some y =>
          obtain ⟨g1, g2, g3⟩ := HQ1.out y rfl
          cases hx
          exact ⟨by rw [g1], g2, g3⟩
      · intro hx
        rw [HR.out] at hx
        cases S with
        | none => exact HQ2.out rfl
        | some y => cases hx
    · rw [if_neg (by intro h; cases h; exact h60 rfl)] at hR
      have t2 : ((p : Int) != 60) = true := by rw [bne_iff_ne]; intro h; exact h60 (UInt8.toNat_inj.1 (by rw [hp]; simp; omega))
      have HR := Lib.hid hR
      clear hR h60
      go_enter Tryz.func132, Tryz.ntmps132
      go_wp2_with fail
      exact bodyPost_ret (v := .tuple #[.agg #[.int .i64 0, .int .i64 0, .slice none 0 0], .int .i64 (-1)]) (by simp [results, Tryz.results132, go_sem]) rfl (bodyBad _ _ _ _ _ HR.out ((Ext.refl w).alloc _))
  · rw [at_none s (by omega), if_neg (by simp)] at hR
    have t1 : decide ((s.size : Int) < (a : Int) + 2) = true := decide_eq_true (by omega)
    have HR := Lib.hid hR
    clear hR
    go_enter Tryz.func132, Tryz.ntmps132
    go_wp2_with fail
    exact bodyPost_ret (v := .tuple #[.agg #[.int .i64 0, .int .i64 0, .slice none 0 0], .int .i64 (-1)]) (by simp [results, Tryz.results132, go_sem]) rfl (bodyBad _ _ _ _ _ HR.out ((Ext.refl w).alloc _))
set_option maxRecDepth 100000 in
set_option maxHeartbeats 1000000 in
theorem block_no (d : Nat) (hd : d ≤ 30) (s : ByteArray) (a : Nat) (w : World) (hs : s.size ≤ 1000000000) (ha : a < s.size) (c : UInt8) (hc : s[a] = c) (hk : blkK c = 0) :
    Calls Tryz.prog 132 #[.string s, .int .i64 a, .int .i64 ((d : Int) + 1)] w (ParseQ w.heap.size w s.size (blk (prs d s.data.toList) s.data.toList a c)) := by
  have HR := Lib.hid (show blk (prs d s.data.toList) s.data.toList a c = none from by unfold blk; rw [if_pos hk])
  generalize blk (prs d s.data.toList) s.data.toList a c = R at HR ⊢
  obtain ⟨p, hp⟩ : ∃ p, c.toNat = p := ⟨_, rfl⟩
  have g1 : c ≠ 60 := fun h => by rw [h] at hk; exact absurd hk (by decide)
  have g2 : c ≠ 123 := fun h => by rw [h] at hk; exact absurd hk (by decide)
  have g3 : c ≠ 124 := fun h => by rw [h] at hk; exact absurd hk (by decide)
  have g4 : c ≠ 64 := fun h => by rw [h] at hk; exact absurd hk (by decide)
  have t1 : ((p : Int) == 60) = false := by rw [beq_eq_false_iff_ne]; intro h; exact g1 (UInt8.toNat_inj.1 (by rw [hp]; simp; omega))
  have t2 : ((p : Int) == 123) = false := by rw [beq_eq_false_iff_ne]; intro h; exact g2 (UInt8.toNat_inj.1 (by rw [hp]; simp; omega))
  have t3 : ((p : Int) == 124) = false := by rw [beq_eq_false_iff_ne]; intro h; exact g3 (UInt8.toNat_inj.1 (by rw [hp]; simp; omega))
  have t4 : ((p : Int) == 64) = false := by rw [beq_eq_false_iff_ne]; intro h; exact g4 (UInt8.toNat_inj.1 (by rw [hp]; simp; omega))
  clear g1 g2 g3 g4 hk
  go_enter Tryz.func132, Tryz.ntmps132
  go_wp2_with fail
  exact bodyPost_ret (v := .tuple #[.agg #[.int .i64 0, .int .i64 0, .slice none 0 0], .int .i64 (-1)]) (by simp [results, Tryz.results132, go_sem]) rfl (bodyBad _ _ _ _ _ HR.out ((Ext.refl w).alloc _))
end Go.Proofs.YtolkohncmidpeaaGreatDoor

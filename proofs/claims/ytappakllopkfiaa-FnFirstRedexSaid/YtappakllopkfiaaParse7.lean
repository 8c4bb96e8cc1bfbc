/-
  ParseTerm of the reference.
-/
import Derived.Test.YtappakllopkfiaaParse2
namespace Go.Proofs.Ytappakllopkfiaa
open Go.RowKit
set_option linter.unusedVariables false

/-- What the reader of a series hands back. -/
def SerQ (B : Nat) (w : World) (size : Nat) (o : Option (List Tr × Nat)) (e : Ending) (w' : World) : Prop :=
  ∃ (ts : List Tr) (A : Option Addr) (cap : Nat) (nx : Int), e = .returned (.tuple #[.slice A ts.length cap, .int .i64 nx]) ∧ ts.length ≤ cap ∧ cap ≤ maxLen ∧ FromK B w' A ts ∧ Ext w w' ∧ (∀ x, o = some x → ts = x.1 ∧ nx = x.2 ∧ x.2 ≤ size) ∧ (o = none → nx = -1)
theorem infoTermS : (Try.prog.info? 44).map (fun i => (i.zero, i.size, i.bytes)) = some (some (.agg #[.int .i64 0, .int .i64 0, .slice none 0 0]), 3, 40) := by kernel_rfl
theorem ser_step {p : Nat → Option (Tr × Nat)} {l : List UInt8} {last : UInt8} {m a b : Nat} {t : Tr} (h : p a = some (t, b)) : ser p l last (m + 1) a = if l[b]? = some (if m = 0 then last else 44) then (ser p l last m (b + 1)).map (fun x => (t :: x.1, x.2)) else none := by
  conv => lhs; unfold ser
  rw [h]
theorem ser_fail {p : Nat → Option (Tr × Nat)} {l : List UInt8} {last : UInt8} {m a : Nat} (h : p a = none) : ser p l last (m + 1) a = none := by
  conv => lhs; unfold ser
  rw [h]
set_option maxRecDepth 100000 in
set_option maxHeartbeats 4000000 in
theorem series_any (d : Nat) (ih : ParseC d) (s : ByteArray) (a many : Nat) (last : UInt8) (w : World) (hs : s.size ≤ 1000000000) (ha : a ≤ s.size + 2) (hm : many ≤ 4) (hm1 : 1 ≤ many) :
    Calls Try.prog 232 #[.string s, .int .i64 a, .int .i64 d, .int .i64 many, .int .u8 (last.toNat : Int)] w (SerQ w.heap.size w s.size (ser (prs d s.data.toList) s.data.toList last many a)) := by
  have HI := Lib.hid (fun a W (ha : a ≤ s.size + 2) => ih s a W hs ha)
  obtain ⟨F, hF⟩ : ∃ F, F = prs d s.data.toList := ⟨_, rfl⟩
  rw [← hF] at HI ⊢
  obtain ⟨R, hR⟩ : ∃ R, R = ser F s.data.toList last many a := ⟨_, rfl⟩
  rw [← hR]
  have HR := Lib.hid hR
  obtain ⟨i0, hi, hz0, hz1, hz2⟩ := info_parts infoTermS
  obtain ⟨q, hq⟩ : ∃ q, last.toNat = q := ⟨_, rfl⟩
  rw [hq]
  have HLQ := Lib.hid hq
  clear hR ih hF hq
  go_enter Try.func232, Try.ntmps232
  go_wp2_with fail
  have hx0 := (Ext.refl w).alloc (.cells #[] 44)
  have hb0 := heap_alloc_new w (.cells #[] 44)
  have hs0 : w.heap.size < (w.alloc (.cells #[] 44)).heap.size := by simp
  generalize World.alloc w _ = w1 at hx0 hb0 hs0
  go_loopw [1, 12, 13] (fun at_ o i wr => ∃ (j a' : Nat) (ts : List Tr), j ≤ many ∧ at_ = .int .i64 a' ∧ i = .int .i64 j ∧ a' ≤ s.size + 2 ∧ GrowS (· < w.heap.size) w wr 44 o ts ∧ ts.length = j ∧ Ext w wr ∧ w.heap.size < wr.heap.size ∧ R = (ser F s.data.toList last (many - j) a').map (fun x => (ts ++ x.1, x.2)) ∧ (j = many → a' ≤ s.size)) (fun _ _ i _ => many - (intOf i).toNat)
  case atStart => exact ⟨0, a, [], Nat.zero_le _, rfl, rfl, ha, GrowS.lit hb0 (Nat.le_refl _), rfl, hx0, hs0, by rw [HR.out]; simp, by omega⟩
  case round =>
    obtain ⟨j, a', ts, hj, rfl, rfl, ha', hG, htl, hx, hsz, heq, hend⟩ := hrel
    have HE := Lib.hid heq
    have HTL := Lib.hid htl
    have htl4 : ts.length ≤ 4 := by omega
    clear htl
    obtain ⟨Bo, co, rfl, hl1, hl2, hKo, -⟩ := hG.lies (fun b hb => hb)
    clear heq
    by_cases hlt : j < many
    · have hjz : (j : Int) < (many : Int) := by omega
      have HND := Lib.hid hend
      clear hend
      go_wp2_with fail
      refine (HI.out a' wr ha').mono ?_
      rintro e w2 ⟨t, u, nx, rfl, hF, e2, q1, q2⟩
      obtain ⟨k0, n0, A0, l0, c0, rfl⟩ := hF.three
      have hs2 := e2.size
      have hxa := e2.trans ((Ext.refl w2).alloc (.cells #[.int .i64 k0, .int .i64 n0, .slice A0 l0 c0] 44))
      cases hFa : F a' with
      | none =>
        obtain rfl := q2 hFa
        have hRn : R = none := by
          rw [HE.out, show many - j = (many - j - 1) + 1 by omega, ser_fail hFa]
          rfl
        have HRn := Lib.hid hRn
        clear q1 q2 hRn hFa
        go_wp2_with fail
        go_ret2
        exact ⟨[], none, 0, -1, rfl, Nat.le_refl _, Nat.zero_le _, .inl rfl, hx.trans hxa, (fun x hx => by rw [HRn.out] at hx; cases hx), fun _ => rfl⟩
      | some y =>
        obtain ⟨t', b⟩ := y
        obtain ⟨h1, h2, h3⟩ := q1 _ hFa
        simp only at h1 h2 h3
        subst h1 h2
        have hst := HE.out
        rw [show many - j = (many - (j + 1)) + 1 by omega, ser_step hFa] at hst
        clear q1 q2 hFa
        have t0 : decide ((b : Int) < 0) = false := decide_eq_false (by omega)
        by_cases hlb : b < s.size
        · obtain ⟨c, hc⟩ : ∃ c, s[b] = c := ⟨_, rfl⟩
          rw [at_eq hlb hc] at hst
          have hbz : (b : Int) < (s.size : Int) := by omega
          have t1 : decide ((s.size : Int) ≤ (b : Int)) = false := decide_eq_false (by omega)
          obtain ⟨p, hp⟩ : ∃ p, c.toNat = p := ⟨_, rfl⟩
          obtain ⟨want, hw⟩ : ∃ want : UInt8, want = if many - (j + 1) = 0 then last else 44 := ⟨_, rfl⟩
          rw [← hw] at hst
          by_cases hcw : c = want
          · rw [if_pos (by rw [hcw])] at hst
            have HST := Lib.hid hst
            have hG2 := hG.ext hxa
            have hlitG : ∀ o', GrowS (· < w.heap.size) w (w2.alloc (.cells #[.int .i64 k0, .int .i64 n0, .slice A0 l0 c0] 44)) 44 o' ts → True := fun _ _ => trivial
            have hown : ∀ g, (Value.slice Bo ts.length co).ownBlock = some g → g < wr.heap.size := by
              obtain ⟨xs, g1, -⟩ := hG
              exact fun g hg => (g1.lt g hg).2
            have HOWN := Lib.hid hown
            have hFx := (hF.ext ((Ext.refl w2).alloc (.cells #[.int .i64 k0, .int .i64 n0, .slice A0 l0 c0] 44))).ext ((Ext.refl _).alloc (.cells #[.int .i64 k0, .int .i64 n0, .slice A0 l0 c0] 44))
            have hGx := hG2.ext ((Ext.refl _).alloc (.cells #[.int .i64 k0, .int .i64 n0, .slice A0 l0 c0] 44))
            have hbz2 := heap_alloc_new (w2.alloc (.cells #[.int .i64 k0, .int .i64 n0, .slice A0 l0 c0] 44)) (.cells #[.int .i64 k0, .int .i64 n0, .slice A0 l0 c0] 44)
            simp only [World.size_alloc] at hbz2
            have hT : InT ((w2.alloc (.cells #[.int .i64 k0, .int .i64 n0, .slice A0 l0 c0] 44)).alloc (.cells #[.int .i64 k0, .int .i64 n0, .slice A0 l0 c0] 44)) (fun b => b < ((w2.alloc (.cells #[.int .i64 k0, .int .i64 n0, .slice A0 l0 c0] 44)).alloc (.cells #[.int .i64 k0, .int .i64 n0, .slice A0 l0 c0] 44)).heap.size ∧ (Value.slice Bo ts.length co).ownBlock ≠ some b ∧ ¬ (b < w.heap.size)) t (.agg #[.int .i64 k0, .int .i64 n0, .slice A0 l0 c0]) := hFx.mono (fun b hb => ⟨hb.2, fun h => by have := HOWN.out b h; omega, by omega⟩) (fun _ _ => rfl)
            have HT := Lib.hid hT
            have HGX := Lib.hid hGx
            have HW := Lib.hid hw
            clear hst hw hG hG2 hT hFx hF hown hGx hlitG hKo
            have hfin : (j + 1 < many ∧ p = 44 ∧ ((j : Int) + 1 == (many : Int)) = false) ∨ (many ≤ j + 1 ∧ p = q ∧ ((j : Int) + 1 == (many : Int)) = true) := by
              rcases Nat.lt_or_ge (j + 1) many with g | g
              · refine .inl ⟨g, ?_, by rw [beq_eq_false_iff_ne]; omega⟩
                have := hcw
                rw [HW.out, if_neg (by omega)] at this
                rw [← hp, this]; rfl
              · refine .inr ⟨g, ?_, by rw [beq_iff_eq]; omega⟩
                have := hcw
                rw [HW.out, if_pos (by omega)] at this
                rw [← hp, this, HLQ.out]
            clear hcw
            rcases hfin with ⟨g1, rfl, g3⟩ | ⟨g1, rfl, g3⟩
            all_goals (
              have gz : (j : Int) + 1 < (many : Int) ∨ (many : Int) ≤ (j : Int) + 1 := by omega
              have gd : decide ((j : Int) + 1 < (many : Int)) = decide (j + 1 < many) := decide_eq_decide.2 (by omega)
              clear gz)
            all_goals (
              have h44 : ((44 : Int) != 44) = false := by decide
              go_wp2_with (at_builtin; refine wpList_append_treeS _ rfl (.tmp 62) (.tmp 64) _ (by rfl) 44 i0 _ Try.underlying42 hi hz0 hz1 hz2 rfl (by rfl) (X := (· < w.heap.size)) (W := w) (tr := t) HGX.out (by simp; omega) HT.out (by rfl) hbz2 (by omega) ?_ (fun b hb => hb))
              intro v' w5 hG5 hB5
              obtain ⟨B5, c5, rfl, r1, r2, -, -⟩ := hG5.lies (fun b hb => hb)
              have hx5 : Ext w w5 := Below.trans (hx.trans (hxa.trans ((Ext.refl _).alloc (.cells #[.int .i64 k0, .int .i64 n0, .slice A0 l0 c0] 44)))) hB5
              have hs5 := hB5.size
              have HG5 := Lib.hid hG5
              have hs5' : w.heap.size < w5.heap.size := by simp at hs5; omega
              clear hG5 hB5 hs5 hbz2
              go_wp2_with fail
              go_roundw
              case rel => exact ⟨j + 1, b + 1, ts ++ [t], by omega, by go_num, by go_num, by omega, HG5.out, by rw [List.length_append, HTL.out]; rfl, hx5, hs5', by rw [HST.out, Option.map_map]; congr 1; funext x; simp, by omega⟩
              case measure => simp [intOf]; omega)
          · rw [if_neg (by intro h; cases h; exact hcw rfl)] at hst
            have HRn := Lib.hid (show R = none from by rw [hst]; rfl)
            have hfin : (j + 1 < many ∧ ((p : Int) != 44) = true) ∨ (many ≤ j + 1 ∧ ((p : Int) != (q : Int)) = true ∧ ((j : Int) + 1 == (many : Int)) = true) := by
              rcases Nat.lt_or_ge (j + 1) many with g | g
              · refine .inl ⟨g, ?_⟩
                rw [bne_iff_ne]
                intro h
                rw [hw, if_neg (by omega)] at hcw
                exact hcw (UInt8.toNat_inj.1 (by rw [hp]; simp; omega))
              · refine .inr ⟨g, ?_, by rw [beq_iff_eq]; omega⟩
                rw [bne_iff_ne]
                intro h
                rw [hw, if_pos (by omega)] at hcw
                exact hcw (UInt8.toNat_inj.1 (by rw [hp, HLQ.out]; omega))
            clear hst hw hcw hG hKo
            rcases hfin with ⟨g1, g2⟩ | ⟨g1, g2, g3⟩
            all_goals (
              go_wp2_with fail
              go_ret2
              exact ⟨[], none, 0, -1, rfl, Nat.le_refl _, Nat.zero_le _, .inl rfl, hx.trans hxa, (fun x hx => by rw [HRn.out] at hx; cases hx), fun _ => rfl⟩)
        · rw [at_none s (by omega), if_neg (by simp)] at hst
          have HRn := Lib.hid (show R = none from by rw [hst]; rfl)
          have t1 : decide ((s.size : Int) ≤ (b : Int)) = true := decide_eq_true (by omega)
          clear hst hG hKo
          go_wp2_with fail
          go_ret2
          exact ⟨[], none, 0, -1, rfl, Nat.le_refl _, Nat.zero_le _, .inl rfl, hx.trans hxa, (fun x hx => by rw [HRn.out] at hx; cases hx), fun _ => rfl⟩
    · have hjm : j = many := by omega
      have hRs : R = some (ts, a') := by
        rw [HE.out, hjm, Nat.sub_self]
        simp [ser]
      have HRs := Lib.hid hRs
      have hK2 : FromK w.heap.size wr Bo ts := hKo.mono (fun b hb => ⟨by omega, hb.1⟩) (fun _ _ => rfl)
      have hE2 := hend hjm
      clear hRs hend hKo hG
      go_wp2_with fail
      go_ret2
      refine ⟨ts, Bo, co, (a' : Int), ?_, hl1, hl2, hK2, hx, ?_, ?_⟩
      · rfl
      · intro x hx
        rw [HRs.out] at hx
        cases hx
        exact ⟨rfl, rfl, hE2⟩
      · intro hx
        rw [HRs.out] at hx
        cases hx
end Go.Proofs.Ytappakllopkfiaa

namespace Go.Proofs.Ytappakllopkfiaa
open Go.RowKit
set_option linter.unusedVariables false

theorem series_at (d : Nat) (ih : ParseC d) (s : ByteArray) (a many : Nat) (last : UInt8) (A M L : Int) (hA : A = a) (hM : M = many) (hL : L = (last.toNat : Int)) (w : World) (hs : s.size ≤ 1000000000) (ha : a ≤ s.size + 2) (hm : many ≤ 4) (hm1 : 1 ≤ many) :
    Calls Try.prog 232 #[.string s, .int .i64 A, .int .i64 d, .int .i64 M, .int .u8 L] w (SerQ w.heap.size w s.size (ser (prs d s.data.toList) s.data.toList last many a)) := by
  subst hA hM hL
  exact series_any d ih s a many last w hs ha hm hm1
theorem bodyBad (B : Nat) (w w' : World) (size : Nat) (o : Option (Tr × Nat)) (ho : o = none) (hx : Ext w w') : ParseQ B w size o (.returned (.tuple #[.agg #[.int .i64 0, .int .i64 0, .slice none 0 0], .int .i64 (-1)])) w' :=
  ⟨.mk 0 0 [], _, -1, rfl, From.leaf _ _ _ _, hx, (fun x hx => by rw [ho] at hx; cases hx), fun _ => rfl⟩
theorem FromK.set {B : Nat} {w : World} {A : Option Addr} {ks : List Tr} (h : FromK B w A ks) {p : Addr} (hp : p.block < B) (u : Value) : FromK B (w.setCell p u) A ks :=
  h.mono (fun b hb => ⟨hb.1, by simpa using hb.2⟩) (fun b hb => Below.heap_setCell w p u b (by omega))
theorem From.mk {B : Nat} {w : World} {A : Option Addr} {ks : List Tr} {cap : Nat} (k n : Int) (h : FromK B w A ks) (hl : ks.length ≤ cap) (hc : cap ≤ maxLen) : From B w (.mk k n ks) (.agg #[.int .i64 k, .int .i64 n, .slice A ks.length cap]) := InT.mk_iff.2 ⟨A, cap, rfl, hl, hc, h⟩
set_option maxRecDepth 100000 in
set_option maxHeartbeats 1000000 in
theorem block_60 (d : Nat) (hd : d ≤ 30) (ih : ParseC d) (s : ByteArray) (a : Nat) (w : World) (hs : s.size ≤ 1000000000) (ha : a < s.size) (hc : s[a] = 60) :
    Calls Try.prog 224 #[.string s, .int .i64 a, .int .i64 ((d : Int) + 1)] w (ParseQ w.heap.size w s.size (blk (prs d s.data.toList) s.data.toList a 60)) := by
  have HI := Lib.hid (fun W => series_at d ih s (a + 1) 4 62 ((a : Int) + 1) 4 62 (by omega) (by omega) (by decide) W hs (by omega) (by omega) (by omega))
  obtain ⟨F, hF⟩ : ∃ F, F = prs d s.data.toList := ⟨_, rfl⟩
  rw [← hF] at HI ⊢
  obtain ⟨S, hS⟩ : ∃ S, S = ser F s.data.toList 62 4 (a + 1) := ⟨_, rfl⟩
  rw [← hS] at HI
  have hR : blk F s.data.toList a 60 = S.map (fun x => (.mk 9 0 x.1, x.2)) := by rw [hS]; rfl
  rw [hR]
  have HK := Lib.hid (fun W => specopsT 9 W)
  have hop : opsT 9 = 4 := rfl
  rw [hop] at HK
  clear hR ih hF hS hop
  go_enter Try.func224, Try.ntmps224
  go_wp2_with fail
  refine (HK.out _).mono ?_
  rintro e w0 ⟨rfl, rfl⟩
  go_wp2_with fail
  refine (HI.out _).mono ?_
  rintro e w1 ⟨ts, A, cap, nx, rfl, h1, h2, hK, e1, q1, q2⟩
  obtain ⟨s0, s1, s2, f0, f1, f2⟩ := own3 e1.newBlk
  have hsz := e1.size_alloc
  have hx := ((Ext.refl w).alloc (.cells #[.int .i64 0, .int .i64 0, .slice none 0 0] 44)).trans e1
  have HQ1 := Lib.hid q1
  have HQ2 := Lib.hid q2
  have hK' : FromK (w.heap.size + 1) w1 A ts := by simpa using hK
  clear q1 q2 hK
  go_wp2_with fail
  refine bodyPost_ret (v := .tuple #[.agg #[.int .i64 9, .int .i64 0, .slice A ts.length cap], .int .i64 nx]) (by simp [results, Try.results224, go_sem, s0, s1, s2]) rfl ⟨.mk 9 0 ts, _, nx, rfl, ?_, ?_, ?_, ?_⟩
  · exact (From.mk 9 0 (((hK'.set (by simp) _).set (by simp) _).set (by simp) _) h1 h2).since (by omega)
  · exact ((hx.setCell (by simp) _).setCell (by simp) _).setCell (by simp) _
  · intro x hx
    cases S with
    | none => cases hx
    | some y =>
      obtain ⟨g1, g2, g3⟩ := HQ1.out y rfl
      cases hx
      exact ⟨by rw [g1], g2, g3⟩
  · intro hx
    cases S with
    | none => exact HQ2.out rfl
    | some y => cases hx
set_option maxRecDepth 100000 in
set_option maxHeartbeats 1000000 in
theorem block_123 (d : Nat) (hd : d ≤ 30) (ih : ParseC d) (s : ByteArray) (a : Nat) (w : World) (hs : s.size ≤ 1000000000) (ha : a < s.size) (hc : s[a] = 123) :
    Calls Try.prog 224 #[.string s, .int .i64 a, .int .i64 ((d : Int) + 1)] w (ParseQ w.heap.size w s.size (blk (prs d s.data.toList) s.data.toList a 123)) := by
  have HI := Lib.hid (fun W => series_at d ih s (a + 1) 3 125 ((a : Int) + 1) 3 125 (by omega) (by omega) (by decide) W hs (by omega) (by omega) (by omega))
  obtain ⟨F, hF⟩ : ∃ F, F = prs d s.data.toList := ⟨_, rfl⟩
  rw [← hF] at HI ⊢
  obtain ⟨S, hS⟩ : ∃ S, S = ser F s.data.toList 125 3 (a + 1) := ⟨_, rfl⟩
  rw [← hS] at HI
  have hR : blk F s.data.toList a 123 = S.map (fun x => (.mk 10 0 x.1, x.2)) := by rw [hS]; rfl
  rw [hR]
  have HK := Lib.hid (fun W => specopsT 10 W)
  have hop : opsT 10 = 3 := rfl
  rw [hop] at HK
  clear hR ih hF hS hop
  go_enter Try.func224, Try.ntmps224
  go_wp2_with fail
  refine (HK.out _).mono ?_
  rintro e w0 ⟨rfl, rfl⟩
  go_wp2_with fail
  refine (HI.out _).mono ?_
  rintro e w1 ⟨ts, A, cap, nx, rfl, h1, h2, hK, e1, q1, q2⟩
  obtain ⟨s0, s1, s2, f0, f1, f2⟩ := own3 e1.newBlk
  have hsz := e1.size_alloc
  have hx := ((Ext.refl w).alloc (.cells #[.int .i64 0, .int .i64 0, .slice none 0 0] 44)).trans e1
  have HQ1 := Lib.hid q1
  have HQ2 := Lib.hid q2
  have hK' : FromK (w.heap.size + 1) w1 A ts := by simpa using hK
  clear q1 q2 hK
  go_wp2_with fail
  refine bodyPost_ret (v := .tuple #[.agg #[.int .i64 10, .int .i64 0, .slice A ts.length cap], .int .i64 nx]) (by simp [results, Try.results224, go_sem, s0, s1, s2]) rfl ⟨.mk 10 0 ts, _, nx, rfl, ?_, ?_, ?_, ?_⟩
  · exact (From.mk 10 0 (((hK'.set (by simp) _).set (by simp) _).set (by simp) _) h1 h2).since (by omega)
  · exact ((hx.setCell (by simp) _).setCell (by simp) _).setCell (by simp) _
  · intro x hx
    cases S with
    | none => cases hx
    | some y =>
      obtain ⟨g1, g2, g3⟩ := HQ1.out y rfl
      cases hx
      exact ⟨by rw [g1], g2, g3⟩
  · intro hx
    cases S with
    | none => exact HQ2.out rfl
    | some y => cases hx
set_option maxRecDepth 100000 in
set_option maxHeartbeats 1000000 in
theorem block_124 (d : Nat) (hd : d ≤ 30) (ih : ParseC d) (s : ByteArray) (a : Nat) (w : World) (hs : s.size ≤ 1000000000) (ha : a < s.size) (hc : s[a] = 124) :
    Calls Try.prog 224 #[.string s, .int .i64 a, .int .i64 ((d : Int) + 1)] w (ParseQ w.heap.size w s.size (blk (prs d s.data.toList) s.data.toList a 124)) := by
  have HI := Lib.hid (fun W => series_at d ih s (a + 1) 3 124 ((a : Int) + 1) 3 124 (by omega) (by omega) (by decide) W hs (by omega) (by omega) (by omega))
  obtain ⟨F, hF⟩ : ∃ F, F = prs d s.data.toList := ⟨_, rfl⟩
  rw [← hF] at HI ⊢
  obtain ⟨S, hS⟩ : ∃ S, S = ser F s.data.toList 124 3 (a + 1) := ⟨_, rfl⟩
  rw [← hS] at HI
  have hR : blk F s.data.toList a 124 = S.map (fun x => (.mk 14 0 x.1, x.2)) := by rw [hS]; rfl
  rw [hR]
  have HK := Lib.hid (fun W => specopsT 14 W)
  have hop : opsT 14 = 3 := rfl
  rw [hop] at HK
  clear hR ih hF hS hop
  go_enter Try.func224, Try.ntmps224
  go_wp2_with fail
  refine (HK.out _).mono ?_
  rintro e w0 ⟨rfl, rfl⟩
  go_wp2_with fail
  refine (HI.out _).mono ?_
  rintro e w1 ⟨ts, A, cap, nx, rfl, h1, h2, hK, e1, q1, q2⟩
  obtain ⟨s0, s1, s2, f0, f1, f2⟩ := own3 e1.newBlk
  have hsz := e1.size_alloc
  have hx := ((Ext.refl w).alloc (.cells #[.int .i64 0, .int .i64 0, .slice none 0 0] 44)).trans e1
  have HQ1 := Lib.hid q1
  have HQ2 := Lib.hid q2
  have hK' : FromK (w.heap.size + 1) w1 A ts := by simpa using hK
  clear q1 q2 hK
  go_wp2_with fail
  refine bodyPost_ret (v := .tuple #[.agg #[.int .i64 14, .int .i64 0, .slice A ts.length cap], .int .i64 nx]) (by simp [results, Try.results224, go_sem, s0, s1, s2]) rfl ⟨.mk 14 0 ts, _, nx, rfl, ?_, ?_, ?_, ?_⟩
  · exact (From.mk 14 0 (((hK'.set (by simp) _).set (by simp) _).set (by simp) _) h1 h2).since (by omega)
  · exact ((hx.setCell (by simp) _).setCell (by simp) _).setCell (by simp) _
  · intro x hx
    cases S with
    | none => cases hx
    | some y =>
      obtain ⟨g1, g2, g3⟩ := HQ1.out y rfl
      cases hx
      exact ⟨by rw [g1], g2, g3⟩
  · intro hx
    cases S with
    | none => exact HQ2.out rfl
    | some y => cases hx
set_option maxRecDepth 100000 in
set_option maxHeartbeats 1000000 in
theorem block_64 (d : Nat) (hd : d ≤ 30) (ih : ParseC d) (s : ByteArray) (a : Nat) (w : World) (hs : s.size ≤ 1000000000) (ha : a < s.size) (hc : s[a] = 64) :
    Calls Try.prog 224 #[.string s, .int .i64 a, .int .i64 ((d : Int) + 1)] w (ParseQ w.heap.size w s.size (blk (prs d s.data.toList) s.data.toList a 64)) := by
  have HI := Lib.hid (fun W => series_at d ih s (a + 2) 3 62 ((a : Int) + 2) 3 62 (by omega) (by omega) (by decide) W hs (by omega) (by omega) (by omega))
  obtain ⟨F, hF⟩ : ∃ F, F = prs d s.data.toList := ⟨_, rfl⟩
  rw [← hF] at HI ⊢
  obtain ⟨S, hS⟩ : ∃ S, S = ser F s.data.toList 62 3 (a + 2) := ⟨_, rfl⟩
  rw [← hS] at HI
  have hR : blk F s.data.toList a 64 = if s.data.toList[a + 1]? = some 60 then S.map (fun x => (.mk 12 0 x.1, x.2)) else none := by rw [hS]; rfl
  obtain ⟨R, hRR⟩ : ∃ R, R = blk F s.data.toList a 64 := ⟨_, rfl⟩
  rw [← hRR] at hR ⊢
  have HK := Lib.hid (fun W => specopsT 12 W)
  have hop : opsT 12 = 3 := rfl
  rw [hop] at HK
  clear hRR ih hF hS hop
  by_cases h1 : a + 1 < s.size
  · obtain ⟨c, hcc⟩ : ∃ c, s[a + 1] = c := ⟨_, rfl⟩
    rw [at_eq h1 hcc] at hR
    have t1 : decide ((s.size : Int) < (a : Int) + 2) = false := decide_eq_false (by omega)
    have hz1 : (a : Int) + 1 < (s.size : Int) := by omega
    obtain ⟨p, hp⟩ : ∃ p, c.toNat = p := ⟨_, rfl⟩
    by_cases h60 : c = 60
    · rw [if_pos (by rw [h60])] at hR
      have hp60 : p = 60 := by rw [← hp, h60]; rfl
      have HR := Lib.hid hR
      subst hp60
      clear hR h60
      go_enter Try.func224, Try.ntmps224
      go_wp2_with fail
      refine (HK.out _).mono ?_
      rintro e w0 ⟨rfl, rfl⟩
      go_wp2_with fail
      refine (HI.out _).mono ?_
      rintro e w1 ⟨ts, A, cap, nx, rfl, h1', h2, hK, e1, q1, q2⟩
      obtain ⟨s0, s1, s2, f0, f1, f2⟩ := own3 e1.newBlk
      have hsz := e1.size_alloc
      have hx := ((Ext.refl w).alloc (.cells #[.int .i64 0, .int .i64 0, .slice none 0 0] 44)).trans e1
      have HQ1 := Lib.hid q1
      have HQ2 := Lib.hid q2
      have hK' : FromK (w.heap.size + 1) w1 A ts := by simpa using hK
      clear q1 q2 hK
      go_wp2_with fail
      refine bodyPost_ret (v := .tuple #[.agg #[.int .i64 12, .int .i64 0, .slice A ts.length cap], .int .i64 nx]) (by simp [results, Try.results224, go_sem, s0, s1, s2]) rfl ⟨.mk 12 0 ts, _, nx, rfl, ?_, ?_, ?_, ?_⟩
      · exact (From.mk 12 0 (((hK'.set (by simp) _).set (by simp) _).set (by simp) _) h1' h2).since (by omega)
      · exact ((hx.setCell (by simp) _).setCell (by simp) _).setCell (by simp) _
      · intro x hx
        rw [HR.out] at hx
        cases S with
        | none => cases hx
        | some y =>
          obtain ⟨g1, g2, g3⟩ := HQ1.out y rfl
          cases hx
          exact ⟨by rw [g1], g2, g3⟩
      · intro hx
        rw [HR.out] at hx
        cases S with
        | none => exact HQ2.out rfl
        | some y => cases hx
    · rw [if_neg (by intro h; cases h; exact h60 rfl)] at hR
      have t2 : ((p : Int) != 60) = true := by rw [bne_iff_ne]; intro h; exact h60 (UInt8.toNat_inj.1 (by rw [hp]; simp; omega))
      have HR := Lib.hid hR
      clear hR h60
      go_enter Try.func224, Try.ntmps224
      go_wp2_with fail
      exact bodyPost_ret (v := .tuple #[.agg #[.int .i64 0, .int .i64 0, .slice none 0 0], .int .i64 (-1)]) (by simp [results, Try.results224, go_sem]) rfl (bodyBad _ _ _ _ _ HR.out ((Ext.refl w).alloc _))
  · rw [at_none s (by omega), if_neg (by simp)] at hR
    have t1 : decide ((s.size : Int) < (a : Int) + 2) = true := decide_eq_true (by omega)
    have HR := Lib.hid hR
    clear hR
    go_enter Try.func224, Try.ntmps224
    go_wp2_with fail
    exact bodyPost_ret (v := .tuple #[.agg #[.int .i64 0, .int .i64 0, .slice none 0 0], .int .i64 (-1)]) (by simp [results, Try.results224, go_sem]) rfl (bodyBad _ _ _ _ _ HR.out ((Ext.refl w).alloc _))
set_option maxRecDepth 100000 in
set_option maxHeartbeats 1000000 in
theorem block_no (d : Nat) (hd : d ≤ 30) (s : ByteArray) (a : Nat) (w : World) (hs : s.size ≤ 1000000000) (ha : a < s.size) (c : UInt8) (hc : s[a] = c) (hk : blkK c = 0) :
    Calls Try.prog 224 #[.string s, .int .i64 a, .int .i64 ((d : Int) + 1)] w (ParseQ w.heap.size w s.size (blk (prs d s.data.toList) s.data.toList a c)) := by
  have HR := Lib.hid (show blk (prs d s.data.toList) s.data.toList a c = none from by unfold blk; rw [if_pos hk])
  generalize blk (prs d s.data.toList) s.data.toList a c = R at HR ⊢
  obtain ⟨p, hp⟩ : ∃ p, c.toNat = p := ⟨_, rfl⟩
  have g1 : c ≠ 60 := fun h => by rw [h] at hk; exact absurd hk (by decide)
  have g2 : c ≠ 123 := fun h => by rw [h] at hk; exact absurd hk (by decide)
  have g3 : c ≠ 124 := fun h => by rw [h] at hk; exact absurd hk (by decide)
  have g4 : c ≠ 64 := fun h => by rw [h] at hk; exact absurd hk (by decide)
  have t1 : ((p : Int) == 60) = false := by rw [beq_eq_false_iff_ne]; intro h; exact g1 (UInt8.toNat_inj.1 (by rw [hp]; simp; omega))
  have t2 : ((p : Int) == 123) = false := by rw [beq_eq_false_iff_ne]; intro h; exact g2 (UInt8.toNat_inj.1 (by rw [hp]; simp; omega))
  have t3 : ((p : Int) == 124) = false := by rw [beq_eq_false_iff_ne]; intro h; exact g3 (UInt8.toNat_inj.1 (by rw [hp]; simp; omega))
  have t4 : ((p : Int) == 64) = false := by rw [beq_eq_false_iff_ne]; intro h; exact g4 (UInt8.toNat_inj.1 (by rw [hp]; simp; omega))
  clear g1 g2 g3 g4 hk
  go_enter Try.func224, Try.ntmps224
  go_wp2_with fail
  exact bodyPost_ret (v := .tuple #[.agg #[.int .i64 0, .int .i64 0, .slice none 0 0], .int .i64 (-1)]) (by simp [results, Try.results224, go_sem]) rfl (bodyBad _ _ _ _ _ HR.out ((Ext.refl w).alloc _))
end Go.Proofs.Ytappakllopkfiaa

namespace Go.Proofs.Ytappakllopkfiaa
open Go.RowKit
set_option linter.unusedVariables false

theorem prs_at {d : Nat} {l : List UInt8} {a : Nat} {c : UInt8} (h : l[a]? = some c) : prs (d + 1) l a =
      (if c = 35 then (numS l (a + 1) true).map (fun x => (.mk 1 x.1 [], x.2))
      else if c = 42 then (numS l (a + 1) false).map (fun x => (.mk 2 x.1 [], x.2))
      else if c = 78 then some (.mk 6 0 [], a + 1)
      else if c = 48 then some (.mk 7 0 [], a + 1)
      else if c = 43 then one 8 (prs d l (a + 1))
      else if c = 33 then one 11 (prs d l (a + 1))
      else if c = 94 then one 15 (prs d l (a + 1))
      else if c = 95 then one 16 (prs d l (a + 1))
      else if c = 40 then rnd (prs d l) l (a + 1)
      else if c = 91 then sqr (prs d l) l (a + 1)
      else blk (prs d l) l a c) := by
  conv => lhs; unfold prs
  rw [h]
theorem prs_none {d : Nat} {l : List UInt8} {a : Nat} (h : l[a]? = none) : prs d l a = none := by
  cases d with
  | zero => rfl
  | succ d =>
    unfold prs
    rw [h]
theorem numS_le {l : List UInt8} {a : Nat} {two : Bool} {x : Int × Nat} (h : numS l a two = some x) : x.2 ≤ l.length := by
  unfold numS at h
  cases h0 : l[a]? with
  | none => rw [h0] at h; cases h
  | some c =>
    have ha : a < l.length := by
      rcases Nat.lt_or_ge a l.length with g | g
      · exact g
      · rw [List.getElem?_eq_none g] at h0; cases h0
    rw [h0] at h
    simp only at h
    split at h
    · split at h
      · cases h1 : l[a + 1]? with
        | none => rw [h1] at h; cases h; exact ha
        | some d =>
          have hb : a + 1 < l.length := by
            rcases Nat.lt_or_ge (a + 1) l.length with g | g
            · exact g
            · rw [List.getElem?_eq_none g] at h1; cases h1
          rw [h1] at h
          simp only at h
          split at h
          · split at h
            · cases h
            · cases h; exact hb
          · cases h; exact ha
      · cases h; exact ha
    · cases h
set_option maxRecDepth 100000 in
set_option maxHeartbeats 1000000 in
theorem parse_35 (d : Nat) (hd : d ≤ 30) (s : ByteArray) (a : Nat) (w : World) (hs : s.size ≤ 1000000000) (ha : a < s.size) (hc : s[a] = 35) :
    Calls Try.prog 202 #[.string s, .int .i64 a, .int .i64 ((d : Int) + 1)] w (ParseQ w.heap.size w s.size (prs (d + 1) s.data.toList a)) := by
  have hR : prs (d + 1) s.data.toList a = (numS s.data.toList (a + 1) true).map (fun x => (.mk 1 x.1 [], x.2)) := by rw [prs_at (at_eq ha hc)]; rfl
  rw [hR]
  have hN := fun W => number_true s (a + 1) W hs (by omega)
  have hle : ∀ x, numS s.data.toList (a + 1) true = some x → x.2 ≤ s.size := fun x h => by have := numS_le h; simpa using this
  obtain ⟨S, hS⟩ : ∃ S, S = numS s.data.toList (a + 1) true := ⟨_, rfl⟩
  rw [← hS] at hN hle ⊢
  rw [show ((a + 1 : Nat) : Int) = (a : Int) + 1 by omega] at hN
  have HN := Lib.hid hN
  have HL := Lib.hid hle
  clear hR hN hle hS
  go_enter Try.func202, Try.ntmps202
  go_wp2_with fail
  refine (HN.out _).mono ?_
  rintro e w1 ⟨rfl, rfl⟩
  obtain ⟨x, hx⟩ : ∃ x, x = (resN S).1 := ⟨_, rfl⟩
  obtain ⟨nx, hnx⟩ : ∃ nx, nx = (resN S).2 := ⟨_, rfl⟩
  rw [← hx, ← hnx]
  have HX := Lib.hid hx
  have HNX := Lib.hid hnx
  clear hx hnx
  go_wp2_with fail
  refine (l1Leaf_any _ 1 x).mono ?_
  rintro e w2 ⟨rfl, e2⟩
  obtain ⟨s0, s1, s2, f0, f1, f2⟩ := own3 e2.newBlk
  have hsz := e2.size_alloc
  have hE := ((Ext.refl w).alloc (.cells #[.int .i64 0, .int .i64 0, .slice none 0 0] 44)).trans e2
  go_wp2_with fail
  refine bodyPost_ret (v := .tuple #[.agg #[.int .i64 1, .int .i64 x, .slice none 0 0], .int .i64 nx]) (by simp [results, Try.results202, go_sem, s0, s1, s2]) rfl ⟨.mk 1 x [], _, nx, rfl, From.leaf _ _ _ _, ((hE.setCell (by simp) _).setCell (by simp) _).setCell (by simp) _, ?_, ?_⟩
  · intro z hz
    cases S with
    | none => cases hz
    | some y =>
      cases hz
      exact ⟨by rw [HX.out]; rfl, by rw [HNX.out]; rfl, HL.out y rfl⟩
  · intro hz
    cases S with
    | none => rw [HNX.out]; rfl
    | some y => cases hz
set_option maxRecDepth 100000 in
set_option maxHeartbeats 1000000 in
theorem parse_42 (d : Nat) (hd : d ≤ 30) (s : ByteArray) (a : Nat) (w : World) (hs : s.size ≤ 1000000000) (ha : a < s.size) (hc : s[a] = 42) :
    Calls Try.prog 202 #[.string s, .int .i64 a, .int .i64 ((d : Int) + 1)] w (ParseQ w.heap.size w s.size (prs (d + 1) s.data.toList a)) := by
  have hR : prs (d + 1) s.data.toList a = (numS s.data.toList (a + 1) false).map (fun x => (.mk 2 x.1 [], x.2)) := by rw [prs_at (at_eq ha hc)]; rfl
  rw [hR]
  have hN := fun W => number_false s (a + 1) W hs (by omega)
  have hle : ∀ x, numS s.data.toList (a + 1) false = some x → x.2 ≤ s.size := fun x h => by have := numS_le h; simpa using this
  obtain ⟨S, hS⟩ : ∃ S, S = numS s.data.toList (a + 1) false := ⟨_, rfl⟩
  rw [← hS] at hN hle ⊢
  rw [show ((a + 1 : Nat) : Int) = (a : Int) + 1 by omega] at hN
  have HN := Lib.hid hN
  have HL := Lib.hid hle
  clear hR hN hle hS
  go_enter Try.func202, Try.ntmps202
  go_wp2_with fail
  refine (HN.out _).mono ?_
  rintro e w1 ⟨rfl, rfl⟩
  obtain ⟨x, hx⟩ : ∃ x, x = (resN S).1 := ⟨_, rfl⟩
  obtain ⟨nx, hnx⟩ : ∃ nx, nx = (resN S).2 := ⟨_, rfl⟩
  rw [← hx, ← hnx]
  have HX := Lib.hid hx
  have HNX := Lib.hid hnx
  clear hx hnx
  go_wp2_with fail
  refine (l1Leaf_any _ 2 x).mono ?_
  rintro e w2 ⟨rfl, e2⟩
  obtain ⟨s0, s1, s2, f0, f1, f2⟩ := own3 e2.newBlk
  have hsz := e2.size_alloc
  have hE := ((Ext.refl w).alloc (.cells #[.int .i64 0, .int .i64 0, .slice none 0 0] 44)).trans e2
  go_wp2_with fail
  refine bodyPost_ret (v := .tuple #[.agg #[.int .i64 2, .int .i64 x, .slice none 0 0], .int .i64 nx]) (by simp [results, Try.results202, go_sem, s0, s1, s2]) rfl ⟨.mk 2 x [], _, nx, rfl, From.leaf _ _ _ _, ((hE.setCell (by simp) _).setCell (by simp) _).setCell (by simp) _, ?_, ?_⟩
  · intro z hz
    cases S with
    | none => cases hz
    | some y =>
      cases hz
      exact ⟨by rw [HX.out]; rfl, by rw [HNX.out]; rfl, HL.out y rfl⟩
  · intro hz
    cases S with
    | none => rw [HNX.out]; rfl
    | some y => cases hz
set_option maxRecDepth 100000 in
theorem parse_78 (d : Nat) (hd : d ≤ 30) (s : ByteArray) (a : Nat) (w : World) (hs : s.size ≤ 1000000000) (ha : a < s.size) (hc : s[a] = 78) :
    Calls Try.prog 202 #[.string s, .int .i64 a, .int .i64 ((d : Int) + 1)] w (ParseQ w.heap.size w s.size (prs (d + 1) s.data.toList a)) := by
  have HR := Lib.hid (show prs (d + 1) s.data.toList a = some (.mk 6 0 [], a + 1) from by rw [prs_at (at_eq ha hc)]; rfl)
  generalize prs (d + 1) s.data.toList a = R at HR ⊢
  go_enter Try.func202, Try.ntmps202
  go_wp2_with fail
  refine (l1Leaf_any _ 6 0).mono ?_
  rintro e w2 ⟨rfl, e2⟩
  obtain ⟨s0, s1, s2, f0, f1, f2⟩ := own3 e2.newBlk
  have hsz := e2.size_alloc
  have hE := ((Ext.refl w).alloc (.cells #[.int .i64 0, .int .i64 0, .slice none 0 0] 44)).trans e2
  go_wp2_with fail
  refine bodyPost_ret (v := .tuple #[.agg #[.int .i64 6, .int .i64 0, .slice none 0 0], .int .i64 ((a : Int) + 1)]) (by simp [results, Try.results202, go_sem, s0, s1, s2]) rfl ⟨.mk 6 0 [], _, _, rfl, From.leaf _ _ _ _, ((hE.setCell (by simp) _).setCell (by simp) _).setCell (by simp) _, ?_, ?_⟩
  · intro z hz
    rw [HR.out] at hz
    cases hz
    exact ⟨rfl, by simp, ha⟩
  · intro hz
    rw [HR.out] at hz
    cases hz
set_option maxRecDepth 100000 in
theorem parse_48 (d : Nat) (hd : d ≤ 30) (s : ByteArray) (a : Nat) (w : World) (hs : s.size ≤ 1000000000) (ha : a < s.size) (hc : s[a] = 48) :
    Calls Try.prog 202 #[.string s, .int .i64 a, .int .i64 ((d : Int) + 1)] w (ParseQ w.heap.size w s.size (prs (d + 1) s.data.toList a)) := by
  have HR := Lib.hid (show prs (d + 1) s.data.toList a = some (.mk 7 0 [], a + 1) from by rw [prs_at (at_eq ha hc)]; rfl)
  generalize prs (d + 1) s.data.toList a = R at HR ⊢
  go_enter Try.func202, Try.ntmps202
  go_wp2_with fail
  refine (l1Leaf_any _ 7 0).mono ?_
  rintro e w2 ⟨rfl, e2⟩
  obtain ⟨s0, s1, s2, f0, f1, f2⟩ := own3 e2.newBlk
  have hsz := e2.size_alloc
  have hE := ((Ext.refl w).alloc (.cells #[.int .i64 0, .int .i64 0, .slice none 0 0] 44)).trans e2
  go_wp2_with fail
  refine bodyPost_ret (v := .tuple #[.agg #[.int .i64 7, .int .i64 0, .slice none 0 0], .int .i64 ((a : Int) + 1)]) (by simp [results, Try.results202, go_sem, s0, s1, s2]) rfl ⟨.mk 7 0 [], _, _, rfl, From.leaf _ _ _ _, ((hE.setCell (by simp) _).setCell (by simp) _).setCell (by simp) _, ?_, ?_⟩
  · intro z hz
    rw [HR.out] at hz
    cases hz
    exact ⟨rfl, by simp, ha⟩
  · intro hz
    rw [HR.out] at hz
    cases hz
/-- A callee's answer is handed on. -/
theorem ParseQ.on {B : Nat} {w : World} {size : Nat} {o : Option (Tr × Nat)} {e : Ending} {w' : World} (h : ParseQ B w size o e w') : ∃ (t : Tr) (k n : Int) (A : Option Addr) (l c : Nat) (nx : Int), e = .returned (.tuple #[.agg #[.int .i64 k, .int .i64 n, .slice A l c], .int .i64 nx]) ∧ From B w' t (.agg #[.int .i64 k, .int .i64 n, .slice A l c]) ∧ Ext w w' ∧ Hid ((∀ x, o = some x → t = x.1 ∧ nx = x.2 ∧ x.2 ≤ size) ∧ (o = none → nx = -1)) := by
  obtain ⟨t, u, nx, rfl, hF, e1, q⟩ := h
  obtain ⟨k, n, A, l, c, rfl⟩ := hF.three
  exact ⟨t, k, n, A, l, c, nx, rfl, hF, e1, Lib.hid q⟩
theorem rnd40 (d : Nat) (ih : ParseC d) (s : ByteArray) (a : Nat) (w : World) (hs : s.size ≤ 1000000000) (ha : a < s.size) :
    Calls Try.prog 223 #[.string s, .int .i64 ((a : Int) + 1), .int .i64 d] w (ParseQ w.heap.size w s.size (rnd (prs d s.data.toList) s.data.toList (a + 1))) := by
  have := round_any d ih s (a + 1) w hs ha
  rwa [show ((a + 1 : Nat) : Int) = (a : Int) + 1 by omega] at this
set_option maxRecDepth 100000 in
set_option maxHeartbeats 1000000 in
theorem parse_43 (d : Nat) (hd : d ≤ 30) (ih : ParseC d) (s : ByteArray) (a : Nat) (w : World) (hs : s.size ≤ 1000000000) (ha : a < s.size) (hc : s[a] = 43) :
    Calls Try.prog 202 #[.string s, .int .i64 a, .int .i64 ((d : Int) + 1)] w (ParseQ w.heap.size w s.size (prs (d + 1) s.data.toList a)) := by
  have HI := Lib.hid (fun W => prefix_43 d ih s a W hs ha hc hd)
  have hR := prs_at (d := d) (at_eq ha hc)
  rw [hR]
  clear hR
  repeat rw [if_neg (by decide)]
  try rw [if_pos rfl]
  clear ih
  go_enter Try.func202, Try.ntmps202
  go_wp2_with fail
  refine (HI.out _).mono ?_
  intro e w1 hq
  obtain ⟨t, k1, n1, A1, l1, c1, nx, rfl, hF, e1, HQ⟩ := hq.on
  obtain ⟨s0, s1, s2, f0, f1, f2⟩ := own3 e1.newBlk
  have hsz := e1.size_alloc
  have hE := ((Ext.refl w).alloc (.cells #[.int .i64 0, .int .i64 0, .slice none 0 0] 44)).trans e1
  have hF' : From (w.heap.size + 1) w1 t (.agg #[.int .i64 k1, .int .i64 n1, .slice A1 l1 c1]) := by simpa using hF
  clear hq hF
  go_wp2_with fail
  exact bodyPost_ret (v := .tuple #[.agg #[.int .i64 k1, .int .i64 n1, .slice A1 l1 c1], .int .i64 nx]) (by simp [results, Try.results202, go_sem, s0, s1, s2]) rfl ⟨t, _, nx, rfl, (((hF'.set (by simp) _).set (by simp) _).set (by simp) _).since (by omega), ((hE.setCell (by simp) _).setCell (by simp) _).setCell (by simp) _, HQ.out.1, HQ.out.2⟩
set_option maxRecDepth 100000 in
set_option maxHeartbeats 1000000 in
theorem parse_33 (d : Nat) (hd : d ≤ 30) (ih : ParseC d) (s : ByteArray) (a : Nat) (w : World) (hs : s.size ≤ 1000000000) (ha : a < s.size) (hc : s[a] = 33) :
    Calls Try.prog 202 #[.string s, .int .i64 a, .int .i64 ((d : Int) + 1)] w (ParseQ w.heap.size w s.size (prs (d + 1) s.data.toList a)) := by
  have HI := Lib.hid (fun W => prefix_33 d ih s a W hs ha hc hd)
  have hR := prs_at (d := d) (at_eq ha hc)
  rw [hR]
  clear hR
  repeat rw [if_neg (by decide)]
  try rw [if_pos rfl]
  clear ih
  go_enter Try.func202, Try.ntmps202
  go_wp2_with fail
  refine (HI.out _).mono ?_
  intro e w1 hq
  obtain ⟨t, k1, n1, A1, l1, c1, nx, rfl, hF, e1, HQ⟩ := hq.on
  obtain ⟨s0, s1, s2, f0, f1, f2⟩ := own3 e1.newBlk
  have hsz := e1.size_alloc
  have hE := ((Ext.refl w).alloc (.cells #[.int .i64 0, .int .i64 0, .slice none 0 0] 44)).trans e1
  have hF' : From (w.heap.size + 1) w1 t (.agg #[.int .i64 k1, .int .i64 n1, .slice A1 l1 c1]) := by simpa using hF
  clear hq hF
  go_wp2_with fail
  exact bodyPost_ret (v := .tuple #[.agg #[.int .i64 k1, .int .i64 n1, .slice A1 l1 c1], .int .i64 nx]) (by simp [results, Try.results202, go_sem, s0, s1, s2]) rfl ⟨t, _, nx, rfl, (((hF'.set (by simp) _).set (by simp) _).set (by simp) _).since (by omega), ((hE.setCell (by simp) _).setCell (by simp) _).setCell (by simp) _, HQ.out.1, HQ.out.2⟩
set_option maxRecDepth 100000 in
set_option maxHeartbeats 1000000 in
theorem parse_94 (d : Nat) (hd : d ≤ 30) (ih : ParseC d) (s : ByteArray) (a : Nat) (w : World) (hs : s.size ≤ 1000000000) (ha : a < s.size) (hc : s[a] = 94) :
    Calls Try.prog 202 #[.string s, .int .i64 a, .int .i64 ((d : Int) + 1)] w (ParseQ w.heap.size w s.size (prs (d + 1) s.data.toList a)) := by
  have HI := Lib.hid (fun W => prefix_94 d ih s a W hs ha hc hd)
  have hR := prs_at (d := d) (at_eq ha hc)
  rw [hR]
  clear hR
  repeat rw [if_neg (by decide)]
  try rw [if_pos rfl]
  clear ih
  go_enter Try.func202, Try.ntmps202
  go_wp2_with fail
  refine (HI.out _).mono ?_
  intro e w1 hq
  obtain ⟨t, k1, n1, A1, l1, c1, nx, rfl, hF, e1, HQ⟩ := hq.on
  obtain ⟨s0, s1, s2, f0, f1, f2⟩ := own3 e1.newBlk
  have hsz := e1.size_alloc
  have hE := ((Ext.refl w).alloc (.cells #[.int .i64 0, .int .i64 0, .slice none 0 0] 44)).trans e1
  have hF' : From (w.heap.size + 1) w1 t (.agg #[.int .i64 k1, .int .i64 n1, .slice A1 l1 c1]) := by simpa using hF
  clear hq hF
  go_wp2_with fail
  exact bodyPost_ret (v := .tuple #[.agg #[.int .i64 k1, .int .i64 n1, .slice A1 l1 c1], .int .i64 nx]) (by simp [results, Try.results202, go_sem, s0, s1, s2]) rfl ⟨t, _, nx, rfl, (((hF'.set (by simp) _).set (by simp) _).set (by simp) _).since (by omega), ((hE.setCell (by simp) _).setCell (by simp) _).setCell (by simp) _, HQ.out.1, HQ.out.2⟩
set_option maxRecDepth 100000 in
set_option maxHeartbeats 1000000 in
theorem parse_95 (d : Nat) (hd : d ≤ 30) (ih : ParseC d) (s : ByteArray) (a : Nat) (w : World) (hs : s.size ≤ 1000000000) (ha : a < s.size) (hc : s[a] = 95) :
    Calls Try.prog 202 #[.string s, .int .i64 a, .int .i64 ((d : Int) + 1)] w (ParseQ w.heap.size w s.size (prs (d + 1) s.data.toList a)) := by
  have HI := Lib.hid (fun W => prefix_95 d ih s a W hs ha hc hd)
  have hR := prs_at (d := d) (at_eq ha hc)
  rw [hR]
  clear hR
  repeat rw [if_neg (by decide)]
  try rw [if_pos rfl]
  clear ih
  go_enter Try.func202, Try.ntmps202
  go_wp2_with fail
  refine (HI.out _).mono ?_
  intro e w1 hq
  obtain ⟨t, k1, n1, A1, l1, c1, nx, rfl, hF, e1, HQ⟩ := hq.on
  obtain ⟨s0, s1, s2, f0, f1, f2⟩ := own3 e1.newBlk
  have hsz := e1.size_alloc
  have hE := ((Ext.refl w).alloc (.cells #[.int .i64 0, .int .i64 0, .slice none 0 0] 44)).trans e1
  have hF' : From (w.heap.size + 1) w1 t (.agg #[.int .i64 k1, .int .i64 n1, .slice A1 l1 c1]) := by simpa using hF
  clear hq hF
  go_wp2_with fail
  exact bodyPost_ret (v := .tuple #[.agg #[.int .i64 k1, .int .i64 n1, .slice A1 l1 c1], .int .i64 nx]) (by simp [results, Try.results202, go_sem, s0, s1, s2]) rfl ⟨t, _, nx, rfl, (((hF'.set (by simp) _).set (by simp) _).set (by simp) _).since (by omega), ((hE.setCell (by simp) _).setCell (by simp) _).setCell (by simp) _, HQ.out.1, HQ.out.2⟩
set_option maxRecDepth 100000 in
set_option maxHeartbeats 1000000 in
theorem parse_60 (d : Nat) (hd : d ≤ 30) (ih : ParseC d) (s : ByteArray) (a : Nat) (w : World) (hs : s.size ≤ 1000000000) (ha : a < s.size) (hc : s[a] = 60) :
    Calls Try.prog 202 #[.string s, .int .i64 a, .int .i64 ((d : Int) + 1)] w (ParseQ w.heap.size w s.size (prs (d + 1) s.data.toList a)) := by
  have HI := Lib.hid (fun W => block_60 d hd ih s a W hs ha hc)
  have hR := prs_at (d := d) (at_eq ha hc)
  rw [hR]
  clear hR
  repeat rw [if_neg (by decide)]
  try rw [if_pos rfl]
  clear ih
  go_enter Try.func202, Try.ntmps202
  go_wp2_with fail
  refine (HI.out _).mono ?_
  intro e w1 hq
  obtain ⟨t, k1, n1, A1, l1, c1, nx, rfl, hF, e1, HQ⟩ := hq.on
  obtain ⟨s0, s1, s2, f0, f1, f2⟩ := own3 e1.newBlk
  have hsz := e1.size_alloc
  have hE := ((Ext.refl w).alloc (.cells #[.int .i64 0, .int .i64 0, .slice none 0 0] 44)).trans e1
  have hF' : From (w.heap.size + 1) w1 t (.agg #[.int .i64 k1, .int .i64 n1, .slice A1 l1 c1]) := by simpa using hF
  clear hq hF
  go_wp2_with fail
  exact bodyPost_ret (v := .tuple #[.agg #[.int .i64 k1, .int .i64 n1, .slice A1 l1 c1], .int .i64 nx]) (by simp [results, Try.results202, go_sem, s0, s1, s2]) rfl ⟨t, _, nx, rfl, (((hF'.set (by simp) _).set (by simp) _).set (by simp) _).since (by omega), ((hE.setCell (by simp) _).setCell (by simp) _).setCell (by simp) _, HQ.out.1, HQ.out.2⟩
set_option maxRecDepth 100000 in
set_option maxHeartbeats 1000000 in
theorem parse_123 (d : Nat) (hd : d ≤ 30) (ih : ParseC d) (s : ByteArray) (a : Nat) (w : World) (hs : s.size ≤ 1000000000) (ha : a < s.size) (hc : s[a] = 123) :
    Calls Try.prog 202 #[.string s, .int .i64 a, .int .i64 ((d : Int) + 1)] w (ParseQ w.heap.size w s.size (prs (d + 1) s.data.toList a)) := by
  have HI := Lib.hid (fun W => block_123 d hd ih s a W hs ha hc)
  have hR := prs_at (d := d) (at_eq ha hc)
  rw [hR]
  clear hR
  repeat rw [if_neg (by decide)]
  try rw [if_pos rfl]
  clear ih
  go_enter Try.func202, Try.ntmps202
  go_wp2_with fail
  refine (HI.out _).mono ?_
  intro e w1 hq
  obtain ⟨t, k1, n1, A1, l1, c1, nx, rfl, hF, e1, HQ⟩ := hq.on
  obtain ⟨s0, s1, s2, f0, f1, f2⟩ := own3 e1.newBlk
  have hsz := e1.size_alloc
  have hE := ((Ext.refl w).alloc (.cells #[.int .i64 0, .int .i64 0, .slice none 0 0] 44)).trans e1
  have hF' : From (w.heap.size + 1) w1 t (.agg #[.int .i64 k1, .int .i64 n1, .slice A1 l1 c1]) := by simpa using hF
  clear hq hF
  go_wp2_with fail
  exact bodyPost_ret (v := .tuple #[.agg #[.int .i64 k1, .int .i64 n1, .slice A1 l1 c1], .int .i64 nx]) (by simp [results, Try.results202, go_sem, s0, s1, s2]) rfl ⟨t, _, nx, rfl, (((hF'.set (by simp) _).set (by simp) _).set (by simp) _).since (by omega), ((hE.setCell (by simp) _).setCell (by simp) _).setCell (by simp) _, HQ.out.1, HQ.out.2⟩
set_option maxRecDepth 100000 in
set_option maxHeartbeats 1000000 in
theorem parse_124 (d : Nat) (hd : d ≤ 30) (ih : ParseC d) (s : ByteArray) (a : Nat) (w : World) (hs : s.size ≤ 1000000000) (ha : a < s.size) (hc : s[a] = 124) :
    Calls Try.prog 202 #[.string s, .int .i64 a, .int .i64 ((d : Int) + 1)] w (ParseQ w.heap.size w s.size (prs (d + 1) s.data.toList a)) := by
  have HI := Lib.hid (fun W => block_124 d hd ih s a W hs ha hc)
  have hR := prs_at (d := d) (at_eq ha hc)
  rw [hR]
  clear hR
  repeat rw [if_neg (by decide)]
  try rw [if_pos rfl]
  clear ih
  go_enter Try.func202, Try.ntmps202
  go_wp2_with fail
  refine (HI.out _).mono ?_
  intro e w1 hq
  obtain ⟨t, k1, n1, A1, l1, c1, nx, rfl, hF, e1, HQ⟩ := hq.on
  obtain ⟨s0, s1, s2, f0, f1, f2⟩ := own3 e1.newBlk
  have hsz := e1.size_alloc
  have hE := ((Ext.refl w).alloc (.cells #[.int .i64 0, .int .i64 0, .slice none 0 0] 44)).trans e1
  have hF' : From (w.heap.size + 1) w1 t (.agg #[.int .i64 k1, .int .i64 n1, .slice A1 l1 c1]) := by simpa using hF
  clear hq hF
  go_wp2_with fail
  exact bodyPost_ret (v := .tuple #[.agg #[.int .i64 k1, .int .i64 n1, .slice A1 l1 c1], .int .i64 nx]) (by simp [results, Try.results202, go_sem, s0, s1, s2]) rfl ⟨t, _, nx, rfl, (((hF'.set (by simp) _).set (by simp) _).set (by simp) _).since (by omega), ((hE.setCell (by simp) _).setCell (by simp) _).setCell (by simp) _, HQ.out.1, HQ.out.2⟩
set_option maxRecDepth 100000 in
set_option maxHeartbeats 1000000 in
theorem parse_64 (d : Nat) (hd : d ≤ 30) (ih : ParseC d) (s : ByteArray) (a : Nat) (w : World) (hs : s.size ≤ 1000000000) (ha : a < s.size) (hc : s[a] = 64) :
    Calls Try.prog 202 #[.string s, .int .i64 a, .int .i64 ((d : Int) + 1)] w (ParseQ w.heap.size w s.size (prs (d + 1) s.data.toList a)) := by
  have HI := Lib.hid (fun W => block_64 d hd ih s a W hs ha hc)
  have hR := prs_at (d := d) (at_eq ha hc)
  rw [hR]
  clear hR
  repeat rw [if_neg (by decide)]
  try rw [if_pos rfl]
  clear ih
  go_enter Try.func202, Try.ntmps202
  go_wp2_with fail
  refine (HI.out _).mono ?_
  intro e w1 hq
  obtain ⟨t, k1, n1, A1, l1, c1, nx, rfl, hF, e1, HQ⟩ := hq.on
  obtain ⟨s0, s1, s2, f0, f1, f2⟩ := own3 e1.newBlk
  have hsz := e1.size_alloc
  have hE := ((Ext.refl w).alloc (.cells #[.int .i64 0, .int .i64 0, .slice none 0 0] 44)).trans e1
  have hF' : From (w.heap.size + 1) w1 t (.agg #[.int .i64 k1, .int .i64 n1, .slice A1 l1 c1]) := by simpa using hF
  clear hq hF
  go_wp2_with fail
  exact bodyPost_ret (v := .tuple #[.agg #[.int .i64 k1, .int .i64 n1, .slice A1 l1 c1], .int .i64 nx]) (by simp [results, Try.results202, go_sem, s0, s1, s2]) rfl ⟨t, _, nx, rfl, (((hF'.set (by simp) _).set (by simp) _).set (by simp) _).since (by omega), ((hE.setCell (by simp) _).setCell (by simp) _).setCell (by simp) _, HQ.out.1, HQ.out.2⟩
set_option maxRecDepth 100000 in
set_option maxHeartbeats 1000000 in
theorem parse_40 (d : Nat) (hd : d ≤ 30) (ih : ParseC d) (s : ByteArray) (a : Nat) (w : World) (hs : s.size ≤ 1000000000) (ha : a < s.size) (hc : s[a] = 40) :
    Calls Try.prog 202 #[.string s, .int .i64 a, .int .i64 ((d : Int) + 1)] w (ParseQ w.heap.size w s.size (prs (d + 1) s.data.toList a)) := by
  have HI := Lib.hid (fun W => rnd40 d ih s a W hs ha)
  have hR := prs_at (d := d) (at_eq ha hc)
  rw [hR]
  clear hR
  repeat rw [if_neg (by decide)]
  try rw [if_pos rfl]
  clear ih
  go_enter Try.func202, Try.ntmps202
  go_wp2_with fail
  refine (HI.out _).mono ?_
  intro e w1 hq
  obtain ⟨t, k1, n1, A1, l1, c1, nx, rfl, hF, e1, HQ⟩ := hq.on
  obtain ⟨s0, s1, s2, f0, f1, f2⟩ := own3 e1.newBlk
  have hsz := e1.size_alloc
  have hE := ((Ext.refl w).alloc (.cells #[.int .i64 0, .int .i64 0, .slice none 0 0] 44)).trans e1
  have hF' : From (w.heap.size + 1) w1 t (.agg #[.int .i64 k1, .int .i64 n1, .slice A1 l1 c1]) := by simpa using hF
  clear hq hF
  go_wp2_with fail
  exact bodyPost_ret (v := .tuple #[.agg #[.int .i64 k1, .int .i64 n1, .slice A1 l1 c1], .int .i64 nx]) (by simp [results, Try.results202, go_sem, s0, s1, s2]) rfl ⟨t, _, nx, rfl, (((hF'.set (by simp) _).set (by simp) _).set (by simp) _).since (by omega), ((hE.setCell (by simp) _).setCell (by simp) _).setCell (by simp) _, HQ.out.1, HQ.out.2⟩
end Go.Proofs.Ytappakllopkfiaa

namespace Go.Proofs.Ytappakllopkfiaa
open Go.RowKit
set_option linter.unusedVariables false

set_option maxRecDepth 100000 in
set_option maxHeartbeats 2000000 in
theorem parse_91 (d : Nat) (hd : d ≤ 30) (ih : ParseC d) (s : ByteArray) (a : Nat) (w : World) (hs : s.size ≤ 1000000000) (ha : a < s.size) (hc : s[a] = 91) :
    Calls Try.prog 202 #[.string s, .int .i64 a, .int .i64 ((d : Int) + 1)] w (ParseQ w.heap.size w s.size (prs (d + 1) s.data.toList a)) := by
  have hR0 : prs (d + 1) s.data.toList a = sqr (prs d s.data.toList) s.data.toList (a + 1) := by rw [prs_at (at_eq ha hc)]; rfl
  rw [hR0]
  clear hR0
  have HI := Lib.hid (fun (a : Nat) (A : Int) (hA : A = a) W (ha : a ≤ s.size + 2) => (show Calls Try.prog 202 #[.string s, .int .i64 A, .int .i64 d] W (ParseQ W.heap.size W s.size (prs d s.data.toList a)) from by subst hA; exact ih s a W hs ha))
  obtain ⟨F, hF⟩ : ∃ F, F = prs d s.data.toList := ⟨_, rfl⟩
  rw [← hF] at HI ⊢
  have hdef : sqr F s.data.toList (a + 1) = match F (a + 1) with
    | none => none
    | some (x, b) => if s.data.toList[b]? = some 93 then (match F (b + 1) with | none => none | some (y, c) => some (.mk 4 0 [x, y], c)) else none := rfl
  obtain ⟨R, hR⟩ : ∃ R, R = sqr F s.data.toList (a + 1) := ⟨_, rfl⟩
  rw [← hR] at hdef ⊢
  have HD := Lib.hid hdef
  clear hR ih hF hdef
  go_enter Try.func202, Try.ntmps202
  go_wp2_with fail
  refine (HI.out (a + 1) _ (by omega) _ (by omega)).mono ?_
  rintro e w1 ⟨t, u, nx, rfl, hF, e1, q1, q2⟩
  obtain ⟨k0, n0, A0, l0, c0, rfl⟩ := hF.three
  have hb := e1.newBlk
  have hsz := e1.size_alloc
  have hx0 := ((Ext.refl w).alloc (.cells #[.int .i64 0, .int .i64 0, .slice none 0 0] 44)).trans e1
  have hx1 := hx0.trans ((Ext.refl w1).alloc (.cells #[.int .i64 k0, .int .i64 n0, .slice A0 l0 c0] 44))
  have hF1 := hF.ext ((Ext.refl w1).alloc (.cells #[.int .i64 k0, .int .i64 n0, .slice A0 l0 c0] 44))
  simp only [World.size_alloc] at hF1
  have hb' := ((Ext.refl w1).alloc (.cells #[.int .i64 k0, .int .i64 n0, .slice A0 l0 c0] 44)).blk hb
  have hbA := heap_alloc_new w1 (.cells #[.int .i64 k0, .int .i64 n0, .slice A0 l0 c0] 44)
  cases hFa : F (a + 1) with
  | none =>
    obtain rfl := q2 hFa
    have hRn := HD.out
    rw [hFa] at hRn
    have HR := Lib.hid hRn
    obtain ⟨s0, s1, s2, f0, f1, f2⟩ := own3 hb'
    clear q1 q2 hRn hFa hsz
    go_wp2_with fail
    exact bodyPost_ret (v := .tuple #[.agg #[.int .i64 0, .int .i64 0, .slice none 0 0], .int .i64 (-1)]) (by simp [results, Try.results202, go_sem, s0, s1, s2]) rfl (bodyBad _ _ _ _ _ HR.out (((hx1.setCell (by simp) _).setCell (by simp) _).setCell (by simp) _))
  | some y =>
    obtain ⟨x, b⟩ := y
    obtain ⟨h1, h2, h3⟩ := q1 _ hFa
    simp only at h1 h2 h3
    have hRs := HD.out
    rw [hFa] at hRs
    simp only at hRs
    subst h1 h2
    clear q1 q2 hFa
    have t0 : decide ((b : Int) < 0) = false := decide_eq_false (by omega)
    by_cases hlt : b < s.size
    · obtain ⟨c, hcc⟩ : ∃ c, s[b] = c := ⟨_, rfl⟩
      rw [at_eq hlt hcc] at hRs
      have hbz : (b : Int) < (s.size : Int) := by omega
      have t1 : decide ((s.size : Int) ≤ (b : Int)) = false := decide_eq_false (by omega)
      obtain ⟨m, hm⟩ : ∃ m, c.toNat = m := ⟨_, rfl⟩
      by_cases h93 : c = 93
      · have hm93 : m = 93 := by rw [← hm, h93]; rfl
        rw [if_pos (by rw [h93])] at hRs
        subst hm93
        have HRS := Lib.hid hRs
        clear hRs h93
        go_wp2_with fail
        refine (HI.out (b + 1) _ (by omega) _ (by omega)).mono ?_
        rintro e w2 ⟨t', u', nx', rfl, hF', e2, q1, q2⟩
        obtain ⟨k1, n1, A1, l1, c1, rfl⟩ := hF'.three
        have hs2 := e2.size_alloc
        have hxa := e2.trans ((Ext.refl w2).alloc (.cells #[.int .i64 k1, .int .i64 n1, .slice A1 l1 c1] 44))
        have hb2 := hxa.blk hb'
        have hbA2 := hxa.blk hbA
        have hbB := heap_alloc_new w2 (.cells #[.int .i64 k1, .int .i64 n1, .slice A1 l1 c1] 44)
        obtain ⟨x0, x1, x2, -, -, -⟩ := own3 hbA2
        have hx2 := hx1.trans hxa
        have hF2 := hF1.ext hxa
        have hF2' := (hF'.ext ((Ext.refl w2).alloc (.cells #[.int .i64 k1, .int .i64 n1, .slice A1 l1 c1] 44))).since (show w.heap.size + 1 ≤ _ by simp; omega)
        have HQ1 := Lib.hid q1
        have HQ2 := Lib.hid q2
        clear q1 q2 hs2
        go_wp2_with fail
        refine (l1Node_from (w.heap.size + 1) _ 4 _ 2 [t, t'] (by intro h; cases h) (FromK.two (g := w2.heap.size + 1) (e := 44) hF2 hF2' (by have := e2.size_alloc; simp; omega) (by simp)) (by have := e2.size_alloc; simp; omega) (by simp)).mono ?_
        rintro e w3 ⟨v, rfl, hN, e3⟩
        obtain ⟨k3, n3, A3, l3, c3, rfl⟩ := hN.three
        obtain ⟨z0, z1, z2, g0, g1, g2⟩ := own3 (e3.blk (((Ext.refl _).alloc _).blk hb2))
        have hx3 := hx2.trans (((Ext.refl _).alloc _).trans e3)
        clear x0 x1 x2
        go_wp2_with fail
        refine bodyPost_ret (v := .tuple #[.agg #[.int .i64 k3, .int .i64 n3, .slice A3 l3 c3], .int .i64 nx']) (by simp [results, Try.results202, go_sem, z0, z1, z2]) rfl ⟨_, _, _, rfl, (((hN.set (by simp) _).set (by simp) _).set (by simp) _).since (by omega), ((hx3.setCell (by simp) _).setCell (by simp) _).setCell (by simp) _, ?_, ?_⟩
        · intro x hx
          rw [HRS.out] at hx
          cases hFb : F (b + 1) with
          | none => rw [hFb] at hx; cases hx
          | some y2 =>
            rw [hFb] at hx
            cases hx
            obtain ⟨g1, g2, g3⟩ := HQ1.out _ hFb
            exact ⟨by rw [g1], g2, g3⟩
        · intro hx
          rw [HRS.out] at hx
          cases hFb : F (b + 1) with
          | none => exact HQ2.out hFb
          | some y2 => rw [hFb] at hx; cases hx
      · rw [if_neg (by intro h; cases h; exact h93 rfl)] at hRs
        have HR := Lib.hid hRs
        have t7 : ((m : Int) != 93) = true := by rw [bne_iff_ne]; intro h; exact h93 (UInt8.toNat_inj.1 (by rw [hm]; simp; omega))
        obtain ⟨s0, s1, s2, f0, f1, f2⟩ := own3 hb'
        clear hRs h93 hsz
        go_wp2_with fail
        exact bodyPost_ret (v := .tuple #[.agg #[.int .i64 0, .int .i64 0, .slice none 0 0], .int .i64 (-1)]) (by simp [results, Try.results202, go_sem, s0, s1, s2]) rfl (bodyBad _ _ _ _ _ HR.out (((hx1.setCell (by simp) _).setCell (by simp) _).setCell (by simp) _))
    · rw [at_none s (by omega), if_neg (by simp)] at hRs
      have HR := Lib.hid hRs
      have t1 : decide ((s.size : Int) ≤ (b : Int)) = true := decide_eq_true (by omega)
      obtain ⟨s0, s1, s2, f0, f1, f2⟩ := own3 hb'
      clear hRs hsz
      go_wp2_with fail
      exact bodyPost_ret (v := .tuple #[.agg #[.int .i64 0, .int .i64 0, .slice none 0 0], .int .i64 (-1)]) (by simp [results, Try.results202, go_sem, s0, s1, s2]) rfl (bodyBad _ _ _ _ _ HR.out (((hx1.setCell (by simp) _).setCell (by simp) _).setCell (by simp) _))
theorem byte_ne {c : UInt8} {p : Nat} {v : UInt8} (hp : c.toNat = p) (h : c ≠ v) : ((p : Int) == (v.toNat : Int)) = false := by
  rw [beq_eq_false_iff_ne]
  intro e
  exact h (UInt8.toNat_inj.1 (by rw [hp]; omega))
set_option maxRecDepth 100000 in
set_option maxHeartbeats 1000000 in
theorem parse_no (d : Nat) (hd : d ≤ 30) (s : ByteArray) (a : Nat) (w : World) (hs : s.size ≤ 1000000000) (ha : a < s.size) (c : UInt8) (hc : s[a] = c)
    (h1 : c ≠ 35) (h2 : c ≠ 42) (h3 : c ≠ 78) (h4 : c ≠ 48) (h5 : c ≠ 43) (h6 : c ≠ 33) (h7 : c ≠ 94) (h8 : c ≠ 95) (h9 : c ≠ 40) (h10 : c ≠ 91) (hk : blkK c = 0) :
    Calls Try.prog 202 #[.string s, .int .i64 a, .int .i64 ((d : Int) + 1)] w (ParseQ w.heap.size w s.size (prs (d + 1) s.data.toList a)) := by
  have HI := Lib.hid (fun W => block_no d hd s a W hs ha c hc hk)
  have hR := prs_at (d := d) (at_eq ha hc)
  rw [if_neg h1, if_neg h2, if_neg h3, if_neg h4, if_neg h5, if_neg h6, if_neg h7, if_neg h8, if_neg h9, if_neg h10] at hR
  rw [hR]
  obtain ⟨p, hp⟩ : ∃ p, c.toNat = p := ⟨_, rfl⟩
  have t1 : ((p : Int) == 35) = false := byte_ne hp h1
  have t2 : ((p : Int) == 42) = false := byte_ne hp h2
  have t3 : ((p : Int) == 78) = false := byte_ne hp h3
  have t4 : ((p : Int) == 48) = false := byte_ne hp h4
  have t5 : ((p : Int) == 43) = false := byte_ne hp h5
  have t6 : ((p : Int) == 33) = false := byte_ne hp h6
  have t7 : ((p : Int) == 94) = false := byte_ne hp h7
  have t8 : ((p : Int) == 95) = false := byte_ne hp h8
  have t9 : ((p : Int) == 40) = false := byte_ne hp h9
  have t10 : ((p : Int) == 91) = false := byte_ne hp h10
  clear hR h1 h2 h3 h4 h5 h6 h7 h8 h9 h10 hk
  go_enter Try.func202, Try.ntmps202
  go_wp2_with fail
  refine (HI.out _).mono ?_
  intro e w1 hq
  obtain ⟨t, k1, n1, A1, l1, c1, nx, rfl, hF, e1, HQ⟩ := hq.on
  obtain ⟨s0, s1, s2, f0, f1, f2⟩ := own3 e1.newBlk
  have hsz := e1.size_alloc
  have hE := ((Ext.refl w).alloc (.cells #[.int .i64 0, .int .i64 0, .slice none 0 0] 44)).trans e1
  have hF' : From (w.heap.size + 1) w1 t (.agg #[.int .i64 k1, .int .i64 n1, .slice A1 l1 c1]) := by simpa using hF
  clear hq hF
  go_wp2_with fail
  exact bodyPost_ret (v := .tuple #[.agg #[.int .i64 k1, .int .i64 n1, .slice A1 l1 c1], .int .i64 nx]) (by simp [results, Try.results202, go_sem, s0, s1, s2]) rfl ⟨t, _, nx, rfl, (((hF'.set (by simp) _).set (by simp) _).set (by simp) _).since (by omega), ((hE.setCell (by simp) _).setCell (by simp) _).setCell (by simp) _, HQ.out.1, HQ.out.2⟩
set_option maxRecDepth 100000 in
theorem parse_zero (s : ByteArray) (a : Nat) (w : World) : Calls Try.prog 202 #[.string s, .int .i64 a, .int .i64 0] w (ParseQ w.heap.size w s.size none) := by
  go_enter Try.func202, Try.ntmps202
  go_wp2_with fail
  exact bodyPost_ret (v := .tuple #[.agg #[.int .i64 0, .int .i64 0, .slice none 0 0], .int .i64 (-1)]) (by simp [results, Try.results202, go_sem]) rfl (bodyBad _ _ _ _ _ rfl ((Ext.refl w).alloc _))
set_option maxRecDepth 100000 in
theorem parse_far (d : Nat) (hd : d ≤ 30) (s : ByteArray) (a : Nat) (w : World) (hs : s.size ≤ 1000000000) (ha : s.size ≤ a) : Calls Try.prog 202 #[.string s, .int .i64 a, .int .i64 ((d : Int) + 1)] w (ParseQ w.heap.size w s.size none) := by
  have t0 : decide ((a : Int) < 0) = false := decide_eq_false (by omega)
  have t1 : decide ((s.size : Int) ≤ (a : Int)) = true := decide_eq_true (by omega)
  go_enter Try.func202, Try.ntmps202
  go_wp2_with fail
  exact bodyPost_ret (v := .tuple #[.agg #[.int .i64 0, .int .i64 0, .slice none 0 0], .int .i64 (-1)]) (by simp [results, Try.results202, go_sem]) rfl (bodyBad _ _ _ _ _ rfl ((Ext.refl w).alloc _))
theorem parse_any : ∀ d : Nat, d ≤ 30 → ParseC d
  | 0, _ => fun s a w hs ha => parse_zero s a w
  | d + 1, hd => by
    have ih := parse_any d (by omega)
    intro s a w hs ha
    rw [show ((d + 1 : Nat) : Int) = (d : Int) + 1 by omega]
    have hd' : d ≤ 30 := by omega
    rcases Nat.lt_or_ge a s.size with hlt | hge
    · obtain ⟨c, hc⟩ : ∃ c, s[a] = c := ⟨_, rfl⟩
      by_cases h35 : c = 35
      · exact parse_35 d hd' s a w hs hlt (by rw [hc, h35])
      by_cases h42 : c = 42
      · exact parse_42 d hd' s a w hs hlt (by rw [hc, h42])
      by_cases h78 : c = 78
      · exact parse_78 d hd' s a w hs hlt (by rw [hc, h78])
      by_cases h48 : c = 48
      · exact parse_48 d hd' s a w hs hlt (by rw [hc, h48])
      by_cases h43 : c = 43
      · exact parse_43 d hd' ih s a w hs hlt (by rw [hc, h43])
      by_cases h33 : c = 33
      · exact parse_33 d hd' ih s a w hs hlt (by rw [hc, h33])
      by_cases h94 : c = 94
      · exact parse_94 d hd' ih s a w hs hlt (by rw [hc, h94])
      by_cases h95 : c = 95
      · exact parse_95 d hd' ih s a w hs hlt (by rw [hc, h95])
      by_cases h40 : c = 40
      · exact parse_40 d hd' ih s a w hs hlt (by rw [hc, h40])
      by_cases h91 : c = 91
      · exact parse_91 d hd' ih s a w hs hlt (by rw [hc, h91])
      by_cases h60 : c = 60
      · exact parse_60 d hd' ih s a w hs hlt (by rw [hc, h60])
      by_cases h123 : c = 123
      · exact parse_123 d hd' ih s a w hs hlt (by rw [hc, h123])
      by_cases h124 : c = 124
      · exact parse_124 d hd' ih s a w hs hlt (by rw [hc, h124])
      by_cases h64 : c = 64
      · exact parse_64 d hd' ih s a w hs hlt (by rw [hc, h64])
      exact parse_no d hd' s a w hs hlt c hc h35 h42 h78 h48 h43 h33 h94 h95 h40 h91 (by unfold blkK; rw [if_neg h60, if_neg h123, if_neg h124, if_neg h64])
    · rw [prs_none (at_none s hge)]
      exact parse_far d hd' s a w hs hge
end Go.Proofs.Ytappakllopkfiaa

namespace Go.Proofs.Ytappakllopkfiaa
open Go.RowKit
set_option linter.unusedVariables false

theorem ofL_tl (l : List UInt8) : (ofL l).toList = l := by rw [ByteArray.toList_eq, ofL_list]
theorem prsV_some {l : List UInt8} {t : Tr} {b : Nat} (h : prs 30 l 0 = some (t, b)) : prsV l = if l ≠ [] ∧ b = l.length ∧ fmtV t = l then some t else none := by
  unfold prsV
  rw [h]
theorem prsV_none {l : List UInt8} (h : prs 30 l 0 = none) : prsV l = none := by
  unfold prsV
  rw [h]
set_option maxRecDepth 100000 in
set_option maxHeartbeats 1000000 in
theorem parseTerm_any (s : ByteArray) (w : World) (hs : s.size ≤ 1000000000) : Calls Try.prog 181 #[.string s] w fun e w' => ∃ u, e = .returned (.tuple #[u, .bool (prsV s.data.toList).isSome]) ∧ From w.heap.size w' ((prsV s.data.toList).getD (.mk 0 0 [])) u ∧ Ext w w' := by
  have HP := Lib.hid (fun W => (show Calls Try.prog 202 #[.string s, .int .i64 0, .int .i64 30] W (ParseQ W.heap.size W s.size (prs 30 s.data.toList 0)) from parse_any 30 (by omega) s 0 W hs (by omega)))
  have hlen : s.data.toList.length = s.size := by rw [Array.length_toList]; rfl
  have htl := ByteArray.toList_eq s
  obtain ⟨R, hR⟩ : ∃ R, R = prsV s.data.toList := ⟨_, rfl⟩
  rw [← hR]
  obtain ⟨F, hF0⟩ : ∃ F, F = prs 30 s.data.toList 0 := ⟨_, rfl⟩
  rw [← hF0] at HP
  cases F with
  | none =>
    have hRn : R = none := by rw [hR]; exact prsV_none hF0.symm
    have HR := Lib.hid hRn
    obtain ⟨be, hbe⟩ : ∃ be, s.toList.isEmpty = be := ⟨_, rfl⟩
    have hbe2 : (s.toList == []) = be := by rw [← hbe]; cases s.toList <;> rfl
    have t1 : ((-1 : Int) != (s.size : Int)) = true := by rw [bne_iff_ne]; omega
    clear hR hF0 hlen htl hRn
    cases be
    all_goals (
      go_enter Try.func181, Try.ntmps181
      go_wp2_with fail
      refine (HP.out _).mono ?_
      rintro e w1 ⟨t, u, nx, rfl, hF, e1, -, q2⟩
      obtain rfl := q2 rfl
      obtain ⟨k0, n0, A0, l0, c0, rfl⟩ := hF.three
      have hx1 := (((Ext.refl w).alloc (.cells #[.int .i64 0, .int .i64 0, .slice none 0 0] 44)).trans e1).trans ((Ext.refl w1).alloc (.cells #[.int .i64 k0, .int .i64 n0, .slice A0 l0 c0] 44))
      have hb' := ((Ext.refl w1).alloc (.cells #[.int .i64 k0, .int .i64 n0, .slice A0 l0 c0] 44)).blk e1.newBlk
      obtain ⟨s0, s1, s2, f0, f1, f2⟩ := own3 hb'
      clear hb' q2
      go_wp2_with fail
      exact bodyPost_ret (v := .tuple #[.agg #[.int .i64 0, .int .i64 0, .slice none 0 0], .bool false]) (by simp [results, Try.results181, go_sem, s0, s1, s2]) rfl ⟨_, by rw [HR.out]; rfl, by rw [HR.out]; exact From.leaf _ _ _ _, ((hx1.setCell (by simp) _).setCell (by simp) _).setCell (by simp) _⟩)
  | some y =>
    obtain ⟨t, b⟩ := y
    have hRs : R = if s.data.toList ≠ [] ∧ b = s.data.toList.length ∧ fmtV t = s.data.toList then some t else none := by rw [hR]; exact prsV_some hF0.symm
    have hne : s.data.toList ≠ [] := by
      intro h
      rw [h] at hF0
      rw [prs_none (by simp)] at hF0
      cases hF0
    have hbe : s.toList.isEmpty = false := by rw [htl]; cases hq : s.data.toList with | nil => exact absurd hq hne | cons => rfl
    have hbe2 : (s.toList == []) = false := by rw [htl]; cases hq : s.data.toList with | nil => exact absurd hq hne | cons => rfl
    have hbe3 : ¬ (s.toList = []) := by rw [htl]; exact hne
    rw [hlen] at hRs
    by_cases hb : b = s.size
    · obtain ⟨fv, hfv⟩ : ∃ fv, fv = fmtV t := ⟨_, rfl⟩
      rw [← hfv] at hRs
      have HF := Lib.hid (fun W v (h : Lies W t v) => formatTerm_any t W v h)
      rw [← hfv] at HF
      have t1 : ((b : Int) != (s.size : Int)) = false := by simp [hb]
      obtain ⟨bq, hbq⟩ : ∃ bq, ((ofL fv).toList == s.toList) = bq := ⟨_, rfl⟩
      have hRb : R = if bq = true then some t else none := by
        rw [hRs, ← hbq, ofL_tl, htl]
        by_cases hq : fv = s.data.toList
        · rw [if_pos ⟨hne, hb, hq⟩, if_pos (by rw [hq]; simp)]
        · rw [if_neg (fun h => hq h.2.2), if_neg (by simpa using hq)]
      have HR := Lib.hid hRb
      have HFV := Lib.hid hbq
      clear hR hF0 hRs hne htl hfv hRb hlen hb
      go_enter Try.func181, Try.ntmps181
      go_wp2_with fail
      refine (HP.out _).mono ?_
      rintro e w1 ⟨t', u, nx, rfl, hF, e1, q1, -⟩
      obtain ⟨h1, h2, h3⟩ := q1 _ rfl
      simp only at h1 h2 h3
      subst h1 h2
      obtain ⟨k0, n0, A0, l0, c0, rfl⟩ := hF.three
      have hsz := e1.size_alloc
      have hx1 := (((Ext.refl w).alloc (.cells #[.int .i64 0, .int .i64 0, .slice none 0 0] 44)).trans e1).trans ((Ext.refl w1).alloc (.cells #[.int .i64 k0, .int .i64 n0, .slice A0 l0 c0] 44))
      have hb' := ((Ext.refl w1).alloc (.cells #[.int .i64 k0, .int .i64 n0, .slice A0 l0 c0] 44)).blk e1.newBlk
      have hbT := heap_alloc_new w1 (.cells #[.int .i64 k0, .int .i64 n0, .slice A0 l0 c0] 44)
      have hFT : From (w.heap.size + 1) (w1.alloc (.cells #[.int .i64 k0, .int .i64 n0, .slice A0 l0 c0] 44)) t' (.agg #[.int .i64 k0, .int .i64 n0, .slice A0 l0 c0]) := by simpa using hF.ext ((Ext.refl w1).alloc (.cells #[.int .i64 k0, .int .i64 n0, .slice A0 l0 c0] 44))
      clear hF hsz q1
      go_wp2_with fail
      refine (HF.out _ _ hFT.lies).mono ?_
      rintro e w2 ⟨rfl, e2⟩
      have hx2 := hx1.trans e2
      have hF2 := hFT.ext e2
      obtain ⟨s0, s1, s2, f0, f1, f2⟩ := own3 (e2.blk hb')
      obtain ⟨x0, x1, x2, -, -, -⟩ := own3 (e2.blk hbT)
      have hq := HFV.out
      clear hb' hbT
      cases bq with
      | false =>
        go_wp2_with fail
        exact bodyPost_ret (v := .tuple #[.agg #[.int .i64 0, .int .i64 0, .slice none 0 0], .bool false]) (by simp [results, Try.results181, go_sem, s0, s1, s2]) rfl ⟨_, by rw [HR.out]; rfl, by rw [HR.out]; exact From.leaf _ _ _ _, ((hx2.setCell (by simp) _).setCell (by simp) _).setCell (by simp) _⟩
      | true =>
        go_wp2_with fail
        exact bodyPost_ret (v := .tuple #[.agg #[.int .i64 k0, .int .i64 n0, .slice A0 l0 c0], .bool true]) (by simp [results, Try.results181, go_sem, s0, s1, s2]) rfl ⟨_, by rw [HR.out]; rfl, by rw [HR.out]; exact (((hF2.set (by simp) _).set (by simp) _).set (by simp) _).since (by omega), ((hx2.setCell (by simp) _).setCell (by simp) _).setCell (by simp) _⟩
    · have hRn : R = none := by rw [hRs, if_neg (fun h => hb h.2.1)]
      have HR := Lib.hid hRn
      have t1 : ((b : Int) != (s.size : Int)) = true := by rw [bne_iff_ne]; omega
      clear hR hF0 hRs hne htl hRn hlen hb
      go_enter Try.func181, Try.ntmps181
      go_wp2_with fail
      refine (HP.out _).mono ?_
      rintro e w1 ⟨t', u, nx, rfl, hF, e1, q1, -⟩
      obtain ⟨h1, h2, h3⟩ := q1 _ rfl
      simp only at h1 h2 h3
      subst h1 h2
      obtain ⟨k0, n0, A0, l0, c0, rfl⟩ := hF.three
      have hx1 := (((Ext.refl w).alloc (.cells #[.int .i64 0, .int .i64 0, .slice none 0 0] 44)).trans e1).trans ((Ext.refl w1).alloc (.cells #[.int .i64 k0, .int .i64 n0, .slice A0 l0 c0] 44))
      have hb' := ((Ext.refl w1).alloc (.cells #[.int .i64 k0, .int .i64 n0, .slice A0 l0 c0] 44)).blk e1.newBlk
      obtain ⟨s0, s1, s2, f0, f1, f2⟩ := own3 hb'
      clear hb' q1
      go_wp2_with fail
      exact bodyPost_ret (v := .tuple #[.agg #[.int .i64 0, .int .i64 0, .slice none 0 0], .bool false]) (by simp [results, Try.results181, go_sem, s0, s1, s2]) rfl ⟨_, by rw [HR.out]; rfl, by rw [HR.out]; exact From.leaf _ _ _ _, ((hx1.setCell (by simp) _).setCell (by simp) _).setCell (by simp) _⟩
end Go.Proofs.Ytappakllopkfiaa

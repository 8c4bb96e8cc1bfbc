/-
  Lemmas towards the law, 13: Parse3.
-/
import Derived.Test.YtolkohncmidpeaaGreatDoorGAL
namespace Go.Proofs.YtolkohncmidpeaaGreatDoor
open Go.RowKit
set_option linter.unusedVariables false
/-- What the reader of a series hands back. -/
def SerQ (B : Nat) (w : World) (size : Nat) (o : Option (List Tr × Nat)) (e : Ending) (w' : World) : Prop :=
  ∃ (ts : List Tr) (A : Option Addr) (cap : Nat) (nx : Int), e = .returned (.tuple #[.slice A ts.length cap, .int .i64 nx]) ∧ ts.length ≤ cap ∧ cap ≤ maxLen ∧ FromK B w' A ts ∧ Ext w w' ∧ (∀ x, o = some x → ts = x.1 ∧ nx = x.2 ∧ x.2 ≤ size) ∧ (o = none → nx = -1)
theorem infoTermS : (Tryz.prog.info? 45).map (fun i => (i.zero, i.size, i.bytes)) = some (some (.agg #[.int .i64 0, .int .i64 0, .slice none 0 0]), 3, 40) := by kernel_rfl
theorem ser_step {p : Nat → Option (Tr × Nat)} {l : List UInt8} {last : UInt8} {m a b : Nat} {t : Tr} (h : p a = some (t, b)) : ser p l last (m + 1) a = if l[b]? = some (if m = 0 then last else 44) then (ser p l last m (b + 1)).map (fun x => (t :: x.1, x.2)) else none := by
  conv => lhs; unfold ser
  rw [h]
theorem ser_fail {p : Nat → Option (Tr × Nat)} {l : List UInt8} {last : UInt8} {m a : Nat} (h : p a = none) : ser p l last (m + 1) a = none := by
  conv => lhs; unfold ser
  rw [h]
set_option maxRecDepth 100000 in
set_option maxHeartbeats 4000000 in
theorem series_any (d : Nat) (ih : ParseC d) (s : ByteArray) (a many : Nat) (last : UInt8) (w : World) (hs : s.size ≤ 1000000000) (ha : a ≤ s.size + 2) (hm : many ≤ 4) (hm1 : 1 ≤ many) :
    Calls Tryz.prog 160 #[.string s, .int .i64 a, .int .i64 d, .int .i64 many, .int .u8 (last.toNat : Int)] w (SerQ w.heap.size w s.size (ser (prs d s.data.toList) s.data.toList last many a)) := by
  have HI := Lib.hid (fun a W (ha : a ≤ s.size + 2) => ih s a W hs ha)
  obtain ⟨F, hF⟩ : ∃ F, F = prs d s.data.toList := ⟨_, rfl⟩
  rw [← hF] at HI ⊢
  obtain ⟨R, hR⟩ : ∃ R, R = ser F s.data.toList last many a := ⟨_, rfl⟩
  rw [← hR]
  have HR := Lib.hid hR
  obtain ⟨i0, hi, hz0, hz1, hz2⟩ := info_parts infoTermS
  obtain ⟨q, hq⟩ : ∃ q, last.toNat = q := ⟨_, rfl⟩
  rw [hq]
  have HLQ := Lib.hid hq
  clear hR ih hF hq
  go_enter Tryz.func160, Tryz.ntmps160
  go_wp2_with fail
  have hx0 := (Ext.refl w).alloc (.cells #[] 45)
  have hb0 := heap_alloc_new w (.cells #[] 45)
  have hs0 : w.heap.size < (w.alloc (.cells #[] 45)).heap.size := by simp
  generalize World.alloc w _ = w1 at hx0 hb0 hs0
  go_loopw [1, 12, 13] (fun at_ o i wr => ∃ (j a' : Nat) (ts : List Tr), j ≤ many ∧ at_ = .int .i64 a' ∧ i = .int .i64 j ∧ a' ≤ s.size + 2 ∧ GrowS (· < w.heap.size) w wr 45 o ts ∧ ts.length = j ∧ Ext w wr ∧ w.heap.size < wr.heap.size ∧ R = (ser F s.data.toList last (many - j) a').map (fun x => (ts ++ x.1, x.2)) ∧ (j = many → a' ≤ s.size)) (fun _ _ i _ => many - (intOf i).toNat)
  case atStart => exact ⟨0, a, [], Nat.zero_le _, rfl, rfl, ha, GrowS.lit hb0 (Nat.le_refl _), rfl, hx0, hs0, by rw [HR.out]; simp, by omega⟩
  case round =>
    obtain ⟨j, a', ts, hj, rfl, rfl, ha', hG, htl, hx, hsz, heq, hend⟩ := hrel
    have HE := Lib.hid heq
    have HTL := Lib.hid htl
    have htl4 : ts.length ≤ 4 := by omega
    clear htl
    obtain ⟨Bo, co, rfl, hl1, hl2, hKo, -⟩ := hG.lies (fun b hb => hb)
    clear heq
    by_cases hlt : j < many
    · have hjz : (j : Int) < (many : Int) := by omega
      have HND := Lib.hid hend
      clear hend
      go_wp2_with fail
      refine (HI.out a' wr ha').mono ?_
      rintro e w2 ⟨t, u, nx, rfl, hF, e2, q1, q2⟩
      obtain ⟨k0, n0, A0, l0, c0, rfl⟩ := hF.three
      have hs2 := e2.size
      have hxa := e2.trans ((Ext.refl w2).alloc (.cells #[.int .i64 k0, .int .i64 n0, .slice A0 l0 c0] 45))
      cases hFa : F a' with
      | none =>
        obtain rfl := q2 hFa
        have hRn : R = none := by
          rw [HE.out, show many - j = (many - j - 1) + 1 by omega, ser_fail hFa]
          rfl
        have HRn := Lib.hid hRn
        clear q1 q2 hRn hFa
        go_wp2_with fail
        go_ret2
        exact ⟨[], none, 0, -1, rfl, Nat.le_refl _, Nat.zero_le _, .inl rfl, hx.trans hxa, (fun x hx => by rw [HRn.out] at hx; cases hx), fun _ => rfl⟩
      | some y =>
        obtain ⟨t', b⟩ := y
        obtain ⟨h1, h2, h3⟩ := q1 _ hFa
        simp only at h1 h2 h3
        subst h1 h2
        have hst := HE.out
        rw [show many - j = (many - (j + 1)) + 1 by omega, ser_step hFa] at hst
        clear q1 q2 hFa
        have t0 : decide ((b : Int) < 0) = false := decide_eq_false (by omega)
        by_cases hlb : b < s.size
        · obtain ⟨c, hc⟩ : ∃ c, s[b] = c := ⟨_, rfl⟩
          rw [at_eq hlb hc] at hst
          have hbz : (b : Int) < (s.size : Int) := by omega
          have t1 : decide ((s.size : Int) ≤ (b : Int)) = false := decide_eq_false (by omega)
          obtain ⟨p, hp⟩ : ∃ p, c.toNat = p := ⟨_, rfl⟩
          obtain ⟨want, hw⟩ : ∃ want : UInt8, want = if many - (j + 1) = 0 then last else 44 := ⟨_, rfl⟩
          rw [← hw] at hst
          by_cases hcw : c = want
          · rw [if_pos (by rw [hcw])] at hst
            have HST := Lib.hid hst
            have hG2 := hG.ext hxa
            have hlitG : ∀ o', GrowS (· < w.heap.size) w (w2.alloc (.cells #[.int .i64 k0, .int .i64 n0, .slice A0 l0 c0] 45)) 45 o' ts → True := fun _ _ => trivial
            have hown : ∀ g, (Value.slice Bo ts.length co).ownBlock = some g → g < wr.heap.size := by
              obtain ⟨xs, g1, -⟩ := hG
              exact fun g hg => (g1.lt g hg).2
            have HOWN := Lib.hid hown
            have hFx := (hF.ext ((Ext.refl w2).alloc (.cells #[.int .i64 k0, .int .i64 n0, .slice A0 l0 c0] 45))).ext ((Ext.refl _).alloc (.cells #[.int .i64 k0, .int .i64 n0, .slice A0 l0 c0] 45))
            have hGx := hG2.ext ((Ext.refl _).alloc (.cells #[.int .i64 k0, .int .i64 n0, .slice A0 l0 c0] 45))
            have hbz2 := heap_alloc_new (w2.alloc (.cells #[.int .i64 k0, .int .i64 n0, .slice A0 l0 c0] 45)) (.cells #[.int .i64 k0, .int .i64 n0, .slice A0 l0 c0] 45)
            simp only [World.size_alloc] at hbz2
            have hT : InT ((w2.alloc (.cells #[.int .i64 k0, .int .i64 n0, .slice A0 l0 c0] 45)).alloc (.cells #[.int .i64 k0, .int .i64 n0, .slice A0 l0 c0] 45)) (fun b => b < ((w2.alloc (.cells #[.int .i64 k0, .int .i64 n0, .slice A0 l0 c0] 45)).alloc (.cells #[.int .i64 k0, .int .i64 n0, .slice A0 l0 c0] 45)).heap.size ∧ (Value.slice Bo ts.length co).ownBlock ≠ some b ∧ ¬ (b < w.heap.size)) t (.agg #[.int .i64 k0, .int .i64 n0, .slice A0 l0 c0]) := hFx.mono (fun b hb => ⟨hb.2, fun h => by have := HOWN.out b h; omega, by omega⟩) (fun _ _ => rfl)
            have HT := Lib.hid hT
            have HGX := Lib.hid hGx
            have HW := Lib.hid hw
            clear hst hw hG hG2 hT hFx hF hown hGx hlitG hKo
            have hfin : (j + 1 < many ∧ p = 44 ∧ ((j : Int) + 1 == (many : Int)) = false) ∨ (many ≤ j + 1 ∧ p = q ∧ ((j : Int) + 1 == (many : Int)) = true) := by
              rcases Nat.lt_or_ge (j + 1) many with g | g
              · refine .inl ⟨g, ?_, by rw [beq_eq_false_iff_ne]; omega⟩
                have := hcw
                rw [HW.out, if_neg (by omega)] at this
                rw [← hp, this]; rfl
              · refine .inr ⟨g, ?_, by rw [beq_iff_eq]; omega⟩
                have := hcw
                rw [HW.out, if_pos (by omega)] at this
                rw [← hp, this, HLQ.out]
            clear hcw
            rcases hfin with ⟨g1, rfl, g3⟩ | ⟨g1, rfl, g3⟩
            all_goals (
              have gz : (j : Int) + 1 < (many : Int) ∨ (many : Int) ≤ (j : Int) + 1 := by omega
              have gd : decide ((j : Int) + 1 < (many : Int)) = decide (j + 1 < many) := decide_eq_decide.2 (by omega)
              clear gz)
            all_goals (
              have h44 : ((44 : Int) != 44) = false := by decide
              go_wp2_with (at_builtin; refine wpList_append_treeS _ rfl (.tmp 62) (.tmp 64) _ (by rfl) 45 i0 _ Tryz.underlying43 hi hz0 hz1 hz2 rfl (by rfl) (X := (· < w.heap.size)) (W := w) (tr := t) HGX.out (by simp; omega) HT.out (by rfl) hbz2 (by omega) ?_ (fun b hb => hb))
              intro v' w5 hG5 hB5
              obtain ⟨B5, c5, rfl, r1, r2, -, -⟩ := hG5.lies (fun b hb => hb)
              have hx5 : Ext w w5 := Below.trans (hx.trans (hxa.trans ((Ext.refl _).alloc (.cells #[.int .i64 k0, .int .i64 n0, .slice A0 l0 c0] 45)))) hB5
              have hs5 := hB5.size
              have HG5 := Lib.hid hG5
              have hs5' : w.heap.size < w5.heap.size := by simp at hs5; omega
              clear hG5 hB5 hs5 hbz2
              go_wp2_with fail
              go_roundw
              case rel => exact ⟨j + 1, b + 1, ts ++ [t], by omega, by go_num, by go_num, by omega, HG5.out, by rw [List.length_append, HTL.out]; rfl, hx5, hs5', by rw [HST.out, Option.map_map]; congr 1; funext x; simp, by omega⟩
              case measure => simp [intOf]; omega)
          · rw [if_neg (by intro h; cases h; exact hcw rfl)] at hst
            have HRn := Lib.hid (show R = none from by rw [hst]; rfl)
            have hfin : (j + 1 < many ∧ ((p : Int) != 44) = true) ∨ (many ≤ j + 1 ∧ ((p : Int) != (q : Int)) = true ∧ ((j : Int) + 1 == (many : Int)) = true) := by
              rcases Nat.lt_or_ge (j + 1) many with g | g
              · refine .inl ⟨g, ?_⟩
                rw [bne_iff_ne]
                intro h
                rw [hw, if_neg (by omega)] at hcw
                exact hcw (UInt8.toNat_inj.1 (by rw [hp]; simp; omega))
              · refine .inr ⟨g, ?_, by rw [beq_iff_eq]; omega⟩
                rw [bne_iff_ne]
                intro h
                rw [hw, if_pos (by omega)] at hcw
                exact hcw (UInt8.toNat_inj.1 (by rw [hp, HLQ.out]; omega))
            clear hst hw hcw hG hKo
            rcases hfin with ⟨g1, g2⟩ | ⟨g1, g2, g3⟩
            all_goals (
              go_wp2_with fail
              go_ret2
              exact ⟨[], none, 0, -1, rfl, Nat.le_refl _, Nat.zero_le _, .inl rfl, hx.trans hxa, (fun x hx => by rw [HRn.out] at hx; cases hx), fun _ => rfl⟩)
        · rw [at_none s (by omega), if_neg (by simp)] at hst
          have HRn := Lib.hid (show R = none from by rw [hst]; rfl)
          have t1 : decide ((s.size : Int) ≤ (b : Int)) = true := decide_eq_true (by omega)
          clear hst hG hKo
          go_wp2_with fail
          go_ret2
          exact ⟨[], none, 0, -1, rfl, Nat.le_refl _, Nat.zero_le _, .inl rfl, hx.trans hxa, (fun x hx => by rw [HRn.out] at hx; cases hx), fun _ => rfl⟩
    · have hjm : j = many := by omega
      have hRs : R = some (ts, a') := by
        rw [HE.out, hjm, Nat.sub_self]
        simp [ser]
      have HRs := Lib.hid hRs
      have hK2 : FromK w.heap.size wr Bo ts := hKo.mono (fun b hb => ⟨by omega, hb.1⟩) (fun _ _ => rfl)
      have hE2 := hend hjm
      clear hRs hend hKo hG
      go_wp2_with fail
      go_ret2
      refine ⟨ts, Bo, co, (a' : Int), ?_, hl1, hl2, hK2, hx, ?_, ?_⟩
      · rfl
      · intro x hx
        rw [HRs.out] at hx
        cases hx
        exact ⟨rfl, rfl, hE2⟩
      · intro hx
        rw [HRs.out] at hx
        cases hx
end Go.Proofs.YtolkohncmidpeaaGreatDoor

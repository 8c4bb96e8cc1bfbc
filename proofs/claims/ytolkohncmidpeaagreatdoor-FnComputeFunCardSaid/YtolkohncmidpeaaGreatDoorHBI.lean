/-
  Lemmas towards the law, 35: ReadN, TermT.
-/
import Derived.Test.YtolkohncmidpeaaGreatDoorHAF
import Derived.Test.YtolkohncmidpeaaGreatDoorHBH
import Derived.Shelf.Strconv.AtoiAll
namespace Go.Proofs.YtolkohncmidpeaaGreatDoor
open Go.RowKit
set_option linter.unusedVariables false
attribute [local go_sem ↓] Go.wp_at_zero Go.wp_at_succ
/-- bytealg's bound is some int; strconv's errors are nil or some error. -/
def EnvR (w : World) : Prop := EnvM w ∧ (∃ v, w.cell? ⟨4, 0, none⟩ = some v ∧ (v = .nilIface ∨ ∃ t p, v = .iface t p)) ∧ (∃ v, w.cell? ⟨5, 0, none⟩ = some v ∧ (v = .nilIface ∨ ∃ t p, v = .iface t p))
theorem EnvR.ext {w w' : World} (h : EnvR w) (he : Ext w w') : EnvR w' := by
  obtain ⟨h1, ⟨v, h2, h3⟩, u, h4, h5⟩ := h
  exact ⟨h1.ext he, ⟨v, he.cell h2, h3⟩, u, he.cell h4, h5⟩
/-- The first sign of a shape. -/
def sgS (j : Nat) : UInt8 := (shpL.getD j []).headD 0
theorem sgS_pos : ∀ j, j < 16 → 0 < (shpL.getD j []).length := by decide
theorem sgS_get {j : Nat} (h : j < 16) : ∃ r, shpL.getD j [] = sgS j :: r := by
  have h1 := sgS_pos j h
  unfold sgS
  cases hq : shpL.getD j [] with
  | nil => rw [hq] at h1; simp at h1
  | cons a b => exact ⟨b, rfl⟩
theorem khd_hit {b : UInt8} {r : List UInt8} {j : Nat} (hj : j < 16) (hn : ∀ i, i < j → sgS i ≠ b) (h : sgS j = b) : khd (b :: r) = (j : Int) + 1 := by
  subst h
  rcases (by omega : j = 0 ∨ j = 1 ∨ j = 2 ∨ j = 3 ∨ j = 4 ∨ j = 5 ∨ j = 6 ∨ j = 7 ∨ j = 8 ∨ j = 9 ∨ j = 10 ∨ j = 11 ∨ j = 12 ∨ j = 13 ∨ j = 14 ∨ j = 15) with rfl | rfl | rfl | rfl | rfl | rfl | rfl | rfl | rfl | rfl | rfl | rfl | rfl | rfl | rfl | rfl <;> first | rfl | exact absurd rfl (hn 2 (by omega))
theorem khd_miss {b : UInt8} {r : List UInt8} (hn : ∀ i, i < 16 → sgS i ≠ b) : khd (b :: r) = -1 := by
  simp only [khd]
  rw [if_neg (fun h => hn 0 (by omega) h.symm), if_neg (fun h => hn 1 (by omega) h.symm), if_neg (fun h => hn 2 (by omega) h.symm), if_neg (fun h => hn 3 (by omega) h.symm), if_neg (fun h => hn 5 (by omega) h.symm), if_neg (fun h => hn 6 (by omega) h.symm), if_neg (fun h => hn 7 (by omega) h.symm), if_neg (fun h => hn 8 (by omega) h.symm), if_neg (fun h => hn 9 (by omega) h.symm), if_neg (fun h => hn 10 (by omega) h.symm), if_neg (fun h => hn 11 (by omega) h.symm), if_neg (fun h => hn 13 (by omega) h.symm), if_neg (fun h => hn 14 (by omega) h.symm), if_neg (fun h => hn 15 (by omega) h.symm)]
theorem kindAt_nil (w : World) : Calls Tryz.prog 120 #[.string ⟨#[]⟩] w fun e w' => e = .returned (.int .i64 (khd [])) ∧ Ext w w' := by
  go_enter Tryz.func120, Tryz.ntmps120
  go_wp2_with fail
  go_ret
  exact ⟨rfl, Ext.refl w⟩
set_option maxRecDepth 100000 in
set_option maxHeartbeats 2000000 in
theorem kindAt_cons (s : ByteArray) (b : UInt8) (r : List UInt8) (hs : s.data.toList = b :: r) (w : World) : Calls Tryz.prog 120 #[.string s] w fun e w' => e = .returned (.int .i64 (khd (b :: r))) ∧ Ext w w' := by
  have h0 : 0 < s.size := by
    have : s.data.toList.length = s.size := Array.length_toList
    rw [hs, List.length_cons] at this
    omega
  have hl := at_list s h0
  rw [hs] at hl
  have hb : s[0] = b := by simpa using hl.symm
  obtain ⟨p, hp⟩ : ∃ p, b.toNat = p := ⟨_, rfl⟩
  have HP := Lib.hid hp
  have hs0 : (s[0]'h0).toNat = p := by rw [hb, hp]
  have hne : s.toList.isEmpty = false := by rw [ByteArray.toList_eq, hs]; rfl
  obtain ⟨R, hR⟩ : ∃ R, khd (b :: r) = R := ⟨_, rfl⟩
  have HH := Lib.hid (fun (j : Nat) (hj : j < 16) hn (h : sgS j = b) => (khd_hit (r := r) hj hn h).symm.trans hR)
  have HM := Lib.hid (fun hn => (khd_miss (b := b) (r := r) hn).symm.trans hR)
  rw [hR]
  clear hR hs hl hb hp
  go_enter Tryz.func120, Tryz.ntmps120
  go_wp2_with fail
  refine (shapes_at w).mono ?_
  rintro e w1 ⟨bs, rfl, hcl, e1⟩
  have HCL := Lib.hid hcl
  clear hcl
  go_wp2_with fail
  go_loopw [9] (fun i wr => ∃ (j : Nat), j ≤ 16 ∧ i = .int .i64 j ∧ Ext w1 wr ∧ Hid (∀ i, i < j → sgS i ≠ b)) (fun i _ => 16 - (intOf i).toNat)
  case atStart => exact ⟨0, Nat.zero_le _, rfl, Ext.refl _, Lib.hid (fun i hi => by omega)⟩
  case round =>
    obtain ⟨j, hj, rfl, hx, HN⟩ := hrel
    by_cases hlt : j < 16
    · obtain ⟨r1, hr1⟩ := sgS_get hlt
      have hc := hx.cell (HCL.out j hlt)
      rw [hr1] at hc
      have hj1 : (j : Int) < 16 := by omega
      have h1 : 0 < (ofL (sgS j :: r1)).size := by rw [ofL_size, List.length_cons]; omega
      have hb1 : (ofL (sgS j :: r1))[0] = sgS j := rfl
      obtain ⟨S, hS⟩ : ∃ S, ofL (sgS j :: r1) = S := ⟨_, rfl⟩
      obtain ⟨q, hqq⟩ : ∃ q, (sgS j).toNat = q := ⟨_, rfl⟩
      have hS0 : ∃ hh, S[0]'hh = sgS j := by subst hS; exact ⟨h1, rfl⟩
      obtain ⟨hS1, hS2⟩ := hS0
      have hS3 : (S[0]'hS1).toNat = q := by rw [hS2, hqq]
      have HQ := Lib.hid hqq
      have hjw : IntKind.i64.wrap ((j : Int) + 1) = (j : Int) + 1 := IntWalk.i64_in _ ⟨by omega, by omega⟩
      rw [hS] at hc
      clear hS hr1 hb1 h1 hqq hS2
      by_cases hq : sgS j = b
      · have e1 : q = p := by rw [← HQ.out, hq, HP.out]
        subst e1
        have hfin : R = (j : Int) + 1 := (HH.out j hlt HN.out hq).symm
        have hjc : IntKind.i64.wrap (1 + (j : Int)) = (j : Int) + 1 := by rw [Int.add_comm]; exact hjw
        clear hq
        go_wp2_with fail
        go_quiet (fail)
        go_wp2_with fail
        go_ret
        exact ⟨by rw [hfin]; rfl, (e1.trans hx).drewN _⟩
      · have e1 : (((q : Nat) : Int) == (p : Int)) = false := beq_eq_false_iff_ne.2 (fun h => hq (by
          have h2 : q = p := by omega
          rw [← HQ.out, ← HP.out] at h2
          exact UInt8.toNat_inj.1 h2))
        have e2 : (q == p) = false := beq_eq_false_iff_ne.2 (fun h => by rw [h] at e1; simp at e1)
        have HNQ := Lib.hid hq
        clear hq
        go_wp2_with fail
        go_quiet (fail)
        go_wp2_with fail
        go_roundw
        case rel => exact ⟨j + 1, by omega, by go_num, hx.drewN _, Lib.hid (fun i hi => by
          rcases Nat.lt_or_ge i j with h | h
          · exact HN.out i h
          · obtain rfl : i = j := by omega
            exact HNQ.out)⟩
        case measure => simp [intOf]; omega
    · have hj2 : j = 16 := by omega
      subst hj2
      have hfin : R = -1 := (HM.out HN.out).symm
      go_wp2_with fail
      go_ret
      exact ⟨by rw [hfin]; rfl, e1.trans hx⟩
theorem takeWhile_at (p : UInt8 → Bool) : ∀ (l : List UInt8) (i : Nat), i < (l.takeWhile p).length → ∃ c, l[i]? = some c ∧ p c = true
  | [], i, h => by simp at h
  | b :: l, i, h => by
    rw [List.takeWhile_cons] at h
    by_cases hb : p b = true
    · rw [if_pos hb] at h
      cases i with
      | zero => exact ⟨b, rfl, hb⟩
      | succ i => simpa using takeWhile_at p l i (by simpa using h)
    · rw [if_neg hb] at h; simp at h
theorem takeWhile_end (p : UInt8 → Bool) : ∀ (l : List UInt8) (c : UInt8), l[(l.takeWhile p).length]? = some c → p c = false
  | [], c, h => by simp at h
  | b :: l, c, h => by
    rw [List.takeWhile_cons] at h
    by_cases hb : p b = true
    · rw [if_pos hb] at h
      exact takeWhile_end p l c (by simpa using h)
    · rw [if_neg hb] at h
      simp only [List.length_nil, List.getElem?_cons_zero, Option.some.injEq] at h
      subst h
      simpa using hb
theorem takeWhile_len (p : UInt8 → Bool) : ∀ l : List UInt8, (l.takeWhile p).length ≤ l.length
  | [] => by simp
  | b :: l => by
    rw [List.takeWhile_cons]
    split
    · have := takeWhile_len p l; simp; exact this
    · simp
theorem takeWhile_take (p : UInt8 → Bool) : ∀ l : List UInt8, l.take (l.takeWhile p).length = l.takeWhile p
  | [] => by simp
  | b :: l => by
    rw [List.takeWhile_cons]
    split
    · simp [takeWhile_take p l]
    · simp
theorem ext_to (l : List UInt8) (a : Nat) : (ofL l).extract 0 a = ofL (l.take a) := by
  apply ByteArray.ext
  simp [ofL]
theorem ext_from (l : List UInt8) (a : Nat) : (ofL l).extract a (ofL l).size = ofL (l.drop a) := by
  apply ByteArray.ext
  rw [ofL_size]
  simp [ofL]
  exact List.take_of_length_le (by simp)
theorem rdN_ok {l : List UInt8} {v : Int} (h : Lib.atoiAll (dgs l) = .ok v) : rdN l = (v, l.drop (dgs l).length) := by unfold rdN; rw [h]
theorem rdN_bad {l : List UInt8} (h : ∀ v, Lib.atoiAll (dgs l) ≠ .ok v) : rdN l = (-1, []) := by
  unfold rdN
  cases hq : Lib.atoiAll (dgs l) with
  | ok v => exact absurd hq (h v)
  | _ => rfl
/-- strconv.Atoi, in this repo's words. -/
theorem atoi_any (l : List UInt8) (hl : l.length ≤ 1000000000) (w : World) (hW : EnvR w) : Calls Tryz.prog 153 #[.string (ofL l)] w fun e w' => ∃ v x, e = .returned (.tuple #[.int .i64 v, x]) ∧ Ext w w' ∧ ((Lib.atoiAll l = .ok v ∧ x = .nilIface) ∨ ((∀ v, Lib.atoiAll l ≠ .ok v) ∧ ∃ t p, x = .iface t p)) := by
  obtain ⟨-, ⟨e1, h1, h2⟩, e2, h3, h4⟩ := hW
  cases hq : Lib.atoiAll l with
  | ok v =>
    refine (Tryz.strconv_Atoi_ok (ofL l) (by rw [ofL_size]; omega) v (by rw [ofL_list]; exact hq) w).mono ?_
    rintro e w' ⟨rfl, h⟩
    refine ⟨v, _, rfl, ?_, .inl ⟨rfl, rfl⟩⟩
    rcases h with rfl | ⟨t, rfl⟩
    · exact Ext.refl _
    · exact Lib.bytesWorld_below _ _ _
  | range =>
    refine (Tryz.strconv_Atoi_range (ofL l) (by rw [ofL_size]; omega) (by rw [ofL_list]; exact hq) e2 w h3 h4).mono ?_
    rintro e w' ⟨N, rfl, -, -, h⟩
    exact ⟨_, _, rfl, h, .inr ⟨fun v => by simp, _, _, rfl⟩⟩
  | _ =>
    refine (Any.strconv_Atoi_syntax Tryz.laysC172 (ofL l) (by rw [ofL_size]; omega) (by rw [ofL_list]; exact hq) e1 w h1 h2).mono ?_
    rintro e w' ⟨N, rfl, -, -, h⟩
    exact ⟨_, _, rfl, h, .inr ⟨fun v => by simp, _, _, rfl⟩⟩
set_option maxRecDepth 100000 in
set_option maxHeartbeats 2000000 in
theorem readNumber_any (l : List UInt8) (hl : l.length ≤ 1000000000) (w : World) (hW : EnvR w) : Calls Tryz.prog 121 #[.string (ofL l)] w fun e w' => e = .returned (.tuple #[.int .i64 (rdN l).1, .string (ofL (rdN l).2)]) ∧ Ext w w' := by
  obtain ⟨D, hD⟩ : ∃ D, D = dgs l := ⟨_, rfl⟩
  have hlen : D.length ≤ l.length := by rw [hD]; exact takeWhile_len _ l
  have HA := Lib.hid (fun i (hi : i < D.length) => takeWhile_at isDig l i (by rw [hD] at hi; exact hi))
  have HZ := Lib.hid (fun c (hc : l[D.length]? = some c) => takeWhile_end isDig l c (by rw [hD] at hc; exact hc))
  have HT := Lib.hid (show l.take D.length = D by rw [hD]; exact takeWhile_take _ l)
  have HOK := Lib.hid (fun v (h : Lib.atoiAll D = .ok v) => rdN_ok (l := l) (v := v) (by rw [← hD]; exact h))
  have HBAD := Lib.hid (fun (h : ∀ v, Lib.atoiAll D ≠ .ok v) => rdN_bad (l := l) (by rw [← hD]; exact h))
  rw [← hD] at HOK
  obtain ⟨R, hR⟩ : ∃ R, rdN l = R := ⟨_, rfl⟩
  rw [hR] at HOK HBAD ⊢
  have HAT := Lib.hid (fun (W : World) (h : Ext w W) => atoi_any D (by omega) W (hW.ext h))
  obtain ⟨s, hs⟩ : ∃ s, s = ofL l := ⟨_, rfl⟩
  have hsz : s.size = l.length := by rw [hs, ofL_size]
  have HX := Lib.hid (fun a => hs ▸ ext_to l a)
  have HY := Lib.hid (fun a => hs ▸ ext_from l a)
  have HYY := Lib.hid (fun a => (show s.extract a l.length = ofL (l.drop a) from by have := HY.out a; rw [hsz] at this; exact this))
  have HG := Lib.hid (fun (a : Nat) (h : a < s.size) => (show l[a]? = some s[a] from by subst hs; have := at_list (ofL l) h; rw [ofL_list] at this; exact this))
  rw [← hs]
  clear hs hD hR hW
  obtain ⟨n, hn⟩ : ∃ n, n = D.length := ⟨_, rfl⟩
  rw [← hn] at HA HZ HT HOK hlen
  have hn9 : s.size ≤ 1000000000 := by omega
  have hnl : n ≤ s.size := by omega
  clear hn hl hlen
  go_enter Tryz.func121, Tryz.ntmps121
  go_wp2_with fail
  go_loopw [4] (fun i wr => ∃ (j : Nat), j ≤ n ∧ i = .int .i64 j ∧ wr = w) (fun i _ => n - (intOf i).toNat)
  case atStart => exact ⟨0, Nat.zero_le _, rfl, rfl⟩
  case round =>
    obtain ⟨j, hj, rfl, rfl⟩ := hrel
    by_cases hlt : j < n
    · obtain ⟨c, h1, h2⟩ := HA.out j hlt
      have hjs : j < s.size := by omega
      have hjz : (j : Int) < (s.size : Int) := by omega
      have hc : s[j] = c := by have := HG.out j hjs; rw [h1] at this; exact (Option.some.inj this).symm
      obtain ⟨g1, g2⟩ := dig_bd h2
      obtain ⟨m, hm⟩ : ∃ m, c.toNat = m := ⟨_, rfl⟩
      rw [hm] at g1 g2
      have t1 : decide ((48 : Int) ≤ (m : Int)) = true := decide_eq_true (by omega)
      have t2 : decide ((m : Int) ≤ 57) = true := decide_eq_true (by omega)
      have hw9 : IntKind.i64.wrap ((j : Int) + 1) = (j : Int) + 1 := IntWalk.i64_in _ ⟨by omega, by omega⟩
      clear h1 h2
      go_wp2_with fail
      go_roundw
      case rel => first | exact ⟨j + 1, by omega, by go_num, rfl⟩ | exact ⟨j + 1, by omega, by go_num, trivial⟩
      case measure => simp [intOf]; omega
    · obtain rfl : j = n := by omega
      have hex : s.extract 0 j = ofL D := by rw [HX.out, HT.out]
      rcases Nat.lt_or_ge j s.size with hjs | hjs
      · obtain ⟨c, hc⟩ : ∃ c, s[j] = c := ⟨_, rfl⟩
        have hcd : isDig c = false := HZ.out c (by rw [HG.out j hjs, hc])
        have hjz : (j : Int) < (s.size : Int) := by omega
        obtain ⟨m, hm⟩ : ∃ m, c.toNat = m := ⟨_, rfl⟩
        have hm2 : m < 48 ∨ 57 < m := by
          unfold isDig at hcd
          rw [Bool.and_eq_false_iff, decide_eq_false_iff_not, decide_eq_false_iff_not, UInt8.le_iff_toNat_le, UInt8.le_iff_toNat_le, hm] at hcd
          have h1 : (48 : UInt8).toNat = 48 := rfl
          have h2 : (57 : UInt8).toNat = 57 := rfl
          omega
        clear hcd
        rcases hm2 with hm2 | hm2
        · have t1 : decide ((48 : Int) ≤ (m : Int)) = false := decide_eq_false (by omega)
          go_wp2_with fail
          refine (HAT.out _ (Ext.refl _)).mono ?_
          rintro e w1 ⟨v, x, rfl, e1, hcase⟩
          rcases hcase with ⟨hok, rfl⟩ | ⟨hbad, t, p, rfl⟩
          · have HR := Lib.hid (HOK.out v hok)
            clear hok
            go_wp2_with fail
            go_quiet (fail)
            go_wp2_with fail
            go_ret2
            exact ⟨by rw [HR.out]; show Ending.returned (.tuple #[.int .i64 v, .string (s.extract j l.length)]) = _; rw [HYY.out j], e1.drewN _⟩
          · have HR := Lib.hid (HBAD.out hbad)
            clear hbad
            go_wp2_with fail
            go_ret2
            exact ⟨by rw [HR.out]; rfl, e1⟩
        · have t1 : decide ((48 : Int) ≤ (m : Int)) = true := decide_eq_true (by omega)
          have t2 : decide ((m : Int) ≤ 57) = false := decide_eq_false (by omega)
          go_wp2_with fail
          refine (HAT.out _ (Ext.refl _)).mono ?_
          rintro e w1 ⟨v, x, rfl, e1, hcase⟩
          rcases hcase with ⟨hok, rfl⟩ | ⟨hbad, t, p, rfl⟩
          · have HR := Lib.hid (HOK.out v hok)
            clear hok
            go_wp2_with fail
            go_quiet (fail)
            go_wp2_with fail
            go_ret2
            exact ⟨by rw [HR.out]; show Ending.returned (.tuple #[.int .i64 v, .string (s.extract j l.length)]) = _; rw [HYY.out j], e1.drewN _⟩
          · have HR := Lib.hid (HBAD.out hbad)
            clear hbad
            go_wp2_with fail
            go_ret2
            exact ⟨by rw [HR.out]; rfl, e1⟩
      · have hjz : ¬ ((j : Int) < (s.size : Int)) := by omega
        go_wp2_with fail
        refine (HAT.out _ (Ext.refl _)).mono ?_
        rintro e w1 ⟨v, x, rfl, e1, hcase⟩
        rcases hcase with ⟨hok, rfl⟩ | ⟨hbad, t, p, rfl⟩
        · have HR := Lib.hid (HOK.out v hok)
          clear hok
          go_wp2_with fail
          go_quiet (fail)
          go_wp2_with fail
          go_ret2
          exact ⟨by rw [HR.out]; show Ending.returned (.tuple #[.int .i64 v, .string (s.extract j l.length)]) = _; rw [HYY.out j], e1.drewN _⟩
        · have HR := Lib.hid (HBAD.out hbad)
          clear hbad
          go_wp2_with fail
          go_ret2
          exact ⟨by rw [HR.out]; rfl, e1⟩
end Go.Proofs.YtolkohncmidpeaaGreatDoor
namespace Go.Proofs.YtolkohncmidpeaaGreatDoor
open Go.RowKit
set_option linter.unusedVariables false
attribute [local go_sem ↓] Go.wp_at_zero Go.wp_at_succ
/-- A text written by the program. -/
def TermC (t : Tr) : Prop := ∀ (w : World) (v : Value) (d : Int), EnvM w → shape sigT t d = true → cnt t ≤ 1000 → Lies w t v → Calls Tryz.prog 37 #[v] w fun e w' => e = .returned (.string (ofL (fmtL t))) ∧ Ext w w'
set_option maxRecDepth 100000 in
set_option maxHeartbeats 8000000 in
theorem termText_any : ∀ t : Tr, TermC t := Tr.ind fun k n ks hk => by
  intro w v d hW hsh hcn hin
  obtain ⟨A, cap, rfl, hl, hc, hK⟩ := Lies.mk_iff.1 hin
  obtain ⟨hops, hn0, hn1, hsk⟩ := shape_kids' hsh
  have hops : opsT k = (ks.length : Int) := hops
  have hn1 : n ≤ mostT k := hn1
  have hlc := len_le_cnts ks
  have hfl := fmtL_len (.mk k n ks)
  have hcc := hc
  unfold maxLen at hcc
  have hcn' := hcn
  simp only [cnt] at hcn'
  obtain ⟨kk, hkk, hk16⟩ : ∃ kk : Nat, k = (kk : Int) + 1 ∧ kk < 16 := by
    rcases opsT_kind hops with h | h | h | h | h | h | h | h | h | h | h | h | h | h | h | h <;> exact ⟨(k - 1).toNat, by omega, by omega⟩
  have hwr : IntKind.i64.wrap (k - 1) = (kk : Int) := by rw [show k - 1 = (kk : Int) by omega]; exact IntWalk.i64_in _ ⟨by omega, by omega⟩
  obtain ⟨hpr, hsl⟩ := shpL_facts kk hk16
  rw [← hkk] at hpr
  obtain ⟨sh, hshp⟩ : ∃ sh, sh = shpL.getD kk [] := ⟨_, rfl⟩
  have HSA := Lib.hid (fun W => (show Calls Tryz.prog 77 #[] W (fun e w' => ∃ b, e = .returned (.slice (some ⟨b, 0, none⟩) 16 16) ∧ w'.cell? ⟨b, kk, none⟩ = some (.string (ofL sh)) ∧ Ext W w') from (shapes_at W).mono (by
    rintro e w' ⟨b, h1, h2, h3⟩
    exact ⟨b, h1, by rw [hshp]; exact h2 kk hk16, h3⟩)))
  rw [← hshp] at hpr hsl
  have hs1 : k = 1 → sh = [35] := fun h => by have : kk = 0 := by omega
                                              subst this; exact hshp
  have hs2 : k = 2 → sh = [42] := fun h => by have : kk = 1 := by omega
                                              subst this; exact hshp
  have hsz := sz_le hsl
  have hx : Ext w (w.alloc (.cells #[.int .i64 k, .int .i64 n, .slice A ks.length cap] 45)) := (Ext.refl w).alloc _
  have hbx := heap_alloc_new w (.cells #[.int .i64 k, .int .i64 n, .slice A ks.length cap] 45)
  have hkz : (kk : Int) < 16 := by omega
  have hkz0 : (0 : Int) ≤ (kk : Int) := by omega
  have HKK := Lib.hid hkk
  clear hshp hin hkk
  by_cases c1 : k = 1
  · have hsO := hs1 c1
    subst hsO
    obtain ⟨m, rfl⟩ : ∃ m : Nat, n = m := ⟨n.toNat, by omega⟩
    have hm : (m : Int) ≤ 20 := by rw [c1] at hn1; exact hn1
    have HC := Lib.hid (fun W => itoa_any m (by omega) W)
    have hr : fmtL (.mk k m ks) = [35] ++ decL m := by
      rw [c1]
      simp [fmtL]
    have hxl := decL_len m
    obtain ⟨y, hy⟩ : ∃ y, y = decL m := ⟨_, rfl⟩
    rw [← hy] at HC hxl hr
    have hx1 := sz_le hxl
    have HR := Lib.hid hr
    have hk1 : (k == 1) = decide (k = 1) := by by_cases h : k = 1 <;> simp [h]
    have hk0 : kk = 0 := by have := HKK.out; omega
    subst hk0
    clear hr hops hy hs1 hs2 hpr hk hsk hK hsh hfl hk1 hwr hkz hkz0 HKK hn0 hcn hcn'
    subst c1
    have hwJ : IntKind.i64.wrap 0 = 0 := IntWalk.i64_in _ ⟨by omega, by omega⟩
    go_enter Tryz.func37, Tryz.ntmps37
    go_wp2_with fail
    go_region_law (first | (go_simp; go_at_call 77; refine (HSA.out _).mono ?_; rintro e w2 ⟨b, rfl, hcl, e2⟩; obtain ⟨s0, s1, s2, -, -, -⟩ := own3 (e2.blk ((Ext.refl _).drew.blk hbx))))
    all_goals (
      go_wp2_with fail
      refine (HC.out _).mono ?_
      rintro e w3 ⟨rfl, rfl⟩
      go_wp2_with fail
      go_ret
      exact ⟨by rw [HR.out, ← ofL_append]; rfl, (hx.trans (Ext.refl _).drew).trans e2⟩)
  by_cases c2 : k = 2
  · have hsO := hs2 c2
    subst hsO
    obtain ⟨m, rfl⟩ : ∃ m : Nat, n = m := ⟨n.toNat, by omega⟩
    have hm : (m : Int) ≤ 3 := by rw [c2] at hn1; exact hn1
    have HC := Lib.hid (fun W => itoa_any m (by omega) W)
    have hr : fmtL (.mk k m ks) = [42] ++ decL m := by
      rw [c2]
      simp [fmtL]
    have hxl := decL_len m
    obtain ⟨y, hy⟩ : ∃ y, y = decL m := ⟨_, rfl⟩
    rw [← hy] at HC hxl hr
    have hx1 := sz_le hxl
    have HR := Lib.hid hr
    have hk1 : (k == 1) = decide (k = 1) := by by_cases h : k = 1 <;> simp [h]
    have hk0 : kk = 1 := by have := HKK.out; omega
    subst hk0
    clear hr hops hy hs1 hs2 hpr hk hsk hK hsh hfl hk1 hwr hkz hkz0 HKK hn0 hcn hcn'
    subst c2
    have hwJ : IntKind.i64.wrap 1 = 1 := IntWalk.i64_in _ ⟨by omega, by omega⟩
    go_enter Tryz.func37, Tryz.ntmps37
    go_wp2_with fail
    go_region_law (first | (go_simp; go_at_call 77; refine (HSA.out _).mono ?_; rintro e w2 ⟨b, rfl, hcl, e2⟩; obtain ⟨s0, s1, s2, -, -, -⟩ := own3 (e2.blk ((Ext.refl _).drew.blk hbx))))
    all_goals (
      go_wp2_with fail
      refine (HC.out _).mono ?_
      rintro e w3 ⟨rfl, rfl⟩
      go_wp2_with fail
      go_ret
      exact ⟨by rw [HR.out, ← ofL_append]; rfl, (hx.trans (Ext.refl _).drew).trans e2⟩)
  obtain ⟨hf, hpl⟩ := fmtL_parts hsh c1 c2
  obtain ⟨p0, pt, hpp⟩ : ∃ p0 pt, prt k = p0 :: pt := by
    cases hq : prt k with
    | nil => rw [hq] at hpl; simp at hpl
    | cons a b => exact ⟨a, b, rfl⟩
  rw [hpp] at hf hpl hpr
  simp only [List.headD_cons, List.tail_cons] at hf
  have hptl : pt.length = ks.length := by simpa using hpl
  have hprl : ∀ p ∈ p0 :: pt, p.length ≤ 2 := by
    rw [← hpp]
    rcases opsT_kind hops with h | h | h | h | h | h | h | h | h | h | h | h | h | h | h | h <;> (rw [h]; decide)
  have HSP := Lib.hid (fun W (hW : EnvM W) => split_at sh 46 (p0 :: pt) hpr W hW (by omega))
  have HF := Lib.hid hf
  have HPL := Lib.hid hptl
  have HPRL := Lib.hid hprl
  have e1 : (k == 1) = false := beq_eq_false_iff_ne.2 c1
  have e2' : (k == 2) = false := beq_eq_false_iff_ne.2 c2
  have hz1 : (0 : Int) < (ks.length : Int) + 1 := by omega
  obtain ⟨R, hR⟩ : ∃ R, fmtL (.mk k n ks) = R := ⟨_, rfl⟩
  rw [hR] at HF hfl ⊢
  have hRl : R.length ≤ 5000 := by omega
  have HK := Lib.hid hk
  have HSK := Lib.hid hsk
  clear hf hpl hpr hptl hprl hpp hR hs1 hs2 hops hk hsk hsh c1 c2
  go_enter Tryz.func37, Tryz.ntmps37
  go_wp2_with fail
  go_region_law (first | (go_simp; go_at_call 77; refine (HSA.out _).mono ?_; rintro e w2 ⟨b, rfl, hcl, e2⟩; obtain ⟨s0, s1, s2, -, -, -⟩ := own3 (e2.blk ((Ext.refl _).drew.blk hbx))))
  all_goals (
    have hx2 := (hx.trans (Ext.refl _).drew).trans e2
    have hb2 := e2.blk ((Ext.refl _).drew.blk hbx)
    clear hbx
    go_wp2_with fail
    refine (HSP.out _ (hW.ext hx2)).mono ?_
    rintro e w3 ⟨bp, rfl, hcp, hbp, hbp3, e3⟩
    have hx3 := hx2.trans e3
    obtain ⟨z0, z1, z2, -, -, -⟩ := own3 (e3.blk hb2)
    have hc0 := hcp 0 (by simp)
    simp only [List.getElem_cons_zero, List.length_cons, HPL.out] at hc0 hcp ⊢
    have HCP := Lib.hid hcp
    clear hcp hb2 s0 s1 s2 hcl
    go_wp2_with fail
    go_loopw [5, 35] (fun o i wr => ∃ (j : Nat) (y : List UInt8), j ≤ ks.length ∧ i = .int .i64 j ∧ o = .string (ofL y) ∧ y.length ≤ 5000 ∧ Hid (y ++ catP fmtL (pt.drop j) (ks.drop j) = R) ∧ Ext w3 wr) (fun _ i _ => ks.length - (intOf i).toNat)
    case atStart => exact ⟨0, p0, Nat.zero_le _, rfl, rfl, by have := HPRL.out p0 (by simp); omega, Lib.hid (by simpa using HF.out.symm), Ext.refl _⟩
    case round =>
      obtain ⟨j, y, hj, rfl, rfl, hyl, HY, hxr⟩ := hrel
      by_cases hlt : j < ks.length
      · obtain ⟨b1, o1, k1, n1, A1, c1, kids1, rfl, HK1, d0, d1, d2, hkl, hkc, hK1, hin1, hmem⟩ := hK.get (hx3.trans hxr) hlt
        have hjp : j < pt.length := by rw [HPL.out]; exact hlt
        have hst := catP_step (f := fmtL) hlt hjp
        rw [HK1.out] at hst
        have hpc : w3.cell? ⟨bp, j + 1, none⟩ = some (.string (ofL pt[j])) := by
          have := HCP.out (j + 1) (by omega)
          simpa using this
        have hpl2 : pt[j].length ≤ 2 := HPRL.out _ (List.mem_cons_of_mem _ (List.getElem_mem hjp))
        have hcm := cnt_mem hmem
        have hf1 := fmtL_len (.mk k1 n1 kids1)
        have HCC := Lib.hid (fun W (hWW : EnvM W) (hL : Lies W (.mk k1 n1 kids1) (.agg #[.int .i64 k1, .int .i64 n1, .slice A1 kids1.length c1])) => HK.out _ hmem W _ (d - 1) hWW (HSK.out _ hmem) (by omega) hL)
        have hxl : (fmtL (.mk k1 n1 kids1)).length ≤ 5000 := by omega
        obtain ⟨x, hxx⟩ : ∃ x, x = fmtL (.mk k1 n1 kids1) := ⟨_, rfl⟩
        obtain ⟨pp, hpp⟩ : ∃ pp, pp = pt[j] := ⟨_, rfl⟩
        rw [← hxx] at hst HCC hxl
        rw [← hpp] at hst hpc hpl2
        have HY2 := Lib.hid (show (y ++ (x ++ pp)) ++ catP fmtL (pt.drop (j + 1)) (ks.drop (j + 1)) = R by rw [← HY.out, hst]; simp)
        have hyy : (y ++ (x ++ pp)).length ≤ 5000 := by
          have := congrArg List.length HY2.out
          rw [List.length_append] at this
          omega
        have q1 := sz_le hyl
        have q2 := sz_le hxl
        have q3 := sz_le hpl2
        have g1 : ¬ (9223372036854775807 < (ofL x).size + (ofL pp).size) := by omega
        have g2 : ¬ (9223372036854775807 < (ofL y).size + ((ofL x).size + (ofL pp).size)) := by omega
        have hj0 : (0 : Int) ≤ (j : Int) + 1 := by omega
        have hjz : (j : Int) < (ks.length : Int) := by omega
        have hjw : IntKind.i64.wrap ((j : Int) + 1) = (j : Int) + 1 := IntWalk.i64_in _ ⟨by omega, by omega⟩
        have hj1 : (j : Int) + 1 < (ks.length : Int) + 1 := by omega
        clear hst HK1 hxx hpp hf1 HY hcn hcn' hfl hjp
        go_wp2_with fail
        have hE := (Ext.refl wr).alloc (.cells #[.int .i64 k1, .int .i64 n1, .slice A1 kids1.length c1] 45)
        have hb7 := heap_alloc_new wr (.cells #[.int .i64 k1, .int .i64 n1, .slice A1 kids1.length c1] 45)
        have hpc7 := (hxr.trans hE).cell hpc
        have hL7 := hin1.ext hE
        have hX7 := (hx3.trans hxr).trans hE
        have h37 := hxr.trans hE
        generalize wr.alloc _ = w7 at hE hb7 hpc7 hL7 hX7 h37 ⊢
        have HS := Lib.hid (show ∀ w', Ext w7 w' → w'.cell? ⟨wr.heap.size, 0, none⟩ = some (.int .i64 k1) ∧ w'.cell? ⟨wr.heap.size, 1, none⟩ = some (.int .i64 n1) ∧ w'.cell? ⟨wr.heap.size, 2, none⟩ = some (.slice A1 kids1.length c1) ∧ w'.cell? ⟨bp, j + 1, none⟩ = some (.string (ofL pp)) from fun w' hw => by
          obtain ⟨y0, y1, y2, -, -, -⟩ := own3 (hw.blk hb7)
          exact ⟨y0, y1, y2, hw.cell hpc7⟩)
        have hD : Ext w7 w7.drew := (Ext.refl w7).drew
        clear hb7 hpc7 hpc d0 d1 d2 hin1 z0 z1 z2
        go_region_held3 (fun w' => w'.cell? ⟨wr.heap.size, 0, none⟩ = some (.int .i64 k1) ∧ w'.cell? ⟨wr.heap.size, 1, none⟩ = some (.int .i64 n1) ∧ w'.cell? ⟨wr.heap.size, 2, none⟩ = some (.slice A1 kids1.length c1) ∧ w'.cell? ⟨bp, j + 1, none⟩ = some (.string (ofL pp)))
          (first | exact HS.out _ (hD.trans ed) | exact HS.out _ hD)
          (first | (go_at_call 37; refine (HCC.out _ (hW.ext (hX7.trans hD)) (hL7.ext hD)).mono ?_; rintro e wd ⟨rfl, ed⟩))
        all_goals (
          go_wp2_with fail
          go_roundw
          case rel => exact ⟨j + 1, y ++ (x ++ pp), by omega, by go_num, by rw [← ofL_append, ← ofL_append], hyy, HY2, (h37.trans hD).trans ed⟩
          case measure => simp [intOf]; omega)
      · have hyR : y = R := by
          rw [← HY.out, catP_end (by omega)]
          simp
        have HYR := Lib.hid hyR
        clear hyR
        go_wp2_with fail
        go_ret
        exact ⟨by rw [← HYR.out]; rfl, hx3.trans hxr⟩)
end Go.Proofs.YtolkohncmidpeaaGreatDoor

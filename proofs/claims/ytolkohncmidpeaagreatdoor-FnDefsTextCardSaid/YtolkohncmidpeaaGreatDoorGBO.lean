/-
  Lemmas towards the law, 41: DrawM, DrawF.
-/
import Derived.Test.YtolkohncmidpeaaGreatDoorGAZ
import Derived.Test.YtolkohncmidpeaaGreatDoorGBN
namespace Go.Proofs.YtolkohncmidpeaaGreatDoor
open Go.RowKit
set_option linter.unusedVariables false
attribute [local go_sem ↓] Go.wp_at_zero Go.wp_at_succ
theorem set_cnt {ks : List Tr} {t : Tr} {j m : Nat} (h : ∀ x ∈ ks, cnt x ≤ m) (ht : cnt t ≤ m) : ∀ x ∈ ks.set j t, cnt x ≤ m := fun x hx => by
  rcases List.mem_or_eq_of_mem_set hx with hx | rfl
  · exact h x hx
  · exact ht
set_option maxRecDepth 100000 in
set_option maxHeartbeats 2000000 in
theorem l9Mutate_any (ks : List Tr) (n cap : Nat) (w : World) (g m : Nat) (A : Option Addr) (h : LiesK w A ks) (hn : ks.length = n * 2) (hl : n ≤ cap) (hc : cap ≤ maxLen) (hv : ∀ t ∈ ks, valid sigT t = true) (hn8 : n ≤ 8) (hR : Rd w g m) (hm : m < 800000) :
    Calls Tryz.prog 75 #[.pointer (some ⟨g, 0, none⟩), .slice A n cap] w fun e w' => ∃ A' n' cap' ks', e = .returned (.slice A' n' cap') ∧ n' ≤ cap' ∧ cap' ≤ maxLen ∧ (A' = none → cap' = 0) ∧ ks'.length = n' * 2 ∧ n' ≤ 9 ∧ (∀ t ∈ ks', cnt t ≤ 401) ∧ FromK w.heap.size w' A' ks' ∧ Rd w' g (m + 1030) ∧ Only [g] w w' := by
  have hgl := hR.lt
  have hcn : ∀ t ∈ ks, cnt t ≤ 400 := fun t ht => (valid_parts (hv t ht)).2
  go_enter Tryz.func75, Tryz.ntmps75
  go_wp2_with fail
  refine (l9Copy_any ks n cap w A h hn hl hc (fun t ht => by have := hcn t ht; omega) (by omega)).mono ?_
  rintro e w1 ⟨v, rfl, hG, e1⟩
  go_wp2_with fail
  refine (pick_any w1 g m 30 (hR.ext e1) (by omega)).mono ?_
  rintro e w2 ⟨x, rfl, hx0, -, hR2, ho2⟩
  have hO2 : Only [g] w w2 := (Only.of_ext e1).trans ho2
  have hG2 := hG.only ho2 (by intro b hb; rw [List.mem_singleton.1 hb]; exact hgl)
  have hs2 := hO2.size
  clear hG hR h ho2 e1
  obtain ⟨A2, c2, rfl, q1, q2, hK2⟩ := hG2.slice
  have hcp2 := hG2.cap
  by_cases hx : x = 0
  · subst hx
    by_cases hn0 : n = 0
    · subst hn0
      go_wp2_with fail
      go_ret
      exact ⟨A2, 0, c2, ks, rfl, q1, q2, hcp2, hn, by decide, fun t ht => by have := hcn t ht; omega, hK2, hR2.mono (by omega), hO2⟩
    · obtain ⟨n1, rfl⟩ : ∃ k, n = k + 1 := ⟨n - 1, by omega⟩
      obtain ⟨r, cp, he, hr1, hr2, -, -, hcell⟩ := hG2.row (by omega)
      simp only [Value.slice.injEq, true_and] at he
      obtain ⟨rfl, rfl⟩ := he
      have hp : decide ((0 : Int) < ((n1 + 1 : Nat) : Int)) = true := decide_eq_true (by omega)
      go_wp2_with fail
      refine (l1Any_any w2 g _ hR2 (by omega)).mono ?_
      rintro e w3 ⟨t, u, rfl, hvt, hF, hR3, ho3⟩
      obtain ⟨k3, n3, A3, l3, c3, rfl⟩ := hF.three
      have hG3 := hG2.only ho3 (by intro b hb; rw [List.mem_singleton.1 hb]; exact hgl)
      obtain ⟨r', cp', he, -, -, -, -, hcell⟩ := hG3.row (by omega)
      simp only [Value.slice.injEq, Option.some.injEq, Addr.mk.injEq, and_true, true_and] at he
      obtain ⟨rfl, rfl⟩ := he
      obtain ⟨x0, y0, z0⟩ := hcell (n1 * 6 + 3) (by omega)
      obtain ⟨x1, y1, z1⟩ := hcell (n1 * 6 + 3 + 1) (by omega)
      obtain ⟨x2, y2, z2⟩ := hcell (n1 * 6 + 3 + 2) (by omega)
      have hset := hG3.set (j := n1 * 2 + 1) (t := t) (v0 := .int .i64 k3) (v1 := .int .i64 n3) (v2 := .slice A3 l3 c3) (by omega) (InT.mono (fun b hb => ⟨by have := hb.1; omega, hb.2, by have := hb.1; omega⟩) (fun _ _ => rfl) hF)
      rw [show (n1 * 2 + 1) * 3 = n1 * 6 + 3 by omega] at hset
      have hwr : IntKind.i64.wrap (((n1 + 1 : Nat) : Int) - 1) = (n1 : Int) := by rw [show ((n1 + 1 : Nat) : Int) - 1 = (n1 : Int) by omega]; exact IntWalk.i64_in _ ⟨by omega, by omega⟩
      have hn1 : (n1 : Int) < ((n1 + 1 : Nat) : Int) := by omega
      have hR6 := ((((hR3.mono (show _ ≤ m + 1030 by omega)).set (p := ⟨r, n1 * 6 + 3, none⟩) (by show g < r; omega) (.int .i64 k3)).set (p := ⟨r, n1 * 6 + 3 + 1, none⟩) (by show g < r; omega) (.int .i64 n3)).set (p := ⟨r, n1 * 6 + 3 + 2, none⟩) (by show g < r; omega) (.slice A3 l3 c3))
      have hO6 := (((hO2.trans ho3).setNew (p := ⟨r, n1 * 6 + 3, none⟩) (by show _ ≤ r; omega) (.int .i64 k3)).setNew (p := ⟨r, n1 * 6 + 3 + 1, none⟩) (by show _ ≤ r; omega) (.int .i64 n3)).setNew (p := ⟨r, n1 * 6 + 3 + 2, none⟩) (by show _ ≤ r; omega) (.slice A3 l3 c3)
      have hcs := set_cnt (j := n1 * 2 + 1) (t := t) (m := 401) (fun t ht => by have := hcn t ht; omega) (by have := (valid_parts hvt).2; omega)
      obtain ⟨A7, c7, he7, q7, q8, hK7⟩ := hset.slice
      simp only [Value.slice.injEq, true_and] at he7
      obtain ⟨rfl, rfl⟩ := he7
      clear hcell hG2 hG3 hset hK2 ho3 hO2 hR2 hR3
      go_wp2_with fail
      go_ret
      exact ⟨_, _, _, _, rfl, q7, q8, (fun h => by cases h), by simpa using hn, by omega, hcs, hK7, hR6, hO6⟩
  · have hxb0 : (x == 0) = false := beq_eq_false_iff_ne.2 hx
    by_cases hx1 : x = 1
    · subst hx1
      by_cases hn0 : n = 0
      · subst hn0
        go_wp2_with fail
        go_ret
        exact ⟨A2, 0, c2, ks, rfl, q1, q2, hcp2, hn, by decide, fun t ht => by have := hcn t ht; omega, hK2, hR2.mono (by omega), hO2⟩
      · obtain ⟨n1, rfl⟩ : ∃ k, n = k + 1 := ⟨n - 1, by omega⟩
        obtain ⟨r, cp, he, hr1, hr2, -, -, hcell⟩ := hG2.row (by omega)
        simp only [Value.slice.injEq, true_and] at he
        obtain ⟨rfl, rfl⟩ := he
        have hp : decide ((0 : Int) < ((n1 + 1 : Nat) : Int)) = true := decide_eq_true (by omega)
        go_wp2_with fail
        refine (l1Leaf_any w2 1 0).mono ?_
        rintro e wl ⟨rfl, el⟩
        go_wp2_with fail
        refine (l1Mutate_any (.mk 1 0 []) wl g _ _ (Lies.leaf wl 1 0) (by decide) (hR2.ext el) (by omega)).mono ?_
        rintro e w3 ⟨t, u, rfl, hct, hF, hR3, ho3⟩
        have hct2 : cnt t ≤ 2 := hct
        obtain ⟨k3, n3, A3, l3, c3, rfl⟩ := hF.three
        have hsl := el.size
        have hG3 := (hG2.ext el).only ho3 (by intro b hb; rw [List.mem_singleton.1 hb]; exact hgl)
        obtain ⟨r', cp', he, -, -, -, -, hcell⟩ := hG3.row (by omega)
        simp only [Value.slice.injEq, Option.some.injEq, Addr.mk.injEq, and_true, true_and] at he
        obtain ⟨rfl, rfl⟩ := he
        obtain ⟨x0, y0, z0⟩ := hcell 0 (by omega)
        obtain ⟨x1, y1, z1⟩ := hcell 1 (by omega)
        obtain ⟨x2, y2, z2⟩ := hcell 2 (by omega)
        have hset := hG3.set (j := 0) (t := t) (v0 := .int .i64 k3) (v1 := .int .i64 n3) (v2 := .slice A3 l3 c3) (by omega) (InT.mono (fun b hb => ⟨by have := hb.1; omega, hb.2, by have := hb.1; omega⟩) (fun _ _ => rfl) hF)
        simp only [Nat.zero_mul, Nat.zero_add] at hset
        have hn1 : (0 : Int) < ((n1 + 1 : Nat) : Int) := by omega
        have hR6 := ((((hR3.mono (show _ ≤ m + 1030 by omega)).set (p := ⟨r, 0, none⟩) (by show g < r; omega) (.int .i64 k3)).set (p := ⟨r, 1, none⟩) (by show g < r; omega) (.int .i64 n3)).set (p := ⟨r, 2, none⟩) (by show g < r; omega) (.slice A3 l3 c3))
        have hO6 := ((((hO2.trans (Only.of_ext (L := [g]) el)).trans ho3).setNew (p := ⟨r, 0, none⟩) (by show _ ≤ r; omega) (.int .i64 k3)).setNew (p := ⟨r, 1, none⟩) (by show _ ≤ r; omega) (.int .i64 n3)).setNew (p := ⟨r, 2, none⟩) (by show _ ≤ r; omega) (.slice A3 l3 c3)
        have hcs := set_cnt (j := 0) (t := t) (m := 401) (fun t ht => by have := hcn t ht; omega) (by omega)
        obtain ⟨A7, c7, he7, q7, q8, hK7⟩ := hset.slice
        simp only [Value.slice.injEq, true_and] at he7
        obtain ⟨rfl, rfl⟩ := he7
        clear hcell hG2 hG3 hset hK2 ho3 hO2 hR2 hR3
        go_wp2_with fail
        go_ret
        exact ⟨_, _, _, _, rfl, q7, q8, (fun h => by cases h), by simpa using hn, by omega, hcs, hK7, hR6, hO6⟩
    · have hxb1 : (x == 1) = false := beq_eq_false_iff_ne.2 hx1
      by_cases hx2 : x = 2
      · subst hx2
        obtain ⟨i0, hi, hz0, hz1, hz2⟩ := info_parts infoDefC
        have hsw2 := hO2.size
        go_wp2_with fail
        go_loopw [5] (fun vo wr => ∃ (A' : Option Addr) (n' c' : Nat) (ks' : List Tr), .slice A' n' c' = vo ∧ GrowD w wr 61 (.slice A' n' c') ks' n' ∧ n' ≤ 9 ∧ (∀ t ∈ ks', cnt t ≤ 401) ∧ Rd wr g (m + 1030) ∧ Only [g] w wr) (fun v _ => match v with | .slice _ n _ => 10 - n | _ => 0)
        case atStart => exact ⟨_, n, _, ks, rfl, hG2, by omega, fun t ht => by have := hcn t ht; omega, hR2.mono (by omega), hO2⟩
        case round =>
          obtain ⟨A', n', c', ks', rfl, hG', hn9, hcn', hR', hO'⟩ := hrel
          have hsr := hO'.size
          by_cases hlt : n' ≤ 8
          · have hd : decide ((n' : Int) ≤ 8) = true := decide_eq_true (by omega)
            have hcx := Lib.hid hcn'
            clear hcn' hG2 hK2 hR2 hO2
            go_wp2_with fail
            refine (l1Leaf_any _ 6 0).mono ?_
            rintro e w5 ⟨rfl, e5⟩
            go_wp2_with fail
            refine (l1Leaf_any _ 7 0).mono ?_
            rintro e w6 ⟨rfl, e6⟩
            have hx6 := (e5.trans e6).alloc (.cells #[.int .i64 6, .int .i64 0, .slice none 0 0, .int .i64 7, .int .i64 0, .slice none 0 0] 61)
            have hG6 := hG'.ext hx6
            have hB6 := heap_alloc_new w6 (.cells #[.int .i64 6, .int .i64 0, .slice none 0 0, .int .i64 7, .int .i64 0, .slice none 0 0] 61)
            go_wp2_with (at_builtin; refine wpList_append_def _ rfl (.tmp 39) (.tmp 43) 23 rfl 61 i0 _ Tryz.underlying23 hi hz0 hz1 hz2 rfl rfl hG6 (by have := hx6.size; omega) (InT.mk_iff.2 ⟨none, 0, rfl, Nat.le_refl _, Nat.zero_le _, .inl rfl⟩) (InT.mk_iff.2 ⟨none, 0, rfl, Nat.le_refl _, Nat.zero_le _, .inl rfl⟩) rfl hB6 (by omega) ?_)
            intro v' w7 hG7 hB7 _ _
            obtain ⟨A7, c7, rfl, -, -, -⟩ := hG7.slice
            have hR7 := (hR'.ext hx6).under hB7 hgl
            have hO7 : Only [g] w w7 := ⟨hB7.os.trans (hx6.os.trans hO'.os), hB7.tape.trans (hx6.tape.trans hO'.tape), hB7.output.trans (hx6.output.trans hO'.output), Nat.le_trans hO'.size (Nat.le_trans hx6.size hB7.size), fun b hb hn => (hB7.block b hb).trans ((hx6.heap b (by omega)).trans (hO'.block b hb hn))⟩
            clear hG6 hB6
            go_wp2_with fail
            go_roundw
            case rel => exact ⟨_, n' + 1, _, ks' ++ [.mk 6 0 [], .mk 7 0 []], rfl, hG7, by omega, fun t ht => by
              rcases List.mem_append.1 ht with ht | ht
              · exact hcx.out t ht
              · simp only [List.mem_cons, List.not_mem_nil, or_false] at ht
                rcases ht with rfl | rfl <;> decide, hR7, hO7⟩
            case measure => simp; omega
          · have hd : decide ((n' : Int) ≤ 8) = false := decide_eq_false (by omega)
            obtain ⟨A7, c7, he7, q7, q8, hK7⟩ := hG'.slice
            simp only [Value.slice.injEq, true_and] at he7
            obtain ⟨rfl, rfl⟩ := he7
            have hl7 := hG'.1
            clear hG2 hK2 hR2 hO2
            go_wp2_with fail
            go_ret
            exact ⟨_, _, _, ks', rfl, q7, q8, hG'.cap, hl7, hn9, hcn', hK7, hR', hO'⟩
      · have hxb2 : (x == 2) = false := beq_eq_false_iff_ne.2 hx2
        by_cases hx3 : x = 3
        · subst hx3
          by_cases hn0 : n = 0
          · subst hn0
            go_wp2_with fail
            go_ret
            exact ⟨A2, 0, c2, ks, rfl, q1, q2, hcp2, hn, by decide, fun t ht => by have := hcn t ht; omega, hK2, hR2.mono (by omega), hO2⟩
          · obtain ⟨n1, rfl⟩ : ∃ k, n = k + 1 := ⟨n - 1, by omega⟩
            obtain ⟨r, cp, he, hr1, hr2, -, -, hcell⟩ := hG2.row (by omega)
            simp only [Value.slice.injEq, true_and] at he
            obtain ⟨rfl, rfl⟩ := he
            have hp : decide ((0 : Int) < ((n1 + 1 : Nat) : Int)) = true := decide_eq_true (by omega)
            have hkd : (ks.drop 2).length = n1 * 2 := by rw [List.length_drop]; omega
            have hcd : ∀ t ∈ ks.drop 2, cnt t ≤ 401 := fun t ht => by have := hcn t (List.mem_of_mem_drop ht); omega
            unfold maxLen at q2
            have hKd := FromK.tailD hK2 (by intro h; rw [h] at hn; simp at hn)
            simp only [Nat.zero_add] at hKd
            go_wp2_with fail
            · go_ret
              exact ⟨_, _, _, rfl, by omega, by unfold maxLen; omega, (fun h => by cases h), [], by simp; omega, by omega, by simp, .inl rfl, hR2.mono (by omega), hO2⟩
            · go_ret
              exact ⟨_, _, _, rfl, by omega, by unfold maxLen; omega, (fun h => by cases h), ks.drop 2, hkd, by omega, hcd, hKd, hR2.mono (by omega), hO2⟩
        · have hxb3 : (x == 3) = false := beq_eq_false_iff_ne.2 hx3
          go_wp2_with fail
          go_ret
          exact ⟨A2, n, c2, ks, rfl, q1, q2, hcp2, hn, by omega, fun t ht => by have := hcn t ht; omega, hK2, hR2.mono (by omega), hO2⟩
end Go.Proofs.YtolkohncmidpeaaGreatDoor
namespace Go.Proofs.YtolkohncmidpeaaGreatDoor
open Go.RowKit
set_option linter.unusedVariables false
attribute [local go_sem ↓] Go.wp_at_zero Go.wp_at_succ
/-- Definitions that were drawn. -/
def DrawnD (w : World) (e : Ending) (w' : World) : Prop := ∃ A n c ks, e = .returned (.slice A n c) ∧ n ≤ c ∧ c ≤ maxLen ∧ (A = none → c = 0) ∧ ks.length = n * 2 ∧ n ≤ 9 ∧ LiesK w' A ks ∧ Ext w w'
set_option maxRecDepth 100000 in
set_option maxHeartbeats 1000000 in
theorem drawDefsValid_any (w : World) (A : Option Addr) (cap : Nat) (bs : List Int) (hl : bs.length ≤ cap) (hc : cap ≤ maxLen) (hB : Bytes w w.heap.size A bs) : Calls Tryz.prog 35 #[.slice A bs.length cap] w fun e w' => DrawnD w e w' := by
  go_enter Tryz.func35, Tryz.ntmps35
  go_wp2_with fail
  refine (l19Open_any w A cap bs hl hc hB).mono ?_
  rintro e w1 ⟨rfl, hR, h1⟩
  generalize hg : w.heap.size = g at hR ⊢
  have hg1 : g < w1.heap.size := hR.lt
  go_wp2_with fail
  refine (l9Draw_any w1 g 0 hR (by omega)).mono ?_
  rintro e w2 ⟨A2, n2, c2, ks2, t2, u2, rfl, hl2, hc2, hn2, hn8, hv2, ht2, hK2, hF2, hR2, ho2⟩
  obtain ⟨a1, a2, a3, a4, a5, rfl⟩ := hF2.three
  have hx := (Ext.refl w2).alloc (.cells #[.int .i64 a1, .int .i64 a2, .slice a3 a4 a5] 45)
  have hK3 : LiesK (w2.alloc (.cells #[.int .i64 a1, .int .i64 a2, .slice a3 a4 a5] 45)) A2 ks2 := InK.mono (fun b hb => Nat.lt_of_lt_of_le hb.2 hx.size) (fun b hb => hx.heap b hb.2) hK2
  have hR3 := hR2.ext hx
  have ho3 := ho2.trans (Only.of_ext (L := [g]) hx)
  go_wp2_with fail
  refine (l9Mutate_any ks2 n2 c2 _ g _ A2 hK3 hn2 hl2 hc2 hv2 hn8 hR3 (by omega)).mono ?_
  rintro e w4 ⟨A', n', cap', ks', rfl, q1, q2, q3, q4, q5, q6, q7, hR4, ho4⟩
  go_wp2_with fail
  go_ret
  exact ⟨A', n', cap', ks', rfl, q1, q2, q3, q4, q5, InK.mono (fun b hb => hb.2) (fun _ _ => rfl) q7, (ho3.trans ho4).ext h1 (by intro b hb; simp at hb; omega)⟩
theorem drawFormatDefs_any (w : World) (A : Option Addr) (cap : Nat) (bs : List Int) (hl : bs.length ≤ cap) (hc : cap ≤ maxLen) (hB : Bytes w w.heap.size A bs) : Calls Tryz.prog 9 #[.slice A bs.length cap] w fun e w' => DrawnD w e w' := by
  go_enter Tryz.func9, Tryz.ntmps9
  go_wp2_with fail
  refine (drawDefsValid_any w A cap bs hl hc hB).mono ?_
  rintro e w1 ⟨A', n', c', ks', rfl, h⟩
  go_wp2_with fail
  go_ret
  exact ⟨A', n', c', ks', rfl, h⟩
end Go.Proofs.YtolkohncmidpeaaGreatDoor

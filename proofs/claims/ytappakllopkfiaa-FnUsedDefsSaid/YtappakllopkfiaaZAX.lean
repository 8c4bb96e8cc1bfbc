/-
  Lemmas towards the law, 24: DrawM, DrawU.
-/
import Derived.Test.YtappakllopkfiaaZAW
import Derived.Deep.RegionHeld3
namespace Go.Proofs.Ytappakllopkfiaa
open Go.RowKit
set_option linter.unusedVariables false
attribute [local go_sem ↓] Go.wp_at_zero Go.wp_at_succ
theorem set_cnt {ks : List Tr} {t : Tr} {j m : Nat} (h : ∀ x ∈ ks, cnt x ≤ m) (ht : cnt t ≤ m) : ∀ x ∈ ks.set j t, cnt x ≤ m := fun x hx => by
  rcases List.mem_or_eq_of_mem_set hx with hx | rfl
  · exact h x hx
  · exact ht
set_option maxRecDepth 100000 in
set_option maxHeartbeats 2000000 in
theorem l9Mutate_any (ks : List Tr) (n cap : Nat) (w : World) (g m : Nat) (A : Option Addr) (h : LiesK w A ks) (hn : ks.length = n * 2) (hl : n ≤ cap) (hc : cap ≤ maxLen) (hv : ∀ t ∈ ks, valid sigT t = true) (hn8 : n ≤ 8) (hR : Rd w g m) (hm : m < 800000) :
    Calls Try.prog 113 #[.pointer (some ⟨g, 0, none⟩), .slice A n cap] w fun e w' => ∃ A' n' cap' ks', e = .returned (.slice A' n' cap') ∧ n' ≤ cap' ∧ cap' ≤ maxLen ∧ (A' = none → cap' = 0) ∧ ks'.length = n' * 2 ∧ n' ≤ 9 ∧ (∀ t ∈ ks', cnt t ≤ 401) ∧ FromK w.heap.size w' A' ks' ∧ Rd w' g (m + 1030) ∧ Only [g] w w' := by
  have hgl := hR.lt
  have hcn : ∀ t ∈ ks, cnt t ≤ 400 := fun t ht => (valid_parts (hv t ht)).2
  go_enter Try.func113, Try.ntmps113
  go_wp2_with fail
  refine (l9Copy_any ks n cap w A h hn hl hc (fun t ht => by have := hcn t ht; omega) (by omega)).mono ?_
  rintro e w1 ⟨v, rfl, hG, e1⟩
  go_wp2_with fail
  refine (pick_any w1 g m 30 (hR.ext e1) (by omega)).mono ?_
  rintro e w2 ⟨x, rfl, hx0, -, hR2, ho2⟩
  have hO2 : Only [g] w w2 := (Only.of_ext e1).trans ho2
  have hG2 := hG.only ho2 (by intro b hb; rw [List.mem_singleton.1 hb]; exact hgl)
  have hs2 := hO2.size
  clear hG hR h ho2 e1
  obtain ⟨A2, c2, rfl, q1, q2, hK2⟩ := hG2.slice
  have hcp2 := hG2.cap
  by_cases hx : x = 0
  · subst hx
    by_cases hn0 : n = 0
    · subst hn0
      go_wp2_with fail
      go_ret
      exact ⟨A2, 0, c2, ks, rfl, q1, q2, hcp2, hn, by decide, fun t ht => by have := hcn t ht; omega, hK2, hR2.mono (by omega), hO2⟩
    · obtain ⟨n1, rfl⟩ : ∃ k, n = k + 1 := ⟨n - 1, by omega⟩
      obtain ⟨r, cp, he, hr1, hr2, -, -, hcell⟩ := hG2.row (by omega)
      simp only [Value.slice.injEq, true_and] at he
      obtain ⟨rfl, rfl⟩ := he
      have hp : decide ((0 : Int) < ((n1 + 1 : Nat) : Int)) = true := decide_eq_true (by omega)
      go_wp2_with fail
      refine (l1Any_any w2 g _ hR2 (by omega)).mono ?_
      rintro e w3 ⟨t, u, rfl, hvt, hF, hR3, ho3⟩
      obtain ⟨k3, n3, A3, l3, c3, rfl⟩ := hF.three
      have hG3 := hG2.only ho3 (by intro b hb; rw [List.mem_singleton.1 hb]; exact hgl)
      obtain ⟨r', cp', he, -, -, -, -, hcell⟩ := hG3.row (by omega)
      simp only [Value.slice.injEq, Option.some.injEq, Addr.mk.injEq, and_true, true_and] at he
      obtain ⟨rfl, rfl⟩ := he
      obtain ⟨x0, y0, z0⟩ := hcell (n1 * 6 + 3) (by omega)
      obtain ⟨x1, y1, z1⟩ := hcell (n1 * 6 + 3 + 1) (by omega)
      obtain ⟨x2, y2, z2⟩ := hcell (n1 * 6 + 3 + 2) (by omega)
      have hset := hG3.set (j := n1 * 2 + 1) (t := t) (v0 := .int .i64 k3) (v1 := .int .i64 n3) (v2 := .slice A3 l3 c3) (by omega) (InT.mono (fun b hb => ⟨by have := hb.1; omega, hb.2, by have := hb.1; omega⟩) (fun _ _ => rfl) hF)
      rw [show (n1 * 2 + 1) * 3 = n1 * 6 + 3 by omega] at hset
      have hwr : IntKind.i64.wrap (((n1 + 1 : Nat) : Int) - 1) = (n1 : Int) := by rw [show ((n1 + 1 : Nat) : Int) - 1 = (n1 : Int) by omega]; exact IntWalk.i64_in _ ⟨by omega, by omega⟩
      have hn1 : (n1 : Int) < ((n1 + 1 : Nat) : Int) := by omega
      have hR6 := ((((hR3.mono (show _ ≤ m + 1030 by omega)).set (p := ⟨r, n1 * 6 + 3, none⟩) (by show g < r; omega) (.int .i64 k3)).set (p := ⟨r, n1 * 6 + 3 + 1, none⟩) (by show g < r; omega) (.int .i64 n3)).set (p := ⟨r, n1 * 6 + 3 + 2, none⟩) (by show g < r; omega) (.slice A3 l3 c3))
      have hO6 := (((hO2.trans ho3).setNew (p := ⟨r, n1 * 6 + 3, none⟩) (by show _ ≤ r; omega) (.int .i64 k3)).setNew (p := ⟨r, n1 * 6 + 3 + 1, none⟩) (by show _ ≤ r; omega) (.int .i64 n3)).setNew (p := ⟨r, n1 * 6 + 3 + 2, none⟩) (by show _ ≤ r; omega) (.slice A3 l3 c3)
      have hcs := set_cnt (j := n1 * 2 + 1) (t := t) (m := 401) (fun t ht => by have := hcn t ht; omega) (by have := (valid_parts hvt).2; omega)
      obtain ⟨A7, c7, he7, q7, q8, hK7⟩ := hset.slice
      simp only [Value.slice.injEq, true_and] at he7
      obtain ⟨rfl, rfl⟩ := he7
      clear hcell hG2 hG3 hset hK2 ho3 hO2 hR2 hR3
      go_wp2_with fail
      go_ret
      exact ⟨_, _, _, _, rfl, q7, q8, (fun h => by cases h), by simpa using hn, by omega, hcs, hK7, hR6, hO6⟩
  · have hxb0 : (x == 0) = false := beq_eq_false_iff_ne.2 hx
    by_cases hx1 : x = 1
    · subst hx1
      by_cases hn0 : n = 0
      · subst hn0
        go_wp2_with fail
        go_ret
        exact ⟨A2, 0, c2, ks, rfl, q1, q2, hcp2, hn, by decide, fun t ht => by have := hcn t ht; omega, hK2, hR2.mono (by omega), hO2⟩
      · obtain ⟨n1, rfl⟩ : ∃ k, n = k + 1 := ⟨n - 1, by omega⟩
        obtain ⟨r, cp, he, hr1, hr2, -, -, hcell⟩ := hG2.row (by omega)
        simp only [Value.slice.injEq, true_and] at he
        obtain ⟨rfl, rfl⟩ := he
        have hp : decide ((0 : Int) < ((n1 + 1 : Nat) : Int)) = true := decide_eq_true (by omega)
        go_wp2_with fail
        refine (l1Leaf_any w2 1 0).mono ?_
        rintro e wl ⟨rfl, el⟩
        go_wp2_with fail
        refine (l1Mutate_any (.mk 1 0 []) wl g _ _ (Lies.leaf wl 1 0) (by decide) (hR2.ext el) (by omega)).mono ?_
        rintro e w3 ⟨t, u, rfl, hct, hF, hR3, ho3⟩
        have hct2 : cnt t ≤ 2 := hct
        obtain ⟨k3, n3, A3, l3, c3, rfl⟩ := hF.three
        have hsl := el.size
        have hG3 := (hG2.ext el).only ho3 (by intro b hb; rw [List.mem_singleton.1 hb]; exact hgl)
        obtain ⟨r', cp', he, -, -, -, -, hcell⟩ := hG3.row (by omega)
        simp only [Value.slice.injEq, Option.some.injEq, Addr.mk.injEq, and_true, true_and] at he
        obtain ⟨rfl, rfl⟩ := he
        obtain ⟨x0, y0, z0⟩ := hcell 0 (by omega)
        obtain ⟨x1, y1, z1⟩ := hcell 1 (by omega)
        obtain ⟨x2, y2, z2⟩ := hcell 2 (by omega)
        have hset := hG3.set (j := 0) (t := t) (v0 := .int .i64 k3) (v1 := .int .i64 n3) (v2 := .slice A3 l3 c3) (by omega) (InT.mono (fun b hb => ⟨by have := hb.1; omega, hb.2, by have := hb.1; omega⟩) (fun _ _ => rfl) hF)
        simp only [Nat.zero_mul, Nat.zero_add] at hset
        have hn1 : (0 : Int) < ((n1 + 1 : Nat) : Int) := by omega
        have hR6 := ((((hR3.mono (show _ ≤ m + 1030 by omega)).set (p := ⟨r, 0, none⟩) (by show g < r; omega) (.int .i64 k3)).set (p := ⟨r, 1, none⟩) (by show g < r; omega) (.int .i64 n3)).set (p := ⟨r, 2, none⟩) (by show g < r; omega) (.slice A3 l3 c3))
        have hO6 := ((((hO2.trans (Only.of_ext (L := [g]) el)).trans ho3).setNew (p := ⟨r, 0, none⟩) (by show _ ≤ r; omega) (.int .i64 k3)).setNew (p := ⟨r, 1, none⟩) (by show _ ≤ r; omega) (.int .i64 n3)).setNew (p := ⟨r, 2, none⟩) (by show _ ≤ r; omega) (.slice A3 l3 c3)
        have hcs := set_cnt (j := 0) (t := t) (m := 401) (fun t ht => by have := hcn t ht; omega) (by omega)
        obtain ⟨A7, c7, he7, q7, q8, hK7⟩ := hset.slice
        simp only [Value.slice.injEq, true_and] at he7
        obtain ⟨rfl, rfl⟩ := he7
        clear hcell hG2 hG3 hset hK2 ho3 hO2 hR2 hR3
        go_wp2_with fail
        go_ret
        exact ⟨_, _, _, _, rfl, q7, q8, (fun h => by cases h), by simpa using hn, by omega, hcs, hK7, hR6, hO6⟩
    · have hxb1 : (x == 1) = false := beq_eq_false_iff_ne.2 hx1
      by_cases hx2 : x = 2
      · subst hx2
        obtain ⟨i0, hi, hz0, hz1, hz2⟩ := info_parts infoDefC
        have hsw2 := hO2.size
        go_wp2_with fail
        go_loopw [5] (fun vo wr => ∃ (A' : Option Addr) (n' c' : Nat) (ks' : List Tr), .slice A' n' c' = vo ∧ GrowD w wr 74 (.slice A' n' c') ks' n' ∧ n' ≤ 9 ∧ (∀ t ∈ ks', cnt t ≤ 401) ∧ Rd wr g (m + 1030) ∧ Only [g] w wr) (fun v _ => match v with | .slice _ n _ => 10 - n | _ => 0)
        case atStart => exact ⟨_, n, _, ks, rfl, hG2, by omega, fun t ht => by have := hcn t ht; omega, hR2.mono (by omega), hO2⟩
        case round =>
          obtain ⟨A', n', c', ks', rfl, hG', hn9, hcn', hR', hO'⟩ := hrel
          have hsr := hO'.size
          by_cases hlt : n' ≤ 8
          · have hd : decide ((n' : Int) ≤ 8) = true := decide_eq_true (by omega)
            have hcx := Lib.hid hcn'
            clear hcn' hG2 hK2 hR2 hO2
            go_wp2_with fail
            refine (l1Leaf_any _ 6 0).mono ?_
            rintro e w5 ⟨rfl, e5⟩
            go_wp2_with fail
            refine (l1Leaf_any _ 7 0).mono ?_
            rintro e w6 ⟨rfl, e6⟩
            have hx6 := (e5.trans e6).alloc (.cells #[.int .i64 6, .int .i64 0, .slice none 0 0, .int .i64 7, .int .i64 0, .slice none 0 0] 74)
            have hG6 := hG'.ext hx6
            have hB6 := heap_alloc_new w6 (.cells #[.int .i64 6, .int .i64 0, .slice none 0 0, .int .i64 7, .int .i64 0, .slice none 0 0] 74)
            go_wp2_with (at_builtin; refine wpList_append_def _ rfl (.tmp 39) (.tmp 43) 66 rfl 74 i0 _ Try.underlying66 hi hz0 hz1 hz2 rfl rfl hG6 (by have := hx6.size; omega) (InT.mk_iff.2 ⟨none, 0, rfl, Nat.le_refl _, Nat.zero_le _, .inl rfl⟩) (InT.mk_iff.2 ⟨none, 0, rfl, Nat.le_refl _, Nat.zero_le _, .inl rfl⟩) rfl hB6 (by omega) ?_)
            intro v' w7 hG7 hB7 _ _
            obtain ⟨A7, c7, rfl, -, -, -⟩ := hG7.slice
            have hR7 := (hR'.ext hx6).under hB7 hgl
            have hO7 : Only [g] w w7 := ⟨hB7.os.trans (hx6.os.trans hO'.os), hB7.tape.trans (hx6.tape.trans hO'.tape), hB7.output.trans (hx6.output.trans hO'.output), Nat.le_trans hO'.size (Nat.le_trans hx6.size hB7.size), fun b hb hn => (hB7.block b hb).trans ((hx6.heap b (by omega)).trans (hO'.block b hb hn))⟩
            clear hG6 hB6
            go_wp2_with fail
            go_roundw
            case rel => exact ⟨_, n' + 1, _, ks' ++ [.mk 6 0 [], .mk 7 0 []], rfl, hG7, by omega, fun t ht => by
              rcases List.mem_append.1 ht with ht | ht
              · exact hcx.out t ht
              · simp only [List.mem_cons, List.not_mem_nil, or_false] at ht
                rcases ht with rfl | rfl <;> decide, hR7, hO7⟩
            case measure => simp; omega
          · have hd : decide ((n' : Int) ≤ 8) = false := decide_eq_false (by omega)
            obtain ⟨A7, c7, he7, q7, q8, hK7⟩ := hG'.slice
            simp only [Value.slice.injEq, true_and] at he7
            obtain ⟨rfl, rfl⟩ := he7
            have hl7 := hG'.1
            clear hG2 hK2 hR2 hO2
            go_wp2_with fail
            go_ret
            exact ⟨_, _, _, ks', rfl, q7, q8, hG'.cap, hl7, hn9, hcn', hK7, hR', hO'⟩
      · have hxb2 : (x == 2) = false := beq_eq_false_iff_ne.2 hx2
        by_cases hx3 : x = 3
        · subst hx3
          by_cases hn0 : n = 0
          · subst hn0
            go_wp2_with fail
            go_ret
            exact ⟨A2, 0, c2, ks, rfl, q1, q2, hcp2, hn, by decide, fun t ht => by have := hcn t ht; omega, hK2, hR2.mono (by omega), hO2⟩
          · obtain ⟨n1, rfl⟩ : ∃ k, n = k + 1 := ⟨n - 1, by omega⟩
            obtain ⟨r, cp, he, hr1, hr2, -, -, hcell⟩ := hG2.row (by omega)
            simp only [Value.slice.injEq, true_and] at he
            obtain ⟨rfl, rfl⟩ := he
            have hp : decide ((0 : Int) < ((n1 + 1 : Nat) : Int)) = true := decide_eq_true (by omega)
            have hkd : (ks.drop 2).length = n1 * 2 := by rw [List.length_drop]; omega
            have hcd : ∀ t ∈ ks.drop 2, cnt t ≤ 401 := fun t ht => by have := hcn t (List.mem_of_mem_drop ht); omega
            unfold maxLen at q2
            have hKd := FromK.tailD hK2 (by intro h; rw [h] at hn; simp at hn)
            simp only [Nat.zero_add] at hKd
            go_wp2_with fail
            · go_ret
              exact ⟨_, _, _, rfl, by omega, by unfold maxLen; omega, (fun h => by cases h), [], by simp; omega, by omega, by simp, .inl rfl, hR2.mono (by omega), hO2⟩
            · go_ret
              exact ⟨_, _, _, rfl, by omega, by unfold maxLen; omega, (fun h => by cases h), ks.drop 2, hkd, by omega, hcd, hKd, hR2.mono (by omega), hO2⟩
        · have hxb3 : (x == 3) = false := beq_eq_false_iff_ne.2 hx3
          go_wp2_with fail
          go_ret
          exact ⟨A2, n, c2, ks, rfl, q1, q2, hcp2, hn, by omega, fun t ht => by have := hcn t ht; omega, hK2, hR2.mono (by omega), hO2⟩
end Go.Proofs.Ytappakllopkfiaa
namespace Go.Proofs.Ytappakllopkfiaa
open Go.RowKit
set_option linter.unusedVariables false
attribute [local go_sem ↓] Go.wp_at_zero Go.wp_at_succ
/-- Drawn definitions and a term. -/
def DefsQ (w : World) (e : Ending) (w' : World) : Prop := ∃ A n cap ks t u, e = .returned (.tuple #[.slice A n cap, u]) ∧ n ≤ cap ∧ cap ≤ maxLen ∧ (A = none → cap = 0) ∧ ks.length = n * 2 ∧ n ≤ 9 ∧ (∀ x ∈ ks, cnt x ≤ 401) ∧ cnt t ≤ 401 ∧ FromK w.heap.size w' A ks ∧ From w.heap.size w' t u ∧ Ext w w'
set_option maxRecDepth 100000 in
set_option maxHeartbeats 2000000 in
theorem drawUnfoldTerm_any (w : World) (A : Option Addr) (cap : Nat) (bs : List Int) (hl : bs.length ≤ cap) (hc : cap ≤ maxLen) (hB : Bytes w w.heap.size A bs) : Calls Try.prog 43 #[.slice A bs.length cap] w (DefsQ w) := by
  have hx0 := (Ext.refl w).alloc (.cells #[.int .i64 0, .int .i64 0, .slice none 0 0] 44)
  have hb0 := heap_alloc_new w (.cells #[.int .i64 0, .int .i64 0, .slice none 0 0] 44)
  go_enter Try.func43, Try.ntmps43
  go_wp2_with fail
  refine (l19Open_any _ A cap bs hl hc ((hB.ext hx0).mono hx0.size)).mono ?_
  rintro e w1 ⟨rfl, hR, h1⟩
  generalize hg : (w.alloc (.cells #[.int .i64 0, .int .i64 0, .slice none 0 0] 44)).heap.size = g at hR ⊢
  have hg' : w.heap.size < g := by rw [← hg]; simp
  have hb1 := h1.blk hb0
  have hg1 := hR.lt
  clear hg hb0
  go_wp2_with fail
  refine (l9Draw_any _ _ 0 hR (by omega)).mono ?_
  rintro e w2 ⟨A2, n2, c2, ks, t, u, rfl, p1, p2, hn, hn8, hv, hvt, hK, hF, hR2, ho⟩
  obtain ⟨b1, b2, b3, b4, b5, rfl⟩ := hF.three
  have hct := (valid_parts hvt).2
  have hs2 : w.heap.size < w2.heap.size := by have := lt_of_blk (ho.keepBlk hb1 (by simp; omega)); omega
  have hs12 := ho.size
  have hx4 := (Ext.refl w2).alloc (.cells #[.int .i64 b1, .int .i64 b2, .slice b3 b4 b5] 44)
  have hb4 := heap_alloc_new w2 (.cells #[.int .i64 b1, .int .i64 b2, .slice b3 b4 b5] 44)
  have hb14 := hx4.blk (ho.keepBlk hb1 (by simp; omega))
  have hO := ho.trans (Only.of_ext (L := [g]) hx4)
  have hF4 := hF.ext hx4
  have hK4 : FromK w1.heap.size _ A2 ks := InK.mono (fun b hb => ⟨hb.1, Nat.lt_of_lt_of_le hb.2 hx4.size⟩) (fun b hb => hx4.heap b hb.2) hK
  have hR4 := hR2.ext hx4
  go_wp2_with fail
  generalize hw4 : w2.alloc _ = w4 at hx4 hb4 hb14 hO hF4 hR4 hK4 ⊢
  clear hw4
  have lz := lt_of_blk hb4
  have HS := Lib.hid (show ∀ w', Only [g] w4 w' → w'.cell? ⟨w2.heap.size, 0, none⟩ = some (.int .i64 b1) ∧ w'.cell? ⟨w2.heap.size, 1, none⟩ = some (.int .i64 b2) ∧ w'.cell? ⟨w2.heap.size, 2, none⟩ = some (.slice b3 b4 b5) from fun w' hw => by
    obtain ⟨y0, y1, y2, -, -, -⟩ := own3 (hw.keepBlk hb4 (by simp; omega))
    exact ⟨y0, y1, y2⟩)
  have HBR := Lib.hid (show ∀ w', Only [g] w4 w' → w'.heap[w.heap.size]? = some (.cells #[.int .i64 0, .int .i64 0, .slice none 0 0] 44 (0, 0)) from fun w' hw => hw.keepBlk hb14 (by simp; omega))
  have HHS := Lib.hid (show ∀ w', Only [g] w4 w' → ∀ v0 v1 v2, (((w'.setCell ⟨w.heap.size, 0, none⟩ v0).setCell ⟨w.heap.size, 1, none⟩ v1).setCell ⟨w.heap.size, 2, none⟩ v2).cell? ⟨w2.heap.size, 0, none⟩ = some (.int .i64 b1) ∧ (((w'.setCell ⟨w.heap.size, 0, none⟩ v0).setCell ⟨w.heap.size, 1, none⟩ v1).setCell ⟨w.heap.size, 2, none⟩ v2).cell? ⟨w2.heap.size, 1, none⟩ = some (.int .i64 b2) ∧ (((w'.setCell ⟨w.heap.size, 0, none⟩ v0).setCell ⟨w.heap.size, 1, none⟩ v1).setCell ⟨w.heap.size, 2, none⟩ v2).cell? ⟨w2.heap.size, 2, none⟩ = some (.slice b3 b4 b5) from fun w' hw v0 v1 v2 => by
    obtain ⟨y0, y1, y2, -, -, -⟩ := own3 (blk_setCell_ne (blk_setCell_ne (blk_setCell_ne (hw.keepBlk hb4 (by simp; omega)) (p := ⟨w.heap.size, 0, none⟩) (by show w2.heap.size ≠ w.heap.size; omega) v0) (p := ⟨w.heap.size, 1, none⟩) (by show w2.heap.size ≠ w.heap.size; omega) v1) (p := ⟨w.heap.size, 2, none⟩) (by show w2.heap.size ≠ w.heap.size; omega) v2)
    exact ⟨y0, y1, y2⟩)
  have hwS : w.heap.size < w4.heap.size := lt_of_blk hb14
  have HO4 := Lib.hid hO
  have hD : Only [g] w4 w4.drew := Only.of_ext (Ext.refl w4).drew
  have hKL0 : LiesK w4 A2 ks := InK.mono (fun b hb => hb.2) (fun _ _ => rfl) hK4
  have hKL := hKL0.drew
  have hgx : ∀ b, b ∈ [g] → b < w1.heap.size := by intro b hb; rw [List.mem_singleton.1 hb]; exact hg1
  clear hb1 hb14 hb4 hO hx4 hK hF hR2
  go_region_held3 (fun w' => w'.cell? ⟨w2.heap.size, 0, none⟩ = some (.int .i64 b1) ∧ w'.cell? ⟨w2.heap.size, 1, none⟩ = some (.int .i64 b2) ∧ w'.cell? ⟨w2.heap.size, 2, none⟩ = some (.slice b3 b4 b5))
    (first | exact HHS.out _ ((hD.trans ho5).trans ho6) _ _ _ | exact HS.out _ ((hD.trans ho5).trans ho6) | exact HS.out _ (hD.trans ho5) | exact HS.out _ hD)
    (first
      | (go_at_call 113; refine (l9Mutate_any ks n2 c2 _ g _ A2 hKL hn p1 p2 hv hn8 (hR4.ext (Ext.refl w4).drew) (by omega)).mono ?_; rintro e w5 ⟨A5, n5, c5, ks5, rfl, r1, r2, rz, r3, r4, r5, hK5, hR5, ho5⟩)
      | (go_at_call 114; refine (l1Mutate_any t _ g _ _ (hF4.only (hD.trans ho5) hgx).lies (by omega) hR5 (by omega)).mono ?_; rintro e w6 ⟨t6, u6, rfl, hct6, hF6, hR6, ho6⟩; obtain ⟨d1, d2, d3, d4, d5, rfl⟩ := hF6.three; obtain ⟨q0, q1, q2, f0, f1, f2⟩ := own3 (HBR.out _ ((hD.trans ho5).trans ho6))))
  have hE := (HO4.out.trans ((hD.trans ho5).trans ho6)).ext (hx0.trans h1) (by intro b hb; simp at hb; omega)
  have hs5 : w4.heap.size ≤ w5.heap.size := (hD.trans ho5).size
  have hs6 : w5.heap.size ≤ w6.heap.size := ho6.size
  have hK6 : FromK w4.heap.size w6 A5 ks5 := InK.mono (fun b hb => ⟨hb.1, by have := hb.2; omega⟩) (fun b hb => ho6.block b hb.2 (by have h9 : w4.heap.size ≤ b := hb.1; simp; omega)) hK5
  go_wp2_with fail
  refine bodyPost_ret (v := .tuple #[.slice A5 n5 c5, .agg #[.int .i64 d1, .int .i64 d2, .slice d3 d4 d5]]) (by simp [results, Try.results43, go_sem, q0, q1, q2]) rfl ⟨_, _, _, ks5, t6, _, rfl, r1, r2, rz, r3, r4, r5, by omega, ?_, ?_, ?_⟩
  · refine InK.mono (fun b hb => ⟨by have h9 : w4.heap.size ≤ b := hb.1; omega, by simpa using hb.2⟩) (fun b hb => ?_) hK6
    have hb1 : w4.heap.size ≤ b := hb.1
    rw [Below.heap_setCell _ _ _ _ (by show b ≠ w.heap.size; omega), Below.heap_setCell _ _ _ _ (by show b ≠ w.heap.size; omega), Below.heap_setCell _ _ _ _ (by show b ≠ w.heap.size; omega)]
  · exact (((hF6.set (by show w.heap.size < w5.heap.size; omega) _).set (by show w.heap.size < w5.heap.size; omega) _).set (by show w.heap.size < w5.heap.size; omega) _).since (by omega)
  · exact ((hE.setCell (by simp) _).setCell (by simp) _).setCell (by simp) _
set_option maxRecDepth 100000 in
theorem drawUsedDefs_any (w : World) (A : Option Addr) (cap : Nat) (bs : List Int) (hl : bs.length ≤ cap) (hc : cap ≤ maxLen) (hB : Bytes w w.heap.size A bs) : Calls Try.prog 46 #[.slice A bs.length cap] w (DefsQ w) := by
  have hx0 := (Ext.refl w).alloc (.cells #[.int .i64 0, .int .i64 0, .slice none 0 0] 44)
  have hb0 := heap_alloc_new w (.cells #[.int .i64 0, .int .i64 0, .slice none 0 0] 44)
  go_enter Try.func46, Try.ntmps46
  go_wp2_with fail
  refine (drawUnfoldTerm_any _ A cap bs hl hc ((hB.ext hx0).mono hx0.size)).mono ?_
  rintro e w1 ⟨A5, n5, c5, ks5, t6, u, rfl, r1, r2, rz, r3, r4, r5, r6, hK, hF, h1⟩
  have hs1 : (w.alloc (.cells #[.int .i64 0, .int .i64 0, .slice none 0 0] 44)).heap.size = w.heap.size + 1 := by simp
  rw [hs1] at hK hF
  obtain ⟨d1, d2, d3, d4, d5, rfl⟩ := hF.three
  obtain ⟨s0, s1, s2, f0, f1, f2⟩ := own3 (h1.blk hb0)
  go_wp2_with fail
  refine bodyPost_ret (v := .tuple #[.slice A5 n5 c5, .agg #[.int .i64 d1, .int .i64 d2, .slice d3 d4 d5]]) (by simp [results, Try.results46, go_sem, s0, s1, s2]) rfl ⟨_, _, _, ks5, t6, _, rfl, r1, r2, rz, r3, r4, r5, r6, ?_, ?_, ?_⟩
  · refine InK.mono (fun b hb => ⟨by have := hb.1; omega, by simpa using hb.2⟩) (fun b hb => ?_) hK
    have hb1 : w.heap.size + 1 ≤ b := hb.1
    rw [Below.heap_setCell _ _ _ _ (by show b ≠ w.heap.size; omega), Below.heap_setCell _ _ _ _ (by show b ≠ w.heap.size; omega), Below.heap_setCell _ _ _ _ (by show b ≠ w.heap.size; omega)]
  · exact (((hF.set (by simp) _).set (by simp) _).set (by simp) _).since (by omega)
  · exact (((hx0.trans h1).setCell (by simp) _).setCell (by simp) _).setCell (by simp) _
end Go.Proofs.Ytappakllopkfiaa

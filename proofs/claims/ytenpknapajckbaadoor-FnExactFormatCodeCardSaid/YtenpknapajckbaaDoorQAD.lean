/-
  Lemmas towards the law, 4: Sz.
-/
import Derived.Test.YtenpknapajckbaaDoorQAC
import Derived.Outline
import Derived.Test.YtenpknapajckbaaDoorProg
namespace Go.Proofs.YtenpknapajckbaaDoor
open Go.RowKit
set_option linter.unusedVariables false
mutual
def szT : Tr → Int → Int
  | .mk _ _ ks, left => if left - ks.length < 0 then -1 else szF ks (left - ks.length)
def szF : List Tr → Int → Int
  | [], left => left
  | t :: ts, left => if szT t left < 0 then -1 else szF ts (szT t left)
end
def szL (ks : List Tr) (left : Int) : Int := if left - ks.length < 0 then -1 else szF ks (left - ks.length)
mutual
theorem szT_le : ∀ (t : Tr) (left : Int), -1 ≤ left → szT t left ≤ left ∧ -1 ≤ szT t left
  | .mk _ _ ks, left, h => by
    unfold szT
    by_cases h0 : left - ks.length < 0
    · rw [if_pos h0]; omega
    · rw [if_neg h0]
      have := szF_le ks (left - ks.length) (by omega)
      omega
theorem szF_le : ∀ (ts : List Tr) (left : Int), -1 ≤ left → szF ts left ≤ left ∧ -1 ≤ szF ts left
  | [], left, h => by unfold szF; omega
  | t :: ts, left, h => by
    unfold szF
    have := szT_le t left h
    by_cases h0 : szT t left < 0
    · rw [if_pos h0]; omega
    · rw [if_neg h0]
      have := szF_le ts (szT t left) (by omega)
      omega
end
mutual
theorem szT_cnt : ∀ (t : Tr) (left : Int), 0 ≤ left → 0 ≤ szT t left → szT t left = left - cnts t.kids
  | .mk _ _ ks, left, h, hp => by
    simp only [szT, Tr.kids] at *
    by_cases h0 : left - ks.length < 0
    · rw [if_pos h0] at hp; omega
    · rw [if_neg h0] at hp ⊢
      have := szF_cnt ks (left - ks.length) (by omega) hp
      omega
theorem szF_cnt : ∀ (ts : List Tr) (left : Int), 0 ≤ left → 0 ≤ szF ts left → szF ts left = left - (cnts ts - ts.length)
  | [], left, h, hp => by simp [szF, cnts]
  | t :: ts, left, h, hp => by
    simp only [szF] at *
    by_cases h0 : szT t left < 0
    · rw [if_pos h0] at hp; omega
    · rw [if_neg h0] at hp ⊢
      have h1 := szT_cnt t left h (by omega)
      have h2 := szF_cnt ts (szT t left) (by omega) hp
      obtain ⟨a, b, ks⟩ := t
      simp only [cnts, cnt, List.length_cons, Tr.kids] at *
      have := len_le_cnts ts
      omega
end
theorem szT_le_cnt {t : Tr} {left : Int} (h : 0 ≤ left) (hp : ¬ szT t left < 0) : (cnts t.kids : Int) + szT t left = left := by
  have := szT_cnt t left h (by omega)
  omega
def SzCodeC (t : Tr) : Prop := ∀ (w : World) (S : Nat → Prop) (v : Value) (left : Int), (∀ b, S b → b < w.heap.size) → InT w S t v → -1 ≤ left → left ≤ 1048576 →
  Calls Tryd.prog 6 #[v, .int .i64 left] w fun e w' => e = .returned (.int .i64 (szT t left)) ∧ Below w.heap.size w w'
set_option maxHeartbeats 400000 in
theorem szCodeS (ks : List Tr) (hk : ∀ t ∈ ks, SzCodeC t) (w : World) (S : Nat → Prop) (A : Option Addr) (cap : Nat) (left : Int) (hS : ∀ b, S b → b < w.heap.size) (h : InK w S A ks) (hl : ks.length ≤ cap) (hc : cap ≤ maxLen) (h1 : -1 ≤ left) (h2 : left ≤ 1048576) :
    Calls Tryd.prog 18 #[.slice A ks.length cap, .int .i64 left] w fun e w' => e = .returned (.int .i64 (szL ks left)) ∧ Below w.heap.size w w' := by
  unfold maxLen at hc
  by_cases h0 : left - ks.length < 0
  · have e : szL ks left = -1 := if_pos h0
    have E := Lib.hid e
    clear e
    have hd : decide (left - (ks.length : Int) < 0) = true := by simpa using h0
    go_enter Tryd.func18, Tryd.ntmps18
    go_wp2_with fail
    go_ret
    exact ⟨by rw [E.out]; rfl, Below.refl _ _⟩
  · have e : szL ks left = szF ks (left - ks.length) := if_neg h0
    have E := Lib.hid e
    clear e
    have hd : decide (left - (ks.length : Int) < 0) = false := by simpa using h0
    go_enter Tryd.func18, Tryd.ntmps18
    go_wp2_with fail
    go_loopw [1, 5] (fun l i wr => ∃ (j : Nat) (m : Int), j ≤ ks.length ∧ i = .int .i64 j ∧ l = .int .i64 m ∧ 0 ≤ m ∧ m ≤ 1048576 ∧ szF ks (left - ks.length) = szF (ks.drop j) m ∧ Below w.heap.size w wr) (fun _ i _ => ks.length - (intOf i).toNat)
    case atStart => exact ⟨0, left - ks.length, Nat.zero_le _, rfl, rfl, by omega, by omega, by simp, Below.refl _ _⟩
    case round =>
      obtain ⟨j, m, hj, rfl, rfl, hm0, hm1, hsz, hb⟩ := hrel
      have HS := Lib.hid hsz
      clear hsz
      by_cases hlt : j < ks.length
      · obtain ⟨b, o, k, n, A', cap', kids, rfl, hSb, hkj, c0, c1, c2, hl', hc', hK'⟩ := h.at_ hlt
        have d0 := (hb.cell (p := ⟨b, o + j * 3, none⟩) (hS b hSb)).trans c0
        have d1 := (hb.cell (p := ⟨b, o + j * 3 + 1, none⟩) (hS b hSb)).trans c1
        have d2 := (hb.cell (p := ⟨b, o + j * 3 + 2, none⟩) (hS b hSb)).trans c2
        clear c0 c1 c2
        have HK := Lib.hid hkj
        clear hkj
        go_wp2_with fail
        have hin : InT wr S (.mk k n kids) (.agg #[.int .i64 k, .int .i64 n, .slice A' kids.length cap']) := InT.mk_iff.2 ⟨A', cap', rfl, hl', hc', hK'.mono (fun _ h => h) (fun x hx => hb.block x (hS x hx))⟩
        refine (hk (.mk k n kids) (by rw [← HK.out]; exact List.getElem_mem hlt) wr S _ m (fun x hx => Nat.lt_of_lt_of_le (hS x hx) hb.size) hin (by omega) hm1).mono ?_
        rintro e w1 ⟨rfl, hb1⟩
        have hb2 : Below w.heap.size w w1 := hb.trans (hb1.mono hb.size)
        have hsl := szT_le (.mk k n kids) m (by omega)
        have hstep : szF (ks.drop j) m = if szT (.mk k n kids) m < 0 then -1 else szF (ks.drop (j + 1)) (szT (.mk k n kids) m) := by
          rw [List.drop_eq_getElem_cons hlt, HK.out]
          conv => lhs; unfold szF
        generalize szT (.mk k n kids) m = q at hstep hsl
        by_cases hq : q < 0
        · rw [if_pos hq] at hstep
          have HT := Lib.hid hstep
          clear hstep
          have hd2 : decide (q < 0) = true := by simpa using hq
          go_wp2_with fail
          go_ret
          exact ⟨by rw [E.out, HS.out, HT.out]; rfl, hb2⟩
        · rw [if_neg hq] at hstep
          have HT := Lib.hid hstep
          clear hstep
          have hd2 : decide (q < 0) = false := by simpa using hq
          go_wp2_with fail
          go_roundw
          case rel => exact ⟨j + 1, q, by omega, by go_num, rfl, by omega, by omega, by rw [HS.out, HT.out], hb2⟩
          case measure => simp [intOf]; omega
      · go_wp2_with fail
        go_ret
        exact ⟨by rw [E.out, HS.out, List.drop_of_length_le (by omega)]; unfold szF; rfl, hb⟩
theorem szCode_any : ∀ t : Tr, SzCodeC t := Tr.ind fun k n ks hk => by
  intro w S v left hS hin h1 h2
  obtain ⟨A, cap, rfl, hl, hc, hK⟩ := InT.mk_iff.1 hin
  clear hin
  have hb0 : Below w.heap.size w (w.alloc (.cells #[.int .i64 k, .int .i64 n, .slice A ks.length cap] 24)) := (Below.refl _ _).alloc (Nat.le_refl _) _
  have hs := szCodeS ks hk (w.alloc (.cells #[.int .i64 k, .int .i64 n, .slice A ks.length cap] 24)) S A cap left (fun b hb => Nat.lt_of_lt_of_le (hS b hb) hb0.size) (hK.mono (fun _ h => h) (fun x hx => hb0.block x (hS x hx))) hl hc h1 h2
  have HS := Lib.hid hs
  clear hs
  have e : szT (.mk k n ks) left = if szL ks left < 0 then -1 else szL ks left := by
    unfold szL
    conv => lhs; unfold szT
    split
    · simp
    · rename_i h0
      have := szF_le ks (left - ks.length) (by omega)
      split <;> omega
  have E := Lib.hid e
  clear e
  go_enter Tryd.func6, Tryd.ntmps6
  go_wp2_with fail
  refine HS.out.mono ?_
  rintro e w1 ⟨rfl, hb1⟩
  have hb2 : Below w.heap.size w w1 := hb0.trans (hb1.mono hb0.size)
  go_wp2_with fail
  all_goals go_ret
  · exact ⟨by rw [E.out, if_pos (by assumption)]; rfl, hb2⟩
  · exact ⟨by rw [E.out, if_neg (by omega)]; rfl, hb2⟩
end Go.Proofs.YtenpknapajckbaaDoor

/-
  Lemmas towards the law, 14: Node, WalkValid, Grow2, Bound.
-/
import Derived.Test.YtdkamgafpphdjaaEAL
import Derived.Deep.RegionHeld3
import Derived.Deep.RegionWith
import Derived.Outline
import Derived.StillTailTactics
import Derived.Test.YtdkamgafpphdjaaProg
namespace Go.Proofs.Ytdkamgafpphdjaa
open Go.RowKit
set_option linter.unusedVariables false
/-- The term of a number. -/
def numTr : Nat → Tr
  | 0 => .mk 7 0 []
  | n + 1 => .mk 8 0 [numTr n]
/-- The blocks of S, and those that came into being between w and w'. -/
def Plus (S : Nat → Prop) (w w' : World) (b : Nat) : Prop := S b ∨ w.heap.size ≤ b ∧ b < w'.heap.size
/-- A tree all whose rows came into being between w and w'. -/
def New (w w' : World) (t : Tr) (v : Value) : Prop := InT w' (fun b => w.heap.size ≤ b ∧ b < w'.heap.size) t v
theorem New.lies {w w' : World} {t : Tr} {v : Value} (h : New w w' t v) : Lies w' t v := h.mono (fun _ hb => hb.2) (fun _ _ => rfl)
theorem New.ext {w w' w2 : World} {t : Tr} {v : Value} (h : New w w' t v) (he : Ext w' w2) : New w w2 t v := h.mono (fun b hb => ⟨hb.1, Nat.lt_of_lt_of_le hb.2 he.size⟩) (fun b hb => he.heap b hb.2)
theorem New.since {a w w' : World} {t : Tr} {v : Value} (h : New w w' t v) (ha : a.heap.size ≤ w.heap.size) : New a w' t v := h.mono (fun b hb => ⟨Nat.le_trans ha hb.1, hb.2⟩) (fun _ _ => rfl)
theorem New.after {w w1 w2 : World} {t : Tr} {v : Value} (h : New w w1 t v) (ha : Above w.heap.size w1 w2) : New w w2 t v := h.mono (fun b hb => ⟨hb.1, Nat.lt_of_lt_of_le hb.2 ha.2⟩) (fun b hb => ha.1 b hb.1)
theorem New.leaf (w w' : World) (k n : Int) : New w w' (.mk k n []) (.agg #[.int .i64 k, .int .i64 n, .slice none 0 0]) := InT.mk_iff.2 ⟨none, 0, rfl, Nat.le_refl _, Nat.zero_le _, .inl rfl⟩
theorem InK.one {w : World} {S : Nat → Prop} {e : TypeId} {t : Tr} {v0 v1 v2 : Value} {g : Nat} (h : InT w S t (.agg #[v0, v1, v2])) (hg : w.heap[g]? = some (.cells #[v0, v1, v2] e (0, 0))) (hS : S g) : InK w S (some ⟨g, 0, none⟩) [t] := by
  refine .inr ⟨g, 0, rfl, hS, ?_⟩
  unfold InL
  refine ⟨⟨v0, v1, v2, cell_of_blk hg 0, cell_of_blk hg 1, cell_of_blk hg 2, h⟩, ?_⟩
  unfold InL
  trivial
/-- One tree made: a row of its own. -/
theorem MadeK.one {W wr w1 w : World} {e : TypeId} {t : Tr} {v0 v1 v2 : Value} {g : Nat} (hM : Made wr w1 e t (.agg #[v0, v1, v2])) (hE1 : wr.heap.size ≤ w1.heap.size) (hE : Ext w1 w) (hg : w.heap[g]? = some (.cells #[v0, v1, v2] e (0, 0))) (hgs : w1.heap.size ≤ g) (hW : W.heap.size ≤ wr.heap.size) : MadeK W w e (some ⟨g, 0, none⟩) [t] := by
  obtain ⟨L, h, hf⟩ := hM
  refine ⟨g :: L, .inr ⟨g, _, L, rfl, hg, rfl, OwnL.cons_iff.2 ⟨v0, v1, v2, [], L, [], rfl, h.mono fun b hb => hE.heap b (hf.2 b hb).2, OwnL.nil, by simp⟩⟩, List.nodup_cons.2 ⟨fun hm => ?_, hf.1⟩, fun b hm => ?_⟩
  · have := (hf.2 g hm).2
    omega
  · have := hE.size
    rcases List.mem_cons.1 hm with rfl | hm
    · exact ⟨by omega, lt_of_blk hg⟩
    · have := hf.2 b hm
      omega
theorem node_any (w : World) (k : Int) (A : Option Addr) (len cap : Nat) : Calls Try.prog 14 #[.int .i64 k, .slice A len cap] w fun e w' => e = .returned (.agg #[.int .i64 k, .int .i64 0, .slice A len cap]) ∧ Ext w w' := by
  go_enter Try.func14, Try.ntmps14
  go_wp2_with fail
  exact bodyPost_ret (v := .agg #[.int .i64 k, .int .i64 0, .slice A len cap]) (by simp [results, Try.results14, go_sem]) rfl ⟨rfl, (Ext.refl w).alloc _⟩
theorem l1Leaf_any (w : World) (k n : Int) : Calls Try.prog 24 #[.int .i64 k, .int .i64 n] w fun e w' => e = .returned (.agg #[.int .i64 k, .int .i64 n, .slice none 0 0]) ∧ Ext w w' := by
  go_enter Try.func24, Try.ntmps24
  go_wp2_with fail
  exact bodyPost_ret (v := .agg #[.int .i64 k, .int .i64 n, .slice none 0 0]) (by simp [results, Try.results24, go_sem]) rfl ⟨rfl, (Ext.refl w).alloc _⟩
theorem infoNTerm : (Try.prog.info? 27).map (fun i => (i.zero, i.size, i.bytes)) = some (some (.agg #[.int .i64 0, .int .i64 0, .slice none 0 0]), 3, 40) := by kernel_rfl
theorem l1Node_any (w : World) (k : Int) (A : Option Addr) (cap : Nat) (ks : List Tr) (hA : A = none → cap = 0) (S : Nat → Prop) (hS : ∀ b, S b → b < w.heap.size) (hK : InK w S A ks) (hn : ks.length ≤ 1099511627776) :
    Calls Try.prog 16 #[.int .i64 k, .slice A ks.length cap] w fun e w' => ∃ u, e = .returned u ∧ InT w' (Plus S w w') (.mk k 0 ks) u ∧ Ext w w' := by
  obtain ⟨i0, hi, hz0, hz1, hz2⟩ := info_parts infoNTerm
  have hK' : InK (w.alloc (.cells #[.int .i64 0, .int .i64 0, .slice none 0 0] 27)) S A ks := InK.mono (fun _ h => h) (fun b hb => Below.heap_alloc w _ b (hS b hb)) hK
  go_enter Try.func16, Try.ntmps16
  go_wp2_with (at_builtin; refine wpList_append_copy _ rfl (.tmp 6) (.tmp 7) 25 rfl 27 i0 _ Try.underlying25 hi hz0 hz1 hz2 rfl (W := w.alloc (.cells #[.int .i64 0, .int .i64 0, .slice none 0 0] 27)) (v := .slice (some ⟨w.heap.size + 1, 0, none⟩) 0 0) (A := A) (cap := cap) (ks := ks) rfl ?ow ((Ext.refl _).alloc _) rfl hA ?hS hK' hn ?_)
  case ow => simpa using World.ownsRow_lit (base := w.heap.size + 1) (e := 27) (size := 3) (w.alloc (.cells #[.int .i64 0, .int .i64 0, .slice none 0 0] 27)) #[] 0 (by simp) (Nat.zero_le _) rfl
  case hS => intro b hb; have := hS b hb; simp; omega
  intro B c' w2 hB hc1 hc2 hE _
  have hb := blk1 hE
  obtain ⟨r0, r1, r2, p0, p1, p2⟩ := own3 hb.1
  have hEs := hE.pre
  have hlt := hb.2
  clear hi hz0 hz1 hz2 hK' hb
  go_wp2_with fail
  refine bodyPost_ret (v := .agg #[.int .i64 k, .int .i64 0, .slice B ks.length c']) (by simp [results, Try.results16, go_sem, r0, r1, r2]) rfl ⟨_, rfl, InT.mk_iff.2 ⟨_, _, rfl, hc1, hc2, hB.mono ?_ ?_⟩, ?_⟩
  · intro b hb
    unfold Plus
    rw [World.size_setCell, World.size_setCell, World.size_setCell]
    rcases hb with hb | hb
    · exact .inl hb
    · have := hb.1
      exact .inr ⟨by omega, hb.2⟩
  · intro b hb
    have hne : b ≠ w.heap.size := by
      rcases hb with hb | hb
      · have := hS b hb
        omega
      · have := hb.1
        omega
    rw [Below.heap_setCell _ _ _ _ hne, Below.heap_setCell _ _ _ _ hne, Below.heap_setCell _ _ _ _ hne]
  · exact ((hEs.setCell (Nat.le_refl _) _).setCell (Nat.le_refl _) _).setCell (Nat.le_refl _) _
/-- The three cells of a made tree. -/
theorem Made.three {w w' : World} {e : TypeId} {t : Tr} {u : Value} (h : Made w w' e t u) : ∃ k n A l c, u = .agg #[.int .i64 k, .int .i64 n, .slice A l c] := by
  obtain ⟨k, n, ks⟩ := t
  obtain ⟨A, cap, rfl, _⟩ := Made.mk_iff.1 h
  exact ⟨k, n, A, _, cap, rfl⟩
theorem Lies.three {w : World} {t : Tr} {u : Value} (h : Lies w t u) : ∃ k n A l c, u = .agg #[.int .i64 k, .int .i64 n, .slice A l c] := by
  obtain ⟨k, n, ks⟩ := t
  obtain ⟨A, cap, rfl, _⟩ := Lies.mk_iff.1 h
  exact ⟨k, n, A, _, cap, rfl⟩
theorem numeral_any (n : Nat) (hn : n ≤ 1000) (w : World) : Calls Try.prog 15 #[.int .i64 n] w fun e w' => ∃ u, e = .returned u ∧ Made w w' 27 (numTr n) u ∧ Ext w w' := by
  go_enter Try.func15, Try.ntmps15
  go_wp2_with fail
  refine (node_any _ 7 none 0 0).mono ?_
  rintro e w1 ⟨rfl, hE⟩
  have hb0 := (blk1 hE).1
  have hs0 := hE.size_alloc
  obtain ⟨r0, r1, r2, p0, p1, p2⟩ := own3 hb0
  go_wp2_with fail
  have hM0 : ∀ a b, Made a b 27 (numTr 0) (.agg #[.int .i64 7, .int .i64 0, .slice none 0 0]) := fun a b => Made.leaf _ _ _ _ _
  obtain ⟨w2, hw2⟩ : ∃ w2, w2 = w1.alloc (.cells #[.int .i64 7, .int .i64 0, .slice none 0 0] 27) := ⟨_, rfl⟩
  have hs2 : w2.heap.size = w1.heap.size + 1 := by rw [hw2]; simp
  have hb2 : w2.heap[w1.heap.size]? = some (.cells #[.int .i64 7, .int .i64 0, .slice none 0 0] 27 (0, 0)) := hw2 ▸ heap_alloc_new _ _
  have he2 : Ext w1 w2 := hw2 ▸ (Ext.refl w1).alloc _
  go_loopw [0] (fun i wr => ∃ (j : Nat) (k a : Int) (A : Option Addr) (l c : Nat), j ≤ n ∧ i = .int .i64 ((n : Int) - j) ∧ wr.heap[w1.heap.size]? = some (.cells #[.int .i64 k, .int .i64 a, .slice A l c] 27 (0, 0)) ∧ Made w2 wr 27 (numTr j) (.agg #[.int .i64 k, .int .i64 a, .slice A l c]) ∧ Ext w1 wr ∧ w2.heap.size ≤ wr.heap.size) (fun i _ => (intOf i).toNat)
  case atStart => exact ⟨0, _, _, _, _, _, Nat.zero_le _, by simp, hw2 ▸ hb2, hM0 _ _, hw2 ▸ he2, by rw [← hw2]; exact Nat.le_refl _⟩
  case round =>
    obtain ⟨j, k, a, A, l, c, hj, rfl, hb, hM, hE1, hsz⟩ := hrel
    have hB := Lib.hid hb
    obtain ⟨q0, q1, q2, o0, o1, o2⟩ := own3 hb
    by_cases hlt : j < n
    · clear hb
      go_wp2_with fail
      refine (node_any _ 8 _ 1 1).mono ?_
      rintro e w3 ⟨rfl, hE3⟩
      have hb3 := (blk1 hE3).1
      have hs3 := hE3.size_alloc
      have hB3 := Lib.hid (hE3.pre.blk hB.out)
      obtain ⟨s0, s1, s2, t0, t1, t2⟩ := own3 hB3.out
      have hM3 : MadeK w2 w3 27 (some ⟨wr.heap.size, 0, none⟩) [numTr j] := MadeK.one hM hsz hE3.pre hb3 (Nat.le_refl _) (Nat.le_refl _)
      clear hb3
      go_wp2_with fail
      go_roundw
      case rel =>
        refine ⟨j + 1, _, _, _, _, _, by omega, by go_num, blk_setCell (blk_setCell (blk_setCell hB3.out _ _) _ _) _ _, Made.after (Made.mk (by simp) (by decide) hM3) ((((Above.refl _ _).setCell (by show w1.heap.size < _; omega) _).setCell (by show w1.heap.size < _; omega) _).setCell (by show w1.heap.size < _; omega) _), (((hE1.trans hE3.pre).setCell (Nat.le_refl _) _).setCell (Nat.le_refl _) _).setCell (Nat.le_refl _) _, by simp; omega⟩
      case measure => simp [intOf]; omega
    · have hjn : j = n := by omega
      obtain ⟨u0, u1, u2, v0, v1, v2⟩ := own3 (hE1.blk hb0)
      go_wp2_with fail
      refine bodyPost_ret (v := .agg #[.int .i64 k, .int .i64 a, .slice A l c]) (by simp [results, Try.results15, go_sem, u0, u1, u2]) rfl ⟨_, rfl, ?_, ?_⟩
      · exact Made.since (Made.after (hjn ▸ hM) ((((Above.refl _ _).setCell (by simp; omega) _).setCell (by simp; omega) _).setCell (by simp; omega) _)) (by omega)
      · exact ((((hE.pre.trans hE1).setCell (Nat.le_refl _) _).setCell (Nat.le_refl _) _).setCell (Nat.le_refl _) _)
theorem l1Numeral_any (n : Nat) (hn : n ≤ 1000) (w : World) : Calls Try.prog 17 #[.int .i64 n] w fun e w' => ∃ u, e = .returned u ∧ New w w' (numTr n) u ∧ Ext w w' := by
  go_enter Try.func17, Try.ntmps17
  go_wp2_with fail
  refine (l1Leaf_any _ 7 0).mono ?_
  rintro e w1 ⟨rfl, hE⟩
  have hb0 := (blk1 hE).1
  have hs0 := hE.size_alloc
  obtain ⟨r0, r1, r2, p0, p1, p2⟩ := own3 hb0
  go_wp2_with fail
  obtain ⟨w2, hw2⟩ : ∃ w2, w2 = w1.alloc (.cells #[.int .i64 7, .int .i64 0, .slice none 0 0] 27) := ⟨_, rfl⟩
  have hs2 : w2.heap.size = w1.heap.size + 1 := by rw [hw2]; simp
  have hb2 : w2.heap[w1.heap.size]? = some (.cells #[.int .i64 7, .int .i64 0, .slice none 0 0] 27 (0, 0)) := hw2 ▸ heap_alloc_new _ _
  have he2 : Ext w1 w2 := hw2 ▸ (Ext.refl w1).alloc _
  go_loopw [4] (fun i wr => ∃ (j : Nat) (k a : Int) (A : Option Addr) (l c : Nat), j ≤ n ∧ i = .int .i64 j ∧ wr.heap[w1.heap.size]? = some (.cells #[.int .i64 k, .int .i64 a, .slice A l c] 27 (0, 0)) ∧ New w2 wr (numTr j) (.agg #[.int .i64 k, .int .i64 a, .slice A l c]) ∧ Ext w1 wr ∧ w2.heap.size ≤ wr.heap.size) (fun i _ => n - (intOf i).toNat)
  case atStart => exact ⟨0, _, _, _, _, _, Nat.zero_le _, by simp, hw2 ▸ hb2, New.leaf _ _ _ _, hw2 ▸ he2, by rw [← hw2]; exact Nat.le_refl _⟩
  case round =>
    obtain ⟨j, k, a, A, l, c, hj, rfl, hb, hM, hE1, hsz⟩ := hrel
    have hB := Lib.hid hb
    obtain ⟨q0, q1, q2, o0, o1, o2⟩ := own3 hb
    by_cases hlt : j < n
    · clear hb
      go_wp2_with fail
      refine (l1Node_any _ 8 _ 1 [numTr j] (by intro h; cases h) (fun b => w2.heap.size ≤ b ∧ b < wr.heap.size + 1) (by intro b hb; simp; omega) (InK.one (InT.mono (fun b hb => ⟨hb.1, by omega⟩) (fun b hb => Below.heap_alloc wr _ b hb.2) hM) (heap_alloc_new wr _) ⟨hsz, by omega⟩) (by simp)).mono ?_
      rintro e w3 ⟨u, rfl, hI3, hE3⟩
      obtain ⟨k', a', A', l', c', rfl⟩ := Lies.three (hI3.mono (S' := fun b => b < w3.heap.size) (fun b hb => by have := hE3.size; simp at this; rcases hb with hb | hb <;> omega) (fun _ _ => rfl))
      have hs3 := hE3.size_alloc
      have hB3 := Lib.hid (hE3.pre.blk hB.out)
      obtain ⟨s0, s1, s2, t0, t1, t2⟩ := own3 hB3.out
      go_wp2_with fail
      go_roundw
      case rel =>
        refine ⟨j + 1, _, _, _, _, _, by omega, by go_num, blk_setCell (blk_setCell (blk_setCell hB3.out _ _) _ _) _ _, New.after (w1 := w3) (hI3.mono (fun b hb => ?_) (fun _ _ => rfl)) ((((Above.refl _ _).setCell (by show w1.heap.size < _; omega) _).setCell (by show w1.heap.size < _; omega) _).setCell (by show w1.heap.size < _; omega) _), (((hE1.trans hE3.pre).setCell (Nat.le_refl _) _).setCell (Nat.le_refl _) _).setCell (Nat.le_refl _) _, by simp; omega⟩
        have := hE3.size
        simp only [World.size_alloc] at this
        unfold Plus at hb
        simp only [World.size_alloc] at hb
        omega
      case measure => simp [intOf]; omega
    · have hjn : j = n := by omega
      obtain ⟨u0, u1, u2, v0, v1, v2⟩ := own3 (hE1.blk hb0)
      go_wp2_with fail
      refine bodyPost_ret (v := .agg #[.int .i64 k, .int .i64 a, .slice A l c]) (by simp [results, Try.results17, go_sem, u0, u1, u2]) rfl ⟨_, rfl, ?_, ?_⟩
      · exact New.since (New.after (hjn ▸ hM) ((((Above.refl _ _).setCell (by simp; omega) _).setCell (by simp; omega) _).setCell (by simp; omega) _)) (by omega)
      · exact ((((hE.pre.trans hE1).setCell (Nat.le_refl _) _).setCell (Nat.le_refl _) _).setCell (Nat.le_refl _) _)
end Go.Proofs.Ytdkamgafpphdjaa
namespace Go.Proofs.Ytdkamgafpphdjaa
open Go.RowKit
set_option linter.unusedVariables false
theorem within_any (n lo hi : Int) (w : World) : Calls Try.prog 19 #[.int .i64 n, .int .i64 lo, .int .i64 hi] w fun e w' => e = .returned (.bool (inR n lo hi)) ∧ w = w' := by
  by_cases h1 : lo ≤ n
  · by_cases h2 : n ≤ hi
    · have e : inR n lo hi = true := inR_iff.2 ⟨h1, h2⟩
      have E := Lib.hid e
      have d1 : decide (lo ≤ n) = true := by simpa using h1
      have d2 : decide (n ≤ hi) = true := by simpa using h2
      clear e
      go_enter Try.func19, Try.ntmps19
      go_wp2_with fail
      go_ret
      exact ⟨by rw [E.out]; rfl, rfl⟩
    · have e : inR n lo hi = false := inR_false.2 (.inr (by omega))
      have E := Lib.hid e
      have d1 : decide (lo ≤ n) = true := by simpa using h1
      have d2 : decide (n ≤ hi) = false := by simpa using h2
      clear e
      go_enter Try.func19, Try.ntmps19
      go_wp2_with fail
      go_ret
      exact ⟨by rw [E.out]; rfl, rfl⟩
  · have e : inR n lo hi = false := inR_false.2 (.inl (by omega))
    have E := Lib.hid e
    have d1 : decide (lo ≤ n) = false := by simpa using h1
    clear e
    go_enter Try.func19, Try.ntmps19
    go_wp2_with fail
    go_ret
    exact ⟨by rw [E.out]; rfl, rfl⟩
theorem opsT_any (k : Int) (w : World) : Calls Try.prog 39 #[.int .i64 k] w fun e w' => e = .returned (.int .i64 (opsT k)) ∧ Ext w w' := by
  by_cases h1 : inR k 1 16 = true
  · have H1 := Lib.hid h1
    have h2 := inR_iff.1 h1
    clear h1
    have hcs : ∀ j : Nat, j < 16 → k = (j : Int) + 1 → Calls Try.prog 39 #[.int .i64 k] w fun e w' => e = .returned (.int .i64 (opsT k)) ∧ Ext w w' := by
      intro j hj hk
      subst hk
      have HX := H1
      go_enter Try.func39, Try.ntmps39
      go_wp2_with (go_at_call 19; refine (within_any _ _ _ _).mono ?_; rw [HX.out]; rintro e w1 ⟨rfl, rfl⟩)
      go_ret
      refine ⟨?_, (Ext.refl _).alloc _⟩
      rcases (by omega : j = 0 ∨ j = 1 ∨ j = 2 ∨ j = 3 ∨ j = 4 ∨ j = 5 ∨ j = 6 ∨ j = 7 ∨ j = 8 ∨ j = 9 ∨ j = 10 ∨ j = 11 ∨ j = 12 ∨ j = 13 ∨ j = 14 ∨ j = 15) with rfl | rfl | rfl | rfl | rfl | rfl | rfl | rfl | rfl | rfl | rfl | rfl | rfl | rfl | rfl | rfl <;> rfl
    exact hcs (k - 1).toNat (by omega) (by omega)
  · have h2 : inR k 1 16 = false := by simpa using h1
    have H2 := Lib.hid h2
    have h3 := inR_false.1 h2
    have e : opsT k = -1 := by
      unfold opsT
      repeat rw [if_neg (by omega)]
    have E := Lib.hid e
    clear h1 h2 e
    go_enter Try.func39, Try.ntmps39
    go_wp2_with (go_at_call 19; refine (within_any _ _ _ _).mono ?_; rw [H2.out]; rintro e w1 ⟨rfl, rfl⟩)
    go_ret
    exact ⟨by rw [E.out]; rfl, Ext.refl _⟩
theorem mostT_any (k : Int) (w : World) : Calls Try.prog 40 #[.int .i64 k] w fun e w' => e = .returned (.int .i64 (mostT k)) ∧ w = w' := by
  by_cases h1 : k = 1
  · have e : mostT k = 20 := by simp [mostT, h1]
    have E := Lib.hid e
    have d1 : (k == 1) = true := by simpa using h1
    clear e h1
    go_enter Try.func40, Try.ntmps40
    go_wp2_with fail
    go_ret
    exact ⟨by rw [E.out]; rfl, rfl⟩
  · have d1 : (k == 1) = false := by simpa using h1
    by_cases h2 : k = 2
    · have e : mostT k = 3 := by simp [mostT, h2]
      have E := Lib.hid e
      have d2 : (k == 2) = true := by simpa using h2
      clear e h1 h2
      go_enter Try.func40, Try.ntmps40
      go_wp2_with fail
      go_ret
      exact ⟨by rw [E.out]; rfl, rfl⟩
    · have e : mostT k = 0 := by simp [mostT, h1, h2]
      have E := Lib.hid e
      have d2 : (k == 2) = false := by simpa using h2
      clear e h1 h2
      go_enter Try.func40, Try.ntmps40
      go_wp2_with fail
      go_ret
      exact ⟨by rw [E.out]; rfl, rfl⟩
end Go.Proofs.Ytdkamgafpphdjaa
namespace Go.Proofs.Ytdkamgafpphdjaa
open Go.RowKit
set_option linter.unusedVariables false
theorem Grow.only {W w w' : World} {e : TypeId} {v : Value} {ks : List Tr} {L : List Nat} (h : Grow W w e v ks) (ho : Only L w w') (hL : ∀ b, b ∈ L → b < W.heap.size) : Grow W w' e v ks :=
  h.same ho.size (fun b hb hlt => ho.block b hlt (fun hm => by have := hL b hm; omega))
theorem Only.below {L : List Nat} {a w w' : World} {B : Nat} (h : Only L a w) (hb : Below B w w') (hB : a.heap.size ≤ B) : Only L a w' :=
  ⟨hb.os.trans h.os, hb.tape.trans h.tape, hb.output.trans h.output, Nat.le_trans h.size hb.size, fun i hi hn => (hb.block i (by omega)).trans (h.block i hi hn)⟩
theorem Grow.step2 {W wr w1 w w' : World} {e : TypeId} {v v' : Value} {ks : List Tr} {t : Tr} {v0 v1 v2 : Value} {xs : List Value} {L : List Nat}
    (hL : OwnL wr e xs ks L) (hF : Fresh W wr L) (hv : ∀ g, v.ownBlock = some g → ¬ g ∈ L ∧ g < wr.heap.size ∧ W.heap.size ≤ g) (hx : xs.length = ks.length * 3) (hW : W.heap.size ≤ wr.heap.size) (hs1 : wr.heap.size ≤ w1.heap.size) (hA1 : ∀ b, W.heap.size ≤ b → b < wr.heap.size → w1.heap[b]? = wr.heap[b]?) (hM : Made wr w1 e t (.agg #[v0, v1, v2])) (hE2 : Ext w1 w)
    (h2 : w'.ownsRow W.heap.size e 3 v' (ks.length + 1) (xs ++ [v0, v1, v2])) (h3 : w.grownBy w' v.ownBlock) (h4 : ∀ g, v'.ownBlock = some g → v.ownBlock = some g ∨ w.heap.size ≤ g) : Grow W w' e v' (ks ++ [t]) ∧ Below W.heap.size w1 w' ∧ (∀ b, wr.heap.size ≤ b → b < w1.heap.size → w'.heap[b]? = w1.heap[b]?) := by
  obtain ⟨M, hM, hFM⟩ := hM
  have s1 := hs1
  have s2 := hE2.size
  have keep : ∀ b, b < w1.heap.size → (v.ownBlock ≠ some b) → w'.heap[b]? = w1.heap[b]? := fun b hb hne => (h3.block b (by omega) (fun h => hne h.symm)).trans (hE2.heap b hb)
  refine ⟨⟨_, L ++ M, by simpa using h2, OwnL.snoc (hM.mono fun b hb => keep b (hFM.2 b hb).2 fun he => ?_) [] hx (hL.mono fun b hb => (keep b (by have := (hF.2 b hb).2; omega) fun he => ?_).trans (hA1 b (hF.2 b hb).1 (hF.2 b hb).2)), ?_, fun g hg hm => ?_⟩, ?_⟩
  · have := (hv b he).2.1
    have := (hFM.2 b hb).1
    omega
  · exact (hv b he).1 hb
  · have h5 := hF.append (d := w1) hFM (Nat.le_refl _) hW hs1
    exact h5.mono (Nat.le_refl _) (by have := h3.size; omega)
  · rcases h4 g hg with h | h
    · rcases List.mem_append.1 hm with hm | hm
      · exact (hv g h).1 hm
      · have := (hv g h).2.1
        have := (hFM.2 g hm).1
        omega
    · rcases List.mem_append.1 hm with hm | hm
      · have := (hF.2 g hm).2
        omega
      · have := (hFM.2 g hm).2
        omega
  · refine ⟨⟨h3.os.trans hE2.os, h3.tape.trans hE2.tape, h3.output.trans hE2.output, by have := h3.size; omega, fun b hb => ?_⟩, fun b h0 h1 => keep b h1 (fun he => by have := (hv b he).2.1; omega)⟩
    exact keep b (by omega) (fun he => by have := (hv b he).2.2; omega)
theorem wp_append_tree2 {P : Program} (w : World) {o : Oper} {a : Act} {K : Act → World → Prop} {Q : Exit → Act → World → Prop} (s x : Operand) (t : TypeId)
    (ho : o.op = .call { callee := .builtin .append, args := #[s, x], argTypes := #[t, t] })
    (e : TypeId) (i : TypeInfo) (z : Value) (ht : P.underlying t = some (.slice e)) (hi : P.info? e = some i) (hz : i.zero = some z) (hsize : i.size = 3) (hby : i.bytes = 40) (hzs : z.cells.size = 3)
    {W wr w1 : World} {v : Value} {ks : List Tr} {tr : Tr} {v0 v1 v2 : Value} {gx : Nat} (hs : a.eval s = v) (hG : Grow W wr e v ks) (hW : W.heap.size ≤ wr.heap.size) (hs1 : wr.heap.size ≤ w1.heap.size) (hA1 : ∀ b, W.heap.size ≤ b → b < wr.heap.size → w1.heap[b]? = wr.heap[b]?) (hM : Made wr w1 e tr (.agg #[v0, v1, v2])) (hE2 : Ext w1 w)
    (hx : a.eval x = .slice (some ⟨gx, 0, none⟩) 1 1) (hgx : w.heap[gx]? = some (.cells #[v0, v1, v2] e (0, 0))) (hn : ks.length < 1099511627776)
    (h : ∀ v' w', Grow W w' e v' (ks ++ [tr]) → Below W.heap.size w1 w' → (∀ b, wr.heap.size ≤ b → b < w1.heap.size → w'.heap[b]? = w1.heap[b]?) → K (a.put o.dst v') w') : o.wp P a w K Q := by
  obtain ⟨xs, L, h1, h2, h3, h4⟩ := hG
  have s1 := hs1
  have s2 := hE2.size
  have hown : w.ownsRow W.heap.size e 3 v ks.length xs := ownsRow_same h1 (fun g hg => (hE2.heap g (by have := (h1.lt g hg).2; omega)).trans (hA1 g (h1.lt g hg).1 (h1.lt g hg).2))
  obtain ⟨v', w', hr, r1, r2, r3⟩ := run_append_own' (P := P) w W.heap.size t o.type e i z 3 40 ht hi hz hsize hby hzs (by decide) v ks.length xs hown ⟨gx, 0, none⟩ 1 1 [v0, v1, v2] rfl (row3_cells hgx) (made_oneCell hM) (by unfold maxLen; omega) (by omega) (by omega)
  obtain ⟨g1, g2, g3⟩ := Grow.step2 h2 h3 (fun g hg => ⟨h4 g hg, (h1.lt g hg).2, (h1.lt g hg).1⟩) h1.1 hW hs1 hA1 hM hE2 r1 r2 r3
  unfold Oper.wp execOp
  simp only [ho, resolve, invoke, builtin, Sem.run_bind, Sem.run_pure, Result.andThen_ok, List.map_toArray, List.map_cons, List.map_nil, hs, hx, hr]
  exact h v' w' g1 g2 g3
/-- At a step of a region that draws its order. -/
theorem step_append_tree2 {P : Program} (w : World) {ops : Array Oper} {o : Oper} {a : Act} {K : Act → World → Prop} {Q : Exit → Act → World → Prop} {E : Prop} (hgd : o.guard = none) (s x : Operand) (t : TypeId)
    (ho : o.op = .call { callee := .builtin .append, args := #[s, x], argTypes := #[t, t] })
    (e : TypeId) (i : TypeInfo) (z : Value) (ht : P.underlying t = some (.slice e)) (hi : P.info? e = some i) (hz : i.zero = some z) (hsize : i.size = 3) (hby : i.bytes = 40) (hzs : z.cells.size = 3)
    {W wr w1 : World} {v : Value} {ks : List Tr} {tr : Tr} {v0 v1 v2 : Value} {gx : Nat} (hs : a.eval s = v) (hG : Grow W wr e v ks) (hW : W.heap.size ≤ wr.heap.size) (hs1 : wr.heap.size ≤ w1.heap.size) (hA1 : ∀ b, W.heap.size ≤ b → b < wr.heap.size → w1.heap[b]? = wr.heap[b]?) (hM : Made wr w1 e tr (.agg #[v0, v1, v2])) (hE2 : Ext w1 w)
    (hx : a.eval x = .slice (some ⟨gx, 0, none⟩) 1 1) (hgx : w.heap[gx]? = some (.cells #[v0, v1, v2] e (0, 0))) (hn : ks.length < 1099511627776)
    (h : ∀ v' w', Grow W w' e v' (ks ++ [tr]) → Below W.heap.size w1 w' → (∀ b, wr.heap.size ≤ b → b < w1.heap.size → w'.heap[b]? = w1.heap[b]?) → K (a.put o.dst v') w') :
    if Region.wanted o (yielded ops a.tmps) = true then Oper.wp P o a w K Q else E := by
  have hw : Region.wanted o (yielded ops a.tmps) = true := by simp [Region.wanted, hgd]
  rw [if_pos hw]
  exact wp_append_tree2 w s x t ho e i z ht hi hz hsize hby hzs hs hG hW hs1 hA1 hM hE2 hx hgx hn h
end Go.Proofs.Ytdkamgafpphdjaa
namespace Go.Proofs.Ytdkamgafpphdjaa
open Go.RowKit
set_option linter.unusedVariables false
mutual
/-- A tree's rows are there. -/
theorem InT.bound {w : World} {S : Nat → Prop} : ∀ {t : Tr} {v : Value}, InT w S t v → InT w (fun b => S b ∧ b < w.heap.size) t v
  | .mk k n ks, v, h => by
    obtain ⟨A, cap, rfl, h1, h2, h3⟩ := InT.mk_iff.1 h
    refine InT.mk_iff.2 ⟨A, cap, rfl, h1, h2, ?_⟩
    cases ks with
    | nil => exact .inl rfl
    | cons t ts =>
      rcases h3 with h3 | ⟨b, o, rfl, hb, hl⟩
      · cases h3
      · refine .inr ⟨b, o, rfl, ⟨hb, ?_⟩, InL.bound hl⟩
        unfold InL at hl
        obtain ⟨⟨v0, v1, v2, h0, -⟩, -⟩ := hl
        exact World.block_lt_of_cell? _ _ h0
theorem InL.bound {w : World} {S : Nat → Prop} {b : Nat} : ∀ {o : Nat} {ks : List Tr}, InL w S b o ks → InL w (fun b => S b ∧ b < w.heap.size) b o ks
  | _, [], _ => by unfold InL; trivial
  | o, t :: ts, h => by
    unfold InL at h ⊢
    obtain ⟨⟨v0, v1, v2, h0, h1, h2, ht⟩, hts⟩ := h
    exact ⟨⟨v0, v1, v2, h0, h1, h2, InT.bound ht⟩, InL.bound hts⟩
end
/-- A tree lies in a later world as1 it did. -/
theorem InT.later {w w' : World} {S : Nat → Prop} {t : Tr} {v : Value} (h : InT w S t v) (he : Ext w w') : InT w' S t v :=
  InT.mono (fun _ hb => hb.1) (fun b hb => he.heap b hb.2) h.bound
end Go.Proofs.Ytdkamgafpphdjaa

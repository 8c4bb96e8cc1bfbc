/-
  The makers of nodes: impl.node, impl.call, spec.l1Node, spec.l1Leaf; numerals.
-/
import Derived.Test.YtappakllopkfiaaGrow
import Derived.Test.YtappakllopkfiaaTo
namespace Go.Proofs.Ytappakllopkfiaa
open Go.RowKit
set_option linter.unusedVariables false

/-- The term of a number. -/
def numTr : Nat → Tr
  | 0 => .mk 7 0 []
  | n + 1 => .mk 8 0 [numTr n]
theorem cnt_numTr : ∀ n, cnt (numTr n) = n + 1
  | 0 => rfl
  | n + 1 => by simp [numTr, cnt, cnts, cnt_numTr n]

/-- The blocks of S, and those that came into being between w and w'. -/
def Plus (S : Nat → Prop) (w w' : World) (b : Nat) : Prop := S b ∨ w.heap.size ≤ b ∧ b < w'.heap.size
/-- A tree all whose rows came into being between w and w'. -/
def New (w w' : World) (t : Tr) (v : Value) : Prop := InT w' (fun b => w.heap.size ≤ b ∧ b < w'.heap.size) t v
theorem New.lies {w w' : World} {t : Tr} {v : Value} (h : New w w' t v) : Lies w' t v := h.mono (fun _ hb => hb.2) (fun _ _ => rfl)
theorem New.ext {w w' w2 : World} {t : Tr} {v : Value} (h : New w w' t v) (he : Ext w' w2) : New w w2 t v := h.mono (fun b hb => ⟨hb.1, Nat.lt_of_lt_of_le hb.2 he.size⟩) (fun b hb => he.heap b hb.2)
theorem New.since {a w w' : World} {t : Tr} {v : Value} (h : New w w' t v) (ha : a.heap.size ≤ w.heap.size) : New a w' t v := h.mono (fun b hb => ⟨Nat.le_trans ha hb.1, hb.2⟩) (fun _ _ => rfl)
theorem New.after {w w1 w2 : World} {t : Tr} {v : Value} (h : New w w1 t v) (ha : Above w.heap.size w1 w2) : New w w2 t v := h.mono (fun b hb => ⟨hb.1, Nat.lt_of_lt_of_le hb.2 ha.2⟩) (fun b hb => ha.1 b hb.1)
theorem New.leaf (w w' : World) (k n : Int) : New w w' (.mk k n []) (.agg #[.int .i64 k, .int .i64 n, .slice none 0 0]) := InT.mk_iff.2 ⟨none, 0, rfl, Nat.le_refl _, Nat.zero_le _, .inl rfl⟩
theorem InK.one {w : World} {S : Nat → Prop} {e : TypeId} {t : Tr} {v0 v1 v2 : Value} {g : Nat} (h : InT w S t (.agg #[v0, v1, v2])) (hg : w.heap[g]? = some (.cells #[v0, v1, v2] e (0, 0))) (hS : S g) : InK w S (some ⟨g, 0, none⟩) [t] := by
  refine .inr ⟨g, 0, rfl, hS, ?_⟩
  unfold InL
  refine ⟨⟨v0, v1, v2, cell_of_blk hg 0, cell_of_blk hg 1, cell_of_blk hg 2, h⟩, ?_⟩
  unfold InL
  trivial

/-- One tree made: a row of its own. -/
theorem MadeK.one {W wr w1 w : World} {e : TypeId} {t : Tr} {v0 v1 v2 : Value} {g : Nat} (hM : Made wr w1 e t (.agg #[v0, v1, v2])) (hE1 : wr.heap.size ≤ w1.heap.size) (hE : Ext w1 w) (hg : w.heap[g]? = some (.cells #[v0, v1, v2] e (0, 0))) (hgs : w1.heap.size ≤ g) (hW : W.heap.size ≤ wr.heap.size) : MadeK W w e (some ⟨g, 0, none⟩) [t] := by
  obtain ⟨L, h, hf⟩ := hM
  refine ⟨g :: L, .inr ⟨g, _, L, rfl, hg, rfl, OwnL.cons_iff.2 ⟨v0, v1, v2, [], L, [], rfl, h.mono fun b hb => hE.heap b (hf.2 b hb).2, OwnL.nil, by simp⟩⟩, List.nodup_cons.2 ⟨fun hm => ?_, hf.1⟩, fun b hm => ?_⟩
  · have := (hf.2 g hm).2
    omega
  · have := hE.size
    rcases List.mem_cons.1 hm with rfl | hm
    · exact ⟨by omega, lt_of_blk hg⟩
    · have := hf.2 b hm
      omega

theorem node_any (w : World) (k : Int) (A : Option Addr) (len cap : Nat) : Calls Try.prog 125 #[.int .i64 k, .slice A len cap] w fun e w' => e = .returned (.agg #[.int .i64 k, .int .i64 0, .slice A len cap]) ∧ Ext w w' := by
  go_enter Try.func125, Try.ntmps125
  go_wp2_with fail
  exact bodyPost_ret (v := .agg #[.int .i64 k, .int .i64 0, .slice A len cap]) (by simp [results, Try.results125, go_sem]) rfl ⟨rfl, (Ext.refl w).alloc _⟩
theorem call_any (w : World) (k : Int) (A : Option Addr) (len cap : Nat) : Calls Try.prog 139 #[.int .i64 k, .slice A len cap] w fun e w' => e = .returned (.agg #[.int .i64 k, .int .i64 0, .slice A len cap]) ∧ Ext w w' := by
  go_enter Try.func139, Try.ntmps139
  go_wp2_with fail
  exact bodyPost_ret (v := .agg #[.int .i64 k, .int .i64 0, .slice A len cap]) (by simp [results, Try.results139, go_sem]) rfl ⟨rfl, (Ext.refl w).alloc _⟩
theorem l1Leaf_any (w : World) (k n : Int) : Calls Try.prog 144 #[.int .i64 k, .int .i64 n] w fun e w' => e = .returned (.agg #[.int .i64 k, .int .i64 n, .slice none 0 0]) ∧ Ext w w' := by
  go_enter Try.func144, Try.ntmps144
  go_wp2_with fail
  exact bodyPost_ret (v := .agg #[.int .i64 k, .int .i64 n, .slice none 0 0]) (by simp [results, Try.results144, go_sem]) rfl ⟨rfl, (Ext.refl w).alloc _⟩
theorem infoNTerm : (Try.prog.info? 44).map (fun i => (i.zero, i.size, i.bytes)) = some (some (.agg #[.int .i64 0, .int .i64 0, .slice none 0 0]), 3, 40) := by kernel_rfl
theorem l1Node_any (w : World) (k : Int) (A : Option Addr) (cap : Nat) (ks : List Tr) (hA : A = none → cap = 0) (S : Nat → Prop) (hS : ∀ b, S b → b < w.heap.size) (hK : InK w S A ks) (hn : ks.length ≤ 1099511627776) :
    Calls Try.prog 126 #[.int .i64 k, .slice A ks.length cap] w fun e w' => ∃ u, e = .returned u ∧ InT w' (Plus S w w') (.mk k 0 ks) u ∧ Ext w w' := by
  obtain ⟨i0, hi, hz0, hz1, hz2⟩ := info_parts infoNTerm
  have hK' : InK (w.alloc (.cells #[.int .i64 0, .int .i64 0, .slice none 0 0] 44)) S A ks := InK.mono (fun _ h => h) (fun b hb => Below.heap_alloc w _ b (hS b hb)) hK
  go_enter Try.func126, Try.ntmps126
  go_wp2_with (at_builtin; refine wpList_append_copy _ rfl (.tmp 6) (.tmp 7) 42 rfl 44 i0 _ Try.underlying42 hi hz0 hz1 hz2 rfl (W := w.alloc (.cells #[.int .i64 0, .int .i64 0, .slice none 0 0] 44)) (v := .slice (some ⟨w.heap.size + 1, 0, none⟩) 0 0) (A := A) (cap := cap) (ks := ks) rfl ?ow ((Ext.refl _).alloc _) rfl hA ?hS hK' hn ?_)
  case ow => simpa using World.ownsRow_lit (base := w.heap.size + 1) (e := 44) (size := 3) (w.alloc (.cells #[.int .i64 0, .int .i64 0, .slice none 0 0] 44)) #[] 0 (by simp) (Nat.zero_le _) rfl
  case hS => intro b hb; have := hS b hb; simp; omega
  intro B c' w2 hB hc1 hc2 hE _
  have hb := blk1 hE
  obtain ⟨r0, r1, r2, p0, p1, p2⟩ := own3 hb.1
  have hEs := hE.pre
  have hlt := hb.2
  clear hi hz0 hz1 hz2 hK' hb
  go_wp2_with fail
  refine bodyPost_ret (v := .agg #[.int .i64 k, .int .i64 0, .slice B ks.length c']) (by simp [results, Try.results126, go_sem, r0, r1, r2]) rfl ⟨_, rfl, InT.mk_iff.2 ⟨_, _, rfl, hc1, hc2, hB.mono ?_ ?_⟩, ?_⟩
  · intro b hb
    unfold Plus
    rw [World.size_setCell, World.size_setCell, World.size_setCell]
    rcases hb with hb | hb
    · exact .inl hb
    · have := hb.1
      exact .inr ⟨by omega, hb.2⟩
  · intro b hb
    have hne : b ≠ w.heap.size := by
      rcases hb with hb | hb
      · have := hS b hb
        omega
      · have := hb.1
        omega
    rw [Below.heap_setCell _ _ _ _ hne, Below.heap_setCell _ _ _ _ hne, Below.heap_setCell _ _ _ _ hne]
  · exact ((hEs.setCell (Nat.le_refl _) _).setCell (Nat.le_refl _) _).setCell (Nat.le_refl _) _
theorem infoNCode : (Try.prog.info? 28).map (fun i => (i.zero, i.size, i.bytes)) = some (some (.agg #[.int .i64 0, .int .i64 0, .slice none 0 0]), 3, 40) := by kernel_rfl
theorem l12Node_any (w : World) (k : Int) (A : Option Addr) (cap : Nat) (ks : List Tr) (hA : A = none → cap = 0) (S : Nat → Prop) (hS : ∀ b, S b → b < w.heap.size) (hK : InK w S A ks) (hn : ks.length ≤ 1099511627776) :
    Calls Try.prog 140 #[.int .i64 k, .slice A ks.length cap] w fun e w' => ∃ u, e = .returned u ∧ InT w' (Plus S w w') (.mk k 0 ks) u ∧ Ext w w' := by
  obtain ⟨i0, hi, hz0, hz1, hz2⟩ := info_parts infoNCode
  have hK' : InK (w.alloc (.cells #[.int .i64 0, .int .i64 0, .slice none 0 0] 28)) S A ks := InK.mono (fun _ h => h) (fun b hb => Below.heap_alloc w _ b (hS b hb)) hK
  go_enter Try.func140, Try.ntmps140
  go_wp2_with (at_builtin; refine wpList_append_copy _ rfl (.tmp 6) (.tmp 7) 26 rfl 28 i0 _ Try.underlying26 hi hz0 hz1 hz2 rfl (W := w.alloc (.cells #[.int .i64 0, .int .i64 0, .slice none 0 0] 28)) (v := .slice (some ⟨w.heap.size + 1, 0, none⟩) 0 0) (A := A) (cap := cap) (ks := ks) rfl ?ow ((Ext.refl _).alloc _) rfl hA ?hS hK' hn ?_)
  case ow => simpa using World.ownsRow_lit (base := w.heap.size + 1) (e := 28) (size := 3) (w.alloc (.cells #[.int .i64 0, .int .i64 0, .slice none 0 0] 28)) #[] 0 (by simp) (Nat.zero_le _) rfl
  case hS => intro b hb; have := hS b hb; simp; omega
  intro B c' w2 hB hc1 hc2 hE _
  have hb := blk1 hE
  obtain ⟨r0, r1, r2, p0, p1, p2⟩ := own3 hb.1
  have hEs := hE.pre
  have hlt := hb.2
  clear hi hz0 hz1 hz2 hK' hb
  go_wp2_with fail
  refine bodyPost_ret (v := .agg #[.int .i64 k, .int .i64 0, .slice B ks.length c']) (by simp [results, Try.results140, go_sem, r0, r1, r2]) rfl ⟨_, rfl, InT.mk_iff.2 ⟨_, _, rfl, hc1, hc2, hB.mono ?_ ?_⟩, ?_⟩
  · intro b hb
    unfold Plus
    rw [World.size_setCell, World.size_setCell, World.size_setCell]
    rcases hb with hb | hb
    · exact .inl hb
    · have := hb.1
      exact .inr ⟨by omega, hb.2⟩
  · intro b hb
    have hne : b ≠ w.heap.size := by
      rcases hb with hb | hb
      · have := hS b hb
        omega
      · have := hb.1
        omega
    rw [Below.heap_setCell _ _ _ _ hne, Below.heap_setCell _ _ _ _ hne, Below.heap_setCell _ _ _ _ hne]
  · exact ((hEs.setCell (Nat.le_refl _) _).setCell (Nat.le_refl _) _).setCell (Nat.le_refl _) _

/-- The three cells of a made tree. -/
theorem Made.three {w w' : World} {e : TypeId} {t : Tr} {u : Value} (h : Made w w' e t u) : ∃ k n A l c, u = .agg #[.int .i64 k, .int .i64 n, .slice A l c] := by
  obtain ⟨k, n, ks⟩ := t
  obtain ⟨A, cap, rfl, _⟩ := Made.mk_iff.1 h
  exact ⟨k, n, A, _, cap, rfl⟩
theorem Lies.three {w : World} {t : Tr} {u : Value} (h : Lies w t u) : ∃ k n A l c, u = .agg #[.int .i64 k, .int .i64 n, .slice A l c] := by
  obtain ⟨k, n, ks⟩ := t
  obtain ⟨A, cap, rfl, _⟩ := Lies.mk_iff.1 h
  exact ⟨k, n, A, _, cap, rfl⟩
theorem numeral_any (n : Nat) (hn : n ≤ 1000) (w : World) : Calls Try.prog 82 #[.int .i64 n] w fun e w' => ∃ u, e = .returned u ∧ Made w w' 44 (numTr n) u ∧ Ext w w' := by
  go_enter Try.func82, Try.ntmps82
  go_wp2_with fail
  refine (node_any _ 7 none 0 0).mono ?_
  rintro e w1 ⟨rfl, hE⟩
  have hb0 := (blk1 hE).1
  have hs0 := hE.size_alloc
  obtain ⟨r0, r1, r2, p0, p1, p2⟩ := own3 hb0
  go_wp2_with fail
  have hM0 : ∀ a b, Made a b 44 (numTr 0) (.agg #[.int .i64 7, .int .i64 0, .slice none 0 0]) := fun a b => Made.leaf _ _ _ _ _
  obtain ⟨w2, hw2⟩ : ∃ w2, w2 = w1.alloc (.cells #[.int .i64 7, .int .i64 0, .slice none 0 0] 44) := ⟨_, rfl⟩
  have hs2 : w2.heap.size = w1.heap.size + 1 := by rw [hw2]; simp
  have hb2 : w2.heap[w1.heap.size]? = some (.cells #[.int .i64 7, .int .i64 0, .slice none 0 0] 44 (0, 0)) := hw2 ▸ heap_alloc_new _ _
  have he2 : Ext w1 w2 := hw2 ▸ (Ext.refl w1).alloc _
  go_loopw [0] (fun i wr => ∃ (j : Nat) (k a : Int) (A : Option Addr) (l c : Nat), j ≤ n ∧ i = .int .i64 ((n : Int) - j) ∧ wr.heap[w1.heap.size]? = some (.cells #[.int .i64 k, .int .i64 a, .slice A l c] 44 (0, 0)) ∧ Made w2 wr 44 (numTr j) (.agg #[.int .i64 k, .int .i64 a, .slice A l c]) ∧ Ext w1 wr ∧ w2.heap.size ≤ wr.heap.size) (fun i _ => (intOf i).toNat)
  case atStart => exact ⟨0, _, _, _, _, _, Nat.zero_le _, by simp, hw2 ▸ hb2, hM0 _ _, hw2 ▸ he2, by rw [← hw2]; exact Nat.le_refl _⟩
  case round =>
    obtain ⟨j, k, a, A, l, c, hj, rfl, hb, hM, hE1, hsz⟩ := hrel
    have hB := Lib.hid hb
    obtain ⟨q0, q1, q2, o0, o1, o2⟩ := own3 hb
    by_cases hlt : j < n
    · clear hb
      go_wp2_with fail
      refine (node_any _ 8 _ 1 1).mono ?_
      rintro e w3 ⟨rfl, hE3⟩
      have hb3 := (blk1 hE3).1
      have hs3 := hE3.size_alloc
      have hB3 := Lib.hid (hE3.pre.blk hB.out)
      obtain ⟨s0, s1, s2, t0, t1, t2⟩ := own3 hB3.out
      have hM3 : MadeK w2 w3 44 (some ⟨wr.heap.size, 0, none⟩) [numTr j] := MadeK.one hM hsz hE3.pre hb3 (Nat.le_refl _) (Nat.le_refl _)
      clear hb3
      go_wp2_with fail
      go_roundw
      case rel =>
        refine ⟨j + 1, _, _, _, _, _, by omega, by go_num, blk_setCell (blk_setCell (blk_setCell hB3.out _ _) _ _) _ _, Made.after (Made.mk (by simp) (by decide) hM3) ((((Above.refl _ _).setCell (by show w1.heap.size < _; omega) _).setCell (by show w1.heap.size < _; omega) _).setCell (by show w1.heap.size < _; omega) _), (((hE1.trans hE3.pre).setCell (Nat.le_refl _) _).setCell (Nat.le_refl _) _).setCell (Nat.le_refl _) _, by simp; omega⟩
      case measure => simp [intOf]; omega
    · have hjn : j = n := by omega
      obtain ⟨u0, u1, u2, v0, v1, v2⟩ := own3 (hE1.blk hb0)
      go_wp2_with fail
      refine bodyPost_ret (v := .agg #[.int .i64 k, .int .i64 a, .slice A l c]) (by simp [results, Try.results82, go_sem, u0, u1, u2]) rfl ⟨_, rfl, ?_, ?_⟩
      · exact Made.since (Made.after (hjn ▸ hM) ((((Above.refl _ _).setCell (by simp; omega) _).setCell (by simp; omega) _).setCell (by simp; omega) _)) (by omega)
      · exact ((((hE.pre.trans hE1).setCell (Nat.le_refl _) _).setCell (Nat.le_refl _) _).setCell (Nat.le_refl _) _)

theorem l1Numeral_any (n : Nat) (hn : n ≤ 1000) (w : World) : Calls Try.prog 80 #[.int .i64 n] w fun e w' => ∃ u, e = .returned u ∧ New w w' (numTr n) u ∧ Ext w w' := by
  go_enter Try.func80, Try.ntmps80
  go_wp2_with fail
  refine (l1Leaf_any _ 7 0).mono ?_
  rintro e w1 ⟨rfl, hE⟩
  have hb0 := (blk1 hE).1
  have hs0 := hE.size_alloc
  obtain ⟨r0, r1, r2, p0, p1, p2⟩ := own3 hb0
  go_wp2_with fail
  obtain ⟨w2, hw2⟩ : ∃ w2, w2 = w1.alloc (.cells #[.int .i64 7, .int .i64 0, .slice none 0 0] 44) := ⟨_, rfl⟩
  have hs2 : w2.heap.size = w1.heap.size + 1 := by rw [hw2]; simp
  have hb2 : w2.heap[w1.heap.size]? = some (.cells #[.int .i64 7, .int .i64 0, .slice none 0 0] 44 (0, 0)) := hw2 ▸ heap_alloc_new _ _
  have he2 : Ext w1 w2 := hw2 ▸ (Ext.refl w1).alloc _
  go_loopw [4] (fun i wr => ∃ (j : Nat) (k a : Int) (A : Option Addr) (l c : Nat), j ≤ n ∧ i = .int .i64 j ∧ wr.heap[w1.heap.size]? = some (.cells #[.int .i64 k, .int .i64 a, .slice A l c] 44 (0, 0)) ∧ New w2 wr (numTr j) (.agg #[.int .i64 k, .int .i64 a, .slice A l c]) ∧ Ext w1 wr ∧ w2.heap.size ≤ wr.heap.size) (fun i _ => n - (intOf i).toNat)
  case atStart => exact ⟨0, _, _, _, _, _, Nat.zero_le _, by simp, hw2 ▸ hb2, New.leaf _ _ _ _, hw2 ▸ he2, by rw [← hw2]; exact Nat.le_refl _⟩
  case round =>
    obtain ⟨j, k, a, A, l, c, hj, rfl, hb, hM, hE1, hsz⟩ := hrel
    have hB := Lib.hid hb
    obtain ⟨q0, q1, q2, o0, o1, o2⟩ := own3 hb
    by_cases hlt : j < n
    · clear hb
      go_wp2_with fail
      refine (l1Node_any _ 8 _ 1 [numTr j] (by intro h; cases h) (fun b => w2.heap.size ≤ b ∧ b < wr.heap.size + 1) (by intro b hb; simp; omega) (InK.one (InT.mono (fun b hb => ⟨hb.1, by omega⟩) (fun b hb => Below.heap_alloc wr _ b hb.2) hM) (heap_alloc_new wr _) ⟨hsz, by omega⟩) (by simp)).mono ?_
      rintro e w3 ⟨u, rfl, hI3, hE3⟩
      obtain ⟨k', a', A', l', c', rfl⟩ := Lies.three (hI3.mono (S' := fun b => b < w3.heap.size) (fun b hb => by have := hE3.size; simp at this; rcases hb with hb | hb <;> omega) (fun _ _ => rfl))
      have hs3 := hE3.size_alloc
      have hB3 := Lib.hid (hE3.pre.blk hB.out)
      obtain ⟨s0, s1, s2, t0, t1, t2⟩ := own3 hB3.out
      go_wp2_with fail
      go_roundw
      case rel =>
        refine ⟨j + 1, _, _, _, _, _, by omega, by go_num, blk_setCell (blk_setCell (blk_setCell hB3.out _ _) _ _) _ _, New.after (w1 := w3) (hI3.mono (fun b hb => ?_) (fun _ _ => rfl)) ((((Above.refl _ _).setCell (by show w1.heap.size < _; omega) _).setCell (by show w1.heap.size < _; omega) _).setCell (by show w1.heap.size < _; omega) _), (((hE1.trans hE3.pre).setCell (Nat.le_refl _) _).setCell (Nat.le_refl _) _).setCell (Nat.le_refl _) _, by simp; omega⟩
        have := hE3.size
        simp only [World.size_alloc] at this
        unfold Plus at hb
        simp only [World.size_alloc] at hb
        omega
      case measure => simp [intOf]; omega
    · have hjn : j = n := by omega
      obtain ⟨u0, u1, u2, v0, v1, v2⟩ := own3 (hE1.blk hb0)
      go_wp2_with fail
      refine bodyPost_ret (v := .agg #[.int .i64 k, .int .i64 a, .slice A l c]) (by simp [results, Try.results80, go_sem, u0, u1, u2]) rfl ⟨_, rfl, ?_, ?_⟩
      · exact New.since (New.after (hjn ▸ hM) ((((Above.refl _ _).setCell (by simp; omega) _).setCell (by simp; omega) _).setCell (by simp; omega) _)) (by omega)
      · exact ((((hE.pre.trans hE1).setCell (Nat.le_refl _) _).setCell (Nat.le_refl _) _).setCell (Nat.le_refl _) _)
end Go.Proofs.Ytappakllopkfiaa

/-
  Lemmas towards the law, 14: DefKit.
-/
import Derived.Test.YtenpknapajckbaaDoorFAC
import Derived.Test.YtenpknapajckbaaDoorFAK
import Derived.Test.YtenpknapajckbaaDoorFAL
import Derived.Test.YtenpknapajckbaaDoorFAM
import Derived.Outline
import Derived.StillTailTactics
import Derived.Test.YtenpknapajckbaaDoorProg
namespace Go.Proofs.YtenpknapajckbaaDoor
open Go.RowKit
set_option linter.unusedVariables false
theorem OwnL.append {w : World} {e : TypeId} {ys : List Value} {ts : List Tr} {M : List Nat} (ht : OwnL w e ys ts M) : ∀ {xs : List Value} {ks : List Tr} {L : List Nat}, xs.length = ks.length * 3 → OwnL w e xs ks L → OwnL w e (xs ++ ys) (ks ++ ts) (L ++ M)
  | xs, [], L, hx, h => by
    have hx0 : xs = [] := List.eq_nil_of_length_eq_zero (by simpa using hx)
    subst hx0
    unfold OwnL at h
    subst h
    simpa using ht
  | xs, x :: ks, L, hx, h => by
    obtain ⟨u0, u1, u2, rest, L1, L2, rfl, h1, h2, rfl⟩ := OwnL.cons_iff.1 h
    exact OwnL.cons_iff.2 ⟨u0, u1, u2, _, L1, L2 ++ M, rfl, h1, OwnL.append ht (by simp only [List.length_cons] at hx; omega) h2, by simp⟩
/-- The cells of some trees, in a row or not, made between two worlds. -/
def MadeL (w w' : World) (e : TypeId) (xs : List Value) (ks : List Tr) : Prop := ∃ L, OwnL w' e xs ks L ∧ Fresh w w' L
theorem MadeL.two {a b c d : World} {e : TypeId} {t1 t2 : Tr} {x0 x1 x2 y0 y1 y2 : Value} (h1 : Made a b e t1 (.agg #[x0, x1, x2])) (h2 : Made c d e t2 (.agg #[y0, y1, y2])) (hbc : Ext b c) (hab : a.heap.size ≤ b.heap.size) (hcd : Ext c d) : MadeL a d e [x0, x1, x2, y0, y1, y2] [t1, t2] := by
  obtain ⟨L, h1, f1⟩ := h1
  obtain ⟨M, h2, f2⟩ := h2
  exact ⟨L ++ (M ++ []), OwnL.cons_iff.2 ⟨x0, x1, x2, [y0, y1, y2], L, M ++ [], rfl, h1.mono (fun b hb => (hbc.trans hcd).heap b (f1.2 b hb).2), OwnL.cons_iff.2 ⟨y0, y1, y2, [], M, [], rfl, h2, OwnL.nil, rfl⟩, rfl⟩, by simpa using f1.append f2 hbc.size hab hcd.size⟩
theorem MadeL.after {W w1 w3 : World} {e : TypeId} {xs : List Value} {ks : List Tr} (h : MadeL W w1 e xs ks) (ha : Above W.heap.size w1 w3) : MadeL W w3 e xs ks := by
  obtain ⟨L, h, hf⟩ := h
  exact ⟨L, h.mono fun b hb => ha.1 b (hf.2 b hb).1, hf.mono (Nat.le_refl _) ha.2⟩
theorem MadeL.since {a w w' : World} {e : TypeId} {xs : List Value} {ks : List Tr} (h : MadeL w w' e xs ks) (ha : a.heap.size ≤ w.heap.size) : MadeL a w' e xs ks := by
  obtain ⟨L, h, hf⟩ := h
  exact ⟨L, h, hf.mono ha (Nat.le_refl _)⟩
def OwnD (w : World) (e eT : TypeId) (A : Option Addr) (ks : List Tr) (L : List Nat) : Prop :=
  (ks = [] ∧ L = []) ∨ ∃ b cs L', A = some ⟨b, 0, none⟩ ∧ w.heap[b]? = some (.cells cs e (0, 0)) ∧ L = b :: L' ∧ OwnL w eT cs.toList ks L'
/-- A slice of definitions that was made between w and w'. -/
def MadeD (w w' : World) (e eT : TypeId) (A : Option Addr) (ks : List Tr) : Prop := ∃ L, OwnD w' e eT A ks L ∧ Fresh w w' L
theorem OwnL.inL' {w : World} {e e' : TypeId} {b : Nat} {cs : Array Value} {S : Nat → Prop} (hb : w.heap[b]? = some (.cells cs e' (0, 0))) : ∀ {xs pre : List Value} {ks : List Tr} {L : List Nat}, OwnL w e xs ks L → cs.toList = pre ++ xs → (∀ x, x ∈ L → S x) → InL w S b pre.length ks
  | _, _, [], _, _, _, _ => by unfold InL; trivial
  | xs, pre, t :: ts, L, h, he, hS => by
    obtain ⟨v0, v1, v2, rest, L1, L2, rfl, h1, h2, rfl⟩ := OwnL.cons_iff.1 h
    unfold InL
    have hc : ∀ i, w.cell? ⟨b, i, none⟩ = cs.toList[i]? := fun i => by rw [cell_of_blk hb]; simp
    refine ⟨⟨v0, v1, v2, ?_, ?_, ?_, InT.mono (fun x hx => hS x (by simp [hx])) (fun _ _ => rfl) (OwnT.inT h1)⟩, ?_⟩
    · rw [hc, he, List.getElem?_append_right (Nat.le_refl _)]; simp
    · rw [hc, he, List.getElem?_append_right (by omega)]; simp
    · rw [hc, he, List.getElem?_append_right (by omega)]; simp
    · have := OwnL.inL' hb (pre := pre ++ [v0, v1, v2]) h2 (by simp [he]) (fun x hx => hS x (by simp [hx]))
      simpa using this
theorem MadeD.lies {w w' : World} {e eT : TypeId} {A : Option Addr} {ks : List Tr} (h : MadeD w w' e eT A ks) : LiesK w' A ks := by
  obtain ⟨L, h, hf⟩ := h
  rcases h with ⟨rfl, _⟩ | ⟨b, cs, L', rfl, hb, rfl, hl⟩
  · exact .inl rfl
  · exact .inr ⟨b, 0, rfl, (hf.2 b (by simp)).2, OwnL.inL' hb (pre := []) hl rfl (fun x hx => (hf.2 x (by simp [hx])).2)⟩
theorem OwnD.mono {w w' : World} {e eT : TypeId} {A : Option Addr} {ks : List Tr} {L : List Nat} (h : OwnD w e eT A ks L) (hw : ∀ b, b ∈ L → w'.heap[b]? = w.heap[b]?) : OwnD w' e eT A ks L := by
  rcases h with h | ⟨b, cs, L', rfl, hb, rfl, hl⟩
  · exact .inl h
  · exact .inr ⟨b, cs, L', rfl, (hw b (by simp)).trans hb, rfl, hl.mono (fun x hx => hw x (by simp [hx]))⟩
theorem MadeD.ext {w w' w2 : World} {e eT : TypeId} {A : Option Addr} {ks : List Tr} (h : MadeD w w' e eT A ks) (he : Ext w' w2) : MadeD w w2 e eT A ks := by
  obtain ⟨L, h, hf⟩ := h
  refine ⟨L, ?_, hf.mono (Nat.le_refl _) he.size⟩
  rcases h with h | ⟨b, cs, L', rfl, hb, rfl, hl⟩
  · exact .inl h
  · exact .inr ⟨b, cs, L', rfl, he.blk hb, rfl, hl.mono (fun x hx => he.heap x (hf.2 x (by simp [hx])).2)⟩
theorem MadeD.row {w w1 w' : World} {e eT : TypeId} {g : Nat} {cs : Array Value} {ks : List Tr} {L : List Nat} (hb : w'.heap[g]? = some (.cells cs e (0, 0))) (hl : OwnL w' eT cs.toList ks L) (hf : Fresh w1 w' L) (hg : w.heap.size ≤ g) (hg1 : g < w1.heap.size) : MadeD w w' e eT (some ⟨g, 0, none⟩) ks := by
  refine ⟨g :: L, .inr ⟨g, cs, L, rfl, hb, rfl, hl⟩, List.nodup_cons.2 ⟨fun hm => ?_, hf.1⟩, fun b hm => ?_⟩
  · have := hf.2 g hm
    omega
  · rcases List.mem_cons.1 hm with rfl | hm
    · exact ⟨hg, lt_of_blk hb⟩
    · have := hf.2 b hm
      omega
def set6 (cs : Array Value) (i : Nat) (v0 v1 v2 v3 v4 v5 : Value) : Array Value := (((((cs.setIfInBounds i v0).setIfInBounds (i + 1) v1).setIfInBounds (i + 2) v2).setIfInBounds (i + 3) v3).setIfInBounds (i + 4) v4).setIfInBounds (i + 5) v5
theorem take_set6 (cs : Array Value) (j : Nat) (h : j * 6 + 6 ≤ cs.size) (v0 v1 v2 v3 v4 v5 : Value) : (set6 cs (j * 6) v0 v1 v2 v3 v4 v5).toList.take ((j + 1) * 6) = cs.toList.take (j * 6) ++ [v0, v1, v2, v3, v4, v5] := by
  have e1 := take_set3 cs (j * 2) (by omega) v0 v1 v2
  have e2 := take_set3 (((cs.setIfInBounds (j * 2 * 3) v0).setIfInBounds (j * 2 * 3 + 1) v1).setIfInBounds (j * 2 * 3 + 2) v2) (j * 2 + 1) (by simp; omega) v3 v4 v5
  rw [e1] at e2
  rw [show (j * 2 + 1 + 1) * 3 = (j + 1) * 6 by omega, show (j * 2 + 1) * 3 = j * 6 + 3 by omega, show j * 2 * 3 = j * 6 by omega] at e2
  unfold set6
  rw [show j * 6 + 4 = j * 6 + 3 + 1 by omega, show j * 6 + 5 = j * 6 + 3 + 2 by omega, e2]
  simp
theorem size_set6 (cs : Array Value) (i : Nat) (v0 v1 v2 v3 v4 v5 : Value) : (set6 cs i v0 v1 v2 v3 v4 v5).size = cs.size := by simp [set6]
def store6' (w : World) (g i : Nat) (v0 v1 v2 v3 v4 v5 : Value) : World := (((((w.setCell ⟨g, i, none⟩ v0).setCell ⟨g, i + 1, none⟩ v1).setCell ⟨g, i + 2, none⟩ v2).setCell ⟨g, i + 3, none⟩ v3).setCell ⟨g, i + 4, none⟩ v4).setCell ⟨g, i + 5, none⟩ v5
theorem store6 {a w : World} {g i : Nat} {cs : Array Value} {e : TypeId} (v0 v1 v2 v3 v4 v5 : Value) (hb : w.heap[g]? = some (.cells cs e (0, 0))) (ha : Ext a w) (hg : a.heap.size ≤ g) :
    (store6' w g i v0 v1 v2 v3 v4 v5).heap[g]? = some (.cells (set6 cs i v0 v1 v2 v3 v4 v5) e (0, 0)) ∧ (∀ b, b ≠ g → (store6' w g i v0 v1 v2 v3 v4 v5).heap[b]? = w.heap[b]?) ∧ Ext a (store6' w g i v0 v1 v2 v3 v4 v5) ∧ (store6' w g i v0 v1 v2 v3 v4 v5).heap.size = w.heap.size := by
  unfold store6' set6
  refine ⟨blk_setCell (blk_setCell (blk_setCell (blk_setCell (blk_setCell (blk_setCell hb _ _) _ _) _ _) _ _) _ _) _ _, fun b hne => ?_, ((((((ha.setCell hg _).setCell hg _).setCell hg _).setCell hg _).setCell hg _).setCell hg _), by simp⟩
  rw [Below.heap_setCell _ _ _ _ hne, Below.heap_setCell _ _ _ _ hne, Below.heap_setCell _ _ _ _ hne, Below.heap_setCell _ _ _ _ hne, Below.heap_setCell _ _ _ _ hne, Below.heap_setCell _ _ _ _ hne]
theorem cells6 {w : World} {g i : Nat} {cs : Array Value} {e : TypeId} (hb : w.heap[g]? = some (.cells cs e (0, 0))) (h : i + 6 ≤ cs.size) :
    ∃ x0 x1 x2 x3 x4 x5, (w.cell? ⟨g, i, none⟩ = some x0 ∧ w.cell? ⟨g, i + 1, none⟩ = some x1 ∧ w.cell? ⟨g, i + 2, none⟩ = some x2 ∧ w.cell? ⟨g, i + 3, none⟩ = some x3 ∧ w.cell? ⟨g, i + 4, none⟩ = some x4 ∧ w.cell? ⟨g, i + 5, none⟩ = some x5) ∧
      w.frozen? ⟨g, i, none⟩ = false ∧ w.frozen? ⟨g, i + 1, none⟩ = false ∧ w.frozen? ⟨g, i + 2, none⟩ = false ∧ w.frozen? ⟨g, i + 3, none⟩ = false ∧ w.frozen? ⟨g, i + 4, none⟩ = false ∧ w.frozen? ⟨g, i + 5, none⟩ = false := by
  refine ⟨cs[i]'(by omega), cs[i + 1]'(by omega), cs[i + 2]'(by omega), cs[i + 3]'(by omega), cs[i + 4]'(by omega), cs[i + 5]'(by omega), ⟨?_, ?_, ?_, ?_, ?_, ?_⟩, frozen_of_blk hb _, frozen_of_blk hb _, frozen_of_blk hb _, frozen_of_blk hb _, frozen_of_blk hb _, frozen_of_blk hb _⟩ <;> (rw [cell_of_blk hb]; exact Array.getElem?_eq_getElem _)
theorem step_own6 {w2 wr w1 : World} {e : TypeId} {g j : Nat} {cs : Array Value} {ks : List Tr} {t1 t2 : Tr} {v0 v1 v2 v3 v4 v5 : Value} {L : List Nat} {w3 : World} (hcs : j * 6 + 6 ≤ cs.size)
    (hO : OwnL wr e (cs.toList.take (j * 6)) (ks.take (j * 2)) L) (hF : Fresh w2 wr L) (hg : g < w2.heap.size) (hks : (ks.take (j * 2)).length = j * 2) (hE : Ext wr w1) (hM : MadeL wr w1 e [v0, v1, v2, v3, v4, v5] [t1, t2]) (hle : w2.heap.size ≤ wr.heap.size)
    (hne : ∀ b, b ≠ g → w3.heap[b]? = w1.heap[b]?) (hsz : w3.heap.size = w1.heap.size) :
    ∃ L', OwnL w3 e ((set6 cs (j * 6) v0 v1 v2 v3 v4 v5).toList.take ((j + 1) * 6)) (ks.take (j * 2) ++ [t1, t2]) L' ∧ Fresh w2 w3 L' := by
  obtain ⟨M, hM, hFM⟩ := hM
  refine ⟨L ++ M, ?_, ?_⟩
  · rw [take_set6 cs j hcs]
    refine OwnL.append (hM.mono fun b hb => hne b ?_) (by rw [hks, List.length_take, Array.length_toList]; omega) (hO.mono fun b hb => (hne b ?_).trans (hE.heap b (hF.2 b hb).2))
    · have := (hFM.2 b hb).1
      omega
    · have := (hF.2 b hb).1
      omega
  · have h1 := hF.append (d := w1) hFM (Nat.le_refl _) hle hE.size
    exact h1.mono (Nat.le_refl _) (by omega)
theorem own6 {w : World} {g : Nat} {x0 x1 x2 x3 x4 x5 : Value} {e : TypeId} (hb : w.heap[g]? = some (.cells #[x0, x1, x2, x3, x4, x5] e (0, 0))) :
    (w.cell? ⟨g, 0, none⟩ = some x0 ∧ w.cell? ⟨g, 1, none⟩ = some x1 ∧ w.cell? ⟨g, 2, none⟩ = some x2 ∧ w.cell? ⟨g, 3, none⟩ = some x3 ∧ w.cell? ⟨g, 4, none⟩ = some x4 ∧ w.cell? ⟨g, 5, none⟩ = some x5) ∧
    w.frozen? ⟨g, 0, none⟩ = false ∧ w.frozen? ⟨g, 1, none⟩ = false ∧ w.frozen? ⟨g, 2, none⟩ = false ∧ w.frozen? ⟨g, 3, none⟩ = false ∧ w.frozen? ⟨g, 4, none⟩ = false ∧ w.frozen? ⟨g, 5, none⟩ = false :=
  ⟨⟨cell_of_blk hb 0, cell_of_blk hb 1, cell_of_blk hb 2, cell_of_blk hb 3, cell_of_blk hb 4, cell_of_blk hb 5⟩, frozen_of_blk hb 0, frozen_of_blk hb 1, frozen_of_blk hb 2, frozen_of_blk hb 3, frozen_of_blk hb 4, frozen_of_blk hb 5⟩
theorem szDef_any (k1 n1 k2 n2 : Int) (A1 A2 : Option Addr) (p1 p2 : Nat) (kids1 kids2 : List Tr) (w : World) (left : Int) (h1 : Lies w (.mk k1 n1 kids1) (.agg #[.int .i64 k1, .int .i64 n1, .slice A1 kids1.length p1])) (h2 : Lies w (.mk k2 n2 kids2) (.agg #[.int .i64 k2, .int .i64 n2, .slice A2 kids2.length p2])) (hl : -1 ≤ left) (hu : left ≤ 1048576) :
    Calls Tryd.prog 25 #[.agg #[.int .i64 k1, .int .i64 n1, .slice A1 kids1.length p1, .int .i64 k2, .int .i64 n2, .slice A2 kids2.length p2], .int .i64 left] w fun e w' => e = .returned (.int .i64 (szF [.mk k1 n1 kids1, .mk k2 n2 kids2] left)) ∧ Ext w w' := by
  have H1 := Lib.hid (fun W (hW : Ext w W) => szTerm_any _ W _ _ left (fun _ h => h) (h1.ext hW) hl hu)
  have hle := szT_le (.mk k1 n1 kids1) left hl
  have e1 : szF [.mk k1 n1 kids1, .mk k2 n2 kids2] left = if szT (.mk k1 n1 kids1) left < 0 then -1 else if szT (.mk k2 n2 kids2) (szT (.mk k1 n1 kids1) left) < 0 then -1 else szT (.mk k2 n2 kids2) (szT (.mk k1 n1 kids1) left) := by
    simp only [szF]
  generalize szT (.mk k1 n1 kids1) left = m1 at H1 hle e1
  have H2 := Lib.hid (fun W (hW : Ext w W) => szTerm_any _ W _ _ m1 (fun _ h => h) (h2.ext hW) (by omega) (by omega))
  have hle2 := szT_le (.mk k2 n2 kids2) m1 (by omega)
  generalize szT (.mk k2 n2 kids2) m1 = m2 at H2 hle2 e1
  have E := Lib.hid e1
  clear e1
  go_enter Tryd.func25, Tryd.ntmps25
  go_wp2_with fail
  have hx := (Ext.refl w).alloc (.cells #[.int .i64 k1, .int .i64 n1, .slice A1 kids1.length p1, .int .i64 k2, .int .i64 n2, .slice A2 kids2.length p2] 53)
  have hb := heap_alloc_new w (.cells #[.int .i64 k1, .int .i64 n1, .slice A1 kids1.length p1, .int .i64 k2, .int .i64 n2, .slice A2 kids2.length p2] 53)
  refine (H1.out _ hx).mono ?_
  rintro e w1 ⟨rfl, q⟩
  have q1 : Ext _ w1 := q
  obtain ⟨d0, d1, d2, d3, d4, d5⟩ := At.of_blk6 hb w1 q1
  by_cases g1 : m1 < 0
  · have dd : decide (m1 < 0) = true := decide_eq_true g1
    go_wp2_with fail
    go_ret
    exact ⟨by rw [E.out, if_pos g1]; rfl, hx.trans q1⟩
  have dd : decide (m1 < 0) = false := decide_eq_false g1
  go_wp2_with fail
  refine (H2.out _ (hx.trans q1)).mono ?_
  rintro e w2 ⟨rfl, q⟩
  have q2 : Ext _ w2 := q
  by_cases g2 : m2 < 0
  · have dd : decide (m2 < 0) = true := decide_eq_true g2
    go_wp2_with fail
    go_ret
    exact ⟨by rw [E.out, if_neg (by omega), if_pos g2]; rfl, (hx.trans q1).trans q2⟩
  have dd : decide (m2 < 0) = false := decide_eq_false g2
  go_wp2_with fail
  go_ret
  exact ⟨by rw [E.out, if_neg (by omega), if_neg (by omega)]; rfl, (hx.trans q1).trans q2⟩
theorem szF_two (t1 t2 : Tr) (ts : List Tr) (m : Int) : szF (t1 :: t2 :: ts) m = if szF [t1, t2] m < 0 then -1 else szF ts (szF [t1, t2] m) := by
  simp only [szF]
  by_cases h1 : szT t1 m < 0
  · simp [h1]
  · by_cases h2 : szT t2 (szT t1 m) < 0
    · simp [h1, h2]
    · simp [h1, h2]
/-- What the count says of a list of definitions. -/
def szD (ks : List Tr) (n : Nat) (left : Int) : Int := if left - n < 0 then -1 else szF ks (left - n)
theorem cnt_mem_len : ∀ {ts : List Tr} {t : Tr}, t ∈ ts → cnt t + (ts.length - 1) ≤ cnts ts
  | x :: ts, t, h => by
    simp only [cnts, List.length_cons]
    have hl := len_le_cnts ts
    rcases List.mem_cons.1 h with rfl | h
    · omega
    · have := cnt_mem_len h
      have := List.length_pos_of_mem h
      obtain ⟨a, b, ks⟩ := x
      simp only [cnt]
      omega
theorem szD_fit {ks : List Tr} {n : Nat} {left : Int} (h0 : 0 ≤ left) (hn : ks.length = n * 2) (hp : ¬ szD ks n left < 0) : (n : Int) ≤ left ∧ (∀ t ∈ ks, (cnt t : Int) ≤ left + 1) ∧ (cnts ks : Int) ≤ 2 * left ∧ szD ks n left ≤ left := by
  unfold szD at *
  by_cases h1 : left - n < 0
  · rw [if_pos h1] at hp; omega
  · rw [if_neg h1] at hp ⊢
    have h2 := szF_cnt ks (left - n) (by omega) (by omega)
    have h3 := szF_le ks (left - n) (by omega)
    have h4 := len_le_cnts ks
    refine ⟨by omega, fun t ht => ?_, by omega, by omega⟩
    have := cnt_mem_len ht
    have := List.length_pos_of_mem ht
    omega
theorem szD_le (ks : List Tr) (n : Nat) (left : Int) (h : -1 ≤ left) : szD ks n left ≤ left ∧ -1 ≤ szD ks n left := by
  unfold szD
  by_cases h1 : left - n < 0
  · rw [if_pos h1]; omega
  · rw [if_neg h1]
    have := szF_le ks (left - n) (by omega)
    omega
theorem szDefS_any (ks : List Tr) (n cap : Nat) (w : World) (A : Option Addr) (left : Int) (h : LiesK w A ks) (hn : ks.length = n * 2) (hl : n ≤ cap) (hc : cap ≤ maxLen) (h1 : -1 ≤ left) (h2 : left ≤ 1048576) :
    Calls Tryd.prog 11 #[.slice A n cap, .int .i64 left] w fun e w' => e = .returned (.int .i64 (szD ks n left)) ∧ Ext w w' := by
  have hcc := hc
  unfold maxLen at hcc
  by_cases h0 : left - n < 0
  · rw [show szD ks n left = -1 from if_pos h0]
    have hd : decide (left - (n : Int) < 0) = true := by simpa using h0
    go_enter Tryd.func11, Tryd.ntmps11
    go_wp2_with fail
    go_ret
    exact ⟨rfl, Ext.refl _⟩
  · rw [show szD ks n left = szF ks (left - n) from if_neg h0]
    have hd : decide (left - (n : Int) < 0) = false := by simpa using h0
    go_enter Tryd.func11, Tryd.ntmps11
    go_wp2_with fail
    go_loopw [1, 5] (fun l i wr => ∃ (j : Nat) (m : Int), j ≤ n ∧ i = .int .i64 j ∧ l = .int .i64 m ∧ 0 ≤ m ∧ m ≤ 1048576 ∧ szF ks (left - n) = szF (ks.drop (j * 2)) m ∧ Ext w wr) (fun _ i _ => n - (intOf i).toNat)
    case atStart => exact ⟨0, left - n, Nat.zero_le _, rfl, rfl, by omega, by omega, by simp, Ext.refl _⟩
    case round =>
      obtain ⟨j, m, hj, rfl, rfl, hm0, hm1, hsz, hx⟩ := hrel
      have HS := Lib.hid hsz
      clear hsz
      by_cases hlt : j < n
      · obtain ⟨b, o, k1, n1, A1, p1, kids1, k2, n2, A2, p2, kids2, rfl, hbw, HK1, HK2, ⟨c0, c1, c2, c3, c4, c5⟩, ⟨l1, m1, hK1, hin1, hmem1⟩, ⟨l2, m2, hK2, hin2, hmem2⟩⟩ := h.getD (j := j) hx (by omega)
        have hj' : (j : Int) < (n : Int) := by omega
        have hst : szF (ks.drop (j * 2)) m = if szF [.mk k1 n1 kids1, .mk k2 n2 kids2] m < 0 then -1 else szF (ks.drop ((j + 1) * 2)) (szF [.mk k1 n1 kids1, .mk k2 n2 kids2] m) := by
          rw [List.drop_eq_getElem_cons (i := j * 2) (by omega), List.drop_eq_getElem_cons (i := j * 2 + 1) (by omega), HK1.out, HK2.out, szF_two, show j * 2 + 1 + 1 = (j + 1) * 2 by omega]
        have hle := szF_le [.mk k1 n1 kids1, .mk k2 n2 kids2] m (by omega)
        go_wp2_with fail
        refine (szDef_any k1 n1 k2 n2 A1 A2 p1 p2 kids1 kids2 wr m hin1 hin2 (by omega) hm1).mono ?_
        rintro e w1 ⟨rfl, q⟩
        generalize szF [.mk k1 n1 kids1, .mk k2 n2 kids2] m = r at hst hle
        by_cases hr : r < 0
        · rw [if_pos hr] at hst
          have HT := Lib.hid hst
          clear hst
          go_wp2_with fail
          go_ret
          exact ⟨by rw [HS.out, HT.out]; rfl, hx.trans q⟩
        · rw [if_neg hr] at hst
          have HT := Lib.hid hst
          clear hst
          have hd2 : decide (r < 0) = false := by simpa using hr
          go_wp2_with fail
          go_roundw
          case rel => exact ⟨j + 1, r, by omega, by go_num, rfl, by omega, by omega, by rw [HS.out, HT.out], hx.trans q⟩
          case measure => simp [intOf]; omega
      · go_wp2_with fail
        go_ret
        exact ⟨by rw [HS.out, List.drop_of_length_le (by omega)]; unfold szF; rfl, hx⟩
set_option maxRecDepth 100000 in
theorem toDef_any (k1 n1 k2 n2 : Int) (A1 A2 : Option Addr) (p1 p2 : Nat) (kids1 kids2 : List Tr) (w : World) (h1 : Lies w (.mk k1 n1 kids1) (.agg #[.int .i64 k1, .int .i64 n1, .slice A1 kids1.length p1])) (h2 : Lies w (.mk k2 n2 kids2) (.agg #[.int .i64 k2, .int .i64 n2, .slice A2 kids2.length p2]))
    (hc1 : cnt (.mk k1 n1 kids1) ≤ 1048577) (hc2 : cnt (.mk k2 n2 kids2) ≤ 1048577) :
    Calls Tryd.prog 28 #[.agg #[.int .i64 k1, .int .i64 n1, .slice A1 kids1.length p1, .int .i64 k2, .int .i64 n2, .slice A2 kids2.length p2]] w fun e w' =>
      ∃ B1 c1 B2 c2, e = .returned (.agg #[.int .i64 k1, .int .i64 n1, .slice B1 kids1.length c1, .int .i64 k2, .int .i64 n2, .slice B2 kids2.length c2]) ∧ MadeL w w' 57 [.int .i64 k1, .int .i64 n1, .slice B1 kids1.length c1, .int .i64 k2, .int .i64 n2, .slice B2 kids2.length c2] [.mk k1 n1 kids1, .mk k2 n2 kids2] ∧ Ext w w' := by
  have H1 := Lib.hid (fun W (hW : Ext w W) => toTerm_any _ W _ (h1.ext hW) hc1)
  have H2 := Lib.hid (fun W (hW : Ext w W) => toTerm_any _ W _ (h2.ext hW) hc2)
  go_enter Tryd.func28, Tryd.ntmps28
  go_wp2_with fail
  have hx := (((Ext.refl w).alloc (.cells #[.int .i64 k1, .int .i64 n1, .slice A1 kids1.length p1, .int .i64 k2, .int .i64 n2, .slice A2 kids2.length p2] 53)).alloc (.cells #[.int .i64 0, .int .i64 0, .slice none 0 0, .int .i64 0, .int .i64 0, .slice none 0 0] 59)).alloc (.cells #[.int .i64 0, .int .i64 0, .slice none 0 0, .int .i64 0, .int .i64 0, .slice none 0 0] 59)
  obtain ⟨b0, b1, b2, hsz⟩ := blk3 (Ext.refl (((w.alloc (.cells #[.int .i64 k1, .int .i64 n1, .slice A1 kids1.length p1, .int .i64 k2, .int .i64 n2, .slice A2 kids2.length p2] 53)).alloc (.cells #[.int .i64 0, .int .i64 0, .slice none 0 0, .int .i64 0, .int .i64 0, .slice none 0 0] 59)).alloc (.cells #[.int .i64 0, .int .i64 0, .slice none 0 0, .int .i64 0, .int .i64 0, .slice none 0 0] 59)))
  have hwa : ((((w.alloc (.cells #[.int .i64 k1, .int .i64 n1, .slice A1 kids1.length p1, .int .i64 k2, .int .i64 n2, .slice A2 kids2.length p2] 53)).alloc (.cells #[.int .i64 0, .int .i64 0, .slice none 0 0, .int .i64 0, .int .i64 0, .slice none 0 0] 59)).alloc (.cells #[.int .i64 0, .int .i64 0, .slice none 0 0, .int .i64 0, .int .i64 0, .slice none 0 0] 59))).heap.size = w.heap.size + 1 + 1 + 1 := by simp
  refine (H1.out _ hx).mono ?_
  rintro e w1 ⟨u, rfl, hM1, q1⟩
  obtain ⟨B1, c1, rfl, -, -, -⟩ := Made.mk_iff.1 hM1
  generalize World.alloc _ _ = wa at hx b0 b1 b2 hsz hwa q1 hM1
  obtain ⟨⟨r0, r1, r2, r3, r4, r5⟩, f0, f1, f2, f3, f4, f5⟩ := own6 (q1.blk b2)
  obtain ⟨⟨i0, i1, i2, i3, i4, i5⟩, -⟩ := own6 (q1.blk b0)
  go_wp2_with fail
  have hE1 : Ext w w1 := hx.trans q1
  have hE2 : Ext w (((w1.setCell ⟨w.heap.size + 1 + 1, 0, none⟩ (.int .i64 k1)).setCell ⟨w.heap.size + 1 + 1, 1, none⟩ (.int .i64 n1)).setCell ⟨w.heap.size + 1 + 1, 2, none⟩ (.slice B1 kids1.length c1)) := ((hE1.setCell (by simp; omega) _).setCell (by simp; omega) _).setCell (by simp; omega) _
  have hA2 : Above (w.heap.size + 1 + 1 + 1) w1 (((w1.setCell ⟨w.heap.size + 1 + 1, 0, none⟩ (.int .i64 k1)).setCell ⟨w.heap.size + 1 + 1, 1, none⟩ (.int .i64 n1)).setCell ⟨w.heap.size + 1 + 1, 2, none⟩ (.slice B1 kids1.length c1)) := (((Above.refl _ w1).setCell (by simp) _).setCell (by simp) _).setCell (by simp) _
  have hb2 := blk_setCell (blk_setCell (blk_setCell (q1.blk b2) 0 (.int .i64 k1)) 1 (.int .i64 n1)) 2 (.slice B1 kids1.length c1)
  have hb1 : (((w1.setCell ⟨w.heap.size + 1 + 1, 0, none⟩ (.int .i64 k1)).setCell ⟨w.heap.size + 1 + 1, 1, none⟩ (.int .i64 n1)).setCell ⟨w.heap.size + 1 + 1, 2, none⟩ (.slice B1 kids1.length c1)).heap[w.heap.size + 1]? = some (.cells #[.int .i64 0, .int .i64 0, .slice none 0 0, .int .i64 0, .int .i64 0, .slice none 0 0] 59 (0, 0)) := by
    rw [Below.heap_setCell _ _ _ _ (by simp), Below.heap_setCell _ _ _ _ (by simp), Below.heap_setCell _ _ _ _ (by simp)]
    exact q1.blk b1
  have hM1a := hM1.since (a := wa) (Nat.le_refl _)
  generalize World.setCell _ _ _ = w2 at hE2 hA2 hb2 hb1
  refine (H2.out _ hE2).mono ?_
  rintro e w3 ⟨u, rfl, hM2, q3⟩
  obtain ⟨B2, c2, rfl, -, -, -⟩ := Made.mk_iff.1 hM2
  clear r0 r1 r2 r3 r4 r5 f0 f1 f2 f3 f4 f5 i0 i1 i2 i3 i4 i5
  obtain ⟨⟨r0, r1, r2, r3, r4, r5⟩, f0, f1, f2, f3, f4, f5⟩ := own6 (q3.blk hb2)
  obtain ⟨⟨i0, i1, i2, i3, i4, i5⟩, g0, g1, g2, g3, g4, g5⟩ := own6 (q3.blk hb1)
  go_wp2_with fail
  have hM1b := hM1a.after (w3 := w2) (by rw [hwa]; exact hA2)
  have hLL := MadeL.two hM1b hM2 (Ext.refl w2) (by have := hA2.2; have := q1.size; omega) q3
  have hX := fun v0 v1 v2 v3 v4 v5 v6 v7 v8 => ((((((((((Above.refl wa.heap.size w3).setCell (p := ⟨w.heap.size + 1 + 1, 3, none⟩) (by show w.heap.size + 1 + 1 < _; omega) v0).setCell (p := ⟨w.heap.size + 1 + 1, 4, none⟩) (by show w.heap.size + 1 + 1 < _; omega) v1).setCell (p := ⟨w.heap.size + 1 + 1, 5, none⟩) (by show w.heap.size + 1 + 1 < _; omega) v2).setCell (p := ⟨w.heap.size + 1, 0, none⟩) (by show w.heap.size + 1 < _; omega) v3).setCell (p := ⟨w.heap.size + 1, 1, none⟩) (by show w.heap.size + 1 < _; omega) v4).setCell (p := ⟨w.heap.size + 1, 2, none⟩) (by show w.heap.size + 1 < _; omega) v5).setCell (p := ⟨w.heap.size + 1, 3, none⟩) (by show w.heap.size + 1 < _; omega) v6).setCell (p := ⟨w.heap.size + 1, 4, none⟩) (by show w.heap.size + 1 < _; omega) v7).setCell (p := ⟨w.heap.size + 1, 5, none⟩) (by show w.heap.size + 1 < _; omega) v8)
  refine bodyPost_ret (v := .agg #[.int .i64 k1, .int .i64 n1, .slice B1 kids1.length c1, .int .i64 k2, .int .i64 n2, .slice B2 kids2.length c2]) (by simp [results, Tryd.results28, go_sem, i0, i1, i2, i3, i4, i5]) rfl ⟨_, _, _, _, rfl, ?_, ?_⟩
  · exact (hLL.after (hX _ _ _ _ _ _ _ _ _)).since (by omega)
  · exact (((((((((hE2.trans q3).setCell (by simp; omega) _).setCell (by simp; omega) _).setCell (by simp; omega) _).setCell (by simp) _).setCell (by simp) _).setCell (by simp) _).setCell (by simp) _).setCell (by simp) _).setCell (by simp) _
theorem infoDef : (Tryd.prog.info? 59).map (fun i => (i.zero, i.size, i.bytes)) = some (some (.agg #[.int .i64 0, .int .i64 0, .slice none 0 0, .int .i64 0, .int .i64 0, .slice none 0 0]), 6, 80) := by kernel_rfl
set_option maxHeartbeats 800000 in
theorem toDefS_any (ks : List Tr) (n cap : Nat) (w : World) (A : Option Addr) (h : LiesK w A ks) (hn : ks.length = n * 2) (hl : n ≤ cap) (hc : cap ≤ maxLen) (hcn : ∀ t ∈ ks, cnt t ≤ 1048577) (hn20 : n ≤ 1048576) :
    Calls Tryd.prog 13 #[.slice A n cap] w fun e w' => ∃ B, e = .returned (.slice B n n) ∧ MadeD w w' 59 57 B ks ∧ Ext w w' := by
  have hc' := hc
  unfold maxLen at hc'
  obtain ⟨i0, hi, hz0, hz1, hz2⟩ := info_parts infoDef
  have hmk := fun W => run_make_rowN (P := Tryd.prog) 36 59 i0 _ Tryd.underlying36 hi hz0 .i64 .i64 n n (Nat.le_refl _) (by rw [hz2]; omega) (by omega) W
  rw [hz1] at hmk
  go_enter Tryd.func13, Tryd.ntmps13
  go_wp2_with fail
  generalize hw2 : w.alloc _ = w2
  have he0 : Ext w w2 := hw2 ▸ (Ext.refl w).alloc _
  have hg2 : w.heap.size < w2.heap.size := by rw [← hw2]; simp
  have hblk : w2.heap[w.heap.size]? = some (.cells (madeCells #[Value.int IntKind.i64 0, Value.int IntKind.i64 0, Value.slice none 0 0, Value.int IntKind.i64 0, Value.int IntKind.i64 0, Value.slice none 0 0] (n * 6)) 59 (0, 0)) := hw2 ▸ heap_alloc_new w _
  have hsz0 := size_madeCells #[Value.int IntKind.i64 0, Value.int IntKind.i64 0, Value.slice none 0 0, Value.int IntKind.i64 0, Value.int IntKind.i64 0, Value.slice none 0 0] (n * 6)
  generalize madeCells _ (n * 6) = cs0 at hblk hsz0
  have HB := Lib.hid hblk
  have HS := Lib.hid hsz0
  clear hblk hsz0 hmk hw2 hi hz0 hz1 hz2
  go_loopw [4] (fun i wr => ∃ (j : Nat) (cs : Array Value) (L : List Nat), j ≤ n ∧ i = .int .i64 j ∧ wr.heap[w.heap.size]? = some (.cells cs 59 (0, 0)) ∧ cs.size = n * 6 ∧ OwnL wr 57 (cs.toList.take (j * 6)) (ks.take (j * 2)) L ∧ Fresh w2 wr L ∧ Ext w wr ∧ w2.heap.size ≤ wr.heap.size) (fun i _ => n - (intOf i).toNat)
  case atStart => exact ⟨0, cs0, [], Nat.zero_le _, rfl, HB.out, HS.out, by simpa using OwnL.nil, Fresh.nil _ _, he0, Nat.le_refl _⟩
  case round =>
    obtain ⟨j, cs, L, hj, rfl, hblk, hsz, hO, hF, he, hle⟩ := hrel
    by_cases hlt : j < n
    · obtain ⟨b, o, k1, n1, A1, p1, kids1, k2, n2, A2, p2, kids2, rfl, hbw, HK1, HK2, ⟨c0, c1, c2, c3, c4, c5⟩, ⟨l1, m1, hK1, hin1, hmem1⟩, ⟨l2, m2, hK2, hin2, hmem2⟩⟩ := h.getD (j := j) he (by omega)
      have HB := Lib.hid hblk
      have HS := Lib.hid hsz
      have hj' : (j : Int) < (n : Int) := by omega
      clear hblk hsz
      go_wp2_with fail
      refine (toDef_any k1 n1 k2 n2 A1 A2 p1 p2 kids1 kids2 wr hin1 hin2 (hcn _ hmem1) (hcn _ hmem2)).mono ?_
      rintro e w1 ⟨B1, q1, B2, q2, rfl, hM, hE⟩
      have hb1 := hE.blk HB.out
      obtain ⟨x0, x1, x2, x3, x4, x5, ⟨g0, g1, g2, g3, g4, g5⟩, f0, f1, f2, f3, f4, f5⟩ := cells6 (i := j * 6) hb1 (by rw [HS.out]; omega)
      have hE' := he.trans hE
      have hcs3 : j * 6 + 6 ≤ cs.size := by rw [HS.out]; omega
      have HB1 := Lib.hid hb1
      clear hb1
      go_wp2_with fail
      obtain ⟨r1, r2, r3, r4⟩ := store6 (i := j * 6) (.int .i64 k1) (.int .i64 n1) (.slice B1 kids1.length q1) (.int .i64 k2) (.int .i64 n2) (.slice B2 kids2.length q2) HB1.out hE' (Nat.le_refl _)
      have htk : ks.take (j * 2) ++ [.mk k1 n1 kids1, .mk k2 n2 kids2] = ks.take ((j + 1) * 2) := by
        rw [← HK1.out, ← HK2.out, show (j + 1) * 2 = j * 2 + 1 + 1 by omega, ← List.take_append_getElem (show j * 2 + 1 < ks.length by omega), ← List.take_append_getElem (show j * 2 < ks.length by omega), List.append_assoc]
        rfl
      go_roundw
      case rel =>
        obtain ⟨L', hO', hF'⟩ := step_own6 (w3 := store6' w1 w.heap.size (j * 6) (.int .i64 k1) (.int .i64 n1) (.slice B1 kids1.length q1) (.int .i64 k2) (.int .i64 n2) (.slice B2 kids2.length q2)) hcs3 hO hF hg2 (by simp; omega) hE hM hle r2 r4
        rw [htk] at hO'
        exact ⟨j + 1, _, L', by omega, by go_num, r1, by rw [size_set6]; exact HS.out, hO', hF', r3, by have := hE.size; simp; omega⟩
      case measure => simp [intOf]; omega
    · go_wp2_with fail
      go_ret
      have hjk : j = n := by omega
      subst hjk
      rw [List.take_of_length_le (by rw [Array.length_toList]; omega), List.take_of_length_le (by omega)] at hO
      exact ⟨_, rfl, MadeD.row hblk hO hF (Nat.le_refl _) hg2, he⟩
theorem eqDef_any (t1 t2 t3 t4 : Tr) (a1 a2 a3 b1 b2 b3 c1 c2 c3 d1 d2 d3 : Value) (w : World) (h1 : Lies w t1 (.agg #[a1, a2, a3])) (h2 : Lies w t2 (.agg #[b1, b2, b3])) (h3 : Lies w t3 (.agg #[c1, c2, c3])) (h4 : Lies w t4 (.agg #[d1, d2, d3])) :
    Calls Tryd.prog 32 #[.agg #[a1, a2, a3, b1, b2, b3], .agg #[c1, c2, c3, d1, d2, d3]] w fun e w' => e = .returned (.bool (eqTr t1 t3 && eqTr t2 t4)) ∧ Ext w w' := by
  have H1 := Lib.hid (fun W (hW : Ext w W) => eqTerm_any t1 W t3 _ _ (h1.ext hW) (h3.ext hW))
  have H2 := Lib.hid (fun W (hW : Ext w W) => eqTerm_any t2 W t4 _ _ (h2.ext hW) (h4.ext hW))
  obtain ⟨s1, hs1⟩ : ∃ s, eqTr t1 t3 = s := ⟨_, rfl⟩
  obtain ⟨s2, hs2⟩ : ∃ s, eqTr t2 t4 = s := ⟨_, rfl⟩
  rw [hs1] at H1 ⊢
  rw [hs2] at H2 ⊢
  clear hs1 hs2
  obtain ⟨k1, n1, ks1⟩ := t1
  obtain ⟨A1, p1, e1, -⟩ := Lies.mk_iff.1 h1
  obtain ⟨k2, n2, ks2⟩ := t2
  obtain ⟨A2, p2, e2, -⟩ := Lies.mk_iff.1 h2
  obtain ⟨k3, n3, ks3⟩ := t3
  obtain ⟨A3, p3, e3, -⟩ := Lies.mk_iff.1 h3
  obtain ⟨k4, n4, ks4⟩ := t4
  obtain ⟨A4, p4, e4, -⟩ := Lies.mk_iff.1 h4
  simp only [Value.agg.injEq, Array.mk.injEq, List.cons.injEq, and_true] at e1 e2 e3 e4
  obtain ⟨rfl, rfl, rfl⟩ := e1
  obtain ⟨rfl, rfl, rfl⟩ := e2
  obtain ⟨rfl, rfl, rfl⟩ := e3
  obtain ⟨rfl, rfl, rfl⟩ := e4
  clear h1 h2 h3 h4
  go_enter Tryd.func32, Tryd.ntmps32
  go_wp2_with fail
  have hx := ((Ext.refl w).alloc (.cells #[.int .i64 k1, .int .i64 n1, .slice A1 ks1.length p1, .int .i64 k2, .int .i64 n2, .slice A2 ks2.length p2] 59)).alloc (.cells #[.int .i64 k3, .int .i64 n3, .slice A3 ks3.length p3, .int .i64 k4, .int .i64 n4, .slice A4 ks4.length p4] 59)
  obtain ⟨b0, b1, hsz⟩ := blk2 (Ext.refl ((w.alloc (.cells #[.int .i64 k1, .int .i64 n1, .slice A1 ks1.length p1, .int .i64 k2, .int .i64 n2, .slice A2 ks2.length p2] 59)).alloc (.cells #[.int .i64 k3, .int .i64 n3, .slice A3 ks3.length p3, .int .i64 k4, .int .i64 n4, .slice A4 ks4.length p4] 59)))
  refine (H1.out _ hx).mono ?_
  rintro e w1 ⟨rfl, q1⟩
  obtain ⟨⟨r0, r1, r2, r3, r4, r5⟩, -⟩ := own6 (q1.blk b0)
  obtain ⟨⟨i0, i1, i2, i3, i4, i5⟩, -⟩ := own6 (q1.blk b1)
  cases s1 with
  | false =>
    go_wp2_with fail
    go_ret
    exact ⟨rfl, hx.trans q1⟩
  | true =>
    go_wp2_with fail
    refine (H2.out _ (hx.trans q1)).mono ?_
    rintro e w2 ⟨rfl, q2⟩
    cases s2 with
    | false =>
      go_wp2_with fail
      go_ret
      exact ⟨rfl, (hx.trans q1).trans q2⟩
    | true =>
      go_wp2_with fail
      go_ret
      exact ⟨rfl, (hx.trans q1).trans q2⟩
set_option maxRecDepth 100000 in
set_option maxHeartbeats 400000 in
theorem eqDefS_any (ks ks' : List Tr) (n n' : Nat) (w : World) (A A' : Option Addr) (cap cap' : Nat) (h : LiesK w A ks) (hn : ks.length = n * 2) (hl : n ≤ cap) (hc : cap ≤ maxLen) (h' : LiesK w A' ks') (hn' : ks'.length = n' * 2) (hl' : n' ≤ cap') (hc' : cap' ≤ maxLen) :
    Calls Tryd.prog 15 #[.slice A n cap, .slice A' n' cap'] w fun e w' => e = .returned (.bool (eqTs ks ks')) ∧ Ext w w' := by
  unfold maxLen at hc hc'
  by_cases h0 : n = n'
  · subst h0
    have hd : ((n : Int) != (n : Int)) = false := by simp
    go_enter Tryd.func15, Tryd.ntmps15
    go_wp2_with fail
    go_loopw [5] (fun i wr => ∃ j : Nat, j ≤ n ∧ i = .int .i64 j ∧ eqTs ks ks' = eqTs (ks.drop (j * 2)) (ks'.drop (j * 2)) ∧ Ext w wr) (fun i _ => n - (intOf i).toNat)
    case atStart => exact ⟨0, Nat.zero_le _, rfl, rfl, Ext.refl _⟩
    case round =>
      obtain ⟨j, hj, rfl, hsz, hb⟩ := hrel
      have HS := Lib.hid hsz
      clear hsz
      by_cases hlt : j < n
      · obtain ⟨b, o, k1, n1, A1, p1, kids1, k2, n2, A2, p2, kids2, rfl, hbw, HK1, HK2, ⟨c0, c1, c2, c3, c4, c5⟩, ⟨l1, m1, hK1, hin1, hmem1⟩, ⟨l2, m2, hK2, hin2, hmem2⟩⟩ := h.getD (j := j) hb (by omega)
        obtain ⟨b', o', k3, n3, A3, p3, kids3, k4, n4, A4, p4, kids4, rfl, hbw', HK3, HK4, ⟨d0, d1, d2, d3, d4, d5⟩, ⟨l3, m3, hK3, hin3, hmem3⟩, ⟨l4, m4, hK4, hin4, hmem4⟩⟩ := h'.getD (j := j) hb (by omega)
        have hj' : (j : Int) < (n : Int) := by omega
        have hstep : eqTs (ks.drop (j * 2)) (ks'.drop (j * 2)) = (eqTr (.mk k1 n1 kids1) (.mk k3 n3 kids3) && eqTr (.mk k2 n2 kids2) (.mk k4 n4 kids4) && eqTs (ks.drop ((j + 1) * 2)) (ks'.drop ((j + 1) * 2))) := by
          rw [List.drop_eq_getElem_cons (i := j * 2) (by omega), List.drop_eq_getElem_cons (i := j * 2 + 1) (by omega), List.drop_eq_getElem_cons (l := ks') (i := j * 2) (by omega), List.drop_eq_getElem_cons (l := ks') (i := j * 2 + 1) (by omega), HK1.out, HK2.out, HK3.out, HK4.out, show j * 2 + 1 + 1 = (j + 1) * 2 by omega]
          conv => lhs; unfold eqTs; rw [show ∀ a b : List Tr, ∀ s t : Tr, eqTs (s :: a) (t :: b) = (eqTr s t && eqTs a b) from fun _ _ _ _ => by conv => lhs; unfold eqTs]
          rw [Bool.and_assoc]
        have HST := Lib.hid hstep
        clear hstep
        go_wp2_with fail
        go_still_tail 8, (by kernel_rfl)
        change wpList _ _ _ _ _ wr.drew
        have HEQ := Lib.hid (eqDef_any _ _ _ _ _ _ _ _ _ _ _ _ _ _ _ _ wr.drew (hin1.ext (Ext.refl _).drew) (hin2.ext (Ext.refl _).drew) (hin3.ext (Ext.refl _).drew) (hin4.ext (Ext.refl _).drew))
        have hbd := hb.drew
        generalize wr.drew = w2 at HEQ hbd
        clear c0 c1 c2 c3 c4 c5 d0 d1 d2 d3 d4 d5
        generalize (eqTr (.mk k1 n1 kids1) (.mk k3 n3 kids3) && eqTr (.mk k2 n2 kids2) (.mk k4 n4 kids4)) = q at HST HEQ
        go_wp2_with fail
        refine HEQ.out.mono ?_
        rintro e w1 ⟨rfl, hb1⟩
        have hb2 := hbd.trans hb1
        cases q with
        | false =>
          go_wp2_with fail
          go_ret
          exact ⟨by rw [HS.out, HST.out]; rfl, hb2⟩
        | true =>
          go_wp2_with fail
          go_roundw
          case rel => exact ⟨j + 1, by omega, by go_num, by rw [HS.out, HST.out]; rfl, hb2⟩
          case measure => simp [intOf]; omega
      · go_wp2_with fail
        go_ret
        exact ⟨by rw [HS.out, List.drop_of_length_le (by omega), List.drop_of_length_le (by omega)]; rfl, hb⟩
  · have hd : ((n : Int) != (n' : Int)) = true := by rw [bne_iff_ne]; omega
    have e : eqTs ks ks' = false := by
      rw [Bool.eq_false_iff]
      intro he
      have := eqTs_len he
      omega
    have E := Lib.hid e
    clear e
    go_enter Tryd.func15, Tryd.ntmps15
    go_wp2_with fail
    go_ret
    exact ⟨by rw [E.out]; rfl, Ext.refl _⟩
end Go.Proofs.YtenpknapajckbaaDoor

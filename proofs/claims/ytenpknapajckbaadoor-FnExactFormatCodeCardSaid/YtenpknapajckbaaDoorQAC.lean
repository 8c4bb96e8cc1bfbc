/-
  Lemmas towards the law, 3: Mem.
-/
import Derived.Test.YtenpknapajckbaaDoorQAA
import Derived.Laws.MakeOwn
import Derived.Laws.OwnMore
namespace Go.Proofs.YtenpknapajckbaaDoor
open Go.RowKit
set_option linter.unusedVariables false
theorem run_make_rowN {P : Program} (t e : TypeId) (i : TypeInfo) (z : Value) (ht : P.underlying t = some (.slice e)) (hi : P.info? e = some i) (hz : i.zero = some z)
    (kl kc : IntKind) (n c : Nat) (hnc : n ≤ c) (hbytes : i.bytes * c ≤ 281474976710656) (h63 : c ≤ 9223372036854775807) (w : World) :
    (Instr.makeSlice t (.int kl (n : Int)) (.int kc (c : Int))).run P w = .ok (.slice (some ⟨w.heap.size, 0, none⟩) n c) (w.alloc (.cells (madeCells z.cells (c * i.size)) e)) := by
  have hb : (i.bytes : Int) * (c : Int) ≤ 281474976710656 := by
    have h : ((i.bytes * c : Nat) : Int) ≤ 281474976710656 := by omega
    rwa [Int.natCast_mul] at h
  have hr := run_make (P := P) w t e i z ht hi hz kl kc n c (by omega) (by omega) hb (by omega)
  simp only [Int.toNat_natCast] at hr
  exact hr
theorem take_set3 (cs : Array Value) (j : Nat) (h : j * 3 + 3 ≤ cs.size) (v0 v1 v2 : Value) :
    (((cs.setIfInBounds (j * 3) v0).setIfInBounds (j * 3 + 1) v1).setIfInBounds (j * 3 + 2) v2).toList.take ((j + 1) * 3) = cs.toList.take (j * 3) ++ [v0, v1, v2] := by
  apply List.ext_getElem?
  intro i
  simp only [Array.toList_setIfInBounds, List.getElem?_take, List.getElem?_append, List.length_take, Array.length_toList]
  have hm : min (j * 3) cs.size = j * 3 := by omega
  rw [hm]
  by_cases h1 : i < j * 3
  · rw [if_pos (by omega), if_pos h1, if_pos h1]
    rw [List.getElem?_set_ne (by omega), List.getElem?_set_ne (by omega), List.getElem?_set_ne (by omega)]
  · rw [if_neg h1]
    by_cases h2 : i < (j + 1) * 3
    · rw [if_pos h2]
      rcases (show i = j * 3 ∨ i = j * 3 + 1 ∨ i = j * 3 + 2 from by omega) with rfl | rfl | rfl
      · rw [List.getElem?_set_ne (by omega), List.getElem?_set_ne (by omega), List.getElem?_set_self (by simpa using (by omega : j * 3 < cs.size))]
        simp
      · rw [List.getElem?_set_ne (by omega), List.getElem?_set_self (by simpa using (by omega : j * 3 + 1 < cs.size))]
        simp
      · rw [List.getElem?_set_self (by simpa using (by omega : j * 3 + 2 < cs.size))]
        simp
    · rw [if_neg h2, List.getElem?_eq_none (by simp; omega)]
/-- A struct stored into a row of the call's own. -/
theorem store3 {a w : World} {g i : Nat} {cs : Array Value} {e : TypeId} (v0 v1 v2 : Value) (hb : w.heap[g]? = some (.cells cs e (0, 0))) (ha : Ext a w) (hg : a.heap.size ≤ g) :
    (((w.setCell ⟨g, i, none⟩ v0).setCell ⟨g, i + 1, none⟩ v1).setCell ⟨g, i + 2, none⟩ v2).heap[g]? = some (.cells (((cs.setIfInBounds i v0).setIfInBounds (i + 1) v1).setIfInBounds (i + 2) v2) e (0, 0)) ∧
    (∀ b, b ≠ g → (((w.setCell ⟨g, i, none⟩ v0).setCell ⟨g, i + 1, none⟩ v1).setCell ⟨g, i + 2, none⟩ v2).heap[b]? = w.heap[b]?) ∧
    Ext a (((w.setCell ⟨g, i, none⟩ v0).setCell ⟨g, i + 1, none⟩ v1).setCell ⟨g, i + 2, none⟩ v2) ∧
    (((w.setCell ⟨g, i, none⟩ v0).setCell ⟨g, i + 1, none⟩ v1).setCell ⟨g, i + 2, none⟩ v2).heap.size = w.heap.size := by
  refine ⟨blk_setCell (blk_setCell (blk_setCell hb _ _) _ _) _ _, fun b hne => ?_, ((ha.setCell hg _).setCell hg _).setCell hg _, by simp⟩
  rw [Below.heap_setCell _ _ _ _ hne, Below.heap_setCell _ _ _ _ hne, Below.heap_setCell _ _ _ _ hne]
theorem cells3 {w : World} {g i : Nat} {cs : Array Value} {e : TypeId} (hb : w.heap[g]? = some (.cells cs e (0, 0))) (h : i + 3 ≤ cs.size) :
    ∃ x0 x1 x2, w.cell? ⟨g, i, none⟩ = some x0 ∧ w.cell? ⟨g, i + 1, none⟩ = some x1 ∧ w.cell? ⟨g, i + 2, none⟩ = some x2 ∧ w.frozen? ⟨g, i, none⟩ = false ∧ w.frozen? ⟨g, i + 1, none⟩ = false ∧ w.frozen? ⟨g, i + 2, none⟩ = false := by
  refine ⟨cs[i]'(by omega), cs[i + 1]'(by omega), cs[i + 2]'(by omega), ?_, ?_, ?_, frozen_of_blk hb _, frozen_of_blk hb _, frozen_of_blk hb _⟩
  · rw [cell_of_blk hb]; exact Array.getElem?_eq_getElem _
  · rw [cell_of_blk hb]; exact Array.getElem?_eq_getElem _
  · rw [cell_of_blk hb]; exact Array.getElem?_eq_getElem _
theorem blk1 {w w1 : World} {a : Obj} (h : Ext (w.alloc a) w1) : w1.heap[w.heap.size]? = some a ∧ w.heap.size < w1.heap.size := ⟨h.newBlk, h.size_alloc⟩
theorem blk2 {w w1 : World} {a b : Obj} (h : Ext ((w.alloc a).alloc b) w1) : w1.heap[w.heap.size]? = some a ∧ w1.heap[w.heap.size + 1]? = some b ∧ w.heap.size + 1 < w1.heap.size := by
  have h1 := h.newBlk
  have h2 := h.size_alloc
  simp only [World.size_alloc] at h1 h2
  exact ⟨(blk1 h.pre).1, h1, h2⟩
theorem blk3 {w w1 : World} {a b c : Obj} (h : Ext (((w.alloc a).alloc b).alloc c) w1) : w1.heap[w.heap.size]? = some a ∧ w1.heap[w.heap.size + 1]? = some b ∧ w1.heap[w.heap.size + 1 + 1]? = some c ∧ w.heap.size + 1 + 1 < w1.heap.size := by
  have h1 := h.newBlk
  have h2 := h.size_alloc
  simp only [World.size_alloc] at h1 h2
  exact ⟨(blk2 h.pre).1, (blk2 h.pre).2.1, h1, h2⟩
/-- The three cells of a struct of the call's own. -/
theorem own3 {w : World} {g : Nat} {x0 x1 x2 : Value} {e : TypeId} (hb : w.heap[g]? = some (.cells #[x0, x1, x2] e (0, 0))) :
    w.cell? ⟨g, 0, none⟩ = some x0 ∧ w.cell? ⟨g, 1, none⟩ = some x1 ∧ w.cell? ⟨g, 2, none⟩ = some x2 ∧ w.frozen? ⟨g, 0, none⟩ = false ∧ w.frozen? ⟨g, 1, none⟩ = false ∧ w.frozen? ⟨g, 2, none⟩ = false :=
  ⟨cell_of_blk hb 0, cell_of_blk hb 1, cell_of_blk hb 2, frozen_of_blk hb 0, frozen_of_blk hb 1, frozen_of_blk hb 2⟩
/-- From block number B on the world w' is as1 w. -/
def Above (B : Nat) (w w' : World) : Prop := (∀ b, B ≤ b → w'.heap[b]? = w.heap[b]?) ∧ w.heap.size ≤ w'.heap.size
theorem Above.refl (B : Nat) (w : World) : Above B w w := ⟨fun _ _ => rfl, Nat.le_refl _⟩
theorem Above.setCell {B : Nat} {a w : World} (h : Above B a w) {p : Addr} (hp : p.block < B) (u : Value) : Above B a (w.setCell p u) :=
  ⟨fun b hb => (Below.heap_setCell w p u b (by omega)).trans (h.1 b hb), by simpa using h.2⟩
theorem Above.drew {B : Nat} {a w : World} (h : Above B a w) : Above B a w.drew := h
theorem MadeK.after {W w1 w3 : World} {e : TypeId} {A : Option Addr} {ks : List Tr} (h : MadeK W w1 e A ks) (ha : Above W.heap.size w1 w3) : MadeK W w3 e A ks := by
  obtain ⟨L, h, hf⟩ := h
  exact ⟨L, h.mono fun b hb => ha.1 b (hf.2 b hb).1, hf.mono (Nat.le_refl _) ha.2⟩
theorem Made.after {W w1 w3 : World} {e : TypeId} {t : Tr} {v : Value} (h : Made W w1 e t v) (ha : Above W.heap.size w1 w3) : Made W w3 e t v := by
  obtain ⟨L, h, hf⟩ := h
  exact ⟨L, h.mono fun b hb => ha.1 b (hf.2 b hb).1, hf.mono (Nat.le_refl _) ha.2⟩
theorem size_set3 (cs : Array Value) (i : Nat) (v0 v1 v2 : Value) : (((cs.setIfInBounds i v0).setIfInBounds (i + 1) v1).setIfInBounds (i + 2) v2).size = cs.size := by simp
theorem step_own {w2 wr w1 : World} {e : TypeId} {g j : Nat} {cs : Array Value} {ks : List Tr} {t : Tr} {v0 v1 v2 : Value} {L : List Nat} {w3 : World} (hcs : j * 3 + 3 ≤ cs.size)
    (hO : OwnL wr e (cs.toList.take (j * 3)) (ks.take j) L) (hF : Fresh w2 wr L) (hg : g < w2.heap.size) (hks : (ks.take j).length = j) (hE : Ext wr w1) (hM : Made wr w1 e t (.agg #[v0, v1, v2])) (hle : w2.heap.size ≤ wr.heap.size)
    (hne : ∀ b, b ≠ g → w3.heap[b]? = w1.heap[b]?) (hsz : w3.heap.size = w1.heap.size) :
    ∃ L', OwnL w3 e ((((cs.setIfInBounds (j * 3) v0).setIfInBounds (j * 3 + 1) v1).setIfInBounds (j * 3 + 2) v2).toList.take ((j + 1) * 3)) (ks.take j ++ [t]) L' ∧ Fresh w2 w3 L' := by
  obtain ⟨M, hM, hFM⟩ := hM
  refine ⟨L ++ M, ?_, ?_⟩
  · rw [take_set3 cs j hcs]
    refine OwnL.snoc (hM.mono fun b hb => hne b ?_) [] (by rw [hks, List.length_take, Array.length_toList]; omega) (hO.mono fun b hb => (hne b ?_).trans (hE.heap b (hF.2 b hb).2))
    · have := (hFM.2 b hb).1
      omega
    · have := (hF.2 b hb).1
      omega
  · have h1 := hF.append (d := w1) hFM (Nat.le_refl _) hle hE.size
    exact h1.mono (Nat.le_refl _) (by omega)
theorem OwnL.split {w : World} {e : TypeId} {t : Tr} {bs : List Tr} : ∀ {as1 : List Tr} {xs : List Value} {L : List Nat}, OwnL w e xs (as1 ++ t :: bs) L →
    ∃ pre v0 v1 v2 post La Lt Lb, xs = pre ++ v0 :: v1 :: v2 :: post ∧ pre.length = as1.length * 3 ∧ OwnL w e pre as1 La ∧ OwnT w e t (.agg #[v0, v1, v2]) Lt ∧ OwnL w e post bs Lb ∧ L = La ++ (Lt ++ Lb)
  | [], xs, L, h => by
    obtain ⟨v0, v1, v2, rest, L1, L2, rfl, h1, h2, rfl⟩ := OwnL.cons_iff.1 h
    exact ⟨[], v0, v1, v2, rest, [], L1, L2, rfl, rfl, OwnL.nil, h1, h2, rfl⟩
  | a :: as1, xs, L, h => by
    obtain ⟨u0, u1, u2, rest, L1, L2, rfl, h1, h2, rfl⟩ := OwnL.cons_iff.1 h
    obtain ⟨pre, v0, v1, v2, post, La, Lt, Lb, rfl, hp, ha, ht, hb, rfl⟩ := OwnL.split (as1 := as1) h2
    exact ⟨u0 :: u1 :: u2 :: pre, v0, v1, v2, post, L1 ++ La, Lt, Lb, rfl, by simp [hp]; omega, OwnL.cons_iff.2 ⟨u0, u1, u2, pre, L1, La, rfl, h1, ha, rfl⟩, ht, hb, by simp⟩
mutual
theorem OwnT.lt {w : World} {e : TypeId} : ∀ {t : Tr} {v : Value} {L : List Nat}, OwnT w e t v L → ∀ b, b ∈ L → b < w.heap.size
  | .mk k n ks, v, L, h, b, hb => by
    obtain ⟨A, cap, _, _, _, h3⟩ := OwnT.mk_iff.1 h
    rcases h3 with ⟨_, rfl⟩ | ⟨g, cs, L', _, hg, rfl, hl⟩
    · cases hb
    · rcases List.mem_cons.1 hb with rfl | hb
      · exact lt_of_blk hg
      · exact OwnL.lt hl b hb
theorem OwnL.lt {w : World} {e : TypeId} : ∀ {xs : List Value} {ks : List Tr} {L : List Nat}, OwnL w e xs ks L → ∀ b, b ∈ L → b < w.heap.size
  | _, [], L, h, b, hb => by
    unfold OwnL at h
    subst h
    cases hb
  | xs, t :: ts, L, h, b, hb => by
    obtain ⟨u0, u1, u2, rest, L1, L2, rfl, h1, h2, rfl⟩ := OwnL.cons_iff.1 h
    rcases List.mem_append.1 hb with hb | hb
    · exact OwnT.lt h1 b hb
    · exact OwnL.lt h2 b hb
end
/-- Only the blocks of L have turned. -/
structure Only (L : List Nat) (w w' : World) : Prop where
  os : w'.os = w.os
  tape : w'.tape = w.tape
  output : w'.output = w.output
  size : w.heap.size ≤ w'.heap.size
  block : ∀ b, b < w.heap.size → ¬ b ∈ L → w'.heap[b]? = w.heap[b]?
theorem Only.refl (L : List Nat) (w : World) : Only L w w := ⟨rfl, rfl, rfl, Nat.le_refl _, fun _ _ _ => rfl⟩
theorem Only.trans {L : List Nat} {a b c : World} (h : Only L a b) (k : Only L b c) : Only L a c :=
  ⟨k.os.trans h.os, k.tape.trans h.tape, k.output.trans h.output, Nat.le_trans h.size k.size, fun i hi hn => (k.block i (Nat.lt_of_lt_of_le hi h.size) hn).trans (h.block i hi hn)⟩
theorem Only.mono {L M : List Nat} {a b : World} (h : Only L a b) (hs : ∀ x, x ∈ L → x ∈ M) : Only M a b := ⟨h.os, h.tape, h.output, h.size, fun i hi hn => h.block i hi (fun hm => hn (hs i hm))⟩
theorem Only.setCell {L : List Nat} {a w : World} (h : Only L a w) {p : Addr} (hp : p.block ∈ L) (u : Value) : Only L a (w.setCell p u) :=
  ⟨h.os, h.tape, h.output, by simpa using h.size, fun i hi hn => (Below.heap_setCell w p u i (fun e => hn (e ▸ hp))).trans (h.block i hi hn)⟩
theorem Only.of_ext {L : List Nat} {a b : World} (h : Ext a b) : Only L a b := ⟨h.os, h.tape, h.output, h.size, fun i hi _ => h.heap i hi⟩
theorem Only.drew {L : List Nat} {a b : World} (h : Only L a b) : Only L a b.drew := ⟨h.os, h.tape, h.output, h.size, h.block⟩
theorem Only.alloc {L : List Nat} {a b : World} (h : Only L a b) (o : Obj) : Only L a (b.alloc o) := h.trans (Only.of_ext ((Ext.refl b).alloc o))
/-- What was made behind a world stands outside of what that world knew. -/
theorem Only.ext {L : List Nat} {a w w' : World} (h : Only L w w') (he : Ext a w) (hL : ∀ b, b ∈ L → a.heap.size ≤ b) : Ext a w' :=
  ⟨h.os.trans he.os, h.tape.trans he.tape, h.output.trans he.output, Nat.le_trans he.size h.size, fun i hi => (h.block i (Nat.lt_of_lt_of_le hi he.size) (fun hm => absurd (hL i hm) (by omega))).trans (he.heap i hi)⟩
end Go.Proofs.YtenpknapajckbaaDoor

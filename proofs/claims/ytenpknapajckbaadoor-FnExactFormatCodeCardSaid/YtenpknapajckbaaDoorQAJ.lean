/-
  Lemmas towards the law, 10: Text, Free, Fmt, Grow.
-/
import Derived.Test.YtenpknapajckbaaDoorQAC
import Derived.Test.YtenpknapajckbaaDoorQAF
import Derived.Test.YtenpknapajckbaaDoorQAI
import Derived.Deep.RegionHeld3
import Derived.Laws.AppendOwn
import Derived.Laws.Concat
import Derived.Laws.IdiomStrings
import Derived.Outline
import Derived.OwnWalk
namespace Go.Proofs.YtenpknapajckbaaDoor
set_option linter.unusedVariables false
/-- A string of these bytes. -/
def ofL (l : List UInt8) : ByteArray := ⟨l.toArray⟩
theorem ofL_append (a b : List UInt8) : ofL a ++ ofL b = ofL (a ++ b) := by
  apply ByteArray.ext
  simp [ofL]
theorem ofL_size (l : List UInt8) : (ofL l).size = l.length := by simp [ofL, ByteArray.size]
theorem ofL_list (l : List UInt8) : (ofL l).data.toList = l := by simp [ofL]
theorem ofL_of (s : ByteArray) : ofL s.data.toList = s := by
  apply ByteArray.ext
  simp [ofL]
/-- Decimal digits of a number below 100. -/
def decL (n : Int) : List UInt8 := if n ≤ 9 then [UInt8.ofNat (48 + n.toNat)] else [UInt8.ofNat (48 + n.toNat / 10), UInt8.ofNat (48 + n.toNat % 10)]
theorem decL_len (n : Int) : (decL n).length ≤ 2 := by unfold decL; split <;> simp
/-- Some terms, separated by commas, and a closing sign. -/
def ser (p : Nat → Option (Tr × Nat)) (l : List UInt8) (last : UInt8) : Nat → Nat → Option (List Tr × Nat)
  | 0, a => some ([], a)
  | m + 1, a => match p a with
    | none => none
    | some (t, b) => if l[b]? = some (if m = 0 then last else 44) then (ser p l last m (b + 1)).map (fun x => (t :: x.1, x.2)) else none
def one (k : Int) (x : Option (Tr × Nat)) : Option (Tr × Nat) := x.map fun y => (.mk k 0 [y.1], y.2)
def blkK (c : UInt8) : Int := if c = 60 then 9 else if c = 123 then 10 else if c = 124 then 14 else if c = 64 then 12 else 0
def blkE (c : UInt8) : UInt8 := if c = 123 then 125 else if c = 124 then 124 else 62
/-- Three or four operands. -/
def blk (p : Nat → Option (Tr × Nat)) (l : List UInt8) (a : Nat) (c : UInt8) : Option (Tr × Nat) :=
  if blkK c = 0 then none
  else if c = 64 then (if l[a + 1]? = some 60 then (ser p l 62 3 (a + 2)).map (fun x => (.mk 12 0 x.1, x.2)) else none)
  else (ser p l (blkE c) (if c = 60 then 4 else 3) (a + 1)).map (fun x => (.mk (blkK c) 0 x.1, x.2))
end Go.Proofs.YtenpknapajckbaaDoor
namespace Go.Proofs.YtenpknapajckbaaDoor
open Go.RowKit
set_option linter.unusedVariables false
theorem shape_kids' {g : Sig} {k n : Int} {ks : List Tr} {d : Int} (h : shape g (.mk k n ks) d = true) : g.ops k = (ks.length : Int) ∧ 0 ≤ n ∧ n ≤ g.most k ∧ ∀ t ∈ ks, shape g t (d - 1) = true := by
  have mem : ∀ {ks : List Tr} {d : Int} {t : Tr}, shapes g ks d = true → t ∈ ks → shape g t d = true := by
    intro ks
    induction ks with
    | nil => intro d t _ hm; cases hm
    | cons x ks ih =>
      intro d t h hm
      simp only [shapes, Bool.and_eq_true] at h
      rcases List.mem_cons.1 hm with rfl | hm
      · exact h.1
      · exact ih h.2 hm
  simp only [shape, headOk, Bool.and_eq_true] at h
  have h1 := of_decide_eq_true h.2.1.1
  have h2 := inR_iff.1 h.2.1.2
  exact ⟨h1, h2.1, h2.2, fun t ht => mem h.2.2 ht⟩
theorem valid_parts {g : Sig} {t : Tr} (h : valid g t = true) : shape g t 30 = true ∧ cnt t ≤ 400 := by
  unfold valid at h
  rw [Bool.and_eq_true] at h
  exact ⟨h.1, of_decide_eq_true h.2⟩
end Go.Proofs.YtenpknapajckbaaDoor
namespace Go.Proofs.YtenpknapajckbaaDoor
open Go.RowKit
set_option linter.unusedVariables false
theorem conv1 (w : World) (x : Int) (b : UInt8) (hb : (b.toNat : Int) = x) : (convert 40 9 (.slice (some ⟨w.heap.size, 0, none⟩) 1 1)).run Tryd.prog (w.alloc (.cells #[.int .u8 x] 5)) = .ok (.string (ofL [b])) (w.alloc (.cells #[.int .u8 x] 5)) := by
  have := run_convert_bytes_back (P := Tryd.prog) (w.alloc (.cells #[.int .u8 x] 5)) 40 9 5 ⟨w.heap.size, 0, none⟩ 1 [b] Tryd.underlying40 Tryd.underlying5 Tryd.underlying9 (fun j hj => by
    have : j = 0 := by simpa using hj
    subst this
    rw [Addr.add_lit, Nat.zero_add, cell_of_blk (heap_alloc_new w _)]
    simp only [List.getElem_cons_zero, hb]
    rfl)
  simpa [ofL] using this
theorem cat_nil (a : List UInt8) : ofL a ++ ({ data := #[] } : ByteArray) = ofL a := by
  have := ofL_append a []
  simpa [ofL] using this
theorem byte_of (n : Nat) (h : n < 256) : ((UInt8.ofNat n).toNat : Int) = n := by
  simp
  omega
set_option maxRecDepth 100000 in
set_option maxHeartbeats 1000000 in
theorem l19Dec_any (n : Nat) (hn : n ≤ 99) (w : World) : Calls Tryd.prog 38 #[.int .i64 n] w fun e w' => e = .returned (.string (ofL (decL n))) ∧ Ext w w' := by
  by_cases h9 : n ≤ 9
  · obtain ⟨b, hb⟩ : ∃ b, b = UInt8.ofNat (48 + n) := ⟨_, rfl⟩
    have hc := conv1 w (48 + n) b (by rw [hb, byte_of _ (by omega)]; omega)
    have hd : decL n = [b] := by
      unfold decL
      rw [if_pos (by omega), hb]
      rfl
    have HD := Lib.hid hd
    have HC := Lib.hid (cat_nil [b])
    clear hd hb
    go_enter Tryd.func38, Tryd.ntmps38
    go_wp2_with fail
    refine wp_loop_rounds 1 ?_
    rw [rounds_succ]
    go_wp2_with fail
    go_ret
    exact ⟨by rw [HD.out, ← HC.out]; rfl, (Ext.refl w).alloc _⟩
  · obtain ⟨r, hr⟩ : ∃ r : Int, r = (n : Int) % 10 := ⟨_, rfl⟩
    obtain ⟨q, hq⟩ : ∃ q : Int, q = (n : Int) / 10 := ⟨_, rfl⟩
    have hm0 : 0 ≤ r := by omega
    have hm1 : r ≤ 9 := by omega
    have hq0 : 0 ≤ q := by omega
    have hq1 : q ≤ 9 := by omega
    obtain ⟨b, hb⟩ : ∃ b, b = UInt8.ofNat (48 + n / 10) := ⟨_, rfl⟩
    obtain ⟨c, hcb⟩ : ∃ b, b = UInt8.ofNat (48 + n - n / 10 * 10) := ⟨_, rfl⟩
    have hc := conv1 w (48 + r) c (by rw [hcb, byte_of _ (by omega)]; omega)
    have hc2 := conv1 (w.alloc (.cells #[.int .u8 (48 + r)] 5)) (48 + q) b (by rw [hb, byte_of _ (by omega)]; omega)
    rw [World.size_alloc] at hc2
    have hd : decL n = [b] ++ [c] := by
      unfold decL
      rw [if_neg (by omega), hb, hcb]
      simp only [List.cons_append, List.nil_append, List.cons.injEq, and_true]
      constructor <;> (congr 1; try omega)
    have HD := Lib.hid hd
    have HC := Lib.hid (cat_nil [c])
    have h3 : decide ((9 : Int) < q) = false := decide_eq_false (by omega)
    clear hd hb hcb
    subst hr hq
    go_enter Tryd.func38, Tryd.ntmps38
    go_wp2_with fail
    refine wp_loop_rounds 2 ?_
    rw [rounds_succ]
    go_wp2_with fail
    rw [rounds_succ]
    go_wp2_with fail
    go_ret
    exact ⟨by rw [HD.out, ← ofL_append, ← HC.out]; rfl, ((Ext.refl w).alloc _).alloc _⟩
theorem sz_le {x : List UInt8} {n : Nat} (h : x.length ≤ n) : (ofL x).size ≤ n := by rw [ofL_size]; exact h
theorem list1 {ks : List Tr} {t : Tr} (h : ks.length = 1) (h0 : 0 < ks.length) (e : ks[0] = t) : ks = [t] := by
  match ks, h with
  | [q], _ => rw [← e]; rfl
theorem list2 {ks : List Tr} {t u : Tr} (h : ks.length = 2) (h0 : 0 < ks.length) (h1 : 1 < ks.length) (e : ks[0] = t) (e1 : ks[1] = u) : ks = [t, u] := by
  match ks, h with
  | [q, r], _ => rw [← e, ← e1]; rfl
end Go.Proofs.YtenpknapajckbaaDoor
namespace Go.Proofs.YtenpknapajckbaaDoor
open Go.RowKit
set_option linter.unusedVariables false
/-- v is a slice of trees that was built by append since W; its rows are of type e. -/
def Grow (W w : World) (e : TypeId) (v : Value) (ks : List Tr) : Prop :=
  ∃ xs L, w.ownsRow W.heap.size e 3 v ks.length xs ∧ OwnL w e xs ks L ∧ Fresh W w L ∧ ∀ g, v.ownBlock = some g → ¬ g ∈ L
theorem Grow.nil (W w : World) (e : TypeId) : Grow W w e (.slice none 0 0) [] :=
  ⟨[], [], World.ownsRow_nil _ _ _ _, OwnL.nil, Fresh.nil _ _, fun _ _ h => by cases h⟩
theorem ownsRow_same {w w' : World} {base : Nat} {e : TypeId} {v : Value} {n : Nat} {xs : List Value} (h : w.ownsRow base e 3 v n xs) (hb : ∀ g, v.ownBlock = some g → w'.heap[g]? = w.heap[g]?) : w'.ownsRow base e 3 v n xs := by
  refine ⟨h.1, ?_⟩
  rcases h.2 with h | ⟨g, cap, cur, rfl, h1, h2, r⟩
  · exact .inl h
  · exact .inr ⟨g, cap, cur, rfl, h1, (hb g rfl).trans h2, r⟩
theorem Grow.same {W w w' : World} {e : TypeId} {v : Value} {ks : List Tr} (h : Grow W w e v ks) (hs : w.heap.size ≤ w'.heap.size) (hb : ∀ b, W.heap.size ≤ b → b < w.heap.size → w'.heap[b]? = w.heap[b]?) : Grow W w' e v ks := by
  obtain ⟨xs, L, h1, h2, h3, h4⟩ := h
  exact ⟨xs, L, ownsRow_same h1 (fun g hg => hb g (h1.lt g hg).1 (h1.lt g hg).2), h2.mono (fun b hm => hb b (h3.2 b hm).1 (h3.2 b hm).2), h3.mono (Nat.le_refl _) hs, h4⟩
theorem Grow.ext {W w w' : World} {e : TypeId} {v : Value} {ks : List Tr} (h : Grow W w e v ks) (he : Ext w w') : Grow W w' e v ks := h.same he.size (fun b _ hb => he.heap b hb)
theorem Grow.after {W w w' : World} {e : TypeId} {v : Value} {ks : List Tr} (h : Grow W w e v ks) (ha : Above W.heap.size w w') : Grow W w' e v ks := h.same ha.2 (fun b hb _ => ha.1 b hb)
theorem Grow.made {W w : World} {e : TypeId} {v : Value} {ks : List Tr} (h : Grow W w e v ks) : ∃ A cap, v = .slice A ks.length cap ∧ ks.length ≤ cap ∧ cap ≤ maxLen ∧ MadeK W w e A ks := by
  obtain ⟨xs, L, h1, h2, h3, h4⟩ := h
  rcases h1.2 with ⟨rfl, h0⟩ | ⟨g, cap, cur, rfl, hb, hg, hnc, hcm, hcs, ht⟩
  · have : ks = [] := List.eq_nil_of_length_eq_zero h0
    subst this
    exact ⟨none, 0, rfl, Nat.le_refl _, Nat.zero_le _, MadeK.nil _ _ _ _⟩
  · refine ⟨_, cap, rfl, hnc, hcm, g :: L, .inr ⟨g, cur, L, rfl, hg, rfl, ?_⟩, List.nodup_cons.2 ⟨h4 g rfl, h3.1⟩, fun b hm => ?_⟩
    · have := OwnL.tail (cur.toList.drop (ks.length * 3)) h2
      rw [← ht, List.take_append_drop] at this
      exact this
    · rcases List.mem_cons.1 hm with rfl | hm
      · exact ⟨hb, lt_of_blk hg⟩
      · exact h3.2 b hm
theorem Grow.step {W wr w1 w w' : World} {e : TypeId} {v v' : Value} {ks : List Tr} {t : Tr} {v0 v1 v2 : Value} {xs : List Value} {L : List Nat}
    (hL : OwnL wr e xs ks L) (hF : Fresh W wr L) (hv : ∀ g, v.ownBlock = some g → ¬ g ∈ L ∧ g < wr.heap.size ∧ W.heap.size ≤ g) (hx : xs.length = ks.length * 3) (hW : W.heap.size ≤ wr.heap.size) (hE1 : Ext wr w1) (hM : Made wr w1 e t (.agg #[v0, v1, v2])) (hE2 : Ext w1 w)
    (h2 : w'.ownsRow W.heap.size e 3 v' (ks.length + 1) (xs ++ [v0, v1, v2])) (h3 : w.grownBy w' v.ownBlock) (h4 : ∀ g, v'.ownBlock = some g → v.ownBlock = some g ∨ w.heap.size ≤ g) : Grow W w' e v' (ks ++ [t]) ∧ Below W.heap.size wr w' := by
  obtain ⟨M, hM, hFM⟩ := hM
  have s1 := hE1.size
  have s2 := hE2.size
  have keep : ∀ b, b < w1.heap.size → (v.ownBlock ≠ some b) → w'.heap[b]? = w1.heap[b]? := fun b hb hne => (h3.block b (by omega) (fun h => hne h.symm)).trans (hE2.heap b hb)
  refine ⟨⟨_, L ++ M, by simpa using h2, OwnL.snoc (hM.mono fun b hb => keep b (hFM.2 b hb).2 fun he => ?_) [] hx (hL.mono fun b hb => (keep b (by have := (hF.2 b hb).2; omega) fun he => ?_).trans (hE1.heap b (hF.2 b hb).2)), ?_, fun g hg hm => ?_⟩, ?_⟩
  · have := (hv b he).2.1
    have := (hFM.2 b hb).1
    omega
  · exact (hv b he).1 hb
  · have h5 := hF.append (d := w1) hFM (Nat.le_refl _) hW hE1.size
    exact h5.mono (Nat.le_refl _) (by have := h3.size; omega)
  · rcases h4 g hg with h | h
    · rcases List.mem_append.1 hm with hm | hm
      · exact (hv g h).1 hm
      · have := (hv g h).2.1
        have := (hFM.2 g hm).1
        omega
    · rcases List.mem_append.1 hm with hm | hm
      · have := (hF.2 g hm).2
        omega
      · have := (hFM.2 g hm).2
        omega
  · refine ⟨h3.os.trans (hE2.os.trans hE1.os), h3.tape.trans (hE2.tape.trans hE1.tape), h3.output.trans (hE2.output.trans hE1.output), by have := h3.size; omega, fun b hb => ?_⟩
    exact (keep b (by omega) (fun he => by have := (hv b he).2.2; omega)).trans (hE1.heap b (by omega))
end Go.Proofs.YtenpknapajckbaaDoor

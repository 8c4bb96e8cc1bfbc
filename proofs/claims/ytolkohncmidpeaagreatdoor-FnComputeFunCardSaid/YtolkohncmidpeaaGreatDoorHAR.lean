/-
  Lemmas towards the law, 18: DefG, CopyTop, CtxI, CtxS, Subst.
-/
import Derived.Test.YtolkohncmidpeaaGreatDoorHAG
import Derived.Test.YtolkohncmidpeaaGreatDoorHAJ
import Derived.Test.YtolkohncmidpeaaGreatDoorHAN
import Derived.Test.YtolkohncmidpeaaGreatDoorHAQ
import Derived.Deep.RegionHeldLaw
import Derived.Outline
namespace Go.Proofs.YtolkohncmidpeaaGreatDoor
open Go.RowKit
set_option linter.unusedVariables false
/-- v is a slice of n definitions (2n trees) that was built by append since W; all trees are newer than W. -/
def GrowD (W w : World) (e : TypeId) (v : Value) (ks : List Tr) (n : Nat) : Prop :=
  ks.length = n * 2 ∧ ∃ xs, w.ownsRow W.heap.size e 6 v n xs ∧ RowL w (fun b => W.heap.size ≤ b ∧ b < w.heap.size ∧ v.ownBlock ≠ some b) xs ks
theorem ownsRow_same6 {w w' : World} {base : Nat} {e : TypeId} {v : Value} {n : Nat} {xs : List Value} (h : w.ownsRow base e 6 v n xs) (hb : ∀ g, v.ownBlock = some g → w'.heap[g]? = w.heap[g]?) : w'.ownsRow base e 6 v n xs := by
  refine ⟨h.1, ?_⟩
  rcases h.2 with h | ⟨g, cap, cur, rfl, h1, h2, r⟩
  · exact .inl h
  · exact .inr ⟨g, cap, cur, rfl, h1, (hb g rfl).trans h2, r⟩
theorem GrowD.nil (W w : World) (e : TypeId) : GrowD W w e (.slice none 0 0) [] 0 := ⟨rfl, [], World.ownsRow_nil _ _ _ _, RowL.nil⟩
theorem GrowD.lit {W w : World} {e : TypeId} {g : Nat} (hg : w.heap[g]? = some (.cells #[] e (0, 0))) (hW : W.heap.size ≤ g) : GrowD W w e (.slice (some ⟨g, 0, none⟩) 0 0) [] 0 :=
  ⟨rfl, [], ⟨rfl, .inr ⟨g, 0, #[], rfl, hW, hg, Nat.le_refl _, Nat.zero_le _, rfl, rfl⟩⟩, RowL.nil⟩
theorem GrowD.same {W w w' : World} {e : TypeId} {v : Value} {ks : List Tr} {n : Nat} (h : GrowD W w e v ks n) (hs : w.heap.size ≤ w'.heap.size) (hb : ∀ b, W.heap.size ≤ b → b < w.heap.size → w'.heap[b]? = w.heap[b]?) : GrowD W w' e v ks n := by
  obtain ⟨h0, xs, h1, h2⟩ := h
  exact ⟨h0, xs, ownsRow_same6 h1 (fun g hg => hb g (h1.lt g hg).1 (h1.lt g hg).2), h2.mono (fun b hb => ⟨hb.1, Nat.lt_of_lt_of_le hb.2.1 hs, hb.2.2⟩) (fun b hm => hb b hm.1 hm.2.1)⟩
theorem GrowD.ext {W w w' : World} {e : TypeId} {v : Value} {ks : List Tr} {n : Nat} (h : GrowD W w e v ks n) (he : Ext w w') : GrowD W w' e v ks n := h.same he.size (fun b _ hb => he.heap b hb)
theorem GrowD.only {W w w' : World} {e : TypeId} {v : Value} {ks : List Tr} {n : Nat} {L : List Nat} (h : GrowD W w e v ks n) (ho : Only L w w') (hL : ∀ b, b ∈ L → b < W.heap.size) : GrowD W w' e v ks n :=
  h.same ho.size (fun b hW hb => ho.block b hb (fun hm => by have := hL b hm; omega))
theorem GrowD.slice {W w : World} {e : TypeId} {v : Value} {ks : List Tr} {n : Nat} (h : GrowD W w e v ks n) : ∃ A cap, v = .slice A n cap ∧ n ≤ cap ∧ cap ≤ maxLen ∧ FromK W.heap.size w A ks := by
  obtain ⟨h0, xs, h1, h2⟩ := h
  rcases h1.2 with ⟨rfl, h3⟩ | ⟨g, cap, cur, rfl, hb, hg, hnc, hcm, hcs, ht⟩
  · have : ks = [] := List.eq_nil_of_length_eq_zero (by omega)
    subst this
    exact ⟨none, 0, by rw [h3], by omega, Nat.zero_le _, .inl rfl⟩
  · refine ⟨_, cap, rfl, hnc, hcm, .inr ⟨g, 0, rfl, ⟨hb, lt_of_blk hg⟩, ?_⟩⟩
    have h3 := RowL.tail (cur.toList.drop (n * 6)) (h2.mono (S' := fun b => W.heap.size ≤ b ∧ b < w.heap.size) (fun b hb => ⟨hb.1, hb.2.1⟩) (fun _ _ => rfl))
    rw [← ht, List.take_append_drop] at h3
    exact RowL.inL hg (pre := []) h3 (by simp)
theorem GrowD.cap {W w : World} {e : TypeId} {A : Option Addr} {n cap n' : Nat} {ks : List Tr} (h : GrowD W w e (.slice A n cap) ks n') : A = none → cap = 0 := by
  obtain ⟨h0, xs, h1, h2⟩ := h
  intro hA
  rcases h1.2 with ⟨h3, -⟩ | ⟨g, c, cur, h3, -⟩
  · simp only [Value.slice.injEq] at h3
    exact h3.2.2
  · simp only [Value.slice.injEq] at h3
    rw [hA] at h3
    cases h3.1
theorem RowL.append {w : World} {S : Nat → Prop} {ys : List Value} {ts : List Tr} (ht : RowL w S ys ts) : ∀ {xs : List Value} {ks : List Tr}, xs.length = ks.length * 3 → RowL w S xs ks → RowL w S (xs ++ ys) (ks ++ ts)
  | xs, [], hx, h => by
    have hx0 : xs = [] := List.eq_nil_of_length_eq_zero (by simpa using hx)
    subst hx0
    exact ht
  | xs, x :: ks, hx, h => by
    obtain ⟨u0, u1, u2, rest, rfl, h1, h2⟩ := RowL.cons_iff.1 h
    exact RowL.cons_iff.2 ⟨u0, u1, u2, _, rfl, h1, RowL.append ht (by simp only [List.length_cons] at hx; omega) h2⟩
theorem RowL.two {w : World} {S : Nat → Prop} {t u : Tr} {v0 v1 v2 v3 v4 v5 : Value} (h1 : InT w S t (.agg #[v0, v1, v2])) (h2 : InT w S u (.agg #[v3, v4, v5])) : RowL w S [v0, v1, v2, v3, v4, v5] [t, u] :=
  RowL.cons_iff.2 ⟨v0, v1, v2, _, rfl, h1, RowL.cons_iff.2 ⟨v3, v4, v5, _, rfl, h2, RowL.nil⟩⟩
/-- A tree newer than a world in which the row lay stands outside of the row. -/
theorem GrowD.off {W w w1 : World} {e : TypeId} {v : Value} {ks : List Tr} {n : Nat} {t : Tr} {u : Value} (h : GrowD W w e v ks n) (hW : W.heap.size ≤ w.heap.size) (ht : From w.heap.size w1 t u) : InT w1 (fun b => W.heap.size ≤ b ∧ b < w1.heap.size ∧ v.ownBlock ≠ some b) t u := by
  obtain ⟨h0, xs, h1, h2⟩ := h
  exact InT.mono (fun b hb => ⟨by have := hb.1; omega, hb.2, fun he => by have := (h1.lt b he).2; have := hb.1; omega⟩) (fun _ _ => rfl) ht
/-- The row of a slice that is not empty. -/
theorem GrowD.row {W w : World} {e : TypeId} {v : Value} {ks : List Tr} {n : Nat} (h : GrowD W w e v ks n) (hn : 0 < n) : ∃ g cap, v = .slice (some ⟨g, 0, none⟩) n cap ∧ W.heap.size ≤ g ∧ g < w.heap.size ∧ n ≤ cap ∧ cap ≤ maxLen ∧
    ∀ j, j < n * 6 → ∃ x, w.cell? ⟨g, j, none⟩ = some x ∧ w.frozen? ⟨g, j, none⟩ = false := by
  obtain ⟨h0, xs, h1, h2⟩ := h
  rcases h1.2 with ⟨rfl, h3⟩ | ⟨g, cap, cur, rfl, hb, hg, hnc, hcm, hcs, ht⟩
  · omega
  · exact ⟨g, cap, rfl, hb, lt_of_blk hg, hnc, hcm, fun j hj => ⟨cur[j]'(by rw [hcs]; omega), by rw [cell_of_blk hg]; exact Array.getElem?_eq_getElem _, frozen_of_blk hg _⟩⟩
/-- A tree stored into the row. -/
theorem GrowD.set {W w : World} {e : TypeId} {g cap n j : Nat} {ks : List Tr} {t : Tr} {v0 v1 v2 : Value} (h : GrowD W w e (.slice (some ⟨g, 0, none⟩) n cap) ks n) (hj : j < ks.length)
    (ht : InT w (fun b => W.heap.size ≤ b ∧ b < w.heap.size ∧ b ≠ g) t (.agg #[v0, v1, v2])) :
    GrowD W (((w.setCell ⟨g, j * 3, none⟩ v0).setCell ⟨g, j * 3 + 1, none⟩ v1).setCell ⟨g, j * 3 + 2, none⟩ v2) e (.slice (some ⟨g, 0, none⟩) n cap) (ks.set j t) n := by
  obtain ⟨h0, xs, h1, h2⟩ := h
  rcases h1.2 with ⟨h3, h4⟩ | ⟨g', cap', cur, he, hb, hg, hnc, hcm, hcs, htk⟩
  · rw [h4] at h0; omega
  · simp only [Value.slice.injEq, Option.some.injEq, Addr.mk.injEq, and_true, true_and] at he
    obtain ⟨rfl, rfl⟩ := he
    have q1 := blk_setCell (blk_setCell (blk_setCell hg (j * 3) v0) (j * 3 + 1) v1) (j * 3 + 2) v2
    have q2 : ∀ b, b ≠ g → (((w.setCell ⟨g, j * 3, none⟩ v0).setCell ⟨g, j * 3 + 1, none⟩ v1).setCell ⟨g, j * 3 + 2, none⟩ v2).heap[b]? = w.heap[b]? := fun b hne => by
      rw [Below.heap_setCell _ _ _ _ hne, Below.heap_setCell _ _ _ _ hne, Below.heap_setCell _ _ _ _ hne]
    have hlx : xs.length = ks.length * 3 := by rw [h1.1, h0]; omega
    refine ⟨by simpa using h0, ((xs.set (j * 3) v0).set (j * 3 + 1) v1).set (j * 3 + 2) v2, ⟨by simpa using h1.1, .inr ⟨g, cap, _, rfl, hb, q1, hnc, hcm, by simpa using hcs, ?_⟩⟩, ?_⟩
    · simp only [Array.toList_setIfInBounds, List.take_set, htk]
    · have hmn : RowL (((w.setCell ⟨g, j * 3, none⟩ v0).setCell ⟨g, j * 3 + 1, none⟩ v1).setCell ⟨g, j * 3 + 2, none⟩ v2) (fun b => W.heap.size ≤ b ∧ b < (((w.setCell ⟨g, j * 3, none⟩ v0).setCell ⟨g, j * 3 + 1, none⟩ v1).setCell ⟨g, j * 3 + 2, none⟩ v2).heap.size ∧ (Value.slice (some ⟨g, 0, none⟩) n cap).ownBlock ≠ some b) xs ks :=
        h2.mono (fun b hb => ⟨hb.1, by simpa using hb.2.1, hb.2.2⟩) (fun b hb => q2 b (fun he => hb.2.2 (by rw [he]; rfl)))
      refine RowL.set (InT.mono (fun b hb => ⟨hb.1, by simpa using hb.2.1, fun he => hb.2.2 (by simpa [Value.ownBlock] using he.symm)⟩) (fun b hb => q2 b hb.2.2) ht) j hmn
end Go.Proofs.YtolkohncmidpeaaGreatDoor
namespace Go.Proofs.YtolkohncmidpeaaGreatDoor
open Go.RowKit
set_option linter.unusedVariables false
attribute [local go_sem ↓] Go.wp_at_zero Go.wp_at_succ
theorem OwnL.rowL {w : World} {e : TypeId} {S : Nat → Prop} : ∀ {xs : List Value} {ks : List Tr} {L : List Nat}, OwnL w e xs ks L → (∀ b, b ∈ L → S b) → RowL w S xs ks
  | _, [], _, _, _ => RowL.nil
  | xs, t :: ts, L, h, hS => by
    obtain ⟨v0, v1, v2, rest, L1, L2, rfl, h1, h2, rfl⟩ := OwnL.cons_iff.1 h
    exact RowL.cons_iff.2 ⟨v0, v1, v2, rest, rfl, h1.inT.mono (fun b hb => hS b (by simp [hb])) (fun _ _ => rfl), OwnL.rowL h2 (fun b hb => hS b (by simp [hb]))⟩
end Go.Proofs.YtolkohncmidpeaaGreatDoor
namespace Go.Proofs.YtolkohncmidpeaaGreatDoor
open Go.RowKit
set_option linter.unusedVariables false
attribute [local go_sem ↓] Go.wp_at_zero Go.wp_at_succ
/-- At most eight terms, all valid. -/
def fitsC (ks : List Tr) : Bool := decide (ks.length ≤ 8) && !ks.any (fun t => !valid sigT t)
theorem GrowO.lies {W w : World} {e : TypeId} {v : Value} {ks : List Tr} (h : GrowO W w e v ks) (hW : W.heap.size ≤ w.heap.size) : ∃ A cap, v = .slice A ks.length cap ∧ ks.length ≤ cap ∧ cap ≤ maxLen ∧ LiesK w A ks := by
  obtain ⟨xs, h1, h2⟩ := h
  rcases h1.2 with ⟨rfl, h0⟩ | ⟨g, cap, cur, rfl, hb, hg, hnc, hcm, hcs, ht⟩
  · have : ks = [] := List.eq_nil_of_length_eq_zero h0
    subst this
    exact ⟨none, 0, rfl, Nat.le_refl _, Nat.zero_le _, .inl rfl⟩
  · refine ⟨_, cap, rfl, hnc, hcm, .inr ⟨g, 0, rfl, lt_of_blk hg, ?_⟩⟩
    have h3 := RowL.tail (cur.toList.drop (ks.length * 3)) (h2.mono (S' := fun b => b < w.heap.size) (fun b hb => Nat.lt_of_lt_of_le hb hW) (fun _ _ => rfl))
    rw [← ht, List.take_append_drop] at h3
    exact RowL.inL hg (pre := []) h3 (by simp)
theorem areTerms1 (t : Tr) (w : World) (v : Value) (hin : Lies w t v) : Calls Tryz.prog 106 #[v] w fun e w' => e = .returned (.bool (!valid sigT t)) ∧ Ext w w' := by
  have HV := Lib.hid (fun W (hW : Ext w W) => validTerm_any t W v (hin.ext hW))
  obtain ⟨k, n, ks⟩ := t
  obtain ⟨A, cap, rfl, hl, hc, hK⟩ := Lies.mk_iff.1 hin
  go_enter Tryz.func106, Tryz.ntmps106
  go_wp2_with fail
  refine (HV.out _ ((Ext.refl w).alloc _)).mono ?_
  rintro e w1 ⟨rfl, h1⟩
  go_wp2_with fail
  go_ret
  exact ⟨rfl, h1.pre⟩
set_option maxHeartbeats 400000 in
theorem index_arT (ks : List Tr) (w : World) (A : Option Addr) (cap : Nat) (hl : ks.length ≤ cap) (hc : cap ≤ maxLen) (h : LiesK w A ks) :
    Calls Tryz.prog 139 #[.slice A ks.length cap, .func (.func 106) #[] #[]] w fun e w' => e = .returned (.int .i64 (firstIx (fun t => !valid sigT t) ks 0)) ∧ Ext w w' := by
  obtain ⟨p, hp⟩ : ∃ p : Tr → Bool, p = fun t => !valid sigT t := ⟨_, rfl⟩
  have hf : ∀ t ∈ ks, ∀ w' v, Ext w w' → Lies w' t v → Calls Tryz.prog 106 #[v] w' fun e w'' => e = .returned (.bool (p t)) ∧ Ext w' w'' := fun t _ w' v _ hv => by rw [hp]; exact areTerms1 t w' v hv
  rw [← hp]
  clear hp
  unfold maxLen at hc
  go_enter Tryz.func139, Tryz.ntmps139
  go_wp2_with fail
  go_loopw [8] (fun i wr => ∃ j : Nat, j ≤ ks.length ∧ i = .int .i64 j ∧ firstIx p ks 0 = firstIx p (ks.drop j) j ∧ Ext w wr) (fun i _ => ks.length - (intOf i).toNat)
  case atStart => exact ⟨0, Nat.zero_le _, rfl, rfl, Ext.refl _⟩
  case round =>
    obtain ⟨j, hj, rfl, heq, hx⟩ := hrel
    have HE := Lib.hid heq
    clear heq
    by_cases hlt : j < ks.length
    · obtain ⟨b, o, k, n, A', cap', kids, rfl, HK, c0, c1, c2, hkl, hkc, hK, hin, hmem⟩ := h.get hx hlt
      have hst : firstIx p (ks.drop j) j = if p (.mk k n kids) = true then (j : Int) else firstIx p (ks.drop (j + 1)) (j + 1) := by
        rw [List.drop_eq_getElem_cons hlt, HK.out]; conv => lhs; unfold firstIx
      have HF := Lib.hid (hf _ hmem)
      clear hf
      go_wp2_with fail
      refine (HF.out wr _ hx hin).mono ?_
      rintro e w1 ⟨rfl, h1⟩
      generalize p (.mk k n kids) = r at hst
      cases r with
      | true =>
        rw [if_pos rfl] at hst
        have HT := Lib.hid hst
        clear hst
        go_wp2_with fail
        go_ret
        exact ⟨by rw [HE.out, HT.out]; rfl, hx.trans h1⟩
      | false =>
        rw [if_neg (by decide)] at hst
        have HT := Lib.hid hst
        clear hst
        go_wp2_with fail
        go_roundw
        case rel => exact ⟨j + 1, by omega, by go_num, by rw [HE.out, HT.out], hx.trans h1⟩
        case measure => simp [intOf]; omega
    · go_wp2_with fail
      go_ret
      exact ⟨by rw [HE.out, List.drop_of_length_le (by omega)]; rfl, hx⟩
theorem areTerms_any (ks : List Tr) (w : World) (A : Option Addr) (cap : Nat) (hl : ks.length ≤ cap) (hc : cap ≤ maxLen) (h : LiesK w A ks) :
    Calls Tryz.prog 66 #[.slice A ks.length cap] w fun e w' => e = .returned (.bool (fitsC ks)) ∧ Ext w w' := by
  have hC : Calls Tryz.prog 105 #[.slice A ks.length cap, .func (.func 106) #[] #[]] w fun e w' => e = .returned (.bool (ks.any (fun t => !valid sigT t))) ∧ Ext w w' := by
    have HI := Lib.hid (index_arT ks w A cap hl hc h)
    have HB := Lib.hid (firstIx_spec (fun t => !valid sigT t) ks 0)
    go_enter Tryz.func105, Tryz.ntmps105
    go_wp2_with fail
    refine HI.out.mono ?_
    rintro e w1 ⟨rfl, h1⟩
    go_wp2_with fail
    go_ret
    exact ⟨by rw [← HB.out]; rfl, h1⟩
  have HC := Lib.hid hC
  have he : fitsC ks = (decide (ks.length ≤ 8) && !ks.any (fun t => !valid sigT t)) := rfl
  clear hC
  by_cases h8 : ks.length ≤ 8
  · rw [decide_eq_true h8, Bool.true_and] at he
    have d : decide ((ks.length : Int) ≤ 8) = true := decide_eq_true (by omega)
    have HE := Lib.hid he
    clear he
    go_enter Tryz.func66, Tryz.ntmps66
    go_wp2_with fail
    refine HC.out.mono ?_
    rintro e w1 ⟨rfl, h1⟩
    generalize ks.any (fun t => !valid sigT t) = r at HE
    go_wp2_with fail
    go_ret
    exact ⟨by rw [HE.out]; simp, h1⟩
  · rw [decide_eq_false h8, Bool.false_and] at he
    have d : decide ((ks.length : Int) ≤ 8) = false := decide_eq_false (by omega)
    have HE := Lib.hid he
    clear he
    go_enter Tryz.func66, Tryz.ntmps66
    go_wp2_with fail
    go_ret
    exact ⟨by rw [HE.out]; rfl, Ext.refl _⟩
end Go.Proofs.YtolkohncmidpeaaGreatDoor
namespace Go.Proofs.YtolkohncmidpeaaGreatDoor
open Go.RowKit
set_option linter.unusedVariables false
attribute [local go_sem ↓] Go.wp_at_zero Go.wp_at_succ
set_option maxRecDepth 100000 in
set_option maxHeartbeats 1000000 in
theorem l5Fits_any (ks : List Tr) (w : World) (A : Option Addr) (cap : Nat) (hl : ks.length ≤ cap) (hc : cap ≤ maxLen) (h : LiesK w A ks) :
    Calls Tryz.prog 95 #[.slice A ks.length cap] w fun e w' => e = .returned (.bool (fitsC ks)) ∧ Ext w w' := by
  have he : fitsC ks = (decide (ks.length ≤ 8) && !ks.any (fun t => !valid sigT t)) := rfl
  have HE := Lib.hid he
  have hcc := hc
  unfold maxLen at hcc
  clear he
  go_enter Tryz.func95, Tryz.ntmps95
  go_wp2_with fail
  go_loopw [3] (fun i wr => ∃ j : Nat, j ≤ ks.length ∧ i = .int .i64 j ∧ Hid (ks.any (fun t => !valid sigT t) = (ks.drop j).any (fun t => !valid sigT t)) ∧ Ext w wr) (fun i _ => ks.length - (intOf i).toNat)
  case atStart => exact ⟨0, Nat.zero_le _, rfl, Lib.hid rfl, Ext.refl _⟩
  case round =>
    obtain ⟨j, hj, rfl, HA, hx⟩ := hrel
    by_cases hlt : j < ks.length
    · obtain ⟨b, o, k, n, A', cap', kids, rfl, HK, c0, c1, c2, hkl, hkc, hK, hin, hmem⟩ := h.get hx hlt
      have hst : (ks.drop j).any (fun t => !valid sigT t) = (!valid sigT (.mk k n kids) || (ks.drop (j + 1)).any (fun t => !valid sigT t)) := by
        rw [List.drop_eq_getElem_cons hlt, HK.out, List.any_cons]
      have HV := Lib.hid (fun W (hW : Ext wr W) => specValidTerm (.mk k n kids) W _ (hin.ext hW))
      have hjz : (j : Int) < (ks.length : Int) := by omega
      go_wp2_with fail
      refine (HV.out wr (Ext.refl wr)).mono ?_
      rintro e w1 ⟨rfl, h1⟩
      generalize valid sigT (.mk k n kids) = r at hst
      cases r with
      | true =>
        have HA2 := Lib.hid (HA.out.trans (hst.trans (by rfl)))
        clear hst
        go_wp2_with fail
        go_roundw
        case rel => exact ⟨j + 1, by omega, by go_num, Lib.hid (by rw [HA2.out]; simp), hx.trans h1⟩
        case measure => simp [intOf]; omega
      | false =>
        have HA2 := Lib.hid (show fitsC ks = false by rw [HE.out, HA.out, hst]; simp)
        clear hst
        go_wp2_with fail
        go_ret
        exact ⟨by rw [HA2.out]; rfl, hx.trans h1⟩
    · have HA2 := Lib.hid (show fitsC ks = decide (ks.length ≤ 8) by rw [HE.out, HA.out, List.drop_of_length_le (by omega)]; simp)
      by_cases h8 : ks.length ≤ 8
      · have d : decide ((ks.length : Int) ≤ 8) = true := decide_eq_true (by omega)
        have HA3 := Lib.hid (HA2.out.trans (decide_eq_true h8))
        go_wp2_with fail
        go_ret
        exact ⟨by rw [HA3.out]; rfl, hx⟩
      · have d : decide ((ks.length : Int) ≤ 8) = false := decide_eq_false (by omega)
        have HA3 := Lib.hid (HA2.out.trans (decide_eq_false h8))
        go_wp2_with fail
        go_ret
        exact ⟨by rw [HA3.out]; rfl, hx⟩
end Go.Proofs.YtolkohncmidpeaaGreatDoor
namespace Go.Proofs.YtolkohncmidpeaaGreatDoor
open Go.RowKit
set_option linter.unusedVariables false
attribute [local go_sem ↓] Go.wp_at_zero Go.wp_at_succ
/-- A load, named: so that a region's walk does not look for it in what it holds. -/
def ldO (t : TypeId) (s : Nat) : Op := Op.load t (.tmp s)
attribute [local go_sem] ldO
theorem infoS : (Tryz.prog.info? 45).map (fun i => (i.zero, i.size, i.bytes)) = some (some (.agg #[.int .i64 0, .int .i64 0, .slice none 0 0]), 3, 40) := by kernel_rfl
theorem shfTs_get (y : Int) : ∀ {k : Int} {ts : List Tr} {i j : Nat} {c : Int} (h : j < ts.length), (shfTs y k ts i c)[j]'(by rw [shfTs_len]; exact h) = shfT y ts[j] (c + und k (i + j))
  | k, t :: ts, i, 0, c, h => by simp [shfTs]
  | k, t :: ts, i, j + 1, c, h => by
    simp only [shfTs, List.getElem_cons_succ]
    rw [shfTs_get y (j := j) (by simpa using h), show i + 1 + j = i + (j + 1) by omega]
theorem LiesK.lt {w : World} {b o j : Nat} {ks : List Tr} (h : LiesK w (some ⟨b, o, none⟩) ks) (hj : j < ks.length) : b < w.heap.size := by
  rcases h with h | ⟨b', o', e, hb, -⟩
  · rw [h] at hj; simp at hj
  · cases e; exact hb
theorem take_snoc {l : List Tr} {j : Nat} {t : Tr} (h : j < l.length) (e : l[j] = t) : l.take j ++ [t] = l.take (j + 1) := by rw [← e]; exact List.take_append_getElem h
def l2ShiftC (t : Tr) : Prop := ∀ (w : World) (v : Value) (y c d : Int), shape sigT t d = true → Lies w t v → cnt t ≤ 1000 → 0 ≤ y → y ≤ 1000000 → 0 ≤ c → c + cnt t ≤ 1000000 →
  Calls Tryz.prog 218 #[v, .int .i64 y, .int .i64 c] w fun e w' => ∃ u, e = .returned u ∧ Made w w' 45 (shfT y t c) u ∧ Ext w w'
set_option maxRecDepth 100000 in
set_option maxHeartbeats 2000000 in
theorem l2Shift_any : ∀ t : Tr, l2ShiftC t := Tr.ind fun k n ks hk => by
  intro w v y c d hsh hin hcnt hy0 hy1 hc0 hc1
  obtain ⟨-, hn0, hn1, hsk⟩ := shape_kids' hsh
  have hmost := most_le k
  obtain ⟨A, cap, rfl, hl, hc, hK⟩ := Lies.mk_iff.1 hin
  obtain ⟨i0, hi, hz0, hz1, hz2⟩ := info_parts infoS
  have hcc := hc
  unfold maxLen at hcc
  simp only [cnt] at hcnt hc1
  have hlc := len_le_cnts ks
  obtain ⟨b1, d1⟩ : ∃ b1, (k == 1) = b1 := ⟨_, rfl⟩
  obtain ⟨b2, d2⟩ : ∃ b2, decide (c ≤ n) = b2 := ⟨_, rfl⟩
  obtain ⟨nn, hnn⟩ : ∃ nn, nn = if (b1 && b2) = true then n + y else n := ⟨_, rfl⟩
  obtain ⟨rs, hrs⟩ : ∃ rs, rs = shfTs y k ks 0 c := ⟨_, rfl⟩
  have hres : shfT y (.mk k n ks) c = .mk k nn rs := by
    rw [hnn, hrs, ← d1, ← d2]
    conv => lhs; unfold shfT
    simp
  have hrl : rs.length = ks.length := by rw [hrs, shfTs_len]
  have hget : ∀ j (h : j < ks.length), rs[j]'(by omega) = shfT y ks[j] (c + und k j) := fun j h => by
    subst hrs
    rw [shfTs_get y h, Nat.zero_add]
  rw [hres]
  have HGET := Lib.hid hget
  clear hres hrs hget
  cases b1 with
  | true =>
    obtain rfl : k = 1 := by simpa using d1
    obtain ⟨rfl, -, -⟩ := var_leaf hsh
    obtain rfl : rs = [] := List.eq_nil_of_length_eq_zero (by simpa using hrl)
    cases b2
    all_goals simp only [Bool.and_true, Bool.and_false, if_true, Bool.false_eq_true, if_false] at hnn
    all_goals go_enter Tryz.func218, Tryz.ntmps218
    all_goals go_wp2_with fail
    all_goals refine wp_loop_rounds 1 ?_
    all_goals rw [rounds_succ]
    all_goals go_wp2_with fail
    all_goals exact bodyPost_ret (v := .agg #[.int .i64 1, .int .i64 nn, .slice none 0 0]) (by simp [results, Tryz.results218, go_sem, hnn]) rfl ⟨_, rfl, Made.leaf _ _ _ _ _, (((Ext.refl w).alloc _).alloc _).alloc _⟩
  | false =>
    simp only [Bool.false_and, Bool.false_eq_true, if_false] at hnn
    go_enter Tryz.func218, Tryz.ntmps218
    go_wp2_with fail
    obtain ⟨w1, hw1⟩ : ∃ w1, w1 = (w.alloc (.cells #[.int .i64 k, .int .i64 n, .slice A ks.length cap] 45)).alloc (.cells #[.int .i64 0, .int .i64 0, .slice none 0 0] 45) := ⟨_, rfl⟩
    obtain ⟨W, hW⟩ : ∃ W, W = w1.alloc (.cells #[.int .i64 k, .int .i64 nn, .slice none 0 0] 45) := ⟨_, rfl⟩
    have hs1 : w1.heap.size = w.heap.size + 1 + 1 := by rw [hw1]; simp
    have hsW : W.heap.size = w.heap.size + 3 := by rw [hW]; simp; omega
    have hE1 : Ext w w1 := hw1 ▸ ((Ext.refl w).alloc _).alloc _
    have hEW : Ext w1 W := hW ▸ (Ext.refl w1).alloc _
    have hbR : w1.heap[w.heap.size + 1]? = some (.cells #[.int .i64 0, .int .i64 0, .slice none 0 0] 45 (0, 0)) := by
      rw [hw1]; exact (blk2 (Ext.refl _)).2.1
    have hbO : W.heap[w.heap.size + 1 + 1]? = some (.cells #[.int .i64 k, .int .i64 nn, .slice none 0 0] 45 (0, 0)) := by
      have := heap_alloc_new w1 (.cells #[.int .i64 k, .int .i64 nn, .slice none 0 0] 45)
      rw [hs1] at this
      rw [hW]
      exact this
    have hbT : w1.heap[w.heap.size]? = some (.cells #[.int .i64 k, .int .i64 n, .slice A ks.length cap] 45 (0, 0)) := by
      rw [hw1]; exact (blk2 (Ext.refl _)).1
    rw [hnn] at hW
    rw [← hw1, ← hW]
    clear hW hw1
    go_loopw [8] (fun i wr => ∃ (j : Nat) (v : Value), j ≤ ks.length ∧ i = .int .i64 j ∧ wr.heap[w.heap.size + 1 + 1]? = some (.cells #[.int .i64 k, .int .i64 nn, v] 45 (0, 0)) ∧ Grow W wr 45 v (rs.take j) ∧ Ext w1 wr ∧ W.heap.size ≤ wr.heap.size) (fun i _ => ks.length - (intOf i).toNat)
    case atStart => exact ⟨0, _, Nat.zero_le _, rfl, hbO, Grow.nil _ _ _, hEW, Nat.le_refl _⟩
    case round =>
      obtain ⟨j, v, hj, rfl, hbv, hG, he, hle⟩ := hrel
      by_cases hlt : j < ks.length
      · obtain ⟨b, o, k', n', A', cap', kids, rfl, HK, c0, c1, c2, hkl, hkc, hK', hin', hmem⟩ := hK.get (hE1.trans he) hlt
        have htk := take_snoc (l := rs) (j := j) (by omega) (HGET.out j hlt)
        rw [HK.out] at htk
        have hub := und_le k j
        have hskj := hsk _ hmem
        have hj2 : (j : Int) < (ks.length : Int) := by omega
        obtain ⟨uu, hu⟩ : ∃ u, u = und k j := ⟨_, rfl⟩
        have HU := Lib.hid (fun W => l2Under_any k j W)
        rw [← hu] at HU hub htk
        have HTK := Lib.hid htk
        have HWR := Lib.hid (IntWalk.i64_in (c + uu) ⟨by omega, by omega⟩)
        clear hu htk
        have hcm := cnt_mem hmem
        have hlen : (rs.take j).length < 1099511627776 := by rw [List.length_take]; omega
        have hlj : (rs.take j).length = j := by rw [List.length_take]; omega
        have HL := Lib.hid hlj
        have hbT2 := he.blk hbT
        obtain ⟨t0, -, t2, -, -, -⟩ := own3 hbT2
        have hj' : (j : Int) < (ks.length : Int) := by omega
        go_wp2_with fail
        have hle2 := hle
        have hG2 := hG
        have hbv2 := hbv
        have hv := cell_of_blk hbv2 2
        have hcells : ∀ w', Below W.heap.size wr w' → w'.heap[w.heap.size + 1 + 1]? = some (.cells #[.int .i64 k, .int .i64 nn, v] 45 (0, 0)) := fun w' hB => (hB.block (w.heap.size + 1 + 1) (by omega)).trans hbv2
        have HCells := Lib.hid hcells
        have hEd : Ext wr wr.drew := (Ext.refl wr).drew
        have hinD := hin'.ext hEd
        have he2 := he
        have hbw := hK.lt hlt
        have HS := Lib.hid (show ∀ w', Below (w.heap.size + 1) wr w' → w'.cell? ⟨w.heap.size, 0, none⟩ = some (.int .i64 k) ∧ w'.cell? ⟨w.heap.size, 2, none⟩ = some (.slice (some ⟨b, o, none⟩) ks.length cap) ∧ w'.cell? ⟨b, o + j * 3, none⟩ = some (.int .i64 k') ∧ w'.cell? ⟨b, o + j * 3 + 1, none⟩ = some (.int .i64 n') ∧ w'.cell? ⟨b, o + j * 3 + 2, none⟩ = some (.slice A' kids.length cap') from fun w' hw' =>
          ⟨(hw'.cell (p := ⟨w.heap.size, 0, none⟩) (by show w.heap.size < _; omega)).trans t0, (hw'.cell (p := ⟨w.heap.size, 2, none⟩) (by show w.heap.size < _; omega)).trans t2, (hw'.cell (p := ⟨b, o + j * 3, none⟩) (by show b < _; omega)).trans c0, (hw'.cell (p := ⟨b, o + j * 3 + 1, none⟩) (by show b < _; omega)).trans c1, (hw'.cell (p := ⟨b, o + j * 3 + 2, none⟩) (by show b < _; omega)).trans c2⟩)
        have hBd : Below (w.heap.size + 1) wr wr.drew := (Below.refl _ _).drew
        clear hcells hlj hbv hG he hle hcc
        rw [show Op.load 43 (Operand.tmp 35) = ldO 43 35 from rfl]
        go_region_held_law (fun w' => w'.cell? ⟨w.heap.size, 0, none⟩ = some (.int .i64 k) ∧ w'.cell? ⟨w.heap.size, 2, none⟩ = some (.slice (some ⟨b, o, none⟩) ks.length cap) ∧ w'.cell? ⟨b, o + j * 3, none⟩ = some (.int .i64 k') ∧ w'.cell? ⟨b, o + j * 3 + 1, none⟩ = some (.int .i64 n') ∧ w'.cell? ⟨b, o + j * 3 + 2, none⟩ = some (.slice A' kids.length cap'))
          (first | exact HS.out _ ((hBe.setCell (by show _ ≤ w.heap.size + 1 + 1; omega) _)) | exact HS.out _ hBe | exact HS.out _ (hBc.alloc (by omega) _) | exact HS.out _ hBc | exact HS.out _ hBd)
          (first | (go_simp; go_at_call 128; refine (HU.out _).mono ?_; rintro e wu ⟨rfl, rfl⟩) | (go_simp; go_at_call 218; (try rw [HWR.out]); refine (hk _ hmem _ _ y (c + uu) (d - 1) hskj hinD (by omega) hy0 hy1 (by omega) (by omega)).mono ?_; rintro e w4 ⟨u, rfl, hM, h4⟩; obtain ⟨a1, a2, a3, a4, a5, rfl⟩ := hM.three'; have hv4 := cell_of_blk (HCells.out _ ((hEd.trans h4).below hle2)) 2; have hs4 := World.block_lt_of_cell? _ _ hv4; have hBc : Below (w.heap.size + 1) wr w4 := ((hEd.trans h4).below hle2).mono (by omega)) | (refine step_append_tree _ (by rfl) (.tmp 36) (.tmp 50) _ (by rfl) 45 i0 _ Tryz.underlying43 hi hz0 hz1 hz2 rfl (by rfl) hG2 hle2 (hEd.trans h4) (hM.since (Nat.le_refl _)) ((Ext.refl _).alloc _) (by rfl) (heap_alloc_new _ _) hlen ?_; intro v' w5 hG5 hB5; obtain ⟨B5, c5, rfl, q1, q2, -⟩ := hG5.made; have hv5 := cell_of_blk (HCells.out _ hB5) 2; have hf5 := frozen_of_blk (HCells.out _ hB5) 2; have hBe : Below (w.heap.size + 1) wr w5 := hB5.mono (by omega)))
        all_goals (
          have hE5 : Ext w1 w5 := he2.trans' hB5 (by omega)
          have hs5 := hB5.size
          have hb6 := HCells.out _ hB5
          rw [List.length_append, List.length_singleton, HL.out, HTK.out] at hG5
          have hGs := fun u => hG5.after ((Above.refl W.heap.size w5).setCell (p := ⟨w.heap.size + 1 + 1, 2, none⟩) (by show w.heap.size + 1 + 1 < W.heap.size; omega) u)
          clear hv4 hs4 hv HCells hM h4 c0 c1 c2 t2 t0
          go_wp2_with fail
          go_roundw
          case rel => exact ⟨j + 1, _, by omega, by go_num, blk_setCell hb6 2 _, hGs _, hE5.setCell (by show _ ≤ w.heap.size + 1 + 1; omega) _, by simp; omega⟩
          case measure => simp [intOf]; omega)
      · obtain ⟨B5, c5, rfl, q1, q2, hMK⟩ := hG.made
        have hjl : j = ks.length := by omega
        have hrj : rs.take j = rs := List.take_of_length_le (by omega)
        obtain ⟨r0, r1, r2, -, -, -⟩ := own3 hbv
        have hbT2 := he.blk hbT
        obtain ⟨-, -, t2, -, -, -⟩ := own3 hbT2
        have hbR' := he.blk hbR
        obtain ⟨s0, s1, s2, f0, f1, f2⟩ := own3 hbR'
        rw [hrj] at q1 r2 hMK
        clear hbv
        go_wp2_with fail
        refine bodyPost_ret (v := .agg #[.int .i64 k, .int .i64 nn, .slice B5 rs.length c5]) (by simp [results, Tryz.results218, go_sem, s0, s1, s2, hnn, hrl]) rfl ⟨_, rfl, ?_, ?_⟩
        · exact Made.since (Made.after (Made.mk q1 q2 hMK) ((((Above.refl _ _).setCell (by show w.heap.size + 1 < _; omega) _).setCell (by show w.heap.size + 1 < _; omega) _).setCell (by show w.heap.size + 1 < _; omega) _)) (by omega)
        · exact ((((hE1.trans he).setCell (by simp) _).setCell (by simp) _).setCell (by simp) _)
end Go.Proofs.YtolkohncmidpeaaGreatDoor

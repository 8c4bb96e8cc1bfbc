/-
  Lemmas towards the law, 35: Other, Plc, Redex.
-/
import Derived.Test.YtappakllopkfiaaZAS
import Derived.Test.YtappakllopkfiaaZAT
import Derived.Test.YtappakllopkfiaaZBE
import Derived.Test.YtappakllopkfiaaZBF
import Derived.Test.YtappakllopkfiaaZBG
namespace Go.Proofs.Ytappakllopkfiaa
open Go.RowKit
set_option linter.unusedVariables false
theorem outI_mem : ∀ (s : List Bool) (i : Nat) (x : Int), x ∈ outI s i ↔ ∃ q : Nat, x = ((i + q : Nat) : Int) ∧ s.getD q false = true
  | [], i, x => by simp [outI]
  | b :: s, i, x => by
    have ih := outI_mem s (i + 1) x
    unfold outI
    constructor
    · intro h
      cases b with
      | true =>
        rw [if_pos rfl] at h
        rcases List.mem_cons.1 h with h | h
        · exact ⟨0, by simpa using h, rfl⟩
        · obtain ⟨q, h1, h2⟩ := ih.1 h
          exact ⟨q + 1, by rw [h1]; omega, h2⟩
      | false =>
        rw [if_neg (by decide)] at h
        obtain ⟨q, h1, h2⟩ := ih.1 h
        exact ⟨q + 1, by rw [h1]; omega, h2⟩
    · rintro ⟨q, h1, h2⟩
      match q, h1, h2 with
      | 0, h1, h2 =>
        have hb : b = true := h2
        rw [if_pos hb, h1]
        simp
      | q + 1, h1, h2 =>
        have h3 := ih.2 ⟨q, by rw [h1]; omega, h2⟩
        split
        · exact List.mem_cons_of_mem _ h3
        · exact h3
def natT : Tr := .mk 6 0 []
def zeroT : Tr := .mk 7 0 []
/-- The definitions before number i that are not used are replaced. -/
def repD (us : List Int) (ks : List Tr) : Nat → List Tr
  | 0 => ks
  | i + 1 => if (i : Int) ∈ us then repD us ks i else ((repD us ks i).set (i * 2) natT).set (i * 2 + 1) zeroT
theorem repD_len (us : List Int) (ks : List Tr) : ∀ i, (repD us ks i).length = ks.length
  | 0 => rfl
  | i + 1 => by
    unfold repD
    split
    · exact repD_len us ks i
    · simp [repD_len us ks i]
theorem repD_body (us : List Int) (ks : List Tr) (q : Nat) (h : (q : Int) ∈ us) : ∀ i, bodyD (repD us ks i) q = bodyD ks q
  | 0 => rfl
  | i + 1 => by
    unfold repD
    split
    · exact repD_body us ks q h i
    · rename_i hn
      have hne : i ≠ q := fun e => hn (e ▸ h)
      rw [← repD_body us ks q h i]
      unfold bodyD
      simp only [List.getD_eq_getElem?_getD]
      rw [List.getElem?_set_ne (by omega), List.getElem?_set_ne (by omega)]
theorem udFacts {t x y : Tr} {ks : List Tr} {n : Nat} (hn : ks.length = n * 2) (h1 : unfV ks n t = (x, true)) (h2 : unfV (repD (usedV ks n t) ks n) n t = (y, true)) : x = y := by
  have hp : dfV ks n = true ∧ valid sigT t = true ∧ mxf t 0 ≤ (n : Int) ∧ unfD ks n t = (x, true) := by
    unfold unfV at h1
    split at h1
    · rename_i hh
      simp only [Bool.and_eq_true, decide_eq_true_eq] at hh
      exact ⟨hh.1, hh.2.1, hh.2.2, h1⟩
    · cases h1
  have hq : unfD (repD (usedV ks n t) ks n) n t = (y, true) := by
    unfold unfV at h2
    split at h2
    · exact h2
    · cases h2
  obtain ⟨d1, d2, d3, d4⟩ := hp
  have hu : usedV ks n t = outI (usD ks n (markF (fvs t 0) n (List.replicate n false))) 0 := by
    unfold usedV
    rw [d1, d2, decide_eq_true d3]
    rfl
  have hd : dvs ks 0 = true := by unfold dfV at d1; rw [Bool.and_eq_true] at d1; exact d1.1
  have key := unfD_used ks (repD (usedV ks n t) ks n) n t (markF (fvs t 0) n (List.replicate n false)) (by rw [markF_len]; simp) ?_ ?_ ?_
  · rw [hq, d4] at key
    exact (congrArg Prod.fst key).symm
  · intro i hi
    have hm := fvs_mem t 0 30 i (valid_parts d2).1 (by omega) hi
    exact ⟨hm.1, by omega, markF_mark _ _ _ _ hi (by simp; omega)⟩
  · intro i hi z hz
    have hb := dvs_body hd i (by omega)
    unfold bodyD at hz
    rw [List.getD_eq_getElem?_getD, List.getElem?_eq_getElem (by omega)] at hz
    have hm := fvs_mem _ 0 30 z (valid_parts hb.1).1 (by omega) hz
    have h5 := hb.2
    have h6 : z < mxf (ks[i * 2 + 1]'(by omega)) 0 := hm.2.2
    exact ⟨hm.1, by omega⟩
  · intro q hq1 hq2
    refine repD_body _ ks q ?_ n
    rw [hu]
    exact (outI_mem _ 0 _).2 ⟨q, by simp, hq2⟩
/-- v is a slice of n definitions with a row of the call's own; the trees may be shared. -/
def GrowE (base : Nat) (w : World) (e : TypeId) (v : Value) (ks : List Tr) (n : Nat) : Prop :=
  ks.length = n * 2 ∧ ∃ xs, w.ownsRow base e 6 v n xs ∧ RowL w (fun b => b < w.heap.size ∧ v.ownBlock ≠ some b) xs ks
theorem GrowE.ext {base : Nat} {w w' : World} {e : TypeId} {v : Value} {ks : List Tr} {n : Nat} (h : GrowE base w e v ks n) (he : Ext w w') : GrowE base w' e v ks n := by
  obtain ⟨h0, xs, h1, h2⟩ := h
  exact ⟨h0, xs, ownsRow_same6 h1 (fun g hg => he.heap g (h1.lt g hg).2), h2.mono (fun b hb => ⟨Nat.lt_of_lt_of_le hb.1 he.size, hb.2⟩) (fun b hb => he.heap b hb.1)⟩
theorem GrowE.slice {base : Nat} {w : World} {e : TypeId} {v : Value} {ks : List Tr} {n : Nat} (h : GrowE base w e v ks n) : ∃ A cap, v = .slice A n cap ∧ n ≤ cap ∧ cap ≤ maxLen ∧ LiesK w A ks := by
  obtain ⟨h0, xs, h1, h2⟩ := h
  rcases h1.2 with ⟨rfl, h3⟩ | ⟨g, cap, cur, rfl, hb, hg, hnc, hcm, hcs, ht⟩
  · have : ks = [] := List.eq_nil_of_length_eq_zero (by omega)
    subst this
    exact ⟨none, 0, by rw [h3], by omega, Nat.zero_le _, .inl rfl⟩
  · refine ⟨_, cap, rfl, hnc, hcm, .inr ⟨g, 0, rfl, lt_of_blk hg, ?_⟩⟩
    have h3 := RowL.tail (cur.toList.drop (n * 6)) (h2.mono (S' := fun b => b < w.heap.size) (fun b hb => hb.1) (fun _ _ => rfl))
    rw [← ht, List.take_append_drop] at h3
    exact RowL.inL hg (pre := []) h3 (by simp)
theorem GrowE.row {base : Nat} {w : World} {e : TypeId} {v : Value} {ks : List Tr} {n : Nat} (h : GrowE base w e v ks n) (hn : 0 < n) : ∃ g cap, v = .slice (some ⟨g, 0, none⟩) n cap ∧ base ≤ g ∧ g < w.heap.size ∧ n ≤ cap ∧ cap ≤ maxLen ∧
    ∀ j, j < n * 6 → ∃ x, w.cell? ⟨g, j, none⟩ = some x ∧ w.frozen? ⟨g, j, none⟩ = false := by
  obtain ⟨h0, xs, h1, h2⟩ := h
  rcases h1.2 with ⟨rfl, h3⟩ | ⟨g, cap, cur, rfl, hb, hg, hnc, hcm, hcs, ht⟩
  · omega
  · exact ⟨g, cap, rfl, hb, lt_of_blk hg, hnc, hcm, fun j hj => ⟨cur[j]'(by rw [hcs]; omega), by rw [cell_of_blk hg]; exact Array.getElem?_eq_getElem _, frozen_of_blk hg _⟩⟩
theorem GrowE.set {base : Nat} {w : World} {e : TypeId} {g cap n j : Nat} {ks : List Tr} {t : Tr} {v0 v1 v2 : Value} (h : GrowE base w e (.slice (some ⟨g, 0, none⟩) n cap) ks n) (hj : j < ks.length)
    (ht : InT w (fun b => b < w.heap.size ∧ b ≠ g) t (.agg #[v0, v1, v2])) :
    GrowE base (((w.setCell ⟨g, j * 3, none⟩ v0).setCell ⟨g, j * 3 + 1, none⟩ v1).setCell ⟨g, j * 3 + 2, none⟩ v2) e (.slice (some ⟨g, 0, none⟩) n cap) (ks.set j t) n := by
  obtain ⟨h0, xs, h1, h2⟩ := h
  rcases h1.2 with ⟨h3, h4⟩ | ⟨g', cap', cur, he, hb, hg, hnc, hcm, hcs, htk⟩
  · rw [h4] at h0; omega
  · simp only [Value.slice.injEq, Option.some.injEq, Addr.mk.injEq, and_true, true_and] at he
    obtain ⟨rfl, rfl⟩ := he
    have q1 := blk_setCell (blk_setCell (blk_setCell hg (j * 3) v0) (j * 3 + 1) v1) (j * 3 + 2) v2
    have q2 : ∀ b, b ≠ g → (((w.setCell ⟨g, j * 3, none⟩ v0).setCell ⟨g, j * 3 + 1, none⟩ v1).setCell ⟨g, j * 3 + 2, none⟩ v2).heap[b]? = w.heap[b]? := fun b hne => by
      rw [Below.heap_setCell _ _ _ _ hne, Below.heap_setCell _ _ _ _ hne, Below.heap_setCell _ _ _ _ hne]
    refine ⟨by simpa using h0, ((xs.set (j * 3) v0).set (j * 3 + 1) v1).set (j * 3 + 2) v2, ⟨by simpa using h1.1, .inr ⟨g, cap, _, rfl, hb, q1, hnc, hcm, by simpa using hcs, ?_⟩⟩, ?_⟩
    · simp only [Array.toList_setIfInBounds, List.take_set, htk]
    · have hmn : RowL (((w.setCell ⟨g, j * 3, none⟩ v0).setCell ⟨g, j * 3 + 1, none⟩ v1).setCell ⟨g, j * 3 + 2, none⟩ v2) (fun b => b < (((w.setCell ⟨g, j * 3, none⟩ v0).setCell ⟨g, j * 3 + 1, none⟩ v1).setCell ⟨g, j * 3 + 2, none⟩ v2).heap.size ∧ (Value.slice (some ⟨g, 0, none⟩) n cap).ownBlock ≠ some b) xs ks :=
        h2.mono (fun b hb => ⟨by simpa using hb.1, hb.2⟩) (fun b hb => q2 b (fun he => hb.2 (by rw [he]; rfl)))
      refine RowL.set (InT.mono (fun b hb => ⟨by simpa using hb.1, fun he => hb.2 (by simpa [Value.ownBlock] using he.symm)⟩) (fun b hb => q2 b hb.2) ht) j hmn
theorem leafIn (w : World) (S : Nat → Prop) (k n : Int) : InT w S (.mk k n []) (.agg #[.int .i64 k, .int .i64 n, .slice none 0 0]) := InT.mk_iff.2 ⟨none, 0, rfl, Nat.le_refl _, Nat.zero_le _, .inl rfl⟩
/-- 'append([]Def{}, list...)'. -/
theorem wpList_append_defs {P : Program} (w : World) {ops : Array Oper} {rest : List Oper} {o : Oper} {a : Act} {Q : Exit → Act → World → Prop} (hgd : o.guard = none) (s x : Operand) (t : TypeId)
    (ho : o.op = .call { callee := .builtin .append, args := #[s, x], argTypes := #[t, t] })
    (e : TypeId) (i : TypeInfo) (z : Value) (ht : P.underlying t = some (.slice e)) (hi : P.info? e = some i) (hz : i.zero = some z) (hsize : i.size = 6) (hby : i.bytes = 80) (hzs : z.cells.size = 6)
    {B : Nat} {v : Value} {A : Option Addr} {n cap : Nat} {ks : List Tr} (hs : a.eval s = v) (hown : w.ownsRow B e 6 v 0 []) (hB : B ≤ w.heap.size) (hx : a.eval x = .slice A n cap) (hcap : A = none → cap = 0) (hK : InK w (fun b => b < B) A ks) (hks : ks.length = n * 2) (hn : n ≤ 1000)
    (h : ∀ v' w', GrowE B w' e v' ks n → Below B w w' → wpList P ops Q rest (a.put o.dst v') w') : wpList P ops Q (o :: rest) a w := by
  refine wpList_plain hgd fun K hK' => ?_
  have key : ∃ v' w', (Builtin.append_ #[t, t] o.type #[v, .slice A n cap]).run P w = .ok v' w' ∧ GrowE B w' e v' ks n ∧ Below B w w' := by
    cases A with
    | none =>
      obtain rfl := hcap rfl
      have hnil : ks = [] := by
        rcases hK with h | ⟨b, o, h, _⟩
        · exact h
        · cases h
      subst hnil
      have hn0 : n = 0 := by simp at hks; omega
      subst hn0
      exact ⟨v, w, run_append_owned_none (P := P) w B t o.type e i 6 ht hi v 0 [] hown, ⟨rfl, [], hown, RowL.nil⟩, Below.refl _ _⟩
    | some ad =>
      have hb : ∀ (news : List Value), news.length = n * 6 → (∀ j u, news[j]? = some u → w.cell? (ad.add j) = some u) → (∀ u ∈ news, u.oneCell' = true) → RowL w (fun b => b < B) news ks →
          ∃ v' w', (Builtin.append_ #[t, t] o.type #[v, .slice (some ad) n cap]).run P w = .ok v' w' ∧ GrowE B w' e v' ks n ∧ Below B w w' := by
        intro news n1 n2 n3 n4
        obtain ⟨v', w', hr, r1, r2, r3⟩ := run_append_own' (P := P) w B t o.type e i z 6 80 ht hi hz hsize hby hzs (by decide) v 0 [] hown ad n cap news n1 n2 n3 (by unfold maxLen; omega) (by omega) hB
        have hBl : Below B w w' := ⟨r2.os, r2.tape, r2.output, r2.size, fun b hb => r2.block b (by omega) (fun he => by have := (hown.lt b he.symm).1; omega)⟩
        rw [Nat.zero_add] at r1
        refine ⟨v', w', hr, ⟨hks, news, by simpa using r1, n4.mono (fun b hb => ⟨by have := hBl.size; omega, fun he => ?_⟩) (fun b hb => hBl.block b hb)⟩, hBl⟩
        have := (r1.lt b he).1
        omega
      rcases hK with rfl | ⟨b, o, hab, hb', hl⟩
      · have hn0 : n = 0 := by simp at hks; omega
        subst hn0
        exact hb [] rfl (fun _ _ h => by cases h) (fun _ h => by cases h) RowL.nil
      · obtain rfl := Option.some.inj hab
        obtain ⟨xs, n1, n2, n3, n4⟩ := hl.rowL
        exact hb xs (by rw [n1, hks]; omega) (fun j u hu => by rw [Addr.add_lit]; exact n2 j u hu) n3 n4
  obtain ⟨v', w', hr, r1, r2⟩ := key
  unfold Oper.wp execOp
  simp only [ho, resolve, invoke, builtin, Sem.run_bind, Sem.run_pure, Result.andThen_ok, List.map_toArray, List.map_cons, List.map_nil, hs, hx, hr]
  exact hK' _ _ (h v' w' r1 r2)
end Go.Proofs.Ytappakllopkfiaa
namespace Go.Proofs.Ytappakllopkfiaa
set_option linter.unusedVariables false
/-- Is this node a redex? -/
def isRdx (t : Tr) : Bool := rdxT t != 0
/-- The part of a tree at a place. -/
def atT : Tr → List Int → Option Tr
  | t, [] => some t
  | .mk _ _ ks, i :: r => if 0 ≤ i ∧ i < ks.length then atT (kd ks i.toNat) r else none
theorem kd_cons (t : Tr) (ts : List Tr) (i : Nat) : kd (t :: ts) (i + 1) = kd ts i := rfl
theorem kd_mem {ks : List Tr} {i : Nat} (h : i < ks.length) : kd ks i ∈ ks := by
  unfold kd
  rw [List.getD_eq_getElem?_getD, List.getElem?_eq_getElem h]
  exact List.getElem_mem h
/-- Each step keeps the shape. -/
theorem atT_shape {g : Sig} : ∀ (a : List Int) (t u : Tr) (d : Int), shape g t d = true → atT t a = some u → shape g u (d - a.length) = true
  | [], t, u, d, h, e => by
    have e : t = u := by cases t; simpa [atT] using e
    subst e
    simpa using h
  | i :: a, .mk k n ks, u, d, h, e => by
    rw [atT] at e
    split at e
    · rename_i hi
      have h1 := (shape_kids h).2.2.2 (kd ks i.toNat) (kd_mem (by omega))
      have := atT_shape a _ u (d - 1) h1 e
      rw [List.length_cons, show d - ((a.length + 1 : Nat) : Int) = d - 1 - a.length by omega]
      exact this
    · cases e
theorem shape_pos' {g : Sig} {t : Tr} {d : Int} (h : shape g t d = true) : 1 ≤ d := by
  obtain ⟨k, n, ks⟩ := t
  simp only [shape, Bool.and_eq_true, decide_eq_true_eq] at h
  exact h.1
mutual
def outT : Tr → Option (List Int)
  | .mk k n ks => if rdx k ks = 0 then outTs 0 ks else some []
def outTs : Nat → List Tr → Option (List Int)
  | _, [] => none
  | i, t :: ts => match outT t with
    | some p => some ((i : Int) :: p)
    | none => outTs (i + 1) ts
end
mutual
theorem outT_nrm : ∀ t : Tr, (outT t).isSome = !nrm t
  | .mk k n ks => by
    rw [outT, nrm]
    by_cases h : rdx k ks = 0
    · rw [if_pos h, outTs_nrm ks 0]
      simp [h]
    · rw [if_neg h]
      simp [h]
theorem outTs_nrm : ∀ (ks : List Tr) (i : Nat), (outTs i ks).isSome = !nrms ks
  | [], i => by rw [outTs, nrms]; rfl
  | t :: ts, i => by
    have h := outT_nrm t
    rw [outTs, nrms]
    cases e : outT t with
    | some p => rw [e] at h; simp at h; simp [h]
    | none => rw [e] at h; simp at h; simp [h, outTs_nrm ts (i + 1)]
end
theorem outT_len : ∀ (t : Tr) (d : Int), shape sigT t d = true → ∀ p, outT t = some p → (p.length : Int) ≤ d := Tr.ind fun k n ks hk => by
  intro d h p e
  have hd := shape_pos' h
  rw [outT] at e
  split at e
  · have key : ∀ (i : Nat) (ts : List Tr), (∀ t ∈ ts, t ∈ ks) → outTs i ts = some p → (p.length : Int) ≤ d := by
      intro i ts
      induction ts generalizing i with
      | nil => intro _ h; rw [outTs] at h; cases h
      | cons t ts ih =>
        intro hm h1
        rw [outTs] at h1
        cases e2 : outT t with
        | some q =>
          rw [e2] at h1
          simp only [Option.some.injEq] at h1
          subst h1
          have := hk t (hm t (by simp)) (d - 1) ((shape_kids h).2.2.2 t (hm t (by simp))) q e2
          simp only [List.length_cons]
          omega
        | none =>
          rw [e2] at h1
          exact ih (i + 1) (fun t ht => hm t (by simp [ht])) h1
    exact key 0 ks (fun _ h => h) e
  · simp only [Option.some.injEq] at e
    subst e
    simp
    omega
end Go.Proofs.Ytappakllopkfiaa
namespace Go.Proofs.Ytappakllopkfiaa
open Go.RowKit
set_option linter.unusedVariables false
theorem kinds16 {k n : Int} {ks : List Tr} {d : Int} (h : shape sigT (.mk k n ks) d = true) : (opsT k = (ks.length : Int)) ∧ (k = 1 ∨ k = 2 ∨ k = 3 ∨ k = 4 ∨ k = 5 ∨ k = 6 ∨ k = 7 ∨ k = 8 ∨ k = 9 ∨ k = 10 ∨ k = 11 ∨ k = 12 ∨ k = 13 ∨ k = 14 ∨ k = 15 ∨ k = 16) := by
  obtain ⟨h1, h2, h3, h4⟩ := shape_kids h
  simp only [sigT] at h1
  have hr : 1 ≤ k ∧ k ≤ 16 := by
    by_cases h : 1 ≤ k ∧ k ≤ 16
    · exact h
    · exfalso
      unfold opsT at h1
      rw [if_neg (by omega), if_neg (by omega), if_neg (by omega), if_neg (by omega), if_neg (by omega), if_neg (by omega), if_neg (by omega), if_neg (by omega), if_neg (by omega), if_neg (by omega), if_neg (by omega), if_neg (by omega), if_neg (by omega), if_neg (by omega), if_neg (by omega), if_neg (by omega)] at h1
      omega
  exact ⟨h1, by omega⟩
theorem kd_of {ks : List Tr} {j : Nat} {t : Tr} (hj : j < ks.length) (h : ks[j] = t) : kd ks j = t := by
  unfold kd
  rw [List.getD_eq_getElem?_getD, List.getElem?_eq_getElem hj]
  exact h
set_option maxRecDepth 100000 in
set_option maxHeartbeats 1000000 in
theorem redex_any (t : Tr) (d : Int) (hsh : shape sigT t d = true) (w : World) (v : Value) (hin : Lies w t v) : Calls Try.prog 88 #[v] w fun e w' => e = .returned (.int .i64 (rdxT t)) ∧ Ext w w' := by
  obtain ⟨k, n, ks⟩ := t
  obtain ⟨A, cap, rfl, hl, hc, hK⟩ := Lies.mk_iff.1 hin
  obtain ⟨hops, hk⟩ := kinds16 hsh
  unfold maxLen at hc
  clear hsh hin
  rcases hk with rfl | rfl | rfl | rfl | rfl | rfl | rfl | rfl | rfl | rfl | rfl | rfl | rfl | rfl | rfl | rfl
  · rw [show rdxT (.mk 1 n ks) = 0 from rfl]
    clear hops hK
    go_enter Try.func88, Try.ntmps88
    go_wp2_with fail
    go_ret
    exact ⟨rfl, (Ext.refl _).alloc _⟩
  · rw [show rdxT (.mk 2 n ks) = 0 from rfl]
    clear hops hK
    go_enter Try.func88, Try.ntmps88
    go_wp2_with fail
    go_ret
    exact ⟨rfl, (Ext.refl _).alloc _⟩
  · rw [show rdxT (.mk 3 n ks) = 0 from rfl]
    clear hops hK
    go_enter Try.func88, Try.ntmps88
    go_wp2_with fail
    go_ret
    exact ⟨rfl, (Ext.refl _).alloc _⟩
  · rw [show rdxT (.mk 4 n ks) = 0 from rfl]
    clear hops hK
    go_enter Try.func88, Try.ntmps88
    go_wp2_with fail
    go_ret
    exact ⟨rfl, (Ext.refl _).alloc _⟩
  · have hlen : ks.length = 2 := by have : (2 : Int) = (ks.length : Int) := hops; omega
    have hlt : (0 : Int) < (ks.length : Int) := by omega
    obtain ⟨b, o, k', n', A', cap', kids, rfl, hid, c0, c1, c2, -, -, -, -, -⟩ := hK.get ((Ext.refl w).alloc (.cells #[.int .i64 5, .int .i64 n, .slice A ks.length cap] 44)) (j := 0) (by omega)
    simp only [Nat.zero_mul, Nat.add_zero] at c0
    clear c1 c2
    have hkd : kd ks 0 = .mk k' n' kids := kd_of (by omega) hid.out
    have hR : rdxT (.mk 5 n ks) = if k' = 4 then 1 else 0 := by show rdx 5 ks = _; unfold rdx; rw [hkd]; rfl
    rw [hR]
    clear hR hkd hid hops hK hlen
    by_cases e4 : k' = 4
    · subst e4
      rw [if_pos rfl]
      go_enter Try.func88, Try.ntmps88
      go_wp2_with fail
      go_ret
      exact ⟨rfl, (Ext.refl _).alloc _⟩
    have d4 : (k' == 4) = false := beq_eq_false_iff_ne.2 e4
    rw [if_neg e4]
    go_enter Try.func88, Try.ntmps88
    go_wp2_with fail
    go_ret
    exact ⟨rfl, (Ext.refl _).alloc _⟩
  · rw [show rdxT (.mk 6 n ks) = 0 from rfl]
    clear hops hK
    go_enter Try.func88, Try.ntmps88
    go_wp2_with fail
    go_ret
    exact ⟨rfl, (Ext.refl _).alloc _⟩
  · rw [show rdxT (.mk 7 n ks) = 0 from rfl]
    clear hops hK
    go_enter Try.func88, Try.ntmps88
    go_wp2_with fail
    go_ret
    exact ⟨rfl, (Ext.refl _).alloc _⟩
  · rw [show rdxT (.mk 8 n ks) = 0 from rfl]
    clear hops hK
    go_enter Try.func88, Try.ntmps88
    go_wp2_with fail
    go_ret
    exact ⟨rfl, (Ext.refl _).alloc _⟩
  · have hlen : ks.length = 4 := by have : (4 : Int) = (ks.length : Int) := hops; omega
    have hlt : (3 : Int) < (ks.length : Int) := by omega
    obtain ⟨b, o, k', n', A', cap', kids, rfl, hid, c0, c1, c2, -, -, -, -, -⟩ := hK.get ((Ext.refl w).alloc (.cells #[.int .i64 9, .int .i64 n, .slice A ks.length cap] 44)) (j := 3) (by omega)
    simp only [Nat.reduceMul] at c0
    clear c1 c2
    have hkd : kd ks 3 = .mk k' n' kids := kd_of (by omega) hid.out
    have hR : rdxT (.mk 9 n ks) = if k' = 7 then 2 else if k' = 8 then 3 else 0 := by show rdx 9 ks = _; unfold rdx; rw [hkd]; rfl
    rw [hR]
    clear hR hkd hid hops hK hlen
    by_cases e7 : k' = 7
    · subst e7
      rw [if_pos rfl]
      go_enter Try.func88, Try.ntmps88
      go_wp2_with fail
      go_ret
      exact ⟨rfl, (Ext.refl _).alloc _⟩
    by_cases e8 : k' = 8
    · subst e8
      rw [if_neg (by decide), if_pos rfl]
      go_enter Try.func88, Try.ntmps88
      go_wp2_with fail
      go_ret
      exact ⟨rfl, (Ext.refl _).alloc _⟩
    have d7 : (k' == 7) = false := beq_eq_false_iff_ne.2 e7
    have d8 : (k' == 8) = false := beq_eq_false_iff_ne.2 e8
    rw [if_neg e7, if_neg e8]
    go_enter Try.func88, Try.ntmps88
    go_wp2_with fail
    go_ret
    exact ⟨rfl, (Ext.refl _).alloc _⟩
  · rw [show rdxT (.mk 10 n ks) = 0 from rfl]
    clear hops hK
    go_enter Try.func88, Try.ntmps88
    go_wp2_with fail
    go_ret
    exact ⟨rfl, (Ext.refl _).alloc _⟩
  · rw [show rdxT (.mk 11 n ks) = 0 from rfl]
    clear hops hK
    go_enter Try.func88, Try.ntmps88
    go_wp2_with fail
    go_ret
    exact ⟨rfl, (Ext.refl _).alloc _⟩
  · have hlen : ks.length = 3 := by have : (3 : Int) = (ks.length : Int) := hops; omega
    have hlt : (1 : Int) < (ks.length : Int) := by omega
    obtain ⟨b, o, k', n', A', cap', kids, rfl, hid, c0, c1, c2, -, -, -, -, -⟩ := hK.get ((Ext.refl w).alloc (.cells #[.int .i64 12, .int .i64 n, .slice A ks.length cap] 44)) (j := 1) (by omega)
    simp only [Nat.reduceMul] at c0
    clear c1 c2
    have hkd : kd ks 1 = .mk k' n' kids := kd_of (by omega) hid.out
    have hR : rdxT (.mk 12 n ks) = if k' = 11 then 4 else 0 := by show rdx 12 ks = _; unfold rdx; rw [hkd]; rfl
    rw [hR]
    clear hR hkd hid hops hK hlen
    by_cases e11 : k' = 11
    · subst e11
      rw [if_pos rfl]
      go_enter Try.func88, Try.ntmps88
      go_wp2_with fail
      go_ret
      exact ⟨rfl, (Ext.refl _).alloc _⟩
    have d11 : (k' == 11) = false := beq_eq_false_iff_ne.2 e11
    rw [if_neg e11]
    go_enter Try.func88, Try.ntmps88
    go_wp2_with fail
    go_ret
    exact ⟨rfl, (Ext.refl _).alloc _⟩
  · rw [show rdxT (.mk 13 n ks) = 0 from rfl]
    clear hops hK
    go_enter Try.func88, Try.ntmps88
    go_wp2_with fail
    go_ret
    exact ⟨rfl, (Ext.refl _).alloc _⟩
  · rw [show rdxT (.mk 14 n ks) = 0 from rfl]
    clear hops hK
    go_enter Try.func88, Try.ntmps88
    go_wp2_with fail
    go_ret
    exact ⟨rfl, (Ext.refl _).alloc _⟩
  · have hlen : ks.length = 1 := by have : (1 : Int) = (ks.length : Int) := hops; omega
    have hlt : (0 : Int) < (ks.length : Int) := by omega
    obtain ⟨b, o, k', n', A', cap', kids, rfl, hid, c0, c1, c2, -, -, -, -, -⟩ := hK.get ((Ext.refl w).alloc (.cells #[.int .i64 15, .int .i64 n, .slice A ks.length cap] 44)) (j := 0) (by omega)
    simp only [Nat.zero_mul, Nat.add_zero] at c0
    clear c1 c2
    have hkd : kd ks 0 = .mk k' n' kids := kd_of (by omega) hid.out
    have hR : rdxT (.mk 15 n ks) = if k' = 14 then 5 else 0 := by show rdx 15 ks = _; unfold rdx; rw [hkd]; rfl
    rw [hR]
    clear hR hkd hid hops hK hlen
    by_cases e14 : k' = 14
    · subst e14
      rw [if_pos rfl]
      go_enter Try.func88, Try.ntmps88
      go_wp2_with fail
      go_ret
      exact ⟨rfl, (Ext.refl _).alloc _⟩
    have d14 : (k' == 14) = false := beq_eq_false_iff_ne.2 e14
    rw [if_neg e14]
    go_enter Try.func88, Try.ntmps88
    go_wp2_with fail
    go_ret
    exact ⟨rfl, (Ext.refl _).alloc _⟩
  · have hlen : ks.length = 1 := by have : (1 : Int) = (ks.length : Int) := hops; omega
    have hlt : (0 : Int) < (ks.length : Int) := by omega
    obtain ⟨b, o, k', n', A', cap', kids, rfl, hid, c0, c1, c2, -, -, -, -, -⟩ := hK.get ((Ext.refl w).alloc (.cells #[.int .i64 16, .int .i64 n, .slice A ks.length cap] 44)) (j := 0) (by omega)
    simp only [Nat.zero_mul, Nat.add_zero] at c0
    clear c1 c2
    have hkd : kd ks 0 = .mk k' n' kids := kd_of (by omega) hid.out
    have hR : rdxT (.mk 16 n ks) = if k' = 14 then 6 else 0 := by show rdx 16 ks = _; unfold rdx; rw [hkd]; rfl
    rw [hR]
    clear hR hkd hid hops hK hlen
    by_cases e14 : k' = 14
    · subst e14
      rw [if_pos rfl]
      go_enter Try.func88, Try.ntmps88
      go_wp2_with fail
      go_ret
      exact ⟨rfl, (Ext.refl _).alloc _⟩
    have d14 : (k' == 14) = false := beq_eq_false_iff_ne.2 e14
    rw [if_neg e14]
    go_enter Try.func88, Try.ntmps88
    go_wp2_with fail
    go_ret
    exact ⟨rfl, (Ext.refl _).alloc _⟩
end Go.Proofs.Ytappakllopkfiaa

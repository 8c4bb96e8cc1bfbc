/-
  Lemmas towards the law, 31: CtxI.
-/
import Derived.Test.YtappakllopkfiaaCAV
import Derived.Test.YtappakllopkfiaaCBC
import Derived.Test.YtappakllopkfiaaCBD
namespace Go.Proofs.Ytappakllopkfiaa
open Go.RowKit
set_option linter.unusedVariables false
attribute [local go_sem ↓] Go.wp_at_zero Go.wp_at_succ
/-- At most eight terms, all valid. -/
def fitsC (ks : List Tr) : Bool := decide (ks.length ≤ 8) && !ks.any (fun t => !valid sigT t)
/-- The context of a place. -/
def ctxV (ctx : List Tr) (t : Tr) (p : List Int) : List Tr × Bool :=
  if (fitsC ctx && (atV t p).2 && decide (ctx.length + (bndT t p).length ≤ 8)) = true then (ctx ++ bndT t p, true) else ([], false)
theorem fitsC_mem {ks : List Tr} (h : fitsC ks = true) : ks.length ≤ 8 ∧ ∀ t ∈ ks, valid sigT t = true := by
  unfold fitsC at h
  rw [Bool.and_eq_true, decide_eq_true_eq] at h
  refine ⟨h.1, fun t ht => ?_⟩
  have h2 := h.2
  simp only [Bool.not_eq_true', List.any_eq_false] at h2
  simpa using h2 t ht
theorem bndT_cnt : ∀ (p : List Int) (t x : Tr), x ∈ bndT t p → cnt x ≤ cnt t
  | [], t, x, h => by
    obtain ⟨k, n, ks⟩ := t
    rw [bndT] at h
    simp at h
  | i :: q, .mk k n ks, x, h => by
    rw [bndT_step] at h
    split at h
    · rename_i hi
      have hkd : ∀ j, j < ks.length → cnt (kd ks j) ≤ cnt (.mk k n ks) := fun j hj => by
        have h1 : kd ks j = ks[j] := kd_of hj rfl
        have h2 := cnt_mem (List.getElem_mem hj)
        rw [h1, cnt]
        omega
      rcases List.mem_append.1 h with h | h
      · split at h
        · rw [List.mem_singleton.1 h]
          exact hkd 0 (by omega)
        · simp at h
      · exact Nat.le_trans (bndT_cnt q _ x h) (hkd _ (by omega))
    · simp at h
theorem bndT_len : ∀ (p : List Int) (t : Tr), (bndT t p).length ≤ p.length
  | [], t => by
    obtain ⟨k, n, ks⟩ := t
    rw [bndT]
    simp
  | i :: q, .mk k n ks => by
    rw [bndT_step]
    split
    · have := bndT_len q (kd ks i.toNat)
      rw [List.length_append, List.length_cons]
      split <;> simp <;> omega
    · simp
theorem GrowO.lies {W w : World} {e : TypeId} {v : Value} {ks : List Tr} (h : GrowO W w e v ks) (hW : W.heap.size ≤ w.heap.size) : ∃ A cap, v = .slice A ks.length cap ∧ ks.length ≤ cap ∧ cap ≤ maxLen ∧ LiesK w A ks := by
  obtain ⟨xs, h1, h2⟩ := h
  rcases h1.2 with ⟨rfl, h0⟩ | ⟨g, cap, cur, rfl, hb, hg, hnc, hcm, hcs, ht⟩
  · have : ks = [] := List.eq_nil_of_length_eq_zero h0
    subst this
    exact ⟨none, 0, rfl, Nat.le_refl _, Nat.zero_le _, .inl rfl⟩
  · refine ⟨_, cap, rfl, hnc, hcm, .inr ⟨g, 0, rfl, lt_of_blk hg, ?_⟩⟩
    have h3 := RowL.tail (cur.toList.drop (ks.length * 3)) (h2.mono (S' := fun b => b < w.heap.size) (fun b hb => Nat.lt_of_lt_of_le hb hW) (fun _ _ => rfl))
    rw [← ht, List.take_append_drop] at h3
    exact RowL.inL hg (pre := []) h3 (by simp)
/-- append of a slice of trees to one that was built. -/
theorem wpList_append_trees {P : Program} (w : World) {ops : Array Oper} {rest : List Oper} {o : Oper} {a : Act} {Q : Exit → Act → World → Prop} (hgd : o.guard = none) (s x : Operand) (t : TypeId)
    (ho : o.op = .call { callee := .builtin .append, args := #[s, x], argTypes := #[t, t] })
    (e : TypeId) (i : TypeInfo) (z : Value) (ht : P.underlying t = some (.slice e)) (hi : P.info? e = some i) (hz : i.zero = some z) (hsize : i.size = 3) (hby : i.bytes = 40) (hzs : z.cells.size = 3)
    {X : Nat → Prop} {W : World} {v : Value} {ks ts : List Tr} {A : Option Addr} {cap : Nat} (hs : a.eval s = v) (hG : GrowS X W w e v ks) (hW : W.heap.size ≤ w.heap.size)
    (hA : A = none → cap = 0) (hT : InK w (fun b => b < w.heap.size ∧ v.ownBlock ≠ some b ∧ ¬ X b) A ts)
    (hx : a.eval x = .slice A ts.length cap) (hn : ks.length < 1000) (hm : ts.length < 1000)
    (h : ∀ v' w', GrowS X W w' e v' (ks ++ ts) → Below W.heap.size w w' → wpList P ops Q rest (a.put o.dst v') w') : wpList P ops Q (o :: rest) a w := by
  refine wpList_plain hgd fun K hK => ?_
  obtain ⟨xs, h1, h2⟩ := hG
  unfold Oper.wp execOp
  have hcase : (∃ a0, A = some a0) ∨ ts = [] ∧ A = none := by
    cases A with
    | some a0 => exact .inl ⟨a0, rfl⟩
    | none =>
      rcases hT with h | ⟨b, ox, h, -⟩
      · exact .inr ⟨h, rfl⟩
      · cases h
  rcases hcase with ⟨a0, rfl⟩ | ⟨rfl, rfl⟩
  · obtain ⟨ys, n1, n2, n3, n4⟩ : ∃ ys : List Value, ys.length = ts.length * 3 ∧ (∀ j u, ys[j]? = some u → w.cell? (a0.add j) = some u) ∧ (∀ u ∈ ys, u.oneCell' = true) ∧ RowL w (fun b => b < w.heap.size ∧ v.ownBlock ≠ some b ∧ ¬ X b) ys ts := by
      rcases hT with rfl | ⟨b, ox, he, hb, hin⟩
      · exact ⟨[], rfl, (fun j u h => by simp at h), (fun u h => by simp at h), RowL.nil⟩
      · cases he
        obtain ⟨ys, n1, n2, n3, n4⟩ := hin.rowL
        exact ⟨ys, n1, fun j u hu => by rw [Addr.add_lit]; exact n2 j u hu, n3, n4⟩
    obtain ⟨v', w', hr, r1, r2, r3⟩ := run_append_own' (P := P) w W.heap.size t o.type e i z 3 40 ht hi hz hsize hby hzs (by decide) v ks.length xs h1 a0 ts.length cap ys n1 n2 n3 (by unfold maxLen; omega) (by omega) hW
    have hB : Below W.heap.size w w' := ⟨r2.os, r2.tape, r2.output, r2.size, fun b hb => r2.block b (by omega) (fun he => by have := (h1.lt b he.symm).1; omega)⟩
    have hS : ∀ b, b < w.heap.size ∧ v.ownBlock ≠ some b ∧ ¬ X b → b < w'.heap.size ∧ v'.ownBlock ≠ some b ∧ ¬ X b := fun b hb => by
      refine ⟨Nat.lt_of_lt_of_le hb.1 r2.size, fun he => ?_, hb.2.2⟩
      rcases r3 b he with h4 | h4
      · exact hb.2.1 h4
      · omega
    have hw : ∀ b, b < w.heap.size ∧ v.ownBlock ≠ some b ∧ ¬ X b → w'.heap[b]? = w.heap[b]? := fun b hb => r2.block b hb.1 (fun he => hb.2.1 he.symm)
    have hG' : GrowS X W w' e v' (ks ++ ts) := ⟨_, by rw [List.length_append]; exact r1, RowL.append (n4.mono hS hw) h1.1 (h2.mono hS hw)⟩
    simp only [ho, resolve, invoke, builtin, Sem.run_bind, Sem.run_pure, Result.andThen_ok, List.map_toArray, List.map_cons, List.map_nil, hs, hx, hr]
    exact hK _ _ (h v' w' hG' hB)
  · obtain rfl := hA rfl
    have hr := run_append_owned_none (P := P) (w := w) W.heap.size t o.type e i 3 ht hi v ks.length xs h1
    rw [List.length_nil] at hx
    simp only [ho, resolve, invoke, builtin, Sem.run_bind, Sem.run_pure, Result.andThen_ok, List.map_toArray, List.map_cons, List.map_nil, hs, hx, hr]
    refine hK _ _ (h v w ?_ (Below.refl _ _))
    rw [List.append_nil]
    exact ⟨xs, h1, h2⟩
theorem GrowS.capz {X : Nat → Prop} {W w : World} {e : TypeId} {n c : Nat} {ks : List Tr} (h : GrowS X W w e (.slice none n c) ks) : c = 0 := by
  obtain ⟨xs, h1, -⟩ := h
  rcases h1.2 with ⟨h, -⟩ | ⟨g, cap, cur, h, -⟩
  · cases h; rfl
  · cases h
theorem infoTermC : (Try.prog.info? 44).map (fun i => (i.zero, i.size, i.bytes)) = some (some (.agg #[.int .i64 0, .int .i64 0, .slice none 0 0]), 3, 40) := by kernel_rfl
theorem areTerms1 (t : Tr) (w : World) (v : Value) (hin : Lies w t v) : Calls Try.prog 162 #[v] w fun e w' => e = .returned (.bool (!valid sigT t)) ∧ Ext w w' := by
  have HV := Lib.hid (fun W (hW : Ext w W) => validTerm_any t W v (hin.ext hW))
  obtain ⟨k, n, ks⟩ := t
  obtain ⟨A, cap, rfl, hl, hc, hK⟩ := Lies.mk_iff.1 hin
  go_enter Try.func162, Try.ntmps162
  go_wp2_with fail
  refine (HV.out _ ((Ext.refl w).alloc _)).mono ?_
  rintro e w1 ⟨rfl, h1⟩
  go_wp2_with fail
  go_ret
  exact ⟨rfl, h1.pre⟩
set_option maxHeartbeats 400000 in
theorem index_arT (ks : List Tr) (w : World) (A : Option Addr) (cap : Nat) (hl : ks.length ≤ cap) (hc : cap ≤ maxLen) (h : LiesK w A ks) :
    Calls Try.prog 189 #[.slice A ks.length cap, .func (.func 162) #[] #[]] w fun e w' => e = .returned (.int .i64 (firstIx (fun t => !valid sigT t) ks 0)) ∧ Ext w w' := by
  obtain ⟨p, hp⟩ : ∃ p : Tr → Bool, p = fun t => !valid sigT t := ⟨_, rfl⟩
  have hf : ∀ t ∈ ks, ∀ w' v, Ext w w' → Lies w' t v → Calls Try.prog 162 #[v] w' fun e w'' => e = .returned (.bool (p t)) ∧ Ext w' w'' := fun t _ w' v _ hv => by rw [hp]; exact areTerms1 t w' v hv
  rw [← hp]
  clear hp
  unfold maxLen at hc
  go_enter Try.func189, Try.ntmps189
  go_wp2_with fail
  go_loopw [8] (fun i wr => ∃ j : Nat, j ≤ ks.length ∧ i = .int .i64 j ∧ firstIx p ks 0 = firstIx p (ks.drop j) j ∧ Ext w wr) (fun i _ => ks.length - (intOf i).toNat)
  case atStart => exact ⟨0, Nat.zero_le _, rfl, rfl, Ext.refl _⟩
  case round =>
    obtain ⟨j, hj, rfl, heq, hx⟩ := hrel
    have HE := Lib.hid heq
    clear heq
    by_cases hlt : j < ks.length
    · obtain ⟨b, o, k, n, A', cap', kids, rfl, HK, c0, c1, c2, hkl, hkc, hK, hin, hmem⟩ := h.get hx hlt
      have hst : firstIx p (ks.drop j) j = if p (.mk k n kids) = true then (j : Int) else firstIx p (ks.drop (j + 1)) (j + 1) := by
        rw [List.drop_eq_getElem_cons hlt, HK.out]; conv => lhs; unfold firstIx
      have HF := Lib.hid (hf _ hmem)
      clear hf
      go_wp2_with fail
      refine (HF.out wr _ hx hin).mono ?_
      rintro e w1 ⟨rfl, h1⟩
      generalize p (.mk k n kids) = r at hst
      cases r with
      | true =>
        rw [if_pos rfl] at hst
        have HT := Lib.hid hst
        clear hst
        go_wp2_with fail
        go_ret
        exact ⟨by rw [HE.out, HT.out]; rfl, hx.trans h1⟩
      | false =>
        rw [if_neg (by decide)] at hst
        have HT := Lib.hid hst
        clear hst
        go_wp2_with fail
        go_roundw
        case rel => exact ⟨j + 1, by omega, by go_num, by rw [HE.out, HT.out], hx.trans h1⟩
        case measure => simp [intOf]; omega
    · go_wp2_with fail
      go_ret
      exact ⟨by rw [HE.out, List.drop_of_length_le (by omega)]; rfl, hx⟩
theorem areTerms_any (ks : List Tr) (w : World) (A : Option Addr) (cap : Nat) (hl : ks.length ≤ cap) (hc : cap ≤ maxLen) (h : LiesK w A ks) :
    Calls Try.prog 99 #[.slice A ks.length cap] w fun e w' => e = .returned (.bool (fitsC ks)) ∧ Ext w w' := by
  have hC : Calls Try.prog 161 #[.slice A ks.length cap, .func (.func 162) #[] #[]] w fun e w' => e = .returned (.bool (ks.any (fun t => !valid sigT t))) ∧ Ext w w' := by
    have HI := Lib.hid (index_arT ks w A cap hl hc h)
    have HB := Lib.hid (firstIx_spec (fun t => !valid sigT t) ks 0)
    go_enter Try.func161, Try.ntmps161
    go_wp2_with fail
    refine HI.out.mono ?_
    rintro e w1 ⟨rfl, h1⟩
    go_wp2_with fail
    go_ret
    exact ⟨by rw [← HB.out]; rfl, h1⟩
  have HC := Lib.hid hC
  have he : fitsC ks = (decide (ks.length ≤ 8) && !ks.any (fun t => !valid sigT t)) := rfl
  clear hC
  by_cases h8 : ks.length ≤ 8
  · rw [decide_eq_true h8, Bool.true_and] at he
    have d : decide ((ks.length : Int) ≤ 8) = true := decide_eq_true (by omega)
    have HE := Lib.hid he
    clear he
    go_enter Try.func99, Try.ntmps99
    go_wp2_with fail
    refine HC.out.mono ?_
    rintro e w1 ⟨rfl, h1⟩
    generalize ks.any (fun t => !valid sigT t) = r at HE
    go_wp2_with fail
    go_ret
    exact ⟨by rw [HE.out]; simp, h1⟩
  · rw [decide_eq_false h8, Bool.false_and] at he
    have d : decide ((ks.length : Int) ≤ 8) = false := decide_eq_false (by omega)
    have HE := Lib.hid he
    clear he
    go_enter Try.func99, Try.ntmps99
    go_wp2_with fail
    go_ret
    exact ⟨by rw [HE.out]; rfl, Ext.refl _⟩
set_option maxRecDepth 100000 in
set_option maxHeartbeats 1000000 in
theorem ownAll_any (ks : List Tr) (w : World) (A : Option Addr) (cap : Nat) (h : LiesK w A ks) (hl : ks.length ≤ cap) (hc : cap ≤ maxLen) (hn : ks.length < 1000) (hcn : ∀ t ∈ ks, cnt t ≤ 1000000) :
    Calls Try.prog 100 #[.slice A ks.length cap] w fun e w' => ∃ v, e = .returned v ∧ Grow w w' 44 v ks ∧ Ext w w' := by
  obtain ⟨i0, hi, hz0, hz1, hz2⟩ := info_parts infoTermC
  have hcc := hc
  unfold maxLen at hcc
  have HCN := Lib.hid hcn
  clear hcn
  go_enter Try.func100, Try.ntmps100
  go_wp2_with fail
  go_loopw [3, 8] (fun v i wr => ∃ (j : Nat), j ≤ ks.length ∧ i = .int .i64 j ∧ Grow w wr 44 v (ks.take j) ∧ Ext w wr) (fun _ i _ => ks.length - (intOf i).toNat)
  case atStart => exact ⟨0, Nat.zero_le _, rfl, Grow.nil _ _ _, Ext.refl _⟩
  case round =>
    obtain ⟨j, hj, rfl, hG, hx⟩ := hrel
    by_cases hlt : j < ks.length
    · obtain ⟨b, o, k1, n1, A1, p1, kids1, rfl, HK1, c0, c1, c2, l1, m1, hK1, hin1, hmem1⟩ := h.get hx hlt
      have hj' : (j : Int) < (ks.length : Int) := by omega
      have hl6 : w.heap.size ≤ wr.heap.size := hx.size
      have htk := List.take_append_getElem hlt
      rw [HK1.out] at htk
      have HTK := Lib.hid htk
      have hlen : (ks.take j).length = j := by rw [List.length_take]; omega
      have HLEN := Lib.hid hlen
      clear htk hlen
      go_wp2_with fail
      have hE := (Ext.refl wr).alloc (.cells #[.int .i64 k1, .int .i64 n1, .slice A1 kids1.length p1] 44)
      refine (own_any _ _ _ (hin1.ext hE) (by have := HCN.out _ hmem1; omega)).mono ?_
      rintro e w2 ⟨u, rfl, hM, e2⟩
      obtain ⟨a1, a2, a3, a4, a5, rfl⟩ := hM.three'
      clear c0 c1 c2
      go_wp2_with (at_builtin; refine wpList_append_tree _ (by rfl) (.tmp 12) (.tmp 15) _ (by rfl) 44 i0 _ Try.underlying42 hi hz0 hz1 hz2 rfl (by rfl) hG hx.size (hE.trans e2) (hM.since (by have := hE.size; omega)) ((Ext.refl _).alloc _) (by rfl) (heap_alloc_new _ _) (by rw [HLEN.out]; omega) ?_)
      intro v' w5 hG5 hB5
      obtain ⟨B5, c5, rfl, q1, q2, -⟩ := hG5.made
      rw [HTK.out] at hG5
      go_wp2_with fail
      go_roundw
      case rel => exact ⟨j + 1, by omega, by go_num, by simpa [HTK.out] using hG5, hx.trans' hB5 (Nat.le_refl _)⟩
      case measure => simp [intOf]; omega
    · obtain ⟨B5, c5, rfl, q1, q2, hM⟩ := hG.made
      have hjl : ks.take j = ks := List.take_of_length_le (by omega)
      rw [hjl] at hG
      go_wp2_with fail
      go_ret
      exact ⟨_, rfl, by simpa [hjl] using hG, hx⟩
end Go.Proofs.Ytappakllopkfiaa

/-
  Lemmas towards the law, 34: DefO, PTerm.
-/
import Derived.Test.YtolkohncmidpeaaGreatDoorGAW
import Derived.Test.YtolkohncmidpeaaGreatDoorGAX
import Derived.Test.YtolkohncmidpeaaGreatDoorGBG
namespace Go.Proofs.YtolkohncmidpeaaGreatDoor
open Go.RowKit
set_option linter.unusedVariables false
/-- v is a slice of n definitions that was built by append since W; nothing is shared. -/
def GrowB (W w : World) (e eT : TypeId) (v : Value) (ks : List Tr) (n : Nat) : Prop :=
  ks.length = n * 2 ∧ ∃ xs L, w.ownsRow W.heap.size e 6 v n xs ∧ OwnL w eT xs ks L ∧ Fresh W w L ∧ ∀ g, v.ownBlock = some g → ¬ g ∈ L
theorem GrowB.nil (W w : World) (e eT : TypeId) : GrowB W w e eT (.slice none 0 0) [] 0 :=
  ⟨rfl, [], [], World.ownsRow_nil _ _ _ _, OwnL.nil, Fresh.nil _ _, fun _ _ h => by cases h⟩
theorem GrowB.ext {W w w' : World} {e eT : TypeId} {v : Value} {ks : List Tr} {n : Nat} (h : GrowB W w e eT v ks n) (he : Ext w w') : GrowB W w' e eT v ks n := by
  obtain ⟨h0, xs, L, h1, h2, h3, h4⟩ := h
  exact ⟨h0, xs, L, ownsRow_same6 h1 (fun g hg => he.heap g (h1.lt g hg).2), h2.mono (fun b hm => he.heap b (h3.2 b hm).2), h3.mono (Nat.le_refl _) he.size, h4⟩
theorem GrowB.made {W w : World} {e eT : TypeId} {v : Value} {ks : List Tr} {n : Nat} (h : GrowB W w e eT v ks n) : ∃ A cap, v = .slice A n cap ∧ n ≤ cap ∧ cap ≤ maxLen ∧ MadeD W w e eT A ks := by
  obtain ⟨h0, xs, L, h1, h2, h3, h4⟩ := h
  rcases h1.2 with ⟨rfl, hn⟩ | ⟨g, cap, cur, rfl, hb, hg, hnc, hcm, hcs, ht⟩
  · subst hn
    have : ks = [] := List.eq_nil_of_length_eq_zero (by omega)
    subst this
    exact ⟨none, 0, rfl, Nat.le_refl _, Nat.zero_le _, [], .inl ⟨rfl, rfl⟩, Fresh.nil _ _⟩
  · refine ⟨_, cap, rfl, hnc, hcm, g :: L, .inr ⟨g, cur, L, rfl, hg, rfl, ?_⟩, List.nodup_cons.2 ⟨h4 g rfl, h3.1⟩, fun b hm => ?_⟩
    · have := OwnL.tail (cur.toList.drop (n * 6)) h2
      rw [← ht, List.take_append_drop] at this
      exact this
    · rcases List.mem_cons.1 hm with rfl | hm
      · exact ⟨hb, lt_of_blk hg⟩
      · exact h3.2 b hm
theorem two_oneCell {w w' : World} {e : TypeId} {t u : Tr} {v0 v1 v2 v3 v4 v5 : Value} (h : MadeL w w' e [v0, v1, v2, v3, v4, v5] [t, u]) : ∀ x ∈ [v0, v1, v2, v3, v4, v5], x.oneCell' = true := by
  obtain ⟨L, h, hf⟩ := h
  obtain ⟨a0, a1, a2, r1, L1, L2, e1, h1, h2, rfl⟩ := OwnL.cons_iff.1 h
  obtain ⟨b0, b1, b2, r2, M1, M2, e2, h3, h4, rfl⟩ := OwnL.cons_iff.1 h2
  simp only [List.cons.injEq] at e1
  obtain ⟨rfl, rfl, rfl, rfl⟩ := e1
  simp only [List.cons.injEq] at e2
  obtain ⟨rfl, rfl, rfl, rfl⟩ := e2
  have q1 := made_oneCell (w := w) (w' := w') ⟨L1, h1, (List.nodup_append.1 hf.1).1, fun b hb => hf.2 b (by simp [hb])⟩
  have q2 := made_oneCell (w := w) (w' := w') ⟨M1, h3, by have := (List.nodup_append.1 hf.1).2.1; exact (List.nodup_append.1 this).1, fun b hb => hf.2 b (by simp [hb])⟩
  intro x hx
  simp only [List.mem_cons, List.not_mem_nil, or_false] at hx
  rcases hx with rfl | rfl | rfl | rfl | rfl | rfl
  · exact q1 _ (by simp)
  · exact q1 _ (by simp)
  · exact q1 _ (by simp)
  · exact q2 _ (by simp)
  · exact q2 _ (by simp)
  · exact q2 _ (by simp)
theorem wpList_append_defB {P : Program} (w : World) {ops : Array Oper} {rest : List Oper} {o : Oper} {a : Act} {Q : Exit → Act → World → Prop} (hgd : o.guard = none) (s x : Operand) (t : TypeId)
    (ho : o.op = .call { callee := .builtin .append, args := #[s, x], argTypes := #[t, t] })
    (e eT : TypeId) (i : TypeInfo) (z : Value) (ht : P.underlying t = some (.slice e)) (hi : P.info? e = some i) (hz : i.zero = some z) (hsize : i.size = 6) (hby : i.bytes = 80) (hzs : z.cells.size = 6)
    {W wr w1 : World} {v : Value} {ks : List Tr} {n : Nat} {t1 t2 : Tr} {v0 v1 v2 v3 v4 v5 : Value} {gx : Nat} (hs : a.eval s = v) (hG : GrowB W wr e eT v ks n) (hW : W.heap.size ≤ wr.heap.size) (hE1 : Ext wr w1) (hM : MadeL wr w1 eT [v0, v1, v2, v3, v4, v5] [t1, t2]) (hE2 : Ext w1 w)
    (hx : a.eval x = .slice (some ⟨gx, 0, none⟩) 1 1) (hgx : w.heap[gx]? = some (.cells #[v0, v1, v2, v3, v4, v5] e (0, 0))) (hn : n < 1099511627776)
    (h : ∀ v' w', GrowB W w' e eT v' (ks ++ [t1, t2]) (n + 1) → Below W.heap.size wr w' → Hid (∀ (b : Nat) (cs : Array Value) (e' : TypeId), w.heap[b]? = some (Obj.cells cs e' (0, 0)) → e' ≠ e → w'.heap[b]? = some (Obj.cells cs e' (0, 0))) → wpList P ops Q rest (a.put o.dst v') w') : wpList P ops Q (o :: rest) a w := by
  refine wpList_plain hgd fun K hK => ?_
  obtain ⟨h0, xs, L, h1, h2, h3, h4⟩ := hG
  have s1 := hE1.size
  have s2 := hE2.size
  have hone := two_oneCell hM
  have hown : w.ownsRow W.heap.size e 6 v n xs := ownsRow_same6 h1 (fun g hg => (hE1.trans hE2).heap g (h1.lt g hg).2)
  obtain ⟨v', w', hr, r1, r2, r3⟩ := run_append_own' (P := P) w W.heap.size t o.type e i z 6 80 ht hi hz hsize hby hzs (by decide) v n xs hown ⟨gx, 0, none⟩ 1 1 [v0, v1, v2, v3, v4, v5] rfl (row6_cells hgx) hone (by unfold maxLen; omega) (by omega) (by omega)
  obtain ⟨M, hM, hFM⟩ := hM
  have keep : ∀ b, b < w1.heap.size → (v.ownBlock ≠ some b) → w'.heap[b]? = w1.heap[b]? := fun b hb hne => (r2.block b (by omega) (fun h => hne h.symm)).trans (hE2.heap b hb)
  have hvo : ∀ g, v.ownBlock = some g → ¬ g ∈ L ∧ g < wr.heap.size ∧ W.heap.size ≤ g := fun g hg => ⟨h4 g hg, (h1.lt g hg).2, (h1.lt g hg).1⟩
  unfold Oper.wp execOp
  simp only [ho, resolve, invoke, builtin, Sem.run_bind, Sem.run_pure, Result.andThen_ok, List.map_toArray, List.map_cons, List.map_nil, hs, hx, hr]
  refine hK _ _ (h v' w' ⟨by simp [h0]; omega, _, L ++ M, r1, OwnL.append (hM.mono fun b hb => keep b (hFM.2 b hb).2 fun he => ?_) (by rw [h1.1, h0]; omega) (h2.mono fun b hb => (keep b (by have := (h3.2 b hb).2; omega) fun he => ?_).trans (hE1.heap b (h3.2 b hb).2)), ?_, fun g hg hm => ?_⟩ ?_ (Lib.hid fun b cs e' hb hne => (r2.block b (lt_of_blk hb) fun hv => ?_).trans hb))
  · have := (hvo b he).2.1
    have := (hFM.2 b hb).1
    omega
  · exact (hvo b he).1 hb
  · have h5 := h3.append (d := w1) hFM (Nat.le_refl _) hW hE1.size
    exact h5.mono (Nat.le_refl _) (by have := r2.size; omega)
  · rcases r3 g hg with h | h
    · rcases List.mem_append.1 hm with hm | hm
      · exact (hvo g h).1 hm
      · have := (hvo g h).2.1
        have := (hFM.2 g hm).1
        omega
    · rcases List.mem_append.1 hm with hm | hm
      · have := (h3.2 g hm).2
        omega
      · have := (hFM.2 g hm).2
        omega
  · refine ⟨r2.os.trans (hE2.os.trans hE1.os), r2.tape.trans (hE2.tape.trans hE1.tape), r2.output.trans (hE2.output.trans hE1.output), by have := r2.size; omega, fun b hb => ?_⟩
    exact (keep b (by omega) (fun he => by have := (hvo b he).2.2; omega)).trans (hE1.heap b (by omega))
  · rcases hown.2 with ⟨h5, -⟩ | ⟨g, c, cur, h5, -, hg, -⟩
    · rw [h5] at hv; simp [Value.ownBlock] at hv
    · rw [h5] at hv
      simp only [Value.ownBlock, Option.some.injEq] at hv
      subst hv
      rw [hg] at hb
      simp only [Option.some.injEq, Obj.cells.injEq] at hb
      exact hne hb.2.1.symm
end Go.Proofs.YtolkohncmidpeaaGreatDoor
namespace Go.Proofs.YtolkohncmidpeaaGreatDoor
open Go.RowKit
set_option linter.unusedVariables false
attribute [local go_sem ↓] Go.wp_at_zero Go.wp_at_succ
theorem rdV_cases (l : List UInt8) {t : Tr} {y : List UInt8} {ok : Bool} (h : rdT 30 l = (t, y, ok)) : rdV l = if ok = true ∧ y = [] ∧ valid sigT t = true ∧ fmtL t = l then some t else none := by
  unfold rdV
  rw [h]
set_option maxRecDepth 100000 in
set_option maxHeartbeats 4000000 in
theorem parseTermI_any (l : List UInt8) (hl : l.length ≤ 1000000000) (w : World) (hW : EnvR w) : Calls Tryz.prog 41 #[.string (ofL l)] w fun e w' => ∃ u, e = .returned (.tuple #[u, .bool (prsV l).isSome]) ∧ Made w w' 45 ((prsV l).getD dflt0) u ∧ Ext w w' := by
  rw [← rdV_eq]
  have HR := Lib.hid (fun W (hx : Ext w W) => readTerm_any 30 (by omega) 1 l W rfl (hW.ext hx) hl)
  obtain ⟨⟨t, y, ok⟩, hF⟩ : ∃ x, rdT 30 l = x := ⟨_, rfl⟩
  have hV := rdV_cases l hF
  rw [hF] at HR
  obtain ⟨R, hR⟩ : ∃ R, rdV l = R := ⟨_, rfl⟩
  rw [hR] at hV ⊢
  have hFl := hF
  clear hR
  have hx0 := (Ext.refl w).alloc (.cells #[.int .i64 0, .int .i64 0, .slice none 0 0] 45)
  obtain ⟨s, hs⟩ : ∃ s, s = ofL l := ⟨_, rfl⟩
  have hsl : s.toList = l := by rw [hs, ofL_tl]
  have HV := Lib.hid hV
  rw [← hs] at HR ⊢
  clear hF hFl hV hs
  have fail : R = none → True := fun _ => trivial
  cases ok with
  | false =>
    have hn : R = none := by rw [HV.out, if_neg (by simp)]
    subst hn
    go_enter Tryz.func41, Tryz.ntmps41
    go_wp2_with fail
    refine (HR.out _ hx0).mono ?_
    rintro e w1 ⟨u, rfl, hM, h1⟩
    obtain ⟨b1, b2, b3, b4, b5, rfl⟩ := hM.three
    have hb := (blk1 h1).1
    have hx1 := hx0.trans h1
    obtain ⟨y0, y1, y2, f0, f1, f2⟩ := own3 ((((Ext.refl w1).alloc (.cells #[.int .i64 b1, .int .i64 b2, .slice b3 b4 b5] 45))).blk hb)
    go_wp2_with fail
    refine bodyPost_ret (v := .tuple #[.agg #[.int .i64 0, .int .i64 0, .slice none 0 0], .bool false]) (by simp [results, Tryz.results41, go_sem, y0, y1, y2]) rfl ⟨_, rfl, Made.leaf _ _ _ 0 0, ?_⟩
    exact (((hx1.alloc _).setCell (by simp) _).setCell (by simp) _).setCell (by simp) _
  | true =>
    go_enter Tryz.func41, Tryz.ntmps41
    go_wp2_with fail
    refine (HR.out _ hx0).mono ?_
    rintro e w1 ⟨u, rfl, hM, h1⟩
    obtain ⟨k, n, ks⟩ := t
    obtain ⟨A, cap, rfl, hkl, hkc, hMK⟩ := Made.mk_iff.1 hM
    have hb := (blk1 h1).1
    have hsz := h1.size
    have hx1 := hx0.trans h1
    have hx2 : Ext w (w1.alloc (.cells #[.int .i64 k, .int .i64 n, .slice A ks.length cap] 45)) := hx1.alloc _
    have hb2 := ((Ext.refl w1).alloc (.cells #[.int .i64 k, .int .i64 n, .slice A ks.length cap] 45)).blk hb
    have hbn := heap_alloc_new w1 (.cells #[.int .i64 k, .int .i64 n, .slice A ks.length cap] 45)
    cases y with
    | cons c y =>
      have hye : (ofL (c :: y)).toList.isEmpty = false := by rw [ofL_tl]; rfl
      have hn : R = none := by rw [HV.out, if_neg (by simp)]
      subst hn
      obtain ⟨y0, y1, y2, f0, f1, f2⟩ := own3 hb2
      go_wp2_with fail
      refine bodyPost_ret (v := .tuple #[.agg #[.int .i64 0, .int .i64 0, .slice none 0 0], .bool false]) (by simp [results, Tryz.results41, go_sem, y0, y1, y2]) rfl ⟨_, rfl, Made.leaf _ _ _ 0 0, ?_⟩
      exact ((hx2.setCell (by simp) _).setCell (by simp) _).setCell (by simp) _
    | nil =>
      have hye : (ofL []).toList.isEmpty = true := by rw [ofL_tl]; rfl
      have HVT := Lib.hid (fun W (hW : Ext w1 W) => validTerm_any (.mk k n ks) W _ (hM.lies.ext hW))
      cases hz : valid sigT (.mk k n ks) with
      | false =>
        have hn : R = none := by rw [HV.out, if_neg (by simp [hz])]
        subst hn
        rw [hz] at HVT
        clear hz
        obtain ⟨z0, z1, z2, e0, e1, e2⟩ := own3 hbn
        go_wp2_with fail
        refine (HVT.out _ ((Ext.refl w1).alloc _)).mono ?_
        rintro e w3 ⟨rfl, h3⟩
        obtain ⟨y0, y1, y2, f0, f1, f2⟩ := own3 (h3.blk hb2)
        go_wp2_with fail
        refine bodyPost_ret (v := .tuple #[.agg #[.int .i64 0, .int .i64 0, .slice none 0 0], .bool false]) (by simp [results, Tryz.results41, go_sem, y0, y1, y2]) rfl ⟨_, rfl, Made.leaf _ _ _ 0 0, ?_⟩
        exact (((hx2.trans h3).setCell (by simp) _).setCell (by simp) _).setCell (by simp) _
      | true =>
        obtain ⟨q1, q2⟩ := valid_parts hz
        have HTT := Lib.hid (fun W (hX : Ext w1 W) => termText_any (.mk k n ks) W _ 30 ((hW.ext (hx1.trans hX)).1) q1 (by omega) (hM.lies.ext hX))
        obtain ⟨x, hx⟩ : ∃ x, fmtL (.mk k n ks) = x := ⟨_, rfl⟩
        rw [hx] at HTT
        have hVV := HV.out
        rw [hx, hz] at hVV
        rw [hz] at HVT
        by_cases hxl : x = l
        · have hn : R = some (.mk k n ks) := by rw [hVV, if_pos (by simp [hxl])]
          have heq : ((ofL x).toList == s.toList) = true := by rw [hxl, hsl, ofL_tl]; simp
          subst hn
          clear hz hVV hx HV hxl hsl
          obtain ⟨z0, z1, z2, e0, e1, e2⟩ := own3 hbn
          go_wp2_with fail
          refine (HVT.out _ ((Ext.refl w1).alloc _)).mono ?_
          rintro e w3 ⟨rfl, h3⟩
          obtain ⟨z0, z1, z2, e0, e1, e2⟩ := own3 (h3.blk hbn)
          go_wp2_with fail
          refine (HTT.out _ (((Ext.refl w1).alloc _).trans h3)).mono ?_
          rintro e w4 ⟨rfl, h4⟩
          have h34 := h3.trans h4
          have hs34 := h34.size
          obtain ⟨y0, y1, y2, f0, f1, f2⟩ := own3 (h34.blk hb2)
          obtain ⟨z0, z1, z2, e0, e1, e2⟩ := own3 (h34.blk hbn)
          go_wp2_with fail
          refine bodyPost_ret (v := .tuple #[.agg #[.int .i64 k, .int .i64 n, .slice A ks.length cap], .bool true]) (by simp [results, Tryz.results41, go_sem, y0, y1, y2]) rfl ⟨_, rfl, Made.since (w := w.alloc (.cells #[.int .i64 0, .int .i64 0, .slice none 0 0] 45)) ((hM.ext (((Ext.refl w1).alloc _).trans h34)).after ((((Above.refl _ _).setCell (p := ⟨w.heap.size, 0, none⟩) (by simp) _).setCell (p := ⟨w.heap.size, 1, none⟩) (by simp) _).setCell (p := ⟨w.heap.size, 2, none⟩) (by simp) _)) (by simp), ?_⟩
          exact (((hx2.trans h34).setCell (by simp) _).setCell (by simp) _).setCell (by simp) _
        · have hn : R = none := by rw [hVV, if_neg (fun h => hxl h.2.2.2)]
          have heq : ((ofL x).toList == s.toList) = false := by rw [hsl, ofL_tl]; exact beq_eq_false_iff_ne.2 hxl
          subst hn
          clear hz hVV hx HV hxl hsl
          obtain ⟨z0, z1, z2, e0, e1, e2⟩ := own3 hbn
          go_wp2_with fail
          refine (HVT.out _ ((Ext.refl w1).alloc _)).mono ?_
          rintro e w3 ⟨rfl, h3⟩
          obtain ⟨z0, z1, z2, e0, e1, e2⟩ := own3 (h3.blk hbn)
          go_wp2_with fail
          refine (HTT.out _ (((Ext.refl w1).alloc _).trans h3)).mono ?_
          rintro e w4 ⟨rfl, h4⟩
          have h34 := h3.trans h4
          have hs34 := h34.size
          obtain ⟨y0, y1, y2, f0, f1, f2⟩ := own3 (h34.blk hb2)
          go_wp2_with fail
          refine bodyPost_ret (v := .tuple #[.agg #[.int .i64 0, .int .i64 0, .slice none 0 0], .bool false]) (by simp [results, Tryz.results41, go_sem, y0, y1, y2]) rfl ⟨_, rfl, Made.leaf _ _ _ 0 0, ?_⟩
          exact (((hx2.trans h34).setCell (by simp) _).setCell (by simp) _).setCell (by simp) _
end Go.Proofs.YtolkohncmidpeaaGreatDoor

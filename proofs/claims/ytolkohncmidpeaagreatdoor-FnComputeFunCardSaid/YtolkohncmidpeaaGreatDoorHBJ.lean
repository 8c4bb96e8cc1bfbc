/-
  Lemmas towards the law, 36: ReadT.
-/
import Derived.Test.YtolkohncmidpeaaGreatDoorHAG
import Derived.Test.YtolkohncmidpeaaGreatDoorHAQ
import Derived.Test.YtolkohncmidpeaaGreatDoorHBI
namespace Go.Proofs.YtolkohncmidpeaaGreatDoor
open Go.RowKit
set_option linter.unusedVariables false
attribute [local go_sem ↓] Go.wp_at_zero Go.wp_at_succ
theorem kindAt_any (l : List UInt8) (w : World) : Calls Tryz.prog 120 #[.string (ofL l)] w fun e w' => e = .returned (.int .i64 (khd l)) ∧ Ext w w' := by
  cases l with
  | nil => exact kindAt_nil w
  | cons b r => exact kindAt_cons (ofL (b :: r)) b r (ofL_list _) w
theorem khd_range (l : List UInt8) : khd l = -1 ∨ (1 ≤ khd l ∧ khd l ≤ 16 ∧ l ≠ []) := by
  cases l with
  | nil => exact .inl rfl
  | cons b r =>
    by_cases h : khd (b :: r) = -1
    · exact .inl h
    · refine .inr ?_
      simp only [khd] at h ⊢
      refine ⟨?_, ?_, by simp⟩ <;> (repeat' split) <;> first | omega | (rename_i hh; simp_all)
/-- strings.CutPrefix in this repo's words. -/
theorem cutPrefix_any (l p : List UInt8) (w : World) : Calls Tryz.prog 122 #[.string (ofL l), .string (ofL p)] w fun e w' => e = .returned (.tuple #[.string (ofL (Lib.trimPrefix l p)), .bool (Lib.hasPrefix l p)]) ∧ w' = w := by
  have h := Tryz.strings_CutPrefix (ofL l) (ofL p) w
  rw [ofL_list, ofL_list] at h
  exact h
theorem trim_len (l p : List UInt8) : (Lib.trimPrefix l p).length ≤ l.length := by
  unfold Lib.trimPrefix
  split <;> simp
theorem infoTermR : (Tryz.prog.info? 45).map (fun i => (i.zero, i.size, i.bytes)) = some (some (.agg #[.int .i64 0, .int .i64 0, .slice none 0 0]), 3, 40) := by kernel_rfl
theorem rdN_len (l : List UInt8) : (rdN l).2.length ≤ l.length := by
  unfold rdN
  split <;> simp
theorem rdL_len (f : List UInt8 → Tr × List UInt8 × Bool) (hf : ∀ l, (f l).2.1.length ≤ l.length) (par : Bool) : ∀ (b : Bool) (ps : List (List UInt8)) (k : Int) (ks : List Tr) (y : List UInt8) (ok : Bool), (rdL f par b ps k ks y ok).2.1.length ≤ y.length
  | b, [], k, ks, y, ok => by unfold rdL; exact Nat.le_refl _
  | b, p :: ps, k, ks, y, ok => by
    unfold rdL
    split
    · split
      · split
        · exact Nat.le_trans (rdL_len f hf par _ _ _ _ _ _) (Nat.le_trans (trim_len _ _) (hf y))
        · exact Nat.le_trans (rdL_len f hf par _ _ _ _ _ _) (Nat.le_trans (trim_len _ _) (hf y))
      · simp
    · exact Nat.le_refl _
theorem rdT_len : ∀ (d : Nat) (l : List UInt8), (rdT d l).2.1.length ≤ l.length
  | 0, l => by unfold rdT; simp
  | d + 1, l => by
    unfold rdT
    split
    · simp
    · split
      · have := rdN_len (l.drop 1)
        rw [List.length_drop] at this
        show (rdN (l.drop 1)).2.length ≤ _
        omega
      · exact Nat.le_trans (rdL_len _ (rdT_len d) _ _ _ _ _ _ _) (trim_len _ _)
/-- What the reader at depth d is good for. -/
def RdC (d : Nat) : Prop := ∀ (D : Int) (l : List UInt8) (w : World), D + d = 31 → EnvR w → l.length ≤ 1000000000 → Calls Tryz.prog 81 #[.string (ofL l), .int .i64 D] w fun e w' =>
  ∃ u, e = .returned (.tuple #[u, .string (ofL (rdT d l).2.1), .bool (rdT d l).2.2]) ∧ Made w w' 45 (rdT d l).1 u ∧ Ext w w'
theorem rdT_neg {d : Nat} {l : List UInt8} (h : khd l < 0) : rdT (d + 1) l = (dflt0, [], false) := by
  unfold rdT
  rw [if_pos h]
theorem rdT_num {d : Nat} {l : List UInt8} (h : khd l = 1 ∨ khd l = 2) : rdT (d + 1) l = (.mk (khd l) (rdN (l.drop 1)).1 [], (rdN (l.drop 1)).2, decide (0 ≤ (rdN (l.drop 1)).1)) := by
  conv => lhs; unfold rdT
  rw [if_neg (by omega), if_pos h]
theorem rdT_more {d : Nat} {l : List UInt8} (h0 : ¬ khd l < 0) (h : ¬ (khd l = 1 ∨ khd l = 2)) : rdT (d + 1) l = rdL (rdT d) (decide (l.head? = some 40)) true (prt (khd l)).tail (khd l) [] (Lib.trimPrefix l ((prt (khd l)).headD [])) (Lib.hasPrefix l ((prt (khd l)).headD [])) := by
  conv => lhs; unfold rdT
  rw [if_neg h0, if_neg h]
theorem rdL_nil {f : List UInt8 → Tr × List UInt8 × Bool} {par b : Bool} {k : Int} {ks : List Tr} {y : List UInt8} {ok : Bool} : rdL f par b [] k ks y ok = (.mk k 0 ks, y, ok) := by
  unfold rdL; rfl
theorem rdL_stop {f : List UInt8 → Tr × List UInt8 × Bool} {par b : Bool} {ps : List (List UInt8)} {k : Int} {ks : List Tr} {y : List UInt8} : rdL f par b ps k ks y false = (.mk k 0 ks, y, false) := by
  cases ps with
  | nil => exact rdL_nil
  | cons p ps => rw [rdL, if_neg (by simp)]
theorem rdL_fail {f : List UInt8 → Tr × List UInt8 × Bool} {par b : Bool} {p : List UInt8} {ps : List (List UInt8)} {k : Int} {ks : List Tr} {y z : List UInt8} {t : Tr} (h : f y = (t, z, false)) : rdL f par b (p :: ps) k ks y true = (dflt0, [], false) := by
  rw [rdL, if_pos rfl, h, if_neg (by simp)]
theorem rdL_go {f : List UInt8 → Tr × List UInt8 × Bool} {par b : Bool} {p : List UInt8} {ps : List (List UInt8)} {k : Int} {ks : List Tr} {y z : List UInt8} {t : Tr} (h : f y = (t, z, true)) (hn : ¬ (par = true ∧ b = true ∧ z ≠ [])) : rdL f par b (p :: ps) k ks y true = rdL f par false ps k (ks ++ [t]) (Lib.trimPrefix z p) (Lib.hasPrefix z p) := by
  rw [rdL, if_pos rfl, h, if_pos rfl, if_neg hn]
theorem rdL_par {f : List UInt8 → Tr × List UInt8 × Bool} {p : List UInt8} {ps : List (List UInt8)} {k : Int} {ks : List Tr} {y z : List UInt8} {t : Tr} (h : f y = (t, z, true)) (hn : z ≠ []) : rdL f true true (p :: ps) k ks y true = rdL f true false ps (kSign z) (ks ++ [t]) (Lib.trimPrefix z ((prt (kSign z)).getD 1 [])) (Lib.hasPrefix z ((prt (kSign z)).getD 1 [])) := by
  rw [rdL, if_pos rfl, h, if_pos rfl, if_pos ⟨rfl, rfl, hn⟩]
theorem khd_par {l : List UInt8} (h : l.head? = some 40) : khd l = 3 := by
  cases l with
  | nil => cases h
  | cons b r => simp only [List.head?_cons, Option.some.injEq] at h; subst h; rfl
/-- strings.Split: the block of the pieces. -/
theorem split_blk (l : List UInt8) (c : UInt8) (xs : List (List UInt8)) (hxs : cutL c l = xs) (w : World) (hw : EnvM w) (hl : l.length ≤ 1000000000) : Calls Tryz.prog 39 #[.string (ofL l), .string (ofL [c])] w fun e w' => ∃ b, e = .returned (.slice (some ⟨b, 0, none⟩) xs.length xs.length) ∧ w'.heap[b]? = some (.cells (strs xs).toArray 9 (0, 0)) ∧ Ext w w' := by
  subst hxs
  refine (split_any l c w hw hl).mono ?_
  rintro e w' ⟨rfl, rfl⟩
  exact ⟨_, rfl, heap_alloc_new w _, (Ext.refl w).alloc _⟩
theorem strs_cell {w : World} {b : Nat} {xs : List (List UInt8)} {e : TypeId} (h : w.heap[b]? = some (.cells (strs xs).toArray e (0, 0))) {j : Nat} (hj : j < xs.length) : w.cell? ⟨b, j, none⟩ = some (.string (ofL xs[j])) := by
  rw [cell_of_blk h]
  exact strs_get hj
theorem alloc2_new (w : World) (a b : Obj) : ((w.alloc a).alloc b).heap[w.heap.size + 1]? = some b := by
  have := heap_alloc_new (w.alloc a) b
  rwa [World.size_alloc] at this
/-- 'out = append(out, t)': blocks of other types stay. -/
theorem wpList_append_treeK {P : Program} (w : World) {ops : Array Oper} {rest : List Oper} {o : Oper} {a : Act} {Q : Exit → Act → World → Prop} (hgd : o.guard = none) (s x : Operand) (t : TypeId)
    (ho : o.op = .call { callee := .builtin .append, args := #[s, x], argTypes := #[t, t] })
    (e : TypeId) (i : TypeInfo) (z : Value) (ht : P.underlying t = some (.slice e)) (hi : P.info? e = some i) (hz : i.zero = some z) (hsize : i.size = 3) (hby : i.bytes = 40) (hzs : z.cells.size = 3)
    {W wr w1 : World} {v : Value} {ks : List Tr} {tr : Tr} {v0 v1 v2 : Value} {gx : Nat} (hs : a.eval s = v) (hG : Grow W wr e v ks) (hW : W.heap.size ≤ wr.heap.size) (hE1 : Ext wr w1) (hM : Made wr w1 e tr (.agg #[v0, v1, v2])) (hE2 : Ext w1 w)
    (hx : a.eval x = .slice (some ⟨gx, 0, none⟩) 1 1) (hgx : w.heap[gx]? = some (.cells #[v0, v1, v2] e (0, 0))) (hn : ks.length < 1099511627776)
    (h : ∀ v' w', Grow W w' e v' (ks ++ [tr]) → Below W.heap.size wr w' → Hid (∀ (b : Nat) (cs : Array Value) (e' : TypeId) (r : Nat × Nat), w.heap[b]? = some (Obj.cells cs e' r) → e' ≠ e → w'.heap[b]? = some (Obj.cells cs e' r)) → wpList P ops Q rest (a.put o.dst v') w') : wpList P ops Q (o :: rest) a w := by
  refine wpList_plain hgd fun K hK => ?_
  obtain ⟨xs, L, h1, h2, h3, h4⟩ := hG
  have s1 := hE1.size
  have s2 := hE2.size
  have hown : w.ownsRow W.heap.size e 3 v ks.length xs := ownsRow_same h1 (fun g hg => (hE1.trans hE2).heap g (h1.lt g hg).2)
  obtain ⟨v', w', hr, r1, r2, r3⟩ := run_append_own' (P := P) w W.heap.size t o.type e i z 3 40 ht hi hz hsize hby hzs (by decide) v ks.length xs hown ⟨gx, 0, none⟩ 1 1 [v0, v1, v2] rfl (row3_cells hgx) (made_oneCell hM) (by unfold maxLen; omega) (by omega) (by omega)
  obtain ⟨g1, g2⟩ := Grow.step h2 h3 (fun g hg => ⟨h4 g hg, (h1.lt g hg).2, (h1.lt g hg).1⟩) h1.1 hW hE1 hM hE2 r1 r2 r3
  unfold Oper.wp execOp
  simp only [ho, resolve, invoke, builtin, Sem.run_bind, Sem.run_pure, Result.andThen_ok, List.map_toArray, List.map_cons, List.map_nil, hs, hx, hr]
  refine hK _ _ (h v' w' g1 g2 (Lib.hid fun b cs e' r hb hne => (r2.block b (lt_of_blk hb) fun hv => ?_).trans hb))
  rcases hown.2 with ⟨h5, -⟩ | ⟨g, c, cur, h5, -, hg, -⟩
  · rw [h5] at hv; simp [Value.ownBlock] at hv
  · rw [h5] at hv
    simp only [Value.ownBlock, Option.some.injEq] at hv
    subst hv
    rw [hg] at hb
    simp only [Option.some.injEq, Obj.cells.injEq] at hb
    exact hne hb.2.1.symm
theorem readTerm_zero : RdC 0 := by
  intro D l w hD hW hl
  obtain rfl : D = 31 := by omega
  have HK := Lib.hid (fun W => kindAt_any l W)
  obtain ⟨K, hK⟩ : ∃ K, khd l = K := ⟨_, rfl⟩
  rw [hK] at HK
  show Calls _ _ _ _ fun e w' => ∃ u, e = .returned (.tuple #[u, .string ⟨#[]⟩, .bool false]) ∧ Made w w' 45 dflt0 u ∧ Ext w w'
  obtain ⟨q, hq⟩ : ∃ q, decide (K < 0) = q := ⟨_, rfl⟩
  clear hK
  cases q
  all_goals
    go_enter Tryz.func81, Tryz.ntmps81
    go_wp2_with fail
    refine (HK.out _).mono ?_
    rintro e w1 ⟨rfl, h1⟩
    have hb := (blk1 h1).1
    have hx := h1.pre
    obtain ⟨s0, s1, s2, f0, f1, f2⟩ := own3 hb
    go_wp2_with fail
    refine bodyPost_ret (v := .tuple #[.agg #[.int .i64 0, .int .i64 0, .slice none 0 0], .string ⟨#[]⟩, .bool false]) (by simp [results, Tryz.results81, go_sem, s0, s1, s2]) rfl ⟨_, rfl, Made.leaf _ _ _ 0 0, ?_⟩
    exact ((hx.setCell (by simp) _).setCell (by simp) _).setCell (by simp) _
set_option maxRecDepth 100000 in
set_option maxHeartbeats 8000000 in
theorem readTerm_step (d : Nat) (hd : d < 30) (ih : RdC d) : RdC (d + 1) := by
  intro D l w hD hW hl
  obtain ⟨R, hR⟩ : ∃ R, rdT (d + 1) l = R := ⟨_, rfl⟩
  rw [hR]
  have hD30 : decide (30 < D) = false := decide_eq_false (by omega)
  have hDw : IntKind.i64.wrap (D + 1) = D + 1 := IntWalk.i64_in _ ⟨by omega, by omega⟩
  have HK := Lib.hid (fun W => kindAt_any l W)
  have hx0 := (Ext.refl w).alloc (.cells #[.int .i64 0, .int .i64 0, .slice none 0 0] 45)
  rcases khd_range l with hneg | ⟨hk1, hk16, hne⟩
  · have hRR := hR.symm.trans (rdT_neg (d := d) (by omega))
    rw [hneg] at HK
    have HRR := Lib.hid hRR
    clear hR hRR hneg
    go_enter Tryz.func81, Tryz.ntmps81
    go_wp2_with fail
    refine (HK.out _).mono ?_
    rintro e w1 ⟨rfl, h1⟩
    have hb := (blk1 h1).1
    have hx := h1.pre
    obtain ⟨s0, s1, s2, f0, f1, f2⟩ := own3 hb
    go_wp2_with fail
    rw [HRR.out]
    refine bodyPost_ret (v := .tuple #[.agg #[.int .i64 0, .int .i64 0, .slice none 0 0], .string ⟨#[]⟩, .bool false]) (by simp [results, Tryz.results81, go_sem, s0, s1, s2]) rfl ⟨_, rfl, Made.leaf _ _ _ 0 0, ?_⟩
    exact ((hx.setCell (by simp) _).setCell (by simp) _).setCell (by simp) _
  obtain ⟨kk, hkk, hk15⟩ : ∃ kk : Nat, khd l = (kk : Int) + 1 ∧ kk < 16 := ⟨(khd l - 1).toNat, by omega, by omega⟩
  by_cases hnum : khd l = 1 ∨ khd l = 2
  · have hRR := hR.symm.trans (rdT_num (d := d) hnum)
    have hlp : 0 < l.length := List.length_pos_iff.2 hne
    have HN := Lib.hid (fun W (hx : Ext w W) => readNumber_any (l.drop 1) (by rw [List.length_drop]; omega) W (hW.ext hx))
    obtain ⟨⟨v, y⟩, hvy⟩ : ∃ x, rdN (l.drop 1) = x := ⟨_, rfl⟩
    rw [hvy] at hRR HN
    have hsl : (ofL l).extract 1 (ofL l).size = ofL (l.drop 1) := ext_from l 1
    obtain ⟨l1, hl1⟩ : ∃ l1, l.drop 1 = l1 := ⟨_, rfl⟩
    rw [hl1] at HN hsl
    obtain ⟨s, hs⟩ : ∃ s, s = ofL l := ⟨_, rfl⟩
    rw [← hs] at HK hsl ⊢
    have hsz : 1 ≤ s.size := by rw [hs, ofL_size]; omega
    obtain ⟨K, hK⟩ : ∃ K, khd l = K := ⟨_, rfl⟩
    rw [hK] at HK hRR hnum
    have HRR := Lib.hid hRR
    have hK0 : decide (K < 0) = false := decide_eq_false (by omega)
    have hs9 : s.size ≤ 1000000000 := by rw [hs, ofL_size]; exact hl
    obtain ⟨q, hq⟩ : ∃ q, decide (0 ≤ v) = q := ⟨_, rfl⟩
    clear hR hRR hvy hs hkk hk1 hk16 hK hlp hl hl1
    rcases hnum with rfl | rfl
    · cases q
      · go_enter Tryz.func81, Tryz.ntmps81
        go_wp2_with fail
        refine (HK.out _).mono ?_
        rintro e w1 ⟨rfl, h1⟩
        have hb := (blk1 h1).1
        have hx := h1.pre
        obtain ⟨s0, s1, s2, f0, f1, f2⟩ := own3 hb
        go_wp2_with fail
        refine (HN.out _ (hx.trans ((Ext.refl w1).alloc _))).mono ?_
        rintro e w2 ⟨rfl, h2⟩
        have hb8 := (blk1 h2).1
        have hx2 := hx.trans h2.pre
        obtain ⟨y0, y1, y2, g0, g1, g2⟩ := own3 hb8
        obtain ⟨z0, z1, z2, e0, e1, e2⟩ := own3 (h2.pre.blk hb)
        have hw1 : w.heap.size < w1.heap.size := lt_of_blk hb
        clear s0 s1 s2 f0 f1 f2 hb
        go_wp2_with fail
        rw [HRR.out]
        refine bodyPost_ret (v := .tuple #[.agg #[.int .i64 1, .int .i64 v, .slice none 0 0], .string (ofL y), .bool false]) (by simp [results, Tryz.results81, go_sem, z0, z1, z2]) rfl ⟨_, by simp [hq], Made.leaf _ _ _ _ _, ?_⟩
        exact ((((hx2.setCell (p := ⟨w1.heap.size, 1, none⟩) (Nat.le_of_lt hw1) _).setCell (by simp) _).setCell (by simp) _).setCell (by simp) _)
      · go_enter Tryz.func81, Tryz.ntmps81
        go_wp2_with fail
        refine (HK.out _).mono ?_
        rintro e w1 ⟨rfl, h1⟩
        have hb := (blk1 h1).1
        have hx := h1.pre
        obtain ⟨s0, s1, s2, f0, f1, f2⟩ := own3 hb
        go_wp2_with fail
        refine (HN.out _ (hx.trans ((Ext.refl w1).alloc _))).mono ?_
        rintro e w2 ⟨rfl, h2⟩
        have hb8 := (blk1 h2).1
        have hx2 := hx.trans h2.pre
        obtain ⟨y0, y1, y2, g0, g1, g2⟩ := own3 hb8
        obtain ⟨z0, z1, z2, e0, e1, e2⟩ := own3 (h2.pre.blk hb)
        have hw1 : w.heap.size < w1.heap.size := lt_of_blk hb
        clear s0 s1 s2 f0 f1 f2 hb
        go_wp2_with fail
        rw [HRR.out]
        refine bodyPost_ret (v := .tuple #[.agg #[.int .i64 1, .int .i64 v, .slice none 0 0], .string (ofL y), .bool true]) (by simp [results, Tryz.results81, go_sem, z0, z1, z2]) rfl ⟨_, by simp [hq], Made.leaf _ _ _ _ _, ?_⟩
        exact ((((hx2.setCell (p := ⟨w1.heap.size, 1, none⟩) (Nat.le_of_lt hw1) _).setCell (by simp) _).setCell (by simp) _).setCell (by simp) _)
    · cases q
      · go_enter Tryz.func81, Tryz.ntmps81
        go_wp2_with fail
        refine (HK.out _).mono ?_
        rintro e w1 ⟨rfl, h1⟩
        have hb := (blk1 h1).1
        have hx := h1.pre
        obtain ⟨s0, s1, s2, f0, f1, f2⟩ := own3 hb
        go_wp2_with fail
        refine (HN.out _ (hx.trans ((Ext.refl w1).alloc _))).mono ?_
        rintro e w2 ⟨rfl, h2⟩
        have hb8 := (blk1 h2).1
        have hx2 := hx.trans h2.pre
        obtain ⟨y0, y1, y2, g0, g1, g2⟩ := own3 hb8
        obtain ⟨z0, z1, z2, e0, e1, e2⟩ := own3 (h2.pre.blk hb)
        have hw1 : w.heap.size < w1.heap.size := lt_of_blk hb
        clear s0 s1 s2 f0 f1 f2 hb
        go_wp2_with fail
        rw [HRR.out]
        refine bodyPost_ret (v := .tuple #[.agg #[.int .i64 2, .int .i64 v, .slice none 0 0], .string (ofL y), .bool false]) (by simp [results, Tryz.results81, go_sem, z0, z1, z2]) rfl ⟨_, by simp [hq], Made.leaf _ _ _ _ _, ?_⟩
        exact ((((hx2.setCell (p := ⟨w1.heap.size, 1, none⟩) (Nat.le_of_lt hw1) _).setCell (by simp) _).setCell (by simp) _).setCell (by simp) _)
      · go_enter Tryz.func81, Tryz.ntmps81
        go_wp2_with fail
        refine (HK.out _).mono ?_
        rintro e w1 ⟨rfl, h1⟩
        have hb := (blk1 h1).1
        have hx := h1.pre
        obtain ⟨s0, s1, s2, f0, f1, f2⟩ := own3 hb
        go_wp2_with fail
        refine (HN.out _ (hx.trans ((Ext.refl w1).alloc _))).mono ?_
        rintro e w2 ⟨rfl, h2⟩
        have hb8 := (blk1 h2).1
        have hx2 := hx.trans h2.pre
        obtain ⟨y0, y1, y2, g0, g1, g2⟩ := own3 hb8
        obtain ⟨z0, z1, z2, e0, e1, e2⟩ := own3 (h2.pre.blk hb)
        have hw1 : w.heap.size < w1.heap.size := lt_of_blk hb
        clear s0 s1 s2 f0 f1 f2 hb
        go_wp2_with fail
        rw [HRR.out]
        refine bodyPost_ret (v := .tuple #[.agg #[.int .i64 2, .int .i64 v, .slice none 0 0], .string (ofL y), .bool true]) (by simp [results, Tryz.results81, go_sem, z0, z1, z2]) rfl ⟨_, by simp [hq], Made.leaf _ _ _ _ _, ?_⟩
        exact ((((hx2.setCell (p := ⟨w1.heap.size, 1, none⟩) (Nat.le_of_lt hw1) _).setCell (by simp) _).setCell (by simp) _).setCell (by simp) _)
  · have hRR := hR.symm.trans (rdT_more (d := d) (by omega) hnum)
    have hKn : khd l ≠ 1 ∧ khd l ≠ 2 := ⟨fun h => hnum (.inl h), fun h => hnum (.inr h)⟩
    have hlp : 0 < l.length := List.length_pos_iff.2 hne
    obtain ⟨hpr, hsl⟩ := shpL_facts kk hk15
    rw [← hkk] at hpr
    have hpl : (prt (khd l)).length ≤ 5 ∧ 1 ≤ (prt (khd l)).length := by
      rw [hkk]
      rcases (by omega : kk = 0 ∨ kk = 1 ∨ kk = 2 ∨ kk = 3 ∨ kk = 4 ∨ kk = 5 ∨ kk = 6 ∨ kk = 7 ∨ kk = 8 ∨ kk = 9 ∨ kk = 10 ∨ kk = 11 ∨ kk = 12 ∨ kk = 13 ∨ kk = 14 ∨ kk = 15) with h | h | h | h | h | h | h | h | h | h | h | h | h | h | h | h <;> (rw [h]; decide)
    obtain ⟨P, hP⟩ : ∃ P, decide (l.head? = some 40) = P := ⟨_, rfl⟩
    have hP3 : P = true → khd l = 3 := fun h => khd_par (by rw [h] at hP; exact of_decide_eq_true hP)
    obtain ⟨c0, l9, rfl⟩ : ∃ c r, l = c :: r := by
      cases l with
      | nil => exact absurd rfl hne
      | cons c r => exact ⟨c, r, rfl⟩
    obtain ⟨p0, pt, hpp⟩ : ∃ p0 pt, prt (khd (c0 :: l9)) = p0 :: pt := by
      cases hq : prt (khd (c0 :: l9)) with
      | nil => rw [hq] at hpl; simp at hpl
      | cons a b => exact ⟨a, b, rfl⟩
    have hpt3 : P = true → pt = [[62], [41]] := fun h => by
      have := hP3 h
      rw [this] at hpp
      have e : prt 3 = [[40], [62], [41]] := rfl
      rw [e] at hpp
      injection hpp with _ h2
      exact h2.symm
    rw [hpp] at hRR hpl hpr
    rw [hP] at hRR
    simp only [List.tail_cons, List.headD_cons, List.length_cons] at hRR hpl
    obtain ⟨sh, hsh⟩ : ∃ sh, sh = shpL.getD kk [] := ⟨_, rfl⟩
    have HSA := Lib.hid (fun W => (show Calls Tryz.prog 77 #[] W (fun e w' => ∃ b, e = .returned (.slice (some ⟨b, 0, none⟩) 16 16) ∧ w'.cell? ⟨b, kk, none⟩ = some (.string (ofL sh)) ∧ Ext W w') from (shapes_at W).mono (by
      rintro e w' ⟨b, h1, h2, h3⟩
      exact ⟨b, h1, by rw [hsh]; exact h2 kk hk15, h3⟩)))
    rw [← hsh] at hpr hsl
    have HSP := Lib.hid (fun W (hx : Ext w W) => split_blk sh 46 (p0 :: pt) hpr W (hW.ext hx).1 (by omega))
    have HCP := Lib.hid (fun p W => cutPrefix_any (c0 :: l9) p W)
    have hq0 : ((c0.toNat : Int) == 40) = P := by
      rw [← hP]
      by_cases h : c0 = 40
      · subst h; rfl
      · rw [decide_eq_false (by simp [h])]
        exact beq_eq_false_iff_ne.2 (fun e => h (UInt8.toNat_inj.1 (show c0.toNat = 40 by omega)))
    obtain ⟨q0, hq0'⟩ : ∃ q, c0.toNat = q := ⟨_, rfl⟩
    rw [hq0'] at hq0
    have hq1 : (q0 == 40) = P := by
      rw [← hq0]
      by_cases h : q0 = 40
      · subst h; rfl
      · rw [beq_eq_false_iff_ne.2 h, beq_eq_false_iff_ne.2 (by omega)]
    have hlen9 : (c0 :: l9).length ≤ 1000000000 := hl
    obtain ⟨s, hs⟩ : ∃ s, s = ofL (c0 :: l9) := ⟨_, rfl⟩
    have hsz : 0 < s.size := by rw [hs, ofL_size]; simp
    have hs0 : (s[0]'hsz).toNat = q0 := by subst hs; exact hq0'
    have htl := trim_len (c0 :: l9) p0
    rw [← hs] at HK HCP ⊢
    obtain ⟨K, hK⟩ : ∃ K, khd (c0 :: l9) = K := ⟨_, rfl⟩
    rw [hK] at HK hRR hnum hkk hk1 hk16 hKn hP3
    have hK0 : decide (K < 0) = false := decide_eq_false (by omega)
    have hK1 : (K == 1) = false := beq_eq_false_iff_ne.2 hKn.1
    have hK2 : (K == 2) = false := beq_eq_false_iff_ne.2 hKn.2
    have hKw : IntKind.i64.wrap (K - 1) = (kk : Int) := by rw [show K - 1 = (kk : Int) by omega]; exact IntWalk.i64_in _ ⟨by omega, by omega⟩
    have hkz : (kk : Int) < 16 := by omega
    have hkz0 : (0 : Int) ≤ (kk : Int) := by omega
    have HRR := Lib.hid hRR
    have HPT := Lib.hid hpt3
    have HTL := Lib.hid (Nat.le_trans htl hlen9)
    obtain ⟨i0, hi, hz0, hz1, hz2⟩ := info_parts infoTermR
    have hptl : pt.length + 1 ≤ 5 := hpl.1
    clear hR hRR hkk hk1 hk16 hK hlp hl hpt3 htl hlen9 hpl hpr hsl hsh hq0' hs hne hP hP3 hpp hnum hKn
    go_enter Tryz.func81, Tryz.ntmps81
    go_wp2_with fail
    refine (HK.out _).mono ?_
    rintro e w1 ⟨rfl, h1⟩
    have hb := (blk1 h1).1
    have hx := h1.pre
    have hw1 : w.heap.size < w1.heap.size := lt_of_blk hb
    go_wp2_with fail
    refine (HSA.out _).mono ?_
    rintro e w2 ⟨bs, rfl, hcs, h2⟩
    have hb8 := (blk1 h2).1
    have hx2 := hx.trans h2.pre
    have hb4 := h2.pre.blk hb
    clear hb h1
    go_wp2_with fail
    refine (HSP.out _ hx2).mono ?_
    rintro e w3 ⟨bp, rfl, hcp, h3⟩
    have hb8' := h3.blk hb8
    have hb4' := h3.blk hb4
    have hx3 := hx2.trans h3
    have hp00 := strs_cell hcp (j := 0) (by simp)
    obtain ⟨QS, hQS⟩ : ∃ q, q = p0 :: pt := ⟨_, rfl⟩
    rw [← hQS] at hcp
    simp only [List.getElem_cons_zero, List.length_cons] at hp00 ⊢
    have HCS := Lib.hid hcp
    have HQS := Lib.hid hQS
    have hsz3 := h2.pre.size
    have hsz4 := h3.size
    have hp1 : (0 : Int) < (pt.length : Int) + 1 := by omega
    have hp2 : 0 < pt.length + 1 := by omega
    clear hcp hcs hb8 hb4 hQS
    go_wp2_with fail
    refine (HCP.out p0 _).mono ?_
    rintro e w4 ⟨rfl, rfl⟩
    clear HCP HSP HSA HK hp00
    obtain ⟨Y0, hY0⟩ : ∃ y, Lib.trimPrefix (c0 :: l9) p0 = y := ⟨_, rfl⟩
    obtain ⟨B0, hB0⟩ : ∃ b, Lib.hasPrefix (c0 :: l9) p0 = b := ⟨_, rfl⟩
    rw [hY0] at HRR HTL
    rw [hB0] at HRR
    rw [hY0, hB0]
    obtain ⟨g8, hg8⟩ : ∃ g, g = w1.heap.size := ⟨_, rfl⟩
    obtain ⟨g4, hg4⟩ : ∃ g, g = w.heap.size := ⟨_, rfl⟩
    obtain ⟨W8, hW8⟩ : ∃ x, x = w1.alloc (.cells #[.int .i64 K, .int .i64 0, .slice none 0 0] 45) := ⟨_, rfl⟩
    have hW8s : W8.heap.size = g8 + 1 := by rw [hW8, hg8]; simp
    have hWE : Ext W8 w4 := by rw [hW8]; exact h2.trans h3
    have hg48 : g4 < g8 := by omega
    rw [← hg8] at hb8' ⊢
    rw [← hg4] at hb4' ⊢
    have hWw : w.heap.size = g4 := hg4.symm
    clear hY0 hB0 hg8 hg4 hW8 h2 h3 hx2 hsz3 hsz4 hx hw1
    go_wp2_with fail
    go_loopw [11, 12, 13, 14] (fun pa re okv i wr => ∃ (j n bp : Nat) (k : Int) (qs ps : List (List UInt8)) (ks : List Tr) (A : Option Addr) (cap : Nat) (y : List UInt8) (ok : Bool), i = .int .i64 ((j : Int) + 1) ∧ pa = .slice (some ⟨bp, 0, none⟩) n n ∧ Hid (qs.length = n) ∧ Hid (qs.drop (j + 1) = ps) ∧ n ≤ 5 ∧ j + 1 ≤ n ∧ Hid (wr.heap[bp]? = some (.cells (strs qs).toArray 9 (0, 0))) ∧ re = .string (ofL y) ∧ Hid (y.length ≤ 1000000000) ∧ okv = .bool ok ∧
      wr.heap[g8]? = some (.cells #[.int .i64 k, .int .i64 0, .slice A ks.length cap] 45 (0, 0)) ∧ wr.heap[g4]? = some (.cells #[.int .i64 0, .int .i64 0, .slice none 0 0] 45 (0, 0)) ∧ Hid (Grow W8 wr 45 (.slice A ks.length cap) ks) ∧ Hid (ks.length = j) ∧ Ext w wr ∧ W8.heap.size ≤ wr.heap.size ∧ Hid (rdL (rdT d) P (decide (j = 0)) ps k ks y ok = R) ∧ Hid (j = 0 → P = true → ps = [[62], [41]])) (fun _ _ _ i _ => 6 - (intOf i).toNat)
    case atStart => exact ⟨0, pt.length + 1, bp, K, QS, pt, [], none, 0, Y0, B0, rfl, rfl, Lib.hid (by rw [HQS.out]; simp), Lib.hid (by rw [HQS.out]; rfl), hptl, by omega, HCS, rfl, HTL, rfl, hb8', hb4', Lib.hid (Grow.nil _ _ _), Lib.hid rfl, hx3, hWE.size, Lib.hid HRR.out.symm, Lib.hid (fun _ => HPT.out)⟩
    case round =>
      obtain ⟨j, n, bq, k, qs, ps, ks, A, cap, y, ok, rfl, rfl, HQN, HPS, hn5, hjn, HC, rfl, HYL, rfl, hb8, hb4, HG, HKJ, hxr, hWr, HREL, HP3⟩ := hrel
      have hj5 : j < 5 := by omega
      have hks5 : ks.length < 5 := by have := HKJ.out; omega
      have hpl : ps.length + (j + 1) = n := by have := congrArg List.length HPS.out; rw [List.length_drop, HQN.out] at this; omega
      obtain ⟨z0, z1, z2, e0, e1, e2⟩ := own3 hb8
      obtain ⟨y0, y1, y2, f0, f1, f2⟩ := own3 hb4
      cases ps with
      | nil =>
        have hfin := HREL.out
        rw [rdL_nil] at hfin
        obtain ⟨A', cap', hv, q1, q2, hM⟩ := HG.out.made
        simp only [Value.slice.injEq, true_and] at hv
        obtain ⟨rfl, rfl⟩ := hv
        have hw8 : w.heap.size ≤ W8.heap.size := by omega
        have HFIN := Lib.hid hfin
        have hij : ¬ ((j : Int) + 1 < (n : Int)) := by simp only [List.length_nil] at hpl; omega
        have hij2 : ¬ (j + 1 < n) := by simp only [List.length_nil] at hpl; omega
        clear hfin hpl
        go_wp2_with fail
        rw [← HFIN.out]
        refine bodyPost_ret (v := .tuple #[.agg #[.int .i64 k, .int .i64 0, .slice A ks.length cap], .string (ofL y), .bool ok]) (by simp [results, Tryz.results81, go_sem, y0, y1, y2]) rfl ⟨_, rfl, Made.since ((Made.mk q1 q2 hM).after ((((Above.refl _ _).setCell (p := ⟨g4, 0, none⟩) (by show g4 < _; omega) _).setCell (p := ⟨g4, 1, none⟩) (by show g4 < _; omega) _).setCell (p := ⟨g4, 2, none⟩) (by show g4 < _; omega) _)) hw8, ?_⟩
        · exact ((hxr.setCell (p := ⟨g4, 0, none⟩) (Nat.le_of_eq hWw) _).setCell (p := ⟨g4, 1, none⟩) (Nat.le_of_eq hWw) _).setCell (p := ⟨g4, 2, none⟩) (Nat.le_of_eq hWw) _
      | cons p ps =>
        have hij : (j : Int) + 1 < (n : Int) := by simp only [List.length_cons] at hpl; omega
        have hij2 : j + 1 < n := by omega
        cases ok with
        | false =>
          have hfin := HREL.out
          rw [rdL_stop] at hfin
          obtain ⟨A', cap', hv, q1, q2, hM⟩ := HG.out.made
          simp only [Value.slice.injEq, true_and] at hv
          obtain ⟨rfl, rfl⟩ := hv
          have hw8 : w.heap.size ≤ W8.heap.size := by omega
          have HFIN := Lib.hid hfin
          clear hfin hpl
          go_wp2_with fail
          rw [← HFIN.out]
          refine bodyPost_ret (v := .tuple #[.agg #[.int .i64 k, .int .i64 0, .slice A ks.length cap], .string (ofL y), .bool false]) (by simp [results, Tryz.results81, go_sem, y0, y1, y2]) rfl ⟨_, rfl, Made.since ((Made.mk q1 q2 hM).after ((((Above.refl _ _).setCell (p := ⟨g4, 0, none⟩) (by show g4 < _; omega) _).setCell (p := ⟨g4, 1, none⟩) (by show g4 < _; omega) _).setCell (p := ⟨g4, 2, none⟩) (by show g4 < _; omega) _)) hw8, ?_⟩
          exact ((hxr.setCell (p := ⟨g4, 0, none⟩) (Nat.le_of_eq hWw) _).setCell (p := ⟨g4, 1, none⟩) (Nat.le_of_eq hWw) _).setCell (p := ⟨g4, 2, none⟩) (Nat.le_of_eq hWw) _
        | true =>
          have HIH := Lib.hid (fun (W : World) (hx : Ext w W) => ih (D + 1) y W (by omega) (hW.ext hx) HYL.out)
          obtain ⟨⟨t, z, fine⟩, hF⟩ : ∃ x, rdT d y = x := ⟨_, rfl⟩
          rw [hF] at HIH
          have HF := Lib.hid hF
          have HZ9 := Lib.hid (show z.length ≤ 1000000000 from by have := rdT_len d y; rw [hF] at this; exact Nat.le_trans this HYL.out)
          clear hF z0 z1 z2 e0 e1 e2 y0 y1 y2 f0 f1 f2
          go_wp2_with fail
          refine (HIH.out wr hxr).mono ?_
          rintro e w5 ⟨u, rfl, hM, h5⟩
          obtain ⟨b1, b2, b3, b4, b5, rfl⟩ := hM.three
          have hx5 := hxr.trans h5
          cases fine with
          | false =>
            have hfin := HREL.out
            rw [rdL_fail HF.out] at hfin
            have HFIN := Lib.hid hfin
            obtain ⟨y0, y1, y2, f0, f1, f2⟩ := own3 ((h5.alloc (.cells #[.int .i64 b1, .int .i64 b2, .slice b3 b4 b5] 45)).blk hb4)
            clear hfin
            go_wp2_with fail
            rw [← HFIN.out]
            refine bodyPost_ret (v := .tuple #[.agg #[.int .i64 0, .int .i64 0, .slice none 0 0], .string ⟨#[]⟩, .bool false]) (by simp [results, Tryz.results81, go_sem, y0, y1, y2]) rfl ⟨_, rfl, Made.leaf _ _ _ 0 0, ?_⟩
            exact (((hx5.alloc _).setCell (p := ⟨g4, 0, none⟩) (Nat.le_of_eq hWw) _).setCell (p := ⟨g4, 1, none⟩) (Nat.le_of_eq hWw) _).setCell (p := ⟨g4, 2, none⟩) (Nat.le_of_eq hWw) _
          | true =>
            have hb8' := h5.blk hb8
            obtain ⟨z0, z1, z2, e0, e1, e2⟩ := own3 hb8'
            have hs5 := h5.size
            have hg8w : g8 < w5.heap.size := by omega
            have HGG := HG.out
            have hWl := hWr
            have HLEN := Lib.hid (show (ks ++ [t]).length = j + 1 by rw [List.length_append, HKJ.out]; rfl)
            have hcq := (h5.alloc (.cells #[.int .i64 b1, .int .i64 b2, .slice b3 b4 b5] 45)).alloc (.cells #[.int .i64 b1, .int .i64 b2, .slice b3 b4 b5] 45) |>.blk HC.out
            have HCQ := Lib.hid hcq
            clear hcq
            go_wp2_with (at_builtin; refine wpList_append_treeK _ (by rfl) (.tmp 82) (.tmp 84) _ (by rfl) 45 i0 _ Tryz.underlying43 hi hz0 hz1 hz2 rfl (by rfl) HGG (by omega) h5 hM (((Ext.refl _).alloc _).alloc _) (by rfl) (by first | exact alloc2_new _ _ _ | exact heap_alloc_new _ _) (by omega) ?_)
            intro v' w6 hG6 hB6 hK6
            have hcq6 := hK6.out _ _ _ _ _ HCQ.out (by decide)
            obtain ⟨A6, c6, rfl, q1, q2, -⟩ := hG6.made
            obtain ⟨ks', hks'⟩ : ∃ x, x = ks ++ [t] := ⟨_, rfl⟩
            rw [← hks'] at hG6 HLEN ⊢
            have hx6 : Ext w w6 := Below.trans hxr (Below.mono hB6 (by omega))
            have hb8_6 := (hB6.block g8 (by omega)).trans hb8
            have hb4_6 := (hB6.block g4 (by omega)).trans hb4
            have hs6 := hB6.size
            have HKS := Lib.hid hks'
            have HG6 := Lib.hid hG6
            clear z0 z1 z2 e0 e1 e2 hb8 hb4 hb8' hks' hG6 hB6 hK6 HCQ
            obtain ⟨y0, y1, y2, f0, f1, f2⟩ := own3 hb8_6
            obtain ⟨hq1l, hqp⟩ : ∃ hlt : j + 1 < qs.length, qs[j + 1] = p ∧ qs.drop (j + 1 + 1) = ps := by
              have h1 := HPS.out
              have h2 : j + 1 < qs.length := by rw [HQN.out]; omega
              rw [List.drop_eq_getElem_cons h2] at h1
              injection h1 with e1 e2
              exact ⟨h2, e1, e2⟩
            have hcp : w6.cell? ⟨bq, j + 1, none⟩ = some (.string (ofL p)) := by rw [strs_cell hcq6 hq1l, hqp.1]
            have hbg : bq ≠ g8 := by
              rintro rfl
              rw [hb8_6] at hcq6
              simp at hcq6
            have HQP := Lib.hid hqp.2
            have HCQ6 := Lib.hid hcq6
            have hw9 : IntKind.i64.wrap ((j : Int) + 1 + 1) = (j : Int) + 1 + 1 := IntWalk.i64_in _ ⟨by omega, by omega⟩
            have HZL := Lib.hid (show (Lib.trimPrefix z p).length ≤ 1000000000 from Nat.le_trans (trim_len z p) HZ9.out)
            have hwg8 : w.heap.size ≤ g8 := by omega
            have HCPz := Lib.hid (fun W => cutPrefix_any z p W)
            have HG7 := Lib.hid (show Grow W8 (w6.setCell ⟨g8, 2, none⟩ (.slice A6 ks'.length c6)) 45 (.slice A6 ks'.length c6) ks' from HG6.out.after ((Above.refl _ _).setCell (p := ⟨g8, 2, none⟩) (by show g8 < _; omega) _))
            have hfin : ¬ (P = true ∧ decide (j = 0) = true ∧ z ≠ []) → rdL (rdT d) P false ps k ks' (Lib.trimPrefix z p) (Lib.hasPrefix z p) = R := fun h => by
              rw [← HREL.out, rdL_go HF.out h, HKS.out]
            have HFIN := Lib.hid hfin
            have hg48' : g4 ≠ g8 := by omega
            have NOT := Lib.hid (fun (h : j + 1 = 0) (_ : P = true) => (show ps = [[62], [41]] from absurd h (by omega)))
            clear hcq6 hqp hfin
            by_cases hP1 : P = false
            · subst hP1
              go_wp2_with fail
              refine (HCPz.out _).mono ?_
              rintro e w7 ⟨rfl, rfl⟩
              go_wp2_with fail
              go_roundw
              case rel => exact ⟨_ + 1, n, bq, k, qs, ps, ks', A6, c6, _, _, by go_num, rfl, HQN, HQP, hn5, by omega, Lib.hid (blk_setCell_ne HCQ6.out hbg _), rfl, HZL, rfl, blk_setCell hb8_6 2 _, blk_setCell_ne hb4_6 hg48' _, HG7, HLEN, hx6.setCell (p := ⟨g8, 2, none⟩) hwg8 _, by simp; omega, Lib.hid (HFIN.out (by simp_all)), NOT⟩
              case measure => simp [intOf]; omega
            obtain rfl : P = true := by simpa using hP1
            by_cases hj0 : ¬ j = 0
            · have hj1 : (((j : Int) + 1) == 1) = false := beq_eq_false_iff_ne.2 (by omega)
              have hj2 : ((j : Int) == 0) = false := beq_eq_false_iff_ne.2 (by omega)
              have hj3 : (j == 0) = false := beq_eq_false_iff_ne.2 hj0
              go_wp2_with fail
              refine (HCPz.out _).mono ?_
              rintro e w7 ⟨rfl, rfl⟩
              go_wp2_with fail
              go_roundw
              case rel => exact ⟨_ + 1, n, bq, k, qs, ps, ks', A6, c6, _, _, by go_num, rfl, HQN, HQP, hn5, by omega, Lib.hid (blk_setCell_ne HCQ6.out hbg _), rfl, HZL, rfl, blk_setCell hb8_6 2 _, blk_setCell_ne hb4_6 hg48' _, HG7, HLEN, hx6.setCell (p := ⟨g8, 2, none⟩) hwg8 _, by simp; omega, Lib.hid (HFIN.out (by simp_all)), NOT⟩
              case measure => simp [intOf]; omega
            obtain rfl : j = 0 := by omega
            cases z with
            | nil =>
              have hze : (ofL []).toList.isEmpty = true := by rw [ofL_tl]; rfl
              go_wp2_with fail
              refine (HCPz.out _).mono ?_
              rintro e w7 ⟨rfl, rfl⟩
              go_wp2_with fail
              go_roundw
              case rel => exact ⟨_ + 1, n, bq, k, qs, ps, ks', A6, c6, _, _, by go_num, rfl, HQN, HQP, hn5, by omega, Lib.hid (blk_setCell_ne HCQ6.out hbg _), rfl, HZL, rfl, blk_setCell hb8_6 2 _, blk_setCell_ne hb4_6 hg48' _, HG7, HLEN, hx6.setCell (p := ⟨g8, 2, none⟩) hwg8 _, by simp; omega, Lib.hid (HFIN.out (by simp_all)), NOT⟩
              case measure => (simp [intOf]; try omega)
            | cons b zr =>
              have hze : (ofL (b :: zr)).toList.isEmpty = false := by rw [ofL_tl]; rfl
              obtain ⟨m, hm⟩ : ∃ m, b.toNat = m := ⟨_, rfl⟩
              have hps3 := HP3.out rfl rfl
              injection hps3 with _ hps1
              have hpar := HREL.out
              rw [show decide (0 = 0) = true from rfl, rdL_par HF.out (by simp), hps1] at hpar
              have HPAR := Lib.hid hpar
              have HM := Lib.hid hm
              obtain ⟨Z, hZ⟩ : ∃ Z, Z = b :: zr := ⟨_, rfl⟩
              have hzl : 0 < (ofL Z).size := by rw [hZ, ofL_size]; simp
              have hb0 : ((ofL Z)[0]'hzl).toNat = m := by subst hZ; exact hm
              rw [← hZ] at HPAR hze HCPz ⊢
              have hZh : ∀ c, b = c → kSign Z = kSign (c :: zr) := fun c h => by rw [hZ, h]
              have hsg : (m = 32 ∧ kSign Z = 5) ∨ (m = 42 ∧ kSign Z = 13) ∨ (m ≠ 32 ∧ m ≠ 42 ∧ kSign Z = 3) := by
                by_cases h1 : b = 32
                · refine .inl ⟨by rw [← hm, h1]; rfl, by rw [hZh 32 h1]; rfl⟩
                · by_cases h2 : b = 42
                  · refine .inr (.inl ⟨by rw [← hm, h2]; rfl, by rw [hZh 42 h2]; rfl⟩)
                  · refine .inr (.inr ⟨fun h => h1 (UInt8.toNat_inj.1 (by rw [hm, h]; rfl)), fun h => h2 (UInt8.toNat_inj.1 (by rw [hm, h]; rfl)), ?_⟩)
                    rw [hZ]; simp only [kSign]; rw [if_neg h1, if_neg h2]
              have HZ99 := Lib.hid (show Z.length ≤ 1000000000 by rw [hZ]; exact HZ9.out)
              clear hpar hps1 hZh hZ hm HFIN NOT HZL HZ9 HREL HF HP3 HIH hcp HCQ6 hbg HQP hq1l
              rcases hsg with ⟨rfl, hks⟩ | ⟨rfl, hks⟩ | ⟨hm1, hm2, hks⟩
              · have hshp := shpL_facts 4 (by decide)
                have HSA := Lib.hid (fun W => (show Calls Tryz.prog 77 #[] W (fun e w' => ∃ b, e = .returned (.slice (some ⟨b, 0, none⟩) 16 16) ∧ w'.cell? ⟨b, 4, none⟩ = some (.string (ofL (shpL.getD 4 []))) ∧ Ext W w') from (shapes_at W).mono (by
                  rintro e w' ⟨b, h1, h2, h3⟩
                  exact ⟨b, h1, h2 4 (by decide), h3⟩)))
                have HSP := Lib.hid (fun (W : World) (hx : Ext w W) => split_blk (shpL.getD 4 []) 46 [[40], [32], [41]] (by rw [hshp.1]; rfl) W (hW.ext hx).1 (by omega))
                rw [hks] at HPAR
                obtain ⟨sh9, hsh9⟩ : ∃ x, shpL.getD 4 [] = x := ⟨_, rfl⟩
                rw [hsh9] at HSA HSP
                clear hshp hks hsh9
                have hkw : IntKind.i64.wrap 4 = 4 := IntWalk.i64_in _ ⟨by omega, by omega⟩
                go_wp2_with fail
                obtain ⟨w7, hw7⟩ : ∃ x, x = (w6.setCell ⟨g8, 2, none⟩ (.slice A6 ks'.length c6)).setCell ⟨g8, 0, none⟩ (.int .i64 5) := ⟨_, rfl⟩
                rw [← hw7]
                have hb8_7 : w7.heap[g8]? = some (.cells #[.int .i64 5, .int .i64 0, .slice A6 ks'.length c6] 45 (0, 0)) := by rw [hw7]; exact blk_setCell (blk_setCell hb8_6 2 _) 0 _
                have hb4_7 : w7.heap[g4]? = some (.cells #[.int .i64 0, .int .i64 0, .slice none 0 0] 45 (0, 0)) := by rw [hw7]; exact blk_setCell_ne (blk_setCell_ne hb4_6 hg48' _) hg48' _
                have hx7 : Ext w w7 := by rw [hw7]; exact (hx6.setCell (p := ⟨g8, 2, none⟩) hwg8 _).setCell (p := ⟨g8, 0, none⟩) hwg8 _
                have hs7 : w6.heap.size ≤ w7.heap.size := by rw [hw7]; simp
                have HG9 := Lib.hid (show Grow W8 w7 45 (.slice A6 ks'.length c6) ks' from by rw [hw7]; exact HG7.out.after ((Above.refl _ _).setCell (p := ⟨g8, 0, none⟩) (by show g8 < _; omega) _))
                clear hw7 y0 y1 y2 f0 f1 f2 HG7
                obtain ⟨y0, y1, y2, f0, f1, f2⟩ := own3 hb8_7
                go_region_law (first
                  | (go_simp; go_at_call 77; refine (HSA.out _).mono ?_; rintro e w8 ⟨b8, rfl, hc8, h8⟩; obtain ⟨s0, s1, s2, -, -, -⟩ := own3 (h8.blk ((Ext.refl _).drew.blk hb8_7)))
                  | (go_simp; go_at_call 39; refine (HSP.out _ ((hx7.trans (Ext.refl _).drew).trans h8)).mono ?_; rintro e w9 ⟨b9, rfl, hc9, h9⟩))
                all_goals (
                  have X9 := ((Ext.refl w7).drew.trans h8).trans h9
                  have hs9 := X9.size
                  have hcp9 := strs_cell hc9 (j := 1) (by simp)
                  simp only [List.getElem_cons_succ, List.getElem_cons_zero] at hcp9 ⊢
                  have HC9 := Lib.hid hc9
                  clear hc9 hc8 s0 s1 s2 y0 y1 y2 f0 f1 f2
                  go_wp2_with fail
                  refine (cutPrefix_any Z [32] _).mono ?_
                  rintro e w10 ⟨rfl, rfl⟩
                  go_wp2_with fail
                  go_roundw
                  case rel => exact ⟨0 + 1, 3, b9, 5, [[40], [32], [41]], [[41]], ks', A6, c6, _, _, by go_num, rfl, Lib.hid rfl, Lib.hid rfl, by omega, by omega, HC9, rfl, Lib.hid (Nat.le_trans (trim_len _ _) HZ99.out), rfl, X9.blk hb8_7, X9.blk hb4_7, Lib.hid (HG9.out.ext X9), HLEN, hx7.trans X9, by omega, Lib.hid (by have := HPAR.out; rw [← HKS.out] at this; exact this), Lib.hid (fun h => absurd h (by omega))⟩
                  case measure => (simp [intOf]; try omega))
              · have hshp := shpL_facts 12 (by decide)
                have HSA := Lib.hid (fun W => (show Calls Tryz.prog 77 #[] W (fun e w' => ∃ b, e = .returned (.slice (some ⟨b, 0, none⟩) 16 16) ∧ w'.cell? ⟨b, 12, none⟩ = some (.string (ofL (shpL.getD 12 []))) ∧ Ext W w') from (shapes_at W).mono (by
                  rintro e w' ⟨b, h1, h2, h3⟩
                  exact ⟨b, h1, h2 12 (by decide), h3⟩)))
                have HSP := Lib.hid (fun (W : World) (hx : Ext w W) => split_blk (shpL.getD 12 []) 46 [[40], [42], [41]] (by rw [hshp.1]; rfl) W (hW.ext hx).1 (by omega))
                rw [hks] at HPAR
                obtain ⟨sh9, hsh9⟩ : ∃ x, shpL.getD 12 [] = x := ⟨_, rfl⟩
                rw [hsh9] at HSA HSP
                clear hshp hks hsh9
                have hkw : IntKind.i64.wrap 12 = 12 := IntWalk.i64_in _ ⟨by omega, by omega⟩
                go_wp2_with fail
                obtain ⟨w7, hw7⟩ : ∃ x, x = (w6.setCell ⟨g8, 2, none⟩ (.slice A6 ks'.length c6)).setCell ⟨g8, 0, none⟩ (.int .i64 13) := ⟨_, rfl⟩
                rw [← hw7]
                have hb8_7 : w7.heap[g8]? = some (.cells #[.int .i64 13, .int .i64 0, .slice A6 ks'.length c6] 45 (0, 0)) := by rw [hw7]; exact blk_setCell (blk_setCell hb8_6 2 _) 0 _
                have hb4_7 : w7.heap[g4]? = some (.cells #[.int .i64 0, .int .i64 0, .slice none 0 0] 45 (0, 0)) := by rw [hw7]; exact blk_setCell_ne (blk_setCell_ne hb4_6 hg48' _) hg48' _
                have hx7 : Ext w w7 := by rw [hw7]; exact (hx6.setCell (p := ⟨g8, 2, none⟩) hwg8 _).setCell (p := ⟨g8, 0, none⟩) hwg8 _
                have hs7 : w6.heap.size ≤ w7.heap.size := by rw [hw7]; simp
                have HG9 := Lib.hid (show Grow W8 w7 45 (.slice A6 ks'.length c6) ks' from by rw [hw7]; exact HG7.out.after ((Above.refl _ _).setCell (p := ⟨g8, 0, none⟩) (by show g8 < _; omega) _))
                clear hw7 y0 y1 y2 f0 f1 f2 HG7
                obtain ⟨y0, y1, y2, f0, f1, f2⟩ := own3 hb8_7
                go_region_law (first
                  | (go_simp; go_at_call 77; refine (HSA.out _).mono ?_; rintro e w8 ⟨b8, rfl, hc8, h8⟩; obtain ⟨s0, s1, s2, -, -, -⟩ := own3 (h8.blk ((Ext.refl _).drew.blk hb8_7)))
                  | (go_simp; go_at_call 39; refine (HSP.out _ ((hx7.trans (Ext.refl _).drew).trans h8)).mono ?_; rintro e w9 ⟨b9, rfl, hc9, h9⟩))
                all_goals (
                  have X9 := ((Ext.refl w7).drew.trans h8).trans h9
                  have hs9 := X9.size
                  have hcp9 := strs_cell hc9 (j := 1) (by simp)
                  simp only [List.getElem_cons_succ, List.getElem_cons_zero] at hcp9 ⊢
                  have HC9 := Lib.hid hc9
                  clear hc9 hc8 s0 s1 s2 y0 y1 y2 f0 f1 f2
                  go_wp2_with fail
                  refine (cutPrefix_any Z [42] _).mono ?_
                  rintro e w10 ⟨rfl, rfl⟩
                  go_wp2_with fail
                  go_roundw
                  case rel => exact ⟨0 + 1, 3, b9, 13, [[40], [42], [41]], [[41]], ks', A6, c6, _, _, by go_num, rfl, Lib.hid rfl, Lib.hid rfl, by omega, by omega, HC9, rfl, Lib.hid (Nat.le_trans (trim_len _ _) HZ99.out), rfl, X9.blk hb8_7, X9.blk hb4_7, Lib.hid (HG9.out.ext X9), HLEN, hx7.trans X9, by omega, Lib.hid (by have := HPAR.out; rw [← HKS.out] at this; exact this), Lib.hid (fun h => absurd h (by omega))⟩
                  case measure => (simp [intOf]; try omega))
              · have hshp := shpL_facts 2 (by decide)
                have HSA := Lib.hid (fun W => (show Calls Tryz.prog 77 #[] W (fun e w' => ∃ b, e = .returned (.slice (some ⟨b, 0, none⟩) 16 16) ∧ w'.cell? ⟨b, 2, none⟩ = some (.string (ofL (shpL.getD 2 []))) ∧ Ext W w') from (shapes_at W).mono (by
                  rintro e w' ⟨b, h1, h2, h3⟩
                  exact ⟨b, h1, h2 2 (by decide), h3⟩)))
                have HSP := Lib.hid (fun (W : World) (hx : Ext w W) => split_blk (shpL.getD 2 []) 46 [[40], [62], [41]] (by rw [hshp.1]; rfl) W (hW.ext hx).1 (by omega))
                rw [hks] at HPAR
                obtain ⟨sh9, hsh9⟩ : ∃ x, shpL.getD 2 [] = x := ⟨_, rfl⟩
                rw [hsh9] at HSA HSP
                clear hshp hks hsh9
                have hkw : IntKind.i64.wrap 2 = 2 := IntWalk.i64_in _ ⟨by omega, by omega⟩
                go_wp2_with fail
                obtain ⟨w7, hw7⟩ : ∃ x, x = (w6.setCell ⟨g8, 2, none⟩ (.slice A6 ks'.length c6)).setCell ⟨g8, 0, none⟩ (.int .i64 3) := ⟨_, rfl⟩
                rw [← hw7]
                have hb8_7 : w7.heap[g8]? = some (.cells #[.int .i64 3, .int .i64 0, .slice A6 ks'.length c6] 45 (0, 0)) := by rw [hw7]; exact blk_setCell (blk_setCell hb8_6 2 _) 0 _
                have hb4_7 : w7.heap[g4]? = some (.cells #[.int .i64 0, .int .i64 0, .slice none 0 0] 45 (0, 0)) := by rw [hw7]; exact blk_setCell_ne (blk_setCell_ne hb4_6 hg48' _) hg48' _
                have hx7 : Ext w w7 := by rw [hw7]; exact (hx6.setCell (p := ⟨g8, 2, none⟩) hwg8 _).setCell (p := ⟨g8, 0, none⟩) hwg8 _
                have hs7 : w6.heap.size ≤ w7.heap.size := by rw [hw7]; simp
                have HG9 := Lib.hid (show Grow W8 w7 45 (.slice A6 ks'.length c6) ks' from by rw [hw7]; exact HG7.out.after ((Above.refl _ _).setCell (p := ⟨g8, 0, none⟩) (by show g8 < _; omega) _))
                clear hw7 y0 y1 y2 f0 f1 f2 HG7
                obtain ⟨y0, y1, y2, f0, f1, f2⟩ := own3 hb8_7
                go_region_law (first
                  | (go_simp; go_at_call 77; refine (HSA.out _).mono ?_; rintro e w8 ⟨b8, rfl, hc8, h8⟩; obtain ⟨s0, s1, s2, -, -, -⟩ := own3 (h8.blk ((Ext.refl _).drew.blk hb8_7)))
                  | (go_simp; go_at_call 39; refine (HSP.out _ ((hx7.trans (Ext.refl _).drew).trans h8)).mono ?_; rintro e w9 ⟨b9, rfl, hc9, h9⟩))
                all_goals (
                  have X9 := ((Ext.refl w7).drew.trans h8).trans h9
                  have hs9 := X9.size
                  have hcp9 := strs_cell hc9 (j := 1) (by simp)
                  simp only [List.getElem_cons_succ, List.getElem_cons_zero] at hcp9 ⊢
                  have HC9 := Lib.hid hc9
                  clear hc9 hc8 s0 s1 s2 y0 y1 y2 f0 f1 f2
                  go_wp2_with fail
                  refine (cutPrefix_any Z [62] _).mono ?_
                  rintro e w10 ⟨rfl, rfl⟩
                  go_wp2_with fail
                  go_roundw
                  case rel => exact ⟨0 + 1, 3, b9, 3, [[40], [62], [41]], [[41]], ks', A6, c6, _, _, by go_num, rfl, Lib.hid rfl, Lib.hid rfl, by omega, by omega, HC9, rfl, Lib.hid (Nat.le_trans (trim_len _ _) HZ99.out), rfl, X9.blk hb8_7, X9.blk hb4_7, Lib.hid (HG9.out.ext X9), HLEN, hx7.trans X9, by omega, Lib.hid (by have := HPAR.out; rw [← HKS.out] at this; exact this), Lib.hid (fun h => absurd h (by omega))⟩
                  case measure => (simp [intOf]; try omega))
theorem readTerm_any : ∀ d : Nat, d ≤ 30 → RdC d
  | 0, _ => readTerm_zero
  | d + 1, h => readTerm_step d (by omega) (readTerm_any d (by omega))
end Go.Proofs.YtolkohncmidpeaaGreatDoor

/-
  Lemmas towards the law, 26: Put.
-/
import Derived.Test.YtdkamgafpphdjaaEAY
namespace Go.Proofs.Ytdkamgafpphdjaa
open Go.RowKit
set_option linter.unusedVariables false
attribute [local go_sem ↓] Go.wp_at_zero Go.wp_at_succ
/-- A tree whose part at a place is u. -/
def putA : Tr → List Int → Tr → Tr
  | _, [], u => u
  | .mk k n ks, i :: r, u => .mk k n (ks.set i.toNat (putA (kd ks i.toNat) r u))
theorem putA_nil (t u : Tr) : putA t [] u = u := by cases t; rfl
theorem kd_set {ks : List Tr} {i : Nat} (h : i < ks.length) (x : Tr) : kd (ks.set i x) i = x := by
  unfold kd
  rw [List.getD_eq_getElem?_getD, List.getElem?_set_self h]
  rfl
theorem set_kd {ks : List Tr} {i : Nat} (h : i < ks.length) : ks.set i (kd ks i) = ks := by
  unfold kd
  rw [List.getD_eq_getElem?_getD, List.getElem?_eq_getElem h]
  exact List.set_getElem_self h
theorem atT_putA : ∀ (p : List Int) (t u o : Tr), atT t p = some o → atT (putA t p u) p = some u ∧ putA (putA t p u) p o = t
  | [], t, u, o, h => by
    have e : t = o := by cases t; simpa [atT] using h
    subst e
    rw [putA_nil, putA_nil]
    exact ⟨by cases u; rfl, rfl⟩
  | i :: r, .mk k n ks, u, o, h => by
    rw [atT] at h
    split at h
    · rename_i hi
      obtain ⟨h1, h2⟩ := atT_putA r (kd ks i.toNat) u o h
      have hl : i.toNat < ks.length := by omega
      rw [putA, atT, List.length_set, if_pos hi, kd_set hl, putA, kd_set hl, h2, List.set_set, set_kd hl]
      exact ⟨h1, rfl⟩
    · cases h
theorem cnts_set : ∀ {ks : List Tr} {i : Nat} (h : i < ks.length) (x : Tr), cnts (ks.set i x) + cnt (kd ks i) = cnts ks + cnt x
  | t :: ts, 0, h, x => by simp [kd, cnts]; omega
  | t :: ts, i + 1, h, x => by
    have := cnts_set (ks := ts) (i := i) (by simpa using h) x
    rw [kd_cons, List.set_cons_succ, cnts, cnts]
    omega
theorem cnt_putA : ∀ (p : List Int) (t u o : Tr), atT t p = some o → cnt (putA t p u) + cnt o = cnt t + cnt u
  | [], t, u, o, h => by
    have e : t = o := by cases t; simpa [atT] using h
    subst e
    rw [putA_nil]
    omega
  | i :: r, .mk k n ks, u, o, h => by
    rw [atT] at h
    split at h
    · rename_i hi
      have h1 := cnt_putA r (kd ks i.toNat) u o h
      have h2 := cnts_set (ks := ks) (i := i.toNat) (by omega) (putA (kd ks i.toNat) r u)
      rw [putA, cnt, cnt]
      omega
    · cases h
theorem wpList_append_row3 {P : Program} (w : World) {ops : Array Oper} {rest : List Oper} {o : Oper} {a : Act} {Q : Exit → Act → World → Prop} (hgd : o.guard = none) (s x : Operand) (t : TypeId)
    (ho : o.op = .call { callee := .builtin .append, args := #[s, x], argTypes := #[t, t] })
    (base : Nat) (e : TypeId) (i : TypeInfo) (z : Value) (ht : P.underlying t = some (.slice e)) (hi : P.info? e = some i) (hz : i.zero = some z) (hsize : i.size = 3) (hby : i.bytes = 40) (hzs : z.cells.size = 3)
    {v : Value} {b0 o0 cap : Nat} {ks : List Tr} (hs : a.eval s = v) (hown : w.ownsRow base e 3 v 0 []) (hbase : base ≤ w.heap.size) (hx : a.eval x = .slice (some ⟨b0, o0, none⟩) ks.length cap) {S : Nat → Prop} (hS : ∀ b, S b → b < w.heap.size ∧ v.ownBlock ≠ some b) (hK : InL w S b0 o0 ks) (hn : ks.length ≤ 1048576) (h0 : 0 < ks.length)
    (h : ∀ (c' g : Nat) (cs : Array Value) (w' : World), w'.heap[g]? = some (.cells cs e (0, 0)) → base ≤ g → ks.length * 3 ≤ cs.size → RowL w' S cs.toList ks → ks.length ≤ c' → c' ≤ maxLen → w.grownBy w' v.ownBlock → wpList P ops Q rest (a.put o.dst (.slice (some ⟨g, 0, none⟩) ks.length c')) w') : wpList P ops Q (o :: rest) a w := by
  refine wpList_plain hgd fun K hK' => ?_
  obtain ⟨xs, n1, n2, n3, n4⟩ := hK.rowL
  obtain ⟨v', w', hr, r1, r2, r3⟩ := run_append_own' (P := P) w base t o.type e i z 3 40 ht hi hz hsize hby hzs (by decide) v 0 [] hown ⟨b0, o0, none⟩ ks.length cap xs n1 (fun j u hu => by rw [Addr.add_lit]; exact n2 j u hu) n3 (by unfold maxLen; omega) (by omega) hbase
  rw [Nat.zero_add, List.nil_append] at r1
  unfold Oper.wp execOp
  simp only [ho, resolve, invoke, builtin, Sem.run_bind, Sem.run_pure, Result.andThen_ok, List.map_toArray, List.map_cons, List.map_nil, hs, hx, hr]
  rcases r1.2 with ⟨-, h5⟩ | ⟨g, c', cs, rfl, hb, hg, hnc, hcm, hcs, ht'⟩
  · omega
  · refine hK' _ _ (h c' g cs w' hg hb (by rw [hcs]; exact Nat.mul_le_mul_right _ hnc) ?_ hnc hcm r2)
    have h6 := RowL.tail (cs.toList.drop (ks.length * 3)) (n4.mono (fun _ h => h) (fun b hb => r2.block b (hS b hb).1 (fun he => (hS b hb).2 he.symm)))
    rw [← ht', List.take_append_drop] at h6
    exact h6
theorem infoTermP2 : (Try.prog.info? 27).map (fun i => (i.zero, i.size, i.bytes)) = some (some (.agg #[.int .i64 0, .int .i64 0, .slice none 0 0]), 3, 40) := by kernel_rfl
set_option maxRecDepth 100000 in
set_option maxHeartbeats 1000000 in
theorem cloneTerms_any (ks : List Tr) (w : World) (S : Nat → Prop) (hS : ∀ b, S b → b < w.heap.size) (b o cap : Nat) (hb : S b) (hK : InL w S b o ks) (hn : ks.length ≤ 1048576) (h0 : 0 < ks.length) : Calls Try.prog 63 #[.slice (some ⟨b, o, none⟩) ks.length cap] w fun e w' =>
    ∃ (c g : Nat) (cs : Array Value), e = .returned (.slice (some ⟨g, 0, none⟩) ks.length c) ∧ w'.heap[g]? = some (.cells cs 27 (0, 0)) ∧ w.heap.size ≤ g ∧ ks.length * 3 ≤ cs.size ∧ RowL w' S cs.toList ks ∧ ks.length ≤ c ∧ c ≤ maxLen ∧ Ext w w' := by
  obtain ⟨i0, hi, hz0, hz1, hz2⟩ := info_parts infoTermP2
  have hx := (Ext.refl w).alloc (.cells #[] 27)
  have hK2 : InL (w.alloc (.cells #[] 27)) S b o ks := InL.mono (fun _ h => h) (fun x hx' => hx.heap x (hS x hx')) hb hK
  have hG : (w.alloc (.cells #[] 27)).ownsRow w.heap.size 27 3 (.slice (some ⟨w.heap.size, 0, none⟩) 0 0) 0 [] := World.ownsRow_lit w #[] 0 (Nat.le_refl _) (Nat.zero_le _) rfl
  have hnil : ∀ W, (binOp .eql 25 (.slice (some ⟨b, o, none⟩) ks.length cap) (.slice none 0 0)).run Try.prog W = .ok (.bool false) W := fun W => Lib.run_eql_slice_nil W 25 _ (some ⟨b, o, none⟩) ks.length cap 0 0 Try.underlying25
  clear hK
  go_enter Try.func63, Try.ntmps63
  go_wp2_with (at_builtin; refine wpList_append_row3 _ rfl (.tmp 5) (.tmp 6) 25 rfl w.heap.size 27 i0 _ Try.underlying25 hi hz0 hz1 hz2 rfl (S := S) (v := .slice (some ⟨w.heap.size, 0, none⟩) 0 0) rfl hG (by simp) rfl (fun y hy => ⟨by have h9 : y < w.heap.size := hS y hy; simp; omega, by have h9 : y < w.heap.size := hS y hy; simp [Value.ownBlock]; omega⟩) hK2 hn h0 ?_)
  intro c g cs w' r1 r2 r3 r4 r5 r6 r7
  have hE : Ext w w' := hx.grown r7 (by intro k hk; simp [Value.ownBlock] at hk; omega)
  go_wp2_with fail
  go_ret
  exact ⟨c, g, cs, rfl, r1, r2, r3, r4, r5, r6, hE⟩
/-- A slice of numbers that holds p. -/
structure PFs (w : World) (A : Option Addr) (n cap : Nat) (p : List Int) : Prop where
  hn : p.length = n
  hl : n ≤ cap
  hc : cap ≤ maxLen
  hP : Nums w A p
theorem PFs.ext {w w' : World} {A : Option Addr} {n cap : Nat} {p : List Int} (h : PFs w A n cap p) (he : Ext w w') : PFs w' A n cap p := ⟨h.hn, h.hl, h.hc, h.hP.ext he⟩
/-- 'path[1:]'. -/
theorem PFs.tail {w : World} {b o n cap : Nat} {i : Int} {r : List Int} (h : PFs w (some ⟨b, o, none⟩) n cap (i :: r)) : PFs w (if cap = 1 then some ⟨b, o, none⟩ else some ⟨b, o + 1, none⟩) (n - 1) (cap - 1) r := by
  obtain ⟨h1, h2, h3, h4⟩ := h
  simp only [List.length_cons] at h1
  refine ⟨by omega, by omega, by omega, ?_⟩
  by_cases hc : cap = 1
  · exact .inl (List.eq_nil_of_length_eq_zero (by omega))
  · rw [if_neg hc]
    rcases h4 with h4 | ⟨b', o', he, hb, hcell⟩
    · cases h4
    · simp only [Option.some.injEq, Addr.mk.injEq, and_true] at he
      obtain ⟨rfl, rfl⟩ := he
      refine .inr ⟨b, o + 1, rfl, hb, fun j hj => ?_⟩
      have := hcell (j + 1) (by simpa using hj)
      rwa [show o + (j + 1) = o + 1 + j by omega] at this
def PutC (p : List Int) : Prop := ∀ (t u : Tr) (d : Int), shape sigT t d = true → (atT t p).isSome = true → ∀ (w : World) (vt vu : Value) (S : Nat → Prop), (∀ b, S b → b < w.heap.size) → InT w S t vt → InT w S u vu → ∀ (A : Option Addr) (n cap : Nat), PFs w A n cap p → n ≤ 1000 → cnt t ≤ 1000000 →
  Calls Try.prog 78 #[vt, .slice A n cap, vu] w fun e w' => ∃ x, e = .returned x ∧ InT w' (fun b => S b ∨ w.heap.size ≤ b ∧ b < w'.heap.size) (putA t p u) x ∧ Ext w w'
set_option maxRecDepth 100000 in
set_option maxHeartbeats 4000000 in
theorem put_any : ∀ p : List Int, PutC p := fun p => by
  induction p with
  | nil =>
    intro t u d hsh hat w vt vu S hS hT hU A n cap hp hn1 hcn
    obtain ⟨k, nn, ks⟩ := t
    obtain ⟨At, ct, rfl, hlt, hct, hKt⟩ := InT.mk_iff.1 hT
    obtain ⟨ku, nu, us⟩ := u
    have hU0 := hU
    obtain ⟨Au, cu, rfl, hlu, hcu, hKu⟩ := InT.mk_iff.1 hU
    have hn0 : n = 0 := hp.hn.symm
    subst hn0
    have hx0 := (((Ext.refl w).alloc (.cells #[.int .i64 k, .int .i64 nn, .slice At ks.length ct] 27)).alloc (.cells #[.int .i64 ku, .int .i64 nu, .slice Au us.length cu] 27)).alloc (.cells #[.int .i64 0, .int .i64 0, .slice none 0 0] 27)
    obtain ⟨hb0, hb1, hb2, hs2⟩ := blk3 (Ext.refl (((w.alloc (.cells #[.int .i64 k, .int .i64 nn, .slice At ks.length ct] 27)).alloc (.cells #[.int .i64 ku, .int .i64 nu, .slice Au us.length cu] 27)).alloc (.cells #[.int .i64 0, .int .i64 0, .slice none 0 0] 27)))
    go_enter Try.func78, Try.ntmps78
    go_wp2_with fail
    rw [putA_nil]
    refine bodyPost_ret (v := .agg #[.int .i64 ku, .int .i64 nu, .slice Au us.length cu]) (by simp [results, Try.results78, go_sem]) rfl ⟨_, rfl, ?_, ?_⟩
    · exact InT.mono (fun b hb => .inl hb) (fun b hb => ((((Ext.refl w).alloc _).alloc _).alloc _).heap b (hS b hb)) hU0
    · exact (((Ext.refl w).alloc _).alloc _).alloc _
  | cons i r ih =>
    intro t u d hsh hat w vt vu S hS hT hU A n cap hp hn1 hcn
    obtain ⟨k, nn, ks⟩ := t
    obtain ⟨At, ct, rfl, hlt, hct, hKt⟩ := InT.mk_iff.1 hT
    obtain ⟨ku, nu, us⟩ := u
    have hU0 := hU
    obtain ⟨Au, cu, rfl, hlu, hcu, hKu⟩ := InT.mk_iff.1 hU
    have hn0 : n = r.length + 1 := by have := hp.hn; simpa using this.symm
    obtain ⟨b1, o1, rfl, cp⟩ := hp.hP.get (Ext.refl w) (j := 0) (by simp)
    simp only [List.getElem_cons_zero, Nat.add_zero] at cp
    have hi : 0 ≤ i ∧ i < ks.length := by
      rw [atT] at hat
      split at hat
      · assumption
      · cases hat
    rw [atT, if_pos hi] at hat
    obtain ⟨m, rfl⟩ := Int.eq_ofNat_of_zero_le hi.1
    have hm : m < ks.length := by omega
    have hmt : ((m : Int)).toNat = m := by omega
    rw [hmt] at hat
    have hput : putA (.mk k nn ks) ((m : Int) :: r) (.mk ku nu us) = .mk k nn (ks.set m (putA (kd ks m) r (.mk ku nu us))) := by rw [putA, hmt]
    rw [hput]
    obtain ⟨b, o, k2, n2, A2, c2, kids2, rfl, hSb, hkm, d0, d1, d2, hkl2, hkc2, hK2⟩ := InK.at_ hKt hm
    have hkd : kd ks m = .mk k2 n2 kids2 := kd_of hm hkm
    obtain ⟨-, -, -, hsk⟩ := shape_kids hsh
    have hsk2 : shape sigT (.mk k2 n2 kids2) (d - 1) = true := by have := hsk _ (List.getElem_mem hm); rwa [hkm] at this
    have hT2 : InT w S (.mk k2 n2 kids2) (.agg #[.int .i64 k2, .int .i64 n2, .slice A2 kids2.length c2]) := InT.mk_iff.2 ⟨A2, c2, rfl, hkl2, hkc2, hK2⟩
    have hcm : cnt (.mk k2 n2 kids2) ≤ cnts ks := by have := cnt_mem (List.getElem_mem hm); rwa [hkm] at this
    simp only [cnt] at hcn
    rw [hkd] at hat ⊢
    have hKL : InL w S b o ks := by
      rcases hKt with h | ⟨b', o', he, -, hh⟩
      · subst h; simp at hm
      · simp only [Option.some.injEq, Addr.mk.injEq, and_true] at he
        obtain ⟨rfl, rfl⟩ := he
        exact hh
    have hlc := len_le_cnts ks
    have hbw := hS b hSb
    have hb1w : b1 < w.heap.size := World.block_lt_of_cell? _ _ cp
    have hx0 := (((Ext.refl w).alloc (.cells #[.int .i64 k, .int .i64 nn, .slice (some ⟨b, o, none⟩) ks.length ct] 27)).alloc (.cells #[.int .i64 ku, .int .i64 nu, .slice Au us.length cu] 27)).alloc (.cells #[.int .i64 0, .int .i64 0, .slice none 0 0] 27)
    obtain ⟨hb0, hbu, hbr, hs2⟩ := blk3 (Ext.refl (((w.alloc (.cells #[.int .i64 k, .int .i64 nn, .slice (some ⟨b, o, none⟩) ks.length ct] 27)).alloc (.cells #[.int .i64 ku, .int .i64 nu, .slice Au us.length cu] 27)).alloc (.cells #[.int .i64 0, .int .i64 0, .slice none 0 0] 27)))
    have hpt := hp.tail
    have hcpb : n ≤ cap := hp.hl
    have hcpm : cap ≤ maxLen := hp.hc
    unfold maxLen at hcpm
    obtain ⟨AD, hAD⟩ : ∃ AD, (if cap = 1 then some (⟨b1, o1, none⟩ : Addr) else some ⟨b1, o1 + 1, none⟩) = AD := ⟨_, rfl⟩
    rw [hAD] at hpt
    have HAD := Lib.hid hAD
    have hnz : ((n : Int) == 0) = false := beq_eq_false_iff_ne.2 (by omega)
    have hnz2 : (n == 0) = false := beq_eq_false_iff_ne.2 (by omega)
    have hn2 : (0 : Int) < (n : Int) := by omega
    have hn3 : (1 : Int) ≤ (n : Int) := by omega
    have hn6 : 0 < n := by omega
    have hn7 : 1 ≤ n := by omega
    have hn8 : 1 ≤ cap := by omega
    have hn4 : (1 : Int) ≤ (cap : Int) := by omega
    have hn5 : (n : Int) ≤ (cap : Int) := by omega
    have hm2 : (m : Int) < (ks.length : Int) := by omega
    have hm3 : (0 : Int) ≤ (m : Int) := by omega
    clear hAD hput hsk hkm hmt hi hn0 hT hU hkd
    go_enter Try.func78, Try.ntmps78
    go_wp2_with fail
    generalize World.alloc (World.alloc (World.alloc w _) _) _ = wS at hx0 hb0 hbu hbr hs2 ⊢
    obtain ⟨z0, z1, z2, -, -, -⟩ := own3 hb0
    have HS3 := Lib.hid (show ∀ w', Ext wS w' → w'.cell? ⟨w.heap.size, 0, none⟩ = some (.int .i64 k) ∧ w'.cell? ⟨w.heap.size, 1, none⟩ = some (.int .i64 nn) ∧ w'.cell? ⟨w.heap.size, 2, none⟩ = some (.slice (some ⟨b, o, none⟩) ks.length ct) from fun w' hw => ⟨hw.cell z0, hw.cell z1, hw.cell z2⟩)
    have X0 : Ext wS wS.drew := (Ext.refl wS).drew
    have hSS : ∀ y, S y → y < wS.heap.size := fun y hy => by have := hS y hy; have := hx0.size; omega
    have hKS : InL wS S b o ks := InL.mono (fun _ h => h) (fun y hy => hx0.heap y (hS y hy)) hSb hKL
    have hgoal : ∀ V, Ext wS V → InL V S b o ks := fun V hV => InL.mono (fun _ h => h) (fun y hy => hV.heap y (hSS y hy)) hSb hKS
    have HKV := Lib.hid hgoal
    clear hgoal z0 z1 z2
    go_region_held3 (fun w' => w'.cell? ⟨w.heap.size, 0, none⟩ = some (.int .i64 k) ∧ w'.cell? ⟨w.heap.size, 1, none⟩ = some (.int .i64 nn) ∧ w'.cell? ⟨w.heap.size, 2, none⟩ = some (.slice (some ⟨b, o, none⟩) ks.length ct))
      (first | exact HS3.out _ (((hxd.setCell (p := ⟨wS.heap.size, 0, none⟩) (Nat.le_refl _) _).setCell (p := ⟨wS.heap.size, 1, none⟩) (Nat.le_refl _) _).setCell (p := ⟨wS.heap.size, 2, none⟩) (Nat.le_refl _) _) | exact HS3.out _ (hxd.alloc _) | exact HS3.out _ hxd | exact HS3.out _ X0 | exact HS3.out _ (X0.alloc _) | exact HS3.out _ ((Ext.refl wS).alloc _).drew)
      (first | (go_at_call 63; refine (cloneTerms_any ks _ S (fun y hy => Nat.lt_of_lt_of_le (hSS y hy) (Ext.size (by first | exact X0 | exact X0.alloc _ | exact ((Ext.refl wS).alloc _).drew))) b o ct hSb (HKV.out _ (by first | exact X0 | exact X0.alloc _ | exact ((Ext.refl wS).alloc _).drew)) (by omega) (by omega)).mono ?_; rintro e wd ⟨c, g, cs, rfl, hrow, hgl, hcs, hRl, hc1, hc2', ed⟩; have hxd : Ext wS wd := (by first | exact X0.trans ed | exact (X0.alloc _).trans ed | exact (((Ext.refl wS).alloc _).drew).trans ed); (first | (have qb : wd.heap[wS.heap.size]? = some (.cells #[.int .i64 0, .int .i64 0, .slice none 0 0] 27 (0, 0)) := ed.blk (heap_alloc_new wS.drew (.cells #[.int .i64 0, .int .i64 0, .slice none 0 0] 27)); have hgb : wS.heap.size < g := (by simp at hgl; omega); obtain ⟨sa, sb, sc, fa, fb, fc⟩ := own3 qb) | (have qb : wd.heap[wS.heap.size]? = some (.cells #[.int .i64 0, .int .i64 0, .slice none 0 0] 27 (0, 0)) := ed.blk (heap_alloc_new wS (.cells #[.int .i64 0, .int .i64 0, .slice none 0 0] 27)); have hgb : wS.heap.size < g := (by simp at hgl; omega); obtain ⟨sa, sb, sc, fa, fb, fc⟩ := own3 qb) | (have qb := trivial; have hgb := trivial))))
    all_goals have hws : w.heap.size + 3 ≤ wS.heap.size := by omega
    all_goals have hgS : wS.heap.size ≤ g := by have h9 := hgl; simp at h9; omega
    all_goals (first
      | (have en : Ext wS (wd.alloc (.cells #[.int .i64 k, .int .i64 nn, .slice (some ⟨g, 0, none⟩) ks.length c] 27)) := hxd.alloc _; have bn := heap_alloc_new wd (.cells #[.int .i64 k, .int .i64 nn, .slice (some ⟨g, 0, none⟩) ks.length c] 27); have rn := ((Ext.refl wd).alloc (.cells #[.int .i64 k, .int .i64 nn, .slice (some ⟨g, 0, none⟩) ks.length c] 27)).blk hrow; have Rn : RowL (wd.alloc (.cells #[.int .i64 k, .int .i64 nn, .slice (some ⟨g, 0, none⟩) ks.length c] 27)) S cs.toList ks := hRl.mono (fun _ h => h) (fun y hy => Below.heap_alloc wd _ y (by have := hSS y hy; have := hxd.size; omega)); have gne : wd.heap.size ≠ g := (by have := lt_of_blk hrow; omega); have gw : wS.heap.size ≤ wd.heap.size := hxd.size; obtain ⟨w7, hw7⟩ : ∃ x, x = wd.alloc (.cells #[.int .i64 k, .int .i64 nn, .slice (some ⟨g, 0, none⟩) ks.length c] 27) := ⟨_, rfl⟩; rw [← hw7]; rw [← hw7] at en bn rn Rn; clear hw7; obtain ⟨g7, hg7⟩ : ∃ x, x = wd.heap.size := ⟨_, rfl⟩; rw [← hg7] at bn gne gw ⊢; clear hg7)
      | (have en : Ext wS (((wd.setCell ⟨wS.heap.size, 0, none⟩ (.int .i64 k)).setCell ⟨wS.heap.size, 1, none⟩ (.int .i64 nn)).setCell ⟨wS.heap.size, 2, none⟩ (.slice (some ⟨g, 0, none⟩) ks.length c)) := ((hxd.setCell (p := ⟨wS.heap.size, 0, none⟩) (Nat.le_refl _) _).setCell (p := ⟨wS.heap.size, 1, none⟩) (Nat.le_refl _) _).setCell (p := ⟨wS.heap.size, 2, none⟩) (Nat.le_refl _) _; have bn := blk_setCell (blk_setCell (blk_setCell qb 0 (.int .i64 k)) 1 (.int .i64 nn)) 2 (.slice (some ⟨g, 0, none⟩) ks.length c); have rn := blk_setCell_ne (blk_setCell_ne (blk_setCell_ne hrow (p := ⟨wS.heap.size, 0, none⟩) (by show g ≠ wS.heap.size; omega) (.int .i64 k)) (p := ⟨wS.heap.size, 1, none⟩) (by show g ≠ wS.heap.size; omega) (.int .i64 nn)) (p := ⟨wS.heap.size, 2, none⟩) (by show g ≠ wS.heap.size; omega) (.slice (some ⟨g, 0, none⟩) ks.length c); have Rn : RowL (((wd.setCell ⟨wS.heap.size, 0, none⟩ (.int .i64 k)).setCell ⟨wS.heap.size, 1, none⟩ (.int .i64 nn)).setCell ⟨wS.heap.size, 2, none⟩ (.slice (some ⟨g, 0, none⟩) ks.length c)) S cs.toList ks := hRl.mono (fun _ h => h) (fun y hy => by have h8 := hSS y hy; rw [Below.heap_setCell _ _ _ _ (by show y ≠ wS.heap.size; omega), Below.heap_setCell _ _ _ _ (by show y ≠ wS.heap.size; omega), Below.heap_setCell _ _ _ _ (by show y ≠ wS.heap.size; omega)]); have gne : wS.heap.size ≠ g := (by omega); obtain ⟨w7, hw7⟩ : ∃ x, x = (((wd.setCell ⟨wS.heap.size, 0, none⟩ (.int .i64 k)).setCell ⟨wS.heap.size, 1, none⟩ (.int .i64 nn)).setCell ⟨wS.heap.size, 2, none⟩ (.slice (some ⟨g, 0, none⟩) ks.length c)) := ⟨_, rfl⟩; rw [← hw7]; rw [← hw7] at en bn rn Rn; clear hw7; obtain ⟨g7, hg7⟩ : ∃ x, x = wS.heap.size := ⟨_, rfl⟩; have gw : wS.heap.size ≤ g7 := (by rw [hg7]; exact Nat.le_refl _); rw [← hg7] at bn gne ⊢; clear hg7))
    all_goals (
      try clear sa sb sc fa fb fc
      clear qb hgb hxd ed hrow hRl hgl X0 HS3
      have hE7 : Ext w w7 := hx0.trans en
      obtain ⟨y0, y1, y2, -, -, -⟩ := own3 bn
      obtain ⟨-, -, t2, -, -, -⟩ := own3 (en.blk hb0)
      obtain ⟨v0, v1, v2, -, -, -⟩ := own3 (en.blk hbu)
      have p0 := hE7.cell cp
      have q0 := hE7.cell d0
      have q1 := hE7.cell d1
      have q2 := hE7.cell d2
      have hg7 : g7 < w7.heap.size := lt_of_blk bn
      have hgr : g < w7.heap.size := lt_of_blk rn
      have HS4 := Lib.hid (show ∀ w' : World, (∀ y, y < w7.heap.size → y ≠ g → w'.heap[y]? = w7.heap[y]?) → w'.cell? ⟨g7, 2, none⟩ = some (.slice (some ⟨g, 0, none⟩) ks.length c) ∧ w'.cell? ⟨w.heap.size, 2, none⟩ = some (.slice (some ⟨b, o, none⟩) ks.length ct) ∧ w'.cell? ⟨b1, o1, none⟩ = some (.int .i64 m) ∧ w'.cell? ⟨b, o + m * 3, none⟩ = some (.int .i64 k2) ∧ w'.cell? ⟨b, o + m * 3 + 1, none⟩ = some (.int .i64 n2) ∧ w'.cell? ⟨b, o + m * 3 + 2, none⟩ = some (.slice A2 kids2.length c2) ∧ w'.cell? ⟨w.heap.size + 1, 0, none⟩ = some (.int .i64 ku) ∧ w'.cell? ⟨w.heap.size + 1, 1, none⟩ = some (.int .i64 nu) ∧ w'.cell? ⟨w.heap.size + 1, 2, none⟩ = some (.slice Au us.length cu) from fun w' hw => by
        have f : ∀ (y j : Nat) (x : Value), y < w7.heap.size → y ≠ g → w7.cell? ⟨y, j, none⟩ = some x → w'.cell? ⟨y, j, none⟩ = some x := fun y j x h1 h2 h3 => (World.cell?_of_block (a := ⟨y, j, none⟩) (hw y h1 h2)).trans h3
        exact ⟨f _ _ _ hg7 gne y2, f _ _ _ (by omega) (by omega) t2, f _ _ _ (by omega) (by omega) p0, f _ _ _ (by omega) (by omega) q0, f _ _ _ (by omega) (by omega) q1, f _ _ _ (by omega) (by omega) q2, f _ _ _ (by omega) (by omega) v0, f _ _ _ (by omega) (by omega) v1, f _ _ _ (by omega) (by omega) v2⟩)
      have X7 : Ext w7 w7.drew := (Ext.refl w7).drew
      have hS7 : ∀ y, S y → y < w7.heap.size := fun y hy => by have := hS y hy; omega
      go_wp2_with fail
      clear y0 y1 y2 t2 v0 v1 v2 p0 q0 q1 q2
      go_region_held3 (fun w' => w'.cell? ⟨g7, 2, none⟩ = some (.slice (some ⟨g, 0, none⟩) ks.length c) ∧ w'.cell? ⟨w.heap.size, 2, none⟩ = some (.slice (some ⟨b, o, none⟩) ks.length ct) ∧ w'.cell? ⟨b1, o1, none⟩ = some (.int .i64 m) ∧ w'.cell? ⟨b, o + m * 3, none⟩ = some (.int .i64 k2) ∧ w'.cell? ⟨b, o + m * 3 + 1, none⟩ = some (.int .i64 n2) ∧ w'.cell? ⟨b, o + m * 3 + 2, none⟩ = some (.slice A2 kids2.length c2) ∧ w'.cell? ⟨w.heap.size + 1, 0, none⟩ = some (.int .i64 ku) ∧ w'.cell? ⟨w.heap.size + 1, 1, none⟩ = some (.int .i64 nu) ∧ w'.cell? ⟨w.heap.size + 1, 2, none⟩ = some (.slice Au us.length cu))
        (first | exact HS4.out _ (fun y h1 h2 => by rw [Below.heap_setCell _ _ _ _ h2, Below.heap_setCell _ _ _ _ h2, Below.heap_setCell _ _ _ _ h2]; exact hx8.heap y h1) | exact HS4.out _ (fun y h1 _ => hx8.heap y h1) | exact HS4.out _ (fun y h1 _ => X7.heap y h1))
        (first | (go_at_call 78; (try rw [HAD.out]); refine (ih _ _ (d - 1) hsk2 hat w7.drew _ _ S (fun y hy => hS7 y hy) (InT.mono (fun _ h => h) (fun y hy => (hE7.trans X7).heap y (hS y hy)) hT2) (InT.mono (fun _ h => h) (fun y hy => (hE7.trans X7).heap y (hS y hy)) hU0) _ _ _ (hpt.ext (hE7.trans X7)) (by omega) (by omega)).mono ?_; rintro e w8 ⟨x, rfl, hX8, e8⟩; have hx8 : Ext w7 w8 := X7.trans e8; have hX9 := hX8; obtain ⟨x1, x2, x3, x4, x5, rfl⟩ := InT.three hX9; clear hX9; obtain ⟨u0, u1, u2, r0, r1, r2, f0, f1, f2⟩ := cells3 (i := m * 3) (hx8.blk rn) (by omega)))
      clear u0 u1 u2 r0 r1 r2 f0 f1 f2 HS4 X7 e8 HAD
      have rn9 := blk_setCell (blk_setCell (blk_setCell (hx8.blk rn) (m * 3) (.int .i64 x1)) (m * 3 + 1) (.int .i64 x2)) (m * 3 + 2) (.slice x3 x4 x5)
      have keep : ∀ y, y ≠ g → (((w8.setCell ⟨g, m * 3, none⟩ (.int .i64 x1)).setCell ⟨g, m * 3 + 1, none⟩ (.int .i64 x2)).setCell ⟨g, m * 3 + 2, none⟩ (.slice x3 x4 x5)).heap[y]? = w8.heap[y]? := fun y hy => by rw [Below.heap_setCell _ _ _ _ hy, Below.heap_setCell _ _ _ _ hy, Below.heap_setCell _ _ _ _ hy]
      have hsz9 : (((w8.setCell ⟨g, m * 3, none⟩ (.int .i64 x1)).setCell ⟨g, m * 3 + 1, none⟩ (.int .i64 x2)).setCell ⟨g, m * 3 + 2, none⟩ (.slice x3 x4 x5)).heap.size = w8.heap.size := by simp
      have hE9 : Ext w (((w8.setCell ⟨g, m * 3, none⟩ (.int .i64 x1)).setCell ⟨g, m * 3 + 1, none⟩ (.int .i64 x2)).setCell ⟨g, m * 3 + 2, none⟩ (.slice x3 x4 x5)) := (((hE7.trans hx8).setCell (p := ⟨g, m * 3, none⟩) (by show w.heap.size ≤ g; omega) _).setCell (p := ⟨g, m * 3 + 1, none⟩) (by show w.heap.size ≤ g; omega) _).setCell (p := ⟨g, m * 3 + 2, none⟩) (by show w.heap.size ≤ g; omega) _
      obtain ⟨w9, hw9⟩ : ∃ x, x = (((w8.setCell ⟨g, m * 3, none⟩ (.int .i64 x1)).setCell ⟨g, m * 3 + 1, none⟩ (.int .i64 x2)).setCell ⟨g, m * 3 + 2, none⟩ (.slice x3 x4 x5)) := ⟨_, rfl⟩
      rw [← hw9] at rn9 keep hsz9 hE9 ⊢
      clear hw9
      have hs78 := hx8.size
      have bn9 := (keep g7 gne).trans (hx8.blk bn)
      have br9 := (keep (w.heap.size + 1 + 1) (by omega)).trans (hx8.blk (en.blk hbr))
      have Rn9 : RowL w9 (fun y => S y ∨ w.heap.size + 3 ≤ y ∧ y < w9.heap.size) cs.toList ks := Rn.mono (fun y hy => .inl hy) (fun y hy => (keep y (by have := hS y hy; omega)).trans (hx8.heap y (hS7 y hy)))
      have hX9 : InT w9 (fun y => S y ∨ w.heap.size + 3 ≤ y ∧ y < w9.heap.size) (putA (.mk k2 n2 kids2) r (.mk ku nu us)) (.agg #[.int .i64 x1, .int .i64 x2, .slice x3 x4 x5]) := InT.mono (fun y hy => by
          rcases hy with hy | hy
          · exact .inl hy
          · have h9 : w7.heap.size ≤ y := hy.1
            have h8 := hy.2
            exact .inr ⟨by omega, by omega⟩) (fun y hy => keep y (by
          rcases hy with hy | hy
          · have := hS y hy; omega
          · have h9 : w7.heap.size ≤ y := hy.1
            omega)) hX8
      have hR9 := RowL.set hX9 m Rn9
      have hK9 := RowL.inL rn9 (pre := []) hR9 (by simp [Array.toList_setIfInBounds])
      have HK9 := Lib.hid hK9
      have HKP := Lib.hid hE9
      obtain ⟨y0, y1, y2, -, -, -⟩ := own3 bn9
      obtain ⟨s0, s1, s2, f0, f1, f2⟩ := own3 br9
      have hwg : w.heap.size + 1 + 1 < w9.heap.size := lt_of_blk br9
      have hgg : g < w9.heap.size := lt_of_blk rn9
      clear keep hE9 hK9 hR9 hX9 Rn9 Rn rn rn9 bn bn9 br9 hX8 hb0 hbu hbr HKV
      go_wp2_with fail
      refine bodyPost_ret (v := .agg #[.int .i64 k, .int .i64 nn, .slice (some ⟨g, 0, none⟩) ks.length c]) (by simp [results, Try.results78, go_sem, s0, s1, s2]) rfl ⟨_, rfl, ?_, ?_⟩
      · refine InT.mk_iff.2 ⟨some ⟨g, 0, none⟩, c, by rw [List.length_set], by rw [List.length_set]; exact hc1, hc2', .inr ⟨g, 0, rfl, .inr ⟨by omega, by simpa using hgg⟩, ?_⟩⟩
        refine InL.mono (S := fun y => S y ∨ w.heap.size + 3 ≤ y ∧ y < w9.heap.size) (fun y hy => ?_) (fun y hy => ?_) (.inr ⟨by omega, hgg⟩) HK9.out
        · rcases hy with hy | hy
          · exact .inl hy
          · exact .inr ⟨by omega, by simpa using hy.2⟩
        · have hne : y ≠ w.heap.size + 1 + 1 := by
            rcases hy with hy | hy
            · have := hS y hy; omega
            · omega
          rw [Below.heap_setCell _ _ _ _ hne, Below.heap_setCell _ _ _ _ hne, Below.heap_setCell _ _ _ _ hne]
      · exact ((HKP.out.setCell (by show w.heap.size ≤ w.heap.size + 1 + 1; omega) _).setCell (by show w.heap.size ≤ w.heap.size + 1 + 1; omega) _).setCell (by show w.heap.size ≤ w.heap.size + 1 + 1; omega) _)
end Go.Proofs.Ytdkamgafpphdjaa

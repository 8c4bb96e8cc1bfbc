/-
  spec.l8Put, PutAt.
-/
import Derived.Test.YtjgdckkeojehoaaWalked2
import Derived.Test.YtjgdckkeojehoaaRow
import Derived.Deep.RegionHeld3
import Derived.Test.YtjgdckkeojehoaaCopyTop
import Derived.Test.YtjgdckkeojehoaaCopy
namespace Go.Proofs.Ytjgdckkeojehoaa
open Go.RowKit
set_option linter.unusedVariables false
attribute [local go_sem ↓] Go.wp_at_zero Go.wp_at_succ

/-- A tree whose part at a place is u. -/
def putA : Tr → List Int → Tr → Tr
  | _, [], u => u
  | .mk k n ks, i :: r, u => .mk k n (ks.set i.toNat (putA (kd ks i.toNat) r u))
theorem putA_nil (t u : Tr) : putA t [] u = u := by cases t; rfl
theorem kd_set {ks : List Tr} {i : Nat} (h : i < ks.length) (x : Tr) : kd (ks.set i x) i = x := by
  unfold kd
  rw [List.getD_eq_getElem?_getD, List.getElem?_set_self h]
  rfl
theorem set_kd {ks : List Tr} {i : Nat} (h : i < ks.length) : ks.set i (kd ks i) = ks := by
  unfold kd
  rw [List.getD_eq_getElem?_getD, List.getElem?_eq_getElem h]
  exact List.set_getElem_self h
theorem atT_putA : ∀ (p : List Int) (t u o : Tr), atT t p = some o → atT (putA t p u) p = some u ∧ putA (putA t p u) p o = t
  | [], t, u, o, h => by
    have e : t = o := by cases t; simpa [atT] using h
    subst e
    rw [putA_nil, putA_nil]
    exact ⟨by cases u; rfl, rfl⟩
  | i :: r, .mk k n ks, u, o, h => by
    rw [atT] at h
    split at h
    · rename_i hi
      obtain ⟨h1, h2⟩ := atT_putA r (kd ks i.toNat) u o h
      have hl : i.toNat < ks.length := by omega
      rw [putA, atT, List.length_set, if_pos hi, kd_set hl, putA, kd_set hl, h2, List.set_set, set_kd hl]
      exact ⟨h1, rfl⟩
    · cases h
theorem cnts_set : ∀ {ks : List Tr} {i : Nat} (h : i < ks.length) (x : Tr), cnts (ks.set i x) + cnt (kd ks i) = cnts ks + cnt x
  | t :: ts, 0, h, x => by simp [kd, cnts]; omega
  | t :: ts, i + 1, h, x => by
    have := cnts_set (ks := ts) (i := i) (by simpa using h) x
    rw [kd_cons, List.set_cons_succ, cnts, cnts]
    omega
theorem cnt_putA : ∀ (p : List Int) (t u o : Tr), atT t p = some o → cnt (putA t p u) + cnt o = cnt t + cnt u
  | [], t, u, o, h => by
    have e : t = o := by cases t; simpa [atT] using h
    subst e
    rw [putA_nil]
    omega
  | i :: r, .mk k n ks, u, o, h => by
    rw [atT] at h
    split at h
    · rename_i hi
      have h1 := cnt_putA r (kd ks i.toNat) u o h
      have h2 := cnts_set (ks := ks) (i := i.toNat) (by omega) (putA (kd ks i.toNat) r u)
      rw [putA, cnt, cnt]
      omega
    · cases h
theorem wpList_append_row3 {P : Program} (w : World) {ops : Array Oper} {rest : List Oper} {o : Oper} {a : Act} {Q : Exit → Act → World → Prop} (hgd : o.guard = none) (s x : Operand) (t : TypeId)
    (ho : o.op = .call { callee := .builtin .append, args := #[s, x], argTypes := #[t, t] })
    (base : Nat) (e : TypeId) (i : TypeInfo) (z : Value) (ht : P.underlying t = some (.slice e)) (hi : P.info? e = some i) (hz : i.zero = some z) (hsize : i.size = 3) (hby : i.bytes = 40) (hzs : z.cells.size = 3)
    {v : Value} {b0 o0 cap : Nat} {ks : List Tr} (hs : a.eval s = v) (hown : w.ownsRow base e 3 v 0 []) (hbase : base ≤ w.heap.size) (hx : a.eval x = .slice (some ⟨b0, o0, none⟩) ks.length cap) {S : Nat → Prop} (hS : ∀ b, S b → b < w.heap.size ∧ v.ownBlock ≠ some b) (hK : InL w S b0 o0 ks) (hn : ks.length ≤ 1048576) (h0 : 0 < ks.length)
    (h : ∀ (c' g : Nat) (cs : Array Value) (w' : World), w'.heap[g]? = some (.cells cs e (0, 0)) → base ≤ g → ks.length * 3 ≤ cs.size → RowL w' S cs.toList ks → ks.length ≤ c' → c' ≤ maxLen → w.grownBy w' v.ownBlock → wpList P ops Q rest (a.put o.dst (.slice (some ⟨g, 0, none⟩) ks.length c')) w') : wpList P ops Q (o :: rest) a w := by
  refine wpList_plain hgd fun K hK' => ?_
  obtain ⟨xs, n1, n2, n3, n4⟩ := hK.rowL
  obtain ⟨v', w', hr, r1, r2, r3⟩ := run_append_own' (P := P) w base t o.type e i z 3 40 ht hi hz hsize hby hzs (by decide) v 0 [] hown ⟨b0, o0, none⟩ ks.length cap xs n1 (fun j u hu => by rw [Addr.add_lit]; exact n2 j u hu) n3 (by unfold maxLen; omega) (by omega) hbase
  rw [Nat.zero_add, List.nil_append] at r1
  unfold Oper.wp execOp
  simp only [ho, resolve, invoke, builtin, Sem.run_bind, Sem.run_pure, Result.andThen_ok, List.map_toArray, List.map_cons, List.map_nil, hs, hx, hr]
  rcases r1.2 with ⟨-, h5⟩ | ⟨g, c', cs, rfl, hb, hg, hnc, hcm, hcs, ht'⟩
  · omega
  · refine hK' _ _ (h c' g cs w' hg hb (by rw [hcs]; exact Nat.mul_le_mul_right _ hnc) ?_ hnc hcm r2)
    have h6 := RowL.tail (cs.toList.drop (ks.length * 3)) (n4.mono (fun _ h => h) (fun b hb => r2.block b (hS b hb).1 (fun he => (hS b hb).2 he.symm)))
    rw [← ht', List.take_append_drop] at h6
    exact h6
theorem infoTermP2 : (Try.prog.info? 25).map (fun i => (i.zero, i.size, i.bytes)) = some (some (.agg #[.int .i64 0, .int .i64 0, .slice none 0 0]), 3, 40) := by kernel_rfl
set_option maxRecDepth 100000 in
set_option maxHeartbeats 1000000 in
theorem cloneTerms_any (ks : List Tr) (w : World) (S : Nat → Prop) (hS : ∀ b, S b → b < w.heap.size) (b o cap : Nat) (hb : S b) (hK : InL w S b o ks) (hn : ks.length ≤ 1048576) (h0 : 0 < ks.length) : Calls Try.prog 111 #[.slice (some ⟨b, o, none⟩) ks.length cap] w fun e w' =>
    ∃ (c g : Nat) (cs : Array Value), e = .returned (.slice (some ⟨g, 0, none⟩) ks.length c) ∧ w'.heap[g]? = some (.cells cs 25 (0, 0)) ∧ w.heap.size ≤ g ∧ ks.length * 3 ≤ cs.size ∧ RowL w' S cs.toList ks ∧ ks.length ≤ c ∧ c ≤ maxLen ∧ Ext w w' := by
  obtain ⟨i0, hi, hz0, hz1, hz2⟩ := info_parts infoTermP2
  have hx := (Ext.refl w).alloc (.cells #[] 25)
  have hK2 : InL (w.alloc (.cells #[] 25)) S b o ks := InL.mono (fun _ h => h) (fun x hx' => hx.heap x (hS x hx')) hb hK
  have hG : (w.alloc (.cells #[] 25)).ownsRow w.heap.size 25 3 (.slice (some ⟨w.heap.size, 0, none⟩) 0 0) 0 [] := World.ownsRow_lit w #[] 0 (Nat.le_refl _) (Nat.zero_le _) rfl
  have hnil : ∀ W, (binOp .eql 23 (.slice (some ⟨b, o, none⟩) ks.length cap) (.slice none 0 0)).run Try.prog W = .ok (.bool false) W := fun W => Lib.run_eql_slice_nil W 23 _ (some ⟨b, o, none⟩) ks.length cap 0 0 Try.underlying23
  clear hK
  go_enter Try.func111, Try.ntmps111
  go_wp2_with (at_builtin; refine wpList_append_row3 _ rfl (.tmp 5) (.tmp 6) 23 rfl w.heap.size 25 i0 _ Try.underlying23 hi hz0 hz1 hz2 rfl (S := S) (v := .slice (some ⟨w.heap.size, 0, none⟩) 0 0) rfl hG (by simp) rfl (fun y hy => ⟨by have h9 : y < w.heap.size := hS y hy; simp; omega, by have h9 : y < w.heap.size := hS y hy; simp [Value.ownBlock]; omega⟩) hK2 hn h0 ?_)
  intro c g cs w' r1 r2 r3 r4 r5 r6 r7
  have hE : Ext w w' := hx.grown r7 (by intro k hk; simp [Value.ownBlock] at hk; omega)
  go_wp2_with fail
  go_ret
  exact ⟨c, g, cs, rfl, r1, r2, r3, r4, r5, r6, hE⟩
/-- A slice of numbers that holds p. -/
structure PFs (w : World) (A : Option Addr) (n cap : Nat) (p : List Int) : Prop where
  hn : p.length = n
  hl : n ≤ cap
  hc : cap ≤ maxLen
  hP : Nums w A p
theorem PFs.ext {w w' : World} {A : Option Addr} {n cap : Nat} {p : List Int} (h : PFs w A n cap p) (he : Ext w w') : PFs w' A n cap p := ⟨h.hn, h.hl, h.hc, h.hP.ext he⟩
/-- 'path[1:]'. -/
theorem PFs.tail {w : World} {b o n cap : Nat} {i : Int} {r : List Int} (h : PFs w (some ⟨b, o, none⟩) n cap (i :: r)) : PFs w (if cap = 1 then some ⟨b, o, none⟩ else some ⟨b, o + 1, none⟩) (n - 1) (cap - 1) r := by
  obtain ⟨h1, h2, h3, h4⟩ := h
  simp only [List.length_cons] at h1
  refine ⟨by omega, by omega, by omega, ?_⟩
  by_cases hc : cap = 1
  · exact .inl (List.eq_nil_of_length_eq_zero (by omega))
  · rw [if_neg hc]
    rcases h4 with h4 | ⟨b', o', he, hb, hcell⟩
    · cases h4
    · simp only [Option.some.injEq, Addr.mk.injEq, and_true] at he
      obtain ⟨rfl, rfl⟩ := he
      refine .inr ⟨b, o + 1, rfl, hb, fun j hj => ?_⟩
      have := hcell (j + 1) (by simpa using hj)
      rwa [show o + (j + 1) = o + 1 + j by omega] at this
def PutC (p : List Int) : Prop := ∀ (t u : Tr) (d : Int), shape sigT t d = true → (atT t p).isSome = true → ∀ (w : World) (vt vu : Value) (S : Nat → Prop), (∀ b, S b → b < w.heap.size) → InT w S t vt → InT w S u vu → ∀ (A : Option Addr) (n cap : Nat), PFs w A n cap p → n ≤ 1000 → cnt t ≤ 1000000 →
  Calls Try.prog 58 #[vt, .slice A n cap, vu] w fun e w' => ∃ x, e = .returned x ∧ InT w' (fun b => S b ∨ w.heap.size ≤ b ∧ b < w'.heap.size) (putA t p u) x ∧ Ext w w'
set_option maxRecDepth 100000 in
set_option maxHeartbeats 4000000 in
theorem put_any : ∀ p : List Int, PutC p := fun p => by
  induction p with
  | nil =>
    intro t u d hsh hat w vt vu S hS hT hU A n cap hp hn1 hcn
    obtain ⟨k, nn, ks⟩ := t
    obtain ⟨At, ct, rfl, hlt, hct, hKt⟩ := InT.mk_iff.1 hT
    obtain ⟨ku, nu, us⟩ := u
    have hU0 := hU
    obtain ⟨Au, cu, rfl, hlu, hcu, hKu⟩ := InT.mk_iff.1 hU
    have hn0 : n = 0 := hp.hn.symm
    subst hn0
    have hx0 := (((Ext.refl w).alloc (.cells #[.int .i64 k, .int .i64 nn, .slice At ks.length ct] 25)).alloc (.cells #[.int .i64 ku, .int .i64 nu, .slice Au us.length cu] 25)).alloc (.cells #[.int .i64 0, .int .i64 0, .slice none 0 0] 25)
    obtain ⟨hb0, hb1, hb2, hs2⟩ := blk3 (Ext.refl (((w.alloc (.cells #[.int .i64 k, .int .i64 nn, .slice At ks.length ct] 25)).alloc (.cells #[.int .i64 ku, .int .i64 nu, .slice Au us.length cu] 25)).alloc (.cells #[.int .i64 0, .int .i64 0, .slice none 0 0] 25)))
    go_enter Try.func58, Try.ntmps58
    go_wp2_with fail
    rw [putA_nil]
    refine bodyPost_ret (v := .agg #[.int .i64 ku, .int .i64 nu, .slice Au us.length cu]) (by simp [results, Try.results58, go_sem]) rfl ⟨_, rfl, ?_, ?_⟩
    · exact InT.mono (fun b hb => .inl hb) (fun b hb => ((((Ext.refl w).alloc _).alloc _).alloc _).heap b (hS b hb)) hU0
    · exact (((Ext.refl w).alloc _).alloc _).alloc _
  | cons i r ih =>
    intro t u d hsh hat w vt vu S hS hT hU A n cap hp hn1 hcn
    obtain ⟨k, nn, ks⟩ := t
    obtain ⟨At, ct, rfl, hlt, hct, hKt⟩ := InT.mk_iff.1 hT
    obtain ⟨ku, nu, us⟩ := u
    have hU0 := hU
    obtain ⟨Au, cu, rfl, hlu, hcu, hKu⟩ := InT.mk_iff.1 hU
    have hn0 : n = r.length + 1 := by have := hp.hn; simpa using this.symm
    obtain ⟨b1, o1, rfl, cp⟩ := hp.hP.get (Ext.refl w) (j := 0) (by simp)
    simp only [List.getElem_cons_zero, Nat.add_zero] at cp
    have hi : 0 ≤ i ∧ i < ks.length := by
      rw [atT] at hat
      split at hat
      · assumption
      · cases hat
    rw [atT, if_pos hi] at hat
    obtain ⟨m, rfl⟩ := Int.eq_ofNat_of_zero_le hi.1
    have hm : m < ks.length := by omega
    have hmt : ((m : Int)).toNat = m := by omega
    rw [hmt] at hat
    have hput : putA (.mk k nn ks) ((m : Int) :: r) (.mk ku nu us) = .mk k nn (ks.set m (putA (kd ks m) r (.mk ku nu us))) := by rw [putA, hmt]
    rw [hput]
    obtain ⟨b, o, k2, n2, A2, c2, kids2, rfl, hSb, hkm, d0, d1, d2, hkl2, hkc2, hK2⟩ := InK.at_ hKt hm
    have hkd : kd ks m = .mk k2 n2 kids2 := kd_of hm hkm
    obtain ⟨-, -, -, hsk⟩ := shape_kids hsh
    have hsk2 : shape sigT (.mk k2 n2 kids2) (d - 1) = true := by have := hsk _ (List.getElem_mem hm); rwa [hkm] at this
    have hT2 : InT w S (.mk k2 n2 kids2) (.agg #[.int .i64 k2, .int .i64 n2, .slice A2 kids2.length c2]) := InT.mk_iff.2 ⟨A2, c2, rfl, hkl2, hkc2, hK2⟩
    have hcm : cnt (.mk k2 n2 kids2) ≤ cnts ks := by have := cnt_mem (List.getElem_mem hm); rwa [hkm] at this
    simp only [cnt] at hcn
    rw [hkd] at hat ⊢
    have hKL : InL w S b o ks := by
      rcases hKt with h | ⟨b', o', he, -, hh⟩
      · subst h; simp at hm
      · simp only [Option.some.injEq, Addr.mk.injEq, and_true] at he
        obtain ⟨rfl, rfl⟩ := he
        exact hh
    have hlc := len_le_cnts ks
    have hbw := hS b hSb
    have hb1w : b1 < w.heap.size := World.block_lt_of_cell? _ _ cp
    have hx0 := (((Ext.refl w).alloc (.cells #[.int .i64 k, .int .i64 nn, .slice (some ⟨b, o, none⟩) ks.length ct] 25)).alloc (.cells #[.int .i64 ku, .int .i64 nu, .slice Au us.length cu] 25)).alloc (.cells #[.int .i64 0, .int .i64 0, .slice none 0 0] 25)
    obtain ⟨hb0, hbu, hbr, hs2⟩ := blk3 (Ext.refl (((w.alloc (.cells #[.int .i64 k, .int .i64 nn, .slice (some ⟨b, o, none⟩) ks.length ct] 25)).alloc (.cells #[.int .i64 ku, .int .i64 nu, .slice Au us.length cu] 25)).alloc (.cells #[.int .i64 0, .int .i64 0, .slice none 0 0] 25)))
    have hpt := hp.tail
    have hcpb : n ≤ cap := hp.hl
    have hcpm : cap ≤ maxLen := hp.hc
    unfold maxLen at hcpm
    obtain ⟨AD, hAD⟩ : ∃ AD, (if cap = 1 then some (⟨b1, o1, none⟩ : Addr) else some ⟨b1, o1 + 1, none⟩) = AD := ⟨_, rfl⟩
    rw [hAD] at hpt
    have HAD := Lib.hid hAD
    have hnz : ((n : Int) == 0) = false := beq_eq_false_iff_ne.2 (by omega)
    have hnz2 : (n == 0) = false := beq_eq_false_iff_ne.2 (by omega)
    have hn2 : (0 : Int) < (n : Int) := by omega
    have hn3 : (1 : Int) ≤ (n : Int) := by omega
    have hn6 : 0 < n := by omega
    have hn7 : 1 ≤ n := by omega
    have hn8 : 1 ≤ cap := by omega
    have hn4 : (1 : Int) ≤ (cap : Int) := by omega
    have hn5 : (n : Int) ≤ (cap : Int) := by omega
    have hm2 : (m : Int) < (ks.length : Int) := by omega
    have hm3 : (0 : Int) ≤ (m : Int) := by omega
    clear hAD hput hsk hkm hmt hi hn0 hT hU hkd
    go_enter Try.func58, Try.ntmps58
    go_wp2_with fail
    generalize World.alloc (World.alloc (World.alloc w _) _) _ = wS at hx0 hb0 hbu hbr hs2 ⊢
    obtain ⟨z0, z1, z2, -, -, -⟩ := own3 hb0
    have HS3 := Lib.hid (show ∀ w', Ext wS w' → w'.cell? ⟨w.heap.size, 0, none⟩ = some (.int .i64 k) ∧ w'.cell? ⟨w.heap.size, 1, none⟩ = some (.int .i64 nn) ∧ w'.cell? ⟨w.heap.size, 2, none⟩ = some (.slice (some ⟨b, o, none⟩) ks.length ct) from fun w' hw => ⟨hw.cell z0, hw.cell z1, hw.cell z2⟩)
    have X0 : Ext wS wS.drew := (Ext.refl wS).drew
    have hSS : ∀ y, S y → y < wS.heap.size := fun y hy => by have := hS y hy; have := hx0.size; omega
    have hKS : InL wS S b o ks := InL.mono (fun _ h => h) (fun y hy => hx0.heap y (hS y hy)) hSb hKL
    have hgoal : ∀ V, Ext wS V → InL V S b o ks := fun V hV => InL.mono (fun _ h => h) (fun y hy => hV.heap y (hSS y hy)) hSb hKS
    have HKV := Lib.hid hgoal
    clear hgoal z0 z1 z2
    go_region_held3 (fun w' => w'.cell? ⟨w.heap.size, 0, none⟩ = some (.int .i64 k) ∧ w'.cell? ⟨w.heap.size, 1, none⟩ = some (.int .i64 nn) ∧ w'.cell? ⟨w.heap.size, 2, none⟩ = some (.slice (some ⟨b, o, none⟩) ks.length ct))
      (first | exact HS3.out _ (((hxd.setCell (p := ⟨wS.heap.size, 0, none⟩) (Nat.le_refl _) _).setCell (p := ⟨wS.heap.size, 1, none⟩) (Nat.le_refl _) _).setCell (p := ⟨wS.heap.size, 2, none⟩) (Nat.le_refl _) _) | exact HS3.out _ (hxd.alloc _) | exact HS3.out _ hxd | exact HS3.out _ X0 | exact HS3.out _ (X0.alloc _) | exact HS3.out _ ((Ext.refl wS).alloc _).drew)
      (first | (go_at_call 111; refine (cloneTerms_any ks _ S (fun y hy => Nat.lt_of_lt_of_le (hSS y hy) (Ext.size (by first | exact X0 | exact X0.alloc _ | exact ((Ext.refl wS).alloc _).drew))) b o ct hSb (HKV.out _ (by first | exact X0 | exact X0.alloc _ | exact ((Ext.refl wS).alloc _).drew)) (by omega) (by omega)).mono ?_; rintro e wd ⟨c, g, cs, rfl, hrow, hgl, hcs, hRl, hc1, hc2', ed⟩; have hxd : Ext wS wd := (by first | exact X0.trans ed | exact (X0.alloc _).trans ed | exact (((Ext.refl wS).alloc _).drew).trans ed); (first | (have qb : wd.heap[wS.heap.size]? = some (.cells #[.int .i64 0, .int .i64 0, .slice none 0 0] 25 (0, 0)) := ed.blk (heap_alloc_new wS.drew (.cells #[.int .i64 0, .int .i64 0, .slice none 0 0] 25)); have hgb : wS.heap.size < g := (by simp at hgl; omega); obtain ⟨sa, sb, sc, fa, fb, fc⟩ := own3 qb) | (have qb : wd.heap[wS.heap.size]? = some (.cells #[.int .i64 0, .int .i64 0, .slice none 0 0] 25 (0, 0)) := ed.blk (heap_alloc_new wS (.cells #[.int .i64 0, .int .i64 0, .slice none 0 0] 25)); have hgb : wS.heap.size < g := (by simp at hgl; omega); obtain ⟨sa, sb, sc, fa, fb, fc⟩ := own3 qb) | (have qb := trivial; have hgb := trivial))))
    all_goals have hws : w.heap.size + 3 ≤ wS.heap.size := by omega
    all_goals have hgS : wS.heap.size ≤ g := by have h9 := hgl; simp at h9; omega
    all_goals (first
      | (have en : Ext wS (wd.alloc (.cells #[.int .i64 k, .int .i64 nn, .slice (some ⟨g, 0, none⟩) ks.length c] 25)) := hxd.alloc _; have bn := heap_alloc_new wd (.cells #[.int .i64 k, .int .i64 nn, .slice (some ⟨g, 0, none⟩) ks.length c] 25); have rn := ((Ext.refl wd).alloc (.cells #[.int .i64 k, .int .i64 nn, .slice (some ⟨g, 0, none⟩) ks.length c] 25)).blk hrow; have Rn : RowL (wd.alloc (.cells #[.int .i64 k, .int .i64 nn, .slice (some ⟨g, 0, none⟩) ks.length c] 25)) S cs.toList ks := hRl.mono (fun _ h => h) (fun y hy => Below.heap_alloc wd _ y (by have := hSS y hy; have := hxd.size; omega)); have gne : wd.heap.size ≠ g := (by have := lt_of_blk hrow; omega); have gw : wS.heap.size ≤ wd.heap.size := hxd.size; obtain ⟨w7, hw7⟩ : ∃ x, x = wd.alloc (.cells #[.int .i64 k, .int .i64 nn, .slice (some ⟨g, 0, none⟩) ks.length c] 25) := ⟨_, rfl⟩; rw [← hw7]; rw [← hw7] at en bn rn Rn; clear hw7; obtain ⟨g7, hg7⟩ : ∃ x, x = wd.heap.size := ⟨_, rfl⟩; rw [← hg7] at bn gne gw ⊢; clear hg7)
      | (have en : Ext wS (((wd.setCell ⟨wS.heap.size, 0, none⟩ (.int .i64 k)).setCell ⟨wS.heap.size, 1, none⟩ (.int .i64 nn)).setCell ⟨wS.heap.size, 2, none⟩ (.slice (some ⟨g, 0, none⟩) ks.length c)) := ((hxd.setCell (p := ⟨wS.heap.size, 0, none⟩) (Nat.le_refl _) _).setCell (p := ⟨wS.heap.size, 1, none⟩) (Nat.le_refl _) _).setCell (p := ⟨wS.heap.size, 2, none⟩) (Nat.le_refl _) _; have bn := blk_setCell (blk_setCell (blk_setCell qb 0 (.int .i64 k)) 1 (.int .i64 nn)) 2 (.slice (some ⟨g, 0, none⟩) ks.length c); have rn := blk_setCell_ne (blk_setCell_ne (blk_setCell_ne hrow (p := ⟨wS.heap.size, 0, none⟩) (by show g ≠ wS.heap.size; omega) (.int .i64 k)) (p := ⟨wS.heap.size, 1, none⟩) (by show g ≠ wS.heap.size; omega) (.int .i64 nn)) (p := ⟨wS.heap.size, 2, none⟩) (by show g ≠ wS.heap.size; omega) (.slice (some ⟨g, 0, none⟩) ks.length c); have Rn : RowL (((wd.setCell ⟨wS.heap.size, 0, none⟩ (.int .i64 k)).setCell ⟨wS.heap.size, 1, none⟩ (.int .i64 nn)).setCell ⟨wS.heap.size, 2, none⟩ (.slice (some ⟨g, 0, none⟩) ks.length c)) S cs.toList ks := hRl.mono (fun _ h => h) (fun y hy => by have h8 := hSS y hy; rw [Below.heap_setCell _ _ _ _ (by show y ≠ wS.heap.size; omega), Below.heap_setCell _ _ _ _ (by show y ≠ wS.heap.size; omega), Below.heap_setCell _ _ _ _ (by show y ≠ wS.heap.size; omega)]); have gne : wS.heap.size ≠ g := (by omega); obtain ⟨w7, hw7⟩ : ∃ x, x = (((wd.setCell ⟨wS.heap.size, 0, none⟩ (.int .i64 k)).setCell ⟨wS.heap.size, 1, none⟩ (.int .i64 nn)).setCell ⟨wS.heap.size, 2, none⟩ (.slice (some ⟨g, 0, none⟩) ks.length c)) := ⟨_, rfl⟩; rw [← hw7]; rw [← hw7] at en bn rn Rn; clear hw7; obtain ⟨g7, hg7⟩ : ∃ x, x = wS.heap.size := ⟨_, rfl⟩; have gw : wS.heap.size ≤ g7 := (by rw [hg7]; exact Nat.le_refl _); rw [← hg7] at bn gne ⊢; clear hg7))
    all_goals (
      try clear sa sb sc fa fb fc
      clear qb hgb hxd ed hrow hRl hgl X0 HS3
      have hE7 : Ext w w7 := hx0.trans en
      obtain ⟨y0, y1, y2, -, -, -⟩ := own3 bn
      obtain ⟨-, -, t2, -, -, -⟩ := own3 (en.blk hb0)
      obtain ⟨v0, v1, v2, -, -, -⟩ := own3 (en.blk hbu)
      have p0 := hE7.cell cp
      have q0 := hE7.cell d0
      have q1 := hE7.cell d1
      have q2 := hE7.cell d2
      have hg7 : g7 < w7.heap.size := lt_of_blk bn
      have hgr : g < w7.heap.size := lt_of_blk rn
      have HS4 := Lib.hid (show ∀ w' : World, (∀ y, y < w7.heap.size → y ≠ g → w'.heap[y]? = w7.heap[y]?) → w'.cell? ⟨g7, 2, none⟩ = some (.slice (some ⟨g, 0, none⟩) ks.length c) ∧ w'.cell? ⟨w.heap.size, 2, none⟩ = some (.slice (some ⟨b, o, none⟩) ks.length ct) ∧ w'.cell? ⟨b1, o1, none⟩ = some (.int .i64 m) ∧ w'.cell? ⟨b, o + m * 3, none⟩ = some (.int .i64 k2) ∧ w'.cell? ⟨b, o + m * 3 + 1, none⟩ = some (.int .i64 n2) ∧ w'.cell? ⟨b, o + m * 3 + 2, none⟩ = some (.slice A2 kids2.length c2) ∧ w'.cell? ⟨w.heap.size + 1, 0, none⟩ = some (.int .i64 ku) ∧ w'.cell? ⟨w.heap.size + 1, 1, none⟩ = some (.int .i64 nu) ∧ w'.cell? ⟨w.heap.size + 1, 2, none⟩ = some (.slice Au us.length cu) from fun w' hw => by
        have f : ∀ (y j : Nat) (x : Value), y < w7.heap.size → y ≠ g → w7.cell? ⟨y, j, none⟩ = some x → w'.cell? ⟨y, j, none⟩ = some x := fun y j x h1 h2 h3 => (World.cell?_of_block (a := ⟨y, j, none⟩) (hw y h1 h2)).trans h3
        exact ⟨f _ _ _ hg7 gne y2, f _ _ _ (by omega) (by omega) t2, f _ _ _ (by omega) (by omega) p0, f _ _ _ (by omega) (by omega) q0, f _ _ _ (by omega) (by omega) q1, f _ _ _ (by omega) (by omega) q2, f _ _ _ (by omega) (by omega) v0, f _ _ _ (by omega) (by omega) v1, f _ _ _ (by omega) (by omega) v2⟩)
      have X7 : Ext w7 w7.drew := (Ext.refl w7).drew
      have hS7 : ∀ y, S y → y < w7.heap.size := fun y hy => by have := hS y hy; omega
      go_wp2_with fail
      clear y0 y1 y2 t2 v0 v1 v2 p0 q0 q1 q2
      go_region_held3 (fun w' => w'.cell? ⟨g7, 2, none⟩ = some (.slice (some ⟨g, 0, none⟩) ks.length c) ∧ w'.cell? ⟨w.heap.size, 2, none⟩ = some (.slice (some ⟨b, o, none⟩) ks.length ct) ∧ w'.cell? ⟨b1, o1, none⟩ = some (.int .i64 m) ∧ w'.cell? ⟨b, o + m * 3, none⟩ = some (.int .i64 k2) ∧ w'.cell? ⟨b, o + m * 3 + 1, none⟩ = some (.int .i64 n2) ∧ w'.cell? ⟨b, o + m * 3 + 2, none⟩ = some (.slice A2 kids2.length c2) ∧ w'.cell? ⟨w.heap.size + 1, 0, none⟩ = some (.int .i64 ku) ∧ w'.cell? ⟨w.heap.size + 1, 1, none⟩ = some (.int .i64 nu) ∧ w'.cell? ⟨w.heap.size + 1, 2, none⟩ = some (.slice Au us.length cu))
        (first | exact HS4.out _ (fun y h1 h2 => by rw [Below.heap_setCell _ _ _ _ h2, Below.heap_setCell _ _ _ _ h2, Below.heap_setCell _ _ _ _ h2]; exact hx8.heap y h1) | exact HS4.out _ (fun y h1 _ => hx8.heap y h1) | exact HS4.out _ (fun y h1 _ => X7.heap y h1))
        (first | (go_at_call 58; (try rw [HAD.out]); refine (ih _ _ (d - 1) hsk2 hat w7.drew _ _ S (fun y hy => hS7 y hy) (InT.mono (fun _ h => h) (fun y hy => (hE7.trans X7).heap y (hS y hy)) hT2) (InT.mono (fun _ h => h) (fun y hy => (hE7.trans X7).heap y (hS y hy)) hU0) _ _ _ (hpt.ext (hE7.trans X7)) (by omega) (by omega)).mono ?_; rintro e w8 ⟨x, rfl, hX8, e8⟩; have hx8 : Ext w7 w8 := X7.trans e8; have hX9 := hX8; obtain ⟨x1, x2, x3, x4, x5, rfl⟩ := InT.three hX9; clear hX9; obtain ⟨u0, u1, u2, r0, r1, r2, f0, f1, f2⟩ := cells3 (i := m * 3) (hx8.blk rn) (by omega)))
      clear u0 u1 u2 r0 r1 r2 f0 f1 f2 HS4 X7 e8 HAD
      have rn9 := blk_setCell (blk_setCell (blk_setCell (hx8.blk rn) (m * 3) (.int .i64 x1)) (m * 3 + 1) (.int .i64 x2)) (m * 3 + 2) (.slice x3 x4 x5)
      have keep : ∀ y, y ≠ g → (((w8.setCell ⟨g, m * 3, none⟩ (.int .i64 x1)).setCell ⟨g, m * 3 + 1, none⟩ (.int .i64 x2)).setCell ⟨g, m * 3 + 2, none⟩ (.slice x3 x4 x5)).heap[y]? = w8.heap[y]? := fun y hy => by rw [Below.heap_setCell _ _ _ _ hy, Below.heap_setCell _ _ _ _ hy, Below.heap_setCell _ _ _ _ hy]
      have hsz9 : (((w8.setCell ⟨g, m * 3, none⟩ (.int .i64 x1)).setCell ⟨g, m * 3 + 1, none⟩ (.int .i64 x2)).setCell ⟨g, m * 3 + 2, none⟩ (.slice x3 x4 x5)).heap.size = w8.heap.size := by simp
      have hE9 : Ext w (((w8.setCell ⟨g, m * 3, none⟩ (.int .i64 x1)).setCell ⟨g, m * 3 + 1, none⟩ (.int .i64 x2)).setCell ⟨g, m * 3 + 2, none⟩ (.slice x3 x4 x5)) := (((hE7.trans hx8).setCell (p := ⟨g, m * 3, none⟩) (by show w.heap.size ≤ g; omega) _).setCell (p := ⟨g, m * 3 + 1, none⟩) (by show w.heap.size ≤ g; omega) _).setCell (p := ⟨g, m * 3 + 2, none⟩) (by show w.heap.size ≤ g; omega) _
      obtain ⟨w9, hw9⟩ : ∃ x, x = (((w8.setCell ⟨g, m * 3, none⟩ (.int .i64 x1)).setCell ⟨g, m * 3 + 1, none⟩ (.int .i64 x2)).setCell ⟨g, m * 3 + 2, none⟩ (.slice x3 x4 x5)) := ⟨_, rfl⟩
      rw [← hw9] at rn9 keep hsz9 hE9 ⊢
      clear hw9
      have hs78 := hx8.size
      have bn9 := (keep g7 gne).trans (hx8.blk bn)
      have br9 := (keep (w.heap.size + 1 + 1) (by omega)).trans (hx8.blk (en.blk hbr))
      have Rn9 : RowL w9 (fun y => S y ∨ w.heap.size + 3 ≤ y ∧ y < w9.heap.size) cs.toList ks := Rn.mono (fun y hy => .inl hy) (fun y hy => (keep y (by have := hS y hy; omega)).trans (hx8.heap y (hS7 y hy)))
      have hX9 : InT w9 (fun y => S y ∨ w.heap.size + 3 ≤ y ∧ y < w9.heap.size) (putA (.mk k2 n2 kids2) r (.mk ku nu us)) (.agg #[.int .i64 x1, .int .i64 x2, .slice x3 x4 x5]) := InT.mono (fun y hy => by
          rcases hy with hy | hy
          · exact .inl hy
          · have h9 : w7.heap.size ≤ y := hy.1
            have h8 := hy.2
            exact .inr ⟨by omega, by omega⟩) (fun y hy => keep y (by
          rcases hy with hy | hy
          · have := hS y hy; omega
          · have h9 : w7.heap.size ≤ y := hy.1
            omega)) hX8
      have hR9 := RowL.set hX9 m Rn9
      have hK9 := RowL.inL rn9 (pre := []) hR9 (by simp [Array.toList_setIfInBounds])
      have HK9 := Lib.hid hK9
      have HKP := Lib.hid hE9
      obtain ⟨y0, y1, y2, -, -, -⟩ := own3 bn9
      obtain ⟨s0, s1, s2, f0, f1, f2⟩ := own3 br9
      have hwg : w.heap.size + 1 + 1 < w9.heap.size := lt_of_blk br9
      have hgg : g < w9.heap.size := lt_of_blk rn9
      clear keep hE9 hK9 hR9 hX9 Rn9 Rn rn rn9 bn bn9 br9 hX8 hb0 hbu hbr HKV
      go_wp2_with fail
      refine bodyPost_ret (v := .agg #[.int .i64 k, .int .i64 nn, .slice (some ⟨g, 0, none⟩) ks.length c]) (by simp [results, Try.results58, go_sem, s0, s1, s2]) rfl ⟨_, rfl, ?_, ?_⟩
      · refine InT.mk_iff.2 ⟨some ⟨g, 0, none⟩, c, by rw [List.length_set], by rw [List.length_set]; exact hc1, hc2', .inr ⟨g, 0, rfl, .inr ⟨by omega, by simpa using hgg⟩, ?_⟩⟩
        refine InL.mono (S := fun y => S y ∨ w.heap.size + 3 ≤ y ∧ y < w9.heap.size) (fun y hy => ?_) (fun y hy => ?_) (.inr ⟨by omega, hgg⟩) HK9.out
        · rcases hy with hy | hy
          · exact .inl hy
          · exact .inr ⟨by omega, by simpa using hy.2⟩
        · have hne : y ≠ w.heap.size + 1 + 1 := by
            rcases hy with hy | hy
            · have := hS y hy; omega
            · omega
          rw [Below.heap_setCell _ _ _ _ hne, Below.heap_setCell _ _ _ _ hne, Below.heap_setCell _ _ _ _ hne]
      · exact ((HKP.out.setCell (by show w.heap.size ≤ w.heap.size + 1 + 1; omega) _).setCell (by show w.heap.size ≤ w.heap.size + 1 + 1; omega) _).setCell (by show w.heap.size ≤ w.heap.size + 1 + 1; omega) _)
end Go.Proofs.Ytjgdckkeojehoaa

namespace Go.Proofs.Ytjgdckkeojehoaa
open Go.RowKit
set_option linter.unusedVariables false
attribute [local go_sem ↓] Go.wp_at_zero Go.wp_at_succ

theorem validR_any (t : Tr) (a0 a1 : Int) (a2 : Option Addr) (a3 a4 : Nat) (w : World) (hin : Lies w t (.agg #[.int .i64 a0, .int .i64 a1, .slice a2 a3 a4])) :
    Calls Try.prog 57 #[.agg #[.int .i64 a0, .int .i64 a1, .slice a2 a3 a4]] w fun e w' => (if valid sigT t = true then e = .returned (.tuple #[.agg #[.int .i64 a0, .int .i64 a1, .slice a2 a3 a4], .bool true]) else e = .returned (.tuple #[.agg #[.int .i64 0, .int .i64 0, .slice none 0 0], .bool false])) ∧ Ext w w' ∧ ∀ b, b < w.heap.size → w'.heap[b]? = w.heap[b]? := by
  have HV := Lib.hid (fun W (hW : Ext w W) => validTerm_any _ W _ (hin.ext hW))
  generalize valid sigT t = s at HV ⊢
  have hE := ((Ext.refl w).alloc (.cells #[.int .i64 a0, .int .i64 a1, .slice a2 a3 a4] 25)).alloc (.cells #[.int .i64 0, .int .i64 0, .slice none 0 0] 25)
  obtain ⟨hbT, hbR, hs1⟩ := blk2 (Ext.refl ((w.alloc (.cells #[.int .i64 a0, .int .i64 a1, .slice a2 a3 a4] 25)).alloc (.cells #[.int .i64 0, .int .i64 0, .slice none 0 0] 25)))
  have fin : ∀ w', Ext w w' → Ext w w' ∧ ∀ b, b < w.heap.size → w'.heap[b]? = w.heap[b]? := fun w' h => ⟨h, fun b hb => h.heap b hb⟩
  cases s with
  | true =>
    simp only [if_true]
    go_enter Try.func57, Try.ntmps57
    go_wp2_with fail
    refine (HV.out _ hE).mono ?_
    rintro e w1 ⟨rfl, e1⟩
    obtain ⟨x0, x1, x2, -, -, -⟩ := own3 (e1.blk hbT)
    obtain ⟨s0, s1, s2, f0, f1, f2⟩ := own3 (e1.blk hbR)
    go_wp2_with fail
    exact bodyPost_ret (v := .tuple #[.agg #[.int .i64 a0, .int .i64 a1, .slice a2 a3 a4], .bool true]) (by simp [results, Try.results57, go_sem, s0, s1, s2]) rfl ⟨rfl, fin _ ((((hE.trans e1).setCell (by simp) _).setCell (by simp) _).setCell (by simp) _)⟩
  | false =>
    simp only [Bool.false_eq_true, if_false]
    go_enter Try.func57, Try.ntmps57
    go_wp2_with fail
    refine (HV.out _ hE).mono ?_
    rintro e w1 ⟨rfl, e1⟩
    obtain ⟨s0, s1, s2, f0, f1, f2⟩ := own3 (e1.blk hbR)
    go_wp2_with fail
    exact bodyPost_ret (v := .tuple #[.agg #[.int .i64 0, .int .i64 0, .slice none 0 0], .bool false]) (by simp [results, Try.results57, go_sem, s0, s1, s2]) rfl ⟨rfl, fin _ ((((hE.trans e1).setCell (by simp) _).setCell (by simp) _).setCell (by simp) _)⟩
theorem l7Made_any (t : Tr) (a0 a1 : Int) (a2 : Option Addr) (a3 a4 : Nat) (w : World) (hin : Lies w t (.agg #[.int .i64 a0, .int .i64 a1, .slice a2 a3 a4])) :
    Calls Try.prog 60 #[.agg #[.int .i64 a0, .int .i64 a1, .slice a2 a3 a4]] w fun e w' => (if valid sigT t = true then e = .returned (.tuple #[.agg #[.int .i64 a0, .int .i64 a1, .slice a2 a3 a4], .bool true]) else e = .returned (.tuple #[.agg #[.int .i64 0, .int .i64 0, .slice none 0 0], .bool false])) ∧ Ext w w' ∧ ∀ b, b < w.heap.size → w'.heap[b]? = w.heap[b]? := by
  have HV := Lib.hid (fun W (hW : Ext w W) => specValidTerm _ W _ (hin.ext hW))
  generalize valid sigT t = s at HV ⊢
  have hE := ((Ext.refl w).alloc (.cells #[.int .i64 a0, .int .i64 a1, .slice a2 a3 a4] 25)).alloc (.cells #[.int .i64 0, .int .i64 0, .slice none 0 0] 25)
  obtain ⟨hbT, hbR, hs1⟩ := blk2 (Ext.refl ((w.alloc (.cells #[.int .i64 a0, .int .i64 a1, .slice a2 a3 a4] 25)).alloc (.cells #[.int .i64 0, .int .i64 0, .slice none 0 0] 25)))
  have fin : ∀ w', Ext w w' → Ext w w' ∧ ∀ b, b < w.heap.size → w'.heap[b]? = w.heap[b]? := fun w' h => ⟨h, fun b hb => h.heap b hb⟩
  cases s with
  | true =>
    simp only [if_true]
    go_enter Try.func60, Try.ntmps60
    go_wp2_with fail
    refine (HV.out _ hE).mono ?_
    rintro e w1 ⟨rfl, e1⟩
    obtain ⟨x0, x1, x2, -, -, -⟩ := own3 (e1.blk hbT)
    obtain ⟨s0, s1, s2, f0, f1, f2⟩ := own3 (e1.blk hbR)
    go_wp2_with fail
    exact bodyPost_ret (v := .tuple #[.agg #[.int .i64 a0, .int .i64 a1, .slice a2 a3 a4], .bool true]) (by simp [results, Try.results60, go_sem, s0, s1, s2]) rfl ⟨rfl, fin _ ((((hE.trans e1).setCell (by simp) _).setCell (by simp) _).setCell (by simp) _)⟩
  | false =>
    simp only [Bool.false_eq_true, if_false]
    go_enter Try.func60, Try.ntmps60
    go_wp2_with fail
    refine (HV.out _ hE).mono ?_
    rintro e w1 ⟨rfl, e1⟩
    obtain ⟨s0, s1, s2, f0, f1, f2⟩ := own3 (e1.blk hbR)
    go_wp2_with fail
    exact bodyPost_ret (v := .tuple #[.agg #[.int .i64 0, .int .i64 0, .slice none 0 0], .bool false]) (by simp [results, Try.results60, go_sem, s0, s1, s2]) rfl ⟨rfl, fin _ ((((hE.trans e1).setCell (by simp) _).setCell (by simp) _).setCell (by simp) _)⟩
/-- PutAt's answer. -/
def putV (t : Tr) (p : List Int) (u : Tr) : Tr × Bool := if (valid sigT t && (valid sigT u && ((atT t p).isSome && valid sigT (putA t p u)))) = true then (putA t p u, true) else (dflt0, false)
set_option maxRecDepth 100000 in
set_option maxHeartbeats 2000000 in
theorem putAt_any (t u : Tr) (p : List Int) (w : World) (vt vu : Value) (hT : Lies w t vt) (hU : Lies w u vu) (A : Option Addr) (n cap : Nat) (hp : PFs w A n cap p) (hn : n ≤ 1000) : Calls Try.prog 18 #[vt, .slice A n cap, vu] w fun e w' => ∃ x, e = .returned (.tuple #[x, .bool (putV t p u).2]) ∧ From w.heap.size w' (putV t p u).1 x ∧ Ext w w' := by
  have HV := Lib.hid (fun W (hW : Ext w W) => validTerm_any t W vt (hT.ext hW))
  have HVU := Lib.hid (fun W (hW : Ext w W) => validTerm_any u W vu (hU.ext hW))
  have HX := Lib.hid (fun (h : valid sigT t = true) W (hW : Ext w W) => by
    have := walked_any t 30 (cnt_of_valid h).2 (by decide) p W vt (hT.ext hW) A cap (by rw [hp.hn]; exact hp.hl) hp.hc (hp.hP.ext hW)
    rw [hp.hn] at this
    exact this)
  have HPT := Lib.hid (fun (h : valid sigT t = true) (hs : (atT t p).isSome = true) W (hW : Ext w W) => put_any p t u 30 (cnt_of_valid h).2 hs W vt vu (fun b => b < W.heap.size) (fun _ h => h) (hT.ext hW) (hU.ext hW) A n cap (hp.ext hW) hn (by have := (cnt_of_valid h).1; omega))
  have hcn : valid sigT t = true → valid sigT u = true → (atT t p).isSome = true → cnt (putA t p u) ≤ 1000 := fun h1 h2 h3 => by
    obtain ⟨o, ho⟩ := Option.isSome_iff_exists.1 h3
    have := cnt_putA p t u o ho
    have := (cnt_of_valid h1).1
    have := (cnt_of_valid h2).1
    omega
  have E := Lib.hid (show putV t p u = if (valid sigT t && (valid sigT u && ((atT t p).isSome && valid sigT (putA t p u)))) = true then (putA t p u, true) else (dflt0, false) from rfl)
  generalize hx : putA t p u = x0 at E HPT hcn
  generalize atT t p = q at HX HPT E hcn
  obtain ⟨z, hz⟩ : ∃ z, valid sigT t = z := ⟨_, rfl⟩
  obtain ⟨y, hy⟩ : ∃ z, valid sigT u = z := ⟨_, rfl⟩
  rw [hz] at HV E HX HPT hcn
  rw [hy] at HVU E hcn
  clear hz hy hx
  obtain ⟨k, nn, ks⟩ := t
  obtain ⟨At, ct, rfl, -, -, -⟩ := Lies.mk_iff.1 hT
  obtain ⟨ku, nu, us⟩ := u
  obtain ⟨Au, cu, rfl, -, -, -⟩ := Lies.mk_iff.1 hU
  have hx0 := (((Ext.refl w).alloc (.cells #[.int .i64 k, .int .i64 nn, .slice At ks.length ct] 25)).alloc (.cells #[.int .i64 ku, .int .i64 nu, .slice Au us.length cu] 25)).alloc (.cells #[.int .i64 0, .int .i64 0, .slice none 0 0] 25)
  obtain ⟨hb0, hbu, hbr, hs2⟩ := blk3 (Ext.refl (((w.alloc (.cells #[.int .i64 k, .int .i64 nn, .slice At ks.length ct] 25)).alloc (.cells #[.int .i64 ku, .int .i64 nu, .slice Au us.length cu] 25)).alloc (.cells #[.int .i64 0, .int .i64 0, .slice none 0 0] 25)))
  obtain ⟨wS, hwS⟩ : ∃ x, x = ((w.alloc (.cells #[.int .i64 k, .int .i64 nn, .slice At ks.length ct] 25)).alloc (.cells #[.int .i64 ku, .int .i64 nu, .slice Au us.length cu] 25)).alloc (.cells #[.int .i64 0, .int .i64 0, .slice none 0 0] 25) := ⟨_, rfl⟩
  rw [← hwS] at hx0 hb0 hbu hbr hs2
  cases z with
  | false =>
    have E2 := Lib.hid (E.out.trans (if_neg (by simp)))
    clear E HX HPT hcn
    go_enter Try.func18, Try.ntmps18
    go_wp2_with fail
    rw [← hwS]
    clear hwS
    refine (HV.out _ hx0).mono ?_
    rintro e w1 ⟨rfl, h1⟩
    obtain ⟨s0, s1, s2, f0, f1, f2⟩ := own3 (h1.blk hbr)
    go_wp2_with fail
    rw [E2.out]
    refine bodyPost_ret (v := .tuple #[.agg #[.int .i64 0, .int .i64 0, .slice none 0 0], .bool false]) (by simp [results, Try.results18, go_sem, s0, s1, s2]) rfl ⟨_, rfl, From.leaf _ _ _ _, ?_⟩
    exact (((hx0.trans h1).setCell (by show w.heap.size ≤ w.heap.size + 1 + 1; omega) _).setCell (by show w.heap.size ≤ w.heap.size + 1 + 1; omega) _).setCell (by show w.heap.size ≤ w.heap.size + 1 + 1; omega) _
  | true =>
    cases y with
    | false =>
      have E2 := Lib.hid (E.out.trans (if_neg (by simp)))
      clear E HX HPT hcn
      go_enter Try.func18, Try.ntmps18
      go_wp2_with fail
      rw [← hwS]
      clear hwS
      refine (HV.out _ hx0).mono ?_
      rintro e w1 ⟨rfl, h1⟩
      obtain ⟨v0, v1, v2, -, -, -⟩ := own3 (h1.blk hbu)
      go_wp2_with fail
      refine (HVU.out _ (hx0.trans h1)).mono ?_
      rintro e w2 ⟨rfl, h2⟩
      obtain ⟨s0, s1, s2, f0, f1, f2⟩ := own3 ((h1.trans h2).blk hbr)
      go_wp2_with fail
      rw [E2.out]
      refine bodyPost_ret (v := .tuple #[.agg #[.int .i64 0, .int .i64 0, .slice none 0 0], .bool false]) (by simp [results, Try.results18, go_sem, s0, s1, s2]) rfl ⟨_, rfl, From.leaf _ _ _ _, ?_⟩
      exact ((((hx0.trans h1).trans h2).setCell (by show w.heap.size ≤ w.heap.size + 1 + 1; omega) _).setCell (by show w.heap.size ≤ w.heap.size + 1 + 1; omega) _).setCell (by show w.heap.size ≤ w.heap.size + 1 + 1; omega) _
    | true =>
      have HX2 := Lib.hid (HX.out rfl)
      have HPT2 := Lib.hid (HPT.out rfl)
      have HCN := Lib.hid (hcn rfl rfl)
      cases q with
      | none =>
        have E2 := Lib.hid (E.out.trans (if_neg (by simp)))
        clear E HX HPT hcn HPT2 HCN
        go_enter Try.func18, Try.ntmps18
        go_wp2_with fail
        rw [← hwS]
        clear hwS
        refine (HV.out _ hx0).mono ?_
        rintro e w1 ⟨rfl, h1⟩
        obtain ⟨v0, v1, v2, -, -, -⟩ := own3 (h1.blk hbu)
        go_wp2_with fail
        refine (HVU.out _ (hx0.trans h1)).mono ?_
        rintro e w2 ⟨rfl, h2⟩
        obtain ⟨t0, t1, t2, -, -, -⟩ := own3 ((h1.trans h2).blk hb0)
        clear v0 v1 v2
        go_wp2_with fail
        refine (HX2.out _ ((hx0.trans h1).trans h2)).mono ?_
        rintro e w3 ⟨x, ar, rfl, hL2, -, har, h3⟩
        obtain ⟨x1, x2, x3, x4, x5, rfl⟩ := InT.three (t := dflt0) hL2
        have har2 := har rfl
        subst har2
        have hx9 := (Ext.refl w3).alloc (.cells #[.int .i64 x1, .int .i64 x2, .slice x3 x4 x5] 25)
        obtain ⟨s0, s1, s2, f0, f1, f2⟩ := own3 ((((h1.trans h2).trans h3).trans hx9).blk hbr)
        have hxx := (((hx0.trans h1).trans h2).trans h3)
        clear t0 t1 t2 hb0 hbu hbr hs2 hx9 har
        go_wp2_with fail
        rw [E2.out]
        refine bodyPost_ret (v := .tuple #[.agg #[.int .i64 0, .int .i64 0, .slice none 0 0], .bool false]) (by simp [results, Try.results18, go_sem, s0, s1, s2]) rfl ⟨_, rfl, From.leaf _ _ _ _, ?_⟩
        exact (((hxx.alloc _).setCell (by show w.heap.size ≤ w.heap.size + 1 + 1; omega) _).setCell (by show w.heap.size ≤ w.heap.size + 1 + 1; omega) _).setCell (by show w.heap.size ≤ w.heap.size + 1 + 1; omega) _
      | some o =>
        have HPT3 := Lib.hid (HPT2.out rfl)
        have hc9 := HCN.out rfl
        have HVX := Lib.hid (fun a0 a1 a2 a3 a4 W h => validR_any x0 a0 a1 a2 a3 a4 W h)
        have E3 := E.out
        simp only [Bool.true_and, Option.isSome_some] at E3
        generalize valid sigT x0 = b at E3 HVX
        have E2 := Lib.hid E3
        clear E HX HPT hcn HPT2 HCN E3
        go_enter Try.func18, Try.ntmps18
        go_wp2_with fail
        rw [← hwS]
        clear hwS
        refine (HV.out _ hx0).mono ?_
        rintro e w1 ⟨rfl, h1⟩
        obtain ⟨v0, v1, v2, -, -, -⟩ := own3 (h1.blk hbu)
        go_wp2_with fail
        refine (HVU.out _ (hx0.trans h1)).mono ?_
        rintro e w2 ⟨rfl, h2⟩
        obtain ⟨t0, t1, t2, -, -, -⟩ := own3 ((h1.trans h2).blk hb0)
        clear v0 v1 v2
        go_wp2_with fail
        refine (HX2.out _ ((hx0.trans h1).trans h2)).mono ?_
        rintro e w3 ⟨x, ar, rfl, hL2, har, -, h3⟩
        obtain ⟨x1, x2, x3, x4, x5, rfl⟩ := InT.three hL2
        obtain ⟨Ba, ca, rfl⟩ := (har rfl).form
        have hx9 := (Ext.refl w3).alloc (.cells #[.int .i64 x1, .int .i64 x2, .slice x3 x4 x5] 25)
        have hxx := ((((hx0.trans h1).trans h2).trans h3).trans hx9)
        have h19 := (((h1.trans h2).trans h3).trans hx9)
        obtain ⟨w4, hw4⟩ : ∃ x, x = w3.alloc (.cells #[.int .i64 x1, .int .i64 x2, .slice x3 x4 x5] 25) := ⟨_, rfl⟩
        rw [← hw4] at hx9 hxx h19
        have l3 : w.heap.size + 1 + 1 < w3.heap.size := lt_of_blk (((h1.trans h2).trans h3).blk hbr)
        have l3a : w.heap.size < w3.heap.size := by omega
        have l3b : w.heap.size + 1 < w3.heap.size := by omega
        obtain ⟨t0, t1, t2, -, -, -⟩ := own3 (((h1.trans h2).trans h3).blk hb0)
        obtain ⟨v0, v1, v2, -, -, -⟩ := own3 (((h1.trans h2).trans h3).blk hbu)
        clear har hL2
        go_wp2_with fail
        rw [← hw4]
        clear hw4 t0 t1 t2 v0 v1 v2 l3 l3a l3b
        refine (HPT3.out _ hxx).mono ?_
        rintro e w5 ⟨xp, rfl, hXP, h5⟩
        have hXL : Lies w5 x0 xp := InT.mono (fun y hy => by
          rcases hy with hy | hy
          · have h8 : y < w4.heap.size := hy
            have := h5.size
            show y < w5.heap.size
            omega
          · exact hy.2) (fun _ _ => rfl) hXP
        obtain ⟨p1, p2, p3, p4, p5, rfl⟩ := InT.three hXP
        go_wp2_with fail
        refine (own_any x0 _ _ hXL (by omega)).mono ?_
        rintro e w6 ⟨xo, rfl, hM6, h6⟩
        obtain ⟨o1, o2, o3, o4, o5, rfl⟩ := hM6.three
        have hF6 := (From.made hM6).since (C := w.heap.size + 3) (by have := (h19.trans h5).size; have := lt_of_blk hbr; omega)
        go_wp2_with fail
        refine (HVX.out o1 o2 o3 o4 o5 _ hM6.lies).mono ?_
        rintro e w7 ⟨he, h7, -⟩
        have hF7 := hF6.ext h7
        have hxy := (((hxx.trans h5).trans h6).trans h7)
        obtain ⟨s0, s1, s2, f0, f1, f2⟩ := own3 (((((h19.trans h5).trans h6).trans h7)).blk hbr)
        clear hb0 hbu hbr hXP hXL hM6 hF6
        cases b with
        | true =>
          simp only [if_true] at he
          subst he
          go_wp2_with fail
          rw [E2.out]
          refine bodyPost_ret (v := .tuple #[.agg #[.int .i64 o1, .int .i64 o2, .slice o3 o4 o5], .bool true]) (by simp [results, Try.results18, go_sem, s0, s1, s2]) rfl ⟨_, rfl, ?_, ?_⟩
          · exact (((hF7.set (by show w.heap.size + 1 + 1 < w.heap.size + 3; omega) _).set (by show w.heap.size + 1 + 1 < w.heap.size + 3; omega) _).set (by show w.heap.size + 1 + 1 < w.heap.size + 3; omega) _).since (by omega)
          · exact ((hxy.setCell (by show w.heap.size ≤ w.heap.size + 1 + 1; omega) _).setCell (by show w.heap.size ≤ w.heap.size + 1 + 1; omega) _).setCell (by show w.heap.size ≤ w.heap.size + 1 + 1; omega) _
        | false =>
          simp only [Bool.false_eq_true, if_false] at he
          subst he
          go_wp2_with fail
          rw [E2.out]
          refine bodyPost_ret (v := .tuple #[.agg #[.int .i64 0, .int .i64 0, .slice none 0 0], .bool false]) (by simp [results, Try.results18, go_sem, s0, s1, s2]) rfl ⟨_, rfl, From.leaf _ _ _ _, ?_⟩
          exact ((hxy.setCell (by show w.heap.size ≤ w.heap.size + 1 + 1; omega) _).setCell (by show w.heap.size ≤ w.heap.size + 1 + 1; omega) _).setCell (by show w.heap.size ≤ w.heap.size + 1 + 1; omega) _
end Go.Proofs.Ytjgdckkeojehoaa

namespace Go.Proofs.Ytjgdckkeojehoaa
open Go.RowKit
set_option linter.unusedVariables false
attribute [local go_sem ↓] Go.wp_at_zero Go.wp_at_succ

theorem infoTermQ : (Try.prog.info? 25).map (fun i => (i.zero, i.size, i.bytes)) = some (some (.agg #[.int .i64 0, .int .i64 0, .slice none 0 0]), 3, 40) := by kernel_rfl
theorem take_set_lt {ks : List Tr} {j m : Nat} (x : Tr) (h : j < ks.length) (hne : j ≠ m) : (ks.set m x).take (j + 1) = (ks.set m x).take j ++ [ks[j]] := by
  have h' : j < (ks.set m x).length := by rw [List.length_set]; exact h
  rw [← List.take_append_getElem h', List.getElem_set_ne (by omega)]
theorem take_set_eq {ks : List Tr} {m : Nat} (x : Tr) (h : m < ks.length) : (ks.set m x).take (m + 1) = (ks.set m x).take m ++ [x] := by
  have h' : m < (ks.set m x).length := by rw [List.length_set]; exact h
  rw [← List.take_append_getElem h', List.getElem_set_self]
set_option maxRecDepth 100000 in
set_option maxHeartbeats 4000000 in
theorem l3With_any (k n : Int) (ks : List Tr) (kid : Tr) (m B : Nat) (w : World) (v vk : Value) (hin : Lies w (.mk k n ks) v) (hkid : From B w kid vk) (hB : B ≤ w.heap.size) (hm : m < ks.length) (hcnt : cnt (.mk k n ks) ≤ 1000000) :
  Calls Try.prog 113 #[v, .int .i64 m, vk] w fun e w' => ∃ x, e = .returned x ∧ From B w' (.mk k n (ks.set m kid)) x ∧ Ext w w' := by
  obtain ⟨A, cap, rfl, hl, hc, hK⟩ := Lies.mk_iff.1 hin
  obtain ⟨d1, d2, d3, d4, d5, rfl⟩ := hkid.three
  obtain ⟨i0, hi, hz0, hz1, hz2⟩ := info_parts infoTermQ
  have hcc := hc
  unfold maxLen at hcc
  simp only [cnt] at hcnt
  have hlc := len_le_cnts ks
  go_enter Try.func113, Try.ntmps113
  go_wp2_with fail
  obtain ⟨w1, hw1⟩ : ∃ w1, w1 = ((w.alloc (.cells #[.int .i64 k, .int .i64 n, .slice A ks.length cap] 25)).alloc (.cells #[.int .i64 d1, .int .i64 d2, .slice d3 d4 d5] 25)).alloc (.cells #[.int .i64 0, .int .i64 0, .slice none 0 0] 25) := ⟨_, rfl⟩
  obtain ⟨W, hW⟩ : ∃ W, W = w1.alloc (.cells #[.int .i64 k, .int .i64 n, .slice none 0 0] 25) := ⟨_, rfl⟩
  have hs1 : w1.heap.size = w.heap.size + 3 := by rw [hw1]; simp
  have hsW : W.heap.size = w.heap.size + 4 := by rw [hW]; simp; omega
  have hE1 : Ext w w1 := hw1 ▸ (((Ext.refl w).alloc _).alloc _).alloc _
  have hEW : Ext w1 W := hW ▸ (Ext.refl w1).alloc _
  obtain ⟨hbT, hbU, hbR, -⟩ : w1.heap[w.heap.size]? = some (.cells #[.int .i64 k, .int .i64 n, .slice A ks.length cap] 25 (0, 0)) ∧ w1.heap[w.heap.size + 1]? = some (.cells #[.int .i64 d1, .int .i64 d2, .slice d3 d4 d5] 25 (0, 0)) ∧ w1.heap[w.heap.size + 1 + 1]? = some (.cells #[.int .i64 0, .int .i64 0, .slice none 0 0] 25 (0, 0)) ∧ True := by
    rw [hw1]; exact ⟨(blk3 (Ext.refl _)).1, (blk3 (Ext.refl _)).2.1, (blk3 (Ext.refl _)).2.2.1, trivial⟩
  have hbO : W.heap[w.heap.size + 1 + 1 + 1]? = some (.cells #[.int .i64 k, .int .i64 n, .slice none 0 0] 25 (0, 0)) := by
    have := heap_alloc_new w1 (.cells #[.int .i64 k, .int .i64 n, .slice none 0 0] 25)
    rw [hs1] at this
    rw [hW]
    exact this
  rw [← hw1, ← hW]
  have hsWa : w.heap.size + 4 ≤ W.heap.size := by omega
  have hsWb : W.heap.size ≤ w.heap.size + 4 := by omega
  have hs1a : w.heap.size + 3 ≤ w1.heap.size := by omega
  have hs1b : w1.heap.size ≤ w.heap.size + 3 := by omega
  clear hW hw1 hsW hs1
  have hXW : ∀ b, (b < B ∨ w.heap.size ≤ b ∧ b < W.heap.size) → b < W.heap.size := fun b hb => by omega
  go_loopw [8] (fun i wr => ∃ (j : Nat) (v : Value), j ≤ ks.length ∧ i = .int .i64 j ∧ wr.heap[w.heap.size + 1 + 1 + 1]? = some (.cells #[.int .i64 k, .int .i64 n, v] 25 (0, 0)) ∧ GrowS (fun b => b < B ∨ w.heap.size ≤ b ∧ b < W.heap.size) W wr 25 v ((ks.set m kid).take j) ∧ Ext w1 wr ∧ W.heap.size ≤ wr.heap.size) (fun i _ => ks.length - (intOf i).toNat)
  case atStart => exact ⟨0, _, Nat.zero_le _, rfl, hbO, GrowS.nil _ _ _ _, hEW, Nat.le_refl _⟩
  case round =>
    obtain ⟨j, v, hj, rfl, hbv, hG, he, hle⟩ := hrel
    by_cases hlt : j < ks.length
    · have hlen : ((ks.set m kid).take j).length < 1099511627776 := by rw [List.length_take]; omega
      obtain ⟨-, -, t2, -, -, -⟩ := own3 (he.blk hbT)
      obtain ⟨u0, u1, u2, -, -, -⟩ := own3 (he.blk hbU)
      have hj' : (j : Int) < (ks.length : Int) := by omega
      have hv := cell_of_blk hbv 2
      have hfv := frozen_of_blk hbv 2
      have hown : ∀ q, v.ownBlock = some q → W.heap.size ≤ q ∧ q < wr.heap.size := by
        obtain ⟨xs, g1, -⟩ := hG
        exact fun q hq => g1.lt q hq
      have HOWN := Lib.hid hown
      have hwrb : w.heap.size + 1 + 1 + 1 < wr.heap.size := lt_of_blk hbv
      have hlt1 : w.heap.size + 1 < wr.heap.size := by omega
      by_cases hjm : j = m
      · subst hjm
        have hjb : ((j : Int) == (j : Int)) = true := by simp
        have htk := take_set_eq kid hlt
        have HTK := Lib.hid htk
        have hxk := (Ext.refl wr).alloc (.cells #[.int .i64 d1, .int .i64 d2, .slice d3 d4 d5] 25)
        have hGk := hG.ext hxk
        have hTk : InT (wr.alloc (.cells #[.int .i64 d1, .int .i64 d2, .slice d3 d4 d5] 25)) (fun b => b < (wr.alloc (.cells #[.int .i64 d1, .int .i64 d2, .slice d3 d4 d5] 25)).heap.size ∧ v.ownBlock ≠ some b ∧ ¬ (b < B ∨ w.heap.size ≤ b ∧ b < W.heap.size)) kid (.agg #[.int .i64 d1, .int .i64 d2, .slice d3 d4 d5]) := InT.mono (fun y hy => by
          have h1 : B ≤ y := hy.1
          have h2 : y < w.heap.size := hy.2
          exact ⟨by simp; omega, fun hh => by have := (HOWN.out y hh).1; omega, by omega⟩) (fun y hy => ((hE1.trans he).trans hxk).heap y hy.2) hkid
        have HBV := Lib.hid (hxk.blk hbv)
        have HG := Lib.hid hGk
        have HT := Lib.hid hTk
        clear hown hG hGk hTk htk hbv
        go_wp2_with (at_builtin; refine wpList_append_treeS _ rfl (.tmp 25) (.tmp 27) _ (by rfl) 25 i0 _ Try.underlying23 hi hz0 hz1 hz2 rfl (by rfl) (W := W) HG.out (by have := hxk.size; omega) HT.out (by rfl) (heap_alloc_new _ _) hlen ?_ hXW)
        intro v' w5 hG5 hB5
        have hE5 : Ext w1 w5 := (he.trans hxk).trans' hB5 (by omega)
        have hs5 := hB5.size
        have hb6 := (hB5.block (w.heap.size + 1 + 1 + 1) (by omega)).trans HBV.out
        rw [← HTK.out] at hG5
        obtain ⟨B5, c5, rfl, -, -, -, -⟩ := hG5.lies hXW
        obtain ⟨l5, hl5⟩ : ∃ l, ((ks.set j kid).take (j + 1)).length = l := ⟨_, rfl⟩
        rw [hl5] at hG5 ⊢
        clear hl5
        have hsz5 : W.heap.size ≤ w5.heap.size := by have := hxk.size; omega
        have hv5 := cell_of_blk hb6 2
        have hf5 := frozen_of_blk hb6 2
        have HG5 := Lib.hid hG5
        clear hv hfv t2 u0 u1 u2 hG5 hlen
        go_wp2_with fail
        go_roundw
        case rel => exact ⟨j + 1, _, by omega, by go_num, blk_setCell hb6 2 _, HG5.out.only (Only.one w5 (w.heap.size + 1 + 1 + 1) 2 _) (by intro b hb; rw [List.mem_singleton.1 hb]; exact .inr ⟨by omega, by omega⟩) hXW, hE5.setCell (by show _ ≤ w.heap.size + 1 + 1 + 1; omega) _, by simpa using hsz5⟩
        case measure => simp [intOf]; omega
      · have hjb : ((j : Int) == (m : Int)) = false := beq_eq_false_iff_ne.2 (by omega)
        obtain ⟨b, o, k', n', A', cap', kids, rfl, HK, c0, c1, c2, hkl, hkc, hK', hin', hmem⟩ := hK.get (hE1.trans he) hlt
        have htk := take_set_lt kid hlt hjm
        rw [HK.out] at htk
        have HTK := Lib.hid htk
        have hcm := cnt_mem hmem
        have hEd : Ext wr wr.drew := (Ext.refl wr).drew
        have hinD := hin'.ext hEd
        have hcells : ∀ w', Below W.heap.size wr w' → w'.heap[w.heap.size + 1 + 1 + 1]? = some (.cells #[.int .i64 k, .int .i64 n, v] 25 (0, 0)) := fun w' hB => (hB.block (w.heap.size + 1 + 1 + 1) (by omega)).trans hbv
        have HCells := Lib.hid hcells
        have HG := Lib.hid hG
        go_wp2_with fail
        clear hcells hbv hG hown htk hcc u0 u1 u2
        go_region_law (first | (go_simp; go_at_call 72; refine (l1Copy_any _ _ _ hinD (by omega)).mono ?_; rintro e w4 ⟨u, rfl, hM, h4⟩; obtain ⟨a1, a2, a3, a4, a5, rfl⟩ := hM.three'; have hv4 := cell_of_blk (HCells.out _ ((hEd.trans h4).below hle)) 2; have hs4 := World.block_lt_of_cell? _ _ hv4) | (refine step_append_treeS _ (by rfl) (.tmp 31) (.tmp 38) _ (by rfl) 25 i0 _ Try.underlying23 hi hz0 hz1 hz2 rfl (by rfl) (X := fun b => b < B ∨ w.heap.size ≤ b ∧ b < W.heap.size) (W := W) (tr := .mk k' n' kids) (HG.out.ext ((hEd.trans h4).trans ((Ext.refl w4).alloc _))) (by have := (hEd.trans h4).size; simp; omega) (InT.mono (fun y hy => ⟨by have h9 := hy.2; simp; omega, fun hh => by have h9 : wr.heap.size ≤ y := hy.1; have := (HOWN.out y hh).2; omega, by have h9 : wr.heap.size ≤ y := hy.1; omega⟩) (fun y hy => ((Ext.refl w4).alloc _).heap y hy.2) (From.made hM)) (by rfl) (heap_alloc_new _ _) hlen ?_ hXW; intro v' w5 hG5 hB5; obtain ⟨B5, c5, rfl, -, -, -, -⟩ := hG5.lies hXW; obtain ⟨l5, hl5⟩ : ∃ l, ((ks.set m kid).take j ++ [Tr.mk k' n' kids]).length = l := ⟨_, rfl⟩; rw [hl5] at hG5 ⊢; clear hl5; have hB5' : Below W.heap.size wr w5 := (((hEd.trans h4).trans ((Ext.refl w4).alloc _)).below hle).trans hB5; have hv5 := cell_of_blk (HCells.out _ hB5') 2; have hf5 := frozen_of_blk (HCells.out _ hB5') 2))
        all_goals (
          have hE5 : Ext w1 w5 := he.trans' hB5' (by omega)
          have hs5 := hB5'.size
          have hb6 := HCells.out _ hB5'
          rw [← HTK.out] at hG5
          have HG5 := Lib.hid hG5
          clear hv4 hs4 hv HCells hM h4 c0 c1 c2 t2 hG5 hB5 hB5' hfv
          go_wp2_with fail
          go_roundw
          case rel => exact ⟨j + 1, _, by omega, by go_num, blk_setCell hb6 2 _, HG5.out.only (Only.one w5 (w.heap.size + 1 + 1 + 1) 2 _) (by intro b hb; rw [List.mem_singleton.1 hb]; exact .inr ⟨by omega, by omega⟩) hXW, hE5.setCell (by show _ ≤ w.heap.size + 1 + 1 + 1; omega) _, by simp; omega⟩
          case measure => simp [intOf]; omega)
    · have hln : (ks.set m kid).take j = ks.set m kid := List.take_of_length_le (by rw [List.length_set]; omega)
      rw [hln] at hG
      obtain ⟨r0, r1, r2, -, -, -⟩ := own3 hbv
      obtain ⟨-, -, t2, -, -, -⟩ := own3 (he.blk hbT)
      obtain ⟨s0, s1, s2, f0, f1, f2⟩ := own3 (he.blk hbR)
      have hGr := fun (x0 x1 x2 : Value) => ((hG.only (Only.one _ (w.heap.size + 1 + 1) 0 x0) (by intro b hb; rw [List.mem_singleton.1 hb]; exact .inr ⟨by omega, by omega⟩) hXW).only (Only.one _ (w.heap.size + 1 + 1) 1 x1) (by intro b hb; rw [List.mem_singleton.1 hb]; exact .inr ⟨by omega, by omega⟩) hXW).only (Only.one _ (w.heap.size + 1 + 1) 2 x2) (by intro b hb; rw [List.mem_singleton.1 hb]; exact .inr ⟨by omega, by omega⟩) hXW
      obtain ⟨Bv, cv, rfl, q1, q2, -, -⟩ := hG.lies hXW
      have HGR := Lib.hid hGr
      have hE9 := hE1.trans he
      clear hGr hG hln hbv
      go_wp2_with fail
      refine bodyPost_ret (v := .agg #[.int .i64 k, .int .i64 n, .slice Bv ks.length cv]) (by simp [results, Try.results113, go_sem, s0, s1, s2]) rfl ⟨_, rfl, ?_, ?_⟩
      · obtain ⟨Bv', cv', he', q1', q2', hKK, -⟩ := (HGR.out (.int .i64 k) (.int .i64 n) (.slice Bv ks.length cv)).lies hXW
        simp only [Value.slice.injEq, true_and] at he'
        obtain ⟨rfl, rfl⟩ := he'
        have := From.mk (B := B) k n (InK.mono (fun y hy => ⟨by have h9 : ¬ (y < B ∨ w.heap.size ≤ y ∧ y < W.heap.size) := hy.2; show B ≤ y; omega, hy.1⟩) (fun _ _ => rfl) hKK) q1 q2
        rw [List.length_set] at this
        exact this
      · exact ((hE9.setCell (by show _ ≤ w.heap.size + 1 + 1; omega) _).setCell (by show _ ≤ w.heap.size + 1 + 1; omega) _).setCell (by show _ ≤ w.heap.size + 1 + 1; omega) _
end Go.Proofs.Ytjgdckkeojehoaa

namespace Go.Proofs.Ytjgdckkeojehoaa
open Go.RowKit
set_option linter.unusedVariables false
attribute [local go_sem ↓] Go.wp_at_zero Go.wp_at_succ

def L8PutC (p : List Int) : Prop := ∀ (t u : Tr) (d : Int), shape sigT t d = true → (atT t p).isSome = true → ∀ (w : World) (vt vu : Value), Lies w t vt → Lies w u vu → ∀ (A : Option Addr) (n cap : Nat), PFs w A n cap p → n ≤ 1000 → cnt t ≤ 1000000 → cnt u ≤ 1000000 →
  Calls Try.prog 61 #[vt, .slice A n cap, vu] w fun e w' => ∃ x, e = .returned x ∧ From w.heap.size w' (putA t p u) x ∧ Ext w w'
set_option maxRecDepth 100000 in
set_option maxHeartbeats 4000000 in
theorem l8Put_any : ∀ p : List Int, L8PutC p := fun p => by
  induction p with
  | nil =>
    intro t u d hsh hat w vt vu hT hU A n cap hp hn1 hcn hcu
    obtain ⟨k, nn, ks⟩ := t
    obtain ⟨At, ct, rfl, hlt, hct, hKt⟩ := Lies.mk_iff.1 hT
    have hU0 := hU
    obtain ⟨d1, d2, d3, d4, d5, rfl⟩ := InT.three hU
    have hn0 : n = 0 := hp.hn.symm
    subst hn0
    have hx0 := (((Ext.refl w).alloc (.cells #[.int .i64 k, .int .i64 nn, .slice At ks.length ct] 25)).alloc (.cells #[.int .i64 d1, .int .i64 d2, .slice d3 d4 d5] 25)).alloc (.cells #[.int .i64 0, .int .i64 0, .slice none 0 0] 25)
    obtain ⟨hb0, hbu, hbr, hs2⟩ := blk3 (Ext.refl (((w.alloc (.cells #[.int .i64 k, .int .i64 nn, .slice At ks.length ct] 25)).alloc (.cells #[.int .i64 d1, .int .i64 d2, .slice d3 d4 d5] 25)).alloc (.cells #[.int .i64 0, .int .i64 0, .slice none 0 0] 25)))
    go_enter Try.func61, Try.ntmps61
    go_wp2_with fail
    generalize World.alloc (World.alloc (World.alloc w _) _) _ = wS at hx0 hb0 hbu hbr hs2 ⊢
    refine (l1Copy_any u _ _ (hU0.ext hx0) (by omega)).mono ?_
    rintro e w6 ⟨xo, rfl, hM6, h6⟩
    obtain ⟨o1, o2, o3, o4, o5, rfl⟩ := hM6.three
    have hF6 := (From.made hM6).since (C := w.heap.size + 3) (by have := lt_of_blk hbr; omega)
    obtain ⟨s0, s1, s2, f0, f1, f2⟩ := own3 (h6.blk hbr)
    have hxx := hx0.trans h6
    clear hb0 hbu hbr
    go_wp2_with fail
    rw [putA_nil]
    refine bodyPost_ret (v := .agg #[.int .i64 o1, .int .i64 o2, .slice o3 o4 o5]) (by simp [results, Try.results61, go_sem, s0, s1, s2]) rfl ⟨_, rfl, ?_, ?_⟩
    · exact (((hF6.set (by show w.heap.size + 1 + 1 < w.heap.size + 3; omega) _).set (by show w.heap.size + 1 + 1 < w.heap.size + 3; omega) _).set (by show w.heap.size + 1 + 1 < w.heap.size + 3; omega) _).since (by omega)
    · exact ((hxx.setCell (by show w.heap.size ≤ w.heap.size + 1 + 1; omega) _).setCell (by show w.heap.size ≤ w.heap.size + 1 + 1; omega) _).setCell (by show w.heap.size ≤ w.heap.size + 1 + 1; omega) _
  | cons i r ih =>
    intro t u d hsh hat w vt vu hT hU A n cap hp hn1 hcn hcu
    have hT0 := hT
    obtain ⟨k, nn, ks⟩ := t
    obtain ⟨At, ct, rfl, hlt, hct, hKt⟩ := Lies.mk_iff.1 hT
    have hU0 := hU
    obtain ⟨e1, e2, e3, e4, e5, rfl⟩ := InT.three hU
    have hn0 : n = r.length + 1 := by have := hp.hn; simpa using this.symm
    obtain ⟨b1, o1, rfl, cp⟩ := hp.hP.get (Ext.refl w) (j := 0) (by simp)
    simp only [List.getElem_cons_zero, Nat.add_zero] at cp
    have hi : 0 ≤ i ∧ i < ks.length := by
      rw [atT] at hat
      split at hat
      · assumption
      · cases hat
    rw [atT, if_pos hi] at hat
    obtain ⟨m, rfl⟩ := Int.eq_ofNat_of_zero_le hi.1
    have hm : m < ks.length := by omega
    have hmt : ((m : Int)).toNat = m := by omega
    rw [hmt] at hat
    have hput : putA (.mk k nn ks) ((m : Int) :: r) u = .mk k nn (ks.set m (putA (kd ks m) r u)) := by rw [putA, hmt]
    rw [hput]
    obtain ⟨b, o, k2, n2, A2, c2, kids2, rfl, HK, d0, d1, d2, hkl2, hkc2, hK2, hin2, hmem⟩ := hKt.get (Ext.refl w) hm
    have hkd : kd ks m = .mk k2 n2 kids2 := kd_of hm HK.out
    obtain ⟨-, -, -, hsk⟩ := shape_kids hsh
    have hsk2 := hsk _ hmem
    have hcm := cnt_mem hmem
    have hcnt := hcn
    simp only [cnt] at hcn
    rw [hkd] at hat ⊢
    have hbw : b < w.heap.size := World.block_lt_of_cell? _ _ d0
    have hb1w : b1 < w.heap.size := World.block_lt_of_cell? _ _ cp
    have hx0 := (((Ext.refl w).alloc (.cells #[.int .i64 k, .int .i64 nn, .slice (some ⟨b, o, none⟩) ks.length ct] 25)).alloc (.cells #[.int .i64 e1, .int .i64 e2, .slice e3 e4 e5] 25)).alloc (.cells #[.int .i64 0, .int .i64 0, .slice none 0 0] 25)
    obtain ⟨hb0, hbu, hbr, hs2⟩ := blk3 (Ext.refl (((w.alloc (.cells #[.int .i64 k, .int .i64 nn, .slice (some ⟨b, o, none⟩) ks.length ct] 25)).alloc (.cells #[.int .i64 e1, .int .i64 e2, .slice e3 e4 e5] 25)).alloc (.cells #[.int .i64 0, .int .i64 0, .slice none 0 0] 25)))
    have hpt := hp.tail
    have hcpb : n ≤ cap := hp.hl
    have hcpm : cap ≤ maxLen := hp.hc
    unfold maxLen at hcpm
    obtain ⟨AD, hAD⟩ : ∃ AD, (if cap = 1 then some (⟨b1, o1, none⟩ : Addr) else some ⟨b1, o1 + 1, none⟩) = AD := ⟨_, rfl⟩
    rw [hAD] at hpt
    have HAD := Lib.hid hAD
    have hnz : ((n : Int) == 0) = false := beq_eq_false_iff_ne.2 (by omega)
    have hnz2 : (n == 0) = false := beq_eq_false_iff_ne.2 (by omega)
    have hn2 : (0 : Int) < (n : Int) := by omega
    have hn3 : (1 : Int) ≤ (n : Int) := by omega
    have hn6 : 0 < n := by omega
    have hn7 : 1 ≤ n := by omega
    have hn8 : 1 ≤ cap := by omega
    have hn4 : (1 : Int) ≤ (cap : Int) := by omega
    have hn5 : (n : Int) ≤ (cap : Int) := by omega
    have hm2 : (m : Int) < (ks.length : Int) := by omega
    have hm3 : (0 : Int) ≤ (m : Int) := by omega
    clear hAD hput hsk hmt hi hn0 hT hU hkd hKt
    go_enter Try.func61, Try.ntmps61
    go_wp2_with fail
    generalize World.alloc (World.alloc (World.alloc w _) _) _ = wS at hx0 hb0 hbu hbr hs2 ⊢
    obtain ⟨y0, y1, y2, -, -, -⟩ := own3 hb0
    obtain ⟨v0, v1, v2, -, -, -⟩ := own3 hbu
    have p0 := hx0.cell cp
    have q0 := hx0.cell d0
    have q1 := hx0.cell d1
    have q2 := hx0.cell d2
    have HS4 := Lib.hid (show ∀ w' : World, (∀ y, y < wS.heap.size → y ≠ w.heap.size + 1 + 1 → w'.heap[y]? = wS.heap[y]?) → w'.cell? ⟨w.heap.size, 0, none⟩ = some (.int .i64 k) ∧ w'.cell? ⟨w.heap.size, 1, none⟩ = some (.int .i64 nn) ∧ w'.cell? ⟨w.heap.size, 2, none⟩ = some (.slice (some ⟨b, o, none⟩) ks.length ct) ∧ w'.cell? ⟨b1, o1, none⟩ = some (.int .i64 m) ∧ w'.cell? ⟨b, o + m * 3, none⟩ = some (.int .i64 k2) ∧ w'.cell? ⟨b, o + m * 3 + 1, none⟩ = some (.int .i64 n2) ∧ w'.cell? ⟨b, o + m * 3 + 2, none⟩ = some (.slice A2 kids2.length c2) ∧ w'.cell? ⟨w.heap.size + 1, 0, none⟩ = some (.int .i64 e1) ∧ w'.cell? ⟨w.heap.size + 1, 1, none⟩ = some (.int .i64 e2) ∧ w'.cell? ⟨w.heap.size + 1, 2, none⟩ = some (.slice e3 e4 e5) from fun w' hw => by
      have f : ∀ (y j : Nat) (x : Value), y < wS.heap.size → y ≠ w.heap.size + 1 + 1 → wS.cell? ⟨y, j, none⟩ = some x → w'.cell? ⟨y, j, none⟩ = some x := fun y j x h1 h2 h3 => (World.cell?_of_block (a := ⟨y, j, none⟩) (hw y h1 h2)).trans h3
      exact ⟨f _ _ _ (by omega) (by omega) y0, f _ _ _ (by omega) (by omega) y1, f _ _ _ (by omega) (by omega) y2, f _ _ _ (by omega) (by omega) p0, f _ _ _ (by omega) (by omega) q0, f _ _ _ (by omega) (by omega) q1, f _ _ _ (by omega) (by omega) q2, f _ _ _ (by omega) (by omega) v0, f _ _ _ (by omega) (by omega) v1, f _ _ _ (by omega) (by omega) v2⟩)
    have X0 : Ext wS wS.drew := (Ext.refl wS).drew
    clear y0 y1 y2 v0 v1 v2 p0 q0 q1 q2
    go_region_held3 (fun w' => w'.cell? ⟨w.heap.size, 0, none⟩ = some (.int .i64 k) ∧ w'.cell? ⟨w.heap.size, 1, none⟩ = some (.int .i64 nn) ∧ w'.cell? ⟨w.heap.size, 2, none⟩ = some (.slice (some ⟨b, o, none⟩) ks.length ct) ∧ w'.cell? ⟨b1, o1, none⟩ = some (.int .i64 m) ∧ w'.cell? ⟨b, o + m * 3, none⟩ = some (.int .i64 k2) ∧ w'.cell? ⟨b, o + m * 3 + 1, none⟩ = some (.int .i64 n2) ∧ w'.cell? ⟨b, o + m * 3 + 2, none⟩ = some (.slice A2 kids2.length c2) ∧ w'.cell? ⟨w.heap.size + 1, 0, none⟩ = some (.int .i64 e1) ∧ w'.cell? ⟨w.heap.size + 1, 1, none⟩ = some (.int .i64 e2) ∧ w'.cell? ⟨w.heap.size + 1, 2, none⟩ = some (.slice e3 e4 e5))
      (first | exact HS4.out _ (fun y h1 h2 => by rw [Below.heap_setCell _ _ _ _ h2, Below.heap_setCell _ _ _ _ h2, Below.heap_setCell _ _ _ _ h2]; exact hx9.heap y h1) | exact HS4.out _ (fun y h1 _ => hx9.heap y h1) | exact HS4.out _ (fun y h1 _ => hx8.heap y h1) | exact HS4.out _ (fun y h1 _ => X0.heap y h1))
      (first | (go_at_call 61; (try rw [HAD.out]); refine (ih _ u (d - 1) hsk2 hat wS.drew _ _ (hin2.ext (hx0.trans X0)) (hU0.ext (hx0.trans X0)) _ _ _ (hpt.ext (hx0.trans X0)) (by omega) (by omega) (by omega)).mono ?_; rintro e w8 ⟨x, rfl, hX8, ea8⟩; have hx8 : Ext wS w8 := X0.trans ea8) | (go_at_call 113; refine (l3With_any k nn ks _ m wS.drew.heap.size w8 _ _ (hT0.ext (hx0.trans hx8)) hX8 ea8.size hm hcnt).mono ?_; rintro e w9 ⟨x9, rfl, hX9, ea9⟩; have hx9 : Ext wS w9 := hx8.trans ea9; have hX9' := hX9; obtain ⟨g1, g2, g3, g4, g5, rfl⟩ := hX9'.three; clear hX9'; obtain ⟨s0, s1, s2, f0, f1, f2⟩ := own3 (hx9.blk hbr)))
    have hF9 := hX9.since (C := w.heap.size + 3) (by show w.heap.size + 3 ≤ wS.heap.size; omega)
    have hxx := hx0.trans hx9
    clear hb0 hbu hbr HS4 X0 hx8 hX8 hX9 ea8 ea9
    go_wp2_with fail
    refine bodyPost_ret (v := .agg #[.int .i64 g1, .int .i64 g2, .slice g3 g4 g5]) (by simp [results, Try.results61, go_sem, s0, s1, s2]) rfl ⟨_, rfl, ?_, ?_⟩
    · exact (((hF9.set (by show w.heap.size + 1 + 1 < w.heap.size + 3; omega) _).set (by show w.heap.size + 1 + 1 < w.heap.size + 3; omega) _).set (by show w.heap.size + 1 + 1 < w.heap.size + 3; omega) _).since (by omega)
    · exact ((hxx.setCell (by show w.heap.size ≤ w.heap.size + 1 + 1; omega) _).setCell (by show w.heap.size ≤ w.heap.size + 1 + 1; omega) _).setCell (by show w.heap.size ≤ w.heap.size + 1 + 1; omega) _
theorem putV_eq (t : Tr) (p : List Int) (u : Tr) : putV t p u = if ((atV t p).2 && (valid sigT u && valid sigT (putA t p u))) = true then (putA t p u, true) else (dflt0, false) := by
  unfold putV atV
  cases valid sigT t <;> cases valid sigT u <;> cases (atT t p).isSome <;> simp
set_option maxRecDepth 100000 in
set_option maxHeartbeats 2000000 in
theorem specPutAt_any (t u : Tr) (p : List Int) (w : World) (vt vu : Value) (hT : Lies w t vt) (hU : Lies w u vu) (A : Option Addr) (n cap : Nat) (hp : PFs w A n cap p) (hn : n ≤ 1000) : Calls Try.prog 19 #[vt, .slice A n cap, vu] w fun e w' => ∃ x, e = .returned (.tuple #[x, .bool (putV t p u).2]) ∧ From w.heap.size w' (putV t p u).1 x ∧ Ext w w' := by
  have HVU := Lib.hid (fun W (hW : Ext w W) => specValidTerm u W vu (hU.ext hW))
  have HX := Lib.hid (fun W (hW : Ext w W) => by
    have := specTermAt_any t p W vt (hT.ext hW) A cap (by rw [hp.hn]; exact hp.hl) hp.hc (hp.hP.ext hW)
    rw [hp.hn] at this
    exact this)
  have hfc : (atV t p).2 = true → valid sigT t = true ∧ (atT t p).isSome = true := fun h => by
    unfold atV at h
    split at h
    · rename_i hv; exact ⟨hv, h⟩
    · cases h
  have HPT := Lib.hid (fun (h : (atV t p).2 = true) (h2 : valid sigT u = true) W (hW : Ext w W) => l8Put_any p t u 30 (cnt_of_valid (hfc h).1).2 (hfc h).2 W vt vu (hT.ext hW) (hU.ext hW) A n cap (hp.ext hW) hn (by have := (cnt_of_valid (hfc h).1).1; omega) (by have := (cnt_of_valid h2).1; omega))
  have E := Lib.hid (putV_eq t p u)
  generalize hx : putA t p u = x0 at E HPT
  obtain ⟨⟨tx, z⟩, ha⟩ : ∃ a, atV t p = a := ⟨_, rfl⟩
  rw [ha] at HX E HPT
  obtain ⟨y, hy⟩ : ∃ z, valid sigT u = z := ⟨_, rfl⟩
  rw [hy] at HVU E HPT
  clear hy hx hfc ha
  simp only at HX E HPT
  obtain ⟨k, nn, ks⟩ := t
  obtain ⟨At, ct, rfl, -, -, -⟩ := Lies.mk_iff.1 hT
  obtain ⟨ku, nu, us⟩ := u
  obtain ⟨Au, cu, rfl, -, -, -⟩ := Lies.mk_iff.1 hU
  have hx0 := (((Ext.refl w).alloc (.cells #[.int .i64 k, .int .i64 nn, .slice At ks.length ct] 25)).alloc (.cells #[.int .i64 ku, .int .i64 nu, .slice Au us.length cu] 25)).alloc (.cells #[.int .i64 0, .int .i64 0, .slice none 0 0] 25)
  obtain ⟨hb0, hbu, hbr, hs2⟩ := blk3 (Ext.refl (((w.alloc (.cells #[.int .i64 k, .int .i64 nn, .slice At ks.length ct] 25)).alloc (.cells #[.int .i64 ku, .int .i64 nu, .slice Au us.length cu] 25)).alloc (.cells #[.int .i64 0, .int .i64 0, .slice none 0 0] 25)))
  obtain ⟨wS, hwS⟩ : ∃ x, x = ((w.alloc (.cells #[.int .i64 k, .int .i64 nn, .slice At ks.length ct] 25)).alloc (.cells #[.int .i64 ku, .int .i64 nu, .slice Au us.length cu] 25)).alloc (.cells #[.int .i64 0, .int .i64 0, .slice none 0 0] 25) := ⟨_, rfl⟩
  rw [← hwS] at hx0 hb0 hbu hbr hs2
  cases z with
  | false =>
    have E2 := Lib.hid (E.out.trans (if_neg (by simp)))
    clear E HPT
    go_enter Try.func19, Try.ntmps19
    go_wp2_with fail
    rw [← hwS]
    clear hwS
    refine (HX.out _ hx0).mono ?_
    rintro e w1 ⟨x, rfl, hL1, h1⟩
    obtain ⟨x1, x2, x3, x4, x5, rfl⟩ := InT.three hL1
    have hx9 := (Ext.refl w1).alloc (.cells #[.int .i64 x1, .int .i64 x2, .slice x3 x4 x5] 25)
    obtain ⟨s0, s1, s2, f0, f1, f2⟩ := own3 ((h1.trans hx9).blk hbr)
    have hxx := (hx0.trans h1).trans hx9
    clear hb0 hbu hbr hs2 hx9
    go_wp2_with fail
    rw [E2.out]
    refine bodyPost_ret (v := .tuple #[.agg #[.int .i64 0, .int .i64 0, .slice none 0 0], .bool false]) (by simp [results, Try.results19, go_sem, s0, s1, s2]) rfl ⟨_, rfl, From.leaf _ _ _ _, ?_⟩
    exact ((hxx.setCell (by show w.heap.size ≤ w.heap.size + 1 + 1; omega) _).setCell (by show w.heap.size ≤ w.heap.size + 1 + 1; omega) _).setCell (by show w.heap.size ≤ w.heap.size + 1 + 1; omega) _
  | true =>
    go_enter Try.func19, Try.ntmps19
    go_wp2_with fail
    rw [← hwS]
    clear hwS
    refine (HX.out _ hx0).mono ?_
    rintro e w1 ⟨x, rfl, hL1, h1⟩
    obtain ⟨x1, x2, x3, x4, x5, rfl⟩ := InT.three hL1
    have hx9 := (Ext.refl w1).alloc (.cells #[.int .i64 x1, .int .i64 x2, .slice x3 x4 x5] 25)
    have hxx := (hx0.trans h1).trans hx9
    have h19 := h1.trans hx9
    obtain ⟨w4, hw4⟩ : ∃ x, x = w1.alloc (.cells #[.int .i64 x1, .int .i64 x2, .slice x3 x4 x5] 25) := ⟨_, rfl⟩
    rw [← hw4] at hx9 hxx h19
    have l3b : w.heap.size + 1 < w1.heap.size := lt_of_blk (h1.blk hbu)
    obtain ⟨v0, v1, v2, -, -, -⟩ := own3 (h1.blk hbu)
    clear hL1
    go_wp2_with fail
    rw [← hw4]
    clear hw4 v0 v1 v2 l3b
    refine (HVU.out _ hxx).mono ?_
    rintro e w2 ⟨rfl, h2⟩
    have h29 := h19.trans h2
    have hxy := hxx.trans h2
    cases y with
    | false =>
      have E2 := Lib.hid (E.out.trans (if_neg (by simp)))
      obtain ⟨s0, s1, s2, f0, f1, f2⟩ := own3 (h29.blk hbr)
      clear E HPT
      go_wp2_with fail
      rw [E2.out]
      refine bodyPost_ret (v := .tuple #[.agg #[.int .i64 0, .int .i64 0, .slice none 0 0], .bool false]) (by simp [results, Try.results19, go_sem, s0, s1, s2]) rfl ⟨_, rfl, From.leaf _ _ _ _, ?_⟩
      exact ((hxy.setCell (by show w.heap.size ≤ w.heap.size + 1 + 1; omega) _).setCell (by show w.heap.size ≤ w.heap.size + 1 + 1; omega) _).setCell (by show w.heap.size ≤ w.heap.size + 1 + 1; omega) _
    | true =>
      have HPT3 := Lib.hid (HPT.out (by trivial) (by trivial))
      have HVX := Lib.hid (fun a0 a1 a2 a3 a4 W h => l7Made_any x0 a0 a1 a2 a3 a4 W h)
      have E3 := E.out
      simp only [Bool.true_and] at E3
      generalize valid sigT x0 = b at E3 HVX
      have E2 := Lib.hid E3
      clear E HPT E3
      obtain ⟨t0, t1, t2, -, -, -⟩ := own3 (h29.blk hb0)
      obtain ⟨v0, v1, v2, -, -, -⟩ := own3 (h29.blk hbu)
      go_wp2_with fail
      refine (HPT3.out _ hxy).mono ?_
      rintro e w5 ⟨xp, rfl, hXP, h5⟩
      obtain ⟨o1, o2, o3, o4, o5, rfl⟩ := hXP.three
      have hF6 := hXP.since (C := w.heap.size + 3) (by have := h29.size; have := lt_of_blk hbr; omega)
      clear t0 t1 t2 v0 v1 v2
      go_wp2_with fail
      refine (HVX.out o1 o2 o3 o4 o5 _ hXP.lies).mono ?_
      rintro e w7 ⟨he, h7, -⟩
      have hF7 := hF6.ext h7
      have hxz := (hxy.trans h5).trans h7
      obtain ⟨s0, s1, s2, f0, f1, f2⟩ := own3 (((h29.trans h5).trans h7).blk hbr)
      clear hb0 hbu hbr hXP hF6
      cases b with
      | true =>
        simp only [if_true] at he
        subst he
        go_wp2_with fail
        rw [E2.out]
        refine bodyPost_ret (v := .tuple #[.agg #[.int .i64 o1, .int .i64 o2, .slice o3 o4 o5], .bool true]) (by simp [results, Try.results19, go_sem, s0, s1, s2]) rfl ⟨_, rfl, ?_, ?_⟩
        · exact (((hF7.set (by show w.heap.size + 1 + 1 < w.heap.size + 3; omega) _).set (by show w.heap.size + 1 + 1 < w.heap.size + 3; omega) _).set (by show w.heap.size + 1 + 1 < w.heap.size + 3; omega) _).since (by omega)
        · exact ((hxz.setCell (by show w.heap.size ≤ w.heap.size + 1 + 1; omega) _).setCell (by show w.heap.size ≤ w.heap.size + 1 + 1; omega) _).setCell (by show w.heap.size ≤ w.heap.size + 1 + 1; omega) _
      | false =>
        simp only [Bool.false_eq_true, if_false] at he
        subst he
        go_wp2_with fail
        rw [E2.out]
        refine bodyPost_ret (v := .tuple #[.agg #[.int .i64 0, .int .i64 0, .slice none 0 0], .bool false]) (by simp [results, Try.results19, go_sem, s0, s1, s2]) rfl ⟨_, rfl, From.leaf _ _ _ _, ?_⟩
        exact ((hxz.setCell (by show w.heap.size ≤ w.heap.size + 1 + 1; omega) _).setCell (by show w.heap.size ≤ w.heap.size + 1 + 1; omega) _).setCell (by show w.heap.size ≤ w.heap.size + 1 + 1; omega) _
end Go.Proofs.Ytjgdckkeojehoaa

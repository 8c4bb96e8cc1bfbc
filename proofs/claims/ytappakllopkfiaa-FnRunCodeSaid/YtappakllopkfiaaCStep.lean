/-
  slices.Clone of programs; impl.codeStep.
-/
import Derived.Test.YtappakllopkfiaaFilled
import Derived.Test.YtappakllopkfiaaAny
import Derived.Test.YtappakllopkfiaaNode
import Derived.Test.YtappakllopkfiaaRow
import Derived.Deep.RegionHeld3
import Derived.Lib.SliceRun
namespace Go.Proofs.Ytappakllopkfiaa
open Go.RowKit
set_option linter.unusedVariables false
attribute [local go_sem ↓] Go.wp_at_zero Go.wp_at_succ

theorem wpList_append_row3c {P : Program} (w : World) {ops : Array Oper} {rest : List Oper} {o : Oper} {a : Act} {Q : Exit → Act → World → Prop} (hgd : o.guard = none) (s x : Operand) (t : TypeId)
    (ho : o.op = .call { callee := .builtin .append, args := #[s, x], argTypes := #[t, t] })
    (base : Nat) (e : TypeId) (i : TypeInfo) (z : Value) (ht : P.underlying t = some (.slice e)) (hi : P.info? e = some i) (hz : i.zero = some z) (hsize : i.size = 3) (hby : i.bytes = 40) (hzs : z.cells.size = 3)
    {v : Value} {b0 o0 cap : Nat} {ks : List Tr} (hs : a.eval s = v) (hown : w.ownsRow base e 3 v 0 []) (hbase : base ≤ w.heap.size) (hx : a.eval x = .slice (some ⟨b0, o0, none⟩) ks.length cap) {S : Nat → Prop} (hS : ∀ b, S b → b < w.heap.size ∧ v.ownBlock ≠ some b) (hK : InL w S b0 o0 ks) (hn : ks.length ≤ 1048576) (h0 : 0 < ks.length)
    (h : ∀ (c' g : Nat) (cs : Array Value) (w' : World), w'.heap[g]? = some (.cells cs e (0, 0)) → base ≤ g → ks.length * 3 ≤ cs.size → RowL w' S cs.toList ks → ks.length ≤ c' → c' ≤ maxLen → w.grownBy w' v.ownBlock → wpList P ops Q rest (a.put o.dst (.slice (some ⟨g, 0, none⟩) ks.length c')) w') : wpList P ops Q (o :: rest) a w := by
  refine wpList_plain hgd fun K hK' => ?_
  obtain ⟨xs, n1, n2, n3, n4⟩ := hK.rowL
  obtain ⟨v', w', hr, r1, r2, r3⟩ := run_append_own' (P := P) w base t o.type e i z 3 40 ht hi hz hsize hby hzs (by decide) v 0 [] hown ⟨b0, o0, none⟩ ks.length cap xs n1 (fun j u hu => by rw [Addr.add_lit]; exact n2 j u hu) n3 (by unfold maxLen; omega) (by omega) hbase
  rw [Nat.zero_add, List.nil_append] at r1
  unfold Oper.wp execOp
  simp only [ho, resolve, invoke, builtin, Sem.run_bind, Sem.run_pure, Result.andThen_ok, List.map_toArray, List.map_cons, List.map_nil, hs, hx, hr]
  rcases r1.2 with ⟨-, h5⟩ | ⟨g, c', cs, rfl, hb, hg, hnc, hcm, hcs, ht'⟩
  · omega
  · refine hK' _ _ (h c' g cs w' hg hb (by rw [hcs]; exact Nat.mul_le_mul_right _ hnc) ?_ hnc hcm r2)
    have h6 := RowL.tail (cs.toList.drop (ks.length * 3)) (n4.mono (fun _ h => h) (fun b hb => r2.block b (hS b hb).1 (fun he => (hS b hb).2 he.symm)))
    rw [← ht', List.take_append_drop] at h6
    exact h6
set_option maxRecDepth 100000 in
set_option maxHeartbeats 1000000 in
theorem cloneCodes_any (ks : List Tr) (w : World) (S : Nat → Prop) (hS : ∀ b, S b → b < w.heap.size) (b o cap : Nat) (hb : S b) (hK : InL w S b o ks) (hn : ks.length ≤ 1048576) (h0 : 0 < ks.length) : Calls Try.prog 137 #[.slice (some ⟨b, o, none⟩) ks.length cap] w fun e w' =>
    ∃ (c g : Nat) (cs : Array Value), e = .returned (.slice (some ⟨g, 0, none⟩) ks.length c) ∧ w'.heap[g]? = some (.cells cs 28 (0, 0)) ∧ w.heap.size ≤ g ∧ ks.length * 3 ≤ cs.size ∧ RowL w' S cs.toList ks ∧ ks.length ≤ c ∧ c ≤ maxLen ∧ Ext w w' := by
  obtain ⟨i0, hi, hz0, hz1, hz2⟩ := info_parts infoFi
  have hx := (Ext.refl w).alloc (.cells #[] 28)
  have hK2 : InL (w.alloc (.cells #[] 28)) S b o ks := InL.mono (fun _ h => h) (fun x hx' => hx.heap x (hS x hx')) hb hK
  have hG : (w.alloc (.cells #[] 28)).ownsRow w.heap.size 28 3 (.slice (some ⟨w.heap.size, 0, none⟩) 0 0) 0 [] := World.ownsRow_lit w #[] 0 (Nat.le_refl _) (Nat.zero_le _) rfl
  have hnil : ∀ W, (binOp .eql 26 (.slice (some ⟨b, o, none⟩) ks.length cap) (.slice none 0 0)).run Try.prog W = .ok (.bool false) W := fun W => Lib.run_eql_slice_nil W 26 _ (some ⟨b, o, none⟩) ks.length cap 0 0 Try.underlying26
  clear hK
  go_enter Try.func137, Try.ntmps137
  go_wp2_with (at_builtin; refine wpList_append_row3c _ rfl (.tmp 5) (.tmp 6) 26 rfl w.heap.size 28 i0 _ Try.underlying26 hi hz0 hz1 hz2 rfl (S := S) (v := .slice (some ⟨w.heap.size, 0, none⟩) 0 0) rfl hG (by simp) rfl (fun y hy => ⟨by have h9 : y < w.heap.size := hS y hy; simp; omega, by have h9 : y < w.heap.size := hS y hy; simp [Value.ownBlock]; omega⟩) hK2 hn h0 ?_)
  intro c g cs w' r1 r2 r3 r4 r5 r6 r7
  have hE : Ext w w' := hx.grown r7 (by intro k hk; simp [Value.ownBlock] at hk; omega)
  go_wp2_with fail
  go_ret
  exact ⟨c, g, cs, rfl, r1, r2, r3, r4, r5, r6, hE⟩
theorem kid_get {ks : List Tr} {j : Nat} {t : Tr} (h : j < ks.length) (e : ks[j] = t) : kid ks j = t := by
  unfold kid
  rw [List.getD_eq_getElem?_getD, List.getElem?_eq_getElem h, e]
  rfl
/-- The first operand that is no value makes the step. -/
theorem stps_first : ∀ (ks : List Tr) (j : Nat) (hj : j < ks.length), (∀ i (h : i < j), isV (ks[i]'(by omega)) = true) → isV ks[j] = false → stps ks = some ((stp ks[j]).map (fun r => ks.set j r))
  | t :: ts, 0, _, _, hn => by
    have h : isV t = false := hn
    unfold stps
    rw [if_neg (by rw [h]; decide)]
    rfl
  | t :: ts, j + 1, hj, hv, hn => by
    have h0 : isV t = true := hv 0 (by omega)
    unfold stps
    rw [if_pos h0, stps_first ts j (by simpa using hj) (fun i h => hv (i + 1) (by omega)) hn]
    simp only [Option.map_some, Option.map_map, List.getElem_cons_succ]
    rfl
theorem stps_none : ∀ ks : List Tr, (∀ i (h : i < ks.length), isV ks[i] = true) → stps ks = none
  | [], _ => by unfold stps; rfl
  | t :: ts, hv => by
    have h0 : isV t = true := hv 0 (by simp)
    unfold stps
    rw [if_pos h0, stps_none ts (fun i h => hv (i + 1) (by simpa using h))]
    rfl
theorem stp_of {k n : Int} {ks : List Tr} (h : isV (.mk k n ks) = false) {r : Option (List Tr)} (e : stps ks = some r) : stp (.mk k n ks) = r.map (Tr.mk k 0) := by
  unfold stp
  rw [if_neg (by rw [h]; decide), e]
theorem stp_rul {k n : Int} {ks : List Tr} (h : isV (.mk k n ks) = false) (e : stps ks = none) : stp (.mk k n ks) = rul k ks := by
  unfold stp
  rw [if_neg (by rw [h]; decide), e]
theorem stp_value {t : Tr} (h : isV t = true) : stp t = none := by
  obtain ⟨k, n, ks⟩ := t
  unfold stp
  rw [if_pos h]
/-- What a step answers: the tree of the step, if there is one. -/
def StpQ (w : World) (S : Nat → Prop) (o : Option Tr) (e : Ending) (w' : World) : Prop := ∃ a1 a2 a3 a4 a5, e = .returned (.tuple #[.agg #[.int .i64 a1, .int .i64 a2, .slice a3 a4 a5], .bool o.isSome]) ∧ (∀ t', o = some t' → InT w' (fun b => S b ∨ w.heap.size ≤ b ∧ b < w'.heap.size) t' (.agg #[.int .i64 a1, .int .i64 a2, .slice a3 a4 a5])) ∧ Ext w w'
mutual
/-- A tree's rows are there. -/
theorem InT.bound {w : World} {S : Nat → Prop} : ∀ {t : Tr} {v : Value}, InT w S t v → InT w (fun b => S b ∧ b < w.heap.size) t v
  | .mk k n ks, v, h => by
    obtain ⟨A, cap, rfl, h1, h2, h3⟩ := InT.mk_iff.1 h
    refine InT.mk_iff.2 ⟨A, cap, rfl, h1, h2, ?_⟩
    cases ks with
    | nil => exact .inl rfl
    | cons t ts =>
      rcases h3 with h3 | ⟨b, o, rfl, hb, hl⟩
      · cases h3
      · refine .inr ⟨b, o, rfl, ⟨hb, ?_⟩, InL.bound hl⟩
        unfold InL at hl
        obtain ⟨⟨v0, v1, v2, h0, -⟩, -⟩ := hl
        exact World.block_lt_of_cell? _ _ h0
theorem InL.bound {w : World} {S : Nat → Prop} {b : Nat} : ∀ {o : Nat} {ks : List Tr}, InL w S b o ks → InL w (fun b => S b ∧ b < w.heap.size) b o ks
  | _, [], _ => by unfold InL; trivial
  | o, t :: ts, h => by
    unfold InL at h ⊢
    obtain ⟨⟨v0, v1, v2, h0, h1, h2, ht⟩, hts⟩ := h
    exact ⟨⟨v0, v1, v2, h0, h1, h2, InT.bound ht⟩, InL.bound hts⟩
end
/-- A tree lies in a later world as it did. -/
theorem InT.later {w w' : World} {S : Nat → Prop} {t : Tr} {v : Value} (h : InT w S t v) (he : Ext w w') : InT w' S t v :=
  InT.mono (fun _ hb => hb.1) (fun b hb => he.heap b hb.2) h.bound
theorem heap_alloc_at {w : World} {o : Obj} {n : Nat} (h : n = w.heap.size) : (w.alloc o).heap[n]? = some o := h ▸ heap_alloc_new w o
theorem call_from (w : World) (k : Int) (A : Option Addr) (cap : Nat) (ks : List Tr) (S : Nat → Prop) (hK : InK w S A ks) (hl : ks.length ≤ cap) (hc : cap ≤ maxLen) :
    Calls Try.prog 139 #[.int .i64 k, .slice A ks.length cap] w fun e w' => ∃ a1 a2 a3 a4 a5, e = .returned (.agg #[.int .i64 a1, .int .i64 a2, .slice a3 a4 a5]) ∧ InT w' S (.mk k 0 ks) (.agg #[.int .i64 a1, .int .i64 a2, .slice a3 a4 a5]) ∧ Ext w w' := by
  refine (call_any w k A ks.length cap).mono ?_
  rintro e w' ⟨rfl, h⟩
  exact ⟨_, _, _, _, _, rfl, (InT.mk_iff.2 ⟨A, cap, rfl, hl, hc, hK⟩ : InT w S _ _).later h, h⟩
def CStC (t : Tr) : Prop := ∀ (d : Int) (w : World) (v : Value) (S : Nat → Prop), (∀ b, S b → b < w.heap.size) → shape sigC t d = true → cnt t ≤ 1000 → InT w S t v → Calls Try.prog 67 #[v] w (StpQ w S (stp t))

set_option maxRecDepth 100000 in
set_option maxHeartbeats 8000000 in
theorem codeStep_any : ∀ t : Tr, CStC t := Tr.ind fun k n ks hk => by
  intro d w v S hS hsh hcn hinS
  have hin : Lies w (.mk k n ks) v := InT.mono hS (fun _ _ => rfl) hinS
  obtain ⟨A, cap, rfl, hl, hc, hK⟩ := InT.mk_iff.1 hinS
  obtain ⟨hops, -, -, hsk⟩ := shape_kids hsh
  have hops' : opsC k = (ks.length : Int) := hops
  have hcc := hc
  unfold maxLen at hcc
  have hlc := len_le_cnts ks
  simp only [cnt] at hcn
  have hX0 := ((Ext.refl w).alloc (.cells #[.int .i64 k, .int .i64 n, .slice A ks.length cap] 28)).alloc (.cells #[.int .i64 0, .int .i64 0, .slice none 0 0] 28)
  obtain ⟨hb0, hb1, hs2⟩ := blk2 (Ext.refl ((w.alloc (.cells #[.int .i64 k, .int .i64 n, .slice A ks.length cap] 28)).alloc (.cells #[.int .i64 0, .int .i64 0, .slice none 0 0] 28)))
  have HVAL := Lib.hid (fun W (hW : Ext w W) => isValue_any (.mk k n ks) W _ (hin.ext hW))
  clear hsh
  obtain ⟨vb, hvb⟩ : ∃ b, isV (.mk k n ks) = b := ⟨_, rfl⟩
  rw [hvb] at HVAL
  cases vb with
  | true =>
    rw [stp_value hvb]
    clear hvb
    go_enter Try.func67, Try.ntmps67
    go_wp2_with fail
    generalize World.alloc (World.alloc w _) _ = w1 at hX0 hb0 hb1 hs2 ⊢
    refine (HVAL.out _ hX0).mono ?_
    rintro e w2 ⟨rfl, h2⟩
    obtain ⟨s0, s1, s2, f0, f1, f2⟩ := own3 (h2.blk hb1)
    have HE := Lib.hid (hX0.trans h2)
    clear hb0 hb1
    go_wp2_with fail
    refine bodyPost_ret (v := .tuple #[.agg #[.int .i64 0, .int .i64 0, .slice none 0 0], .bool false]) (by simp [results, Try.results67, go_sem, s0, s1, s2]) rfl ⟨_, _, _, _, _, rfl, (by intro t' h; cases h), by first | exact (((HE.out.setCell (p := ⟨w.heap.size + 1, 0, none⟩) (by show w.heap.size ≤ w.heap.size + 1; omega) _).setCell (p := ⟨w.heap.size + 1, 1, none⟩) (by show w.heap.size ≤ w.heap.size + 1; omega) _).setCell (p := ⟨w.heap.size + 1, 2, none⟩) (by show w.heap.size ≤ w.heap.size + 1; omega) _) | exact HE.out⟩
  | false =>
    have hv := hvb
    have HV := Lib.hid hv
    clear hvb hv
    go_enter Try.func67, Try.ntmps67
    go_wp2_with fail
    generalize World.alloc (World.alloc w _) _ = w1 at hX0 hb0 hb1 hs2 ⊢
    refine (HVAL.out _ hX0).mono ?_
    rintro e w2 ⟨rfl, h2⟩
    have hX2 := hX0.trans h2
    replace hb0 := h2.blk hb0
    replace hb1 := h2.blk hb1
    have hs3 : w.heap.size + 1 < w2.heap.size := lt_of_blk hb1
    clear h2 hX0 hs2 HVAL
    obtain ⟨z0, z1, z2, -, -, -⟩ := own3 hb0
    go_wp2_with fail
    clear z0 z1 z2
    go_loopw [17] (fun i wr => ∃ (j : Nat), j ≤ ks.length ∧ i = .int .i64 j ∧ (∀ i (h : i < ks.length), i < j → isV ks[i] = true) ∧ wr.heap[w.heap.size]? = some (.cells #[.int .i64 k, .int .i64 n, .slice A ks.length cap] 28 (0, 0)) ∧ wr.heap[w.heap.size + 1]? = some (.cells #[.int .i64 0, .int .i64 0, .slice none 0 0] 28 (0, 0)) ∧ Ext w wr) (fun i _ => ks.length - (intOf i).toNat)
    case atStart => exact ⟨0, Nat.zero_le _, rfl, fun i _ h => by omega, hb0, hb1, hX2⟩
    case round =>
      obtain ⟨j, hj, rfl, hall, hbT, hbR, he⟩ := hrel
      clear hb0 hb1 hX2 hs3
      by_cases hlt : j < ks.length
      · obtain ⟨b, o, k', n', A', cap', kids, rfl, HK, c0, c1, c2, hkl, hkc, hK', hinS', hmem, hSb⟩ := hK.get (fun b hb => he.heap b (hS b hb)) hlt
        have hin' : Lies wr (.mk k' n' kids) _ := InT.mono (fun b hb => Nat.lt_of_lt_of_le (hS b hb) he.size) (fun _ _ => rfl) hinS'
        have hSW : ∀ W, Ext w W → ∀ y, S y → y < W.heap.size := fun W hW y hy => Nat.lt_of_lt_of_le (hS y hy) hW.size
        have HSW := Lib.hid hSW
        have hcm := cnt_mem hmem
        clear hSW
        have hj2 : (j : Int) < (ks.length : Int) := by omega
        have hj3 : (0 : Int) ≤ (j : Int) := Int.natCast_nonneg _
        have HALL := Lib.hid hall
        obtain ⟨vk, hvk⟩ : ∃ b, isV (.mk k' n' kids) = b := ⟨_, rfl⟩
        have HVK := Lib.hid (fun W (hW : Ext wr W) => isValue_any (.mk k' n' kids) W _ (hin'.ext hW))
        rw [hvk] at HVK
        have HVB := Lib.hid hvk
        have hx5 := (Ext.refl wr).alloc (.cells #[.int .i64 k', .int .i64 n', .slice A' kids.length cap'] 28)
        have hb5 := heap_alloc_new wr (.cells #[.int .i64 k', .int .i64 n', .slice A' kids.length cap'] 28)
        have hsr := lt_of_blk hbR
        clear hall hvk
        go_wp2_with fail
        clear c0 c1 c2
        generalize wr.alloc _ = w5 at hx5 hb5 ⊢
        refine (HVK.out _ hx5).mono ?_
        cases vk with
        | true =>
          rintro e w6 ⟨rfl, h6⟩
          have HH := Lib.hid (show _ ∧ _ ∧ _ from ⟨(hx5.trans h6).blk hbT, (hx5.trans h6).blk hbR, he.trans (hx5.trans h6)⟩)
          clear hbT hbR hb5
          go_wp2_with fail
          go_roundw
          case rel =>
            refine ⟨j + 1, by omega, by go_num, fun i hi hij => ?_, HH.out.1, HH.out.2.1, HH.out.2.2⟩
            by_cases e : i = j
            · subst e; rw [HK.out]; exact HVB.out
            · exact HALL.out i hi (by omega)
          case measure => simp [intOf]; omega
        | false =>
          rintro e w6 ⟨rfl, h6⟩
          have hst := stps_first ks j hlt (fun i h => HALL.out i (by omega) h) (by rw [HK.out]; exact HVB.out)
          rw [HK.out] at hst
          have hsp := stp_of HV.out hst
          obtain ⟨b50, b51, b52, -, -, -⟩ := own3 (h6.blk hb5)
          go_wp2_with fail
          clear b50 b51 b52
          obtain ⟨z6, hz6⟩ : ∃ z, w6.heap.size = z := ⟨_, rfl⟩
          have hz6a : w.heap.size + 1 < z6 := by have := (hx5.trans h6).size; omega
          refine (hk _ hmem (d - 1) _ _ S (HSW.out _ (he.trans (hx5.trans h6))) (hsk _ hmem) (by omega) (InT.mono (fun _ h => h) (fun y hy => (hx5.trans h6).heap y (HSW.out _ he y hy)) hinS')).mono ?_
          rintro e w7 ⟨a1, a2, a3, a4, a5, rfl, hL7, h7⟩
          have hx8 : Ext wr (w7.alloc (.cells #[.int .i64 a1, .int .i64 a2, .slice a3 a4 a5] 28)) := ((hx5.trans h6).trans h7).alloc _
          have hb8 := heap_alloc_new w7 (.cells #[.int .i64 a1, .int .i64 a2, .slice a3 a4 a5] 28)
          rw [hz6] at hL7
          obtain ⟨z7, hz7⟩ : ∃ z, w7.heap.size = z := ⟨_, rfl⟩
          have hz67 : z6 ≤ z7 := by have := h7.size; omega
          have hz7s : z7 < (w7.alloc (.cells #[.int .i64 a1, .int .i64 a2, .slice a3 a4 a5] 28)).heap.size := by simp; omega
          have hL8 : ∀ t', _ → InT (w7.alloc (.cells #[.int .i64 a1, .int .i64 a2, .slice a3 a4 a5] 28)) (fun b => S b ∨ z6 ≤ b ∧ b < z7) t' _ := fun t' ht => InT.mono (fun y hy => by rcases hy with hy | hy; exact .inl hy; exact .inr ⟨hy.1, by rw [← hz7]; exact hy.2⟩) (fun y hy => ((Ext.refl w7).alloc _).heap y (by rcases hy with hy | hy; exact HSW.out _ (he.trans ((hx5.trans h6).trans h7)) y hy; exact hy.2)) (hL7 t' ht)
          obtain ⟨so, hso⟩ : ∃ so, stp (.mk k' n' kids) = so := ⟨_, rfl⟩
          rw [hso] at hL8 hsp ⊢
          have HSP := Lib.hid hsp
          have HL8 := Lib.hid hL8
          clear hL7 hL8 hsp hst hso hb5 h6 h7 hx5
          obtain ⟨ob, hob⟩ : ∃ b, so.isSome = b := ⟨_, rfl⟩
          rw [hob]
          go_wp2_with fail
          rw [hz7] at hb8
          generalize w7.alloc _ = wS at hx8 hb8 HL8 hz7s ⊢
          clear hz6 hz7
          have HXS := Lib.hid hx8
          obtain ⟨z0, z1, z2, -, -, -⟩ := own3 (hx8.blk hbT)
          have HS3 := Lib.hid (show ∀ w', Ext wS w' → w'.cell? ⟨w.heap.size, 0, none⟩ = some (.int .i64 k) ∧ w'.cell? ⟨w.heap.size, 2, none⟩ = some (.slice (some ⟨b, o, none⟩) ks.length cap) from fun w' hw => ⟨hw.cell z0, hw.cell z2⟩)
          have X0 : Ext wS wS.drew := (Ext.refl wS).drew
          have hKS : InL w S b o ks := by
            rcases hK with h | ⟨b', o', hA, hb', hh⟩
            · subst h; simp at hlt
            · simp only [Option.some.injEq, Addr.mk.injEq, and_true] at hA
              obtain ⟨rfl, rfl⟩ := hA
              exact hh
          have HKSV := Lib.hid (fun V (hV : Ext wS V) => InL.mono (S := S) (S' := S) (fun _ h => h) (fun y hy => ((he.trans hx8).trans hV).heap y (hS y hy)) hSb hKS)
          clear z0 z1 z2 hKS
          go_region_held3 (fun w' => w'.cell? ⟨w.heap.size, 0, none⟩ = some (.int .i64 k) ∧ w'.cell? ⟨w.heap.size, 2, none⟩ = some (.slice (some ⟨b, o, none⟩) ks.length cap))
            (first | exact HS3.out _ (((hxd.setCell (p := ⟨wS.heap.size, 0, none⟩) (Nat.le_refl _) _).setCell (p := ⟨wS.heap.size, 1, none⟩) (Nat.le_refl _) _).setCell (p := ⟨wS.heap.size, 2, none⟩) (Nat.le_refl _) _) | exact HS3.out _ (hxd.alloc _) | exact HS3.out _ hxd | exact HS3.out _ X0 | exact HS3.out _ (X0.alloc _) | exact HS3.out _ ((Ext.refl wS).alloc _).drew)
            (first | (go_at_call 137; refine (cloneCodes_any ks _ S (HSW.out _ ((he.trans HXS.out).trans (by first | exact X0 | exact X0.alloc _ | exact ((Ext.refl wS).alloc _).drew))) b o cap hSb (HKSV.out _ (by first | exact X0 | exact X0.alloc _ | exact ((Ext.refl wS).alloc _).drew)) (by omega) (by omega)).mono ?_; rintro e wd ⟨c, g, cs, rfl, hrow, hgl, hcs, hRl, hc1, hc2', ed⟩; have hxd : Ext wS wd := (by first | exact X0.trans ed | exact (X0.alloc _).trans ed | exact (((Ext.refl wS).alloc _).drew).trans ed); (first | (have qb : wd.heap[wS.heap.size]? = some (.cells #[.int .i64 0, .int .i64 0, .slice none 0 0] 28 (0, 0)) := ed.blk (heap_alloc_new wS.drew (.cells #[.int .i64 0, .int .i64 0, .slice none 0 0] 28)); have hgb : wS.heap.size < g := (by simp at hgl; omega); obtain ⟨sa, sb, sc, fa, fb, fc⟩ := own3 qb) | (have qb : wd.heap[wS.heap.size]? = some (.cells #[.int .i64 0, .int .i64 0, .slice none 0 0] 28 (0, 0)) := ed.blk (heap_alloc_new wS (.cells #[.int .i64 0, .int .i64 0, .slice none 0 0] 28)); have hgb : wS.heap.size < g := (by simp at hgl; omega); obtain ⟨sa, sb, sc, fa, fb, fc⟩ := own3 qb) | (have qb := trivial; have hgb := trivial))))
          all_goals have hgS : wS.heap.size ≤ g := by have h9 := hgl; simp at h9; omega
          all_goals (first
            | (have en : Ext wS (wd.alloc (.cells #[.int .i64 k, .int .i64 0, .slice (some ⟨g, 0, none⟩) ks.length c] 28)) := hxd.alloc _; have bn := heap_alloc_new wd (.cells #[.int .i64 k, .int .i64 0, .slice (some ⟨g, 0, none⟩) ks.length c] 28); have rn := ((Ext.refl wd).alloc (.cells #[.int .i64 k, .int .i64 0, .slice (some ⟨g, 0, none⟩) ks.length c] 28)).blk hrow; have Rn : RowL (wd.alloc (.cells #[.int .i64 k, .int .i64 0, .slice (some ⟨g, 0, none⟩) ks.length c] 28)) S cs.toList ks := hRl.mono (fun _ h => h) (fun y hy => Below.heap_alloc wd _ y (HSW.out _ ((he.trans HXS.out).trans hxd) y hy)); have gne : wd.heap.size ≠ g := (by have := lt_of_blk hrow; omega); have gw : wS.heap.size ≤ wd.heap.size := hxd.size; obtain ⟨w9, hw9⟩ : ∃ x, x = wd.alloc (.cells #[.int .i64 k, .int .i64 0, .slice (some ⟨g, 0, none⟩) ks.length c] 28) := ⟨_, rfl⟩; rw [← hw9]; rw [← hw9] at en bn rn Rn; clear hw9; obtain ⟨g7, hg7⟩ : ∃ x, x = wd.heap.size := ⟨_, rfl⟩; rw [← hg7] at bn gne gw ⊢; clear hg7)
            | (have en : Ext wS (((wd.setCell ⟨wS.heap.size, 0, none⟩ (.int .i64 k)).setCell ⟨wS.heap.size, 1, none⟩ (.int .i64 0)).setCell ⟨wS.heap.size, 2, none⟩ (.slice (some ⟨g, 0, none⟩) ks.length c)) := ((hxd.setCell (p := ⟨wS.heap.size, 0, none⟩) (Nat.le_refl _) _).setCell (p := ⟨wS.heap.size, 1, none⟩) (Nat.le_refl _) _).setCell (p := ⟨wS.heap.size, 2, none⟩) (Nat.le_refl _) _; have bn := blk_setCell (blk_setCell (blk_setCell qb 0 (.int .i64 k)) 1 (.int .i64 0)) 2 (.slice (some ⟨g, 0, none⟩) ks.length c); have rn := blk_setCell_ne (blk_setCell_ne (blk_setCell_ne hrow (p := ⟨wS.heap.size, 0, none⟩) (by show g ≠ wS.heap.size; omega) (.int .i64 k)) (p := ⟨wS.heap.size, 1, none⟩) (by show g ≠ wS.heap.size; omega) (.int .i64 0)) (p := ⟨wS.heap.size, 2, none⟩) (by show g ≠ wS.heap.size; omega) (.slice (some ⟨g, 0, none⟩) ks.length c); have Rn : RowL (((wd.setCell ⟨wS.heap.size, 0, none⟩ (.int .i64 k)).setCell ⟨wS.heap.size, 1, none⟩ (.int .i64 0)).setCell ⟨wS.heap.size, 2, none⟩ (.slice (some ⟨g, 0, none⟩) ks.length c)) S cs.toList ks := hRl.mono (fun _ h => h) (fun y hy => by have hy' : y < wS.heap.size := HSW.out _ (he.trans HXS.out) y hy; rw [Below.heap_setCell _ _ _ _ (by show y ≠ wS.heap.size; omega), Below.heap_setCell _ _ _ _ (by show y ≠ wS.heap.size; omega), Below.heap_setCell _ _ _ _ (by show y ≠ wS.heap.size; omega)]); have gne : wS.heap.size ≠ g := (by omega); obtain ⟨w9, hw9⟩ : ∃ x, x = (((wd.setCell ⟨wS.heap.size, 0, none⟩ (.int .i64 k)).setCell ⟨wS.heap.size, 1, none⟩ (.int .i64 0)).setCell ⟨wS.heap.size, 2, none⟩ (.slice (some ⟨g, 0, none⟩) ks.length c)) := ⟨_, rfl⟩; rw [← hw9]; rw [← hw9] at en bn rn Rn; clear hw9; obtain ⟨g7, hg7⟩ : ∃ x, x = wS.heap.size := ⟨_, rfl⟩; have gw : wS.heap.size ≤ g7 := (by rw [hg7]; exact Nat.le_refl _); rw [← hg7] at bn gne ⊢; clear hg7))
          all_goals (
            try clear sa sb sc fa fb fc
            clear qb hgb hxd ed hrow hRl hgl X0 HS3
            have hE9 : Ext w w9 := (he.trans HXS.out).trans en
            have bR9 := (HXS.out.trans en).blk hbR
            obtain ⟨y0, y1, y2, -, -, -⟩ := own3 bn
            obtain ⟨x0, x1, x2, -, -, -⟩ := own3 (en.blk hb8)
            obtain ⟨u0, u1, u2, r0, r1, r2, f0, f1, f2⟩ := cells3 (i := j * 3) rn (by omega)
            have hg8 : z7 < wS.heap.size := lt_of_blk hb8
            have hgr : g < w9.heap.size := lt_of_blk rn
            have hg7 : g7 < w9.heap.size := lt_of_blk bn
            have hs9 := en.size
            have hsS := HXS.out.size
            have n1 : w.heap.size + 1 ≠ g := by omega
            have n2 : w.heap.size + 1 ≠ g7 := by omega
            have n3 : g7 ≠ g := gne
            have HBN := Lib.hid bn
            have HRN := Lib.hid rn
            have HBR := Lib.hid bR9
            have HL9 : Hid (∀ t', so = some t' → InT w9 (fun b => S b ∨ z6 ≤ b ∧ b < z7) t' (.agg #[.int .i64 a1, .int .i64 a2, .slice a3 a4 a5])) := Lib.hid (fun t' ht => InT.mono (fun _ h => h) (fun y hy => en.heap y (by rcases hy with hy | hy; exact HSW.out _ (he.trans HXS.out) y hy; omega)) (HL8.out t' ht))
            have RN9 := Lib.hid Rn
            obtain ⟨s0, s1, s2, p0, p1, p2⟩ := own3 bR9
            have m1 : (w.heap.size + 1 == g) = false := beq_eq_false_iff_ne.2 n1
            have n4 : g ≠ w.heap.size + 1 := by omega
            have n5 : g ≠ g7 := by omega
            clear bn rn bR9 gne hbT hbR HKSV Rn HL8
            go_wp2_with fail
            clear u0 u1 u2 r0 r1 r2 f0 f1 f2 x0 x1 x2 y0 y1 y2
            have hsW : (((w9.setCell ⟨g, j * 3, none⟩ (.int .i64 a1)).setCell ⟨g, j * 3 + 1, none⟩ (.int .i64 a2)).setCell ⟨g, j * 3 + 2, none⟩ (.slice a3 a4 a5)).heap.size = w9.heap.size := by simp
            refine bodyPost_ret (v := .tuple #[.agg #[.int .i64 k, .int .i64 0, .slice (some ⟨g, 0, none⟩) ks.length c], .bool ob]) (by simp [results, Try.results67, go_sem, s0, s1, s2]) rfl ?_
            rw [HSP.out]
            refine ⟨k, 0, some ⟨g, 0, none⟩, ks.length, c, by rw [← hob]; simp, fun t' ht' => ?_, ?_⟩
            · obtain ⟨r, hr, hrt⟩ : ∃ r, so = some r ∧ t' = .mk k 0 (ks.set j r) := by
                cases so with
                | none => cases ht'
                | some r => exact ⟨r, rfl, by simpa using ht'.symm⟩
              subst hrt
              have hX := HL9.out r hr
              have rn9 := blk_setCell (blk_setCell (blk_setCell HRN.out (j * 3) (.int .i64 a1)) (j * 3 + 1) (.int .i64 a2)) (j * 3 + 2) (.slice a3 a4 a5)
              have keep : ∀ y, y ≠ g → (((w9.setCell ⟨g, j * 3, none⟩ (.int .i64 a1)).setCell ⟨g, j * 3 + 1, none⟩ (.int .i64 a2)).setCell ⟨g, j * 3 + 2, none⟩ (.slice a3 a4 a5)).heap[y]? = w9.heap[y]? := fun y hy => by rw [Below.heap_setCell _ _ _ _ hy, Below.heap_setCell _ _ _ _ hy, Below.heap_setCell _ _ _ _ hy]
              generalize ((w9.setCell ⟨g, j * 3, none⟩ (.int .i64 a1)).setCell ⟨g, j * 3 + 1, none⟩ (.int .i64 a2)).setCell ⟨g, j * 3 + 2, none⟩ (.slice a3 a4 a5) = w10 at rn9 keep hsW ⊢
              have hyg : ∀ y, (S y ∨ z6 ≤ y ∧ y < z7) → y ≠ g ∧ y ≠ w.heap.size + 1 ∧ (S y ∨ w.heap.size ≤ y ∧ y < w9.heap.size) := fun y hy => by
                rcases hy with hy | hy
                · have := hS y hy
                  exact ⟨by omega, by omega, .inl hy⟩
                · exact ⟨by omega, by omega, .inr ⟨by omega, by omega⟩⟩
              have hR := RowL.set (S := fun y => (S y ∨ z6 ≤ y ∧ y < z7) ∨ y = g) (InT.mono (fun y hy => .inl hy) (fun y hy => keep y (hyg y hy).1) hX) j (RN9.out.mono (fun y hy => .inl (.inl hy)) (fun y hy => keep y (hyg y (.inl hy)).1))
              have hIL := RowL.inL rn9 (pre := []) hR (by simp [Array.toList_setIfInBounds])
              refine InT.mk_iff.2 ⟨some ⟨g, 0, none⟩, c, by rw [List.length_set], by rw [List.length_set]; exact hc1, hc2', .inr ⟨g, 0, rfl, .inr ⟨by omega, by simp only [World.size_setCell]; omega⟩, ?_⟩⟩
              refine InL.mono (S := fun y => (S y ∨ z6 ≤ y ∧ y < z7) ∨ y = g) (fun y hy => ?_) (fun y hy => ?_) (.inr rfl) hIL
              · rcases hy with hy | rfl
                · rcases (hyg y hy).2.2 with h | h
                  · exact .inl h
                  · exact .inr ⟨h.1, by simp only [World.size_setCell]; omega⟩
                · exact .inr ⟨by omega, by simp only [World.size_setCell]; omega⟩
              · have hne : y ≠ w.heap.size + 1 := by
                  rcases hy with hy | rfl
                  · exact (hyg y hy).2.1
                  · omega
                rw [Below.heap_setCell _ _ _ _ hne, Below.heap_setCell _ _ _ _ hne, Below.heap_setCell _ _ _ _ hne]
            · have hg1 : w.heap.size ≤ g := by omega
              exact ((((((hE9.setCell (p := ⟨g, j * 3, none⟩) hg1 _).setCell (p := ⟨g, j * 3 + 1, none⟩) hg1 _).setCell (p := ⟨g, j * 3 + 2, none⟩) hg1 _).setCell (p := ⟨w.heap.size + 1, 0, none⟩) (by show w.heap.size ≤ w.heap.size + 1; omega) _).setCell (p := ⟨w.heap.size + 1, 1, none⟩) (by show w.heap.size ≤ w.heap.size + 1; omega) _).setCell (p := ⟨w.heap.size + 1, 2, none⟩) (by show w.heap.size ≤ w.heap.size + 1; omega) _))
      · have hjl : j = ks.length := by omega
        have hst := stps_none ks (fun i h => hall i h (by omega))
        have hv := HV.out
        have hsz2 : w.heap.size + 1 < wr.heap.size := lt_of_blk hbR
        have hnlt : ¬ ((j : Int) < (ks.length : Int)) := by omega
        obtain ⟨z0, z1, z2, -, -, -⟩ := own3 hbT
        clear hall HV hj
        by_cases h3 : k = 3
        · subst h3
          have hks : ks.length = 2 := by have h9 : (2 : Int) = (ks.length : Int) := hops'; omega
          have hlt0 : 0 < ks.length := by omega
          have hi0 : (0 : Int) < (ks.length : Int) := by omega
          obtain ⟨b0, o0, k0, n0, A0, cap0, kids0, hA0, HK0, c00, c01, c02, hkl0, hkc0, hK0, hin0, hmem0, hSb0⟩ := hK.get (fun b hb => he.heap b (hS b hb)) hlt0
          simp only [Nat.zero_mul, Nat.add_zero] at c00 c01 c02
          have hkid0 : kid ks 0 = .mk k0 n0 kids0 := kid_get hlt0 HK0.out
          have hbs0 : b0 < w.heap.size := hS _ hSb0
          have hlt1 : 1 < ks.length := by omega
          have hi1 : (1 : Int) < (ks.length : Int) := by omega
          obtain ⟨b1, o1, k1, n1, A1, cap1, kids1, hA1, HK1, c10, c11, c12, hkl1, hkc1, hK1, hin1, hmem1, hSb1⟩ := hK.get (fun b hb => he.heap b (hS b hb)) hlt1
          simp only [Nat.one_mul, Nat.add_assoc, Nat.reduceAdd] at c10 c11 c12
          have hkid1 : kid ks 1 = .mk k1 n1 kids1 := kid_get hlt1 HK1.out
          have hbs1 : b1 < w.heap.size := hS _ hSb1
          subst hA0
          injection hA1 with hA1
          injection hA1 with hB1 hC1 hD1
          subst hB1 hC1
          by_cases h0 : k0 = 2
          · subst h0
            obtain ⟨hops0, -, -, hsk0⟩ := shape_kids (hsk _ hmem0)
            have hlen0 : kids0.length = 1 := by have h9 : (1 : Int) = (kids0.length : Int) := hops0; omega
            have hlt3 : 0 < kids0.length := by omega
            have hi3 : (0 : Int) < (kids0.length : Int) := by omega
            obtain ⟨b3, o3, k3, n3, A3, cap3, kids3, hA3, HK3, c30, c31, c32, hkl3, hkc3, hK3, hin3, hmem3, hSb3⟩ := hK0.get (w' := wr) (fun _ _ => rfl) hlt3
            simp only [Nat.zero_mul, Nat.add_zero] at c30 c31 c32
            have hkid3 : kid kids0 0 = .mk k3 n3 kids3 := kid_get hlt3 HK3.out
            have hbs3 : b3 < w.heap.size := hS _ hSb3
            subst hA3
            have hrul : rul 3 ks = some (putT (.mk k3 n3 kids3) 0 (.mk k1 n1 kids1)) := by simp [rul, hkid0, hkid1, hkid3, Tr.kd, Tr.kids]
            have hr : stp (.mk 3 n ks) = _ := (stp_rul hv hst).trans hrul
            have HR := Lib.hid hr
            have hcm0 := cnt_mem hmem0
            have hcm1 := cnt_mem hmem1
            have hcm3 := cnt_mem hmem3
            simp only [cnt] at hcm0
            have hcells : ∀ w' : World, (∀ y, y < wr.heap.size → y ≠ w.heap.size + 1 → w'.heap[y]? = wr.heap[y]?) → w'.cell? ⟨w.heap.size, 2, none⟩ = some (.slice (some ⟨b0, o0, none⟩) ks.length cap) ∧ w'.cell? ⟨b0, o0 + 2, none⟩ = some (.slice (some ⟨b3, o3, none⟩) kids0.length cap0) ∧ w'.cell? ⟨b3, o3, none⟩ = some (.int .i64 k3) ∧ w'.cell? ⟨b3, o3 + 1, none⟩ = some (.int .i64 n3) ∧ w'.cell? ⟨b3, o3 + 2, none⟩ = some (.slice A3 kids3.length cap3) ∧ w'.cell? ⟨b0, o0 + 3, none⟩ = some (.int .i64 k1) ∧ w'.cell? ⟨b0, o0 + 4, none⟩ = some (.int .i64 n1) ∧ w'.cell? ⟨b0, o0 + 5, none⟩ = some (.slice A1 kids1.length cap1) := by
              intro w' h
              have hfar : ∀ q i v, q < w.heap.size + 1 → wr.cell? ⟨q, i, none⟩ = some v → w'.cell? ⟨q, i, none⟩ = some v := fun q i v hq hv =>
                (World.cell?_of_block (a := ⟨q, i, none⟩) (h q (by omega) (by omega))).trans hv
              exact ⟨hfar _ _ _ (by omega) z2, hfar _ _ _ (by omega) c02, hfar _ _ _ (by omega) c30, hfar _ _ _ (by omega) c31, hfar _ _ _ (by omega) c32, hfar _ _ _ (by omega) c10, hfar _ _ _ (by omega) c11, hfar _ _ _ (by omega) c12⟩
            have HC := Lib.hid hcells
            have hEd : Ext wr wr.drew := (Ext.refl wr).drew
            have L3 : Lies wr (.mk k3 n3 kids3) _ := (InT.mono (fun b hb => Nat.lt_of_lt_of_le (hS b hb) he.size) (fun _ _ => rfl) hin3)
            have L1 : Lies wr (.mk k1 n1 kids1) _ := (InT.mono (fun b hb => Nat.lt_of_lt_of_le (hS b hb) he.size) (fun _ _ => rfl) hin1)
            clear hcells hr hrul hst hv HK0 HK1 HK3 hkid0 hkid1 hkid3 hops hops' hops0 hsk0 hbT hin0 hin1 hin3 hmem0 hmem1 hmem3 hK0 hK1 hK3 hsk hK
            go_wp2_with fail
            clear c00 c01 c02 c10 c11 c12 c30 c31 c32 z0 z1 z2
            go_region_held3 (fun w' => w'.cell? ⟨w.heap.size, 2, none⟩ = some (.slice (some ⟨b0, o0, none⟩) ks.length cap) ∧ w'.cell? ⟨b0, o0 + 2, none⟩ = some (.slice (some ⟨b3, o3, none⟩) kids0.length cap0) ∧ w'.cell? ⟨b3, o3, none⟩ = some (.int .i64 k3) ∧ w'.cell? ⟨b3, o3 + 1, none⟩ = some (.int .i64 n3) ∧ w'.cell? ⟨b3, o3 + 2, none⟩ = some (.slice A3 kids3.length cap3) ∧ w'.cell? ⟨b0, o0 + 3, none⟩ = some (.int .i64 k1) ∧ w'.cell? ⟨b0, o0 + 4, none⟩ = some (.int .i64 n1) ∧ w'.cell? ⟨b0, o0 + 5, none⟩ = some (.slice A1 kids1.length cap1))
              (first | exact HC.out _ (fun y h1 h2 => by rw [Below.heap_setCell _ _ _ _ h2, Below.heap_setCell _ _ _ _ h2, Below.heap_setCell _ _ _ _ h2]; exact (hEd.trans h5).heap y h1) | exact HC.out _ (fun y h1 _ => (hEd.trans h5).heap y h1) | exact HC.out _ (fun y h1 _ => hEd.heap y h1))
              (first | (go_at_call 138; refine (filled_any _ _ _ _ _ 0 (L3.ext hEd) (L1.ext hEd) (by omega) (by omega) (by omega) (by omega)).mono ?_; rintro e w5 ⟨r, rfl, hM, h5⟩; obtain ⟨a1, a2, a3, a4, a5, rfl⟩ := hM.three'; obtain ⟨s0, s1, s2, f0, f1, f2⟩ := own3 ((hEd.trans h5).blk hbR)))
            have hE := hEd.trans h5
            have hsz := hE.size
            have hsd : wr.heap.size ≤ wr.drew.heap.size := hEd.size
            have HN := Lib.hid (Made.inT (Made.since (hM.after ((((Above.refl _ _).setCell (p := ⟨w.heap.size + 1, 0, none⟩) (by show w.heap.size + 1 < _; omega) (.int .i64 a1)).setCell (p := ⟨w.heap.size + 1, 1, none⟩) (by show w.heap.size + 1 < _; omega) (.int .i64 a2)).setCell (p := ⟨w.heap.size + 1, 2, none⟩) (by show w.heap.size + 1 < _; omega) (.slice a3 a4 a5))) (a := w) (by have := he.size; omega)))
            clear HC hbR
            go_wp2_with fail
            refine bodyPost_ret (v := .tuple #[.agg #[.int .i64 a1, .int .i64 a2, .slice a3 a4 a5], .bool true]) (by simp [results, Try.results67, go_sem, s0, s1, s2]) rfl ?_
            rw [HR.out]
            exact ⟨_, _, _, _, _, rfl, (by intro t' h; injection h with h; subst h; exact InT.mono (fun b hb => .inr hb) (fun _ _ => rfl) HN.out), ((((he.trans hE).setCell (p := ⟨w.heap.size + 1, 0, none⟩) (by show w.heap.size ≤ w.heap.size + 1; omega) _).setCell (p := ⟨w.heap.size + 1, 1, none⟩) (by show w.heap.size ≤ w.heap.size + 1; omega) _).setCell (p := ⟨w.heap.size + 1, 2, none⟩) (by show w.heap.size ≤ w.heap.size + 1; omega) _)⟩
          · skip
            have h0b : (k0 == 2) = false := beq_eq_false_iff_ne.2 h0
            have hrul : rul 3 ks = none := by simp [rul, hkid0, Tr.kd, h0]
            have hr : stp (.mk 3 n ks) = none := (stp_rul hv hst).trans hrul
            have HR := Lib.hid hr
            obtain ⟨s0, s1, s2, f0, f1, f2⟩ := own3 hbR
            have HE := Lib.hid he
            clear hr hrul hst hv hbR hbT hops hops' hK hsk HK0 HK1 hkid0 hkid1 hin0 hin1 hmem0 hmem1 hK0 hK1
            go_wp2_with fail
            refine bodyPost_ret (v := .tuple #[.agg #[.int .i64 0, .int .i64 0, .slice none 0 0], .bool false]) (by simp [results, Try.results67, go_sem, s0, s1, s2]) rfl ?_
            rw [HR.out]
            exact ⟨_, _, _, _, _, rfl, (by intro t' h; cases h), by first | exact (((HE.out.setCell (p := ⟨w.heap.size + 1, 0, none⟩) (by show w.heap.size ≤ w.heap.size + 1; omega) _).setCell (p := ⟨w.heap.size + 1, 1, none⟩) (by show w.heap.size ≤ w.heap.size + 1; omega) _).setCell (p := ⟨w.heap.size + 1, 2, none⟩) (by show w.heap.size ≤ w.heap.size + 1; omega) _) | exact HE.out⟩
        by_cases h89 : k = 8 ∨ k = 9
        · rcases h89 with rfl | rfl
          · have hks : ks.length = 1 := by have h9 : (1 : Int) = (ks.length : Int) := hops'; omega
            have hlt0 : 0 < ks.length := by omega
            have hi0 : (0 : Int) < (ks.length : Int) := by omega
            obtain ⟨b0, o0, k0, n0, A0, cap0, kids0, hA0, HK0, c00, c01, c02, hkl0, hkc0, hK0, hin0, hmem0, hSb0⟩ := hK.get (fun b hb => he.heap b (hS b hb)) hlt0
            simp only [Nat.zero_mul, Nat.add_zero] at c00 c01 c02
            have hkid0 : kid ks 0 = .mk k0 n0 kids0 := kid_get hlt0 HK0.out
            have hbs0 : b0 < w.heap.size := hS _ hSb0
            subst hA0
            by_cases h0 : k0 = 7
            · subst h0
              obtain ⟨hops0, -, -, hsk0⟩ := shape_kids (hsk _ hmem0)
              have hlen0 : kids0.length = 2 := by have h9 : (2 : Int) = (kids0.length : Int) := hops0; omega
              have hlt3 : 0 < kids0.length := by omega
              have hi3 : (0 : Int) < (kids0.length : Int) := by omega
              obtain ⟨b3, o3, k3, n3, A3, cap3, kids3, hA3, HK3, c30, c31, c32, hkl3, hkc3, hK3, hin3, hmem3, hSb3⟩ := hK0.get (w' := wr) (fun _ _ => rfl) hlt3
              simp only [Nat.zero_mul, Nat.add_zero] at c30 c31 c32
              have hkid3 : kid kids0 0 = .mk k3 n3 kids3 := kid_get hlt3 HK3.out
              have hbs3 : b3 < w.heap.size := hS _ hSb3
              subst hA3
              have hrul : rul 8 ks = some (.mk k3 n3 kids3) := by simp [rul, hkid0, hkid3, Tr.kd, Tr.kids]
              have hr : stp (.mk 8 n ks) = _ := (stp_rul hv hst).trans hrul
              have HR := Lib.hid hr
              have hcells : ∀ w' : World, (∀ y, y < wr.heap.size → y ≠ w.heap.size + 1 → w'.heap[y]? = wr.heap[y]?) → w'.cell? ⟨w.heap.size, 0, none⟩ = some (.int .i64 8) ∧ w'.cell? ⟨w.heap.size, 2, none⟩ = some (.slice (some ⟨b0, o0, none⟩) ks.length cap) ∧ w'.cell? ⟨b0, o0 + 2, none⟩ = some (.slice (some ⟨b3, o3, none⟩) kids0.length cap0) ∧ w'.cell? ⟨b3, o3, none⟩ = some (.int .i64 k3) ∧ w'.cell? ⟨b3, o3 + 1, none⟩ = some (.int .i64 n3) ∧ w'.cell? ⟨b3, o3 + 2, none⟩ = some (.slice A3 kids3.length cap3) := by
                intro w' h
                have hfar : ∀ q i v, q < w.heap.size + 1 → wr.cell? ⟨q, i, none⟩ = some v → w'.cell? ⟨q, i, none⟩ = some v := fun q i v hq hv =>
                  (World.cell?_of_block (a := ⟨q, i, none⟩) (h q (by omega) (by omega))).trans hv
                exact ⟨hfar _ _ _ (by omega) z0, hfar _ _ _ (by omega) z2, hfar _ _ _ (by omega) c02, hfar _ _ _ (by omega) c30, hfar _ _ _ (by omega) c31, hfar _ _ _ (by omega) c32⟩
              have HC := Lib.hid hcells
              have hEd : Ext wr wr.drew := (Ext.refl wr).drew
              have HIN := Lib.hid hin3
              obtain ⟨s0, s1, s2, f0, f1, f2⟩ := own3 hbR
              have hw1 : IntKind.wrap .i64 (8 - 8) = 0 := by decide
              have hw2 : IntKind.wrap .i64 0 = 0 := by decide
              clear hcells hr hrul hst hv HK0 HK3 hkid0 hkid3 hops hops' hops0 hsk0 hbT hin0 hin3 hmem0 hmem3 hK0 hK3 hsk hK hbR
              go_wp2_with fail
              clear c00 c01 c02 c30 c31 c32 z0 z1 z2
              go_region_held3 (fun w' => w'.cell? ⟨w.heap.size, 0, none⟩ = some (.int .i64 8) ∧ w'.cell? ⟨w.heap.size, 2, none⟩ = some (.slice (some ⟨b0, o0, none⟩) ks.length cap) ∧ w'.cell? ⟨b0, o0 + 2, none⟩ = some (.slice (some ⟨b3, o3, none⟩) kids0.length cap0) ∧ w'.cell? ⟨b3, o3, none⟩ = some (.int .i64 k3) ∧ w'.cell? ⟨b3, o3 + 1, none⟩ = some (.int .i64 n3) ∧ w'.cell? ⟨b3, o3 + 2, none⟩ = some (.slice A3 kids3.length cap3))
                (first | exact HC.out _ (fun y h1 h2 => by show (((wr.setCell _ _).setCell _ _).setCell _ _).heap[y]? = wr.heap[y]?; rw [Below.heap_setCell _ _ _ _ h2, Below.heap_setCell _ _ _ _ h2, Below.heap_setCell _ _ _ _ h2]) | exact HC.out _ (fun y h1 _ => hEd.heap y h1))
                (fail)
              go_wp2_with fail
              refine bodyPost_ret (v := .tuple #[.agg #[.int .i64 k3, .int .i64 n3, .slice A3 kids3.length cap3], .bool true]) (by simp [results, Try.results67, go_sem, s0, s1, s2]) rfl ?_
              rw [HR.out]
              refine ⟨_, _, _, _, _, rfl, fun t' ht' => ?_, ((((he.setCell (p := ⟨w.heap.size + 1, 0, none⟩) (by show w.heap.size ≤ w.heap.size + 1; omega) _).setCell (p := ⟨w.heap.size + 1, 1, none⟩) (by show w.heap.size ≤ w.heap.size + 1; omega) _).setCell (p := ⟨w.heap.size + 1, 2, none⟩) (by show w.heap.size ≤ w.heap.size + 1; omega) _)).drew⟩
              injection ht' with ht'; subst ht'
              exact InT.mono (fun b hb => .inl hb) (fun b hb => by have := hS b hb; (try show (((wr.setCell _ _).setCell _ _).setCell _ _).heap[b]? = wr.heap[b]?); rw [Below.heap_setCell _ _ _ _ (by show b ≠ w.heap.size + 1; omega), Below.heap_setCell _ _ _ _ (by show b ≠ w.heap.size + 1; omega), Below.heap_setCell _ _ _ _ (by show b ≠ w.heap.size + 1; omega)]) HIN.out
            · skip
              have h0b : (k0 == 7) = false := beq_eq_false_iff_ne.2 h0
              have hrul : rul 8 ks = none := by simp [rul, hkid0, Tr.kd, h0]
              have hr : stp (.mk 8 n ks) = none := (stp_rul hv hst).trans hrul
              have HR := Lib.hid hr
              obtain ⟨s0, s1, s2, f0, f1, f2⟩ := own3 hbR
              have HE := Lib.hid he
              clear hr hrul hst hv hbR hbT hops hops' hK hsk HK0 hkid0 hin0 hmem0 hK0
              go_wp2_with fail
              refine bodyPost_ret (v := .tuple #[.agg #[.int .i64 0, .int .i64 0, .slice none 0 0], .bool false]) (by simp [results, Try.results67, go_sem, s0, s1, s2]) rfl ?_
              rw [HR.out]
              exact ⟨_, _, _, _, _, rfl, (by intro t' h; cases h), by first | exact (((HE.out.setCell (p := ⟨w.heap.size + 1, 0, none⟩) (by show w.heap.size ≤ w.heap.size + 1; omega) _).setCell (p := ⟨w.heap.size + 1, 1, none⟩) (by show w.heap.size ≤ w.heap.size + 1; omega) _).setCell (p := ⟨w.heap.size + 1, 2, none⟩) (by show w.heap.size ≤ w.heap.size + 1; omega) _) | exact HE.out⟩
          · have hks : ks.length = 1 := by have h9 : (1 : Int) = (ks.length : Int) := hops'; omega
            have hlt0 : 0 < ks.length := by omega
            have hi0 : (0 : Int) < (ks.length : Int) := by omega
            obtain ⟨b0, o0, k0, n0, A0, cap0, kids0, hA0, HK0, c00, c01, c02, hkl0, hkc0, hK0, hin0, hmem0, hSb0⟩ := hK.get (fun b hb => he.heap b (hS b hb)) hlt0
            simp only [Nat.zero_mul, Nat.add_zero] at c00 c01 c02
            have hkid0 : kid ks 0 = .mk k0 n0 kids0 := kid_get hlt0 HK0.out
            have hbs0 : b0 < w.heap.size := hS _ hSb0
            subst hA0
            by_cases h0 : k0 = 7
            · subst h0
              obtain ⟨hops0, -, -, hsk0⟩ := shape_kids (hsk _ hmem0)
              have hlen0 : kids0.length = 2 := by have h9 : (2 : Int) = (kids0.length : Int) := hops0; omega
              have hlt3 : 1 < kids0.length := by omega
              have hi3 : (1 : Int) < (kids0.length : Int) := by omega
              obtain ⟨b3, o3, k3, n3, A3, cap3, kids3, hA3, HK3, c30, c31, c32, hkl3, hkc3, hK3, hin3, hmem3, hSb3⟩ := hK0.get (w' := wr) (fun _ _ => rfl) hlt3
              simp only [Nat.one_mul, Nat.add_assoc, Nat.reduceAdd] at c30 c31 c32
              have hkid3 : kid kids0 1 = .mk k3 n3 kids3 := kid_get hlt3 HK3.out
              have hbs3 : b3 < w.heap.size := hS _ hSb3
              subst hA3
              have hrul : rul 9 ks = some (.mk k3 n3 kids3) := by simp [rul, hkid0, hkid3, Tr.kd, Tr.kids]
              have hr : stp (.mk 9 n ks) = _ := (stp_rul hv hst).trans hrul
              have HR := Lib.hid hr
              have hcells : ∀ w' : World, (∀ y, y < wr.heap.size → y ≠ w.heap.size + 1 → w'.heap[y]? = wr.heap[y]?) → w'.cell? ⟨w.heap.size, 0, none⟩ = some (.int .i64 9) ∧ w'.cell? ⟨w.heap.size, 2, none⟩ = some (.slice (some ⟨b0, o0, none⟩) ks.length cap) ∧ w'.cell? ⟨b0, o0 + 2, none⟩ = some (.slice (some ⟨b3, o3, none⟩) kids0.length cap0) ∧ w'.cell? ⟨b3, o3 + 3, none⟩ = some (.int .i64 k3) ∧ w'.cell? ⟨b3, o3 + 4, none⟩ = some (.int .i64 n3) ∧ w'.cell? ⟨b3, o3 + 5, none⟩ = some (.slice A3 kids3.length cap3) := by
                intro w' h
                have hfar : ∀ q i v, q < w.heap.size + 1 → wr.cell? ⟨q, i, none⟩ = some v → w'.cell? ⟨q, i, none⟩ = some v := fun q i v hq hv =>
                  (World.cell?_of_block (a := ⟨q, i, none⟩) (h q (by omega) (by omega))).trans hv
                exact ⟨hfar _ _ _ (by omega) z0, hfar _ _ _ (by omega) z2, hfar _ _ _ (by omega) c02, hfar _ _ _ (by omega) c30, hfar _ _ _ (by omega) c31, hfar _ _ _ (by omega) c32⟩
              have HC := Lib.hid hcells
              have hEd : Ext wr wr.drew := (Ext.refl wr).drew
              have HIN := Lib.hid hin3
              obtain ⟨s0, s1, s2, f0, f1, f2⟩ := own3 hbR
              have hw1 : IntKind.wrap .i64 (9 - 8) = 1 := by decide
              have hw2 : IntKind.wrap .i64 1 = 1 := by decide
              clear hcells hr hrul hst hv HK0 HK3 hkid0 hkid3 hops hops' hops0 hsk0 hbT hin0 hin3 hmem0 hmem3 hK0 hK3 hsk hK hbR
              go_wp2_with fail
              clear c00 c01 c02 c30 c31 c32 z0 z1 z2
              go_region_held3 (fun w' => w'.cell? ⟨w.heap.size, 0, none⟩ = some (.int .i64 9) ∧ w'.cell? ⟨w.heap.size, 2, none⟩ = some (.slice (some ⟨b0, o0, none⟩) ks.length cap) ∧ w'.cell? ⟨b0, o0 + 2, none⟩ = some (.slice (some ⟨b3, o3, none⟩) kids0.length cap0) ∧ w'.cell? ⟨b3, o3 + 3, none⟩ = some (.int .i64 k3) ∧ w'.cell? ⟨b3, o3 + 4, none⟩ = some (.int .i64 n3) ∧ w'.cell? ⟨b3, o3 + 5, none⟩ = some (.slice A3 kids3.length cap3))
                (first | exact HC.out _ (fun y h1 h2 => by show (((wr.setCell _ _).setCell _ _).setCell _ _).heap[y]? = wr.heap[y]?; rw [Below.heap_setCell _ _ _ _ h2, Below.heap_setCell _ _ _ _ h2, Below.heap_setCell _ _ _ _ h2]) | exact HC.out _ (fun y h1 _ => hEd.heap y h1))
                (fail)
              go_wp2_with fail
              refine bodyPost_ret (v := .tuple #[.agg #[.int .i64 k3, .int .i64 n3, .slice A3 kids3.length cap3], .bool true]) (by simp [results, Try.results67, go_sem, s0, s1, s2]) rfl ?_
              rw [HR.out]
              refine ⟨_, _, _, _, _, rfl, fun t' ht' => ?_, ((((he.setCell (p := ⟨w.heap.size + 1, 0, none⟩) (by show w.heap.size ≤ w.heap.size + 1; omega) _).setCell (p := ⟨w.heap.size + 1, 1, none⟩) (by show w.heap.size ≤ w.heap.size + 1; omega) _).setCell (p := ⟨w.heap.size + 1, 2, none⟩) (by show w.heap.size ≤ w.heap.size + 1; omega) _)).drew⟩
              injection ht' with ht'; subst ht'
              exact InT.mono (fun b hb => .inl hb) (fun b hb => by have := hS b hb; (try show (((wr.setCell _ _).setCell _ _).setCell _ _).heap[b]? = wr.heap[b]?); rw [Below.heap_setCell _ _ _ _ (by show b ≠ w.heap.size + 1; omega), Below.heap_setCell _ _ _ _ (by show b ≠ w.heap.size + 1; omega), Below.heap_setCell _ _ _ _ (by show b ≠ w.heap.size + 1; omega)]) HIN.out
            · skip
              have h0b : (k0 == 7) = false := beq_eq_false_iff_ne.2 h0
              have hrul : rul 9 ks = none := by simp [rul, hkid0, Tr.kd, h0]
              have hr : stp (.mk 9 n ks) = none := (stp_rul hv hst).trans hrul
              have HR := Lib.hid hr
              obtain ⟨s0, s1, s2, f0, f1, f2⟩ := own3 hbR
              have HE := Lib.hid he
              clear hr hrul hst hv hbR hbT hops hops' hK hsk HK0 hkid0 hin0 hmem0 hK0
              go_wp2_with fail
              refine bodyPost_ret (v := .tuple #[.agg #[.int .i64 0, .int .i64 0, .slice none 0 0], .bool false]) (by simp [results, Try.results67, go_sem, s0, s1, s2]) rfl ?_
              rw [HR.out]
              exact ⟨_, _, _, _, _, rfl, (by intro t' h; cases h), by first | exact (((HE.out.setCell (p := ⟨w.heap.size + 1, 0, none⟩) (by show w.heap.size ≤ w.heap.size + 1; omega) _).setCell (p := ⟨w.heap.size + 1, 1, none⟩) (by show w.heap.size ≤ w.heap.size + 1; omega) _).setCell (p := ⟨w.heap.size + 1, 2, none⟩) (by show w.heap.size ≤ w.heap.size + 1; omega) _) | exact HE.out⟩
        by_cases h6 : k = 6
        · subst h6
          have hks : ks.length = 3 := by have h9 : (3 : Int) = (ks.length : Int) := hops'; omega
          have hlt0 : 0 < ks.length := by omega
          have hi0 : (0 : Int) < (ks.length : Int) := by omega
          obtain ⟨b0, o0, k0, n0, A0, cap0, kids0, hA0, HK0, c00, c01, c02, hkl0, hkc0, hK0, hin0, hmem0, hSb0⟩ := hK.get (fun b hb => he.heap b (hS b hb)) hlt0
          simp only [Nat.zero_mul, Nat.add_zero] at c00 c01 c02
          have hkid0 : kid ks 0 = .mk k0 n0 kids0 := kid_get hlt0 HK0.out
          have hbs0 : b0 < w.heap.size := hS _ hSb0
          have hlt1 : 1 < ks.length := by omega
          have hi1 : (1 : Int) < (ks.length : Int) := by omega
          obtain ⟨b1, o1, k1, n1, A1, cap1, kids1, hA1, HK1, c10, c11, c12, hkl1, hkc1, hK1, hin1, hmem1, hSb1⟩ := hK.get (fun b hb => he.heap b (hS b hb)) hlt1
          simp only [Nat.one_mul, Nat.add_assoc, Nat.reduceAdd] at c10 c11 c12
          have hkid1 : kid ks 1 = .mk k1 n1 kids1 := kid_get hlt1 HK1.out
          have hbs1 : b1 < w.heap.size := hS _ hSb1
          have hlt2 : 2 < ks.length := by omega
          have hi2 : (2 : Int) < (ks.length : Int) := by omega
          obtain ⟨b2, o2, k2, n2, A2, cap2, kids2, hA2, HK2, c20, c21, c22, hkl2, hkc2, hK2, hin2, hmem2, hSb2⟩ := hK.get (fun b hb => he.heap b (hS b hb)) hlt2
          simp only [Nat.reduceMul, Nat.add_assoc, Nat.reduceAdd] at c20 c21 c22
          have hkid2 : kid ks 2 = .mk k2 n2 kids2 := kid_get hlt2 HK2.out
          have hbs2 : b2 < w.heap.size := hS _ hSb2
          subst hA0
          injection hA1 with hA1
          injection hA1 with hB1 hC1 hD1
          subst hB1 hC1
          injection hA2 with hA2
          injection hA2 with hB2 hC2 hD2
          subst hB2 hC2
          have hx5 := (Ext.refl wr).alloc (.cells #[.int .i64 k2, .int .i64 n2, .slice A2 kids2.length cap2] 28)
          have hb5 := heap_alloc_new wr (.cells #[.int .i64 k2, .int .i64 n2, .slice A2 kids2.length cap2] 28)
          obtain ⟨r0, r1, r2, r3, r4, r5⟩ := own3 hbR
          have HE0 := Lib.hid he
          replace hbR := hx5.blk hbR
          replace hbT := hx5.blk hbT
          obtain ⟨y0, y1, y2, -, -, -⟩ := own3 hbT
          have c00' := hx5.cell c00
          have c01' := hx5.cell c01
          have c02' := hx5.cell c02
          have c10' := hx5.cell c10
          have c11' := hx5.cell c11
          have c12' := hx5.cell c12
          have c20' := hx5.cell c20
          have c21' := hx5.cell c21
          have c22' := hx5.cell c22
          obtain ⟨s0, s1, s2, f0, f1, f2⟩ := own3 hbR
          have hE5 := he.trans hx5
          have hlt5 : w.heap.size + 1 < (wr.alloc (.cells #[.int .i64 k2, .int .i64 n2, .slice A2 kids2.length cap2] 28)).heap.size := lt_of_blk hbR
          by_cases h4 : k2 = 4
          · subst h4
            have hrul : rul 6 ks = some (.mk k0 n0 kids0) := by simp [rul, hkid0, hkid2, Tr.kd]
            have hr : stp (.mk 6 n ks) = _ := (stp_rul hv hst).trans hrul
            have HR := Lib.hid hr
            have HIN := Lib.hid hin0
            clear hr hrul hst hv hin0 hin1 hin2 HK0 HK1 HK2 hkid0 hkid1 hkid2 hops hops' hmem0 hmem1 hmem2 hK0 hK1 hK2 hsk hK hbT hbR
            have HE := Lib.hid hE5
            have HX := Lib.hid hx5
            go_wp2_with fail
            refine bodyPost_ret (v := .tuple #[.agg #[.int .i64 k0, .int .i64 n0, .slice A0 kids0.length cap0], .bool true]) (by simp [results, Try.results67, go_sem, r0, r1, r2, World.cell?_alloc_lt, hsz2]) rfl ?_
            rw [HR.out]
            refine ⟨_, _, _, _, _, rfl, fun t' ht' => ?_, by first | exact (((HE.out.setCell (p := ⟨w.heap.size + 1, 0, none⟩) (by show w.heap.size ≤ w.heap.size + 1; omega) _).setCell (p := ⟨w.heap.size + 1, 1, none⟩) (by show w.heap.size ≤ w.heap.size + 1; omega) _).setCell (p := ⟨w.heap.size + 1, 2, none⟩) (by show w.heap.size ≤ w.heap.size + 1; omega) _) | exact ((((HE0.out.setCell (p := ⟨w.heap.size + 1, 0, none⟩) (by show w.heap.size ≤ w.heap.size + 1; omega) _).setCell (p := ⟨w.heap.size + 1, 1, none⟩) (by show w.heap.size ≤ w.heap.size + 1; omega) _).setCell (p := ⟨w.heap.size + 1, 2, none⟩) (by show w.heap.size ≤ w.heap.size + 1; omega) _)).alloc _⟩
            injection ht' with ht'; subst ht'
            refine InT.mono (fun b hb => .inl hb) (fun b hb => ?_) HIN.out
            have h9 := hS b hb
            have h8 := HE0.out.size
            first | (rw [Below.heap_setCell _ _ _ _ (by show b ≠ w.heap.size + 1; omega), Below.heap_setCell _ _ _ _ (by show b ≠ w.heap.size + 1; omega), Below.heap_setCell _ _ _ _ (by show b ≠ w.heap.size + 1; omega)]; exact HX.out.heap b (by omega)) | (rw [Below.heap_alloc _ _ b (by simp; omega), Below.heap_setCell _ _ _ _ (by show b ≠ w.heap.size + 1; omega), Below.heap_setCell _ _ _ _ (by show b ≠ w.heap.size + 1; omega), Below.heap_setCell _ _ _ _ (by show b ≠ w.heap.size + 1; omega)])
          · by_cases h5 : k2 = 5
            · subst h5
              obtain ⟨hops2, -, -, hsk2⟩ := shape_kids (hsk _ hmem2)
              have hlen2 : kids2.length = 1 := by have h9 : (1 : Int) = (kids2.length : Int) := hops2; omega
              have hlt3 : 0 < kids2.length := by omega
              have hi3 : (0 : Int) < (kids2.length : Int) := by omega
              obtain ⟨b3, o3, k3, n3, A3, cap3, kids3, hA3, HK3, c30, c31, c32, hkl3, hkc3, hK3, hin3, hmem3, hSb3⟩ := hK2.get (w' := wr) (fun _ _ => rfl) hlt3
              simp only [Nat.zero_mul, Nat.add_zero] at c30 c31 c32
              have hkid3 : kid kids2 0 = .mk k3 n3 kids3 := kid_get hlt3 HK3.out
              have hbs3 : b3 < w.heap.size := hS _ hSb3
              subst hA3
              have hrul : rul 6 ks = some (.mk 3 0 [.mk 3 0 [.mk k1 n1 kids1, .mk k3 n3 kids3], .mk 6 0 [.mk k0 n0 kids0, .mk k1 n1 kids1, .mk k3 n3 kids3]]) := by simp [rul, hkid0, hkid1, hkid2, hkid3, Tr.kd, Tr.kids]
              have hr : stp (.mk 6 n ks) = _ := (stp_rul hv hst).trans hrul
              have HR := Lib.hid hr
              obtain ⟨w5, hw5⟩ : ∃ x, x = wr.alloc (.cells #[.int .i64 5, .int .i64 n2, .slice (some ⟨b3, o3, none⟩) kids2.length cap2] 28) := ⟨_, rfl⟩
              obtain ⟨w6, hw6⟩ : ∃ x, x = w5.alloc (.cells #[.int .i64 k3, .int .i64 n3, .slice A3 kids3.length cap3] 28) := ⟨_, rfl⟩
              have hx6 : Ext wr w6 := by rw [hw6]; rw [hw5]; exact hx5.alloc _
              have hb6 : w6.heap[w5.heap.size]? = some (.cells #[.int .i64 k3, .int .i64 n3, .slice A3 kids3.length cap3] 28 (0, 0)) := by rw [hw6]; exact heap_alloc_new w5 _
              have hE6 := he.trans hx6
              have hg6s : wr.heap.size < w5.heap.size := by rw [hw5]; simp
              have d30 := c30
              have d31 := c31
              have d32 := c32
              have q0 := hx5.cell c30
              have q1 := hx5.cell c31
              have q2 := hx5.cell c32
              rw [← hw5] at hbT hbR
              replace c00 := hx6.cell c00
              replace c01 := hx6.cell c01
              replace c02 := hx6.cell c02
              replace c10 := hx6.cell c10
              replace c11 := hx6.cell c11
              replace c12 := hx6.cell c12
              replace c30 := hx6.cell c30
              replace c31 := hx6.cell c31
              replace c32 := hx6.cell c32
              have hx56 : Ext w5 w6 := by rw [hw6]; exact (Ext.refl w5).alloc _
              have hbT6 := hx56.blk hbT
              have hbR6 := hx56.blk hbR
              clear hx56
              obtain ⟨g6, hg6⟩ : ∃ x, x = wr.heap.size + 1 := ⟨_, rfl⟩
              have hw5s : w5.heap.size = wr.heap.size + 1 := by rw [hw5]; simp
              rw [hw5s, ← hg6] at hb6
              replace hg6s : wr.heap.size < g6 := by omega
              have hg6l : g6 < w6.heap.size := lt_of_blk hb6
              have hs6 := hx6.size
              have hcells : ∀ w' : World, (∀ y, y < w6.heap.size → y ≠ w.heap.size + 1 → w'.heap[y]? = w6.heap[y]?) → w'.cell? ⟨w.heap.size, 2, none⟩ = some (.slice (some ⟨b0, o0, none⟩) ks.length cap) ∧ w'.cell? ⟨b0, o0, none⟩ = some (.int .i64 k0) ∧ w'.cell? ⟨b0, o0 + 1, none⟩ = some (.int .i64 n0) ∧ w'.cell? ⟨b0, o0 + 2, none⟩ = some (.slice A0 kids0.length cap0) ∧ w'.cell? ⟨b0, o0 + 3, none⟩ = some (.int .i64 k1) ∧ w'.cell? ⟨b0, o0 + 4, none⟩ = some (.int .i64 n1) ∧ w'.cell? ⟨b0, o0 + 5, none⟩ = some (.slice A1 kids1.length cap1) ∧ w'.cell? ⟨g6, 0, none⟩ = some (.int .i64 k3) ∧ w'.cell? ⟨g6, 1, none⟩ = some (.int .i64 n3) ∧ w'.cell? ⟨g6, 2, none⟩ = some (.slice A3 kids3.length cap3) := by
                intro w' h
                have hfar : ∀ q i v, q < w6.heap.size → q ≠ w.heap.size + 1 → w6.cell? ⟨q, i, none⟩ = some v → w'.cell? ⟨q, i, none⟩ = some v := fun q i v hq hn hv =>
                  (World.cell?_of_block (a := ⟨q, i, none⟩) (h q hq hn)).trans hv
                exact ⟨hfar _ _ _ (by omega) (by omega) (cell_of_blk hbT6 2), hfar _ _ _ (by omega) (by omega) c00, hfar _ _ _ (by omega) (by omega) c01, hfar _ _ _ (by omega) (by omega) c02, hfar _ _ _ (by omega) (by omega) c10, hfar _ _ _ (by omega) (by omega) c11, hfar _ _ _ (by omega) (by omega) c12, hfar _ _ _ hg6l (by omega) (cell_of_blk hb6 0), hfar _ _ _ hg6l (by omega) (cell_of_blk hb6 1), hfar _ _ _ hg6l (by omega) (cell_of_blk hb6 2)⟩
              have HC := Lib.hid hcells
              have Z : ∀ {t : Tr} {v : Value}, InT wr S t v → ∀ W, Ext w6 W → InT W (fun b => S b ∨ w6.heap.size ≤ b) t v := fun h W hW => InT.mono (fun b hb => .inl hb) (fun b hb => (hx6.trans hW).heap b (Nat.lt_of_lt_of_le (hS b hb) he.size)) h
              have L0 := Lib.hid (Z hin0)
              have L1 := Lib.hid (Z hin1)
              have L3 := Lib.hid (Z hin3)
              have X0 : Ext w6 w6.drew := (Ext.refl w6).drew
              have HBR := Lib.hid hbR6
              have HE6 := Lib.hid hE6
              clear hcells hr hrul hst hv hin0 hin1 hin2 hin3 hkid3 HK3 hmem3 hK3 hops2 hsk2 c00 c01 c02 c10 c11 c12 hks hlen2 hb6 hbT6 hbR6 hE6 Z HK0 HK1 HK2 hkid0 hkid1 hkid2 hops hops' hmem0 hmem1 hmem2 hK0 hK1 hK2 hsk hK hbT hbR
              go_wp2_with fail
              clear y0 y1 y2 q0 q1 q2 c20 c21 c22 d30 d31 d32 s0 s1 s2 f0 f1 f2 r0 r1 r2 r3 r4 r5 c00' c01' c02' c10' c11' c12' c20' c21' c22'
              rw [← hw5, ← hw6, ← hg6]
              clear hw5 hw6 hg6 hw5s hx5 hb5 hE5 hlt5 z0 z1 z2
              go_region_held3 (fun w' => w'.cell? ⟨w.heap.size, 2, none⟩ = some (.slice (some ⟨b0, o0, none⟩) ks.length cap) ∧ w'.cell? ⟨b0, o0, none⟩ = some (.int .i64 k0) ∧ w'.cell? ⟨b0, o0 + 1, none⟩ = some (.int .i64 n0) ∧ w'.cell? ⟨b0, o0 + 2, none⟩ = some (.slice A0 kids0.length cap0) ∧ w'.cell? ⟨b0, o0 + 3, none⟩ = some (.int .i64 k1) ∧ w'.cell? ⟨b0, o0 + 4, none⟩ = some (.int .i64 n1) ∧ w'.cell? ⟨b0, o0 + 5, none⟩ = some (.slice A1 kids1.length cap1) ∧ w'.cell? ⟨g6, 0, none⟩ = some (.int .i64 k3) ∧ w'.cell? ⟨g6, 1, none⟩ = some (.int .i64 n3) ∧ w'.cell? ⟨g6, 2, none⟩ = some (.slice A3 kids3.length cap3))
                (first | exact HC.out _ (fun y h1 h2 => by rw [Below.heap_setCell _ _ _ _ h2, Below.heap_setCell _ _ _ _ h2, Below.heap_setCell _ _ _ _ h2]; exact X9.heap y h1) | exact HC.out _ (fun y h1 _ => Ext.heap (X9) y h1) | exact HC.out _ (fun y h1 _ => Ext.heap (X8.alloc _) y h1) | exact HC.out _ (fun y h1 _ => Ext.heap (X8) y h1) | exact HC.out _ (fun y h1 _ => Ext.heap (X7.alloc _) y h1) | exact HC.out _ (fun y h1 _ => Ext.heap (X7) y h1) | exact HC.out _ (fun y h1 _ => Ext.heap ((X0.alloc _).alloc _) y h1) | exact HC.out _ (fun y h1 _ => Ext.heap (X0.alloc _) y h1) | exact HC.out _ (fun y h1 _ => Ext.heap (X0) y h1) | exact HC.out _ (fun y h1 _ => Ext.heap (((Ext.refl w6).alloc _).drew) y h1) | exact HC.out _ (fun y h1 _ => Ext.heap ((((Ext.refl w6).alloc _).alloc _).drew) y h1))
                (first | (go_at_call 139; (with_reducible show Calls _ _ #[.int .i64 3, .slice _ 2 _] _ _); refine (call_from _ 3 _ 2 [.mk 3 0 [.mk k1 n1 kids1, .mk k3 n3 kids3], .mk 6 0 [.mk k0 n0 kids0, .mk k1 n1 kids1, .mk k3 n3 kids3]] (fun b => S b ∨ w6.heap.size ≤ b) (InK.two (e := 28) (hM7.later (X78.alloc _)) (hM8.later ((Ext.refl w8).alloc _)) (heap_alloc_new w8 _) (.inr (by have := X8.size; omega))) (by simp) (by decide)).mono ?_; rintro e w9 ⟨a1, a2, a3, a4, a5, rfl, hM9, h9⟩; have X9 : Ext w6 w9 := (X8.alloc _).trans h9; obtain ⟨s0, s1, s2, f0, f1, f2⟩ := own3 (X9.blk HBR.out)) | (go_at_call 139; (with_reducible show Calls _ _ #[.int .i64 6, .slice _ 3 _] _ _); refine (call_from _ 6 _ 3 [.mk k0 n0 kids0, .mk k1 n1 kids1, .mk k3 n3 kids3] (fun b => S b ∨ w6.heap.size ≤ b) (InK.three (e := 28) (L0.out _ (by first | exact X7 | exact X7.alloc _ | exact (X7.alloc _).alloc _ | exact ((Ext.refl w6).alloc _).drew | exact (((Ext.refl w6).alloc _).alloc _).drew)) (L1.out _ (by first | exact X7 | exact X7.alloc _ | exact (X7.alloc _).alloc _ | exact ((Ext.refl w6).alloc _).drew | exact (((Ext.refl w6).alloc _).alloc _).drew)) (L3.out _ (by first | exact X7 | exact X7.alloc _ | exact (X7.alloc _).alloc _ | exact ((Ext.refl w6).alloc _).drew | exact (((Ext.refl w6).alloc _).alloc _).drew)) (by first | exact (heap_alloc_at (by first | rfl | simp)) | exact ((Ext.refl _).alloc _).blk (heap_alloc_at (by first | rfl | simp)) | exact (Ext.refl _).drew.blk (heap_alloc_at (by first | rfl | simp)) | exact (((Ext.refl _).alloc _).drew).blk (heap_alloc_at (by first | rfl | simp)) | exact Ext.blk h7 ((heap_alloc_at (by first | rfl | simp))) | exact Ext.blk h7 (((Ext.refl _).alloc _).blk (heap_alloc_at (by first | rfl | simp))) | exact Ext.blk h7 ((Ext.refl _).drew.blk (heap_alloc_at (by first | rfl | simp))) | exact Ext.blk h7 ((((Ext.refl _).alloc _).drew).blk (heap_alloc_at (by first | rfl | simp)))) (.inr (by have := Ext.size X0; have := Ext.size X7; first | omega | (simp; omega) | simp))) (by simp) (by decide)).mono ?_; rintro e w8 ⟨p21, p22, p23, p24, p25, rfl, hM8, h8⟩; have X78 : Ext w7 w8 := (by first | exact h8 | exact ((Ext.refl _).alloc _).trans h8); have X8 : Ext w6 w8 := X7.trans X78) | (go_at_call 139; (with_reducible show Calls _ _ #[.int .i64 3, .slice _ 2 _] _ _); refine (call_from _ 3 _ 2 [.mk k1 n1 kids1, .mk k3 n3 kids3] (fun b => S b ∨ w6.heap.size ≤ b) (InK.two (e := 28) (L1.out _ (by first | exact X0 | exact X0.alloc _ | exact (X0.alloc _).alloc _ | exact ((Ext.refl w6).alloc _).drew | exact (((Ext.refl w6).alloc _).alloc _).drew)) (L3.out _ (by first | exact X0 | exact X0.alloc _ | exact (X0.alloc _).alloc _ | exact ((Ext.refl w6).alloc _).drew | exact (((Ext.refl w6).alloc _).alloc _).drew)) (by first | exact (heap_alloc_at (by first | rfl | simp)) | exact ((Ext.refl _).alloc _).blk (heap_alloc_at (by first | rfl | simp)) | exact (Ext.refl _).drew.blk (heap_alloc_at (by first | rfl | simp)) | exact (((Ext.refl _).alloc _).drew).blk (heap_alloc_at (by first | rfl | simp))) (.inr (by have := Ext.size X0; first | omega | (simp; omega) | (simp)))) (by simp) (by decide)).mono ?_; rintro e w7 ⟨p11, p12, p13, p14, p15, rfl, hM7, h7⟩; have X7 : Ext w6 w7 := Ext.trans (by first | exact X0 | exact X0.alloc _ | exact (X0.alloc _).alloc _ | exact ((Ext.refl w6).alloc _).drew | exact (((Ext.refl w6).alloc _).alloc _).drew) h7))
              all_goals (
                have hs9 := X9.size
                have HM := Lib.hid hM9
                have HX9 := Lib.hid X9
                clear hM7 hM8 hM9 X78 h7 h8 h9 HC L0 L1 L3
                go_wp2_with fail
                refine bodyPost_ret (v := .tuple #[.agg #[.int .i64 a1, .int .i64 a2, .slice a3 a4 a5], .bool true]) (by simp [results, Try.results67, go_sem, s0, s1, s2]) rfl ?_
                rw [HR.out]
                refine ⟨_, _, _, _, _, rfl, fun t' ht' => ?_, ((((HE6.out.trans HX9.out).setCell (p := ⟨w.heap.size + 1, 0, none⟩) (by show w.heap.size ≤ w.heap.size + 1; omega) _).setCell (p := ⟨w.heap.size + 1, 1, none⟩) (by show w.heap.size ≤ w.heap.size + 1; omega) _).setCell (p := ⟨w.heap.size + 1, 2, none⟩) (by show w.heap.size ≤ w.heap.size + 1; omega) _)⟩
                injection ht' with ht'; subst ht'
                refine InT.mono (S := fun b => (S b ∨ w6.heap.size ≤ b) ∧ b < w9.heap.size) (fun b hb => ?_) (fun b hb => ?_) HM.out.bound
                · rcases hb.1 with h | h
                  · exact .inl h
                  · exact .inr ⟨by omega, by simpa using hb.2⟩
                · have hne : b ≠ w.heap.size + 1 := by rcases hb.1 with h | h; have := hS b h; omega; omega
                  rw [Below.heap_setCell _ _ _ _ hne, Below.heap_setCell _ _ _ _ hne, Below.heap_setCell _ _ _ _ hne])
            · skip
              have h4b : (k2 == 4) = false := beq_eq_false_iff_ne.2 h4
              have h5b : (k2 == 5) = false := beq_eq_false_iff_ne.2 h5
              have hrul : rul 6 ks = none := by simp [rul, hkid2, Tr.kd, h4, h5]
              have hr : stp (.mk 6 n ks) = none := (stp_rul hv hst).trans hrul
              have HR := Lib.hid hr
              have HE := Lib.hid hE5
              clear hr hrul hst hv hin0 hin1 hin2 HK0 HK1 HK2 hkid0 hkid1 hkid2 hops hops' hmem0 hmem1 hmem2 hK0 hK1 hK2 hsk hK hbT hbR
              go_wp2_with fail
              refine bodyPost_ret (v := .tuple #[.agg #[.int .i64 0, .int .i64 0, .slice none 0 0], .bool false]) (by simp [results, Try.results67, go_sem, r0, r1, r2, World.cell?_alloc_lt, hsz2]) rfl ?_
              rw [HR.out]
              exact ⟨_, _, _, _, _, rfl, (by intro t' h; cases h), by first | exact (((HE.out.setCell (p := ⟨w.heap.size + 1, 0, none⟩) (by show w.heap.size ≤ w.heap.size + 1; omega) _).setCell (p := ⟨w.heap.size + 1, 1, none⟩) (by show w.heap.size ≤ w.heap.size + 1; omega) _).setCell (p := ⟨w.heap.size + 1, 2, none⟩) (by show w.heap.size ≤ w.heap.size + 1; omega) _) | exact ((((HE0.out.setCell (p := ⟨w.heap.size + 1, 0, none⟩) (by show w.heap.size ≤ w.heap.size + 1; omega) _).setCell (p := ⟨w.heap.size + 1, 1, none⟩) (by show w.heap.size ≤ w.heap.size + 1; omega) _).setCell (p := ⟨w.heap.size + 1, 2, none⟩) (by show w.heap.size ≤ w.heap.size + 1; omega) _)).alloc _ | exact HE.out⟩
        have d3 : (k == 3) = false := beq_eq_false_iff_ne.2 h3
        have d6 : (k == 6) = false := beq_eq_false_iff_ne.2 h6
        have d8 : (k == 8) = false := beq_eq_false_iff_ne.2 (fun h => h89 (.inl h))
        have d9 : (k == 9) = false := beq_eq_false_iff_ne.2 (fun h => h89 (.inr h))
        have hrul : rul k ks = none := by unfold rul; rw [if_neg h3, if_neg h6, if_neg (fun h => h89 (.inl h)), if_neg (fun h => h89 (.inr h))]
        have hr : stp (.mk k n ks) = none := (stp_rul hv hst).trans hrul
        have HR := Lib.hid hr
        obtain ⟨s0, s1, s2, f0, f1, f2⟩ := own3 hbR
        have HE := Lib.hid he
        clear hr hrul hst hv hbR hbT hops hops' hK hsk h3 h6 h89
        go_wp2_with fail
        refine bodyPost_ret (v := .tuple #[.agg #[.int .i64 0, .int .i64 0, .slice none 0 0], .bool false]) (by simp [results, Try.results67, go_sem, s0, s1, s2]) rfl ?_
        rw [HR.out]
        exact ⟨_, _, _, _, _, rfl, (by intro t' h; cases h), by first | exact (((HE.out.setCell (p := ⟨w.heap.size + 1, 0, none⟩) (by show w.heap.size ≤ w.heap.size + 1; omega) _).setCell (p := ⟨w.heap.size + 1, 1, none⟩) (by show w.heap.size ≤ w.heap.size + 1; omega) _).setCell (p := ⟨w.heap.size + 1, 2, none⟩) (by show w.heap.size ≤ w.heap.size + 1; omega) _) | exact HE.out⟩
end Go.Proofs.Ytappakllopkfiaa

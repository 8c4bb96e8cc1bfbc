/-
  spec.PlacesOf, spec.RedexPlaces; impl.outer, NormalTerm; laws.dkInts.
-/
import Derived.Test.YtappakllopkfiaaPlaces2
namespace Go.Proofs.Ytappakllopkfiaa
open Go.RowKit
set_option linter.unusedVariables false
attribute [local go_sem ↓] Go.wp_at_zero Go.wp_at_succ

theorem plV_ask (rd : Bool) (t : Tr) : plV rd t = if valid sigT t = true then plc (askP rd) t [] else [] := by
  have e : (if rd = true then isRdx else allP) = askP rd := by
    cases rd
    · funext x; rfl
    · funext x; rfl
  unfold plV
  rw [e]
theorem plV_len (rd : Bool) (t : Tr) : (plV rd t).length ≤ 400 := by
  unfold plV
  split
  · rename_i h
    have := plc_len_le (if rd = true then isRdx else allP) t []
    have := (cnt_of_valid h).1
    omega
  · simp
set_option maxRecDepth 100000 in
set_option maxHeartbeats 1000000 in
theorem specPlacesOf_any (t : Tr) (w : World) (v : Value) (hin : Lies w t v) : Calls Try.prog 160 #[v] w fun e w' => ∃ x, e = .returned x ∧ GrowP w w' 55 x (plV false t) ∧ Ext w w' := by
  have HV := Lib.hid (fun W (hW : Ext w W) => specValidTerm t W v (hin.ext hW))
  have E := Lib.hid (plV_ask false t)
  have HB := Lib.hid (fun (h : valid sigT t = true) => cnt_of_valid h)
  obtain ⟨z, hz⟩ : ∃ z, valid sigT t = z := ⟨_, rfl⟩
  rw [hz] at HV E HB
  clear hz
  obtain ⟨k, n, ks⟩ := t
  have hin0 := hin
  obtain ⟨A, cap, rfl, hl, hc, hK⟩ := Lies.mk_iff.1 hin
  have hx0 := (Ext.refl w).alloc (.cells #[.int .i64 k, .int .i64 n, .slice A ks.length cap] 44)
  have hbB := heap_alloc_new w (.cells #[.int .i64 k, .int .i64 n, .slice A ks.length cap] 44)
  cases z with
  | false =>
    have E2 := Lib.hid (E.out.trans (if_neg (by decide)))
    clear E HB
    go_enter Try.func160, Try.ntmps160
    go_wp2_with fail
    refine (HV.out _ hx0).mono ?_
    rintro e w1 ⟨rfl, h1⟩
    go_wp2_with fail
    go_ret
    exact ⟨_, rfl, by rw [E2.out]; exact GrowP.lit (heap_alloc_new w1 _) (hx0.trans h1).size, (hx0.trans h1).alloc _⟩
  | true =>
    have E2 := Lib.hid (E.out.trans (if_pos rfl))
    have hcs := HB.out rfl
    clear E HB
    go_enter Try.func160, Try.ntmps160
    go_wp2_with fail
    refine (HV.out _ hx0).mono ?_
    rintro e w1 ⟨rfl, h1⟩
    obtain ⟨z0, z1, z2, -, -, -⟩ := own3 (h1.blk hbB)
    have lz := lt_of_blk (h1.blk hbB)
    have hx2 := (Ext.refl w1).alloc (.cells #[] 55)
    have hx3 := hx2.alloc (.cells #[] 3)
    have hG : GrowP w ((w1.alloc (.cells #[] 55)).alloc (.cells #[] 3)) 55 (.slice (some ⟨w1.heap.size, 0, none⟩) 0 0) [] := (GrowP.lit (heap_alloc_new w1 _) (hx0.trans h1).size).ext ((Ext.refl _).alloc _)
    have hP : PathAt ((w1.alloc (.cells #[] 55)).alloc (.cells #[] 3)) (fun b => b < ((w1.alloc (.cells #[] 55)).alloc (.cells #[] 3)).heap.size ∧ (Value.slice (some ⟨w1.heap.size, 0, none⟩) 0 0).ownBlock ≠ some b) (.slice (some ⟨w1.heap.size + 1, 0, none⟩) 0 0) [] := .inr ⟨w1.heap.size + 1, 0, 0, rfl, Nat.le_refl _, Nat.zero_le _, ⟨by simp, by simp [Value.ownBlock]⟩, fun j hj => absurd hj (by simp)⟩
    have hon : ∀ b, b ∈ (Value.slice (some ⟨w1.heap.size, 0, none⟩) 0 0).ownBlock.toList → w.heap.size ≤ b := fun b hb => by
      simp [Value.ownBlock] at hb
      have := (hx0.trans h1).size
      omega
    have HCALL := Lib.hid (l8Places_any (.mk k n ks) w _ _ _ _ [] [] 30 false hcs.2 hin0 ((hx0.trans h1).trans hx3) hG hP (by have := hcs.1; simp; omega) (by have := hcs.1; simp; omega))
    clear hbB hG hP hcs hx2
    go_wp2_with fail
    refine HCALL.out.mono ?_
    rintro e w2 ⟨x, rfl, hG2, hO2, -⟩
    have hE2 : Ext w w2 := hO2.ext ((hx0.trans h1).trans hx3) hon
    clear hO2 hon
    go_wp2_with fail
    go_ret
    exact ⟨_, rfl, by rw [E2.out]; exact hG2, hE2⟩
set_option maxRecDepth 100000 in
set_option maxHeartbeats 1000000 in
theorem specRedexPlaces_any (t : Tr) (w : World) (v : Value) (hin : Lies w t v) : Calls Try.prog 31 #[v] w fun e w' => ∃ x, e = .returned x ∧ GrowP w w' 55 x (plV true t) ∧ Ext w w' := by
  have HV := Lib.hid (fun W (hW : Ext w W) => specValidTerm t W v (hin.ext hW))
  have E := Lib.hid (plV_ask true t)
  have HB := Lib.hid (fun (h : valid sigT t = true) => cnt_of_valid h)
  obtain ⟨z, hz⟩ : ∃ z, valid sigT t = z := ⟨_, rfl⟩
  rw [hz] at HV E HB
  clear hz
  obtain ⟨k, n, ks⟩ := t
  have hin0 := hin
  obtain ⟨A, cap, rfl, hl, hc, hK⟩ := Lies.mk_iff.1 hin
  have hx0 := (Ext.refl w).alloc (.cells #[.int .i64 k, .int .i64 n, .slice A ks.length cap] 44)
  have hbB := heap_alloc_new w (.cells #[.int .i64 k, .int .i64 n, .slice A ks.length cap] 44)
  cases z with
  | false =>
    have E2 := Lib.hid (E.out.trans (if_neg (by decide)))
    clear E HB
    go_enter Try.func31, Try.ntmps31
    go_wp2_with fail
    refine (HV.out _ hx0).mono ?_
    rintro e w1 ⟨rfl, h1⟩
    go_wp2_with fail
    go_ret
    exact ⟨_, rfl, by rw [E2.out]; exact GrowP.lit (heap_alloc_new w1 _) (hx0.trans h1).size, (hx0.trans h1).alloc _⟩
  | true =>
    have E2 := Lib.hid (E.out.trans (if_pos rfl))
    have hcs := HB.out rfl
    clear E HB
    go_enter Try.func31, Try.ntmps31
    go_wp2_with fail
    refine (HV.out _ hx0).mono ?_
    rintro e w1 ⟨rfl, h1⟩
    obtain ⟨z0, z1, z2, -, -, -⟩ := own3 (h1.blk hbB)
    have lz := lt_of_blk (h1.blk hbB)
    have hx2 := (Ext.refl w1).alloc (.cells #[] 55)
    have hx3 := hx2.alloc (.cells #[] 3)
    have hG : GrowP w ((w1.alloc (.cells #[] 55)).alloc (.cells #[] 3)) 55 (.slice (some ⟨w1.heap.size, 0, none⟩) 0 0) [] := (GrowP.lit (heap_alloc_new w1 _) (hx0.trans h1).size).ext ((Ext.refl _).alloc _)
    have hP : PathAt ((w1.alloc (.cells #[] 55)).alloc (.cells #[] 3)) (fun b => b < ((w1.alloc (.cells #[] 55)).alloc (.cells #[] 3)).heap.size ∧ (Value.slice (some ⟨w1.heap.size, 0, none⟩) 0 0).ownBlock ≠ some b) (.slice (some ⟨w1.heap.size + 1, 0, none⟩) 0 0) [] := .inr ⟨w1.heap.size + 1, 0, 0, rfl, Nat.le_refl _, Nat.zero_le _, ⟨by simp, by simp [Value.ownBlock]⟩, fun j hj => absurd hj (by simp)⟩
    have hon : ∀ b, b ∈ (Value.slice (some ⟨w1.heap.size, 0, none⟩) 0 0).ownBlock.toList → w.heap.size ≤ b := fun b hb => by
      simp [Value.ownBlock] at hb
      have := (hx0.trans h1).size
      omega
    have HCALL := Lib.hid (l8Places_any (.mk k n ks) w _ _ _ _ [] [] 30 true hcs.2 hin0 ((hx0.trans h1).trans hx3) hG hP (by have := hcs.1; simp; omega) (by have := hcs.1; simp; omega))
    clear hbB hG hP hcs hx2
    go_wp2_with fail
    refine HCALL.out.mono ?_
    rintro e w2 ⟨x, rfl, hG2, hO2, -⟩
    have hE2 : Ext w w2 := hO2.ext ((hx0.trans h1).trans hx3) hon
    clear hO2 hon
    go_wp2_with fail
    go_ret
    exact ⟨_, rfl, by rw [E2.out]; exact hG2, hE2⟩
def outP (t : Tr) : List Int := (outT t).getD []
def OutC (t : Tr) : Prop := ∀ (w : World) (v : Value) (d : Int), shape sigT t d = true → Lies w t v → d ≤ 1000 → Calls Try.prog 92 #[v] w fun e w' => ∃ x, e = .returned (.tuple #[x, .bool (outT t).isSome]) ∧ w'.ownsRow w.heap.size 3 1 x (outP t).length ((outP t).map (Value.int .i64)) ∧ Ext w w'
set_option maxRecDepth 100000 in
set_option maxHeartbeats 2000000 in
theorem outer_any : ∀ t : Tr, OutC t := Tr.ind fun k n ks hk => by
  intro w v d hsh hin hd
  have HR := Lib.hid (fun V (hV : Ext w V) => redex_any (.mk k n ks) d hsh V v (hin.ext hV))
  have hol := outT_len (.mk k n ks) d hsh
  obtain ⟨-, -, -, hsk⟩ := shape_kids hsh
  obtain ⟨A, cap, rfl, hl, hc, hK⟩ := Lies.mk_iff.1 hin
  obtain ⟨i0, hi, hz0, hz1, hz2⟩ := info_parts infoIntP
  have hcc := hc
  unfold maxLen at hcc
  have ho : outT (.mk k n ks) = if rdx k ks = 0 then outTs 0 ks else some [] := by rw [outT]
  have hx0 := (Ext.refl w).alloc (.cells #[.int .i64 k, .int .i64 n, .slice A ks.length cap] 44)
  have hbB := heap_alloc_new w (.cells #[.int .i64 k, .int .i64 n, .slice A ks.length cap] 44)
  obtain ⟨r, hr⟩ : ∃ r, rdx k ks = r := ⟨_, rfl⟩
  have HR2 := Lib.hid (show ∀ V, Ext w V → Calls Try.prog 88 #[.agg #[.int .i64 k, .int .i64 n, .slice A ks.length cap]] V fun e w' => e = .returned (.int .i64 r) ∧ Ext V w' from fun V hV => by have := HR.out V hV; rw [show rdxT (.mk k n ks) = r from hr] at this; exact this)
  rw [hr] at ho
  clear hr HR
  by_cases h0 : r = 0
  · rw [if_pos h0] at ho
    have hb0 : (r != 0) = false := by rw [h0]; rfl
    subst h0
    have HO := Lib.hid ho
    clear ho hin
    go_enter Try.func92, Try.ntmps92
    go_wp2_with fail
    refine (HR2.out _ hx0).mono ?_
    rintro e w1 ⟨rfl, h1⟩
    obtain ⟨z0, z1, z2, -, -, -⟩ := own3 (h1.blk hbB)
    have lz := lt_of_blk (h1.blk hbB)
    have hx1 := hx0.trans h1
    clear hbB h1 hx0 HR2
    go_wp2_with fail
    clear z0 z1 z2 lz
    go_loopw [14] (fun i wr => ∃ (j : Nat), j ≤ ks.length ∧ i = .int .i64 j ∧ Hid (outTs 0 ks = outTs j (ks.drop j)) ∧ Ext w wr) (fun i _ => ks.length - (intOf i).toNat)
    case atStart => exact ⟨0, Nat.zero_le _, rfl, Lib.hid rfl, hx1⟩
    case round =>
      obtain ⟨j, hj', rfl, HE, hx⟩ := hrel
      by_cases hlt : j < ks.length
      · obtain ⟨b, o, k', n', A', cap', kids, rfl, HK, c0, c1, c2, hkl, hkc, hK', hin', hmem⟩ := hK.get hx hlt
        have hst : outTs j (ks.drop j) = match outT (.mk k' n' kids) with | some p => some ((j : Int) :: p) | none => outTs (j + 1) (ks.drop (j + 1)) := by
          rw [List.drop_eq_getElem_cons hlt, HK.out]; conv => lhs; unfold outTs
          rfl
        have hol2 := outT_len (.mk k' n' kids) (d - 1) (hsk _ hmem)
        have hx5 := (Ext.refl wr).alloc (.cells #[.int .i64 k', .int .i64 n', .slice A' kids.length cap'] 44)
        have HC := Lib.hid (hk _ hmem _ _ (d - 1) (hsk _ hmem) (hin'.ext hx5) (by omega))
        have hpe : outP (.mk k' n' kids) = (outT (.mk k' n' kids)).getD [] := rfl
        rw [hpe] at HC
        clear hpe
        generalize outT (.mk k' n' kids) = q at hst hol2 HC
        have hj2 : (j : Int) < (ks.length : Int) := by omega
        clear hol hin'
        go_wp2_with fail
        refine HC.out.mono ?_
        rintro e w2 ⟨x, rfl, hq, h2⟩
        have hx2 := (hx.trans hx5).trans h2
        cases q with
        | some p =>
          have hpl := hol2 p rfl
          simp only [Option.getD_some] at hq
          simp only at hst
          have HO2 := Lib.hid ((HO.out.trans HE.out).trans hst)
          have hpa := ownsRow_pathL hq
          obtain ⟨Bq, cq, rfl, -, -, -⟩ := ownsRow_nums hq
          have hx3 := (Ext.refl w2).alloc (.cells #[.int .i64 j] 3)
          have hG : (w2.alloc (.cells #[.int .i64 j] 3)).ownsRow w2.heap.size 3 1 (.slice (some ⟨w2.heap.size, 0, none⟩) 1 1) ([(j : Int)]).length (([(j : Int)]).map (Value.int .i64)) := World.ownsRow_lit w2 #[.int .i64 j] 1 (Nat.le_refl _) (by decide) rfl
          have hpa3 := hpa.ext hx3
          clear hst HC HE HO hpa hq hol2
          go_wp2_with (at_builtin; refine wpList_append_ints _ rfl (.tmp 26) (.tmp 27) 55 rfl w2.heap.size 3 i0 _ 8 Try.underlying55 hi hz0 hz1 hz2 (by decide) rfl (ns := [(j : Int)]) (p := p) rfl hG (by simp) rfl hpa3 (by simp; omega) ?_)
          intro va wa hva hga hoa
          have hEa : Ext w wa := hx2.trans (hx3.grown hga (by intro g hg; simp [Value.ownBlock] at hg; omega))
          have hsz := hx2.size
          have hvw : wa.ownsRow w.heap.size 3 1 va ((j : Int) :: p).length ((((j : Int) :: p)).map (Value.int .i64)) := ownsRow_since hva hsz
          have HVW := Lib.hid hvw
          clear hva hga hoa hvw
          go_wp2_with fail
          go_ret2
          have hou : outP (.mk k n ks) = (j : Int) :: p := by unfold outP; rw [HO2.out]; rfl
          exact ⟨_, by rw [HO2.out]; rfl, by rw [hou]; exact HVW.out, hEa⟩
        | none =>
          simp only at hst
          have HE2 := Lib.hid (HE.out.trans hst)
          clear hst HC hq hol2
          go_wp2_with fail
          go_roundw
          case rel => exact ⟨j + 1, by omega, by go_num, HE2, hx2⟩
          case measure => simp [intOf]; omega
      · have HO2 := Lib.hid ((HO.out.trans HE.out).trans (show outTs j (ks.drop j) = none by rw [List.drop_of_length_le (by omega), outTs]))
        clear HE HO
        go_wp2_with fail
        go_ret2
        have hou : outP (.mk k n ks) = [] := by unfold outP; rw [HO2.out]; rfl
        exact ⟨_, by rw [HO2.out]; rfl, by rw [hou]; exact World.ownsRow_nil _ _ _ _, hx⟩
  · rw [if_neg h0] at ho
    have hb0 : (r != 0) = true := bne_iff_ne.2 h0
    have HO := Lib.hid ho
    clear ho
    go_enter Try.func92, Try.ntmps92
    go_wp2_with fail
    refine (HR2.out _ hx0).mono ?_
    rintro e w1 ⟨rfl, h1⟩
    go_wp2_with fail
    go_ret2
    have hou : outP (.mk k n ks) = [] := by unfold outP; rw [HO.out]; rfl
    exact ⟨_, by rw [HO.out]; rfl, by rw [hou]; exact World.ownsRow_nil _ _ _ _, hx0.trans h1⟩
set_option maxRecDepth 100000 in
set_option maxHeartbeats 400000 in
theorem dkInts_q (ns ms : List Int) (w : World) (A A' : Option Addr) (cap cap' : Nat) (h : Nums w A ns) (hl : ns.length ≤ cap) (hc : cap ≤ maxLen) (h' : Nums w A' ms) (hl' : ms.length ≤ cap') (hc' : cap' ≤ maxLen) :
    Calls Try.prog 48 #[.slice A ns.length cap, .slice A' ms.length cap'] w fun e w' => e = .returned (.bool (decide (ns = ms))) ∧ ∃ m, w' = w.drewN m := by
  unfold maxLen at hc hc'
  by_cases h0 : ns.length = ms.length
  · have hd : ((ns.length : Int) != (ms.length : Int)) = false := by rw [h0]; simp
    have H0 := Lib.hid h0
    clear h0
    go_enter Try.func48, Try.ntmps48
    go_wp2_with fail
    go_loopw [5] (fun i wr => ∃ j : Nat, j ≤ ns.length ∧ i = .int .i64 j ∧ (ns = ms ↔ ns.drop j = ms.drop j) ∧ ∃ q0, Hid (wr = w.drewN q0)) (fun i _ => ns.length - (intOf i).toNat)
    case atStart => exact ⟨0, Nat.zero_le _, rfl, Iff.rfl, 0, Lib.hid rfl⟩
    case round =>
      obtain ⟨j, hj, rfl, heq, q0, HQ⟩ := hrel
      have he : Ext w wr := HQ.out ▸ (Ext.refl w).drewN q0
      by_cases hlt : j < ns.length
      · have hlt' : j < ms.length := by rw [← H0.out]; exact hlt
        obtain ⟨b, o, rfl, c0⟩ := h.get he hlt
        obtain ⟨b', o', rfl, c0'⟩ := h'.get he hlt'
        have hst : ns.drop j = ms.drop j ↔ ns[j] = ms[j] ∧ ns.drop (j + 1) = ms.drop (j + 1) := by
          rw [List.drop_eq_getElem_cons hlt, List.drop_eq_getElem_cons hlt', List.cons.injEq]
        generalize ns[j] = p at c0 hst
        generalize ms[j] = q at c0' hst
        have hj0 : (0 : Int) ≤ (j : Int) := Int.natCast_nonneg _
        have hj1 : (j : Int) < (ns.length : Int) := by omega
        have hj2 : (j : Int) < (ms.length : Int) := by omega
        by_cases hpq : p = q
        · have d1 : (p != q) = false := by simp [hpq]
          have hn := heq.trans (hst.trans ⟨fun x => x.2, fun x => ⟨hpq, x⟩⟩)
          have HN := Lib.hid hn
          clear heq hst hn hpq
          go_wp2_with fail
          go_quiet (fail)
          go_wp2_with fail
          go_roundw
          case rel => exact ⟨j + 1, by omega, by go_num, HN.out, _, Lib.hid (by rw [HQ.out, World.drewN_drewN])⟩
          case measure => simp [intOf]; omega
        · have d1 : (p != q) = true := by rw [bne_iff_ne]; exact hpq
          have hn : decide (ns = ms) = false := decide_eq_false fun x => hpq (hst.1 (heq.1 x)).1
          have HN := Lib.hid hn
          clear heq hst hn hpq
          go_wp2_with fail
          go_quiet (fail)
          go_wp2_with fail
          go_ret
          exact ⟨by rw [HN.out]; rfl, _, by rw [HQ.out, World.drewN_drewN]⟩
      · have hn : decide (ns = ms) = true := decide_eq_true (heq.2 (by rw [List.drop_of_length_le (by omega), List.drop_of_length_le (by rw [← H0.out]; omega)]))
        have HN := Lib.hid hn
        clear heq hn
        go_wp2_with fail
        go_ret
        exact ⟨by rw [HN.out]; rfl, q0, HQ.out⟩
  · have hd : ((ns.length : Int) != (ms.length : Int)) = true := by rw [bne_iff_ne]; omega
    have hn : decide (ns = ms) = false := decide_eq_false fun x => h0 (by rw [x])
    have HN := Lib.hid hn
    clear hn h0
    go_enter Try.func48, Try.ntmps48
    go_wp2_with fail
    go_ret
    exact ⟨by rw [HN.out]; rfl, 0, rfl⟩
theorem dkInts_any (ns ms : List Int) (w : World) (A A' : Option Addr) (cap cap' : Nat) (h : Nums w A ns) (hl : ns.length ≤ cap) (hc : cap ≤ maxLen) (h' : Nums w A' ms) (hl' : ms.length ≤ cap') (hc' : cap' ≤ maxLen) :
    Calls Try.prog 48 #[.slice A ns.length cap, .slice A' ms.length cap'] w fun e w' => e = .returned (.bool (decide (ns = ms))) ∧ Ext w w' :=
  (dkInts_q ns ms w A A' cap cap' h hl hc h' hl' hc').mono fun e w' ⟨h1, m, h2⟩ => ⟨h1, h2 ▸ (Ext.refl w).drewN m⟩
end Go.Proofs.Ytappakllopkfiaa

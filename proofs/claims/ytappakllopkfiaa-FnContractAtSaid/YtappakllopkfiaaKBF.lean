/-
  Lemmas towards the law, 32: Put2, Places3.
-/
import Derived.Test.YtappakllopkfiaaKAP
import Derived.Test.YtappakllopkfiaaKAW
namespace Go.Proofs.Ytappakllopkfiaa
open Go.RowKit
set_option linter.unusedVariables false
attribute [local go_sem ↓] Go.wp_at_zero Go.wp_at_succ
theorem l7Made_any (t : Tr) (a0 a1 : Int) (a2 : Option Addr) (a3 a4 : Nat) (w : World) (hin : Lies w t (.agg #[.int .i64 a0, .int .i64 a1, .slice a2 a3 a4])) :
    Calls Try.prog 107 #[.agg #[.int .i64 a0, .int .i64 a1, .slice a2 a3 a4]] w fun e w' => (if valid sigT t = true then e = .returned (.tuple #[.agg #[.int .i64 a0, .int .i64 a1, .slice a2 a3 a4], .bool true]) else e = .returned (.tuple #[.agg #[.int .i64 0, .int .i64 0, .slice none 0 0], .bool false])) ∧ Ext w w' ∧ ∀ b, b < w.heap.size → w'.heap[b]? = w.heap[b]? := by
  have HV := Lib.hid (fun W (hW : Ext w W) => specValidTerm _ W _ (hin.ext hW))
  generalize valid sigT t = s at HV ⊢
  have hE := ((Ext.refl w).alloc (.cells #[.int .i64 a0, .int .i64 a1, .slice a2 a3 a4] 44)).alloc (.cells #[.int .i64 0, .int .i64 0, .slice none 0 0] 44)
  obtain ⟨hbT, hbR, hs1⟩ := blk2 (Ext.refl ((w.alloc (.cells #[.int .i64 a0, .int .i64 a1, .slice a2 a3 a4] 44)).alloc (.cells #[.int .i64 0, .int .i64 0, .slice none 0 0] 44)))
  have fin : ∀ w', Ext w w' → Ext w w' ∧ ∀ b, b < w.heap.size → w'.heap[b]? = w.heap[b]? := fun w' h => ⟨h, fun b hb => h.heap b hb⟩
  cases s with
  | true =>
    simp only [if_true]
    go_enter Try.func107, Try.ntmps107
    go_wp2_with fail
    refine (HV.out _ hE).mono ?_
    rintro e w1 ⟨rfl, e1⟩
    obtain ⟨x0, x1, x2, -, -, -⟩ := own3 (e1.blk hbT)
    obtain ⟨s0, s1, s2, f0, f1, f2⟩ := own3 (e1.blk hbR)
    go_wp2_with fail
    exact bodyPost_ret (v := .tuple #[.agg #[.int .i64 a0, .int .i64 a1, .slice a2 a3 a4], .bool true]) (by simp [results, Try.results107, go_sem, s0, s1, s2]) rfl ⟨rfl, fin _ ((((hE.trans e1).setCell (by simp) _).setCell (by simp) _).setCell (by simp) _)⟩
  | false =>
    simp only [Bool.false_eq_true, if_false]
    go_enter Try.func107, Try.ntmps107
    go_wp2_with fail
    refine (HV.out _ hE).mono ?_
    rintro e w1 ⟨rfl, e1⟩
    obtain ⟨s0, s1, s2, f0, f1, f2⟩ := own3 (e1.blk hbR)
    go_wp2_with fail
    exact bodyPost_ret (v := .tuple #[.agg #[.int .i64 0, .int .i64 0, .slice none 0 0], .bool false]) (by simp [results, Try.results107, go_sem, s0, s1, s2]) rfl ⟨rfl, fin _ ((((hE.trans e1).setCell (by simp) _).setCell (by simp) _).setCell (by simp) _)⟩
end Go.Proofs.Ytappakllopkfiaa
namespace Go.Proofs.Ytappakllopkfiaa
open Go.RowKit
set_option linter.unusedVariables false
attribute [local go_sem ↓] Go.wp_at_zero Go.wp_at_succ
theorem plV_ask (rd : Bool) (t : Tr) : plV rd t = if valid sigT t = true then plc (askP rd) t [] else [] := by
  have e : (if rd = true then isRdx else allP) = askP rd := by
    cases rd
    · funext x; rfl
    · funext x; rfl
  unfold plV
  rw [e]
theorem plV_len (rd : Bool) (t : Tr) : (plV rd t).length ≤ 400 := by
  unfold plV
  split
  · rename_i h
    have := plc_len_le (if rd = true then isRdx else allP) t []
    have := (cnt_of_valid h).1
    omega
  · simp
set_option maxRecDepth 100000 in
set_option maxHeartbeats 1000000 in
theorem specPlacesOf_any (t : Tr) (w : World) (v : Value) (hin : Lies w t v) : Calls Try.prog 160 #[v] w fun e w' => ∃ x, e = .returned x ∧ GrowP w w' 55 x (plV false t) ∧ Ext w w' := by
  have HV := Lib.hid (fun W (hW : Ext w W) => specValidTerm t W v (hin.ext hW))
  have E := Lib.hid (plV_ask false t)
  have HB := Lib.hid (fun (h : valid sigT t = true) => cnt_of_valid h)
  obtain ⟨z, hz⟩ : ∃ z, valid sigT t = z := ⟨_, rfl⟩
  rw [hz] at HV E HB
  clear hz
  obtain ⟨k, n, ks⟩ := t
  have hin0 := hin
  obtain ⟨A, cap, rfl, hl, hc, hK⟩ := Lies.mk_iff.1 hin
  have hx0 := (Ext.refl w).alloc (.cells #[.int .i64 k, .int .i64 n, .slice A ks.length cap] 44)
  have hbB := heap_alloc_new w (.cells #[.int .i64 k, .int .i64 n, .slice A ks.length cap] 44)
  cases z with
  | false =>
    have E2 := Lib.hid (E.out.trans (if_neg (by decide)))
    clear E HB
    go_enter Try.func160, Try.ntmps160
    go_wp2_with fail
    refine (HV.out _ hx0).mono ?_
    rintro e w1 ⟨rfl, h1⟩
    go_wp2_with fail
    go_ret
    exact ⟨_, rfl, by rw [E2.out]; exact GrowP.lit (heap_alloc_new w1 _) (hx0.trans h1).size, (hx0.trans h1).alloc _⟩
  | true =>
    have E2 := Lib.hid (E.out.trans (if_pos rfl))
    have hcs := HB.out rfl
    clear E HB
    go_enter Try.func160, Try.ntmps160
    go_wp2_with fail
    refine (HV.out _ hx0).mono ?_
    rintro e w1 ⟨rfl, h1⟩
    obtain ⟨z0, z1, z2, -, -, -⟩ := own3 (h1.blk hbB)
    have lz := lt_of_blk (h1.blk hbB)
    have hx2 := (Ext.refl w1).alloc (.cells #[] 55)
    have hx3 := hx2.alloc (.cells #[] 3)
    have hG : GrowP w ((w1.alloc (.cells #[] 55)).alloc (.cells #[] 3)) 55 (.slice (some ⟨w1.heap.size, 0, none⟩) 0 0) [] := (GrowP.lit (heap_alloc_new w1 _) (hx0.trans h1).size).ext ((Ext.refl _).alloc _)
    have hP : PathAt ((w1.alloc (.cells #[] 55)).alloc (.cells #[] 3)) (fun b => b < ((w1.alloc (.cells #[] 55)).alloc (.cells #[] 3)).heap.size ∧ (Value.slice (some ⟨w1.heap.size, 0, none⟩) 0 0).ownBlock ≠ some b) (.slice (some ⟨w1.heap.size + 1, 0, none⟩) 0 0) [] := .inr ⟨w1.heap.size + 1, 0, 0, rfl, Nat.le_refl _, Nat.zero_le _, ⟨by simp, by simp [Value.ownBlock]⟩, fun j hj => absurd hj (by simp)⟩
    have hon : ∀ b, b ∈ (Value.slice (some ⟨w1.heap.size, 0, none⟩) 0 0).ownBlock.toList → w.heap.size ≤ b := fun b hb => by
      simp [Value.ownBlock] at hb
      have := (hx0.trans h1).size
      omega
    have HCALL := Lib.hid (l8Places_any (.mk k n ks) w _ _ _ _ [] [] 30 false hcs.2 hin0 ((hx0.trans h1).trans hx3) hG hP (by have := hcs.1; simp; omega) (by have := hcs.1; simp; omega))
    clear hbB hG hP hcs hx2
    go_wp2_with fail
    refine HCALL.out.mono ?_
    rintro e w2 ⟨x, rfl, hG2, hO2, -⟩
    have hE2 : Ext w w2 := hO2.ext ((hx0.trans h1).trans hx3) hon
    clear hO2 hon
    go_wp2_with fail
    go_ret
    exact ⟨_, rfl, by rw [E2.out]; exact hG2, hE2⟩
set_option maxRecDepth 100000 in
set_option maxHeartbeats 1000000 in
theorem specRedexPlaces_any (t : Tr) (w : World) (v : Value) (hin : Lies w t v) : Calls Try.prog 31 #[v] w fun e w' => ∃ x, e = .returned x ∧ GrowP w w' 55 x (plV true t) ∧ Ext w w' := by
  have HV := Lib.hid (fun W (hW : Ext w W) => specValidTerm t W v (hin.ext hW))
  have E := Lib.hid (plV_ask true t)
  have HB := Lib.hid (fun (h : valid sigT t = true) => cnt_of_valid h)
  obtain ⟨z, hz⟩ : ∃ z, valid sigT t = z := ⟨_, rfl⟩
  rw [hz] at HV E HB
  clear hz
  obtain ⟨k, n, ks⟩ := t
  have hin0 := hin
  obtain ⟨A, cap, rfl, hl, hc, hK⟩ := Lies.mk_iff.1 hin
  have hx0 := (Ext.refl w).alloc (.cells #[.int .i64 k, .int .i64 n, .slice A ks.length cap] 44)
  have hbB := heap_alloc_new w (.cells #[.int .i64 k, .int .i64 n, .slice A ks.length cap] 44)
  cases z with
  | false =>
    have E2 := Lib.hid (E.out.trans (if_neg (by decide)))
    clear E HB
    go_enter Try.func31, Try.ntmps31
    go_wp2_with fail
    refine (HV.out _ hx0).mono ?_
    rintro e w1 ⟨rfl, h1⟩
    go_wp2_with fail
    go_ret
    exact ⟨_, rfl, by rw [E2.out]; exact GrowP.lit (heap_alloc_new w1 _) (hx0.trans h1).size, (hx0.trans h1).alloc _⟩
  | true =>
    have E2 := Lib.hid (E.out.trans (if_pos rfl))
    have hcs := HB.out rfl
    clear E HB
    go_enter Try.func31, Try.ntmps31
    go_wp2_with fail
    refine (HV.out _ hx0).mono ?_
    rintro e w1 ⟨rfl, h1⟩
    obtain ⟨z0, z1, z2, -, -, -⟩ := own3 (h1.blk hbB)
    have lz := lt_of_blk (h1.blk hbB)
    have hx2 := (Ext.refl w1).alloc (.cells #[] 55)
    have hx3 := hx2.alloc (.cells #[] 3)
    have hG : GrowP w ((w1.alloc (.cells #[] 55)).alloc (.cells #[] 3)) 55 (.slice (some ⟨w1.heap.size, 0, none⟩) 0 0) [] := (GrowP.lit (heap_alloc_new w1 _) (hx0.trans h1).size).ext ((Ext.refl _).alloc _)
    have hP : PathAt ((w1.alloc (.cells #[] 55)).alloc (.cells #[] 3)) (fun b => b < ((w1.alloc (.cells #[] 55)).alloc (.cells #[] 3)).heap.size ∧ (Value.slice (some ⟨w1.heap.size, 0, none⟩) 0 0).ownBlock ≠ some b) (.slice (some ⟨w1.heap.size + 1, 0, none⟩) 0 0) [] := .inr ⟨w1.heap.size + 1, 0, 0, rfl, Nat.le_refl _, Nat.zero_le _, ⟨by simp, by simp [Value.ownBlock]⟩, fun j hj => absurd hj (by simp)⟩
    have hon : ∀ b, b ∈ (Value.slice (some ⟨w1.heap.size, 0, none⟩) 0 0).ownBlock.toList → w.heap.size ≤ b := fun b hb => by
      simp [Value.ownBlock] at hb
      have := (hx0.trans h1).size
      omega
    have HCALL := Lib.hid (l8Places_any (.mk k n ks) w _ _ _ _ [] [] 30 true hcs.2 hin0 ((hx0.trans h1).trans hx3) hG hP (by have := hcs.1; simp; omega) (by have := hcs.1; simp; omega))
    clear hbB hG hP hcs hx2
    go_wp2_with fail
    refine HCALL.out.mono ?_
    rintro e w2 ⟨x, rfl, hG2, hO2, -⟩
    have hE2 : Ext w w2 := hO2.ext ((hx0.trans h1).trans hx3) hon
    clear hO2 hon
    go_wp2_with fail
    go_ret
    exact ⟨_, rfl, by rw [E2.out]; exact hG2, hE2⟩
def outP (t : Tr) : List Int := (outT t).getD []
def OutC (t : Tr) : Prop := ∀ (w : World) (v : Value) (d : Int), shape sigT t d = true → Lies w t v → d ≤ 1000 → Calls Try.prog 92 #[v] w fun e w' => ∃ x, e = .returned (.tuple #[x, .bool (outT t).isSome]) ∧ w'.ownsRow w.heap.size 3 1 x (outP t).length ((outP t).map (Value.int .i64)) ∧ Ext w w'
set_option maxRecDepth 100000 in
set_option maxHeartbeats 2000000 in
theorem outer_any : ∀ t : Tr, OutC t := Tr.ind fun k n ks hk => by
  intro w v d hsh hin hd
  have HR := Lib.hid (fun V (hV : Ext w V) => redex_any (.mk k n ks) d hsh V v (hin.ext hV))
  have hol := outT_len (.mk k n ks) d hsh
  obtain ⟨-, -, -, hsk⟩ := shape_kids hsh
  obtain ⟨A, cap, rfl, hl, hc, hK⟩ := Lies.mk_iff.1 hin
  obtain ⟨i0, hi, hz0, hz1, hz2⟩ := info_parts infoIntP
  have hcc := hc
  unfold maxLen at hcc
  have ho : outT (.mk k n ks) = if rdx k ks = 0 then outTs 0 ks else some [] := by rw [outT]
  have hx0 := (Ext.refl w).alloc (.cells #[.int .i64 k, .int .i64 n, .slice A ks.length cap] 44)
  have hbB := heap_alloc_new w (.cells #[.int .i64 k, .int .i64 n, .slice A ks.length cap] 44)
  obtain ⟨r, hr⟩ : ∃ r, rdx k ks = r := ⟨_, rfl⟩
  have HR2 := Lib.hid (show ∀ V, Ext w V → Calls Try.prog 88 #[.agg #[.int .i64 k, .int .i64 n, .slice A ks.length cap]] V fun e w' => e = .returned (.int .i64 r) ∧ Ext V w' from fun V hV => by have := HR.out V hV; rw [show rdxT (.mk k n ks) = r from hr] at this; exact this)
  rw [hr] at ho
  clear hr HR
  by_cases h0 : r = 0
  · rw [if_pos h0] at ho
    have hb0 : (r != 0) = false := by rw [h0]; rfl
    subst h0
    have HO := Lib.hid ho
    clear ho hin
    go_enter Try.func92, Try.ntmps92
    go_wp2_with fail
    refine (HR2.out _ hx0).mono ?_
    rintro e w1 ⟨rfl, h1⟩
    obtain ⟨z0, z1, z2, -, -, -⟩ := own3 (h1.blk hbB)
    have lz := lt_of_blk (h1.blk hbB)
    have hx1 := hx0.trans h1
    clear hbB h1 hx0 HR2
    go_wp2_with fail
    clear z0 z1 z2 lz
    go_loopw [14] (fun i wr => ∃ (j : Nat), j ≤ ks.length ∧ i = .int .i64 j ∧ Hid (outTs 0 ks = outTs j (ks.drop j)) ∧ Ext w wr) (fun i _ => ks.length - (intOf i).toNat)
    case atStart => exact ⟨0, Nat.zero_le _, rfl, Lib.hid rfl, hx1⟩
    case round =>
      obtain ⟨j, hj', rfl, HE, hx⟩ := hrel
      by_cases hlt : j < ks.length
      · obtain ⟨b, o, k', n', A', cap', kids, rfl, HK, c0, c1, c2, hkl, hkc, hK', hin', hmem⟩ := hK.get hx hlt
        have hst : outTs j (ks.drop j) = match outT (.mk k' n' kids) with | some p => some ((j : Int) :: p) | none => outTs (j + 1) (ks.drop (j + 1)) := by
          rw [List.drop_eq_getElem_cons hlt, HK.out]; conv => lhs; unfold outTs
          rfl
        have hol2 := outT_len (.mk k' n' kids) (d - 1) (hsk _ hmem)
        have hx5 := (Ext.refl wr).alloc (.cells #[.int .i64 k', .int .i64 n', .slice A' kids.length cap'] 44)
        have HC := Lib.hid (hk _ hmem _ _ (d - 1) (hsk _ hmem) (hin'.ext hx5) (by omega))
        have hpe : outP (.mk k' n' kids) = (outT (.mk k' n' kids)).getD [] := rfl
        rw [hpe] at HC
        clear hpe
        generalize outT (.mk k' n' kids) = q at hst hol2 HC
        have hj2 : (j : Int) < (ks.length : Int) := by omega
        clear hol hin'
        go_wp2_with fail
        refine HC.out.mono ?_
        rintro e w2 ⟨x, rfl, hq, h2⟩
        have hx2 := (hx.trans hx5).trans h2
        cases q with
        | some p =>
          have hpl := hol2 p rfl
          simp only [Option.getD_some] at hq
          simp only at hst
          have HO2 := Lib.hid ((HO.out.trans HE.out).trans hst)
          have hpa := ownsRow_pathL hq
          obtain ⟨Bq, cq, rfl, -, -, -⟩ := ownsRow_nums hq
          have hx3 := (Ext.refl w2).alloc (.cells #[.int .i64 j] 3)
          have hG : (w2.alloc (.cells #[.int .i64 j] 3)).ownsRow w2.heap.size 3 1 (.slice (some ⟨w2.heap.size, 0, none⟩) 1 1) ([(j : Int)]).length (([(j : Int)]).map (Value.int .i64)) := World.ownsRow_lit w2 #[.int .i64 j] 1 (Nat.le_refl _) (by decide) rfl
          have hpa3 := hpa.ext hx3
          clear hst HC HE HO hpa hq hol2
          go_wp2_with (at_builtin; refine wpList_append_ints _ rfl (.tmp 26) (.tmp 27) 55 rfl w2.heap.size 3 i0 _ 8 Try.underlying55 hi hz0 hz1 hz2 (by decide) rfl (ns := [(j : Int)]) (p := p) rfl hG (by simp) rfl hpa3 (by simp; omega) ?_)
          intro va wa hva hga hoa
          have hEa : Ext w wa := hx2.trans (hx3.grown hga (by intro g hg; simp [Value.ownBlock] at hg; omega))
          have hsz := hx2.size
          have hvw : wa.ownsRow w.heap.size 3 1 va ((j : Int) :: p).length ((((j : Int) :: p)).map (Value.int .i64)) := ownsRow_since hva hsz
          have HVW := Lib.hid hvw
          clear hva hga hoa hvw
          go_wp2_with fail
          go_ret2
          have hou : outP (.mk k n ks) = (j : Int) :: p := by unfold outP; rw [HO2.out]; rfl
          exact ⟨_, by rw [HO2.out]; rfl, by rw [hou]; exact HVW.out, hEa⟩
        | none =>
          simp only at hst
          have HE2 := Lib.hid (HE.out.trans hst)
          clear hst HC hq hol2
          go_wp2_with fail
          go_roundw
          case rel => exact ⟨j + 1, by omega, by go_num, HE2, hx2⟩
          case measure => simp [intOf]; omega
      · have HO2 := Lib.hid ((HO.out.trans HE.out).trans (show outTs j (ks.drop j) = none by rw [List.drop_of_length_le (by omega), outTs]))
        clear HE HO
        go_wp2_with fail
        go_ret2
        have hou : outP (.mk k n ks) = [] := by unfold outP; rw [HO2.out]; rfl
        exact ⟨_, by rw [HO2.out]; rfl, by rw [hou]; exact World.ownsRow_nil _ _ _ _, hx⟩
  · rw [if_neg h0] at ho
    have hb0 : (r != 0) = true := bne_iff_ne.2 h0
    have HO := Lib.hid ho
    clear ho
    go_enter Try.func92, Try.ntmps92
    go_wp2_with fail
    refine (HR2.out _ hx0).mono ?_
    rintro e w1 ⟨rfl, h1⟩
    go_wp2_with fail
    go_ret2
    have hou : outP (.mk k n ks) = [] := by unfold outP; rw [HO.out]; rfl
    exact ⟨_, by rw [HO.out]; rfl, by rw [hou]; exact World.ownsRow_nil _ _ _ _, hx0.trans h1⟩
end Go.Proofs.Ytappakllopkfiaa

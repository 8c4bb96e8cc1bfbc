/-
  Lemmas towards the law, 40: Places3.
-/
import Derived.Test.YtappakllopkfiaaCAO
namespace Go.Proofs.Ytappakllopkfiaa
open Go.RowKit
set_option linter.unusedVariables false
attribute [local go_sem ↓] Go.wp_at_zero Go.wp_at_succ
theorem plV_ask (rd : Bool) (t : Tr) : plV rd t = if valid sigT t = true then plc (askP rd) t [] else [] := by
  have e : (if rd = true then isRdx else allP) = askP rd := by
    cases rd
    · funext x; rfl
    · funext x; rfl
  unfold plV
  rw [e]
theorem plV_len (rd : Bool) (t : Tr) : (plV rd t).length ≤ 400 := by
  unfold plV
  split
  · rename_i h
    have := plc_len_le (if rd = true then isRdx else allP) t []
    have := (cnt_of_valid h).1
    omega
  · simp
set_option maxRecDepth 100000 in
set_option maxHeartbeats 1000000 in
theorem specPlacesOf_any (t : Tr) (w : World) (v : Value) (hin : Lies w t v) : Calls Try.prog 160 #[v] w fun e w' => ∃ x, e = .returned x ∧ GrowP w w' 55 x (plV false t) ∧ Ext w w' := by
  have HV := Lib.hid (fun W (hW : Ext w W) => specValidTerm t W v (hin.ext hW))
  have E := Lib.hid (plV_ask false t)
  have HB := Lib.hid (fun (h : valid sigT t = true) => cnt_of_valid h)
  obtain ⟨z, hz⟩ : ∃ z, valid sigT t = z := ⟨_, rfl⟩
  rw [hz] at HV E HB
  clear hz
  obtain ⟨k, n, ks⟩ := t
  have hin0 := hin
  obtain ⟨A, cap, rfl, hl, hc, hK⟩ := Lies.mk_iff.1 hin
  have hx0 := (Ext.refl w).alloc (.cells #[.int .i64 k, .int .i64 n, .slice A ks.length cap] 44)
  have hbB := heap_alloc_new w (.cells #[.int .i64 k, .int .i64 n, .slice A ks.length cap] 44)
  cases z with
  | false =>
    have E2 := Lib.hid (E.out.trans (if_neg (by decide)))
    clear E HB
    go_enter Try.func160, Try.ntmps160
    go_wp2_with fail
    refine (HV.out _ hx0).mono ?_
    rintro e w1 ⟨rfl, h1⟩
    go_wp2_with fail
    go_ret
    exact ⟨_, rfl, by rw [E2.out]; exact GrowP.lit (heap_alloc_new w1 _) (hx0.trans h1).size, (hx0.trans h1).alloc _⟩
  | true =>
    have E2 := Lib.hid (E.out.trans (if_pos rfl))
    have hcs := HB.out rfl
    clear E HB
    go_enter Try.func160, Try.ntmps160
    go_wp2_with fail
    refine (HV.out _ hx0).mono ?_
    rintro e w1 ⟨rfl, h1⟩
    obtain ⟨z0, z1, z2, -, -, -⟩ := own3 (h1.blk hbB)
    have lz := lt_of_blk (h1.blk hbB)
    have hx2 := (Ext.refl w1).alloc (.cells #[] 55)
    have hx3 := hx2.alloc (.cells #[] 3)
    have hG : GrowP w ((w1.alloc (.cells #[] 55)).alloc (.cells #[] 3)) 55 (.slice (some ⟨w1.heap.size, 0, none⟩) 0 0) [] := (GrowP.lit (heap_alloc_new w1 _) (hx0.trans h1).size).ext ((Ext.refl _).alloc _)
    have hP : PathAt ((w1.alloc (.cells #[] 55)).alloc (.cells #[] 3)) (fun b => b < ((w1.alloc (.cells #[] 55)).alloc (.cells #[] 3)).heap.size ∧ (Value.slice (some ⟨w1.heap.size, 0, none⟩) 0 0).ownBlock ≠ some b) (.slice (some ⟨w1.heap.size + 1, 0, none⟩) 0 0) [] := .inr ⟨w1.heap.size + 1, 0, 0, rfl, Nat.le_refl _, Nat.zero_le _, ⟨by simp, by simp [Value.ownBlock]⟩, fun j hj => absurd hj (by simp)⟩
    have hon : ∀ b, b ∈ (Value.slice (some ⟨w1.heap.size, 0, none⟩) 0 0).ownBlock.toList → w.heap.size ≤ b := fun b hb => by
      simp [Value.ownBlock] at hb
      have := (hx0.trans h1).size
      omega
    have HCALL := Lib.hid (l8Places_any (.mk k n ks) w _ _ _ _ [] [] 30 false hcs.2 hin0 ((hx0.trans h1).trans hx3) hG hP (by have := hcs.1; simp; omega) (by have := hcs.1; simp; omega))
    clear hbB hG hP hcs hx2
    go_wp2_with fail
    refine HCALL.out.mono ?_
    rintro e w2 ⟨x, rfl, hG2, hO2, -⟩
    have hE2 : Ext w w2 := hO2.ext ((hx0.trans h1).trans hx3) hon
    clear hO2 hon
    go_wp2_with fail
    go_ret
    exact ⟨_, rfl, by rw [E2.out]; exact hG2, hE2⟩
set_option maxRecDepth 100000 in
set_option maxHeartbeats 1000000 in
theorem specRedexPlaces_any (t : Tr) (w : World) (v : Value) (hin : Lies w t v) : Calls Try.prog 31 #[v] w fun e w' => ∃ x, e = .returned x ∧ GrowP w w' 55 x (plV true t) ∧ Ext w w' := by
  have HV := Lib.hid (fun W (hW : Ext w W) => specValidTerm t W v (hin.ext hW))
  have E := Lib.hid (plV_ask true t)
  have HB := Lib.hid (fun (h : valid sigT t = true) => cnt_of_valid h)
  obtain ⟨z, hz⟩ : ∃ z, valid sigT t = z := ⟨_, rfl⟩
  rw [hz] at HV E HB
  clear hz
  obtain ⟨k, n, ks⟩ := t
  have hin0 := hin
  obtain ⟨A, cap, rfl, hl, hc, hK⟩ := Lies.mk_iff.1 hin
  have hx0 := (Ext.refl w).alloc (.cells #[.int .i64 k, .int .i64 n, .slice A ks.length cap] 44)
  have hbB := heap_alloc_new w (.cells #[.int .i64 k, .int .i64 n, .slice A ks.length cap] 44)
  cases z with
  | false =>
    have E2 := Lib.hid (E.out.trans (if_neg (by decide)))
    clear E HB
    go_enter Try.func31, Try.ntmps31
    go_wp2_with fail
    refine (HV.out _ hx0).mono ?_
    rintro e w1 ⟨rfl, h1⟩
    go_wp2_with fail
    go_ret
    exact ⟨_, rfl, by rw [E2.out]; exact GrowP.lit (heap_alloc_new w1 _) (hx0.trans h1).size, (hx0.trans h1).alloc _⟩
  | true =>
    have E2 := Lib.hid (E.out.trans (if_pos rfl))
    have hcs := HB.out rfl
    clear E HB
    go_enter Try.func31, Try.ntmps31
    go_wp2_with fail
    refine (HV.out _ hx0).mono ?_
    rintro e w1 ⟨rfl, h1⟩
    obtain ⟨z0, z1, z2, -, -, -⟩ := own3 (h1.blk hbB)
    have lz := lt_of_blk (h1.blk hbB)
    have hx2 := (Ext.refl w1).alloc (.cells #[] 55)
    have hx3 := hx2.alloc (.cells #[] 3)
    have hG : GrowP w ((w1.alloc (.cells #[] 55)).alloc (.cells #[] 3)) 55 (.slice (some ⟨w1.heap.size, 0, none⟩) 0 0) [] := (GrowP.lit (heap_alloc_new w1 _) (hx0.trans h1).size).ext ((Ext.refl _).alloc _)
    have hP : PathAt ((w1.alloc (.cells #[] 55)).alloc (.cells #[] 3)) (fun b => b < ((w1.alloc (.cells #[] 55)).alloc (.cells #[] 3)).heap.size ∧ (Value.slice (some ⟨w1.heap.size, 0, none⟩) 0 0).ownBlock ≠ some b) (.slice (some ⟨w1.heap.size + 1, 0, none⟩) 0 0) [] := .inr ⟨w1.heap.size + 1, 0, 0, rfl, Nat.le_refl _, Nat.zero_le _, ⟨by simp, by simp [Value.ownBlock]⟩, fun j hj => absurd hj (by simp)⟩
    have hon : ∀ b, b ∈ (Value.slice (some ⟨w1.heap.size, 0, none⟩) 0 0).ownBlock.toList → w.heap.size ≤ b := fun b hb => by
      simp [Value.ownBlock] at hb
      have := (hx0.trans h1).size
      omega
    have HCALL := Lib.hid (l8Places_any (.mk k n ks) w _ _ _ _ [] [] 30 true hcs.2 hin0 ((hx0.trans h1).trans hx3) hG hP (by have := hcs.1; simp; omega) (by have := hcs.1; simp; omega))
    clear hbB hG hP hcs hx2
    go_wp2_with fail
    refine HCALL.out.mono ?_
    rintro e w2 ⟨x, rfl, hG2, hO2, -⟩
    have hE2 : Ext w w2 := hO2.ext ((hx0.trans h1).trans hx3) hon
    clear hO2 hon
    go_wp2_with fail
    go_ret
    exact ⟨_, rfl, by rw [E2.out]; exact hG2, hE2⟩
end Go.Proofs.Ytappakllopkfiaa

/-
  Lemmas towards the law, 29: Unf.
-/
import Derived.Test.YtappakllopkfiaaZAR
import Derived.Test.YtappakllopkfiaaZBA
import Derived.Test.YtappakllopkfiaaZBB
import Derived.Deep.RegionHeld3
namespace Go.Proofs.Ytappakllopkfiaa
open Go.RowKit
set_option linter.unusedVariables false
attribute [local go_sem ↓] Go.wp_at_zero Go.wp_at_succ
attribute [local go_sem] ldO
/-- Unfolding by the first j definitions, the last of them first. -/
def unfD (ks : List Tr) : Nat → Tr → Tr × Bool
  | 0, t => (t, true)
  | j + 1, t => if valid sigT (sbsT (ks.getD (j * 2 + 1) dflt0) t 0 0) = true then unfD ks j (sbsT (ks.getD (j * 2 + 1) dflt0) t 0 0) else (dflt0, false)
/-- UnfoldTerm's answer. -/
def unfV (ks : List Tr) (n : Nat) (t : Tr) : Tr × Bool := if (dfV ks n && (valid sigT t && decide (mxf t 0 ≤ (n : Int)))) = true then unfD ks n t else (dflt0, false)
set_option maxRecDepth 100000 in
set_option maxHeartbeats 2000000 in
theorem unfold_any (ks : List Tr) (n cap : Nat) (w : World) (A : Option Addr) (t : Tr) (v : Value) (h : LiesK w A ks) (hn : ks.length = n * 2) (hl : n ≤ cap) (hc : cap ≤ maxLen) (hks : ∀ t ∈ ks, valid sigT t = true) (hin : Lies w t v) (hv : valid sigT t = true) :
    Calls Try.prog 116 #[.slice A n cap, v] w fun e w' => ∃ u, e = .returned (.tuple #[u, .bool (unfD ks n t).2]) ∧ Made w w' 44 (unfD ks n t).1 u ∧ Ext w w' := by
  have hcc := hc
  unfold maxLen at hcc
  obtain ⟨rt, hrt⟩ : ∃ rt, rt = (unfD ks n t).1 := ⟨_, rfl⟩
  obtain ⟨rb, hrb⟩ : ∃ rb, rb = (unfD ks n t).2 := ⟨_, rfl⟩
  have hr : unfD ks n t = (rt, rb) := by rw [hrt, hrb]
  rw [← hrt, ← hrb]
  clear hrt hrb
  have HR := Lib.hid hr
  have HKV := Lib.hid hks
  obtain ⟨k, m, ts⟩ := t
  obtain ⟨At, ct, rfl, hlt, hct, hKt⟩ := Lies.mk_iff.1 hin
  have hE := ((Ext.refl w).alloc (.cells #[.int .i64 k, .int .i64 m, .slice At ts.length ct] 44)).alloc (.cells #[.int .i64 0, .int .i64 0, .slice none 0 0] 44)
  obtain ⟨hbT, hbR, hs1⟩ := blk2 (Ext.refl ((w.alloc (.cells #[.int .i64 k, .int .i64 m, .slice At ts.length ct] 44)).alloc (.cells #[.int .i64 0, .int .i64 0, .slice none 0 0] 44)))
  clear hr hks
  go_enter Try.func116, Try.ntmps116
  go_wp2_with fail
  generalize World.alloc _ _ = w1 at hE hbT hbR hs1
  go_loopw [6] (fun i wr => ∃ (j : Nat) (k1 m1 : Int) (ts1 : List Tr) (A1 : Option Addr) (c1 : Nat), j ≤ n ∧ i = .int .i64 ((j : Int) - 1) ∧ wr.heap[w.heap.size]? = some (.cells #[.int .i64 k1, .int .i64 m1, .slice A1 ts1.length c1] 44 (0, 0)) ∧ wr.heap[w.heap.size + 1]? = some (.cells #[.int .i64 0, .int .i64 0, .slice none 0 0] 44 (0, 0)) ∧ Lies wr (.mk k1 m1 ts1) (.agg #[.int .i64 k1, .int .i64 m1, .slice A1 ts1.length c1]) ∧ valid sigT (.mk k1 m1 ts1) = true ∧ unfD ks j (.mk k1 m1 ts1) = (rt, rb) ∧ Ext w wr) (fun i _ => (intOf i + 1).toNat)
  case atStart => exact ⟨n, k, m, ts, At, ct, Nat.le_refl _, rfl, hbT, hbR, hin.ext hE, hv, HR.out, hE⟩
  case round =>
    obtain ⟨j, k1, m1, ts1, A1, c1, hj, rfl, hb, hb2, hin1, hv1, heq, hx⟩ := hrel
    have HV1 := Lib.hid hv1
    have HE := Lib.hid heq
    obtain ⟨x0, x1, x2, -, -, -⟩ := own3 hb
    clear hv1 heq
    have hbl := lt_of_blk hb2
    rcases j with _ | j
    · have HE0 := HE.out
      simp only [unfD, Prod.mk.injEq] at HE0
      obtain ⟨q1, q2⟩ := HE0
      have HO := Lib.hid (fun W (hW : Ext wr W) => own_any _ W _ (hin1.ext hW) (by have := (valid_parts HV1.out).2; omega))
      rw [q1] at HO
      have HQ2 := Lib.hid q2
      clear q1 q2 HE
      obtain ⟨s0, s1, s2, f0, f1, f2⟩ := own3 hb2
      have hz : ((0 : Nat) : Int) - 1 = -1 := by omega
      go_wp2_with fail
      refine (HO.out _ (Ext.refl _)).mono ?_
      rintro e w2 ⟨u, rfl, hM, e2⟩
      obtain ⟨a1, a2, a3, a4, a5, rfl⟩ := hM.three'
      obtain ⟨q0, q1, q2, g0, g1, g2⟩ := own3 (e2.blk hb2)
      clear s0 s1 s2 f0 f1 f2 x0 x1 x2
      go_wp2_with fail
      refine bodyPost_ret (v := .tuple #[.agg #[.int .i64 a1, .int .i64 a2, .slice a3 a4 a5], .bool true]) (by simp [results, Try.results116, go_sem, q0, q1, q2]) rfl ⟨.agg #[.int .i64 a1, .int .i64 a2, .slice a3 a4 a5], by rw [← HQ2.out], ?_, ?_⟩
      · exact Made.since (hM.after ((((Above.refl _ _).setCell (by show w.heap.size + 1 < _; omega) _).setCell (by show w.heap.size + 1 < _; omega) _).setCell (by show w.heap.size + 1 < _; omega) _)) (by have := hx.size; omega)
      · exact ((((hx.trans e2).setCell (by simp) _).setCell (by simp) _).setCell (by simp) _)
    · obtain ⟨b, o, k3, n3, A3, p3, kids3, k2, n2, A2, p2, kids2, rfl, hbw, HK1, HK2, ⟨c0, c1', c2, c3, c4, c5⟩, -, ⟨l2, m2, hK2, hin2, hmem2⟩⟩ := h.getD (j := j) hx (by omega)
      have hg : ks.getD (j * 2 + 1) dflt0 = .mk k2 n2 kids2 := by
        rw [List.getD_eq_getElem?_getD, List.getElem?_eq_getElem (by omega), HK2.out]; rfl
      have hst : (if valid sigT (sbsT (.mk k2 n2 kids2) (.mk k1 m1 ts1) 0 0) = true then unfD ks j (sbsT (.mk k2 n2 kids2) (.mk k1 m1 ts1) 0 0) else (dflt0, false)) = (rt, rb) := by
        rw [← HE.out]; conv => rhs; unfold unfD
        rw [hg]
      have HSB := Lib.hid (fun W (hW : Ext wr W) => subst_any (.mk k1 m1 ts1) 0 (.mk k2 n2 kids2) W _ _ (hin1.ext hW) HV1.out (hin2.ext hW) (HKV.out _ hmem2) (by omega) (by omega))
      have hjn : ((j + 1 : Nat) : Int) - 1 = (j : Int) := by omega
      have hj' : (j : Int) < (n : Int) := by omega
      have HST := Lib.hid hst
      clear hg hst HE
      rw [hjn]
      go_wp2_with fail
      have HS := Lib.hid (show ∀ w', Ext wr w' → w'.cell? ⟨w.heap.size, 0, none⟩ = some (.int .i64 k1) ∧ w'.cell? ⟨w.heap.size, 1, none⟩ = some (.int .i64 m1) ∧ w'.cell? ⟨w.heap.size, 2, none⟩ = some (.slice A1 ts1.length c1) ∧ w'.cell? ⟨b, o + j * 6 + 3, none⟩ = some (.int .i64 k2) ∧ w'.cell? ⟨b, o + j * 6 + 4, none⟩ = some (.int .i64 n2) ∧ w'.cell? ⟨b, o + j * 6 + 5, none⟩ = some (.slice A2 kids2.length p2) from fun w' hw' => ⟨hw'.cell x0, hw'.cell x1, hw'.cell x2, hw'.cell c3, hw'.cell c4, hw'.cell c5⟩)
      have hEd : Ext wr (wr.alloc (.cells #[.int .i64 0, .int .i64 0, .slice none 0 0] 44)).drew := ((Ext.refl wr).alloc _).drew
      have hb7 := heap_alloc_new wr (.cells #[.int .i64 0, .int .i64 0, .slice none 0 0] 44)
      have hb7' : (wr.alloc (.cells #[.int .i64 0, .int .i64 0, .slice none 0 0] 44)).drew.heap[wr.heap.size]? = some (.cells #[.int .i64 0, .int .i64 0, .slice none 0 0] 44 (0, 0)) := hb7
      have HB7 := Lib.hid hb7'
      have hEb : Ext wr wr.drew := (Ext.refl wr).drew
      clear hK2 hin2 hmem2 hb7 hb7'
      go_region_held3 (fun w' => w'.cell? ⟨w.heap.size, 0, none⟩ = some (.int .i64 k1) ∧ w'.cell? ⟨w.heap.size, 1, none⟩ = some (.int .i64 m1) ∧ w'.cell? ⟨w.heap.size, 2, none⟩ = some (.slice A1 ts1.length c1) ∧ w'.cell? ⟨b, o + j * 6 + 3, none⟩ = some (.int .i64 k2) ∧ w'.cell? ⟨b, o + j * 6 + 4, none⟩ = some (.int .i64 n2) ∧ w'.cell? ⟨b, o + j * 6 + 5, none⟩ = some (.slice A2 kids2.length p2))
        (first | exact HS.out _ ((((hEd.trans h4).setCell (by simp) _).setCell (by simp) _).setCell (by simp) _) | exact HS.out _ (hEd.trans h4) | exact HS.out _ hEd | exact HS.out _ (hEb.trans h4b) | exact HS.out _ ((hEb.trans h4b).alloc _) | exact HS.out _ hEb)
        (first | (go_at_call 169; refine (HSB.out _ hEd).mono ?_; rintro e w4 ⟨u, rfl, hM, h4⟩; obtain ⟨a1, a2, a3, a4, a5, rfl⟩ := hM.three'; have hb8 := h4.blk HB7.out; obtain ⟨s0, s1, s2, f0, f1, f2⟩ := own3 hb8) | (go_at_call 169; refine (HSB.out _ hEb).mono ?_; rintro e w4 ⟨u, rfl, hM, h4b⟩; obtain ⟨a1, a2, a3, a4, a5, rfl⟩ := hM.three'))
      · have hE5 : Ext wr (w4.alloc (.cells #[.int .i64 a1, .int .i64 a2, .slice a3 a4 a5] 44)) := (hEb.trans h4b).alloc _
        have g5 := heap_alloc_new w4 (.cells #[.int .i64 a1, .int .i64 a2, .slice a3 a4 a5] 44)
        have hMe := hM.ext ((Ext.refl w4).alloc (.cells #[.int .i64 a1, .int .i64 a2, .slice a3 a4 a5] 44))
        have hs4 := h4b.size
        generalize World.alloc _ _ = we at hE5 g5 hMe
        generalize w4.heap.size = g at g5
        have hbT5 := hE5.blk hb
        have hbR5 := hE5.blk hb2
        obtain ⟨q0, q1, q2, -, -, -⟩ := own3 g5
        obtain ⟨t0, t1, t2, p0, p1, p2⟩ := own3 hbT5
        obtain ⟨s0, s1, s2, f0, f1, f2⟩ := own3 hbR5
        obtain ⟨vb, hvb⟩ : ∃ vb, vb = valid sigT (sbsT (.mk k2 n2 kids2) (.mk k1 m1 ts1) 0 0) := ⟨_, rfl⟩
        have hst := HST.out
        have hL := hMe.since (a := wr) (by show wr.heap.size ≤ _; simp)
        unfold okT at hL
        rw [← hvb] at hst hL ⊢
        have hvb' := Lib.hid hvb
        have hgl := lt_of_blk g5
        clear hvb HSB HS HB7
        cases vb with
        | false =>
          simp only [Bool.false_eq_true, if_false, Prod.mk.injEq] at hst
          obtain ⟨z1, z2⟩ := hst
          have Z1 := Lib.hid z1
          have Z2 := Lib.hid z2
          clear z1 z2
          go_wp2_with fail
          refine bodyPost_ret (v := .tuple #[.agg #[.int .i64 0, .int .i64 0, .slice none 0 0], .bool false]) (by simp [results, Try.results116, go_sem, s0, s1, s2]) rfl ⟨.agg #[.int .i64 0, .int .i64 0, .slice none 0 0], by rw [← Z2.out], by rw [← Z1.out]; exact Made.leaf _ _ _ _ _, ?_⟩
          exact ((((hx.trans hE5).setCell (by simp) _).setCell (by simp) _).setCell (by simp) _)
        | true =>
          simp only [if_true] at hst hL
          have Z := Lib.hid hst
          obtain ⟨r, hr⟩ : ∃ r, r = sbsT (.mk k2 n2 kids2) (.mk k1 m1 ts1) 0 0 := ⟨_, rfl⟩
          rw [← hr] at Z hL hvb'
          clear hst hr hMe hM
          obtain ⟨rk, rm, rts⟩ := r
          obtain ⟨A5, c5, e5, hl5, hc5, hK5⟩ := Made.mk_iff.1 hL
          simp only [Value.agg.injEq, Array.mk.injEq, List.cons.injEq, Value.int.injEq, Value.slice.injEq, and_true, true_and] at e5
          obtain ⟨rfl, rfl, rfl, rfl, rfl⟩ := e5
          have hLz := fun u0 u1 u2 => (hL.after ((((Above.refl _ _).setCell (p := ⟨w.heap.size, 0, none⟩) (by show w.heap.size < _; omega) u0).setCell (p := ⟨w.heap.size, 1, none⟩) (by show w.heap.size < _; omega) u1).setCell (p := ⟨w.heap.size, 2, none⟩) (by show w.heap.size < _; omega) u2)).lies
          have hbT6 := fun u0 u1 u2 => blk_setCell (blk_setCell (blk_setCell hbT5 0 u0) 1 u1) 2 u2
          go_wp2_with fail
          go_roundw
          case rel => exact ⟨j, _, _, rts, _, _, by omega, rfl, hbT6 _ _ _, by rw [Below.heap_setCell _ _ _ _ (by simp), Below.heap_setCell _ _ _ _ (by simp), Below.heap_setCell _ _ _ _ (by simp)]; exact hbR5, hLz _ _ _, hvb'.out.symm, Z.out, (((hx.trans hE5).setCell (by simp) _).setCell (by simp) _).setCell (by simp) _⟩
          case measure => simp [intOf]
      · have hE5 : Ext wr (((w4.setCell ⟨wr.heap.size, 0, none⟩ (.int .i64 a1)).setCell ⟨wr.heap.size, 1, none⟩ (.int .i64 a2)).setCell ⟨wr.heap.size, 2, none⟩ (.slice a3 a4 a5)) := (((hEd.trans h4).setCell (by simp) _).setCell (by simp) _).setCell (by simp) _
        have g5 := blk_setCell (blk_setCell (blk_setCell (h4.blk HB7.out) 0 (.int .i64 a1)) 1 (.int .i64 a2)) 2 (.slice a3 a4 a5)
        have hMe := hM.after (((((Above.refl _ _).setCell (p := ⟨wr.heap.size, 0, none⟩) (by show wr.heap.size < (World.alloc _ _).heap.size; simp) (.int .i64 a1))).setCell (p := ⟨wr.heap.size, 1, none⟩) (by show wr.heap.size < (World.alloc _ _).heap.size; simp) (.int .i64 a2)).setCell (p := ⟨wr.heap.size, 2, none⟩) (by show wr.heap.size < (World.alloc _ _).heap.size; simp) (.slice a3 a4 a5))
        clear s0 s1 s2 f0 f1 f2 hb8
        generalize World.setCell _ _ _ = we at hE5 g5 hMe
        generalize wr.heap.size = g at g5
        have hbT5 := hE5.blk hb
        have hbR5 := hE5.blk hb2
        obtain ⟨q0, q1, q2, -, -, -⟩ := own3 g5
        obtain ⟨t0, t1, t2, p0, p1, p2⟩ := own3 hbT5
        obtain ⟨s0, s1, s2, f0, f1, f2⟩ := own3 hbR5
        obtain ⟨vb, hvb⟩ : ∃ vb, vb = valid sigT (sbsT (.mk k2 n2 kids2) (.mk k1 m1 ts1) 0 0) := ⟨_, rfl⟩
        have hst := HST.out
        have hL := hMe.since (a := wr) (by show wr.heap.size ≤ _; simp)
        unfold okT at hL
        rw [← hvb] at hst hL ⊢
        have hvb' := Lib.hid hvb
        have hgl := lt_of_blk g5
        clear hvb HSB HS HB7
        cases vb with
        | false =>
          simp only [Bool.false_eq_true, if_false, Prod.mk.injEq] at hst
          obtain ⟨z1, z2⟩ := hst
          have Z1 := Lib.hid z1
          have Z2 := Lib.hid z2
          clear z1 z2
          go_wp2_with fail
          refine bodyPost_ret (v := .tuple #[.agg #[.int .i64 0, .int .i64 0, .slice none 0 0], .bool false]) (by simp [results, Try.results116, go_sem, s0, s1, s2]) rfl ⟨.agg #[.int .i64 0, .int .i64 0, .slice none 0 0], by rw [← Z2.out], by rw [← Z1.out]; exact Made.leaf _ _ _ _ _, ?_⟩
          exact ((((hx.trans hE5).setCell (by simp) _).setCell (by simp) _).setCell (by simp) _)
        | true =>
          simp only [if_true] at hst hL
          have Z := Lib.hid hst
          obtain ⟨r, hr⟩ : ∃ r, r = sbsT (.mk k2 n2 kids2) (.mk k1 m1 ts1) 0 0 := ⟨_, rfl⟩
          rw [← hr] at Z hL hvb'
          clear hst hr hMe hM
          obtain ⟨rk, rm, rts⟩ := r
          obtain ⟨A5, c5, e5, hl5, hc5, hK5⟩ := Made.mk_iff.1 hL
          simp only [Value.agg.injEq, Array.mk.injEq, List.cons.injEq, Value.int.injEq, Value.slice.injEq, and_true, true_and] at e5
          obtain ⟨rfl, rfl, rfl, rfl, rfl⟩ := e5
          have hLz := fun u0 u1 u2 => (hL.after ((((Above.refl _ _).setCell (p := ⟨w.heap.size, 0, none⟩) (by show w.heap.size < _; omega) u0).setCell (p := ⟨w.heap.size, 1, none⟩) (by show w.heap.size < _; omega) u1).setCell (p := ⟨w.heap.size, 2, none⟩) (by show w.heap.size < _; omega) u2)).lies
          have hbT6 := fun u0 u1 u2 => blk_setCell (blk_setCell (blk_setCell hbT5 0 u0) 1 u1) 2 u2
          go_wp2_with fail
          go_roundw
          case rel => exact ⟨j, _, _, rts, _, _, by omega, rfl, hbT6 _ _ _, by rw [Below.heap_setCell _ _ _ _ (by simp), Below.heap_setCell _ _ _ _ (by simp), Below.heap_setCell _ _ _ _ (by simp)]; exact hbR5, hLz _ _ _, hvb'.out.symm, Z.out, (((hx.trans hE5).setCell (by simp) _).setCell (by simp) _).setCell (by simp) _⟩
          case measure => simp [intOf]
end Go.Proofs.Ytappakllopkfiaa

/-
  spec.RunCode.
-/
import Derived.Test.YtappakllopkfiaaStepS
import Derived.Test.YtappakllopkfiaaRunI
namespace Go.Proofs.Ytappakllopkfiaa
open Go.RowKit
set_option linter.unusedVariables false
attribute [local go_sem ↓] Go.wp_at_zero Go.wp_at_succ

set_option maxRecDepth 100000 in
set_option maxHeartbeats 4000000 in
theorem specRunCode_any (t : Tr) (f : Int) (w : World) (v : Value) (hin : Lies w t v) :
    Calls Try.prog 15 #[v, .int .i64 f] w fun e w' => ∃ u, e = .returned (.tuple #[u, .int .i64 (runV t f).2]) ∧ Lies w' (runV t f).1 u ∧ Ext w w' := by
  have H1 := Lib.hid (fun W (hW : Ext w W) => specValidCode t W v (hin.ext hW))
  obtain ⟨vb, hvb⟩ : ∃ b, valid sigC t = b := ⟨_, rfl⟩
  rw [hvb] at H1
  obtain ⟨k, n, ks⟩ := t
  have hin0 := hin
  obtain ⟨A, cap, rfl, hl, hc, hK⟩ := Lies.mk_iff.1 hin
  have hx := ((Ext.refl w).alloc (.cells #[.int .i64 k, .int .i64 n, .slice A ks.length cap] 28)).alloc (.cells #[.int .i64 0, .int .i64 0, .slice none 0 0] 28)
  obtain ⟨hb1, hb2, hsz⟩ := blk2 (Ext.refl ((w.alloc (.cells #[.int .i64 k, .int .i64 n, .slice A ks.length cap] 28)).alloc (.cells #[.int .i64 0, .int .i64 0, .slice none 0 0] 28)))
  have bad : (runV (.mk k n ks) f = (dflt, 4)) → ∀ W : World, Ext w W → ∃ u, Ending.returned (.tuple #[.agg #[.int .i64 0, .int .i64 0, .slice none 0 0], .int .i64 4]) = .returned (.tuple #[u, .int .i64 (runV (.mk k n ks) f).2]) ∧ Lies W (runV (.mk k n ks) f).1 u ∧ Ext w W := fun h W hW => by
    rw [h]
    exact ⟨_, rfl, Lies.leaf _ 0 0, hW⟩
  have BAD := Lib.hid bad
  clear bad
  cases vb with
  | false =>
    have hr : runV (.mk k n ks) f = (dflt, 4) := runV_bad (by rw [hvb]; rfl)
    have HR := Lib.hid hr
    clear hr hvb
    go_enter Try.func15, Try.ntmps15
    go_wp2_with fail
    generalize World.alloc (World.alloc w _) _ = w1 at hx hb1 hb2 hsz ⊢
    refine (H1.out _ hx).mono ?_
    rintro e w2 ⟨rfl, q1⟩
    have hE := hx.trans q1
    obtain ⟨s0, s1, s2, f0, f1, f2⟩ := own3 (q1.blk hb2)
    clear hb1 hb2
    go_wp2_with fail
    refine bodyPost_ret (v := .tuple #[.agg #[.int .i64 0, .int .i64 0, .slice none 0 0], .int .i64 4]) (by simp [results, Try.results15, go_sem, s0, s1, s2]) rfl (BAD.out HR.out _ ?_)
    first | exact ((hE.setCell (by simp) _).setCell (by simp) _).setCell (by simp) _ | exact hE
  | true =>
    have hct := (valid_parts hvb).2
    have H2 := Lib.hid (fun W (hW : Ext w W) => l12Closed_any (.mk k n ks) W _ 0 (hin0.ext hW) (by omega) (by omega))
    obtain ⟨ob, hob⟩ : ∃ b, opnC (.mk k n ks) 0 = b := ⟨_, rfl⟩
    rw [hob] at H2
    have H3 := Lib.hid (fun W (hW : Ext w W) => l12Copy_any (.mk k n ks) W _ (hin0.ext hW) (by omega))
    have q0 := own3 hb1
    cases ob with
    | true =>
      simp only [Bool.not_true] at H2
      have hr : runV (.mk k n ks) f = (dflt, 4) := runV_bad (by rw [hvb, hob]; rfl)
      have HR := Lib.hid hr
      clear hr hvb hob q0
      go_enter Try.func15, Try.ntmps15
      go_wp2_with fail
      generalize World.alloc (World.alloc w _) _ = w1 at hx hb1 hb2 hsz ⊢
      refine (H1.out _ hx).mono ?_
      rintro e w2 ⟨rfl, q1⟩
      obtain ⟨x0, x1, x2, -, -, -⟩ := own3 (q1.blk hb1)
      go_wp2_with fail
      refine (H2.out _ (hx.trans q1)).mono ?_
      rintro e w3 ⟨rfl, q2⟩
      have hE := hx.trans (q1.trans q2)
      obtain ⟨s0, s1, s2, f0, f1, f2⟩ := own3 ((q1.trans q2).blk hb2)
      clear hb1 hb2
      go_wp2_with fail
      refine bodyPost_ret (v := .tuple #[.agg #[.int .i64 0, .int .i64 0, .slice none 0 0], .int .i64 4]) (by simp [results, Try.results15, go_sem, s0, s1, s2]) rfl (BAD.out HR.out _ ?_)
      first | exact ((hE.setCell (by simp) _).setCell (by simp) _).setCell (by simp) _ | exact hE
    | false =>
      simp only [Bool.not_false] at H2
      obtain ⟨db, hdb⟩ : ∃ b, inR f 0 200 = b := ⟨_, rfl⟩
      cases db with
      | false =>
        have hr : runV (.mk k n ks) f = (dflt, 4) := runV_bad (by rw [hvb, hob, hdb]; rfl)
        have HR := Lib.hid hr
        clear hr hvb hob q0
        rcases inR_false.1 hdb with hlo | hhi
        · have dd1 : decide (f < 0) = true := decide_eq_true hlo
          go_enter Try.func15, Try.ntmps15
          go_wp2_with fail
          generalize World.alloc (World.alloc w _) _ = w1 at hx hb1 hb2 hsz ⊢
          refine (H1.out _ hx).mono ?_
          rintro e w2 ⟨rfl, q1⟩
          obtain ⟨x0, x1, x2, -, -, -⟩ := own3 (q1.blk hb1)
          go_wp2_with fail
          refine (H2.out _ (hx.trans q1)).mono ?_
          rintro e w3 ⟨rfl, q2⟩
          have hE := hx.trans (q1.trans q2)
          obtain ⟨s0, s1, s2, f0, f1, f2⟩ := own3 ((q1.trans q2).blk hb2)
          clear hb1 hb2
          go_wp2_with fail
          refine bodyPost_ret (v := .tuple #[.agg #[.int .i64 0, .int .i64 0, .slice none 0 0], .int .i64 4]) (by simp [results, Try.results15, go_sem, s0, s1, s2]) rfl (BAD.out HR.out _ ?_)
          first | exact ((hE.setCell (by simp) _).setCell (by simp) _).setCell (by simp) _ | exact hE
        · have dd1 : decide (f < 0) = false := decide_eq_false (by omega)
          have dd2 : decide (200 < f) = true := decide_eq_true hhi
          go_enter Try.func15, Try.ntmps15
          go_wp2_with fail
          generalize World.alloc (World.alloc w _) _ = w1 at hx hb1 hb2 hsz ⊢
          refine (H1.out _ hx).mono ?_
          rintro e w2 ⟨rfl, q1⟩
          obtain ⟨x0, x1, x2, -, -, -⟩ := own3 (q1.blk hb1)
          go_wp2_with fail
          refine (H2.out _ (hx.trans q1)).mono ?_
          rintro e w3 ⟨rfl, q2⟩
          have hE := hx.trans (q1.trans q2)
          obtain ⟨s0, s1, s2, f0, f1, f2⟩ := own3 ((q1.trans q2).blk hb2)
          clear hb1 hb2
          go_wp2_with fail
          refine bodyPost_ret (v := .tuple #[.agg #[.int .i64 0, .int .i64 0, .slice none 0 0], .int .i64 4]) (by simp [results, Try.results15, go_sem, s0, s1, s2]) rfl (BAD.out HR.out _ ?_)
          first | exact ((hE.setCell (by simp) _).setCell (by simp) _).setCell (by simp) _ | exact hE
      | true =>
        obtain ⟨fn, rfl, hfn⟩ : ∃ m : Nat, f = (m : Int) ∧ m ≤ 200 := by
          have h9 := inR_iff.1 hdb
          exact ⟨f.toNat, by omega, by omega⟩
        have hr : runV (.mk k n ks) (fn : Int) = runC fn (.mk k n ks) := runV_good hvb hob hfn
        rw [hr]
        obtain ⟨R, hR⟩ : ∃ R, R = runC fn (.mk k n ks) := ⟨_, rfl⟩
        rw [← hR]
        clear hr hob q0 BAD
        go_enter Try.func15, Try.ntmps15
        go_wp2_with fail
        generalize World.alloc (World.alloc w _) _ = w1 at hx hb1 hb2 hsz ⊢
        refine (H1.out _ hx).mono ?_
        rintro e w2 ⟨rfl, q1⟩
        obtain ⟨x0, x1, x2, -, -, -⟩ := own3 (q1.blk hb1)
        go_wp2_with fail
        refine (H2.out _ (hx.trans q1)).mono ?_
        rintro e w3 ⟨rfl, q2⟩
        have hE := hx.trans (q1.trans q2)
        replace hb1 := (q1.trans q2).blk hb1
        replace hb2 := (q1.trans q2).blk hb2
        clear x0 x1 x2 H1 H2
        obtain ⟨x0, x1, x2, -, -, -⟩ := own3 hb1
        have dd1 : decide ((fn : Int) < 0) = false := decide_eq_false (by omega)
        have dd2 : decide (200 < (fn : Int)) = false := decide_eq_false (by omega)
        go_wp2_with fail
        refine (H3.out _ hE).mono ?_
        rintro e w4 ⟨u, rfl, hMc, q3⟩
        obtain ⟨Ac, capc, rfl, -, -, -⟩ := Made.mk_iff.1 hMc
        have hw3 : w.heap.size + 1 < w3.heap.size := lt_of_blk hb2
        replace hE := hE.trans q3
        replace hb1 := q3.blk hb1
        replace hb2 := q3.blk hb2
        clear x0 x1 x2 H3 dd1 dd2
        obtain ⟨x0, x1, x2, k0, k1, k2⟩ := own3 hb1
        have hw4 : w.heap.size + 1 < w4.heap.size := lt_of_blk hb2
        have hTc : InT w4 (fun b => w.heap.size + 2 ≤ b ∧ b < w4.heap.size) (.mk k n ks) (.agg #[.int .i64 k, .int .i64 n, .slice Ac ks.length capc]) := InT.mono (fun b hb => ⟨by have h9 : w3.heap.size ≤ b := hb.1; omega, hb.2⟩) (fun _ _ => rfl) hMc.inT
        go_wp2_with fail
        obtain ⟨wL, hwL⟩ : ∃ x, x = ((w4.setCell ⟨w.heap.size, 0, none⟩ (.int .i64 k)).setCell ⟨w.heap.size, 1, none⟩ (.int .i64 n)).setCell ⟨w.heap.size, 2, none⟩ (.slice Ac ks.length capc) := ⟨_, rfl⟩
        rw [← hwL]
        replace hE : Ext w wL := by rw [hwL]; exact ((hE.setCell (Nat.le_refl _) _).setCell (Nat.le_refl _) _).setCell (Nat.le_refl _) _
        replace hb1 : wL.heap[w.heap.size]? = some (.cells #[.int .i64 k, .int .i64 n, .slice Ac ks.length capc] 28 (0, 0)) := by rw [hwL]; exact blk_setCell (blk_setCell (blk_setCell hb1 0 _) 1 _) 2 _
        replace hb2 : wL.heap[w.heap.size + 1]? = some (.cells #[.int .i64 0, .int .i64 0, .slice none 0 0] 28 (0, 0)) := by rw [hwL]; exact blk_setCell_ne (blk_setCell_ne (blk_setCell_ne hb2 (by show w.heap.size + 1 ≠ w.heap.size; omega) _) (by show w.heap.size + 1 ≠ w.heap.size; omega) _) (by show w.heap.size + 1 ≠ w.heap.size; omega) _
        have hTL : InT wL (fun b => b < w.heap.size ∨ w.heap.size + 2 ≤ b) (.mk k n ks) (.agg #[.int .i64 k, .int .i64 n, .slice Ac ks.length capc]) := by
          rw [hwL]
          exact InT.mono (fun b hb => .inr hb.1) (fun b hb => by
            have hne : b ≠ w.heap.size := by have := hb.1; omega
            rw [Below.heap_setCell _ _ _ _ hne, Below.heap_setCell _ _ _ _ hne, Below.heap_setCell _ _ _ _ hne]) hTc
        clear hwL hTc x0 x1 x2 k0 k1 k2 hw3 hw4
        have hRel : ∃ (m : Nat) (k' n' : Int) (ks' : List Tr) (A' : Option Addr) (c' : Nat), m ≤ 200 ∧ Value.int .i64 (fn : Int) = .int .i64 (m : Int) ∧ wL.heap[w.heap.size]? = some (.cells #[.int .i64 k', .int .i64 n', .slice A' ks'.length c'] 28 (0, 0)) ∧ wL.heap[w.heap.size + 1]? = some (.cells #[.int .i64 0, .int .i64 0, .slice none 0 0] 28 (0, 0)) ∧ InT wL (fun b => b < w.heap.size ∨ w.heap.size + 2 ≤ b) (.mk k' n' ks') (.agg #[.int .i64 k', .int .i64 n', .slice A' ks'.length c']) ∧ valid sigC (.mk k' n' ks') = true ∧ R = runC m (.mk k' n' ks') ∧ Ext w wL :=
          ⟨fn, k, n, ks, Ac, capc, hfn, rfl, hb1, hb2, hTL, hvb, hR, hE⟩
        clear hb1 hb2 hE hin0 hin hx hsz q1 q2 q3 hK hl hc hR hvb hfn hdb hct hMc
        have HREL := Lib.hid hRel
        clear hRel
        go_loopw [1] (fun i wr => ∃ (m : Nat) (k' n' : Int) (ks' : List Tr) (A' : Option Addr) (c' : Nat), m ≤ 200 ∧ i = .int .i64 (m : Int) ∧ wr.heap[w.heap.size]? = some (.cells #[.int .i64 k', .int .i64 n', .slice A' ks'.length c'] 28 (0, 0)) ∧ wr.heap[w.heap.size + 1]? = some (.cells #[.int .i64 0, .int .i64 0, .slice none 0 0] 28 (0, 0)) ∧ InT wr (fun b => b < w.heap.size ∨ w.heap.size + 2 ≤ b) (.mk k' n' ks') (.agg #[.int .i64 k', .int .i64 n', .slice A' ks'.length c']) ∧ valid sigC (.mk k' n' ks') = true ∧ R = runC m (.mk k' n' ks') ∧ Ext w wr) (fun i _ => (intOf i).toNat)
        case atStart => exact HREL.out
        case round =>
          obtain ⟨m, k', n', ks', A', c', hm, rfl, hb1, hb2, hIT, hvd, hR, hE⟩ := hrel
          clear HREL
          have hct := (valid_parts hvd).2
          have hsh := (valid_parts hvd).1
          have hs1 : w.heap.size + 1 < wr.heap.size := lt_of_blk hb2
          have hL : Lies wr (.mk k' n' ks') (.agg #[.int .i64 k', .int .i64 n', .slice A' ks'.length c']) := InT.mono (S' := fun b => b < wr.heap.size) (fun b hb => hb.2) (fun _ _ => rfl) hIT.bound
          have HV := Lib.hid (fun W (hW : Ext wr W) => l12Value_any (.mk k' n' ks') 30 W _ hsh (hL.ext hW))
          obtain ⟨iv, hiv⟩ : ∃ b, isV (.mk k' n' ks') = b := ⟨_, rfl⟩
          rw [hiv] at HV
          obtain ⟨x0, x1, x2, -, -, -⟩ := own3 hb1
          go_wp2_with fail
          refine (HV.out _ (Ext.refl _)).mono ?_
          cases iv with
          | true =>
            rintro e w4 ⟨rfl, q4⟩
            have hRr := hR.trans (runC_val hiv)
            have HRR := Lib.hid hRr
            clear x0 x1 x2
            obtain ⟨x0, x1, x2, -, -, -⟩ := own3 (q4.blk hb1)
            obtain ⟨s0, s1, s2, f0, f1, f2⟩ := own3 (q4.blk hb2)
            clear hR hRr hiv HV
            go_wp2_with fail
            have hE5 := hE.trans q4
            have HIT := Lib.hid (hIT.later q4)
            refine bodyPost_ret (v := .tuple #[.agg #[.int .i64 k', .int .i64 n', .slice A' ks'.length c'], .int .i64 0]) (by simp [results, Try.results15, go_sem, s0, s1, s2]) rfl ?_
            rw [HRR.out]
            refine ⟨_, rfl, ?_, ((hE5.setCell (by simp) _).setCell (by simp) _).setCell (by simp) _⟩
            exact InT.mono (fun b hb => by simp only [World.size_setCell]; exact hb.2) (fun b hb => by
              have hne : b ≠ w.heap.size + 1 := by rcases hb.1 with h | h <;> omega
              rw [Below.heap_setCell _ _ _ _ hne, Below.heap_setCell _ _ _ _ hne, Below.heap_setCell _ _ _ _ hne]) HIT.out.bound
          | false =>
            rintro e w4 ⟨rfl, q4⟩
            clear x0 x1 x2
            obtain ⟨x0, x1, x2, -, -, -⟩ := own3 (q4.blk hb1)
            have HR := Lib.hid hR
            have HIV := Lib.hid hiv
            clear hR hiv HV
            go_wp2_with fail
            refine (l12Step_any (.mk k' n' ks') 30 _ _ hsh (by omega) HIV.out (hL.ext q4)).mono ?_
            rintro e w5 ⟨a1, a2, a3, a4, a5, rfl, hT5, q5⟩
            obtain ⟨so, hso⟩ : ∃ so, stp (.mk k' n' ks') = so := ⟨_, rfl⟩
            rw [hso] at hT5 ⊢
            have HSO := Lib.hid hso
            have hb15 := (q4.trans q5).blk hb1
            have hb25 := (q4.trans q5).blk hb2
            have hE5 := hE.trans (q4.trans q5)
            have hs45 : wr.heap.size ≤ w5.heap.size := (q4.trans q5).size
            have hw4 : wr.heap.size ≤ w4.heap.size := q4.size
            obtain ⟨w6, hw6⟩ : ∃ x, x = w5.alloc (.cells #[.int .i64 a1, .int .i64 a2, .slice a3 a4 a5] 28) := ⟨_, rfl⟩
            have e6 : Ext w5 w6 := hw6 ▸ (Ext.refl w5).alloc _
            have hb6 : w6.heap[w5.heap.size]? = some (.cells #[.int .i64 a1, .int .i64 a2, .slice a3 a4 a5] 28 (0, 0)) := hw6 ▸ heap_alloc_new w5 _
            have hE6 := hE5.trans e6
            obtain ⟨s0, s1, s2, f0, f1, f2⟩ := own3 (e6.blk hb25)
            obtain ⟨r0, r1, r2, p0, p1, p2⟩ := own3 hb25
            have hz5 : w.heap.size + 1 < w5.heap.size := lt_of_blk hb25
            clear hso x0 x1 x2
            cases so with
            | none =>
              have hRr := HR.out.trans (runC_stuck HIV.out HSO.out)
              have HRR := Lib.hid hRr
              clear hRr hb1 hb2 hb15 hb25 hb6 hw6 hT5
              go_wp2_with fail
              refine bodyPost_ret (v := .tuple #[.agg #[.int .i64 0, .int .i64 0, .slice none 0 0], .int .i64 3]) (by simp [results, Try.results15, go_sem, r0, r1, r2, World.cell?_alloc_lt, hz5]) rfl ?_
              rw [HRR.out]
              refine ⟨_, rfl, Lies.leaf _ 0 0, ?_⟩
              first | exact (((hE5.setCell (by simp) _).setCell (by simp) _).setCell (by simp) _).alloc _ | exact (((hE5.alloc _).setCell (by simp) _).setCell (by simp) _).setCell (by simp) _ | exact hE5.alloc _
            | some dd =>
              by_cases hm0 : m = 0
              · subst hm0
                have hRr := HR.out.trans (runC_fuel HIV.out HSO.out)
                have HRR := Lib.hid hRr
                clear hRr hb1 hb2 hb15 hb25 hb6 hw6 hT5
                go_wp2_with fail
                refine bodyPost_ret (v := .tuple #[.agg #[.int .i64 0, .int .i64 0, .slice none 0 0], .int .i64 1]) (by simp [results, Try.results15, go_sem, r0, r1, r2, World.cell?_alloc_lt, hz5]) rfl ?_
                rw [HRR.out]
                refine ⟨_, rfl, Lies.leaf _ 0 0, ?_⟩
                first | exact (((hE5.setCell (by simp) _).setCell (by simp) _).setCell (by simp) _).alloc _ | exact (((hE5.alloc _).setCell (by simp) _).setCell (by simp) _).setCell (by simp) _ | exact hE5.alloc _
              · obtain ⟨mm, rfl⟩ : ∃ mm, m = mm + 1 := ⟨m - 1, by omega⟩
                have hmz : decide (((mm + 1 : Nat) : Int) < 1) = false := decide_eq_false (by omega)
                have hmw := IntWalk.i64_in (((mm + 1 : Nat) : Int) - 1) ⟨by omega, by omega⟩
                have hT6 : InT w6 (fun b => b < w.heap.size ∨ w.heap.size + 2 ≤ b) dd (.agg #[.int .i64 a1, .int .i64 a2, .slice a3 a4 a5]) := InT.later (InT.mono (fun b hb => .inr (by have h9 : w4.heap.size ≤ b := hb.1; omega)) (fun _ _ => rfl) (hT5 dd rfl)) e6
                have hL6 : Lies w6 dd (.agg #[.int .i64 a1, .int .i64 a2, .slice a3 a4 a5]) := InT.mono (S' := fun b => b < w6.heap.size) (fun b hb => hb.2) (fun _ _ => rfl) hT6.bound
                go_wp2_with fail
                rw [← hw6]
                obtain ⟨g6, hg6⟩ : ∃ x, x = w5.heap.size := ⟨_, rfl⟩
                rw [← hg6] at hb6 ⊢
                refine (specValidCode dd _ _ hL6).mono ?_
                rintro e w7 ⟨rfl, q7⟩
                obtain ⟨vd, hvd'⟩ : ∃ b, valid sigC dd = b := ⟨_, rfl⟩
                rw [hvd']
                have hb17 := (e6.trans q7).blk hb15
                have hb27 := (e6.trans q7).blk hb25
                have hb67 := q7.blk hb6
                have hE7 := hE6.trans q7
                have hz7 : w.heap.size + 1 < w7.heap.size := lt_of_blk hb27
                have hg6s : w.heap.size + 1 < g6 := by omega
                clear hw6 hg6 hb1 hb2 hb15 hb25 hb6 s0 s1 s2 f0 f1 f2 r0 r1 r2 p0 p1 p2
                obtain ⟨s0, s1, s2, f0, f1, f2⟩ := own3 hb27
                cases vd with
                | false =>
                  have hRr := HR.out.trans (runC_large HIV.out HSO.out hvd')
                  have HRR := Lib.hid hRr
                  clear hRr hb17 hb27 hb67 hT5 hT6
                  go_wp2_with fail
                  refine bodyPost_ret (v := .tuple #[.agg #[.int .i64 0, .int .i64 0, .slice none 0 0], .int .i64 2]) (by simp [results, Try.results15, go_sem, s0, s1, s2]) rfl ?_
                  rw [HRR.out]
                  refine ⟨_, rfl, Lies.leaf _ 0 0, ?_⟩
                  first | exact ((hE7.setCell (by simp) _).setCell (by simp) _).setCell (by simp) _ | exact hE7
                | true =>
                  have hRr := HR.out.trans (runC_step HIV.out HSO.out hvd')
                  obtain ⟨dk, dn, dks⟩ := dd
                  have hT7 := InT.later hT6 q7
                  obtain ⟨Ad, cd, hv9, -, -, -⟩ := InT.mk_iff.1 hT7
                  simp only [Value.agg.injEq, Array.mk.injEq, List.cons.injEq, Value.int.injEq, Value.slice.injEq, true_and, and_true] at hv9
                  obtain ⟨rfl, rfl, rfl, rfl, rfl⟩ := hv9
                  obtain ⟨y0, y1, y2, -, -, -⟩ := own3 hb67
                  obtain ⟨t0, t1, t2, k0, k1, k2⟩ := own3 hb17
                  have HFIN := Lib.hid (show _ ∧ _ ∧ _ ∧ _ from ⟨hb17, hb27, hT7, hE7⟩)
                  have HRR := Lib.hid hRr
                  clear hRr hb17 hb27 hb67 hT5 hT6 hT7 s0 s1 s2 f0 f1 f2 hL6
                  go_wp2_with fail
                  go_roundw
                  case rel =>
                    obtain ⟨b17, b27, T7, E7⟩ := HFIN.out
                    refine ⟨mm, a1, a2, dks, a3, a5, by omega, by go_num, blk_setCell (blk_setCell (blk_setCell b17 0 _) 1 _) 2 _, ?_, ?_, hvd', HRR.out, ((E7.setCell (Nat.le_refl _) _).setCell (Nat.le_refl _) _).setCell (Nat.le_refl _) _⟩
                    · exact blk_setCell_ne (blk_setCell_ne (blk_setCell_ne b27 (by show w.heap.size + 1 ≠ w.heap.size; omega) _) (by show w.heap.size + 1 ≠ w.heap.size; omega) _) (by show w.heap.size + 1 ≠ w.heap.size; omega) _
                    · refine InT.mono (fun _ h => h) (fun b hb => ?_) T7
                      have hne : b ≠ w.heap.size := by rcases hb with h | h <;> omega
                      rw [Below.heap_setCell _ _ _ _ hne, Below.heap_setCell _ _ _ _ hne, Below.heap_setCell _ _ _ _ hne]
                  case measure => first | (simp [intOf]; done) | (simp [intOf]; omega)
end Go.Proofs.Ytappakllopkfiaa

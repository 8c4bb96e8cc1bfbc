/-
  impl.RunCode.
-/
import Derived.Test.YtappakllopkfiaaCStep
import Derived.Test.YtappakllopkfiaaRunP
import Derived.Test.YtappakllopkfiaaOwn
namespace Go.Proofs.Ytappakllopkfiaa
open Go.RowKit
set_option linter.unusedVariables false
attribute [local go_sem ↓] Go.wp_at_zero Go.wp_at_succ

theorem runV_bad {c : Tr} {f : Int} (h : (valid sigC c && (!opnC c 0 && inR f 0 200)) = false) : runV c f = (dflt, 4) := by
  unfold runV
  rw [Bool.and_assoc, h]
  rfl
theorem runV_good {c : Tr} {f : Nat} (h : valid sigC c = true) (h2 : opnC c 0 = false) (h3 : f ≤ 200) : runV c f = runC f c := by
  unfold runV
  have : inR (f : Int) 0 200 = true := by unfold inR; simp; omega
  rw [h, h2, this]
  simp
theorem runC_val {f : Nat} {c : Tr} (h : isV c = true) : runC f c = (c, 0) := runC_of_value f c h
theorem runC_stuck {f : Nat} {c : Tr} (h : isV c = false) (h2 : stp c = none) : runC f c = (dflt, 3) := by
  cases f <;> (unfold runC; simp [h, h2])
theorem runC_fuel {c d : Tr} (h : isV c = false) (h2 : stp c = some d) : runC 0 c = (dflt, 1) := by
  unfold runC; simp [h, h2]
theorem runC_large {f : Nat} {c d : Tr} (h : isV c = false) (h2 : stp c = some d) (h3 : valid sigC d = false) : runC (f + 1) c = (dflt, 2) := by
  unfold runC; simp [h, h2, h3]
theorem runC_step {f : Nat} {c d : Tr} (h : isV c = false) (h2 : stp c = some d) (h3 : valid sigC d = true) : runC (f + 1) c = runC f d := by
  conv => lhs; unfold runC
  simp [h, h2, h3]
set_option maxRecDepth 100000 in
set_option maxHeartbeats 4000000 in
theorem runCode_any (t : Tr) (f : Int) (w : World) (v : Value) (hin : Lies w t v) :
    Calls Try.prog 17 #[v, .int .i64 f] w fun e w' => ∃ u, e = .returned (.tuple #[u, .int .i64 (runV t f).2]) ∧ Made w w' 28 (runV t f).1 u ∧ Ext w w' := by
  have H1 := Lib.hid (fun W (hW : Ext w W) => validCode_any t W v (hin.ext hW))
  obtain ⟨vb, hvb⟩ : ∃ b, valid sigC t = b := ⟨_, rfl⟩
  rw [hvb] at H1
  obtain ⟨k, n, ks⟩ := t
  have hin0 := hin
  obtain ⟨A, cap, rfl, hl, hc, hK⟩ := Lies.mk_iff.1 hin
  have hx := ((Ext.refl w).alloc (.cells #[.int .i64 k, .int .i64 n, .slice A ks.length cap] 28)).alloc (.cells #[.int .i64 0, .int .i64 0, .slice none 0 0] 28)
  obtain ⟨hb1, hb2, hsz⟩ := blk2 (Ext.refl ((w.alloc (.cells #[.int .i64 k, .int .i64 n, .slice A ks.length cap] 28)).alloc (.cells #[.int .i64 0, .int .i64 0, .slice none 0 0] 28)))
  have bad : (runV (.mk k n ks) f = (dflt, 4)) → ∀ W : World, Ext w W → ∃ u, Ending.returned (.tuple #[.agg #[.int .i64 0, .int .i64 0, .slice none 0 0], .int .i64 4]) = .returned (.tuple #[u, .int .i64 (runV (.mk k n ks) f).2]) ∧ Made w W 28 (runV (.mk k n ks) f).1 u ∧ Ext w W := fun h W hW => by
    rw [h]
    exact ⟨_, rfl, Made.leaf _ _ _ 0 0, hW⟩
  have BAD := Lib.hid bad
  clear bad
  cases vb with
  | false =>
    have hr : runV (.mk k n ks) f = (dflt, 4) := runV_bad (by rw [hvb]; rfl)
    have HR := Lib.hid hr
    clear hr hvb
    go_enter Try.func17, Try.ntmps17
    go_wp2_with fail
    generalize World.alloc (World.alloc w _) _ = w1 at hx hb1 hb2 hsz ⊢
    refine (H1.out _ hx).mono ?_
    rintro e w2 ⟨rfl, q1⟩
    have hE := hx.trans q1
    obtain ⟨s0, s1, s2, f0, f1, f2⟩ := own3 (q1.blk hb2)
    clear hb1 hb2
    go_wp2_with fail
    refine bodyPost_ret (v := .tuple #[.agg #[.int .i64 0, .int .i64 0, .slice none 0 0], .int .i64 4]) (by simp [results, Try.results17, go_sem, s0, s1, s2]) rfl (BAD.out HR.out _ ?_)
    first | exact ((hE.setCell (by simp) _).setCell (by simp) _).setCell (by simp) _ | exact hE
  | true =>
    have hct := (valid_parts hvb).2
    have H2 := Lib.hid (fun W (hW : Ext w W) => isOpen_any (.mk k n ks) W _ 0 (hin0.ext hW) (by omega) (by omega))
    obtain ⟨ob, hob⟩ : ∃ b, opnC (.mk k n ks) 0 = b := ⟨_, rfl⟩
    rw [hob] at H2
    have q0 := own3 hb1
    cases ob with
    | true =>
      have hr : runV (.mk k n ks) f = (dflt, 4) := runV_bad (by rw [hvb, hob]; rfl)
      have HR := Lib.hid hr
      clear hr hvb hob q0
      go_enter Try.func17, Try.ntmps17
      go_wp2_with fail
      generalize World.alloc (World.alloc w _) _ = w1 at hx hb1 hb2 hsz ⊢
      refine (H1.out _ hx).mono ?_
      rintro e w2 ⟨rfl, q1⟩
      obtain ⟨x0, x1, x2, -, -, -⟩ := own3 (q1.blk hb1)
      go_wp2_with fail
      refine (H2.out _ (hx.trans q1)).mono ?_
      rintro e w3 ⟨rfl, q2⟩
      have hE := hx.trans (q1.trans q2)
      obtain ⟨s0, s1, s2, f0, f1, f2⟩ := own3 ((q1.trans q2).blk hb2)
      clear hb1 hb2
      go_wp2_with fail
      refine bodyPost_ret (v := .tuple #[.agg #[.int .i64 0, .int .i64 0, .slice none 0 0], .int .i64 4]) (by simp [results, Try.results17, go_sem, s0, s1, s2]) rfl (BAD.out HR.out _ ?_)
      first | exact ((hE.setCell (by simp) _).setCell (by simp) _).setCell (by simp) _ | exact hE
    | false =>
      obtain ⟨db, hdb⟩ : ∃ b, inR f 0 200 = b := ⟨_, rfl⟩
      cases db with
      | false =>
        have hr : runV (.mk k n ks) f = (dflt, 4) := runV_bad (by rw [hvb, hob, hdb]; rfl)
        have HR := Lib.hid hr
        clear hr hvb hob q0
        go_enter Try.func17, Try.ntmps17
        go_wp2_with fail
        generalize World.alloc (World.alloc w _) _ = w1 at hx hb1 hb2 hsz ⊢
        refine (H1.out _ hx).mono ?_
        rintro e w2 ⟨rfl, q1⟩
        obtain ⟨x0, x1, x2, -, -, -⟩ := own3 (q1.blk hb1)
        go_wp2_with fail
        refine (H2.out _ (hx.trans q1)).mono ?_
        rintro e w3 ⟨rfl, q2⟩
        have hE := hx.trans (q1.trans q2)
        obtain ⟨s0, s1, s2, f0, f1, f2⟩ := own3 ((q1.trans q2).blk hb2)
        clear hb1 hb2
        go_wp2_with (go_at_call 65; refine (within_any _ _ _ _).mono ?_; rw [hdb]; rintro e w4 ⟨rfl, rfl⟩)
        refine bodyPost_ret (v := .tuple #[.agg #[.int .i64 0, .int .i64 0, .slice none 0 0], .int .i64 4]) (by simp [results, Try.results17, go_sem, s0, s1, s2]) rfl (BAD.out HR.out _ ?_)
        first | exact ((hE.setCell (by simp) _).setCell (by simp) _).setCell (by simp) _ | exact hE
      | true =>
        obtain ⟨fn, rfl, hfn⟩ : ∃ m : Nat, f = (m : Int) ∧ m ≤ 200 := by
          have h9 := inR_iff.1 hdb
          exact ⟨f.toNat, by omega, by omega⟩
        have hr : runV (.mk k n ks) (fn : Int) = runC fn (.mk k n ks) := runV_good hvb hob hfn
        rw [hr]
        obtain ⟨R, hR⟩ : ∃ R, R = runC fn (.mk k n ks) := ⟨_, rfl⟩
        rw [← hR]
        have hin9 : InT w (fun b => b < w.heap.size) (.mk k n ks) (.agg #[.int .i64 k, .int .i64 n, .slice A ks.length cap]) := hin0
        have HINV := Lib.hid (show ∃ (k' n' : Int) (ks' : List Tr) (A' : Option Addr) (c' : Nat), True from ⟨k, n, ks, A, cap, trivial⟩)
        clear HINV hr hob q0 BAD
        go_enter Try.func17, Try.ntmps17
        go_wp2_with fail
        generalize World.alloc (World.alloc w _) _ = w1 at hx hb1 hb2 hsz ⊢
        refine (H1.out _ hx).mono ?_
        rintro e w2 ⟨rfl, q1⟩
        obtain ⟨x0, x1, x2, -, -, -⟩ := own3 (q1.blk hb1)
        go_wp2_with fail
        refine (H2.out _ (hx.trans q1)).mono ?_
        rintro e w3 ⟨rfl, q2⟩
        have hE := hx.trans (q1.trans q2)
        replace hb1 := (q1.trans q2).blk hb1
        replace hb2 := (q1.trans q2).blk hb2
        clear x0 x1 x2 H1 H2
        go_wp2_with (go_at_call 65; refine (within_any _ _ _ _).mono ?_; rw [hdb]; rintro e w4 ⟨rfl, rfl⟩)
        have hRel : ∃ (m : Nat) (k' n' : Int) (ks' : List Tr) (A' : Option Addr) (c' : Nat), m ≤ 200 ∧ Value.int .i64 (fn : Int) = .int .i64 (m : Int) ∧ w3.heap[w.heap.size]? = some (.cells #[.int .i64 k', .int .i64 n', .slice A' ks'.length c'] 28 (0, 0)) ∧ w3.heap[w.heap.size + 1]? = some (.cells #[.int .i64 0, .int .i64 0, .slice none 0 0] 28 (0, 0)) ∧ InT w3 (fun b => b < w.heap.size ∨ w.heap.size + 2 ≤ b) (.mk k' n' ks') (.agg #[.int .i64 k', .int .i64 n', .slice A' ks'.length c']) ∧ valid sigC (.mk k' n' ks') = true ∧ R = runC m (.mk k' n' ks') ∧ Ext w w3 :=
          ⟨fn, k, n, ks, A, cap, hfn, rfl, hb1, hb2, InT.mono (fun b hb => .inl hb) (fun b hb => hE.heap b hb) hin9, hvb, hR, hE⟩
        clear hb1 hb2 hE hin0 hin9 hin hx hsz q1 q2 hK hl hc hR hvb hfn hdb hct
        have HREL := Lib.hid hRel
        clear hRel
        go_loopw [1] (fun i wr => ∃ (m : Nat) (k' n' : Int) (ks' : List Tr) (A' : Option Addr) (c' : Nat), m ≤ 200 ∧ i = .int .i64 (m : Int) ∧ wr.heap[w.heap.size]? = some (.cells #[.int .i64 k', .int .i64 n', .slice A' ks'.length c'] 28 (0, 0)) ∧ wr.heap[w.heap.size + 1]? = some (.cells #[.int .i64 0, .int .i64 0, .slice none 0 0] 28 (0, 0)) ∧ InT wr (fun b => b < w.heap.size ∨ w.heap.size + 2 ≤ b) (.mk k' n' ks') (.agg #[.int .i64 k', .int .i64 n', .slice A' ks'.length c']) ∧ valid sigC (.mk k' n' ks') = true ∧ R = runC m (.mk k' n' ks') ∧ Ext w wr) (fun i _ => (intOf i).toNat)
        case atStart => exact HREL.out
        case round =>
          obtain ⟨m, k', n', ks', A', c', hm, rfl, hb1, hb2, hIT, hvd, hR, hE⟩ := hrel
          clear HREL
          have hct := (valid_parts hvd).2
          have hsh := (valid_parts hvd).1
          have hs1 : w.heap.size + 1 < wr.heap.size := lt_of_blk hb2
          have hL : Lies wr (.mk k' n' ks') (.agg #[.int .i64 k', .int .i64 n', .slice A' ks'.length c']) := InT.mono (S' := fun b => b < wr.heap.size) (fun b hb => hb.2) (fun _ _ => rfl) hIT.bound
          have HV := Lib.hid (fun W (hW : Ext wr W) => isValue_any (.mk k' n' ks') W _ (hL.ext hW))
          obtain ⟨iv, hiv⟩ : ∃ b, isV (.mk k' n' ks') = b := ⟨_, rfl⟩
          rw [hiv] at HV
          obtain ⟨x0, x1, x2, -, -, -⟩ := own3 hb1
          go_wp2_with fail
          refine (HV.out _ (Ext.refl _)).mono ?_
          cases iv with
          | true =>
            rintro e w4 ⟨rfl, q4⟩
            have hRr := hR.trans (runC_val hiv)
            have HRR := Lib.hid hRr
            clear x0 x1 x2
            obtain ⟨x0, x1, x2, -, -, -⟩ := own3 (q4.blk hb1)
            clear hR hRr hiv HV
            go_wp2_with fail
            refine (ownCode_any (.mk k' n' ks') _ _ (hL.ext q4) (by omega)).mono ?_
            rintro e w5 ⟨u, rfl, hM, q5⟩
            obtain ⟨b1, b2, b3, b4, b5, rfl⟩ := hM.three
            have hE5 := hE.trans (q4.trans q5)
            have hs4 : wr.heap.size ≤ w4.heap.size := q4.size
            obtain ⟨s0, s1, s2, f0, f1, f2⟩ := own3 ((q4.trans q5).blk hb2)
            clear hb1 hb2 x0 x1 x2
            go_wp2_with fail
            refine bodyPost_ret (v := .tuple #[.agg #[.int .i64 b1, .int .i64 b2, .slice b3 b4 b5], .int .i64 0]) (by simp [results, Try.results17, go_sem, s0, s1, s2]) rfl ?_
            rw [HRR.out]
            refine ⟨_, rfl, Made.since (hM.after ((((Above.refl _ _).setCell (by show w.heap.size + 1 < _; omega) _).setCell (by show w.heap.size + 1 < _; omega) _).setCell (by show w.heap.size + 1 < _; omega) _)) (by have := hE.size; omega), ?_⟩
            exact ((hE5.setCell (by simp) _).setCell (by simp) _).setCell (by simp) _
          | false =>
            rintro e w4 ⟨rfl, q4⟩
            clear x0 x1 x2
            obtain ⟨x0, x1, x2, -, -, -⟩ := own3 (q4.blk hb1)
            have HR := Lib.hid hR
            have HIV := Lib.hid hiv
            clear hR hiv HV
            go_wp2_with fail
            refine (codeStep_any (.mk k' n' ks') 30 _ _ (fun b => (b < w.heap.size ∨ w.heap.size + 2 ≤ b) ∧ b < wr.heap.size) (fun b hb => Nat.lt_of_lt_of_le hb.2 q4.size) hsh (by omega) (InT.mono (fun _ h => h) (fun b hb => q4.heap b hb.2) hIT.bound)).mono ?_
            rintro e w5 ⟨a1, a2, a3, a4, a5, rfl, hT5, q5⟩
            obtain ⟨so, hso⟩ : ∃ so, stp (.mk k' n' ks') = so := ⟨_, rfl⟩
            rw [hso] at hT5 ⊢
            have HSO := Lib.hid hso
            have hb15 := (q4.trans q5).blk hb1
            have hb25 := (q4.trans q5).blk hb2
            have hE5 := hE.trans (q4.trans q5)
            have hs45 : wr.heap.size ≤ w5.heap.size := (q4.trans q5).size
            have hw4 : wr.heap.size ≤ w4.heap.size := q4.size
            obtain ⟨w6, hw6⟩ : ∃ x, x = w5.alloc (.cells #[.int .i64 a1, .int .i64 a2, .slice a3 a4 a5] 28) := ⟨_, rfl⟩
            have e6 : Ext w5 w6 := hw6 ▸ (Ext.refl w5).alloc _
            have hb6 : w6.heap[w5.heap.size]? = some (.cells #[.int .i64 a1, .int .i64 a2, .slice a3 a4 a5] 28 (0, 0)) := hw6 ▸ heap_alloc_new w5 _
            have hE6 := hE5.trans e6
            obtain ⟨s0, s1, s2, f0, f1, f2⟩ := own3 (e6.blk hb25)
            obtain ⟨r0, r1, r2, p0, p1, p2⟩ := own3 hb25
            have hz5 : w.heap.size + 1 < w5.heap.size := lt_of_blk hb25
            clear hso x0 x1 x2
            cases so with
            | none =>
              have hRr := HR.out.trans (runC_stuck HIV.out HSO.out)
              have HRR := Lib.hid hRr
              clear hRr hb1 hb2 hb15 hb25 hb6 hw6 hT5
              go_wp2_with fail
              refine bodyPost_ret (v := .tuple #[.agg #[.int .i64 0, .int .i64 0, .slice none 0 0], .int .i64 3]) (by simp [results, Try.results17, go_sem, r0, r1, r2, World.cell?_alloc_lt, hz5]) rfl ?_
              rw [HRR.out]
              refine ⟨_, rfl, Made.leaf _ _ _ 0 0, ?_⟩
              first | exact (((hE5.setCell (by simp) _).setCell (by simp) _).setCell (by simp) _).alloc _ | exact (((hE5.alloc _).setCell (by simp) _).setCell (by simp) _).setCell (by simp) _ | exact hE5.alloc _
            | some dd =>
              by_cases hm0 : m = 0
              · subst hm0
                have hRr := HR.out.trans (runC_fuel HIV.out HSO.out)
                have HRR := Lib.hid hRr
                clear hRr hb1 hb2 hb15 hb25 hb6 hw6 hT5
                go_wp2_with fail
                refine bodyPost_ret (v := .tuple #[.agg #[.int .i64 0, .int .i64 0, .slice none 0 0], .int .i64 1]) (by simp [results, Try.results17, go_sem, r0, r1, r2, World.cell?_alloc_lt, hz5]) rfl ?_
                rw [HRR.out]
                refine ⟨_, rfl, Made.leaf _ _ _ 0 0, ?_⟩
                first | exact (((hE5.setCell (by simp) _).setCell (by simp) _).setCell (by simp) _).alloc _ | exact (((hE5.alloc _).setCell (by simp) _).setCell (by simp) _).setCell (by simp) _ | exact hE5.alloc _
              · obtain ⟨mm, rfl⟩ : ∃ mm, m = mm + 1 := ⟨m - 1, by omega⟩
                have hmz : (((mm + 1 : Nat) : Int) == 0) = false := beq_eq_false_iff_ne.2 (by omega)
                have hmw := IntWalk.i64_in (((mm + 1 : Nat) : Int) - 1) ⟨by omega, by omega⟩
                have hT6 : InT w6 (fun b => b < w.heap.size ∨ w.heap.size + 2 ≤ b) dd (.agg #[.int .i64 a1, .int .i64 a2, .slice a3 a4 a5]) := InT.later (InT.mono (fun b hb => by rcases hb with hb | hb; exact hb.1; exact .inr (by omega)) (fun _ _ => rfl) (hT5 dd rfl)) e6
                have hL6 : Lies w6 dd (.agg #[.int .i64 a1, .int .i64 a2, .slice a3 a4 a5]) := InT.mono (S' := fun b => b < w6.heap.size) (fun b hb => hb.2) (fun _ _ => rfl) hT6.bound
                go_wp2_with fail
                rw [← hw6]
                obtain ⟨g6, hg6⟩ : ∃ x, x = w5.heap.size := ⟨_, rfl⟩
                rw [← hg6] at hb6 ⊢
                refine (validCode_any dd _ _ hL6).mono ?_
                rintro e w7 ⟨rfl, q7⟩
                obtain ⟨vd, hvd'⟩ : ∃ b, valid sigC dd = b := ⟨_, rfl⟩
                rw [hvd']
                have hb17 := (e6.trans q7).blk hb15
                have hb27 := (e6.trans q7).blk hb25
                have hb67 := q7.blk hb6
                have hE7 := hE6.trans q7
                have hz7 : w.heap.size + 1 < w7.heap.size := lt_of_blk hb27
                have hg6s : w.heap.size + 1 < g6 := by omega
                clear hw6 hg6 hb1 hb2 hb15 hb25 hb6 s0 s1 s2 f0 f1 f2 r0 r1 r2 p0 p1 p2
                obtain ⟨s0, s1, s2, f0, f1, f2⟩ := own3 hb27
                cases vd with
                | false =>
                  have hRr := HR.out.trans (runC_large HIV.out HSO.out hvd')
                  have HRR := Lib.hid hRr
                  clear hRr hb17 hb27 hb67 hT5 hT6
                  go_wp2_with fail
                  refine bodyPost_ret (v := .tuple #[.agg #[.int .i64 0, .int .i64 0, .slice none 0 0], .int .i64 2]) (by simp [results, Try.results17, go_sem, s0, s1, s2]) rfl ?_
                  rw [HRR.out]
                  refine ⟨_, rfl, Made.leaf _ _ _ 0 0, ?_⟩
                  first | exact ((hE7.setCell (by simp) _).setCell (by simp) _).setCell (by simp) _ | exact hE7
                | true =>
                  have hRr := HR.out.trans (runC_step HIV.out HSO.out hvd')
                  obtain ⟨dk, dn, dks⟩ := dd
                  have hT7 := InT.later hT6 q7
                  obtain ⟨Ad, cd, hv9, -, -, -⟩ := InT.mk_iff.1 hT7
                  simp only [Value.agg.injEq, Array.mk.injEq, List.cons.injEq, Value.int.injEq, Value.slice.injEq, true_and, and_true] at hv9
                  obtain ⟨rfl, rfl, rfl, rfl, rfl⟩ := hv9
                  obtain ⟨y0, y1, y2, -, -, -⟩ := own3 hb67
                  obtain ⟨t0, t1, t2, k0, k1, k2⟩ := own3 hb17
                  have HFIN := Lib.hid (show _ ∧ _ ∧ _ ∧ _ from ⟨hb17, hb27, hT7, hE7⟩)
                  have HRR := Lib.hid hRr
                  clear hRr hb17 hb27 hb67 hT5 hT6 hT7 s0 s1 s2 f0 f1 f2 hL6
                  go_wp2_with fail
                  go_roundw
                  case rel =>
                    obtain ⟨b17, b27, T7, E7⟩ := HFIN.out
                    refine ⟨mm, a1, a2, dks, a3, a5, by omega, by go_num, blk_setCell (blk_setCell (blk_setCell b17 0 _) 1 _) 2 _, ?_, ?_, hvd', HRR.out, ((E7.setCell (Nat.le_refl _) _).setCell (Nat.le_refl _) _).setCell (Nat.le_refl _) _⟩
                    · exact blk_setCell_ne (blk_setCell_ne (blk_setCell_ne b27 (by show w.heap.size + 1 ≠ w.heap.size; omega) _) (by show w.heap.size + 1 ≠ w.heap.size; omega) _) (by show w.heap.size + 1 ≠ w.heap.size; omega) _
                    · refine InT.mono (fun _ h => h) (fun b hb => ?_) T7
                      have hne : b ≠ w.heap.size := by rcases hb with h | h <;> omega
                      rw [Below.heap_setCell _ _ _ _ hne, Below.heap_setCell _ _ _ _ hne, Below.heap_setCell _ _ _ _ hne]
                  case measure => first | (simp [intOf]; done) | (simp [intOf]; omega)
end Go.Proofs.Ytappakllopkfiaa

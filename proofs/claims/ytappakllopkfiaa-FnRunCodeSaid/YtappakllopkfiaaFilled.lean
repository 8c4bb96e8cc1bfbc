/-
  impl.filled: a program with a closed one for a variable.
-/
import Derived.Test.YtappakllopkfiaaStep
import Derived.Test.YtappakllopkfiaaOwn
import Derived.Test.YtappakllopkfiaaSpExtract
import Derived.Test.YtappakllopkfiaaGrow2
import Derived.Deep.RegionHeldLaw
namespace Go.Proofs.Ytappakllopkfiaa
open Go.RowKit
set_option linter.unusedVariables false
attribute [local go_sem ↓] Go.wp_at_zero Go.wp_at_succ

/-- A load, named: so that a region's walk does not look for it in what it holds. -/
def ldF (t : TypeId) (s : Nat) : Op := Op.load t (.tmp s)
attribute [local go_sem] ldF
theorem infoFi : (Try.prog.info? 28).map (fun i => (i.zero, i.size, i.bytes)) = some (some (.agg #[.int .i64 0, .int .i64 0, .slice none 0 0]), 3, 40) := by kernel_rfl
theorem putTs_len : ∀ (ts : List Tr) (x : Int) (u : Tr), (putTs ts x u).length = ts.length
  | [], _, _ => by simp [putTs]
  | t :: ts, x, u => by simp [putTs, putTs_len ts x u]
theorem putTs_get : ∀ (ts : List Tr) (x : Int) (u : Tr) (j : Nat) (h : j < ts.length), (putTs ts x u)[j]'(by rw [putTs_len]; exact h) = putT ts[j] x u
  | t :: ts, x, u, 0, h => by simp [putTs]
  | t :: ts, x, u, j + 1, h => by
    simp only [putTs, List.getElem_cons_succ]
    exact putTs_get ts x u j (by simpa using h)
theorem take_snoc' {l : List Tr} {j : Nat} {t : Tr} (h : j < l.length) (e : l[j] = t) : l.take j ++ [t] = l.take (j + 1) := by rw [← e]; exact List.take_append_getElem h
def FilC (t : Tr) : Prop := ∀ (u : Tr) (w : World) (v vu : Value) (x : Int), Lies w t v → Lies w u vu → cnt t ≤ 1000000 → cnt u ≤ 1000000 → 0 ≤ x → x + cnt t ≤ 4000000 →
  Calls Try.prog 138 #[v, .int .i64 x, vu] w fun e w' => ∃ r, e = .returned r ∧ Made w w' 28 (putT t x u) r ∧ Ext w w'
set_option maxRecDepth 100000 in
set_option maxHeartbeats 4000000 in
theorem filled_any : ∀ t : Tr, FilC t := Tr.ind fun k n ks hk => by
  intro u w v vu x hin hu hcnt hcu hx0 hx1
  obtain ⟨A, cap, rfl, hl, hc, hK⟩ := Lies.mk_iff.1 hin
  have hu0 := hu
  obtain ⟨d1, d2, d3, d4, d5, rfl⟩ := InT.three hu
  obtain ⟨i0, hi, hz0, hz1, hz2⟩ := info_parts infoFi
  have hcc := hc
  unfold maxLen at hcc
  simp only [cnt] at hcnt hx1
  have hlc := len_le_cnts ks
  have hpt : putT (.mk k n ks) x u = if k = 1 ∧ n = x then u else .mk k n (putTs ks (x + scp k) u) := by rw [putT]
  rw [hpt]
  clear hpt
  have hE1 : Ext w (((w.alloc (.cells #[.int .i64 k, .int .i64 n, .slice A ks.length cap] 28)).alloc (.cells #[.int .i64 d1, .int .i64 d2, .slice d3 d4 d5] 28)).alloc (.cells #[.int .i64 0, .int .i64 0, .slice none 0 0] 28)) := (((Ext.refl w).alloc _).alloc _).alloc _
  obtain ⟨hbT, hbU, hbR, hs2⟩ := blk3 (Ext.refl (((w.alloc (.cells #[.int .i64 k, .int .i64 n, .slice A ks.length cap] 28)).alloc (.cells #[.int .i64 d1, .int .i64 d2, .slice d3 d4 d5] 28)).alloc (.cells #[.int .i64 0, .int .i64 0, .slice none 0 0] 28)))
  by_cases hv : k = 1 ∧ n = x
  · obtain ⟨rfl, rfl⟩ := hv
    rw [if_pos ⟨rfl, rfl⟩]
    go_enter Try.func138, Try.ntmps138
    go_wp2_with fail
    generalize World.alloc (World.alloc (World.alloc w _) _) _ = w1 at hE1 hbT hbU hbR hs2 ⊢
    refine (ownCode_any u _ _ (hu0.ext hE1) (by omega)).mono ?_
    rintro e w6 ⟨xo, rfl, hM6, h6⟩
    obtain ⟨o1, o2, o3, o4, o5, rfl⟩ := hM6.three'
    obtain ⟨s0, s1, s2, f0, f1, f2⟩ := own3 (h6.blk hbR)
    have hlt := lt_of_blk hbR
    have hxx := hE1.trans h6
    clear hbT hbU hbR
    go_wp2_with fail
    refine bodyPost_ret (v := .agg #[.int .i64 o1, .int .i64 o2, .slice o3 o4 o5]) (by simp [results, Try.results138, go_sem, s0, s1, s2]) rfl ⟨_, rfl, ?_, ?_⟩
    · exact Made.since (Made.after hM6 ((((Above.refl _ _).setCell (by show w.heap.size + 1 + 1 < _; omega) _).setCell (by show w.heap.size + 1 + 1 < _; omega) _).setCell (by show w.heap.size + 1 + 1 < _; omega) _)) hE1.size
    · exact ((hxx.setCell (by show w.heap.size ≤ w.heap.size + 1 + 1; omega) _).setCell (by show w.heap.size ≤ w.heap.size + 1 + 1; omega) _).setCell (by show w.heap.size ≤ w.heap.size + 1 + 1; omega) _
  · rw [if_neg hv]
    obtain ⟨rs, hrs⟩ : ∃ rs, rs = putTs ks (x + scp k) u := ⟨_, rfl⟩
    have hrl : rs.length = ks.length := by rw [hrs, putTs_len]
    have HGET := Lib.hid (show ∀ j (h : j < ks.length), rs[j]'(by omega) = putT ks[j] (x + scp k) u from fun j h => by subst hrs; exact putTs_get ks _ u j h)
    rw [← hrs]
    have hb1 : ∃ b1 b2, (k == 1) = b1 ∧ (n == x) = b2 ∧ (b1 && b2) = false := ⟨_, _, rfl, rfl, by
      by_cases h1 : k = 1
      · have h2 : n ≠ x := fun h => hv ⟨h1, h⟩
        rw [beq_eq_false_iff_ne.2 h2, Bool.and_false]
      · rw [beq_eq_false_iff_ne.2 h1, Bool.false_and]⟩
    obtain ⟨b1, b2, hk1, hk2, hk3⟩ := hb1
    clear hrs
    have hsc : (if k = 2 then (1 : Int) else 0) = scp k := rfl
    obtain ⟨sc, hsc2⟩ : ∃ s, scp k = s := ⟨_, rfl⟩
    have hsc0 : 0 ≤ sc ∧ sc ≤ 1 := by rw [← hsc2]; unfold scp; split <;> omega
    have HSC := Lib.hid (fun W => by
      have := codeScope_any k n A ks.length cap W
      rw [hsc, hsc2] at this
      exact this)
    rw [hsc2] at HGET
    clear hsc hsc2 hv
    cases b1 <;> cases b2
    case true.true => simp at hk3
    all_goals (
      clear hk3
      go_enter Try.func138, Try.ntmps138
      go_wp2_with fail
      obtain ⟨w1, hw1⟩ : ∃ w1, w1 = (((w.alloc (.cells #[.int .i64 k, .int .i64 n, .slice A ks.length cap] 28)).alloc (.cells #[.int .i64 d1, .int .i64 d2, .slice d3 d4 d5] 28)).alloc (.cells #[.int .i64 0, .int .i64 0, .slice none 0 0] 28)) := ⟨_, rfl⟩
      obtain ⟨W, hW⟩ : ∃ W, W = w1.alloc (.cells #[.int .i64 k, .int .i64 n, .slice none 0 0] 28) := ⟨_, rfl⟩
      have hs1 : w1.heap.size = w.heap.size + 3 := by rw [hw1]; simp
      have hsW : W.heap.size = w.heap.size + 4 := by rw [hW]; simp; omega
      have hEw1 : Ext w w1 := hw1 ▸ hE1
      have hEW : Ext w1 W := hW ▸ (Ext.refl w1).alloc _
      rw [← hw1] at hbT hbU hbR
      have hbO : W.heap[w.heap.size + 1 + 1 + 1]? = some (.cells #[.int .i64 k, .int .i64 n, .slice none 0 0] 28 (0, 0)) := by
        have := heap_alloc_new w1 (.cells #[.int .i64 k, .int .i64 n, .slice none 0 0] 28)
        rw [hs1] at this
        rw [hW]
        exact this
      rw [← hw1, ← hW]
      have hsWa : w.heap.size + 4 ≤ W.heap.size := by omega
      have hsWb : W.heap.size ≤ w.heap.size + 4 := by omega
      have hs1a : w.heap.size + 3 ≤ w1.heap.size := by omega
      have hs1b : w1.heap.size ≤ w.heap.size + 3 := by omega
      clear hW hw1 hsW hs1 hs2 hE1
      go_loopw [29] (fun i wr => ∃ (j : Nat) (v : Value), j ≤ ks.length ∧ i = .int .i64 j ∧ wr.heap[w.heap.size + 1 + 1 + 1]? = some (.cells #[.int .i64 k, .int .i64 n, v] 28 (0, 0)) ∧ Grow W wr 28 v (rs.take j) ∧ Ext w1 wr ∧ W.heap.size ≤ wr.heap.size) (fun i _ => ks.length - (intOf i).toNat)
      case atStart => exact ⟨0, _, Nat.zero_le _, rfl, hbO, Grow.nil _ _ _, hEW, Nat.le_refl _⟩
      case round =>
        obtain ⟨j, v, hj, rfl, hbv, hG, he, hle⟩ := hrel
        by_cases hlt : j < ks.length
        · obtain ⟨b, o, k', n', A', cap', kids, rfl, HK, c0, c1, c2, hkl, hkc, hK', hin', hmem⟩ := hK.get (hEw1.trans he) hlt
          have htk := take_snoc' (l := rs) (j := j) (by omega) (HGET.out j hlt)
          rw [HK.out] at htk
          have HTK := Lib.hid htk
          have hcm := cnt_mem hmem
          have hlen : (rs.take j).length < 1099511627776 := by rw [List.length_take]; omega
          have hlj : (rs.take j).length = j := by rw [List.length_take]; omega
          have HL := Lib.hid hlj
          have HWR := Lib.hid (IntWalk.i64_in (x + sc) ⟨by omega, by omega⟩)
          have hj' : (j : Int) < (ks.length : Int) := by omega
          clear htk hlj hcc
          go_wp2_with fail
          have hx7 := (Ext.refl wr).alloc (.cells #[.int .i64 k', .int .i64 n', .slice A' kids.length cap'] 28)
          have hb7 := heap_alloc_new wr (.cells #[.int .i64 k', .int .i64 n', .slice A' kids.length cap'] 28)
          have hs7 : wr.heap.size < (wr.alloc (.cells #[.int .i64 k', .int .i64 n', .slice A' kids.length cap'] 28)).heap.size := by simp
          generalize wr.alloc _ = w7 at hx7 hb7 hs7 ⊢
          obtain ⟨y0, y1, y2, -, -, -⟩ := own3 hb7
          obtain ⟨t0, t1, t2, -, -, -⟩ := own3 (hx7.blk (he.blk hbT))
          obtain ⟨u0, u1, u2, -, -, -⟩ := own3 (hx7.blk (he.blk hbU))
          have hbv2 := hx7.blk hbv
          have hv := cell_of_blk hbv2 2
          have hG2 := hG.ext hx7
          have hle2 : W.heap.size ≤ w7.heap.size := by omega
          have hcells : ∀ w', Below W.heap.size w7 w' → w'.heap[w.heap.size + 1 + 1 + 1]? = some (.cells #[.int .i64 k, .int .i64 n, v] 28 (0, 0)) := fun w' hB => (hB.block (w.heap.size + 1 + 1 + 1) (by omega)).trans hbv2
          have HCells := Lib.hid hcells
          have hEd : Ext w7 w7.drew := (Ext.refl w7).drew
          have hinD := hin'.ext (hx7.trans hEd)
          have huD := hu0.ext ((hEw1.trans he).trans (hx7.trans hEd))
          have hown : ∀ q, v.ownBlock = some q → W.heap.size ≤ q ∧ q < wr.heap.size := by
            obtain ⟨xs, L, g1, -⟩ := hG
            exact fun q hq => g1.lt q hq
          have hww : w.heap.size < w7.heap.size := by omega
          have hw1w : w.heap.size + 1 < w7.heap.size := by omega
          have HS := Lib.hid (show ∀ w' : World, (∀ y, y < w7.heap.size → (y < W.heap.size ∧ y ≠ w.heap.size + 1 + 1 + 1 ∨ y = wr.heap.size) → w'.heap[y]? = w7.heap[y]?) → w'.cell? ⟨wr.heap.size, 0, none⟩ = some (.int .i64 k') ∧ w'.cell? ⟨wr.heap.size, 1, none⟩ = some (.int .i64 n') ∧ w'.cell? ⟨wr.heap.size, 2, none⟩ = some (.slice A' kids.length cap') ∧ w'.cell? ⟨w.heap.size, 0, none⟩ = some (.int .i64 k) ∧ w'.cell? ⟨w.heap.size, 1, none⟩ = some (.int .i64 n) ∧ w'.cell? ⟨w.heap.size, 2, none⟩ = some (.slice (some ⟨b, o, none⟩) ks.length cap) ∧ w'.cell? ⟨w.heap.size + 1, 0, none⟩ = some (.int .i64 d1) ∧ w'.cell? ⟨w.heap.size + 1, 1, none⟩ = some (.int .i64 d2) ∧ w'.cell? ⟨w.heap.size + 1, 2, none⟩ = some (.slice d3 d4 d5) from fun w' hw => by
            have f : ∀ (y j : Nat) (x : Value), y < w7.heap.size → (y < W.heap.size ∧ y ≠ w.heap.size + 1 + 1 + 1 ∨ y = wr.heap.size) → w7.cell? ⟨y, j, none⟩ = some x → w'.cell? ⟨y, j, none⟩ = some x := fun y j x h1 h2 h3 => (World.cell?_of_block (a := ⟨y, j, none⟩) (hw y h1 h2)).trans h3
            exact ⟨f _ _ _ hs7 (.inr rfl) y0, f _ _ _ hs7 (.inr rfl) y1, f _ _ _ hs7 (.inr rfl) y2, f _ _ _ hww (.inl ⟨by omega, by omega⟩) t0, f _ _ _ hww (.inl ⟨by omega, by omega⟩) t1, f _ _ _ hww (.inl ⟨by omega, by omega⟩) t2, f _ _ _ hw1w (.inl ⟨by omega, by omega⟩) u0, f _ _ _ hw1w (.inl ⟨by omega, by omega⟩) u1, f _ _ _ hw1w (.inl ⟨by omega, by omega⟩) u2⟩)
          clear y0 y1 y2 t0 t1 t2 u0 u1 u2 c0 c1 c2 hcells hbv hb7
          rw [show Op.load 26 (Operand.tmp 33) = ldF 26 33 from rfl]
          go_region_held_law (fun w' => w'.cell? ⟨wr.heap.size, 0, none⟩ = some (.int .i64 k') ∧ w'.cell? ⟨wr.heap.size, 1, none⟩ = some (.int .i64 n') ∧ w'.cell? ⟨wr.heap.size, 2, none⟩ = some (.slice A' kids.length cap') ∧ w'.cell? ⟨w.heap.size, 0, none⟩ = some (.int .i64 k) ∧ w'.cell? ⟨w.heap.size, 1, none⟩ = some (.int .i64 n) ∧ w'.cell? ⟨w.heap.size, 2, none⟩ = some (.slice (some ⟨b, o, none⟩) ks.length cap) ∧ w'.cell? ⟨w.heap.size + 1, 0, none⟩ = some (.int .i64 d1) ∧ w'.cell? ⟨w.heap.size + 1, 1, none⟩ = some (.int .i64 d2) ∧ w'.cell? ⟨w.heap.size + 1, 2, none⟩ = some (.slice d3 d4 d5))
            (first | exact HS.out _ (fun y h1 h2 => by rw [Below.heap_setCell _ _ _ _ (by show y ≠ w.heap.size + 1 + 1 + 1; omega)]; exact hq5 y h1 h2) | exact HS.out _ hq5 | exact HS.out _ (fun y h1 _ => (h74.alloc _).heap y h1) | exact HS.out _ (fun y h1 _ => h74.heap y h1) | exact HS.out _ (fun y h1 _ => h7c.heap y h1) | exact HS.out _ (fun y h1 _ => hEd.heap y h1))
            (first
              | (go_simp; go_at_call 135; refine (HSC.out _).mono ?_; rintro e wc ⟨rfl, hcs⟩; have h7c : Ext w7 wc := hEd.trans hcs; have hvc := cell_of_blk (HCells.out _ (h7c.below hle2)) 2; have hsc4 := World.block_lt_of_cell? _ _ hvc; (try dsimp only))
              | (go_simp; go_at_call 138; (try rw [HWR.out]); refine (hk _ hmem u _ _ _ (x + sc) (hinD.ext hcs) (huD.ext hcs) (by omega) hcu (by omega) (by omega)).mono ?_; rintro e w4 ⟨r, rfl, hM, h4⟩; obtain ⟨a1, a2, a3, a4, a5, rfl⟩ := hM.three'; have h74 : Ext w7 w4 := h7c.trans h4; have hv4 := cell_of_blk (HCells.out _ (h74.below hle2)) 2; have hs4 := World.block_lt_of_cell? _ _ hv4; (try dsimp only))
              | (refine step_append_tree2 _ (by rfl) (.tmp 34) (.tmp 42) _ (by rfl) 28 i0 _ Try.underlying26 hi hz0 hz1 hz2 rfl (by rfl) hG hle (hx7.trans h74).size (fun y h1 h2 => (hx7.trans h74).heap y h2) (hM.since (by have := (hx7.trans h7c).size; omega)) ((Ext.refl _).alloc _) (by rfl) (heap_alloc_new _ _) hlen ?_; intro v' w5 hG5 hB5 hr5; obtain ⟨B5, c5, rfl, q1, q2, -⟩ := hG5.made; have hq5 : ∀ y, y < w7.heap.size → (y < W.heap.size ∧ y ≠ w.heap.size + 1 + 1 + 1 ∨ y = wr.heap.size) → w5.heap[y]? = w7.heap[y]? := (fun y h1 h2 => by rcases h2 with h2 | h2; exact (hB5.block y h2.1).trans (h74.heap y h1); exact (hr5 y (by omega) (by have := h74.size; omega)).trans (h74.heap y h1)); have hB7 : Below W.heap.size w7 w5 := (h74.below hle2).trans hB5; have hv5 := cell_of_blk (HCells.out _ hB7) 2; have hf5 := frozen_of_blk (HCells.out _ hB7) 2; (try dsimp only)))
          all_goals (
            have hE5 : Ext w1 w5 := (he.trans hx7).trans' hB7 (by omega)
            have hs5 := hB7.size
            have hb6 := HCells.out _ hB7
            rw [List.length_append, List.length_singleton, HL.out, HTK.out] at hG5
            have hGs := fun u => hG5.after ((Above.refl W.heap.size w5).setCell (p := ⟨w.heap.size + 1 + 1 + 1, 2, none⟩) (by show w.heap.size + 1 + 1 + 1 < W.heap.size; omega) u)
            clear hv4 hs4 hv hvc hsc4 HCells hM h4 hq5 hr5 hB5
            go_wp2_with fail
            go_roundw
            case rel => exact ⟨j + 1, _, by omega, by go_num, blk_setCell hb6 2 _, hGs _, hE5.setCell (by show _ ≤ w.heap.size + 1 + 1 + 1; omega) _, by simp; omega⟩
            case measure => simp [intOf]; omega)
        · obtain ⟨B5, c5, rfl, q1, q2, hMK⟩ := hG.made
          have hjl : j = ks.length := by omega
          have hrj : rs.take j = rs := List.take_of_length_le (by omega)
          obtain ⟨r0, r1, r2, -, -, -⟩ := own3 hbv
          obtain ⟨s0, s1, s2, f0, f1, f2⟩ := own3 (he.blk hbR)
          rw [hrj] at q1 r2 hMK
          have hE9 := hEw1.trans he
          clear hbv
          go_wp2_with fail
          refine bodyPost_ret (v := .agg #[.int .i64 k, .int .i64 n, .slice B5 rs.length c5]) (by simp [results, Try.results138, go_sem, s0, s1, s2, hrl]) rfl ⟨_, rfl, ?_, ?_⟩
          · exact Made.since (Made.after (Made.mk q1 q2 hMK) ((((Above.refl _ _).setCell (by show w.heap.size + 1 + 1 < _; omega) _).setCell (by show w.heap.size + 1 + 1 < _; omega) _).setCell (by show w.heap.size + 1 + 1 < _; omega) _)) (by omega)
          · exact ((hE9.setCell (by show _ ≤ w.heap.size + 1 + 1; omega) _).setCell (by show _ ≤ w.heap.size + 1 + 1; omega) _).setCell (by show _ ≤ w.heap.size + 1 + 1; omega) _)
end Go.Proofs.Ytappakllopkfiaa

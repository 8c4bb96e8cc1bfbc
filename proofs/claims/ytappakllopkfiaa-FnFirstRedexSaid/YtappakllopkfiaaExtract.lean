/-
  extract: the program's.
-/
import Derived.Test.YtappakllopkfiaaGrow
import Derived.Test.YtappakllopkfiaaNums
import Derived.Deep.RegionLaw
import Derived.Deep.DrawnRows
namespace Go.Proofs.Ytappakllopkfiaa
open Go.RowKit
set_option linter.unusedVariables false

def dflt : Tr := .mk 0 0 []
def sel (es : List Tr) (is : List Nat) : List Tr := is.map fun i => es.getD i dflt
/-- The program of a term, out of its operands' programs. -/
def exOf (k n : Int) (es : List Tr) : Tr :=
  if k = 1 then .mk 1 n [] else if k = 4 then .mk 2 0 (sel es [1]) else if k = 5 then .mk 3 0 (sel es [0, 1]) else if k = 7 then .mk 4 0 [] else if k = 8 then .mk 5 0 (sel es [0]) else if k = 9 then .mk 6 0 (sel es [1, 2, 3])
  else if k = 14 then .mk 7 0 (sel es [1, 2]) else if k = 15 then .mk 8 0 (sel es [0]) else if k = 16 then .mk 9 0 (sel es [0]) else if k = 12 then es.getD 2 dflt else .mk 10 0 []
mutual
def exT : Tr → Tr
  | .mk k n ks => exOf k n (exS ks)
def exS : List Tr → List Tr
  | [] => []
  | t :: ts => exT t :: exS ts
end
theorem exS_get : ∀ {ks : List Tr} {j : Nat} (h : j < ks.length), (exS ks).getD j dflt = exT ks[j]
  | t :: ts, 0, h => by simp [exS]
  | t :: ts, j + 1, h => by
    have := exS_get (ks := ts) (j := j) (by simpa using h)
    simpa [exS] using this
theorem shapes_mem {g : Sig} : ∀ {ks : List Tr} {d : Int} {t : Tr}, shapes g ks d = true → t ∈ ks → shape g t d = true
  | x :: ks, d, t, h, hm => by
    simp only [shapes, Bool.and_eq_true] at h
    rcases List.mem_cons.1 hm with rfl | hm
    · exact h.1
    · exact shapes_mem h.2 hm
theorem shape_kids {g : Sig} {k n : Int} {ks : List Tr} {d : Int} (h : shape g (.mk k n ks) d = true) : g.ops k = (ks.length : Int) ∧ 0 ≤ n ∧ n ≤ g.most k ∧ ∀ t ∈ ks, shape g t (d - 1) = true := by
  simp only [shape, headOk, Bool.and_eq_true] at h
  have h1 := of_decide_eq_true h.2.1.1
  have h2 := inR_iff.1 h.2.1.2
  exact ⟨h1, h2.1, h2.2, fun t ht => shapes_mem h.2.2 ht⟩

theorem Ext.below {W a w : World} (h : Ext a w) (hW : W.heap.size ≤ a.heap.size) : Below W.heap.size a w := ⟨h.os, h.tape, h.output, h.size, fun b hb => h.heap b (Nat.lt_of_lt_of_le hb hW)⟩
theorem Ext.trans' {W a b c : World} (h : Ext a b) (k : Below W.heap.size b c) (hW : a.heap.size ≤ W.heap.size) : Ext a c := Below.trans h (Below.mono k hW)
theorem Made.three' {w w' : World} {e : TypeId} {t : Tr} {u : Value} (h : Made w w' e t u) : ∃ k n A l c, u = .agg #[.int .i64 k, .int .i64 n, .slice A l c] := by
  obtain ⟨k, n, ks⟩ := t
  obtain ⟨A, cap, rfl, _⟩ := Made.mk_iff.1 h
  exact ⟨k, n, A, _, cap, rfl⟩

attribute [local go_sem ↓] Go.wp_at_zero Go.wp_at_succ

def ExtC (t : Tr) : Prop := ∀ (d : Int) (w : World) (v : Value), shape sigT t d = true → Lies w t v →
  Calls Try.prog 84 #[v] w fun e w' => ∃ u, e = .returned u ∧ Made w w' 28 (exT t) u ∧ Ext w w'

theorem infoCodeX : (Try.prog.info? 28).map (fun i => (i.zero, i.size, i.bytes)) = some (some (.agg #[.int .i64 0, .int .i64 0, .slice none 0 0]), 3, 40) := by kernel_rfl

set_option maxRecDepth 100000 in
set_option maxHeartbeats 1000000 in
theorem extractOf (k n : Int) (ks : List Tr) (hk : ∀ t ∈ ks, ExtC t) (d : Int) (hsh : ∀ t ∈ ks, shape sigT t d = true) (w : World) (A : Option Addr) (cap : Nat) (hK : LiesK w A ks) (hl : ks.length ≤ cap) (hc : cap ≤ maxLen) (hks : ks.length ≤ 4)
    (p : Nat) (hp : w.heap[p]? = some (.cells #[.int .i64 k, .int .i64 n, .slice A ks.length cap] 44 (0, 0))) (kind : Int) (B : Option Addr) (c : Nat) (is : List Nat) (his : ∀ i ∈ is, i < ks.length) (hN : Nums w B (is.map Int.ofNat)) (hl2 : is.length ≤ c) (hc2 : c ≤ maxLen) (h3 : is.length ≤ 3) :
    Calls Try.prog 146 #[.int .i64 kind, .slice B is.length c, .pointer (some ⟨p, 0, none⟩)] w fun e w' => ∃ u, e = .returned u ∧ Made w w' 28 (.mk kind 0 (sel (exS ks) is)) u ∧ Ext w w' := by
  obtain ⟨i0, hi, hz0, hz1, hz2⟩ := info_parts infoCodeX
  have hcc := hc
  have hcc2 := hc2
  unfold maxLen at hcc hcc2
  go_enter Try.func146, Try.ntmps146
  go_wp2_with fail
  obtain ⟨w0, hw0⟩ : ∃ w0, w0 = w.alloc (.cells #[.int .i64 0, .int .i64 0, .slice none 0 0] 28) := ⟨_, rfl⟩
  obtain ⟨W, hW⟩ : ∃ W, W = w0.alloc (.cells #[.int .i64 kind, .int .i64 0, .slice none 0 0] 28) := ⟨_, rfl⟩
  have hs0 : w0.heap.size = w.heap.size + 1 := by rw [hw0]; simp
  have hsW : W.heap.size = w.heap.size + 2 := by rw [hW]; simp; omega
  have hE0 : Ext w w0 := hw0 ▸ (Ext.refl w).alloc _
  have hEW : Ext w0 W := hW ▸ (Ext.refl w0).alloc _
  have hbR : w0.heap[w.heap.size]? = some (.cells #[.int .i64 0, .int .i64 0, .slice none 0 0] 28 (0, 0)) := hw0 ▸ heap_alloc_new w _
  have hbO : W.heap[w.heap.size + 1]? = some (.cells #[.int .i64 kind, .int .i64 0, .slice none 0 0] 28 (0, 0)) := by
    have := heap_alloc_new w0 (.cells #[.int .i64 kind, .int .i64 0, .slice none 0 0] 28)
    rw [hs0] at this
    rw [hW]
    exact this
  rw [← hw0, ← hW]
  have hplt := lt_of_blk hp
  clear hW hw0
  go_loopw [13] (fun i wr => ∃ (j : Nat) (v : Value), j ≤ is.length ∧ i = .int .i64 j ∧ wr.heap[w.heap.size + 1]? = some (.cells #[.int .i64 kind, .int .i64 0, v] 28 (0, 0)) ∧ Grow W wr 28 v (sel (exS ks) (is.take j)) ∧ Ext w0 wr ∧ W.heap.size ≤ wr.heap.size) (fun i _ => is.length - (intOf i).toNat)
  case atStart => exact ⟨0, _, Nat.zero_le _, rfl, hbO, Grow.nil _ _ _, hEW, Nat.le_refl _⟩
  case round =>
    obtain ⟨j, v, hj, rfl, hbv, hG, he, hle⟩ := hrel
    by_cases hlt : j < is.length
    · obtain ⟨b1, o1, rfl, cN⟩ := hN.get (hE0.trans he) (j := j) (by simpa using hlt)
      have hx := his is[j] (List.getElem_mem hlt)
      have hsel : sel (exS ks) (is.take (j + 1)) = sel (exS ks) (is.take j) ++ [(exS ks).getD is[j] dflt] := by
        unfold sel
        rw [← List.take_append_getElem hlt, List.map_append]
        rfl
      rw [exS_get hx] at hsel
      rw [List.getElem_map] at cN
      generalize is[j] = x at hx hsel cN
      obtain ⟨b, o, k', n', A', cap', kids, rfl, HK, c0, c1, c2, hkl, hkc, hK', hin, hmem⟩ := hK.get (hE0.trans he) hx
      have hcells : ∀ w', Below W.heap.size wr w' → w'.heap[w.heap.size + 1]? = some (.cells #[.int .i64 kind, .int .i64 0, v] 28 (0, 0)) ∧ w'.cell? ⟨p, 2, none⟩ = some (.slice (some ⟨b, o, none⟩) ks.length cap) ∧ w'.cell? ⟨b, o + x * 3, none⟩ = some (.int .i64 k') ∧ w'.cell? ⟨b, o + x * 3 + 1, none⟩ = some (.int .i64 n') ∧ w'.cell? ⟨b, o + x * 3 + 2, none⟩ = some (.slice A' kids.length cap') ∧ b ≠ w.heap.size + 1 ∧ p ≠ w.heap.size + 1 := by
        intro w' hB
        have hlb := World.block_lt_of_cell? _ _ c0
        have hbE : b < w.heap.size := by
          rcases hK with hK | ⟨b', o', hab, hb', -⟩
          · rw [hK] at hx; cases hx
          · injection hab with hab; injection hab with hab; omega
        have e1 := hB.block (w.heap.size + 1) (by omega)
        have e2 := hB.block p (by omega)
        have e3 := hB.block b (by omega)
        have hp' := (he.blk (hE0.blk hp))
        exact ⟨e1.trans hbv, cell_of_blk (e2.trans hp') 2, (World.cell?_of_block (a := ⟨b, _, none⟩) e3).trans c0, (World.cell?_of_block (a := ⟨b, _, none⟩) e3).trans c1, (World.cell?_of_block (a := ⟨b, _, none⟩) e3).trans c2, by omega, by omega⟩
      have hS : ∀ w', Below W.heap.size wr w' → w'.cell? ⟨p, 2, none⟩ = some (.slice (some ⟨b, o, none⟩) ks.length cap) ∧ w'.cell? ⟨b, o + x * 3, none⟩ = some (.int .i64 k') ∧ w'.cell? ⟨b, o + x * 3 + 1, none⟩ = some (.int .i64 n') ∧ w'.cell? ⟨b, o + x * 3 + 2, none⟩ = some (.slice A' kids.length cap') ∧ w'.frozen? ⟨w.heap.size + 1, 2, none⟩ = false := by
        intro w' hB
        obtain ⟨g1, g2, g3, g4, g5, -, -⟩ := hcells w' hB
        exact ⟨g2, g3, g4, g5, frozen_of_blk g1 2⟩
      have hT : ∀ w' y, Below W.heap.size wr w' → (w'.setCell ⟨w.heap.size + 1, 2, none⟩ y).cell? ⟨p, 2, none⟩ = some (.slice (some ⟨b, o, none⟩) ks.length cap) ∧ (w'.setCell ⟨w.heap.size + 1, 2, none⟩ y).cell? ⟨b, o + x * 3, none⟩ = some (.int .i64 k') ∧ (w'.setCell ⟨w.heap.size + 1, 2, none⟩ y).cell? ⟨b, o + x * 3 + 1, none⟩ = some (.int .i64 n') ∧ (w'.setCell ⟨w.heap.size + 1, 2, none⟩ y).cell? ⟨b, o + x * 3 + 2, none⟩ = some (.slice A' kids.length cap') ∧ (w'.setCell ⟨w.heap.size + 1, 2, none⟩ y).frozen? ⟨w.heap.size + 1, 2, none⟩ = false := by
        intro w' y hB
        obtain ⟨g1, g2, g3, g4, g5, g6, g7⟩ := hcells w' hB
        have hb' := blk_setCell g1 2 y
        have hfar : ∀ q i, q ≠ w.heap.size + 1 → (w'.setCell ⟨w.heap.size + 1, 2, none⟩ y).cell? ⟨q, i, none⟩ = w'.cell? ⟨q, i, none⟩ := fun q i hq => World.cell?_of_block (a := ⟨q, i, none⟩) (Below.heap_setCell w' ⟨w.heap.size + 1, 2, none⟩ y q hq)
        exact ⟨(hfar _ _ g7).trans g2, (hfar _ _ g6).trans g3, (hfar _ _ g6).trans g4, (hfar _ _ g6).trans g5, frozen_of_blk hb' 2⟩
      have HS := Lib.hid hS
      have HT := Lib.hid hT
      rw [HK.out] at hsel
      have hx' : (x : Int) < (ks.length : Int) := by omega
      have hlen : (sel (exS ks) (is.take j)).length < 1099511627776 := by simp [sel]; omega
      have hEd : Ext wr wr.drew := (Ext.refl wr).drew
      have hv := cell_of_blk hbv 2
      have hp2 := (hcells wr (Below.refl _ _)).2.1
      have HCells := Lib.hid hcells
      clear hcells hS hT
      go_wp2_with fail
      go_region_law (first | (go_simp; go_at_call 84; refine (hk _ hmem d _ _ (hsh _ hmem) hin.drew).mono ?_; rintro e w4 ⟨u, rfl, hM, h4⟩; obtain ⟨a1, a2, a3, a4, a5, rfl⟩ := hM.three'; have hv4 := cell_of_blk (HCells.out _ ((hEd.trans h4).below hle)).1 2; have hs4 := World.block_lt_of_cell? _ _ hv4) | (refine step_append_tree _ (by rfl) (.tmp 18) (.tmp 25) _ (by rfl) 28 i0 _ Try.underlying26 hi hz0 hz1 hz2 rfl (by rfl) hG hle (hEd.trans h4) (hM.since (Nat.le_refl _)) ((Ext.refl _).alloc _) (by rfl) (heap_alloc_new _ _) hlen ?_; intro v' w5 hG5 hB5; obtain ⟨B5, c5, rfl, q1, q2, -⟩ := hG5.made; have hv5 := cell_of_blk (HCells.out _ hB5).1 2; have hf5 := frozen_of_blk (HCells.out _ hB5).1 2))
      all_goals (
        have hE5 : Ext w0 w5 := he.trans' hB5 (by omega)
        have hs5 := hB5.size
        have hb5 := (HCells.out _ hB5).1
        rw [List.length_append, List.length_singleton] at hG5
        have hGs := fun u => hG5.after ((Above.refl W.heap.size w5).setCell (p := ⟨w.heap.size + 1, 2, none⟩) (by show w.heap.size + 1 < W.heap.size; omega) u)
        clear hv4 hs4 hv hp2 HS HT HCells hM h4
        go_wp2_with fail
        go_roundw
        case rel => exact ⟨j + 1, _, by omega, by go_num, blk_setCell hb5 2 _, by rw [hsel]; exact hGs _, hE5.setCell (by show _ ≤ w.heap.size + 1; omega) _, by simp; omega⟩
        case measure => simp [intOf]; omega)
    · obtain ⟨B5, c5, rfl, q1, q2, hMK⟩ := hG.made
      have hjl : j = is.length := by omega
      have hln : (sel (exS ks) (is.take j)).length = is.length := by simp [sel, hjl]
      obtain ⟨r0, r1, r2, -, -, -⟩ := own3 hbv
      have hbR' := he.blk hbR
      obtain ⟨s0, s1, s2, f0, f1, f2⟩ := own3 hbR'
      rw [hln] at q1 r2
      rw [show is.take j = is from by rw [hjl, List.take_length]] at hMK
      go_wp2_with fail
      refine bodyPost_ret (v := .agg #[.int .i64 kind, .int .i64 0, .slice B5 is.length c5]) (by simp [results, Try.results146, go_sem, s0, s1, s2]) rfl ⟨_, rfl, ?_, ?_⟩
      · have hMm : Made W wr 28 (.mk kind 0 (sel (exS ks) is)) (.agg #[.int .i64 kind, .int .i64 0, .slice B5 (sel (exS ks) is).length c5]) := Made.mk (by simpa [sel] using q1) q2 hMK
        rw [show (sel (exS ks) is).length = is.length from by simp [sel]] at hMm
        exact Made.since (hMm.after ((((Above.refl _ _).setCell (by show w.heap.size < _; omega) _).setCell (by show w.heap.size < _; omega) _).setCell (by show w.heap.size < _; omega) _)) (by omega)
      · exact ((((hE0.trans he).setCell (Nat.le_refl _) _).setCell (Nat.le_refl _) _).setCell (Nat.le_refl _) _)
end Go.Proofs.Ytappakllopkfiaa

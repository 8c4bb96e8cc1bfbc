/-
  Lemmas towards the law, 42: Path, DrawCA.
-/
import Derived.Test.YtappakllopkfiaaKBF
import Derived.Test.YtappakllopkfiaaKBO
namespace Go.Proofs.Ytappakllopkfiaa
open Go.RowKit
set_option linter.unusedVariables false
attribute [local go_sem ↓] Go.wp_at_zero Go.wp_at_succ
theorem plV_mem_len {rd : Bool} {t : Tr} {p : List Int} (h : p ∈ plV rd t) : p.length ≤ 29 := by
  unfold plV at h
  split at h
  · rename_i hv
    obtain ⟨r, u, h1, h2, -⟩ := plc_at _ _ _ _ h
    rw [List.nil_append] at h1
    subst h1
    have h3 := shape_pos' (atT_shape p t u 30 (cnt_of_valid hv).2 h2)
    omega
  · cases h
theorem GrowP.only {W w w' : World} {e : TypeId} {v : Value} {ps : List (List Int)} {L : List Nat} (h : GrowP W w e v ps) (ho : Only L w w') (hL : ∀ b, b ∈ L → b < W.heap.size) : GrowP W w' e v ps :=
  h.same ho.size (fun b h1 h2 => ho.block b h2 (fun hm => by have := hL b hm; omega))
set_option maxRecDepth 100000 in
set_option maxHeartbeats 4000000 in
theorem l8Path_any (t : Tr) (w : World) (g m : Nat) (v : Value) (hin : Lies w t v) (hR : Rd w g m) (hm : m < 900000) : Calls Try.prog 98 #[.pointer (some ⟨g, 0, none⟩), v] w fun e w' => ∃ u p, e = .returned u ∧ p.length ≤ 29 ∧ PathAt w' (fun b => w.heap.size ≤ b ∧ b < w'.heap.size) u p ∧ Rd w' g (m + 4) ∧ Only [g] w w' := by
  have hgl := hR.lt
  obtain ⟨k, n, ks⟩ := t
  have hml1 := fun p h => plV_mem_len (rd := false) (t := .mk k n ks) (p := p) h
  have hml2 := fun p h => plV_mem_len (rd := true) (t := .mk k n ks) (p := p) h
  have hll1 := plV_len false (.mk k n ks)
  have hll2 := plV_len true (.mk k n ks)
  have H1 := Lib.hid (fun W (hW : Ext w W) => specPlacesOf_any (.mk k n ks) W v (hin.ext hW))
  have H2 := Lib.hid (fun W (hW : Ext w W) => specRedexPlaces_any (.mk k n ks) W v (hin.ext hW))
  generalize plV false (.mk k n ks) = ps at H1 hml1 hll1
  generalize plV true (.mk k n ks) = qs at H2 hml2 hll2
  obtain ⟨A, cap, rfl, -, -, -⟩ := Lies.mk_iff.1 hin
  have hx0 := (Ext.refl w).alloc (.cells #[.int .i64 k, .int .i64 n, .slice A ks.length cap] 44)
  have hbB := heap_alloc_new w (.cells #[.int .i64 k, .int .i64 n, .slice A ks.length cap] 44)
  clear hin
  go_enter Try.func98, Try.ntmps98
  go_wp2_with fail
  refine (H1.out _ hx0).mono ?_
  rintro e w1 ⟨x1, rfl, hG1, h1⟩
  have hG1 := hG1.since hx0.size
  obtain ⟨B1, c1, rfl⟩ := hG1.form
  have hx1 := hx0.trans h1
  obtain ⟨z0, z1, z2, -, -, -⟩ := own3 (h1.blk hbB)
  clear hbB H1
  go_wp2_with fail
  refine (H2.out _ hx1).mono ?_
  rintro e w2 ⟨x2, rfl, hG2, h2⟩
  have hG1 := hG1.ext h2
  have hG2 := hG2.since hx1.size
  obtain ⟨B2, c2, rfl⟩ := hG2.form
  have hx2 := hx1.trans h2
  have hR2 := hR.ext hx2
  have hO2 : Only [g] w w2 := Only.of_ext hx2
  obtain ⟨L1, hL1⟩ : ∃ L, ps.length = L := ⟨_, rfl⟩
  obtain ⟨L2, hL2⟩ : ∃ L, qs.length = L := ⟨_, rfl⟩
  rw [hL1] at hG1 hll1 ⊢
  rw [hL2] at hG2 hll2 ⊢
  have HL1 := Lib.hid hL1
  have HL2 := Lib.hid hL2
  clear hL1 hL2 z0 z1 z2 hx0 h1 hx1 h2 H2 hR
  by_cases h2 : L2 = 0
  · subst h2
    by_cases h1 : L1 = 0
    · subst h1
      go_wp2_with fail
      refine (num_any _ _ _ (hR2.ext ((Ext.refl w2).alloc _)) (by omega) _ 4 [0, 1, 4, -1] (by simp) (by decide) (by simp) (nums_of_row (heap_alloc_new w2 _) rfl) (by intro b o hb; have := hR2.lt; simp at hb; omega)).mono ?_
      rintro e wn ⟨y1, rfl, -, hRn, hon⟩
      go_wp2_with fail
      refine (num_any _ _ _ (hRn.ext ((Ext.refl wn).alloc _)) (by omega) _ 3 [0, 1, 9223372036854775807] (by simp) (by decide) (by simp) (nums_of_row (heap_alloc_new wn _) rfl) (by intro b o hb; have := hRn.lt; simp at hb; omega)).mono ?_
      rintro e wk ⟨y2, rfl, -, hRk, hok⟩
      have hOk := (((hO2).trans (Only.of_ext (L := [g]) ((Ext.refl w2).alloc (.cells #[.int .i64 0, .int .i64 1, .int .i64 4, .int .i64 (-1)] 3)))).trans hon).trans ((Only.of_ext (L := [g]) ((Ext.refl wn).alloc (.cells #[.int .i64 0, .int .i64 1, .int .i64 9223372036854775807] 3))).trans hok)
      have hxk := (Ext.refl wk).alloc (.cells #[.int .i64 y1, .int .i64 y2] 3)
      have hbk := heap_alloc_new wk (.cells #[.int .i64 y1, .int .i64 y2] 3)
      have hOf := hOk.trans (Only.of_ext (L := [g]) hxk)
      have hRf := (hRk.ext hxk).mono (m' := m + 4) (by omega)
      have hPf : PathAt (wk.alloc (.cells #[.int .i64 y1, .int .i64 y2] 3)) (fun b => w.heap.size ≤ b ∧ b < (wk.alloc (.cells #[.int .i64 y1, .int .i64 y2] 3)).heap.size) (.slice (some ⟨wk.heap.size, 0, none⟩) 2 2) [y1, y2] := by
        refine .inr ⟨wk.heap.size, 0, 2, rfl, by simp, by decide, ⟨hOk.size, by simp⟩, fun j hj => ?_⟩
        rw [cell_of_blk hbk]
        match j, hj with
        | 0, _ => rfl
        | 1, _ => rfl
      have HPF := Lib.hid hPf
      clear hbk hPf hxk
      go_wp2_with fail
      go_ret
      exact ⟨_, _, rfl, by simp, HPF.out, hRf, hOf⟩
    · have h1p : (0 : Int) < (L1 : Int) := by omega
      have h1d : decide ((0 : Int) < (L1 : Int)) = true := decide_eq_true h1p
      have h1e : decide (0 < L1) = true := decide_eq_true (by omega)
      have h1q : 0 < L1 := by omega
      go_wp2_with fail
      refine (pick_any _ _ _ 10 hR2 (by omega)).mono ?_
      rintro e wp ⟨p, rfl, hp0, hp1, hRp, hop⟩
      have hOp := (hO2).trans hop
      have hGp := (hG1).only hop (by intro b hb; rw [List.mem_singleton.1 hb]; exact hgl)
      by_cases hp : 0 < p
      · have hpd : decide (0 < p) = true := decide_eq_true hp
        go_wp2_with fail
        refine (pick_any _ _ _ (L1 : Int) hRp (by omega)).mono ?_
        rintro e wz ⟨z, rfl, hz0, hz1, hRz, hoz⟩
        obtain ⟨zi, rfl⟩ := Int.eq_ofNat_of_zero_le hz0
        have hzl : zi < L1 := by omega
        have hzz : (zi : Int) < (L1 : Int) := by omega
        have hGz := (hGp).only hoz (by intro b hb; rw [List.mem_singleton.1 hb]; exact hgl)
        obtain ⟨Az, cz, hez, -, -, -, hcz⟩ := hGz.slice
        rw [HL1.out] at hez
        simp only [Value.slice.injEq, true_and] at hez
        obtain ⟨rfl, rfl⟩ := hez
        have hzL : zi < ps.length := by rw [HL1.out]; exact hzl
        obtain ⟨bz, uz, rfl, cellz, hPz⟩ := hcz zi hzL
        have hmz := hml1 _ (List.getElem_mem hzL)
        have hPz2 : PathAt wz (fun b => w.heap.size ≤ b ∧ b < wz.heap.size) uz ps[zi] := hPz.mono (fun b hb => ⟨hb.1, hb.2.1⟩) (fun _ _ => rfl)
        have HPZ := Lib.hid hPz2
        have hOz := (hOp).trans hoz
        have hRz4 := hRz.mono (m' := m + 4) (by omega)
        clear hGz hcz hPz hPz2 hz1
        go_wp2_with fail
        go_ret
        exact ⟨_, _, rfl, hmz, HPZ.out, hRz4, hOz⟩
      · have hpd : decide (0 < p) = false := decide_eq_false hp
        go_wp2_with fail
        refine (num_any _ _ _ (hRp.ext ((Ext.refl wp).alloc _)) (by omega) _ 4 [0, 1, 4, -1] (by simp) (by decide) (by simp) (nums_of_row (heap_alloc_new wp _) rfl) (by intro b o hb; have := hRp.lt; simp at hb; omega)).mono ?_
        rintro e wn ⟨y1, rfl, -, hRn, hon⟩
        go_wp2_with fail
        refine (num_any _ _ _ (hRn.ext ((Ext.refl wn).alloc _)) (by omega) _ 3 [0, 1, 9223372036854775807] (by simp) (by decide) (by simp) (nums_of_row (heap_alloc_new wn _) rfl) (by intro b o hb; have := hRn.lt; simp at hb; omega)).mono ?_
        rintro e wk ⟨y2, rfl, -, hRk, hok⟩
        have hOk := (((hOp).trans (Only.of_ext (L := [g]) ((Ext.refl wp).alloc (.cells #[.int .i64 0, .int .i64 1, .int .i64 4, .int .i64 (-1)] 3)))).trans hon).trans ((Only.of_ext (L := [g]) ((Ext.refl wn).alloc (.cells #[.int .i64 0, .int .i64 1, .int .i64 9223372036854775807] 3))).trans hok)
        have hxk := (Ext.refl wk).alloc (.cells #[.int .i64 y1, .int .i64 y2] 3)
        have hbk := heap_alloc_new wk (.cells #[.int .i64 y1, .int .i64 y2] 3)
        have hOf := hOk.trans (Only.of_ext (L := [g]) hxk)
        have hRf := (hRk.ext hxk).mono (m' := m + 4) (by omega)
        have hPf : PathAt (wk.alloc (.cells #[.int .i64 y1, .int .i64 y2] 3)) (fun b => w.heap.size ≤ b ∧ b < (wk.alloc (.cells #[.int .i64 y1, .int .i64 y2] 3)).heap.size) (.slice (some ⟨wk.heap.size, 0, none⟩) 2 2) [y1, y2] := by
          refine .inr ⟨wk.heap.size, 0, 2, rfl, by simp, by decide, ⟨hOk.size, by simp⟩, fun j hj => ?_⟩
          rw [cell_of_blk hbk]
          match j, hj with
          | 0, _ => rfl
          | 1, _ => rfl
        have HPF := Lib.hid hPf
        clear hbk hPf hxk
        go_wp2_with fail
        go_ret
        exact ⟨_, _, rfl, by simp, HPF.out, hRf, hOf⟩
  · have h2p : (0 : Int) < (L2 : Int) := by omega
    have h2d : decide ((0 : Int) < (L2 : Int)) = true := decide_eq_true h2p
    have h2e : decide (0 < L2) = true := decide_eq_true (by omega)
    have h2q : 0 < L2 := by omega
    go_wp2_with fail
    refine (pick_any _ _ _ 2 hR2 (by omega)).mono ?_
    rintro e w3 ⟨y, rfl, hy0, hy1, hR3, ho3⟩
    have hO3 := hO2.trans ho3
    have hG13 := hG1.only ho3 (by intro b hb; rw [List.mem_singleton.1 hb]; exact hgl)
    have hG23 := hG2.only ho3 (by intro b hb; rw [List.mem_singleton.1 hb]; exact hgl)
    by_cases hy : y = 0
    · subst hy
      go_wp2_with fail
      refine (pick_any _ _ _ (L2 : Int) hR3 (by omega)).mono ?_
      rintro e wz ⟨z, rfl, hz0, hz1, hRz, hoz⟩
      obtain ⟨zi, rfl⟩ := Int.eq_ofNat_of_zero_le hz0
      have hzl : zi < L2 := by omega
      have hzz : (zi : Int) < (L2 : Int) := by omega
      have hGz := (hG23).only hoz (by intro b hb; rw [List.mem_singleton.1 hb]; exact hgl)
      obtain ⟨Az, cz, hez, -, -, -, hcz⟩ := hGz.slice
      rw [HL2.out] at hez
      simp only [Value.slice.injEq, true_and] at hez
      obtain ⟨rfl, rfl⟩ := hez
      have hzL : zi < qs.length := by rw [HL2.out]; exact hzl
      obtain ⟨bz, uz, rfl, cellz, hPz⟩ := hcz zi hzL
      have hmz := hml2 _ (List.getElem_mem hzL)
      have hPz2 : PathAt wz (fun b => w.heap.size ≤ b ∧ b < wz.heap.size) uz qs[zi] := hPz.mono (fun b hb => ⟨hb.1, hb.2.1⟩) (fun _ _ => rfl)
      have HPZ := Lib.hid hPz2
      have hOz := (hO3).trans hoz
      have hRz4 := hRz.mono (m' := m + 4) (by omega)
      clear hGz hcz hPz hPz2 hz1
      go_wp2_with fail
      go_ret
      exact ⟨_, _, rfl, hmz, HPZ.out, hRz4, hOz⟩
    · have hyd : (y == 0) = false := beq_eq_false_iff_ne.2 hy
      by_cases h1 : L1 = 0
      · subst h1
        go_wp2_with fail
        refine (num_any _ _ _ (hR3.ext ((Ext.refl w3).alloc _)) (by omega) _ 4 [0, 1, 4, -1] (by simp) (by decide) (by simp) (nums_of_row (heap_alloc_new w3 _) rfl) (by intro b o hb; have := hR3.lt; simp at hb; omega)).mono ?_
        rintro e wn ⟨y1, rfl, -, hRn, hon⟩
        go_wp2_with fail
        refine (num_any _ _ _ (hRn.ext ((Ext.refl wn).alloc _)) (by omega) _ 3 [0, 1, 9223372036854775807] (by simp) (by decide) (by simp) (nums_of_row (heap_alloc_new wn _) rfl) (by intro b o hb; have := hRn.lt; simp at hb; omega)).mono ?_
        rintro e wk ⟨y2, rfl, -, hRk, hok⟩
        have hOk := (((hO3).trans (Only.of_ext (L := [g]) ((Ext.refl w3).alloc (.cells #[.int .i64 0, .int .i64 1, .int .i64 4, .int .i64 (-1)] 3)))).trans hon).trans ((Only.of_ext (L := [g]) ((Ext.refl wn).alloc (.cells #[.int .i64 0, .int .i64 1, .int .i64 9223372036854775807] 3))).trans hok)
        have hxk := (Ext.refl wk).alloc (.cells #[.int .i64 y1, .int .i64 y2] 3)
        have hbk := heap_alloc_new wk (.cells #[.int .i64 y1, .int .i64 y2] 3)
        have hOf := hOk.trans (Only.of_ext (L := [g]) hxk)
        have hRf := (hRk.ext hxk).mono (m' := m + 4) (by omega)
        have hPf : PathAt (wk.alloc (.cells #[.int .i64 y1, .int .i64 y2] 3)) (fun b => w.heap.size ≤ b ∧ b < (wk.alloc (.cells #[.int .i64 y1, .int .i64 y2] 3)).heap.size) (.slice (some ⟨wk.heap.size, 0, none⟩) 2 2) [y1, y2] := by
          refine .inr ⟨wk.heap.size, 0, 2, rfl, by simp, by decide, ⟨hOk.size, by simp⟩, fun j hj => ?_⟩
          rw [cell_of_blk hbk]
          match j, hj with
          | 0, _ => rfl
          | 1, _ => rfl
        have HPF := Lib.hid hPf
        clear hbk hPf hxk
        go_wp2_with fail
        go_ret
        exact ⟨_, _, rfl, by simp, HPF.out, hRf, hOf⟩
      · have h1p : (0 : Int) < (L1 : Int) := by omega
        have h1d : decide ((0 : Int) < (L1 : Int)) = true := decide_eq_true h1p
        have h1e : decide (0 < L1) = true := decide_eq_true (by omega)
        have h1q : 0 < L1 := by omega
        go_wp2_with fail
        refine (pick_any _ _ _ 10 hR3 (by omega)).mono ?_
        rintro e wp ⟨p, rfl, hp0, hp1, hRp, hop⟩
        have hOp := (hO3).trans hop
        have hGp := (hG13).only hop (by intro b hb; rw [List.mem_singleton.1 hb]; exact hgl)
        by_cases hp : 0 < p
        · have hpd : decide (0 < p) = true := decide_eq_true hp
          go_wp2_with fail
          refine (pick_any _ _ _ (L1 : Int) hRp (by omega)).mono ?_
          rintro e wz ⟨z, rfl, hz0, hz1, hRz, hoz⟩
          obtain ⟨zi, rfl⟩ := Int.eq_ofNat_of_zero_le hz0
          have hzl : zi < L1 := by omega
          have hzz : (zi : Int) < (L1 : Int) := by omega
          have hGz := (hGp).only hoz (by intro b hb; rw [List.mem_singleton.1 hb]; exact hgl)
          obtain ⟨Az, cz, hez, -, -, -, hcz⟩ := hGz.slice
          rw [HL1.out] at hez
          simp only [Value.slice.injEq, true_and] at hez
          obtain ⟨rfl, rfl⟩ := hez
          have hzL : zi < ps.length := by rw [HL1.out]; exact hzl
          obtain ⟨bz, uz, rfl, cellz, hPz⟩ := hcz zi hzL
          have hmz := hml1 _ (List.getElem_mem hzL)
          have hPz2 : PathAt wz (fun b => w.heap.size ≤ b ∧ b < wz.heap.size) uz ps[zi] := hPz.mono (fun b hb => ⟨hb.1, hb.2.1⟩) (fun _ _ => rfl)
          have HPZ := Lib.hid hPz2
          have hOz := (hOp).trans hoz
          have hRz4 := hRz.mono (m' := m + 4) (by omega)
          clear hGz hcz hPz hPz2 hz1
          go_wp2_with fail
          go_ret
          exact ⟨_, _, rfl, hmz, HPZ.out, hRz4, hOz⟩
        · have hpd : decide (0 < p) = false := decide_eq_false hp
          go_wp2_with fail
          refine (num_any _ _ _ (hRp.ext ((Ext.refl wp).alloc _)) (by omega) _ 4 [0, 1, 4, -1] (by simp) (by decide) (by simp) (nums_of_row (heap_alloc_new wp _) rfl) (by intro b o hb; have := hRp.lt; simp at hb; omega)).mono ?_
          rintro e wn ⟨y1, rfl, -, hRn, hon⟩
          go_wp2_with fail
          refine (num_any _ _ _ (hRn.ext ((Ext.refl wn).alloc _)) (by omega) _ 3 [0, 1, 9223372036854775807] (by simp) (by decide) (by simp) (nums_of_row (heap_alloc_new wn _) rfl) (by intro b o hb; have := hRn.lt; simp at hb; omega)).mono ?_
          rintro e wk ⟨y2, rfl, -, hRk, hok⟩
          have hOk := (((hOp).trans (Only.of_ext (L := [g]) ((Ext.refl wp).alloc (.cells #[.int .i64 0, .int .i64 1, .int .i64 4, .int .i64 (-1)] 3)))).trans hon).trans ((Only.of_ext (L := [g]) ((Ext.refl wn).alloc (.cells #[.int .i64 0, .int .i64 1, .int .i64 9223372036854775807] 3))).trans hok)
          have hxk := (Ext.refl wk).alloc (.cells #[.int .i64 y1, .int .i64 y2] 3)
          have hbk := heap_alloc_new wk (.cells #[.int .i64 y1, .int .i64 y2] 3)
          have hOf := hOk.trans (Only.of_ext (L := [g]) hxk)
          have hRf := (hRk.ext hxk).mono (m' := m + 4) (by omega)
          have hPf : PathAt (wk.alloc (.cells #[.int .i64 y1, .int .i64 y2] 3)) (fun b => w.heap.size ≤ b ∧ b < (wk.alloc (.cells #[.int .i64 y1, .int .i64 y2] 3)).heap.size) (.slice (some ⟨wk.heap.size, 0, none⟩) 2 2) [y1, y2] := by
            refine .inr ⟨wk.heap.size, 0, 2, rfl, by simp, by decide, ⟨hOk.size, by simp⟩, fun j hj => ?_⟩
            rw [cell_of_blk hbk]
            match j, hj with
            | 0, _ => rfl
            | 1, _ => rfl
          have HPF := Lib.hid hPf
          clear hbk hPf hxk
          go_wp2_with fail
          go_ret
          exact ⟨_, _, rfl, by simp, HPF.out, hRf, hOf⟩
end Go.Proofs.Ytappakllopkfiaa
namespace Go.Proofs.Ytappakllopkfiaa
open Go.RowKit
set_option linter.unusedVariables false
attribute [local go_sem ↓] Go.wp_at_zero Go.wp_at_succ
set_option maxRecDepth 100000 in
set_option maxHeartbeats 1000000 in
theorem drawTermAt_from (w : World) (A : Option Addr) (cap : Nat) (bs : List Int) (hl : bs.length ≤ cap) (hc : cap ≤ maxLen) (hB : Bytes w w.heap.size A bs) : Calls Try.prog 105 #[.slice A bs.length cap] w fun e w' =>
    ∃ t u x p, e = .returned (.tuple #[u, x]) ∧ cnt t ≤ 401 ∧ p.length ≤ 29 ∧ From w.heap.size w' t u ∧ PathAt w' (fun b => w.heap.size ≤ b ∧ b < w'.heap.size) x p ∧ Ext w w' := by
  have hx0 := (Ext.refl w).alloc (.cells #[.int .i64 0, .int .i64 0, .slice none 0 0] 44)
  have hb0 := heap_alloc_new w (.cells #[.int .i64 0, .int .i64 0, .slice none 0 0] 44)
  go_enter Try.func105, Try.ntmps105
  go_wp2_with fail
  refine (l19Open_any _ A cap bs hl hc ((hB.ext hx0).mono hx0.size)).mono ?_
  rintro e w1 ⟨rfl, hR, h1⟩
  generalize hg : (w.alloc (.cells #[.int .i64 0, .int .i64 0, .slice none 0 0] 44)).heap.size = g at hR ⊢
  have hg' : w.heap.size < g := by rw [← hg]; simp
  have hb1 := h1.blk hb0
  clear hg hb0
  go_wp2_with fail
  refine (l3Draw_any _ _ 0 hR (by omega)).mono ?_
  rintro e w2 ⟨t, u, rfl, hV, hF, hR2, ho⟩
  have hct := (cnt_of_valid hV).1
  obtain ⟨a1, a2, a3, a4, a5, rfl⟩ := hF.three
  go_wp2_with fail
  refine (l1Mutate_any t _ _ _ _ hF.lies (by omega) hR2 (by omega)).mono ?_
  rintro e w3 ⟨t', u', rfl, hct', hF3, hR3, ho3⟩
  obtain ⟨b1, b2, b3, b4, b5, rfl⟩ := hF3.three
  have hx4 := (Ext.refl w3).alloc (.cells #[.int .i64 b1, .int .i64 b2, .slice b3 b4 b5] 44)
  have hb4 := heap_alloc_new w3 (.cells #[.int .i64 b1, .int .i64 b2, .slice b3 b4 b5] 44)
  have hb14 := hx4.blk (ho3.keepBlk (ho.keepBlk hb1 (by simp; omega)) (by simp; omega))
  have hO := ((ho.trans ho3).trans (Only.of_ext (L := [g]) hx4))
  have hF4 := hF3.ext hx4
  have hR4 := hR3.ext hx4
  have hg3 := hR3.lt
  have hs2 : w.heap.size < w2.heap.size := by have := lt_of_blk (ho.keepBlk hb1 (by simp; omega)); omega
  go_wp2_with fail
  generalize hw4 : w3.alloc _ = w4 at hx4 hb4 hb14 hO hF4 hR4 ⊢
  clear hw4
  obtain ⟨z0, z1, z2, -, -, -⟩ := own3 hb4
  have lz := lt_of_blk hb4
  have HS := Lib.hid (show ∀ w', Only [g] w4 w' → w'.cell? ⟨w3.heap.size, 0, none⟩ = some (.int .i64 b1) ∧ w'.cell? ⟨w3.heap.size, 1, none⟩ = some (.int .i64 b2) ∧ w'.cell? ⟨w3.heap.size, 2, none⟩ = some (.slice b3 b4 b5) from fun w' hw => by
    obtain ⟨y0, y1, y2, -, -, -⟩ := own3 (hw.keepBlk hb4 (by simp; omega))
    exact ⟨y0, y1, y2⟩)
  have hbR : ∀ w', Only [g] w4 w' → w'.heap[w.heap.size]? = some (.cells #[.int .i64 0, .int .i64 0, .slice none 0 0] 44 (0, 0)) := fun w' hw => hw.keepBlk hb14 (by simp; omega)
  have HBR := Lib.hid hbR
  have hwS : w.heap.size < w4.heap.size := lt_of_blk hb14
  have hs3w : w.heap.size < w3.heap.size := by have := ho3.size; omega
  obtain ⟨s0, s1, s2, f0, f1, f2⟩ := own3 hb14
  have HO4 := Lib.hid hO
  have HHS := Lib.hid (show ∀ w', Only [g] w4 w' → ∀ v0 v1 v2, (((w'.setCell ⟨w.heap.size, 0, none⟩ v0).setCell ⟨w.heap.size, 1, none⟩ v1).setCell ⟨w.heap.size, 2, none⟩ v2).cell? ⟨w3.heap.size, 0, none⟩ = some (.int .i64 b1) ∧ (((w'.setCell ⟨w.heap.size, 0, none⟩ v0).setCell ⟨w.heap.size, 1, none⟩ v1).setCell ⟨w.heap.size, 2, none⟩ v2).cell? ⟨w3.heap.size, 1, none⟩ = some (.int .i64 b2) ∧ (((w'.setCell ⟨w.heap.size, 0, none⟩ v0).setCell ⟨w.heap.size, 1, none⟩ v1).setCell ⟨w.heap.size, 2, none⟩ v2).cell? ⟨w3.heap.size, 2, none⟩ = some (.slice b3 b4 b5) from fun w' hw v0 v1 v2 => by
    obtain ⟨y0, y1, y2, -, -, -⟩ := own3 (blk_setCell_ne (blk_setCell_ne (blk_setCell_ne (hw.keepBlk hb4 (by simp; omega)) (p := ⟨w.heap.size, 0, none⟩) (by show w3.heap.size ≠ w.heap.size; omega) v0) (p := ⟨w.heap.size, 1, none⟩) (by show w3.heap.size ≠ w.heap.size; omega) v1) (p := ⟨w.heap.size, 2, none⟩) (by show w3.heap.size ≠ w.heap.size; omega) v2)
    exact ⟨y0, y1, y2⟩)
  clear z0 z1 z2 hb1 hb14 hbR hb4 hO
  have hD : Only [g] w4 w4.drew := Only.of_ext (Ext.refl w4).drew
  have hgw2 : g < w2.heap.size := hR2.lt
  have hx34 : w3.heap.size < w4.heap.size := lz
  clear s0 s1 s2 f0 f1 f2 hx4
  go_region_held3 (fun w' => w'.cell? ⟨w3.heap.size, 0, none⟩ = some (.int .i64 b1) ∧ w'.cell? ⟨w3.heap.size, 1, none⟩ = some (.int .i64 b2) ∧ w'.cell? ⟨w3.heap.size, 2, none⟩ = some (.slice b3 b4 b5))
    (first | exact HHS.out _ (hD.trans ho5) _ _ _ | exact HS.out _ (hD.trans ho5) | exact HS.out _ hD)
    (first | (go_at_call 98; refine (l8Path_any t' _ g _ _ (hF4.lies.ext (Ext.refl w4).drew) (hR4.ext (Ext.refl w4).drew) (by omega)).mono ?_; rintro e w5 ⟨x, p, rfl, hpl, hPA, hR5, ho5⟩; obtain ⟨q0, q1, q2, r0, r1, r2⟩ := own3 (HBR.out _ (hD.trans ho5))))
  have hwS5 : w.heap.size < w5.heap.size := by have := (hD.trans ho5).size; omega
  have hE := (HO4.out.trans (hD.trans ho5)).ext (hx0.trans h1) (by intro b hb; simp at hb; omega)
  have hF5 := hF4.only (hD.trans ho5) (by intro b hb; rw [List.mem_singleton.1 hb]; exact hgw2)
  go_wp2_with fail
  refine bodyPost_ret (v := .tuple #[.agg #[.int .i64 b1, .int .i64 b2, .slice b3 b4 b5], x]) (by simp [results, Try.results105, go_sem, q0, q1, q2]) rfl ⟨t', _, x, p, rfl, by omega, hpl, ?_, ?_, ?_⟩
  · exact (((hF5.set (by show w.heap.size < w2.heap.size; omega) _).set (by show w.heap.size < w2.heap.size; omega) _).set (by show w.heap.size < w2.heap.size; omega) _).since (by omega)
  · refine hPA.mono (fun b hb => ⟨by have h9 : w4.heap.size ≤ b := hb.1; omega, by simpa using hb.2⟩) (fun b hb => ?_)
    have hb1 : w4.heap.size ≤ b := hb.1
    rw [Below.heap_setCell _ _ _ _ (by show b ≠ w.heap.size; omega), Below.heap_setCell _ _ _ _ (by show b ≠ w.heap.size; omega), Below.heap_setCell _ _ _ _ (by show b ≠ w.heap.size; omega)]
  · exact ((hE.setCell (by simp) _).setCell (by simp) _).setCell (by simp) _
set_option maxRecDepth 100000 in
theorem drawContractAt_any (w : World) (A : Option Addr) (cap : Nat) (bs : List Int) (hl : bs.length ≤ cap) (hc : cap ≤ maxLen) (hB : Bytes w w.heap.size A bs) : Calls Try.prog 39 #[.slice A bs.length cap] w fun e w' =>
    ∃ t u x p, e = .returned (.tuple #[u, x]) ∧ cnt t ≤ 401 ∧ p.length ≤ 29 ∧ Lies w' t u ∧ PathAt w' (fun b => b < w'.heap.size) x p ∧ Ext w w' := by
  have hx0 := (Ext.refl w).alloc (.cells #[.int .i64 0, .int .i64 0, .slice none 0 0] 44)
  have hb0 := heap_alloc_new w (.cells #[.int .i64 0, .int .i64 0, .slice none 0 0] 44)
  go_enter Try.func39, Try.ntmps39
  go_wp2_with fail
  refine (drawTermAt_from _ A cap bs hl hc ((hB.ext hx0).mono hx0.size)).mono ?_
  rintro e w1 ⟨t, u, x, p, rfl, hct, hpl, hL, hP, h1⟩
  have hL := hL.since (C := w.heap.size + 1) (by simp)
  obtain ⟨b1, b2, b3, b4, b5, rfl⟩ := hL.three
  obtain ⟨s0, s1, s2, f0, f1, f2⟩ := own3 (h1.blk hb0)
  go_wp2_with fail
  refine bodyPost_ret (v := .tuple #[.agg #[.int .i64 b1, .int .i64 b2, .slice b3 b4 b5], x]) (by simp [results, Try.results39, go_sem, s0, s1, s2]) rfl ⟨t, _, x, p, rfl, hct, hpl, ?_, ?_, ?_⟩
  · exact (((hL.set (by simp) _).set (by simp) _).set (by simp) _).lies
  · refine hP.mono (fun b hb => by simpa using hb.2) (fun b hb => ?_)
    have hb1 : w.heap.size + 1 ≤ b := by have := hb.1; simpa using this
    rw [Below.heap_setCell _ _ _ _ (by show b ≠ w.heap.size; omega), Below.heap_setCell _ _ _ _ (by show b ≠ w.heap.size; omega), Below.heap_setCell _ _ _ _ (by show b ≠ w.heap.size; omega)]
  · exact (((hx0.trans h1).setCell (by simp) _).setCell (by simp) _).setCell (by simp) _
end Go.Proofs.Ytappakllopkfiaa

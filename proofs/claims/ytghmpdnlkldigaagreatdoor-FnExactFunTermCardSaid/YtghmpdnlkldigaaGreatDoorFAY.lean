/-
  Lemmas towards the law, 25: Parse7.
-/
import Derived.Test.YtghmpdnlkldigaaGreatDoorFAX
namespace Go.Proofs.YtghmpdnlkldigaaGreatDoor
open Go.RowKit
set_option linter.unusedVariables false
theorem ofL_tl (l : List UInt8) : (ofL l).toList = l := by rw [ByteArray.toList_eq, ofL_list]
theorem prsV_some {l : List UInt8} {t : Tr} {b : Nat} (h : prs 30 l 0 = some (t, b)) : prsV l = if l ≠ [] ∧ b = l.length ∧ fmtV t = l then some t else none := by
  unfold prsV
  rw [h]
theorem prsV_none {l : List UInt8} (h : prs 30 l 0 = none) : prsV l = none := by
  unfold prsV
  rw [h]
set_option maxRecDepth 100000 in
set_option maxHeartbeats 1000000 in
theorem parseTerm_any (s : ByteArray) (w : World) (hs : s.size ≤ 1000000000) : Calls Tryz.prog 62 #[.string s] w fun e w' => ∃ u, e = .returned (.tuple #[u, .bool (prsV s.data.toList).isSome]) ∧ From w.heap.size w' ((prsV s.data.toList).getD (.mk 0 0 [])) u ∧ Ext w w' := by
  have HP := Lib.hid (fun W => (show Calls Tryz.prog 87 #[.string s, .int .i64 0, .int .i64 30] W (ParseQ W.heap.size W s.size (prs 30 s.data.toList 0)) from parse_any 30 (by omega) s 0 W hs (by omega)))
  have hlen : s.data.toList.length = s.size := by rw [Array.length_toList]; rfl
  have htl := ByteArray.toList_eq s
  obtain ⟨R, hR⟩ : ∃ R, R = prsV s.data.toList := ⟨_, rfl⟩
  rw [← hR]
  obtain ⟨F, hF0⟩ : ∃ F, F = prs 30 s.data.toList 0 := ⟨_, rfl⟩
  rw [← hF0] at HP
  cases F with
  | none =>
    have hRn : R = none := by rw [hR]; exact prsV_none hF0.symm
    have HR := Lib.hid hRn
    obtain ⟨be, hbe⟩ : ∃ be, s.toList.isEmpty = be := ⟨_, rfl⟩
    have hbe2 : (s.toList == []) = be := by rw [← hbe]; cases s.toList <;> rfl
    have t1 : ((-1 : Int) != (s.size : Int)) = true := by rw [bne_iff_ne]; omega
    clear hR hF0 hlen htl hRn
    cases be
    all_goals (
      go_enter Tryz.func62, Tryz.ntmps62
      go_wp2_with fail
      refine (HP.out _).mono ?_
      rintro e w1 ⟨t, u, nx, rfl, hF, e1, -, q2⟩
      obtain rfl := q2 rfl
      obtain ⟨k0, n0, A0, l0, c0, rfl⟩ := hF.three
      have hx1 := (((Ext.refl w).alloc (.cells #[.int .i64 0, .int .i64 0, .slice none 0 0] 36)).trans e1).trans ((Ext.refl w1).alloc (.cells #[.int .i64 k0, .int .i64 n0, .slice A0 l0 c0] 36))
      have hb' := ((Ext.refl w1).alloc (.cells #[.int .i64 k0, .int .i64 n0, .slice A0 l0 c0] 36)).blk e1.newBlk
      obtain ⟨s0, s1, s2, f0, f1, f2⟩ := own3 hb'
      clear hb' q2
      go_wp2_with fail
      exact bodyPost_ret (v := .tuple #[.agg #[.int .i64 0, .int .i64 0, .slice none 0 0], .bool false]) (by simp [results, Tryz.results62, go_sem, s0, s1, s2]) rfl ⟨_, by rw [HR.out]; rfl, by rw [HR.out]; exact From.leaf _ _ _ _, ((hx1.setCell (by simp) _).setCell (by simp) _).setCell (by simp) _⟩)
  | some y =>
    obtain ⟨t, b⟩ := y
    have hRs : R = if s.data.toList ≠ [] ∧ b = s.data.toList.length ∧ fmtV t = s.data.toList then some t else none := by rw [hR]; exact prsV_some hF0.symm
    have hne : s.data.toList ≠ [] := by
      intro h
      rw [h] at hF0
      rw [prs_none (by simp)] at hF0
      cases hF0
    have hbe : s.toList.isEmpty = false := by rw [htl]; cases hq : s.data.toList with | nil => exact absurd hq hne | cons => rfl
    have hbe2 : (s.toList == []) = false := by rw [htl]; cases hq : s.data.toList with | nil => exact absurd hq hne | cons => rfl
    have hbe3 : ¬ (s.toList = []) := by rw [htl]; exact hne
    rw [hlen] at hRs
    by_cases hb : b = s.size
    · obtain ⟨fv, hfv⟩ : ∃ fv, fv = fmtV t := ⟨_, rfl⟩
      rw [← hfv] at hRs
      have HF := Lib.hid (fun W v (h : Lies W t v) => formatTerm_any t W v h)
      rw [← hfv] at HF
      have t1 : ((b : Int) != (s.size : Int)) = false := by simp [hb]
      obtain ⟨bq, hbq⟩ : ∃ bq, ((ofL fv).toList == s.toList) = bq := ⟨_, rfl⟩
      have hRb : R = if bq = true then some t else none := by
        rw [hRs, ← hbq, ofL_tl, htl]
        by_cases hq : fv = s.data.toList
        · rw [if_pos ⟨hne, hb, hq⟩, if_pos (by rw [hq]; simp)]
        · rw [if_neg (fun h => hq h.2.2), if_neg (by simpa using hq)]
      have HR := Lib.hid hRb
      have HFV := Lib.hid hbq
      clear hR hF0 hRs hne htl hfv hRb hlen hb
      go_enter Tryz.func62, Tryz.ntmps62
      go_wp2_with fail
      refine (HP.out _).mono ?_
      rintro e w1 ⟨t', u, nx, rfl, hF, e1, q1, -⟩
      obtain ⟨h1, h2, h3⟩ := q1 _ rfl
      simp only at h1 h2 h3
      subst h1 h2
      obtain ⟨k0, n0, A0, l0, c0, rfl⟩ := hF.three
      have hsz := e1.size_alloc
      have hx1 := (((Ext.refl w).alloc (.cells #[.int .i64 0, .int .i64 0, .slice none 0 0] 36)).trans e1).trans ((Ext.refl w1).alloc (.cells #[.int .i64 k0, .int .i64 n0, .slice A0 l0 c0] 36))
      have hb' := ((Ext.refl w1).alloc (.cells #[.int .i64 k0, .int .i64 n0, .slice A0 l0 c0] 36)).blk e1.newBlk
      have hbT := heap_alloc_new w1 (.cells #[.int .i64 k0, .int .i64 n0, .slice A0 l0 c0] 36)
      have hFT : From (w.heap.size + 1) (w1.alloc (.cells #[.int .i64 k0, .int .i64 n0, .slice A0 l0 c0] 36)) t' (.agg #[.int .i64 k0, .int .i64 n0, .slice A0 l0 c0]) := by simpa using hF.ext ((Ext.refl w1).alloc (.cells #[.int .i64 k0, .int .i64 n0, .slice A0 l0 c0] 36))
      clear hF hsz q1
      go_wp2_with fail
      refine (HF.out _ _ hFT.lies).mono ?_
      rintro e w2 ⟨rfl, e2⟩
      have hx2 := hx1.trans e2
      have hF2 := hFT.ext e2
      obtain ⟨s0, s1, s2, f0, f1, f2⟩ := own3 (e2.blk hb')
      obtain ⟨x0, x1, x2, -, -, -⟩ := own3 (e2.blk hbT)
      have hq := HFV.out
      clear hb' hbT
      cases bq with
      | false =>
        go_wp2_with fail
        exact bodyPost_ret (v := .tuple #[.agg #[.int .i64 0, .int .i64 0, .slice none 0 0], .bool false]) (by simp [results, Tryz.results62, go_sem, s0, s1, s2]) rfl ⟨_, by rw [HR.out]; rfl, by rw [HR.out]; exact From.leaf _ _ _ _, ((hx2.setCell (by simp) _).setCell (by simp) _).setCell (by simp) _⟩
      | true =>
        go_wp2_with fail
        exact bodyPost_ret (v := .tuple #[.agg #[.int .i64 k0, .int .i64 n0, .slice A0 l0 c0], .bool true]) (by simp [results, Tryz.results62, go_sem, s0, s1, s2]) rfl ⟨_, by rw [HR.out]; rfl, by rw [HR.out]; exact (((hF2.set (by simp) _).set (by simp) _).set (by simp) _).since (by omega), ((hx2.setCell (by simp) _).setCell (by simp) _).setCell (by simp) _⟩
    · have hRn : R = none := by rw [hRs, if_neg (fun h => hb h.2.1)]
      have HR := Lib.hid hRn
      have t1 : ((b : Int) != (s.size : Int)) = true := by rw [bne_iff_ne]; omega
      clear hR hF0 hRs hne htl hRn hlen hb
      go_enter Tryz.func62, Tryz.ntmps62
      go_wp2_with fail
      refine (HP.out _).mono ?_
      rintro e w1 ⟨t', u, nx, rfl, hF, e1, q1, -⟩
      obtain ⟨h1, h2, h3⟩ := q1 _ rfl
      simp only at h1 h2 h3
      subst h1 h2
      obtain ⟨k0, n0, A0, l0, c0, rfl⟩ := hF.three
      have hx1 := (((Ext.refl w).alloc (.cells #[.int .i64 0, .int .i64 0, .slice none 0 0] 36)).trans e1).trans ((Ext.refl w1).alloc (.cells #[.int .i64 k0, .int .i64 n0, .slice A0 l0 c0] 36))
      have hb' := ((Ext.refl w1).alloc (.cells #[.int .i64 k0, .int .i64 n0, .slice A0 l0 c0] 36)).blk e1.newBlk
      obtain ⟨s0, s1, s2, f0, f1, f2⟩ := own3 hb'
      clear hb' q1
      go_wp2_with fail
      exact bodyPost_ret (v := .tuple #[.agg #[.int .i64 0, .int .i64 0, .slice none 0 0], .bool false]) (by simp [results, Tryz.results62, go_sem, s0, s1, s2]) rfl ⟨_, by rw [HR.out]; rfl, by rw [HR.out]; exact From.leaf _ _ _ _, ((hx1.setCell (by simp) _).setCell (by simp) _).setCell (by simp) _⟩
end Go.Proofs.YtghmpdnlkldigaaGreatDoor

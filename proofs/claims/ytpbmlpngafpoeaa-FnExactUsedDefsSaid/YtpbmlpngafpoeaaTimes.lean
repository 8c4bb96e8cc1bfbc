/-
  l2Times: how often a free variable occurs.
-/
import Derived.Test.YtpbmlpngafpoeaaFvs
namespace Go.Proofs.Ytpbmlpngafpoeaa
open Go.RowKit
set_option linter.unusedVariables false

mutual
theorem tms_le : ∀ (t : Tr) (x : Int), 0 ≤ tms t x ∧ tms t x ≤ cnt t
  | .mk k n ks, x => by
    have := tmss_le k ks 0 x
    unfold tms
    simp only [cnt]
    split <;> omega
theorem tmss_le : ∀ (k : Int) (ts : List Tr) (i : Nat) (x : Int), 0 ≤ tmss k ts i x ∧ tmss k ts i x ≤ cnts ts
  | _, [], _, _ => by simp [tmss, cnts]
  | k, t :: ts, i, x => by
    have h1 := tms_le t (x + und k i)
    have h2 := tmss_le k ts (i + 1) x
    unfold tmss
    simp only [cnts]
    omega
end
def TimesC (t : Tr) : Prop := ∀ (w : World) (v : Value) (x d : Int), shape sigT t d = true → Lies w t v → 0 ≤ x → x + cnt t ≤ 1000000 → Calls Try.prog 73 #[v, .int .i64 x] w fun e w' => e = .returned (.int .i64 (tms t x)) ∧ Ext w w'
set_option maxRecDepth 100000 in
set_option maxHeartbeats 1000000 in
theorem l2Times_any : ∀ t : Tr, TimesC t := Tr.ind fun k n ks hk => by
  intro w v x d hsh hin hb0 hb1
  obtain ⟨A, cap, rfl, hl, hc, hK⟩ := Lies.mk_iff.1 hin
  obtain ⟨-, hn0, hn1, hsk⟩ := shape_kids' hsh
  have hlc := len_le_cnts ks
  have hcc := hc
  unfold maxLen at hcc
  simp only [cnt] at hb1
  have hmost : n ≤ 20 := by
    have : sigT.most k = mostT k := rfl
    rw [this] at hn1
    unfold mostT at hn1
    split at hn1
    · omega
    · split at hn1 <;> omega
  have HTOT := Lib.hid (show tms (.mk k n ks) x = (if k = 1 ∧ n = x then 1 else 0) + tmss k ks 0 x from by conv => lhs; unfold tms)
  obtain ⟨z0, hz0⟩ : ∃ z0 : Int, z0 = if k = 1 ∧ n = x then 1 else 0 := ⟨_, rfl⟩
  rw [← hz0] at HTOT
  have hzr : 0 ≤ z0 ∧ z0 ≤ 1 := by rw [hz0]; split <;> omega
  obtain ⟨b1, d1⟩ : ∃ b1, (k == 1) = b1 := ⟨_, rfl⟩
  obtain ⟨b2, d2⟩ : ∃ b2, (n == x) = b2 := ⟨_, rfl⟩
  have hzz : z0 = if (b1 && b2) = true then 1 else 0 := by
    rw [hz0, ← d1, ← d2]; simp
  clear hz0
  cases b1 <;> cases b2
  all_goals simp only [Bool.and_true, Bool.and_false, if_true, Bool.false_eq_true, if_false] at hzz
  all_goals (
    go_enter Try.func73, Try.ntmps73
    go_wp2_with fail
    have hx := (Ext.refl w).alloc (.cells #[.int .i64 k, .int .i64 n, .slice A ks.length cap] 42)
    have hbx := heap_alloc_new w (.cells #[.int .i64 k, .int .i64 n, .slice A ks.length cap] 42)
    generalize w.alloc _ = w1 at hx hbx
    go_loopw [5, 6] (fun q i wr => ∃ (j : Nat) (m : Int), j ≤ ks.length ∧ i = .int .i64 j ∧ q = .int .i64 m ∧ 0 ≤ m ∧ z0 + tmss k ks 0 x = m + tmss k (ks.drop j) j x ∧ m + cnts (ks.drop j) ≤ 1 + cnts ks ∧ Ext w1 wr) (fun _ i _ => ks.length - (intOf i).toNat)
    case atStart => exact ⟨0, z0, Nat.zero_le _, rfl, by rw [hzz], hzr.1, rfl, by rw [List.drop_zero]; omega, Ext.refl _⟩
    case round =>
      obtain ⟨j, m, hj, rfl, rfl, hm0, heq, hmb, he⟩ := hrel
      have HE := Lib.hid heq
      clear heq
      have h1r := hx.trans he
      obtain ⟨x0, x1, x2, -, -, -⟩ := own3 (he.blk hbx)
      have hub := und_le k j
      by_cases hlt : j < ks.length
      · obtain ⟨b', o, k', n', A', cap', kids, rfl, HK, c0, c1, c2, hkl, hkc, hK', hin', hmem⟩ := hK.get h1r hlt
        have hst : tmss k (ks.drop j) j x = tms (.mk k' n' kids) (x + und k j) + tmss k (ks.drop (j + 1)) (j + 1) x := by
          rw [List.drop_eq_getElem_cons hlt, HK.out]; conv => lhs; unfold tmss
        have hcm := cnt_mem hmem
        have hcd : cnts (ks.drop j) = cnt (.mk k' n' kids) + cnts (ks.drop (j + 1)) := by
          rw [List.drop_eq_getElem_cons hlt, HK.out]; simp only [cnts]
        have hmb2 : m + (cnt (.mk k' n' kids) : Int) ≤ 1 + cnts ks := by omega
        have hj' : (j : Int) < (ks.length : Int) := by omega
        have HR := Lib.hid (hk _ hmem)
        have hsk' := hsk _ hmem
        obtain ⟨u, hu⟩ : ∃ u, u = und k j := ⟨_, rfl⟩
        have HU := Lib.hid (fun W => l2Under_any k j W)
        rw [← hu] at HU hub hst
        have hnn := tms_le (.mk k' n' kids) (x + u)
        obtain ⟨r, hr⟩ : ∃ r, r = tms (.mk k' n' kids) (x + u) := ⟨_, rfl⟩
        have HQ := Lib.hid (fun W (hW : Ext wr W) => HR.out W _ (x + u) _ hsk' (hin'.ext hW) (by omega) (by omega))
        rw [← hr] at hst hnn HQ
        have HT := Lib.hid hst
        clear hu hst hr HR
        have y0 := Later.cell x0
        have y2 := Later.cell x2
        have y3 := Later.cell c0
        have y4 := Later.cell c1
        have y5 := Later.cell c2
        go_wp2_with fail
        refine wp_region_later (by kernel_rfl) (by kernel_rfl) ?_
        repeat (go_big_quiet_step (first | (go_at_call 122; exact later_of_same (HU.out _)) | (go_at_call 73; exact later_of (HQ.out _ (Later.ext _)))))
        refine wpQuiet_nil ?_
        intro w3 hw'
        obtain ⟨⟨_, h3⟩, rfl⟩ := hw'
        clear y0 y2 y3 y4 y5
        go_wp2_with fail
        go_roundw
        case rel => exact ⟨j + 1, m + r, by omega, by go_num, rfl, by omega, by rw [HE.out, HT.out, Int.add_assoc], by omega, he.trans h3⟩
        case measure => simp [intOf]; omega
      · go_wp2_with fail
        go_ret
        exact ⟨by rw [HTOT.out, HE.out, List.drop_of_length_le (by omega)]; simp only [tmss]; rw [Int.add_zero]; rfl, h1r⟩)
end Go.Proofs.Ytpbmlpngafpoeaa

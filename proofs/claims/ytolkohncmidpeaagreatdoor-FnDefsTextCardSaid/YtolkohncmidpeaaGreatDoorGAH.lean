/-
  Lemmas towards the law, 8: Free.
-/
import Derived.Test.YtolkohncmidpeaaGreatDoorGAE
import Derived.Test.YtolkohncmidpeaaGreatDoorGAG
import Derived.Outline
namespace Go.Proofs.YtolkohncmidpeaaGreatDoor
open Go.RowKit
set_option linter.unusedVariables false
/-- The binders that an operand stands under. -/
def und (k : Int) (i : Nat) : Int := if i = 1 ∧ (k = 3 ∨ k = 4 ∨ k = 13) then 1 else 0
theorem und_le (k : Int) (i : Nat) : 0 ≤ und k i ∧ und k i ≤ 1 := by unfold und; split <;> omega
def isB (k : Int) : Bool := k == 3 || k == 4 || k == 13
theorem und_eq (k : Int) (i : Nat) : und k i = if ((i : Int) == 1 && isB k) = true then 1 else 0 := by
  unfold und isB
  by_cases h : i = 1
  · subst h
    by_cases h3 : k = 3
    · subst h3; rfl
    · by_cases h4 : k = 4
      · subst h4; rfl
      · by_cases h13 : k = 13
        · subst h13; rfl
        · rw [if_neg (by omega), if_neg (by simp [h3, h4, h13])]
  · rw [if_neg (by omega), if_neg (by rw [beq_eq_false_iff_ne.2 (by omega : (i : Int) ≠ 1)]; simp)]
theorem shape_kids' {g : Sig} {k n : Int} {ks : List Tr} {d : Int} (h : shape g (.mk k n ks) d = true) : g.ops k = (ks.length : Int) ∧ 0 ≤ n ∧ n ≤ g.most k ∧ ∀ t ∈ ks, shape g t (d - 1) = true := by
  have mem : ∀ {ks : List Tr} {d : Int} {t : Tr}, shapes g ks d = true → t ∈ ks → shape g t d = true := by
    intro ks
    induction ks with
    | nil => intro d t _ hm; cases hm
    | cons x ks ih =>
      intro d t h hm
      simp only [shapes, Bool.and_eq_true] at h
      rcases List.mem_cons.1 hm with rfl | hm
      · exact h.1
      · exact ih h.2 hm
  simp only [shape, headOk, Bool.and_eq_true] at h
  have h1 := of_decide_eq_true h.2.1.1
  have h2 := inR_iff.1 h.2.1.2
  exact ⟨h1, h2.1, h2.2, fun t ht => mem h.2.2 ht⟩
mutual
/-- The greatest free variable, and 1; 0 where there is none. -/
def mxf : Tr → Int → Int
  | .mk k n ks, b => max (if k = 1 ∧ b ≤ n then n - b + 1 else 0) (mxfs k ks 0 b)
def mxfs : Int → List Tr → Nat → Int → Int
  | _, [], _, _ => 0
  | k, t :: ts, i, b => max (mxf t (b + und k i)) (mxfs k ts (i + 1) b)
end
mutual
theorem mxf_nonneg : ∀ (t : Tr) (b : Int), 0 ≤ mxf t b
  | .mk k n ks, b => by
    have := mxfs_nonneg k ks 0 b
    simp only [mxf]
    omega
theorem mxfs_nonneg : ∀ (k : Int) (ts : List Tr) (i : Nat) (b : Int), 0 ≤ mxfs k ts i b
  | _, [], _, _ => by simp [mxfs]
  | k, t :: ts, i, b => by
    have := mxfs_nonneg k ts (i + 1) b
    simp only [mxfs]
    omega
end
theorem isBinder_any (k : Int) (w : World) : Calls Tryz.prog 155 #[.int .i64 k] w fun e w' => e = .returned (.bool (isB k)) ∧ w = w' := by
  obtain ⟨b3, h3⟩ : ∃ b, (k == 3) = b := ⟨_, rfl⟩
  obtain ⟨b4, h4⟩ : ∃ b, (k == 4) = b := ⟨_, rfl⟩
  obtain ⟨b13, h13⟩ : ∃ b, (k == 13) = b := ⟨_, rfl⟩
  have e : isB k = (b3 || b4 || b13) := by unfold isB; rw [h3, h4, h13]
  have E := Lib.hid e
  clear e
  cases b3 <;> cases b4 <;> cases b13
  all_goals go_enter Tryz.func155, Tryz.ntmps155
  all_goals go_wp2_with fail
  all_goals go_ret
  all_goals exact ⟨by rw [E.out]; rfl, rfl⟩
theorem under_any (k : Int) (i : Nat) (w : World) : Calls Tryz.prog 125 #[.int .i64 k, .int .i64 i] w fun e w' => e = .returned (.int .i64 (und k i)) ∧ w = w' := by
  obtain ⟨b1, h1⟩ : ∃ b, ((i : Int) == 1) = b := ⟨_, rfl⟩
  have HB := Lib.hid (isBinder_any k)
  obtain ⟨b2, h2⟩ : ∃ b, isB k = b := ⟨_, rfl⟩
  have E := Lib.hid (und_eq k i)
  rw [h1, h2] at E
  rw [h2] at HB
  clear h2
  cases b1 <;> cases b2
  all_goals go_enter Tryz.func125, Tryz.ntmps125
  all_goals go_wp2_with (go_at_call 155; refine (HB.out _).mono ?_; rintro e w1 ⟨rfl, rfl⟩)
  all_goals go_ret
  all_goals exact ⟨by rw [E.out]; rfl, rfl⟩
theorem l2Binds_any (k : Int) (i : Nat) (w : World) : Calls Tryz.prog 158 #[.int .i64 k, .int .i64 i] w fun e w' => e = .returned (.bool ((i : Int) == 1 && isB k)) ∧ w = w' := by
  obtain ⟨b1, h1⟩ : ∃ b, ((i : Int) == 1) = b := ⟨_, rfl⟩
  obtain ⟨b3, h3⟩ : ∃ b, (k == 3) = b := ⟨_, rfl⟩
  obtain ⟨b4, h4⟩ : ∃ b, (k == 4) = b := ⟨_, rfl⟩
  obtain ⟨b13, h13⟩ : ∃ b, (k == 13) = b := ⟨_, rfl⟩
  have e : ((i : Int) == 1 && isB k) = (b1 && (b3 || b4 || b13)) := by unfold isB; rw [h1, h3, h4, h13]
  have E := Lib.hid e
  clear e
  cases b1 <;> cases b3 <;> cases b4 <;> cases b13
  all_goals go_enter Tryz.func158, Tryz.ntmps158
  all_goals go_wp2_with fail
  all_goals go_ret
  all_goals exact ⟨by rw [E.out]; rfl, rfl⟩
theorem l2Under_any (k : Int) (i : Nat) (w : World) : Calls Tryz.prog 128 #[.int .i64 k, .int .i64 i] w fun e w' => e = .returned (.int .i64 (und k i)) ∧ w = w' := by
  have HB := Lib.hid (l2Binds_any k i)
  have E := Lib.hid (und_eq k i)
  obtain ⟨b2, h2⟩ : ∃ b, ((i : Int) == 1 && isB k) = b := ⟨_, rfl⟩
  rw [h2] at E HB
  clear h2
  cases b2
  all_goals go_enter Tryz.func128, Tryz.ntmps128
  all_goals go_wp2_with (go_at_call 158; refine (HB.out _).mono ?_; rintro e w1 ⟨rfl, rfl⟩)
  all_goals go_ret
  all_goals exact ⟨by rw [E.out]; rfl, rfl⟩
def MostC (t : Tr) : Prop := ∀ (w : World) (v : Value) (b : Int) (d : Int), shape sigT t d = true → Lies w t v → 0 ≤ b → b + cnt t ≤ 1000000 → Calls Tryz.prog 88 #[v, .int .i64 b] w fun e w' => e = .returned (.int .i64 (mxf t b)) ∧ Ext w w'
set_option maxRecDepth 100000 in
set_option maxHeartbeats 1000000 in
theorem l2Most_any : ∀ t : Tr, MostC t := Tr.ind fun k n ks hk => by
  intro w v b d hsh hin hb0 hb1
  obtain ⟨A, cap, rfl, hl, hc, hK⟩ := Lies.mk_iff.1 hin
  obtain ⟨-, hn0, hn1, hsk⟩ := shape_kids' hsh
  have hlc := len_le_cnts ks
  have hcc := hc
  unfold maxLen at hcc
  simp only [cnt] at hb1
  have hmost : n ≤ 20 := by
    have : sigT.most k = mostT k := rfl
    rw [this] at hn1
    unfold mostT at hn1
    split at hn1
    · omega
    · split at hn1 <;> omega
  have HTOT := Lib.hid (show mxf (.mk k n ks) b = max (if k = 1 ∧ b ≤ n then n - b + 1 else 0) (mxfs k ks 0 b) from by conv => lhs; unfold mxf)
  obtain ⟨z0, hz0⟩ : ∃ z0 : Int, z0 = if k = 1 ∧ b ≤ n then n - b + 1 else 0 := ⟨_, rfl⟩
  rw [← hz0] at HTOT
  have hzr : 0 ≤ z0 ∧ z0 ≤ 21 := by rw [hz0]; split <;> omega
  obtain ⟨b1, d1⟩ : ∃ b1, (k == 1) = b1 := ⟨_, rfl⟩
  obtain ⟨b2, d2⟩ : ∃ b2, decide (b ≤ n) = b2 := ⟨_, rfl⟩
  have hzz : z0 = if (b1 && b2) = true then n - b + 1 else 0 := by
    rw [hz0, ← d1, ← d2]; simp
  clear hz0
  cases b1 <;> cases b2
  all_goals simp only [Bool.and_true, Bool.and_false, if_true, Bool.false_eq_true, if_false] at hzz
  all_goals (
    go_enter Tryz.func88, Tryz.ntmps88
    go_wp2_with fail
    have hx := (Ext.refl w).alloc (.cells #[.int .i64 k, .int .i64 n, .slice A ks.length cap] 45)
    have hbx := heap_alloc_new w (.cells #[.int .i64 k, .int .i64 n, .slice A ks.length cap] 45)
    generalize w.alloc _ = w1 at hx hbx
    go_loopw [5, 6] (fun q i wr => ∃ (j : Nat) (m : Int), j ≤ ks.length ∧ i = .int .i64 j ∧ q = .int .i64 m ∧ 0 ≤ m ∧ max z0 (mxfs k ks 0 b) = max m (mxfs k (ks.drop j) j b) ∧ Ext w1 wr) (fun _ i _ => ks.length - (intOf i).toNat)
    case atStart => exact ⟨0, z0, Nat.zero_le _, rfl, by rw [hzz], hzr.1, rfl, Ext.refl _⟩
    case round =>
      obtain ⟨j, m, hj, rfl, rfl, hm0, heq, he⟩ := hrel
      have HE := Lib.hid heq
      clear heq
      have h1r := hx.trans he
      obtain ⟨x0, x1, x2, -, -, -⟩ := own3 (he.blk hbx)
      have hub := und_le k j
      by_cases hlt : j < ks.length
      · obtain ⟨b', o, k', n', A', cap', kids, rfl, HK, c0, c1, c2, hkl, hkc, hK', hin', hmem⟩ := hK.get h1r hlt
        have hst : mxfs k (ks.drop j) j b = max (mxf (.mk k' n' kids) (b + und k j)) (mxfs k (ks.drop (j + 1)) (j + 1) b) := by
          rw [List.drop_eq_getElem_cons hlt, HK.out]; conv => lhs; unfold mxfs
        have hcm := cnt_mem hmem
        have hj' : (j : Int) < (ks.length : Int) := by omega
        have HR := Lib.hid (hk _ hmem)
        have hsk' := hsk _ hmem
        obtain ⟨u, hu⟩ : ∃ u, u = und k j := ⟨_, rfl⟩
        have HU := Lib.hid (fun W => l2Under_any k j W)
        rw [← hu] at HU hub hst
        have hnn := mxf_nonneg (.mk k' n' kids) (b + u)
        obtain ⟨r, hr⟩ : ∃ r, r = mxf (.mk k' n' kids) (b + u) := ⟨_, rfl⟩
        have HQ := Lib.hid (fun W (hW : Ext wr W) => HR.out W _ (b + u) _ hsk' (hin'.ext hW) (by omega) (by omega))
        rw [← hr] at hst hnn HQ
        have HT := Lib.hid hst
        clear hu hst hr HR
        have y0 := Later.cell x0
        have y2 := Later.cell x2
        have y3 := Later.cell c0
        have y4 := Later.cell c1
        have y5 := Later.cell c2
        go_wp2_with fail
        refine wp_region_later (by kernel_rfl) (by kernel_rfl) ?_
        repeat (go_big_quiet_step (first | (go_at_call 128; exact later_of_same (HU.out _)) | (go_at_call 88; exact later_of (HQ.out _ (Later.ext _)))))
        refine wpQuiet_nil ?_
        intro w3 hw'
        obtain ⟨⟨_, h3⟩, rfl⟩ := hw'
        clear y0 y2 y3 y4 y5
        obtain ⟨g, hg⟩ : ∃ g, decide (m < r) = g := ⟨_, rfl⟩
        have hmx : max m r = if g = true then r else m := by
          rw [← hg]; by_cases h : m < r
          · rw [if_pos (decide_eq_true h)]; omega
          · rw [if_neg (by simpa using h)]; omega
        cases g <;> simp only [if_true, Bool.false_eq_true, if_false] at hmx
        all_goals (
          have HM := Lib.hid hmx
          clear hmx
          go_wp2_with fail
          go_roundw
          case rel => exact ⟨j + 1, _, by omega, by go_num, rfl, by omega, by rw [HE.out, HT.out, ← Int.max_assoc, HM.out], he.trans h3⟩
          case measure => simp [intOf]; omega)
      · go_wp2_with fail
        go_ret
        exact ⟨by rw [HTOT.out, HE.out, List.drop_of_length_le (by omega)]; simp only [mxfs]; rw [Int.max_eq_left hm0]; rfl, h1r⟩)
/-- MaxFree's answer. -/
def mxV (t : Tr) : Int := if valid sigT t = true then mxf t 0 else -1
theorem valid_parts {g : Sig} {t : Tr} (h : valid g t = true) : shape g t 30 = true ∧ cnt t ≤ 400 := by
  unfold valid at h
  rw [Bool.and_eq_true] at h
  exact ⟨h.1, of_decide_eq_true h.2⟩
theorem specMaxFree_any (t : Tr) (w : World) (v : Value) (hin : Lies w t v) : Calls Tryz.prog 45 #[v] w fun e w' => e = .returned (.int .i64 (mxV t)) ∧ Ext w w' := by
  have HS := Lib.hid (fun W (hW : Ext w W) => specValidTerm t W v (hin.ext hW))
  have hM : valid sigT t = true → ∀ W, Ext w W → Calls Tryz.prog 88 #[v, .int .i64 0] W fun e w' => e = .returned (.int .i64 (mxf t 0)) ∧ Ext W w' := fun h W hW => by
    have h2 := valid_parts h
    exact l2Most_any t W v 0 30 h2.1 (hin.ext hW) (by omega) (by omega)
  have HV := Lib.hid (show mxV t = if valid sigT t = true then mxf t 0 else -1 from rfl)
  obtain ⟨s, hs⟩ : ∃ s, valid sigT t = s := ⟨_, rfl⟩
  rw [hs] at hM HS HV
  clear hs
  have HM := Lib.hid hM
  clear hM
  obtain ⟨k, n, ks⟩ := t
  obtain ⟨A, cap, rfl, hl, hc, h⟩ := Lies.mk_iff.1 hin
  go_enter Tryz.func45, Tryz.ntmps45
  go_wp2_with fail
  refine (HS.out _ ((Ext.refl w).alloc _)).mono ?_
  rintro e w1 ⟨rfl, h1⟩
  obtain ⟨y0, y1, y2, -, -, -⟩ := own3 h1.newBlk
  cases s with
  | false =>
    go_wp2_with fail
    go_ret
    exact ⟨by rw [HV.out]; rfl, h1.pre⟩
  | true =>
    have HM' := Lib.hid (HM.out rfl)
    clear HM
    go_wp2_with fail
    refine (HM'.out _ h1.pre).mono ?_
    rintro e w2 ⟨rfl, h2⟩
    go_wp2_with fail
    go_ret
    exact ⟨by rw [HV.out]; rfl, h1.pre.trans h2⟩
end Go.Proofs.YtolkohncmidpeaaGreatDoor

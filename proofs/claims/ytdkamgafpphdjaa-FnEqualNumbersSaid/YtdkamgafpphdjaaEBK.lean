/-
  Lemmas towards the law, 37: InfA, MCk.
-/
import Derived.Test.YtdkamgafpphdjaaEBI
import Derived.Test.YtdkamgafpphdjaaEBJ
namespace Go.Proofs.Ytdkamgafpphdjaa
open Go.RowKit
set_option linter.unusedVariables false
theorem mkV_yes {t : Tr} (h : valid sigT t = true) : mkV t = (t, 0) := if_pos h
theorem mkV_not {t : Tr} (h : valid sigT t = false) : mkV t = (dflt0, 2) := if_neg (by rw [h]; decide)
set_option maxRecDepth 100000 in
set_option maxHeartbeats 1000000 in
theorem made_any (t : Tr) (ok : Bool) (w0 : World) (N : Nat → Prop) (v : Value) (hin : InT w0 N t v) : Calls Try.prog 44 #[v, .bool ok] w0 (AnQ N w0 (if ok = true then mkV t else (dflt0, 2))) := by
  have HV := Lib.hid (fun W (hW : Ext w0 W) => validTerm_any t W v (hin.lies'.ext hW))
  have HIN := Lib.hid hin
  obtain ⟨z, hz⟩ : ∃ z, valid sigT t = z := ⟨_, rfl⟩
  rw [hz] at HV
  obtain ⟨k, n, ks⟩ := t
  obtain ⟨A, cap, rfl, hl, hc, hK⟩ := InT.mk_iff.1 hin
  clear hin
  cases ok with
  | false =>
    rw [if_neg (by simp)]
    clear hz
    go_enter Try.func44, Try.ntmps44
    go_wp2_with fail
    exact bodyPost_ret (v := .tuple #[.agg #[.int .i64 0, .int .i64 0, .slice none 0 0], .int .i64 2]) (by simp [results, Try.results44, go_sem]) rfl ⟨_, rfl, leafT _ _ 0 0, (((Ext.refl _).alloc _).alloc _)⟩
  | true =>
    rw [if_pos rfl]
    obtain ⟨w1, hw1⟩ : ∃ x, x = ((w0.alloc (.cells #[.int .i64 k, .int .i64 n, .slice A ks.length cap] 27)).alloc (.cells #[.int .i64 0, .int .i64 0, .slice none 0 0] 27)) := ⟨_, rfl⟩
    obtain ⟨bt_1, br_1, s1, e1⟩ := box2 hw1
    cases z with
    | false =>
      rw [mkV_not hz]
      clear hz
      go_enter Try.func44, Try.ntmps44
      go_wp2_with fail
      rw [← hw1]
      clear hw1
      refine (HV.out _ e1).mono ?_
      rintro e w2 ⟨rfl, e2⟩
      have s2 := e2.size
      have bt_2 := e2.blk bt_1
      obtain ⟨zt0, zt1, zt2, -⟩ := own3 bt_2
      have lt := lt_of_blk bt_2
      have br_2 := e2.blk br_1
      obtain ⟨zr0, zr1, zr2, yr0, yr1, yr2⟩ := own3 br_2
      have lr := lt_of_blk br_2
      have X0_1 := e1
      have X0_2 := X0_1.trans e2
      go_wp2_with fail
      refine bodyPost_ret (v := .tuple #[.agg #[.int .i64 0, .int .i64 0, .slice none 0 0], .int .i64 2]) (by simp [results, Try.results44, go_sem, zr0, zr1, zr2]) rfl ⟨_, rfl, leafT _ _ 0 0, (X0_2.set3 (by omega) _ _ _)⟩
    | true =>
      rw [mkV_yes hz]
      clear hz
      go_enter Try.func44, Try.ntmps44
      go_wp2_with fail
      rw [← hw1]
      clear hw1
      refine (HV.out _ e1).mono ?_
      rintro e w2 ⟨rfl, e2⟩
      have s2 := e2.size
      have X0_1 := e1
      have X0_2 := X0_1.trans e2
      have bt_2 := e2.blk bt_1
      obtain ⟨zt0, zt1, zt2, -⟩ := own3 bt_2
      have lt := lt_of_blk bt_2
      have br_2 := e2.blk br_1
      obtain ⟨zr0, zr1, zr2, yr0, yr1, yr2⟩ := own3 br_2
      have lr := lt_of_blk br_2
      go_wp2_with fail
      refine bodyPost_ret (v := .tuple #[.agg #[.int .i64 k, .int .i64 n, .slice A ks.length cap], .int .i64 0]) (by simp [results, Try.results44, go_sem, zr0, zr1, zr2]) rfl ⟨_, rfl, InT.ret (InT.keep HIN.out X0_2 (show w0.heap.size ≤ w0.heap.size + 1 from Nat.le_succ _)) _ _ _, (X0_2.set3 (by omega) _ _ _)⟩
set_option maxRecDepth 100000 in
set_option maxHeartbeats 1000000 in
theorem converts_any (a b : Tr) (w0 : World) (va vb : Value) (ha : Lies w0 a va) (hb : Lies w0 b vb) : Calls Try.prog 31 #[va, vb] w0 fun e w' => e = .returned (.int .i64 (cvtV a b)) ∧ Ext w0 w' := by
  have HC := Lib.hid (fun W (hW : Ext w0 W) => convertible_any a b 200 W va vb (ha.ext hW) (hb.ext hW))
  obtain ⟨c, hcc⟩ : ∃ c, convV a b 200 = c := ⟨_, rfl⟩
  rw [hcc] at HC
  have h1 : c = 1 → cvtV a b = 0 := fun h => by unfold cvtV; rw [hcc, if_pos h]
  have h2 : ¬ c = 1 → c = 2 → cvtV a b = 1 := fun h h' => by unfold cvtV; rw [hcc, if_neg h, if_pos h']
  have h3 : ¬ c = 1 → ¬ c = 2 → cvtV a b = 2 := fun h h' => by unfold cvtV; rw [hcc, if_neg h, if_neg h']
  generalize cvtV a b = R at h1 h2 h3 ⊢
  clear hcc
  obtain ⟨k, n, ks⟩ := a
  obtain ⟨A, cap, rfl, hl, hc, hK⟩ := Lies.mk_iff.1 ha
  obtain ⟨k2, n2, ks2⟩ := b
  obtain ⟨A2, cap2, rfl, hl2, hc2, hK2⟩ := Lies.mk_iff.1 hb
  clear ha hb
  obtain ⟨w1, hw1⟩ : ∃ x, x = ((w0.alloc (.cells #[.int .i64 k, .int .i64 n, .slice A ks.length cap] 27)).alloc (.cells #[.int .i64 k2, .int .i64 n2, .slice A2 ks2.length cap2] 27)) := ⟨_, rfl⟩
  obtain ⟨ba_1, bb_1, s1, e1⟩ := box2 hw1
  by_cases hc1 : c = 1
  · obtain rfl := h1 hc1
    clear h1 h2 h3
    subst hc1
    go_enter Try.func31, Try.ntmps31
    go_wp2_with fail
    rw [← hw1]
    clear hw1
    refine (HC.out _ e1).mono ?_
    rintro e w2 ⟨rfl, e2⟩
    go_wp2_with fail
    go_ret
    exact ⟨rfl, (e1.trans e2)⟩
  have t1 : (c == 1) = false := beq_eq_false_iff_ne.2 hc1
  by_cases hc2 : c = 2
  · obtain rfl := h2 hc1 hc2
    clear h1 h2 h3 t1 hc1
    subst hc2
    go_enter Try.func31, Try.ntmps31
    go_wp2_with fail
    rw [← hw1]
    clear hw1
    refine (HC.out _ e1).mono ?_
    rintro e w2 ⟨rfl, e2⟩
    go_wp2_with fail
    go_ret
    exact ⟨rfl, (e1.trans e2)⟩
  have t2 : (c == 2) = false := beq_eq_false_iff_ne.2 hc2
  obtain rfl := h3 hc1 hc2
  clear h1 h2 h3 hc1 hc2
  go_enter Try.func31, Try.ntmps31
  go_wp2_with fail
  rw [← hw1]
  clear hw1
  refine (HC.out _ e1).mono ?_
  rintro e w2 ⟨rfl, e2⟩
  go_wp2_with fail
  go_ret
  exact ⟨rfl, (e1.trans e2)⟩
set_option maxRecDepth 100000 in
set_option maxHeartbeats 1000000 in
theorem shaped_any (t : Tr) (kind : Int) (w0 : World) (N : Nat → Prop) (hN : ∀ b, w0.heap.size ≤ b → N b) (v : Value) (hin : Lies w0 t v) : Calls Try.prog 34 #[v, .int .i64 kind] w0 (AnQ N w0 (shpV t kind)) := by
  have HC := Lib.hid (fun W (hW : Ext w0 W) => headNormal_any t 200 W v (hin.ext hW))
  have HN := Lib.hid hN
  obtain ⟨⟨⟨k3, n3, ks3⟩, c⟩, hq⟩ : ∃ q, hnfV t 200 = q := ⟨_, rfl⟩
  rw [hq] at HC
  have h1 : ¬ c = 0 → shpV t kind = (dflt0, 2) := fun h => by unfold shpV; rw [hq, if_pos h]
  have h2 : c = 0 → ¬ k3 = kind → shpV t kind = (dflt0, 1) := fun h h' => by unfold shpV; rw [hq, if_neg (by simpa using h)]; exact if_pos h'
  have h3 : c = 0 → k3 = kind → shpV t kind = (.mk k3 n3 ks3, 0) := fun h h' => by unfold shpV; rw [hq, if_neg (by simpa using h)]; exact if_neg (fun hne => hne h')
  generalize shpV t kind = R at h1 h2 h3 ⊢
  clear hN hq
  obtain ⟨k, n, ks⟩ := t
  obtain ⟨A, cap, rfl, hl, hc, hK⟩ := Lies.mk_iff.1 hin
  clear hin
  obtain ⟨w1, hw1⟩ : ∃ x, x = ((w0.alloc (.cells #[.int .i64 k, .int .i64 n, .slice A ks.length cap] 27)).alloc (.cells #[.int .i64 0, .int .i64 0, .slice none 0 0] 27)) := ⟨_, rfl⟩
  obtain ⟨bt_1, br_1, s1, e1⟩ := box2 hw1
  by_cases hc0 : c = 0
  · by_cases hk : k3 = kind
    · obtain rfl := h3 hc0 hk
      subst hc0
      subst hk
      clear h1 h2 h3
      have t1 : (k3 != k3) = false := by simp
      go_enter Try.func34, Try.ntmps34
      go_wp2_with fail
      rw [← hw1]
      clear hw1
      refine (HC.out _ e1).mono ?_
      rintro e w2 ⟨r, rfl, hM, e2⟩
      have s2 := e2.size
      have HT : InT w2 (fun b => N b ∧ b ≠ w0.heap.size + 1) (.mk k3 n3 ks3) r := hM.at' (newN HN.out e1.size (by omega))
      obtain ⟨A3, cap3, rfl, hl3, hc3, hK3⟩ := InT.mk_iff.1 HT
      have HTT := Lib.hid HT
      clear HT hM hK3
      have bt_2 := e2.blk bt_1
      obtain ⟨zt0, zt1, zt2, -⟩ := own3 bt_2
      have lt := lt_of_blk bt_2
      have br_2 := e2.blk br_1
      obtain ⟨zr0, zr1, zr2, yr0, yr1, yr2⟩ := own3 br_2
      have lr := lt_of_blk br_2
      clear lr
      have eq2 : Ext w2 (w2.alloc (.cells #[.int .i64 k3, .int .i64 n3, .slice A3 ks3.length cap3] 27)) := (Ext.refl w2).alloc _
      have X0_1 := e1
      have X0_2 := X0_1.trans e2
      obtain ⟨pr0, pr1, pr2, or0, or1, or2⟩ := own3 (eq2.blk br_2)
      go_wp2_with fail
      refine bodyPost_ret (v := .tuple #[.agg #[.int .i64 k3, .int .i64 n3, .slice A3 ks3.length cap3], .int .i64 0]) (by simp [results, Try.results34, go_sem, pr0, pr1, pr2]) rfl ⟨_, rfl, InT.ret (InT.later HTT.out ((Ext.refl _).alloc _)) _ _ _, ((((X0_2.trans eq2).setCell (by simp; try omega) _).setCell (by simp; try omega) _).setCell (by simp; try omega) _)⟩
    · obtain rfl := h2 hc0 hk
      subst hc0
      clear h1 h2 h3
      have t1 : (k3 != kind) = true := by simp [hk]
      clear hk
      go_enter Try.func34, Try.ntmps34
      go_wp2_with fail
      rw [← hw1]
      clear hw1
      refine (HC.out _ e1).mono ?_
      rintro e w2 ⟨r, rfl, hM, e2⟩
      have s2 := e2.size
      have HT : InT w2 (fun b => N b ∧ b ≠ w0.heap.size + 1) (.mk k3 n3 ks3) r := hM.at' (newN HN.out e1.size (by omega))
      obtain ⟨A3, cap3, rfl, hl3, hc3, hK3⟩ := InT.mk_iff.1 HT
      have HTT := Lib.hid HT
      clear HT hM hK3
      have bt_2 := e2.blk bt_1
      obtain ⟨zt0, zt1, zt2, -⟩ := own3 bt_2
      have lt := lt_of_blk bt_2
      have br_2 := e2.blk br_1
      obtain ⟨zr0, zr1, zr2, yr0, yr1, yr2⟩ := own3 br_2
      have lr := lt_of_blk br_2
      clear lr
      have eq2 : Ext w2 (w2.alloc (.cells #[.int .i64 k3, .int .i64 n3, .slice A3 ks3.length cap3] 27)) := (Ext.refl w2).alloc _
      have X0_1 := e1
      have X0_2 := X0_1.trans e2
      obtain ⟨pr0, pr1, pr2, or0, or1, or2⟩ := own3 (eq2.blk br_2)
      go_wp2_with fail
      refine bodyPost_ret (v := .tuple #[.agg #[.int .i64 0, .int .i64 0, .slice none 0 0], .int .i64 1]) (by simp [results, Try.results34, go_sem, pr0, pr1, pr2]) rfl ⟨_, rfl, leafT _ _ 0 0, ((((X0_2.trans eq2).setCell (by simp; try omega) _).setCell (by simp; try omega) _).setCell (by simp; try omega) _)⟩
  · obtain rfl := h1 hc0
    clear h1 h2 h3
    have t1 : (c != 0) = true := by simp [hc0]
    clear hc0
    go_enter Try.func34, Try.ntmps34
    go_wp2_with fail
    rw [← hw1]
    clear hw1
    refine (HC.out _ e1).mono ?_
    rintro e w2 ⟨r, rfl, hM, e2⟩
    have s2 := e2.size
    have HT : InT w2 (fun b => N b ∧ b ≠ w0.heap.size + 1) (.mk k3 n3 ks3) r := hM.at' (newN HN.out e1.size (by omega))
    obtain ⟨A3, cap3, rfl, hl3, hc3, hK3⟩ := InT.mk_iff.1 HT
    have HTT := Lib.hid HT
    clear HT hM hK3
    have bt_2 := e2.blk bt_1
    obtain ⟨zt0, zt1, zt2, -⟩ := own3 bt_2
    have lt := lt_of_blk bt_2
    have br_2 := e2.blk br_1
    obtain ⟨zr0, zr1, zr2, yr0, yr1, yr2⟩ := own3 br_2
    have lr := lt_of_blk br_2
    clear lr
    have eq2 : Ext w2 (w2.alloc (.cells #[.int .i64 k3, .int .i64 n3, .slice A3 ks3.length cap3] 27)) := (Ext.refl w2).alloc _
    have X0_1 := e1
    have X0_2 := X0_1.trans e2
    obtain ⟨pr0, pr1, pr2, or0, or1, or2⟩ := own3 (eq2.blk br_2)
    go_wp2_with fail
    refine bodyPost_ret (v := .tuple #[.agg #[.int .i64 0, .int .i64 0, .slice none 0 0], .int .i64 2]) (by simp [results, Try.results34, go_sem, pr0, pr1, pr2]) rfl ⟨_, rfl, leafT _ _ 0 0, ((((X0_2.trans eq2).setCell (by simp; try omega) _).setCell (by simp; try omega) _).setCell (by simp; try omega) _)⟩
set_option maxRecDepth 100000 in
set_option maxHeartbeats 1000000 in
theorem sort_any (n : Int) (w : World) : Calls Try.prog 46 #[.int .i64 n] w fun e w' => e = .returned (.agg #[.int .i64 2, .int .i64 n, .slice none 0 0]) ∧ Ext w w' := by
  go_enter Try.func46, Try.ntmps46
  go_wp2_with fail
  exact bodyPost_ret (v := .agg #[.int .i64 2, .int .i64 n, .slice none 0 0]) (by simp [results, Try.results46, go_sem]) rfl ⟨rfl, (Ext.refl w).alloc _⟩
set_option maxRecDepth 100000 in
set_option maxHeartbeats 1000000 in
theorem sideOf_any (t : Tr) (w0 : World) (N : Nat → Prop) (v : Value) (hin : InT w0 N t v) : Calls Try.prog 52 #[v] w0 fun e w' => ∃ u, e = .returned u ∧ InT w' N (kd t.kids 0) u ∧ Ext w0 w' := by
  obtain ⟨k, n, ks⟩ := t
  obtain ⟨A, cap, rfl, hl, hc, hK⟩ := InT.mk_iff.1 hin
  have hcc := hc
  unfold maxLen at hcc
  have hkids : (Tr.mk k n ks).kids = ks := rfl
  rw [hkids]
  clear hin hkids
  by_cases hz : ks.length = 0
  · have h0 : kd ks 0 = dflt0 := kd_big (by omega)
    rw [h0]
    generalize ks.length = len at hz hl
    subst hz
    go_enter Try.func52, Try.ntmps52
    go_wp2_with fail
    exact bodyPost_ret (v := .agg #[.int .i64 0, .int .i64 0, .slice none 0 0]) (by simp [results, Try.results52, go_sem]) rfl ⟨_, rfl, leafT _ _ 0 0, (((Ext.refl _).alloc _).alloc _)⟩
  · have hx := ((Ext.refl w0).alloc (.cells #[.int .i64 k, .int .i64 n, .slice A ks.length cap] 27)).alloc (.cells #[.int .i64 0, .int .i64 0, .slice none 0 0] 27)
    obtain ⟨b, o, k1, n1, A1, p1, kids1, rfl, HK1, c0, c1, c2, l1, m1, hK1, hin1, hmem1, hSb⟩ := hK.get (fun b _ => rfl) (j := 0) (by omega)
    simp only [Nat.zero_mul, Nat.add_zero] at c0 c1 c2
    have d0 := hx.cell c0
    have d1 := hx.cell c1
    have d2 := hx.cell c2
    have hkd : kd ks 0 = .mk k1 n1 kids1 := kd_of (by omega) HK1.out
    rw [hkd]
    have hpos : (0 : Int) < (ks.length : Int) := by omega
    have hpos2 : 0 < ks.length := by omega
    have hne : (((ks.length : Int)) == 0) = false := beq_eq_false_iff_ne.2 (by omega)
    have HI := Lib.hid hin1
    clear hkd HK1 hK hK1 hin1 hmem1 hz c0 c1 c2
    go_enter Try.func52, Try.ntmps52
    go_wp2_with fail
    refine bodyPost_ret (v := .agg #[.int .i64 k1, .int .i64 n1, .slice A1 kids1.length p1]) (by simp [results, Try.results52, go_sem]) rfl ⟨_, rfl, InT.later HI.out ?_, ?_⟩
    all_goals exact (((Ext.refl _).alloc _).alloc _)
end Go.Proofs.Ytdkamgafpphdjaa
namespace Go.Proofs.Ytdkamgafpphdjaa
open Go.RowKit
set_option linter.unusedVariables false
open M (Hd HR Cv Ty Lim WfL TyB Lev)
/-- The first code of the elements of a context. -/
def ccR (f : Nat) : List Tr → List Tr → An
  | _, [] => some (dflt0, 0)
  | done, t :: ts => thn (frmV (infV f done t) 2) fun _ => ccR f (done ++ [t]) ts
def ccV (f : Nat) (ctx : List Tr) : An := if fitsC ctx = true then ccR f [] ctx else some (dflt0, 3)
/-- The code of a context and of terms that are to be valid. -/
def rdyV (f : Nat) (ctx l : List Tr) : An := match ccV f ctx with
  | none => none
  | some r => if l.all (fun t => valid sigT t) = true then some r else some (dflt0, 3)
def ctV (f : Nat) (ctx : List Tr) (t want : Tr) : An := thn (rdyV f ctx [t, want]) fun _ => thn (frmV (infV f ctx want) 2) fun _ => chkV (infV f ctx t) want (some (dflt0, 0))
theorem rdyV_ok {f : Nat} {ctx l : List Tr} {u : Tr} (h : rdyV f ctx l = some (u, 0)) : ccV f ctx = some (u, 0) ∧ ∀ t ∈ l, valid sigT t = true := by
  unfold rdyV at h
  cases e : ccV f ctx with
  | none => rw [e] at h; cases h
  | some r =>
    rw [e] at h
    simp only at h
    split at h
    · rename_i hv
      exact ⟨h, by simpa using hv⟩
    · simp at h
theorem Is.up {f f' : Nat} {G : List Tr} {t : Tr} (h : Is (infV f G t)) (k : f ≤ f') : Is (infV f' G t) := h.le (inf_le k G t)
end Go.Proofs.Ytdkamgafpphdjaa

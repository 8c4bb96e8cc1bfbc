/-
  Lemmas towards the law, 38: InfB.
-/
import Derived.Test.YtdkamgafpphdjaaEBK
namespace Go.Proofs.Ytdkamgafpphdjaa
open Go.RowKit
set_option linter.unusedVariables false
attribute [local go_sem ↓] Go.wp_at_zero Go.wp_at_succ
/-- The closure tells the types of the operands. -/
def TyF (wC : World) (p1 p2 : Nat) (A : Option Addr) (G : List Tr) (At : Option Addr) (ks : List Tr) (ty : Nat → An) : Prop :=
  ∀ (W : World) (N : Nat → Prop), Ext wC W → (∀ b, W.heap.size ≤ b → N b) → InK W N A G → InK W N At ks → ∀ i : Nat, i < ks.length → ∀ r, ty i = some r →
    Calls Try.prog 35 #[.int .i64 i, .pointer (some ⟨p1, 0, none⟩), .pointer (some ⟨p2, 0, none⟩)] W (AnQ N W r)
/-- What is known at the call of a method of the judge. -/
structure JOk (wC w : World) (N : Nat → Prop) (p1 p2 : Nat) (A : Option Addr) (G : List Tr) (At : Option Addr) (ks : List Tr) (ty : Nat → An) : Prop where
  hT : TyF wC p1 p2 A G At ks ty
  hx : Ext wC w
  hN : ∀ b, w.heap.size ≤ b → N b
  hG : InK w N A G
  hK : InK w N At ks
theorem JOk.ext {wC w w' : World} {N : Nat → Prop} {p1 p2 : Nat} {A : Option Addr} {G : List Tr} {At : Option Addr} {ks : List Tr} {ty : Nat → An} (h : JOk wC w N p1 p2 A G At ks ty) (e : Ext w w') : JOk wC w' N p1 p2 A G At ks ty :=
  ⟨h.hT, h.hx.trans e, fun b hb => h.hN b (Nat.le_trans e.size hb), h.hG.later e, h.hK.later e⟩
/-- The same, and the rows keep clear of a later block. -/
theorem JOk.keep {wC w w' : World} {N : Nat → Prop} {p1 p2 : Nat} {A : Option Addr} {G : List Tr} {At : Option Addr} {ks : List Tr} {ty : Nat → An} (h : JOk wC w N p1 p2 A G At ks ty) (e : Ext w w') {g : Nat} (hg : w.heap.size ≤ g) (hg2 : g < w'.heap.size) : JOk wC w' (fun b => N b ∧ b ≠ g) p1 p2 A G At ks ty :=
  ⟨h.hT, h.hx.trans e, newN h.hN e.size hg2, h.hG.keep e hg, h.hK.keep e hg⟩
theorem frm_some {x : An} {kind : Int} {r : Tr × Int} (h : frmV x kind = some r) : (∃ s, x = some (s, 0) ∧ r = shpV s kind) ∨ ∃ s c, x = some (s, c) ∧ c ≠ 0 ∧ r = (dflt0, c) := by
  rcases thn_some h with ⟨s, h1, h2⟩ | h1
  · exact .inl ⟨s, h1, by simpa using h2.symm⟩
  · exact .inr h1
/-- The code of a check. -/
def chkI (x : An) (want : Tr) : Option Int := match x with
  | none => none
  | some (s, c) => if c = 0 then some (cvtV s want) else some c
theorem chk_some {x y : An} {want : Tr} {r : Tr × Int} (h : chkV x want y = some r) : ∃ c, chkI x want = some c ∧ (c = 0 → y = some r) ∧ (c ≠ 0 → r = (dflt0, c)) := by
  rcases thn_some h with ⟨s, rfl, h2⟩ | ⟨s, c, rfl, h2, h3⟩
  · refine ⟨cvtV s want, (show (if (0 : Int) = 0 then some (cvtV s want) else some 0) = _ from if_pos rfl), fun h => ?_, fun h => ?_⟩
    · rw [if_pos h] at h2; exact h2
    · rw [if_neg h] at h2; simpa using h2.symm
  · exact ⟨c, (show (if c = 0 then some (cvtV s want) else some c) = _ from if_neg h2), fun h => absurd h h2, fun _ => h3⟩
theorem chkI_some {x : An} {want : Tr} {c : Int} (h : chkI x want = some c) : (∃ s, x = some (s, 0) ∧ c = cvtV s want) ∨ ∃ s, x = some (s, c) ∧ c ≠ 0 := by
  unfold chkI at h
  cases x with
  | none => cases h
  | some p =>
    obtain ⟨s, c'⟩ := p
    simp only at h
    split at h
    · rename_i h0
      subst h0
      exact .inl ⟨s, rfl, by simpa using h.symm⟩
    · rename_i h0
      simp only [Option.some.injEq] at h
      subst h
      exact .inr ⟨s, rfl, h0⟩
/-- The code of a family. -/
def famI (x : An) (T : Tr) : Option Int := match frmV x 3 with
  | none => none
  | some (s, c) => if c = 0 then (if cvtV (kd s.kids 0) T = 0 then some (shpV (kd s.kids 1) 2).2 else some (cvtV (kd s.kids 0) T)) else some c
theorem fam_some {x y : An} {T : Tr} {r : Tr × Int} (h : famV x T y = some r) : ∃ c, famI x T = some c ∧ (c = 0 → y = some r) ∧ (c ≠ 0 → r = (dflt0, c)) := by
  unfold famI
  rcases thn_some h with ⟨s, h1, h2⟩ | ⟨s, c, h1, h2, h3⟩
  · rw [h1]
    simp only [if_true]
    split at h2
    · rename_i h0
      rw [if_pos h0]
      rcases thn_some h2 with ⟨s2, h3, h4⟩ | ⟨s2, c2, h3, h4, h5⟩
      · have e : shpV (kd s.kids 1) 2 = (s2, 0) := by simpa using h3
        exact ⟨0, by rw [e], fun _ => h4, fun h => absurd rfl h⟩
      · have e : shpV (kd s.kids 1) 2 = (s2, c2) := by simpa using h3
        exact ⟨c2, by rw [e], fun h => absurd h h4, fun _ => h5⟩
    · rename_i h0
      rw [if_neg h0]
      exact ⟨_, rfl, fun h => absurd h h0, fun _ => by simpa using h2.symm⟩
  · rw [h1]
    simp only
    rw [if_neg h2]
    exact ⟨c, rfl, fun h => absurd h h2, fun _ => h3⟩
set_option maxRecDepth 100000 in
set_option maxHeartbeats 1000000 in
theorem form_any {wC : World} {p1 p2 : Nat} {A : Option Addr} {G : List Tr} {At : Option Addr} {ks : List Tr} {ty : Nat → An} (k n : Int) (ca ct : Nat) (hlt : ks.length ≤ ct) (hct : ct ≤ maxLen) (w0 : World) (N : Nat → Prop) (hJ : JOk wC w0 N p1 p2 A G At ks ty) (i : Nat) (hi : i < ks.length) (kind : Int) (r : Tr × Int) (h : frmV (ty i) kind = some r) : Calls Try.prog 50 #[.agg #[.slice A G.length ca, .int .i64 k, .int .i64 n, .slice At ks.length ct, .func (.func 35) #[] #[.pointer (some ⟨p1, 0, none⟩), .pointer (some ⟨p2, 0, none⟩)]], .int .i64 i, .int .i64 kind] w0 (AnQ N w0 r) := by
  have HI := Lib.hid hi
  clear hi
  rcases frm_some h with ⟨s, hs, rfl⟩ | ⟨s, c, hs, hc, rfl⟩
  · have HS := Lib.hid hs
    clear hs h
    have HSH := Lib.hid (fun W (M : Nat → Prop) (hM : ∀ b, W.heap.size ≤ b → M b) v (hv : Lies W s v) => shaped_any s kind W M hM v hv)
    generalize shpV s kind = q at HSH ⊢
    obtain ⟨q, c⟩ := q
    obtain ⟨w1, hw1⟩ : ∃ x, x = ((w0.alloc (.cells #[.slice A G.length ca, .int .i64 k, .int .i64 n, .slice At ks.length ct, .func (.func 35) #[] #[.pointer (some ⟨p1, 0, none⟩), .pointer (some ⟨p2, 0, none⟩)]] 65)).alloc (.cells #[.int .i64 0, .int .i64 0, .slice none 0 0] 27)) := ⟨_, rfl⟩
    obtain ⟨bj_1, br_1, s1, e1⟩ := box2 hw1
    have HJ := Lib.hid (hJ.keep e1 (g := w0.heap.size + 1) (Nat.le_succ _) (by omega))
    obtain ⟨M, hM⟩ : ∃ M, M = (fun b => N b ∧ b ≠ w0.heap.size + 1) := ⟨_, rfl⟩
    rw [← hM] at HJ
    have HM := Lib.hid hM
    clear hM hJ
    go_enter Try.func50, Try.ntmps50
    go_wp2_with fail
    rw [← hw1]
    clear hw1
    refine ((HJ.out.ext (Ext.refl w1)).hT w1 _ (HJ.out.ext (Ext.refl w1)).hx (HJ.out.ext (Ext.refl w1)).hN (HJ.out.ext (Ext.refl w1)).hG (HJ.out.ext (Ext.refl w1)).hK i HI.out _ HS.out).mono ?_
    rintro e w2 ⟨u, rfl, hT, e2⟩
    have s2 := e2.size
    obtain ⟨a1, b1, A1, l1, c1, rfl⟩ := hT.three
    have T1 := Lib.hid hT
    clear hT
    have bj_2 := e2.blk bj_1
    obtain ⟨zj0, zj1, zj2, zj3, zj4⟩ := own5 bj_2
    have lj := lt_of_blk bj_2
    have br_2 := e2.blk br_1
    obtain ⟨zr0, zr1, zr2, yr0, yr1, yr2⟩ := own3 br_2
    have lr := lt_of_blk br_2
    obtain ⟨w3, hw3⟩ : ∃ x, x = w2.alloc (.cells #[.int .i64 a1, .int .i64 b1, .slice A1 l1 c1] 27) := ⟨_, rfl⟩
    have e3 : Ext w2 w3 := hw3 ▸ (Ext.refl w2).alloc _
    have bx1_3 := heap_alloc_new w2 (.cells #[.int .i64 a1, .int .i64 b1, .slice A1 l1 c1] 27)
    rw [← hw3] at bx1_3
    have s3 : w2.heap.size < w3.heap.size := lt_of_blk bx1_3
    go_wp2_with fail
    rw [← hw3]
    clear hw3
    clear zj0 zj1 zj2 zj3 zj4 lj zr0 zr1 zr2 yr0 yr1 yr2 lr
    have X1_2 := e2
    have X1_3 := X1_2.trans e3
    have X2_3 := e3
    refine (HSH.out w3 M (HJ.out.ext X1_3).hN _ (T1.out.later X2_3).lies').mono ?_
    rintro e w4 ⟨u, rfl, hT, e4⟩
    have s4 := e4.size
    obtain ⟨a2, b2, A2, l2, c2, rfl⟩ := hT.three
    have T2 := Lib.hid hT
    clear hT
    have bj_3 := e3.blk bj_2
    have bj_4 := e4.blk bj_3
    obtain ⟨zj0, zj1, zj2, zj3, zj4⟩ := own5 bj_4
    have lj := lt_of_blk bj_4
    have br_3 := e3.blk br_2
    have br_4 := e4.blk br_3
    obtain ⟨zr0, zr1, zr2, yr0, yr1, yr2⟩ := own3 br_4
    have lr := lt_of_blk br_4
    have bx1_4 := e4.blk bx1_3
    obtain ⟨zx10, zx11, zx12, -⟩ := own3 bx1_4
    have lx1 := lt_of_blk bx1_4
    have X0_1 := e1
    have X0_2 := X0_1.trans e2
    have X0_3 := X0_2.trans e3
    have X0_4 := X0_3.trans e4
    go_wp2_with fail
    refine bodyPost_ret (v := .tuple #[.agg #[.int .i64 a2, .int .i64 b2, .slice A2 l2 c2], .int .i64 c]) (by simp [results, Try.results50, go_sem, zr0, zr1, zr2]) rfl ⟨_, rfl, InT.ret (HM.out ▸ (T2.out.later (Ext.refl w4))) _ _ _, (X0_4.set3 (by omega) _ _ _)⟩
  · have HS := Lib.hid hs
    clear hs h
    have t1 : (c != 0) = true := by simp [hc]
    clear hc
    obtain ⟨w1, hw1⟩ : ∃ x, x = ((w0.alloc (.cells #[.slice A G.length ca, .int .i64 k, .int .i64 n, .slice At ks.length ct, .func (.func 35) #[] #[.pointer (some ⟨p1, 0, none⟩), .pointer (some ⟨p2, 0, none⟩)]] 65)).alloc (.cells #[.int .i64 0, .int .i64 0, .slice none 0 0] 27)) := ⟨_, rfl⟩
    obtain ⟨bj_1, br_1, s1, e1⟩ := box2 hw1
    have HJ := Lib.hid (hJ.keep e1 (g := w0.heap.size + 1) (Nat.le_succ _) (by omega))
    obtain ⟨M, hM⟩ : ∃ M, M = (fun b => N b ∧ b ≠ w0.heap.size + 1) := ⟨_, rfl⟩
    rw [← hM] at HJ
    have HM := Lib.hid hM
    clear hM hJ
    go_enter Try.func50, Try.ntmps50
    go_wp2_with fail
    rw [← hw1]
    clear hw1
    refine ((HJ.out.ext (Ext.refl w1)).hT w1 _ (HJ.out.ext (Ext.refl w1)).hx (HJ.out.ext (Ext.refl w1)).hN (HJ.out.ext (Ext.refl w1)).hG (HJ.out.ext (Ext.refl w1)).hK i HI.out _ HS.out).mono ?_
    rintro e w2 ⟨u, rfl, hT, e2⟩
    have s2 := e2.size
    obtain ⟨a1, b1, A1, l1, c1, rfl⟩ := hT.three
    have T1 := Lib.hid hT
    clear hT
    have bj_2 := e2.blk bj_1
    obtain ⟨zj0, zj1, zj2, zj3, zj4⟩ := own5 bj_2
    have lj := lt_of_blk bj_2
    have br_2 := e2.blk br_1
    obtain ⟨zr0, zr1, zr2, yr0, yr1, yr2⟩ := own3 br_2
    have lr := lt_of_blk br_2
    clear lr
    have eq2 : Ext w2 (w2.alloc (.cells #[.int .i64 a1, .int .i64 b1, .slice A1 l1 c1] 27)) := (Ext.refl w2).alloc _
    have X0_1 := e1
    have X0_2 := X0_1.trans e2
    obtain ⟨pr0, pr1, pr2, or0, or1, or2⟩ := own3 (eq2.blk br_2)
    go_wp2_with fail
    refine bodyPost_ret (v := .tuple #[.agg #[.int .i64 0, .int .i64 0, .slice none 0 0], .int .i64 c]) (by simp [results, Try.results50, go_sem, pr0, pr1, pr2]) rfl ⟨_, rfl, leafT _ _ 0 0, ((X0_2.trans eq2).set3 (by omega) _ _ _)⟩
set_option maxRecDepth 100000 in
set_option maxHeartbeats 1000000 in
theorem jlevel_any {wC : World} {p1 p2 : Nat} {A : Option Addr} {G : List Tr} {At : Option Addr} {ks : List Tr} {ty : Nat → An} (k n : Int) (ca ct : Nat) (hlt : ks.length ≤ ct) (hct : ct ≤ maxLen) (w0 : World) (N : Nat → Prop) (hJ : JOk wC w0 N p1 p2 A G At ks ty) (i : Nat) (hi : i < ks.length) (r : Tr × Int) (h : frmV (ty i) 2 = some r) : Calls Try.prog 68 #[.agg #[.slice A G.length ca, .int .i64 k, .int .i64 n, .slice At ks.length ct, .func (.func 35) #[] #[.pointer (some ⟨p1, 0, none⟩), .pointer (some ⟨p2, 0, none⟩)]], .int .i64 i] w0 fun e w' => e = .returned (.tuple #[.int .i64 r.1.num, .int .i64 r.2]) ∧ Ext w0 w' := by
  have HH := Lib.hid h
  have HI := Lib.hid hi
  clear h hi
  obtain ⟨⟨k7, n7, ks7⟩, c⟩ := r
  obtain ⟨w1, hw1⟩ : ∃ x, x = (w0.alloc (.cells #[.slice A G.length ca, .int .i64 k, .int .i64 n, .slice At ks.length ct, .func (.func 35) #[] #[.pointer (some ⟨p1, 0, none⟩), .pointer (some ⟨p2, 0, none⟩)]] 65)) := ⟨_, rfl⟩
  obtain ⟨bj_1, s1, e1⟩ := box1 hw1
  have HJ := Lib.hid (hJ.ext e1)
  obtain ⟨M, hM⟩ : ∃ M, M = N := ⟨_, rfl⟩
  rw [← hM] at HJ
  have HM := Lib.hid hM
  clear hM hJ
  go_enter Try.func68, Try.ntmps68
  go_wp2_with fail
  rw [← hw1]
  clear hw1
  refine (form_any k n ca ct hlt hct w1 M HJ.out i HI.out 2 _ HH.out).mono ?_
  rintro e w2 ⟨u, rfl, hT, e2⟩
  have s2 := e2.size
  obtain ⟨A1, c1, rfl, hl1, hc1, hK1⟩ := InT.mk_iff.1 hT
  clear hT hK1
  have X0_1 := e1
  have X0_2 := X0_1.trans e2
  go_wp2_with fail
  go_ret2
  exact ⟨rfl, X0_2.alloc _⟩
set_option maxRecDepth 100000 in
set_option maxHeartbeats 1000000 in
theorem jcheck_any {wC : World} {p1 p2 : Nat} {A : Option Addr} {G : List Tr} {At : Option Addr} {ks : List Tr} {ty : Nat → An} (k n : Int) (ca ct : Nat) (hlt : ks.length ≤ ct) (hct : ct ≤ maxLen) (w0 : World) (N : Nat → Prop) (hJ : JOk wC w0 N p1 p2 A G At ks ty) (i : Nat) (hi : i < ks.length) (want : Tr) (vw : Value) (hw : InT w0 N want vw) (c : Int) (h : chkI (ty i) want = some c) : Calls Try.prog 47 #[.agg #[.slice A G.length ca, .int .i64 k, .int .i64 n, .slice At ks.length ct, .func (.func 35) #[] #[.pointer (some ⟨p1, 0, none⟩), .pointer (some ⟨p2, 0, none⟩)]], .int .i64 i, vw] w0 fun e w' => e = .returned (.int .i64 c) ∧ Ext w0 w' := by
  have HI := Lib.hid hi
  clear hi
  obtain ⟨k8, n8, ks8⟩ := want
  obtain ⟨A8, c8, rfl, hl8, hc8, hK8⟩ := InT.mk_iff.1 hw
  have HW := Lib.hid hw
  clear hw
  rcases chkI_some h with ⟨s, hs, rfl⟩ | ⟨s, hs, hc⟩
  · have HS := Lib.hid hs
    clear hs h
    obtain ⟨w1, hw1⟩ : ∃ x, x = ((w0.alloc (.cells #[.slice A G.length ca, .int .i64 k, .int .i64 n, .slice At ks.length ct, .func (.func 35) #[] #[.pointer (some ⟨p1, 0, none⟩), .pointer (some ⟨p2, 0, none⟩)]] 65)).alloc (.cells #[.int .i64 k8, .int .i64 n8, .slice A8 ks8.length c8] 27)) := ⟨_, rfl⟩
    obtain ⟨bj_1, bw_1, s1, e1⟩ := box2 hw1
    have HJ := Lib.hid (hJ.ext e1)
    obtain ⟨M, hM⟩ : ∃ M, M = N := ⟨_, rfl⟩
    rw [← hM] at HJ
    have HM := Lib.hid hM
    clear hM hJ
    go_enter Try.func47, Try.ntmps47
    go_wp2_with fail
    rw [← hw1]
    clear hw1
    refine ((HJ.out.ext (Ext.refl w1)).hT w1 _ (HJ.out.ext (Ext.refl w1)).hx (HJ.out.ext (Ext.refl w1)).hN (HJ.out.ext (Ext.refl w1)).hG (HJ.out.ext (Ext.refl w1)).hK i HI.out _ HS.out).mono ?_
    rintro e w2 ⟨u, rfl, hT, e2⟩
    have s2 := e2.size
    obtain ⟨a1, b1, A1, l1, c1, rfl⟩ := hT.three
    have T1 := Lib.hid hT
    clear hT
    have bj_2 := e2.blk bj_1
    obtain ⟨zj0, zj1, zj2, zj3, zj4⟩ := own5 bj_2
    have lj := lt_of_blk bj_2
    have bw_2 := e2.blk bw_1
    obtain ⟨zw0, zw1, zw2, -⟩ := own3 bw_2
    have lw := lt_of_blk bw_2
    obtain ⟨w3, hw3⟩ : ∃ x, x = w2.alloc (.cells #[.int .i64 a1, .int .i64 b1, .slice A1 l1 c1] 27) := ⟨_, rfl⟩
    have e3 : Ext w2 w3 := hw3 ▸ (Ext.refl w2).alloc _
    have bx1_3 := heap_alloc_new w2 (.cells #[.int .i64 a1, .int .i64 b1, .slice A1 l1 c1] 27)
    rw [← hw3] at bx1_3
    have s3 : w2.heap.size < w3.heap.size := lt_of_blk bx1_3
    go_wp2_with fail
    rw [← hw3]
    clear hw3
    clear zj0 zj1 zj2 zj3 zj4 lj zw0 zw1 zw2 lw
    have X0_1 := e1
    have X0_2 := X0_1.trans e2
    have X0_3 := X0_2.trans e3
    have X2_3 := e3
    refine (converts_any s (.mk k8 n8 ks8) w3 _ _ (T1.out.later X2_3).lies' (HW.out.lies'.ext X0_3)).mono ?_
    rintro e w4 ⟨rfl, e4⟩
    have s4 := e4.size
    have X0_4 := X0_3.trans e4
    go_wp2_with fail
    go_ret
    exact ⟨rfl, X0_4⟩
  · have HS := Lib.hid hs
    clear hs h
    have t1 : (c != 0) = true := by simp [hc]
    clear hc
    obtain ⟨w1, hw1⟩ : ∃ x, x = ((w0.alloc (.cells #[.slice A G.length ca, .int .i64 k, .int .i64 n, .slice At ks.length ct, .func (.func 35) #[] #[.pointer (some ⟨p1, 0, none⟩), .pointer (some ⟨p2, 0, none⟩)]] 65)).alloc (.cells #[.int .i64 k8, .int .i64 n8, .slice A8 ks8.length c8] 27)) := ⟨_, rfl⟩
    obtain ⟨bj_1, bw_1, s1, e1⟩ := box2 hw1
    have HJ := Lib.hid (hJ.ext e1)
    obtain ⟨M, hM⟩ : ∃ M, M = N := ⟨_, rfl⟩
    rw [← hM] at HJ
    have HM := Lib.hid hM
    clear hM hJ
    go_enter Try.func47, Try.ntmps47
    go_wp2_with fail
    rw [← hw1]
    clear hw1
    refine ((HJ.out.ext (Ext.refl w1)).hT w1 _ (HJ.out.ext (Ext.refl w1)).hx (HJ.out.ext (Ext.refl w1)).hN (HJ.out.ext (Ext.refl w1)).hG (HJ.out.ext (Ext.refl w1)).hK i HI.out _ HS.out).mono ?_
    rintro e w2 ⟨u, rfl, hT, e2⟩
    have s2 := e2.size
    obtain ⟨a1, b1, A1, l1, c1, rfl⟩ := hT.three
    have T1 := Lib.hid hT
    clear hT
    have bj_2 := e2.blk bj_1
    obtain ⟨zj0, zj1, zj2, zj3, zj4⟩ := own5 bj_2
    have lj := lt_of_blk bj_2
    have bw_2 := e2.blk bw_1
    obtain ⟨zw0, zw1, zw2, -⟩ := own3 bw_2
    have lw := lt_of_blk bw_2
    have X0_1 := e1
    have X0_2 := X0_1.trans e2
    go_wp2_with fail
    go_ret
    exact ⟨rfl, X0_2.alloc _⟩
set_option maxRecDepth 100000 in
set_option maxHeartbeats 1000000 in
theorem jhas_any {wC : World} {p1 p2 : Nat} {A : Option Addr} {G : List Tr} {At : Option Addr} {ks : List Tr} {ty : Nat → An} (k n : Int) (ca ct : Nat) (hlt : ks.length ≤ ct) (hct : ct ≤ maxLen) (w0 : World) (N : Nat → Prop) (hJ : JOk wC w0 N p1 p2 A G At ks ty) (i : Nat) (hi : i < ks.length) (want : Tr) (vw : Value) (hw : InT w0 N want vw) (c d : Int) (h : c = 0 → chkI (ty i) want = some d) (h' : c ≠ 0 → d = c) : Calls Try.prog 51 #[.agg #[.slice A G.length ca, .int .i64 k, .int .i64 n, .slice At ks.length ct, .func (.func 35) #[] #[.pointer (some ⟨p1, 0, none⟩), .pointer (some ⟨p2, 0, none⟩)]], .int .i64 i, vw, .int .i64 c] w0 fun e w' => e = .returned (.int .i64 d) ∧ Ext w0 w' := by
  have HI := Lib.hid hi
  clear hi
  obtain ⟨k8, n8, ks8⟩ := want
  obtain ⟨A8, c8, rfl, hl8, hc8, hK8⟩ := InT.mk_iff.1 hw
  have HW := Lib.hid hw
  clear hw
  by_cases hc : c = 0
  · have HS := Lib.hid (h hc)
    clear h h'
    subst hc
    obtain ⟨w1, hw1⟩ : ∃ x, x = ((w0.alloc (.cells #[.slice A G.length ca, .int .i64 k, .int .i64 n, .slice At ks.length ct, .func (.func 35) #[] #[.pointer (some ⟨p1, 0, none⟩), .pointer (some ⟨p2, 0, none⟩)]] 65)).alloc (.cells #[.int .i64 k8, .int .i64 n8, .slice A8 ks8.length c8] 27)) := ⟨_, rfl⟩
    obtain ⟨bj_1, bw_1, s1, e1⟩ := box2 hw1
    have HJ := Lib.hid (hJ.ext e1)
    obtain ⟨M, hM⟩ : ∃ M, M = N := ⟨_, rfl⟩
    rw [← hM] at HJ
    have HM := Lib.hid hM
    clear hM hJ
    go_enter Try.func51, Try.ntmps51
    go_wp2_with fail
    rw [← hw1]
    clear hw1
    have X0_1 := e1
    refine (jcheck_any k n ca ct hlt hct w1 M (HJ.out.ext (Ext.refl w1)) i HI.out (.mk k8 n8 ks8) _ (HM.out ▸ HW.out.later X0_1) d HS.out).mono ?_
    rintro e w2 ⟨rfl, e2⟩
    have s2 := e2.size
    have X0_2 := X0_1.trans e2
    go_wp2_with fail
    go_ret
    exact ⟨rfl, X0_2⟩
  · obtain rfl := h' hc
    have t1 : (d != 0) = true := by simp [hc]
    clear h h' hc
    go_enter Try.func51, Try.ntmps51
    go_wp2_with fail
    go_ret
    exact ⟨rfl, ((Ext.refl _).alloc _).alloc _⟩
end Go.Proofs.Ytdkamgafpphdjaa

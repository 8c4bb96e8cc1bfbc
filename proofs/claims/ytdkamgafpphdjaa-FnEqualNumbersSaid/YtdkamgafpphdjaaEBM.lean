/-
  Lemmas towards the law, 39: InfC.
-/
import Derived.Test.YtdkamgafpphdjaaEBL
namespace Go.Proofs.Ytdkamgafpphdjaa
open Go.RowKit
set_option linter.unusedVariables false
attribute [local go_sem ↓] Go.wp_at_zero Go.wp_at_succ
/-- A kid's cells. -/
def KidAt (w : World) (N : Nat → Prop) (b o : Nat) (t : Tr) (x1 x2 : Int) (x3 : Option Addr) (x4 x5 : Nat) : Prop :=
  w.cell? ⟨b, o, none⟩ = some (.int .i64 x1) ∧ w.cell? ⟨b, o + 1, none⟩ = some (.int .i64 x2) ∧ w.cell? ⟨b, o + 2, none⟩ = some (.slice x3 x4 x5) ∧ InT w N t (.agg #[.int .i64 x1, .int .i64 x2, .slice x3 x4 x5])
theorem InK.kid {w : World} {N : Nat → Prop} {A : Option Addr} {ks : List Tr} (h : InK w N A ks) (hp : 0 < ks.length) : ∃ b o, A = some ⟨b, o, none⟩ ∧ ∀ j, j < ks.length → ∃ x1 x2 x3 x4 x5, KidAt w N b (o + 3 * j) (kd ks j) x1 x2 x3 x4 x5 := by
  obtain ⟨b, o, -, -, -, -, -, rfl, -⟩ := h.get (fun b _ => rfl) hp
  refine ⟨b, o, rfl, fun j hj => ?_⟩
  obtain ⟨b', o', k1, n1, A1, p1, kids1, he, HK1, c0, c1, c2, -, -, -, hin1, -⟩ := h.get (fun b _ => rfl) hj
  simp only [Option.some.injEq, Addr.mk.injEq, and_true] at he
  obtain ⟨rfl, rfl⟩ := he
  rw [Nat.mul_comm] at c0 c1 c2
  exact ⟨k1, n1, A1, _, p1, c0, c1, c2, (kd_of hj HK1.out).symm ▸ hin1⟩
theorem frm_len {x : An} {kind : Int} {s : Tr} (h : frmV x kind = some (s, 0)) : s.kind = kind ∧ (s.kids.length : Int) = opsT kind ∧ valid sigT s = true := by
  obtain ⟨u, h1, h2, h3⟩ := frmV_ok h
  obtain ⟨-, -, -, hv⟩ := hnfV_reds h2
  refine ⟨h3, ?_, hv⟩
  obtain ⟨k, n, ks⟩ := s
  have := (shape_kids' (valid_parts hv).1).1
  rw [← h3]
  exact this.symm
theorem fam_cases {x : An} {T : Tr} {c : Int} (h : famI x T = some c) : (∃ s, frmV x 3 = some (s, c) ∧ c ≠ 0) ∨ ∃ s, frmV x 3 = some (s, 0) ∧ s.kids.length = 2 ∧ ((cvtV (kd s.kids 0) T ≠ 0 ∧ c = cvtV (kd s.kids 0) T) ∨ (cvtV (kd s.kids 0) T = 0 ∧ c = (shpV (kd s.kids 1) 2).2)) := by
  unfold famI at h
  cases e : frmV x 3 with
  | none => rw [e] at h; cases h
  | some q =>
    obtain ⟨s, c'⟩ := q
    rw [e] at h
    simp only at h
    split at h
    · rename_i h0
      subst h0
      have hl := (frm_len e).2.1
      refine .inr ⟨s, rfl, by have : opsT 3 = 2 := rfl; omega, ?_⟩
      split at h
      · rename_i h1
        exact .inr ⟨h1, by simpa using h.symm⟩
      · rename_i h1
        exact .inl ⟨h1, by simpa using h.symm⟩
    · rename_i h0
      obtain rfl : c' = c := by simpa using h
      exact .inl ⟨s, rfl, h0⟩
set_option maxRecDepth 100000 in
set_option maxHeartbeats 1000000 in
theorem arrow_any {wC : World} {p1 p2 : Nat} {A : Option Addr} {G : List Tr} {At : Option Addr} {ks : List Tr} {ty : Nat → An} (k n : Int) (ca ct : Nat) (hlt : ks.length ≤ ct) (hct : ct ≤ maxLen) (w0 : World) (N : Nat → Prop) (hJ : JOk wC w0 N p1 p2 A G At ks ty) (hks : 2 ≤ ks.length) (r : Tr × Int) (h : arrV ty = some r) : Calls Try.prog 48 #[.agg #[.slice A G.length ca, .int .i64 k, .int .i64 n, .slice At ks.length ct, .func (.func 35) #[] #[.pointer (some ⟨p1, 0, none⟩), .pointer (some ⟨p2, 0, none⟩)]]] w0 (AnQ N w0 r) := by
  rcases thn_some h with ⟨sA, h1, h2⟩ | ⟨sA, c, h1, hc, rfl⟩
  · rcases thn_some h2 with ⟨sB, h3, h4⟩ | ⟨sB, c, h3, hc, rfl⟩
    · obtain rfl : r = (srtT (max sA.num sB.num), 0) := by simpa using h4.symm
      have H1 := Lib.hid h1
      have H3 := Lib.hid h3
      clear h h1 h2 h3 h4
      obtain ⟨w1, hw1⟩ : ∃ x, x = ((w0.alloc (.cells #[.slice A G.length ca, .int .i64 k, .int .i64 n, .slice At ks.length ct, .func (.func 35) #[] #[.pointer (some ⟨p1, 0, none⟩), .pointer (some ⟨p2, 0, none⟩)]] 65)).alloc (.cells #[.int .i64 0, .int .i64 0, .slice none 0 0] 27)) := ⟨_, rfl⟩
      obtain ⟨bj_1, br_1, s1, e1⟩ := box2 hw1
      have HJ := Lib.hid (hJ.keep e1 (g := w0.heap.size + 1) (Nat.le_succ _) (by omega))
      obtain ⟨M, hM⟩ : ∃ M, M = (fun b => N b ∧ b ≠ w0.heap.size + 1) := ⟨_, rfl⟩
      rw [← hM] at HJ
      have HM := Lib.hid hM
      clear hM hJ
      go_enter Try.func48, Try.ntmps48
      go_wp2_with fail
      rw [← hw1]
      clear hw1
      refine (jlevel_any k n ca ct hlt hct w1 M (HJ.out.ext (Ext.refl w1)) 0 (by omega) _ H1.out).mono ?_
      rintro e w2 ⟨rfl, e2⟩
      have s2 := e2.size
      have bj_2 := e2.blk bj_1
      obtain ⟨zj0, zj1, zj2, zj3, zj4⟩ := own5 bj_2
      have lj := lt_of_blk bj_2
      have br_2 := e2.blk br_1
      obtain ⟨zr0, zr1, zr2, yr0, yr1, yr2⟩ := own3 br_2
      have lr := lt_of_blk br_2
      go_wp2_with fail
      clear zj0 zj1 zj2 zj3 zj4 lj zr0 zr1 zr2 yr0 yr1 yr2 lr
      have X1_2 := e2
      refine (jlevel_any k n ca ct hlt hct w2 M (HJ.out.ext X1_2) 1 (by omega) _ H3.out).mono ?_
      rintro e w3 ⟨rfl, e3⟩
      have s3 := e3.size
      have bj_3 := e3.blk bj_2
      obtain ⟨zj0, zj1, zj2, zj3, zj4⟩ := own5 bj_3
      have lj := lt_of_blk bj_3
      have br_3 := e3.blk br_2
      obtain ⟨zr0, zr1, zr2, yr0, yr1, yr2⟩ := own3 br_3
      have lr := lt_of_blk br_3
      go_wp2_with fail
      all_goals clear zj0 zj1 zj2 zj3 zj4 lj zr0 zr1 zr2 yr0 yr1 yr2 lr
      · rename_i hmx
        have HMX := Lib.hid (show max sA.num sB.num = sB.num from by omega)
        refine (sort_any sB.num w3).mono ?_
        rintro e w4 ⟨rfl, e4⟩
        have s4 := e4.size
        have bj_4 := e4.blk bj_3
        obtain ⟨zj0, zj1, zj2, zj3, zj4⟩ := own5 bj_4
        have lj := lt_of_blk bj_4
        have br_4 := e4.blk br_3
        obtain ⟨zr0, zr1, zr2, yr0, yr1, yr2⟩ := own3 br_4
        have lr := lt_of_blk br_4
        have X0_1 := e1
        have X0_2 := X0_1.trans e2
        have X0_3 := X0_2.trans e3
        have X0_4 := X0_3.trans e4
        go_wp2_with fail
        refine bodyPost_ret (v := .tuple #[.agg #[.int .i64 2, .int .i64 sB.num, .slice none 0 0], .int .i64 0]) (by simp [results, Try.results48, go_sem, zr0, zr1, zr2]) rfl ⟨_, rfl, (by show InT _ N (srtT (max sA.num sB.num)) _; rw [HMX.out]; exact leafT _ _ 2 _), (X0_4.set3 (by omega) _ _ _)⟩
      · rename_i hmx
        have HMX := Lib.hid (show max sA.num sB.num = sA.num from by omega)
        refine (sort_any sA.num w3).mono ?_
        rintro e w4 ⟨rfl, e4⟩
        have s4 := e4.size
        have bj_4 := e4.blk bj_3
        obtain ⟨zj0, zj1, zj2, zj3, zj4⟩ := own5 bj_4
        have lj := lt_of_blk bj_4
        have br_4 := e4.blk br_3
        obtain ⟨zr0, zr1, zr2, yr0, yr1, yr2⟩ := own3 br_4
        have lr := lt_of_blk br_4
        have X0_1 := e1
        have X0_2 := X0_1.trans e2
        have X0_3 := X0_2.trans e3
        have X0_4 := X0_3.trans e4
        go_wp2_with fail
        refine bodyPost_ret (v := .tuple #[.agg #[.int .i64 2, .int .i64 sA.num, .slice none 0 0], .int .i64 0]) (by simp [results, Try.results48, go_sem, zr0, zr1, zr2]) rfl ⟨_, rfl, (by show InT _ N (srtT (max sA.num sB.num)) _; rw [HMX.out]; exact leafT _ _ 2 _), (X0_4.set3 (by omega) _ _ _)⟩
    · have H1 := Lib.hid h1
      have H3 := Lib.hid h3
      have t1 : (c != 0) = true := by simp [hc]
      clear h h1 h2 h3 hc
      obtain ⟨w1, hw1⟩ : ∃ x, x = ((w0.alloc (.cells #[.slice A G.length ca, .int .i64 k, .int .i64 n, .slice At ks.length ct, .func (.func 35) #[] #[.pointer (some ⟨p1, 0, none⟩), .pointer (some ⟨p2, 0, none⟩)]] 65)).alloc (.cells #[.int .i64 0, .int .i64 0, .slice none 0 0] 27)) := ⟨_, rfl⟩
      obtain ⟨bj_1, br_1, s1, e1⟩ := box2 hw1
      have HJ := Lib.hid (hJ.keep e1 (g := w0.heap.size + 1) (Nat.le_succ _) (by omega))
      obtain ⟨M, hM⟩ : ∃ M, M = (fun b => N b ∧ b ≠ w0.heap.size + 1) := ⟨_, rfl⟩
      rw [← hM] at HJ
      have HM := Lib.hid hM
      clear hM hJ
      go_enter Try.func48, Try.ntmps48
      go_wp2_with fail
      rw [← hw1]
      clear hw1
      refine (jlevel_any k n ca ct hlt hct w1 M (HJ.out.ext (Ext.refl w1)) 0 (by omega) _ H1.out).mono ?_
      rintro e w2 ⟨rfl, e2⟩
      have s2 := e2.size
      have bj_2 := e2.blk bj_1
      obtain ⟨zj0, zj1, zj2, zj3, zj4⟩ := own5 bj_2
      have lj := lt_of_blk bj_2
      have br_2 := e2.blk br_1
      obtain ⟨zr0, zr1, zr2, yr0, yr1, yr2⟩ := own3 br_2
      have lr := lt_of_blk br_2
      go_wp2_with fail
      clear zj0 zj1 zj2 zj3 zj4 lj zr0 zr1 zr2 yr0 yr1 yr2 lr
      have X1_2 := e2
      refine (jlevel_any k n ca ct hlt hct w2 M (HJ.out.ext X1_2) 1 (by omega) _ H3.out).mono ?_
      rintro e w3 ⟨rfl, e3⟩
      have s3 := e3.size
      have bj_3 := e3.blk bj_2
      obtain ⟨zj0, zj1, zj2, zj3, zj4⟩ := own5 bj_3
      have lj := lt_of_blk bj_3
      have br_3 := e3.blk br_2
      obtain ⟨zr0, zr1, zr2, yr0, yr1, yr2⟩ := own3 br_3
      have lr := lt_of_blk br_3
      have X0_1 := e1
      have X0_2 := X0_1.trans e2
      have X0_3 := X0_2.trans e3
      go_wp2_with fail
      refine bodyPost_ret (v := .tuple #[.agg #[.int .i64 0, .int .i64 0, .slice none 0 0], .int .i64 c]) (by simp [results, Try.results48, go_sem, zr0, zr1, zr2]) rfl ⟨_, rfl, leafT _ _ 0 0, (X0_3.set3 (by omega) _ _ _)⟩
  · have H1 := Lib.hid h1
    have t1 : (c != 0) = true := by simp [hc]
    clear h h1 hc
    obtain ⟨w1, hw1⟩ : ∃ x, x = ((w0.alloc (.cells #[.slice A G.length ca, .int .i64 k, .int .i64 n, .slice At ks.length ct, .func (.func 35) #[] #[.pointer (some ⟨p1, 0, none⟩), .pointer (some ⟨p2, 0, none⟩)]] 65)).alloc (.cells #[.int .i64 0, .int .i64 0, .slice none 0 0] 27)) := ⟨_, rfl⟩
    obtain ⟨bj_1, br_1, s1, e1⟩ := box2 hw1
    have HJ := Lib.hid (hJ.keep e1 (g := w0.heap.size + 1) (Nat.le_succ _) (by omega))
    obtain ⟨M, hM⟩ : ∃ M, M = (fun b => N b ∧ b ≠ w0.heap.size + 1) := ⟨_, rfl⟩
    rw [← hM] at HJ
    have HM := Lib.hid hM
    clear hM hJ
    go_enter Try.func48, Try.ntmps48
    go_wp2_with fail
    rw [← hw1]
    clear hw1
    refine (jlevel_any k n ca ct hlt hct w1 M (HJ.out.ext (Ext.refl w1)) 0 (by omega) _ H1.out).mono ?_
    rintro e w2 ⟨rfl, e2⟩
    have s2 := e2.size
    have bj_2 := e2.blk bj_1
    obtain ⟨zj0, zj1, zj2, zj3, zj4⟩ := own5 bj_2
    have lj := lt_of_blk bj_2
    have br_2 := e2.blk br_1
    obtain ⟨zr0, zr1, zr2, yr0, yr1, yr2⟩ := own3 br_2
    have lr := lt_of_blk br_2
    have X0_1 := e1
    have X0_2 := X0_1.trans e2
    go_wp2_with fail
    refine bodyPost_ret (v := .tuple #[.agg #[.int .i64 0, .int .i64 0, .slice none 0 0], .int .i64 c]) (by simp [results, Try.results48, go_sem, zr0, zr1, zr2]) rfl ⟨_, rfl, leafT _ _ 0 0, (X0_2.set3 (by omega) _ _ _)⟩
set_option maxRecDepth 100000 in
set_option maxHeartbeats 1000000 in
theorem family_any {wC : World} {p1 p2 : Nat} {A : Option Addr} {G : List Tr} {At : Option Addr} {ks : List Tr} {ty : Nat → An} (k n : Int) (ca ct : Nat) (hlt : ks.length ≤ ct) (hct : ct ≤ maxLen) (w0 : World) (N : Nat → Prop) (hJ : JOk wC w0 N p1 p2 A G At ks ty) (i : Nat) (hi : i < ks.length) (T : Tr) (vT : Value) (hT : InT w0 N T vT) (c : Int) (h : famI (ty i) T = some c) : Calls Try.prog 70 #[.agg #[.slice A G.length ca, .int .i64 k, .int .i64 n, .slice At ks.length ct, .func (.func 35) #[] #[.pointer (some ⟨p1, 0, none⟩), .pointer (some ⟨p2, 0, none⟩)]], .int .i64 i, vT] w0 fun e w' => e = .returned (.int .i64 c) ∧ Ext w0 w' := by
  have HI := Lib.hid hi
  clear hi
  obtain ⟨k8, n8, ks8⟩ := T
  obtain ⟨A8, c8, rfl, hl8, hc8, hK8⟩ := InT.mk_iff.1 hT
  have HW := Lib.hid hT
  clear hT hK8
  rcases fam_cases h with ⟨sA, h1, hc⟩ | ⟨sA, h1, hl2, h2⟩
  · have H1 := Lib.hid h1
    have t1 : (c != 0) = true := by simp [hc]
    clear h h1 hc
    obtain ⟨w1, hw1⟩ : ∃ x, x = ((w0.alloc (.cells #[.slice A G.length ca, .int .i64 k, .int .i64 n, .slice At ks.length ct, .func (.func 35) #[] #[.pointer (some ⟨p1, 0, none⟩), .pointer (some ⟨p2, 0, none⟩)]] 65)).alloc (.cells #[.int .i64 k8, .int .i64 n8, .slice A8 ks8.length c8] 27)) := ⟨_, rfl⟩
    obtain ⟨bj_1, bw_1, s1, e1⟩ := box2 hw1
    have HJ := Lib.hid (hJ.ext e1)
    obtain ⟨M, hM⟩ : ∃ M, M = N := ⟨_, rfl⟩
    rw [← hM] at HJ
    have HM := Lib.hid hM
    clear hM hJ
    go_enter Try.func70, Try.ntmps70
    go_wp2_with fail
    rw [← hw1]
    clear hw1
    refine (form_any k n ca ct hlt hct w1 M (HJ.out.ext (Ext.refl w1)) i HI.out 3 _ H1.out).mono ?_
    rintro e w2 ⟨u, rfl, hT, e2⟩
    have s2 := e2.size
    obtain ⟨a1, b1, A1, l1, c1, rfl⟩ := hT.three
    have T1 := Lib.hid hT
    clear hT
    have bj_2 := e2.blk bj_1
    obtain ⟨zj0, zj1, zj2, zj3, zj4⟩ := own5 bj_2
    have lj := lt_of_blk bj_2
    have bw_2 := e2.blk bw_1
    obtain ⟨zw0, zw1, zw2, -⟩ := own3 bw_2
    have lw := lt_of_blk bw_2
    have X0_1 := e1
    have X0_2 := X0_1.trans e2
    go_wp2_with fail
    go_ret
    exact ⟨rfl, X0_2.alloc _⟩
  · have H1 := Lib.hid h1
    have HH := Lib.hid h2
    obtain ⟨ka, na, ka2⟩ := sA
    simp only [Tr.kids] at hl2 HH
    clear h h1 h2
    obtain ⟨w1, hw1⟩ : ∃ x, x = ((w0.alloc (.cells #[.slice A G.length ca, .int .i64 k, .int .i64 n, .slice At ks.length ct, .func (.func 35) #[] #[.pointer (some ⟨p1, 0, none⟩), .pointer (some ⟨p2, 0, none⟩)]] 65)).alloc (.cells #[.int .i64 k8, .int .i64 n8, .slice A8 ks8.length c8] 27)) := ⟨_, rfl⟩
    obtain ⟨bj_1, bw_1, s1, e1⟩ := box2 hw1
    have HJ := Lib.hid (hJ.ext e1)
    obtain ⟨M, hM⟩ : ∃ M, M = N := ⟨_, rfl⟩
    rw [← hM] at HJ
    have HM := Lib.hid hM
    clear hM hJ
    go_enter Try.func70, Try.ntmps70
    go_wp2_with fail
    rw [← hw1]
    clear hw1
    refine (form_any k n ca ct hlt hct w1 M (HJ.out.ext (Ext.refl w1)) i HI.out 3 _ H1.out).mono ?_
    rintro e w2 ⟨u, rfl, hT, e2⟩
    have s2 := e2.size
    obtain ⟨A1, c1, rfl, hl1, hc1, hK1⟩ := InT.mk_iff.1 hT
    obtain ⟨b, o, rfl, hkid⟩ := InK.kid hK1 (by omega)
    obtain ⟨x1, x2, x3, x4, x5, hx0, hx1, hx2, hxT⟩ := hkid 0 (by omega)
    obtain ⟨y1, y2, y3, y4, y5, hy0, hy1, hy2, hyT⟩ := hkid 1 (by omega)
    simp only [Nat.mul_zero, Nat.add_zero, Nat.mul_one] at hx0 hx1 hx2 hy0 hy1 hy2
    rw [hl2] at hl1 ⊢
    have HX := Lib.hid hxT
    have HY := Lib.hid hyT
    clear hT hK1 hkid hxT hyT
    have bj_2 := e2.blk bj_1
    obtain ⟨zj0, zj1, zj2, zj3, zj4⟩ := own5 bj_2
    have lj := lt_of_blk bj_2
    have bw_2 := e2.blk bw_1
    obtain ⟨zw0, zw1, zw2, -⟩ := own3 bw_2
    have lw := lt_of_blk bw_2
    obtain ⟨w3, hw3⟩ : ∃ x, x = w2.alloc (.cells #[.int .i64 ka, .int .i64 na, .slice (some ⟨b, o, none⟩) 2 c1] 27) := ⟨_, rfl⟩
    have e3 : Ext w2 w3 := hw3 ▸ (Ext.refl w2).alloc _
    have bq_3 := heap_alloc_new w2 (.cells #[.int .i64 ka, .int .i64 na, .slice (some ⟨b, o, none⟩) 2 c1] 27)
    rw [← hw3] at bq_3
    have s3 : w2.heap.size < w3.heap.size := lt_of_blk bq_3
    go_wp2_with fail
    rw [← hw3]
    clear hw3
    clear zj0 zj1 zj2 zj3 zj4 lj zw0 zw1 zw2 lw
    have X2_3 := e3
    have px0 := X2_3.cell hx0
    have px1 := X2_3.cell hx1
    have px2 := X2_3.cell hx2
    have py0 := X2_3.cell hy0
    have py1 := X2_3.cell hy1
    have py2 := X2_3.cell hy2
    clear hx0 hx1 hx2 hy0 hy1 hy2
    have X0_1 := e1
    have X0_2 := X0_1.trans e2
    have X0_3 := X0_2.trans e3
    have HCV := Lib.hid (fun W (hW : Ext w3 W) => converts_any (kd ka2 0) (.mk k8 n8 ks8) W _ _ (HX.out.lies'.ext (X2_3.trans hW)) (HW.out.lies'.ext (X0_3.trans hW)))
    have X1_2 := e2
    have X1_3 := X1_2.trans e3
    have HSH := Lib.hid (fun W (hW : Ext w3 W) => shaped_any (kd ka2 1) 2 W M (((HJ.out.ext X1_3)).ext hW).hN _ (HY.out.lies'.ext (X2_3.trans hW)))
    generalize cvtV (kd ka2 0) (.mk k8 n8 ks8) = cv at HCV HH
    generalize shpV (kd ka2 1) 2 = sh at HSH HH
    obtain ⟨⟨h7, h8, h9⟩, d⟩ := sh
    simp only at HH
    have bj_3 := e3.blk bj_2
    obtain ⟨zj0, zj1, zj2, zj3, zj4⟩ := own5 bj_3
    have lj := lt_of_blk bj_3
    have bw_3 := e3.blk bw_2
    obtain ⟨zw0, zw1, zw2, -⟩ := own3 bw_3
    have lw := lt_of_blk bw_3
    obtain ⟨zq0, zq1, zq2, -⟩ := own3 bq_3
    have lq := lt_of_blk bq_3
    have hkeep : ∀ w', Ext w3 w' → w'.cell? ⟨w0.heap.size, 0, none⟩ = some (.slice A G.length ca) ∧ w'.cell? ⟨w0.heap.size, 1, none⟩ = some (.int .i64 k) ∧ w'.cell? ⟨w0.heap.size, 2, none⟩ = some (.int .i64 n) ∧ w'.cell? ⟨w0.heap.size, 3, none⟩ = some (.slice At ks.length ct) ∧ w'.cell? ⟨w0.heap.size, 4, none⟩ = some (.func (.func 35) #[] #[.pointer (some ⟨p1, 0, none⟩), .pointer (some ⟨p2, 0, none⟩)]) ∧ w'.cell? ⟨w0.heap.size + 1, 0, none⟩ = some (.int .i64 k8) ∧ w'.cell? ⟨w0.heap.size + 1, 1, none⟩ = some (.int .i64 n8) ∧ w'.cell? ⟨w0.heap.size + 1, 2, none⟩ = some (.slice A8 ks8.length c8) ∧ w'.cell? ⟨w2.heap.size, 0, none⟩ = some (.int .i64 ka) ∧ w'.cell? ⟨w2.heap.size, 1, none⟩ = some (.int .i64 na) ∧ w'.cell? ⟨w2.heap.size, 2, none⟩ = some (.slice (some ⟨b, o, none⟩) 2 c1) ∧ w'.cell? ⟨b, o, none⟩ = some (.int .i64 x1) ∧ w'.cell? ⟨b, o + 1, none⟩ = some (.int .i64 x2) ∧ w'.cell? ⟨b, o + 2, none⟩ = some (.slice x3 x4 x5) := fun w' hk => ⟨hk.cell zj0, hk.cell zj1, hk.cell zj2, hk.cell zj3, hk.cell zj4, hk.cell zw0, hk.cell zw1, hk.cell zw2, hk.cell zq0, hk.cell zq1, hk.cell zq2, hk.cell px0, hk.cell px1, hk.cell px2⟩
    have HKEEP := Lib.hid hkeep
    clear hkeep
    go_region_held3 (fun w' => w'.cell? ⟨w0.heap.size, 0, none⟩ = some (.slice A G.length ca) ∧ w'.cell? ⟨w0.heap.size, 1, none⟩ = some (.int .i64 k) ∧ w'.cell? ⟨w0.heap.size, 2, none⟩ = some (.int .i64 n) ∧ w'.cell? ⟨w0.heap.size, 3, none⟩ = some (.slice At ks.length ct) ∧ w'.cell? ⟨w0.heap.size, 4, none⟩ = some (.func (.func 35) #[] #[.pointer (some ⟨p1, 0, none⟩), .pointer (some ⟨p2, 0, none⟩)]) ∧ w'.cell? ⟨w0.heap.size + 1, 0, none⟩ = some (.int .i64 k8) ∧ w'.cell? ⟨w0.heap.size + 1, 1, none⟩ = some (.int .i64 n8) ∧ w'.cell? ⟨w0.heap.size + 1, 2, none⟩ = some (.slice A8 ks8.length c8) ∧ w'.cell? ⟨w2.heap.size, 0, none⟩ = some (.int .i64 ka) ∧ w'.cell? ⟨w2.heap.size, 1, none⟩ = some (.int .i64 na) ∧ w'.cell? ⟨w2.heap.size, 2, none⟩ = some (.slice (some ⟨b, o, none⟩) 2 c1) ∧ w'.cell? ⟨b, o, none⟩ = some (.int .i64 x1) ∧ w'.cell? ⟨b, o + 1, none⟩ = some (.int .i64 x2) ∧ w'.cell? ⟨b, o + 2, none⟩ = some (.slice x3 x4 x5))
      (first | exact HKEEP.out _ ((Ext.refl w3).drew.trans ed4_0) | exact HKEEP.out _ (Ext.refl w3).drew)
      (first | (go_at_call 31; refine (HCV.out _ (Ext.refl w3).drew).mono ?_; rintro e w4 ⟨rfl, ed4_0⟩))
    have e4 : Ext w3 w4 := ((Ext.refl w3).drew.trans ed4_0)
    clear HKEEP zj0 zj1 zj2 zj3 zj4 lj zw0 zw1 zw2 lw zq0 zq1 zq2 lq
    have s4 := e4.size
    by_cases hcv : cv = 0
    · obtain rfl : c = d := by rcases HH.out with ⟨h, -⟩ | ⟨-, h⟩; exact absurd hcv h; exact h
      subst hcv
      have X3_4 := e4
      clear px0 px1 px2
      have qy0 := X3_4.cell py0
      have qy1 := X3_4.cell py1
      have qy2 := X3_4.cell py2
      clear py0 py1 py2
      have bj_4 := e4.blk bj_3
      obtain ⟨zj0, zj1, zj2, zj3, zj4⟩ := own5 bj_4
      have lj := lt_of_blk bj_4
      have bw_4 := e4.blk bw_3
      obtain ⟨zw0, zw1, zw2, -⟩ := own3 bw_4
      have lw := lt_of_blk bw_4
      have bq_4 := e4.blk bq_3
      obtain ⟨zq0, zq1, zq2, -⟩ := own3 bq_4
      have lq := lt_of_blk bq_4
      go_wp2_with fail
      clear zj0 zj1 zj2 zj3 zj4 lj zw0 zw1 zw2 lw zq0 zq1 zq2 lq
      refine (HSH.out w4 X3_4).mono ?_
      rintro e w5 ⟨u, rfl, hT, e5⟩
      have s5 := e5.size
      have bj_5 := e5.blk bj_4
      obtain ⟨zj0, zj1, zj2, zj3, zj4⟩ := own5 bj_5
      have lj := lt_of_blk bj_5
      have bw_5 := e5.blk bw_4
      obtain ⟨zw0, zw1, zw2, -⟩ := own3 bw_5
      have lw := lt_of_blk bw_5
      have bq_5 := e5.blk bq_4
      obtain ⟨zq0, zq1, zq2, -⟩ := own3 bq_5
      have lq := lt_of_blk bq_5
      have X0_4 := X0_3.trans e4
      have X0_5 := X0_4.trans e5
      go_wp2_with fail
      go_ret
      exact ⟨rfl, X0_5⟩
    · obtain rfl : c = cv := by rcases HH.out with ⟨-, h⟩ | ⟨h, -⟩; exact h; exact absurd h hcv
      have t1 : (c != 0) = true := by simp [hcv]
      clear hcv px0 px1 px2 py0 py1 py2
      have bj_4 := e4.blk bj_3
      obtain ⟨zj0, zj1, zj2, zj3, zj4⟩ := own5 bj_4
      have lj := lt_of_blk bj_4
      have bw_4 := e4.blk bw_3
      obtain ⟨zw0, zw1, zw2, -⟩ := own3 bw_4
      have lw := lt_of_blk bw_4
      have bq_4 := e4.blk bq_3
      obtain ⟨zq0, zq1, zq2, -⟩ := own3 bq_4
      have lq := lt_of_blk bq_4
      have X0_4 := X0_3.trans e4
      go_wp2_with fail
      go_ret
      exact ⟨rfl, X0_4⟩
/-- Where the loop over the two sides stands: the side and the code. -/
def IdSt (c0 : Int) (x1 x2 : Option Int) (m : Nat) (c : Int) : Prop := (m = 1 ∧ c = c0) ∨ (m = 2 ∧ c0 = 0 ∧ x1 = some c) ∨ (m = 3 ∧ c0 = 0 ∧ x1 = some 0 ∧ x2 = some c)
theorem idn_some {ty : Nat → An} {T : Tr} {r : Tr × Int} (h : idnV ty T = some r) : ∃ s c0, frmV (ty 0) 2 = some (s, c0) ∧ ∀ (m : Nat) (c : Int), IdSt c0 (chkI (ty 1) T) (chkI (ty 2) T) m c →
    (c = 0 → m ≤ 2 → ∃ d, chkI (ty m) T = some d ∧ IdSt c0 (chkI (ty 1) T) (chkI (ty 2) T) (m + 1) d) ∧ (c ≠ 0 → r = (dflt0, c)) ∧ (c = 0 → 2 < m → r = (srtT s.num, 0)) ∧ 1 ≤ m ∧ m ≤ 3 := by
  rcases thn_some h with ⟨sA, h1, h2⟩ | ⟨sA, c, h1, hc, rfl⟩
  · refine ⟨sA, 0, h1, fun m c hm => ?_⟩
    obtain ⟨c1, h3, h4, h5⟩ := chk_some h2
    rcases hm with ⟨rfl, rfl⟩ | ⟨rfl, -, h6⟩ | ⟨rfl, -, h6, h7⟩
    · exact ⟨fun _ _ => ⟨c1, h3, .inr (.inl ⟨rfl, rfl, h3⟩)⟩, fun h => absurd rfl h, fun _ h => absurd h (by omega), by omega, by omega⟩
    · obtain rfl : c1 = c := by rw [h3] at h6; simpa using h6
      refine ⟨fun h0 _ => ?_, h5, fun _ h => absurd h (by omega), by omega, by omega⟩
      subst h0
      obtain ⟨c2, h8, h9, h10⟩ := chk_some (h4 rfl)
      exact ⟨c2, h8, .inr (.inr ⟨rfl, rfl, h3, h8⟩)⟩
    · obtain rfl : c1 = 0 := by rw [h3] at h6; simpa using h6
      obtain ⟨c2, h8, h9, h10⟩ := chk_some (h4 rfl)
      obtain rfl : c2 = c := by rw [h8] at h7; simpa using h7
      exact ⟨fun _ h => absurd h (by omega), h10, fun h _ => by have := h9 h; simpa using this.symm, by omega, by omega⟩
  · refine ⟨sA, c, h1, fun m d hm => ?_⟩
    rcases hm with ⟨rfl, rfl⟩ | ⟨-, h6, -⟩ | ⟨-, h6, -⟩
    · exact ⟨fun h => absurd h hc, fun _ => rfl, fun h => absurd h hc, by omega, by omega⟩
    · exact absurd h6 hc
    · exact absurd h6 hc
set_option maxRecDepth 100000 in
set_option maxHeartbeats 1000000 in
theorem equality_any {wC : World} {p1 p2 : Nat} {A : Option Addr} {G : List Tr} {At : Option Addr} {ks : List Tr} {ty : Nat → An} (k n : Int) (ca ct : Nat) (hlt : ks.length ≤ ct) (hct : ct ≤ maxLen) (w0 : World) (N : Nat → Prop) (hJ : JOk wC w0 N p1 p2 A G At ks ty) (hks : ks.length = 3) (r : Tr × Int) (h : idnV ty (kd ks 0) = some r) : Calls Try.prog 55 #[.agg #[.slice A G.length ca, .int .i64 k, .int .i64 n, .slice At ks.length ct, .func (.func 35) #[] #[.pointer (some ⟨p1, 0, none⟩), .pointer (some ⟨p2, 0, none⟩)]]] w0 (AnQ N w0 r) := by
  have HKS := Lib.hid hks
  obtain ⟨s, c0, h1, h2⟩ := idn_some h
  have H1 := Lib.hid h1
  have H2 := Lib.hid h2
  clear h h1 h2
  obtain ⟨b, o, rfl, hkid⟩ := InK.kid hJ.hK (by omega)
  obtain ⟨k01, k02, k03, k04, k05, hk00, hk01, hk02, hkT0⟩ := hkid 0 (by omega)
  simp only [Nat.mul_zero, Nat.add_zero] at hk00 hk01 hk02
  have KT0 := Lib.hid hkT0
  clear hkT0
  have hp0 : (0 : Int) < (ks.length : Int) := by omega
  have hq0 : 0 < ks.length := by omega
  clear hkid
  clear hks
  obtain ⟨w1, hw1⟩ : ∃ x, x = ((w0.alloc (.cells #[.slice A G.length ca, .int .i64 k, .int .i64 n, .slice (some ⟨b, o, none⟩) ks.length ct, .func (.func 35) #[] #[.pointer (some ⟨p1, 0, none⟩), .pointer (some ⟨p2, 0, none⟩)]] 65)).alloc (.cells #[.int .i64 0, .int .i64 0, .slice none 0 0] 27)) := ⟨_, rfl⟩
  obtain ⟨bj_1, br_1, s1, e1⟩ := box2 hw1
  have HJ := Lib.hid (hJ.keep e1 (g := w0.heap.size + 1) (Nat.le_succ _) (by omega))
  obtain ⟨M, hM⟩ : ∃ M, M = (fun b => N b ∧ b ≠ w0.heap.size + 1) := ⟨_, rfl⟩
  rw [← hM] at HJ
  have HM := Lib.hid hM
  clear hM hJ
  go_enter Try.func55, Try.ntmps55
  go_wp2_with fail
  rw [← hw1]
  clear hw1
  refine (jlevel_any k n ca ct hlt hct w1 M (HJ.out.ext (Ext.refl w1)) 0 (by rw [HKS.out]; decide) _ H1.out).mono ?_
  rintro e w2 ⟨rfl, e2⟩
  have s2 := e2.size
  simp only
  have bj_2 := e2.blk bj_1
  obtain ⟨zj0, zj1, zj2, zj3, zj4⟩ := own5 bj_2
  have lj := lt_of_blk bj_2
  have br_2 := e2.blk br_1
  obtain ⟨zr0, zr1, zr2, yr0, yr1, yr2⟩ := own3 br_2
  have lr := lt_of_blk br_2
  go_wp2_with fail
  clear zj0 zj1 zj2 zj3 zj4 lj zr0 zr1 zr2 yr0 yr1 yr2 lr
  go_loopw [5, 6] (fun c i wr => ∃ (m : Nat) (d : Int), i = .int .i64 m ∧ c = .int .i64 d ∧ Hid (IdSt c0 (chkI (ty 1) (kd ks 0)) (chkI (ty 2) (kd ks 0)) m d) ∧ Ext w2 wr) (fun _ i _ => 4 - (intOf i).toNat)
  case atStart => exact ⟨1, c0, rfl, rfl, Lib.hid (.inl ⟨rfl, rfl⟩), Ext.refl _⟩
  case round =>
    obtain ⟨m, d, rfl, rfl, HST, e3⟩ := hrel
    obtain ⟨w3, rfl⟩ : ∃ x, x = wr := ⟨_, rfl⟩
    have s3 : w2.heap.size ≤ w3.heap.size := e3.size
    obtain ⟨f1, f2, f3, f4, f5⟩ := H2.out m d HST.out
    by_cases hd : d = 0
    · by_cases hm : m ≤ 2
      · obtain ⟨d', hd', hst⟩ := f1 hd hm
        have HD := Lib.hid hd'
        have HST2 := Lib.hid hst
        have t1 : decide ((m : Int) ≤ 2) = true := decide_eq_true (by omega)
        have hmw : IntKind.i64.wrap ((m : Int) + 1) = (m : Int) + 1 := IntWalk.i64_in _ ⟨by omega, by omega⟩
        subst hd
        have HM2 := Lib.hid hm
        clear f1 f2 f3 hd' hst hm HST
        have X0_1 := e1
        have X0_2 := X0_1.trans e2
        have X0_3 := X0_2.trans e3
        replace hk00 := X0_3.cell hk00
        replace hk01 := X0_3.cell hk01
        replace hk02 := X0_3.cell hk02
        have X1_2 := e2
        have X1_3 := X1_2.trans e3
        have HCK := Lib.hid (fun W (hW : Ext w3 W) => jcheck_any k n ca ct hlt hct W M ((HJ.out.ext X1_3).ext hW) m (by have := HM2.out; rw [HKS.out]; omega) (kd ks 0) _ (HM.out ▸ InT.later (InT.keep KT0.out e1 (g := w0.heap.size + 1) (Nat.le_succ _)) (X1_3.trans hW)) d' HD.out)
        have bj_3 := e3.blk bj_2
        obtain ⟨zj0, zj1, zj2, zj3, zj4⟩ := own5 bj_3
        have lj := lt_of_blk bj_3
        have br_3 := e3.blk br_2
        obtain ⟨zr0, zr1, zr2, yr0, yr1, yr2⟩ := own3 br_3
        have lr := lt_of_blk br_3
        go_wp2_with fail
        clear zj0 zj1 zj2 zj3 zj4 lj zr0 zr1 zr2 yr0 yr1 yr2 lr
        obtain ⟨zj0, zj1, zj2, zj3, zj4⟩ := own5 bj_3
        have lj := lt_of_blk bj_3
        obtain ⟨zr0, zr1, zr2, yr0, yr1, yr2⟩ := own3 br_3
        have lr := lt_of_blk br_3
        have hkeep : ∀ w', Ext w3 w' → w'.cell? ⟨w0.heap.size, 0, none⟩ = some (.slice A G.length ca) ∧ w'.cell? ⟨w0.heap.size, 1, none⟩ = some (.int .i64 k) ∧ w'.cell? ⟨w0.heap.size, 2, none⟩ = some (.int .i64 n) ∧ w'.cell? ⟨w0.heap.size, 3, none⟩ = some (.slice (some ⟨b, o, none⟩) ks.length ct) ∧ w'.cell? ⟨w0.heap.size, 4, none⟩ = some (.func (.func 35) #[] #[.pointer (some ⟨p1, 0, none⟩), .pointer (some ⟨p2, 0, none⟩)]) ∧ w'.cell? ⟨b, o, none⟩ = some (.int .i64 k01) ∧ w'.cell? ⟨b, o + 1, none⟩ = some (.int .i64 k02) ∧ w'.cell? ⟨b, o + 2, none⟩ = some (.slice k03 k04 k05) := fun w' hk => ⟨hk.cell zj0, hk.cell zj1, hk.cell zj2, hk.cell zj3, hk.cell zj4, hk.cell hk00, hk.cell hk01, hk.cell hk02⟩
        have HKEEP := Lib.hid hkeep
        clear hkeep
        go_region_held3 (fun w' => w'.cell? ⟨w0.heap.size, 0, none⟩ = some (.slice A G.length ca) ∧ w'.cell? ⟨w0.heap.size, 1, none⟩ = some (.int .i64 k) ∧ w'.cell? ⟨w0.heap.size, 2, none⟩ = some (.int .i64 n) ∧ w'.cell? ⟨w0.heap.size, 3, none⟩ = some (.slice (some ⟨b, o, none⟩) ks.length ct) ∧ w'.cell? ⟨w0.heap.size, 4, none⟩ = some (.func (.func 35) #[] #[.pointer (some ⟨p1, 0, none⟩), .pointer (some ⟨p2, 0, none⟩)]) ∧ w'.cell? ⟨b, o, none⟩ = some (.int .i64 k01) ∧ w'.cell? ⟨b, o + 1, none⟩ = some (.int .i64 k02) ∧ w'.cell? ⟨b, o + 2, none⟩ = some (.slice k03 k04 k05))
          (first | exact HKEEP.out _ ((Ext.refl w3).drew.trans ed4_0) | exact HKEEP.out _ (Ext.refl w3).drew)
          (first | (go_at_call 47; refine (HCK.out _ (Ext.refl w3).drew).mono ?_; rintro e w4 ⟨rfl, ed4_0⟩))
        have e4 : Ext w3 w4 := ((Ext.refl w3).drew.trans ed4_0)
        clear HKEEP zj0 zj1 zj2 zj3 zj4 lj zr0 zr1 zr2 yr0 yr1 yr2 lr
        have s4 := e4.size
        have X2_3 := e3
        have X2_4 := X2_3.trans e4
        go_wp2_with fail
        go_roundw
        case rel => exact ⟨m + 1, d', by go_num, rfl, HST2, X2_4⟩
        case measure => simp [intOf]; omega
      · obtain rfl := f3 hd (by omega)
        have t1 : decide ((m : Int) ≤ 2) = false := decide_eq_false (by omega)
        subst hd
        clear f1 f2 f3 hm HST hk00 hk01 hk02
        have bj_3 := e3.blk bj_2
        obtain ⟨zj0, zj1, zj2, zj3, zj4⟩ := own5 bj_3
        have lj := lt_of_blk bj_3
        have br_3 := e3.blk br_2
        obtain ⟨zr0, zr1, zr2, yr0, yr1, yr2⟩ := own3 br_3
        have lr := lt_of_blk br_3
        go_wp2_with fail
        clear zj0 zj1 zj2 zj3 zj4 lj zr0 zr1 zr2 yr0 yr1 yr2 lr
        refine (sort_any s.num w3).mono ?_
        rintro e w4 ⟨rfl, e4⟩
        have s4 := e4.size
        have bj_4 := e4.blk bj_3
        obtain ⟨zj0, zj1, zj2, zj3, zj4⟩ := own5 bj_4
        have lj := lt_of_blk bj_4
        have br_4 := e4.blk br_3
        obtain ⟨zr0, zr1, zr2, yr0, yr1, yr2⟩ := own3 br_4
        have lr := lt_of_blk br_4
        have X0_1 := e1
        have X0_2 := X0_1.trans e2
        have X0_3 := X0_2.trans e3
        have X0_4 := X0_3.trans e4
        go_wp2_with fail
        refine bodyPost_ret (v := .tuple #[.agg #[.int .i64 2, .int .i64 s.num, .slice none 0 0], .int .i64 0]) (by simp [results, Try.results55, go_sem, zr0, zr1, zr2]) rfl ⟨_, rfl, leafT _ _ 2 _, (X0_4.set3 (by omega) _ _ _)⟩
    · obtain rfl := f2 hd
      have t2 : (d != 0) = true := by simp [hd]
      have t3 : (d == 0) = false := by simp [hd]
      clear f1 f2 f3 hd HST hk00 hk01 hk02
      by_cases hm : m ≤ 2
      · have t1 : decide ((m : Int) ≤ 2) = true := decide_eq_true (by omega)
        have bj_3 := e3.blk bj_2
        obtain ⟨zj0, zj1, zj2, zj3, zj4⟩ := own5 bj_3
        have lj := lt_of_blk bj_3
        have br_3 := e3.blk br_2
        obtain ⟨zr0, zr1, zr2, yr0, yr1, yr2⟩ := own3 br_3
        have lr := lt_of_blk br_3
        have X0_1 := e1
        have X0_2 := X0_1.trans e2
        have X0_3 := X0_2.trans e3
        go_wp2_with fail
        refine bodyPost_ret (v := .tuple #[.agg #[.int .i64 0, .int .i64 0, .slice none 0 0], .int .i64 d]) (by simp [results, Try.results55, go_sem, zr0, zr1, zr2]) rfl ⟨_, rfl, leafT _ _ 0 0, (X0_3.set3 (by omega) _ _ _)⟩
      · have t1 : decide ((m : Int) ≤ 2) = false := decide_eq_false (by omega)
        have bj_3 := e3.blk bj_2
        obtain ⟨zj0, zj1, zj2, zj3, zj4⟩ := own5 bj_3
        have lj := lt_of_blk bj_3
        have br_3 := e3.blk br_2
        obtain ⟨zr0, zr1, zr2, yr0, yr1, yr2⟩ := own3 br_3
        have lr := lt_of_blk br_3
        have X0_1 := e1
        have X0_2 := X0_1.trans e2
        have X0_3 := X0_2.trans e3
        go_wp2_with fail
        refine bodyPost_ret (v := .tuple #[.agg #[.int .i64 0, .int .i64 0, .slice none 0 0], .int .i64 d]) (by simp [results, Try.results55, go_sem, zr0, zr1, zr2]) rfl ⟨_, rfl, leafT _ _ 0 0, (X0_3.set3 (by omega) _ _ _)⟩
/-- What is said of made behind a check. -/
theorem mk_ok (X : Tr) : (if valid sigT X = true then mkV (okT X) else (dflt0, 2)) = mkV X := by
  by_cases h : valid sigT X = true
  · rw [if_pos h]; unfold okT; rw [if_pos h]
  · rw [if_neg h]; unfold mkV; rw [if_neg h]
/-- subst, as1 a region wants it. -/
def SubQ (w0 : World) (u : Tr) (v vu : Value) (T : Tr) (y : Bool) : Prop := ∀ (W : World) (N : Nat → Prop), Ext w0 W → Lies W u vu → (∀ b, W.heap.size ≤ b → N b) →
  Calls Try.prog 53 #[v, .int .i64 0, vu] W fun e w' => ∃ r, e = .returned (.tuple #[r, .bool y]) ∧ InT w' N T r ∧ Ext W w'
theorem subQ {w0 : World} {t u : Tr} {v vu : Value} (h : Lies w0 t v) (hv : valid sigT t = true) (hu : valid sigT u = true) : SubQ w0 u v vu (okT (sbsT u t 0 0)) (valid sigT (sbsT u t 0 0)) := fun W N hW hl hN => by
  refine (subst_any t 0 u W v vu (h.ext hW) hv hl hu (by omega) (by omega)).mono ?_
  rintro e w' ⟨r, rfl, hM, e'⟩
  exact ⟨r, rfl, hM.at' hN, e'⟩
/-- made, as1 a region wants it. -/
def MadQ (T : Tr) (y : Bool) (r : Tr × Int) : Prop := ∀ (W : World) (N : Nat → Prop) (v : Value), InT W N T v → Calls Try.prog 44 #[v, .bool y] W fun e w' => ∃ u, e = .returned (.tuple #[u, .int .i64 r.2]) ∧ InT w' N r.1 u ∧ Ext W w'
theorem madQ (X : Tr) : MadQ (okT X) (valid sigT X) (mkV X) := fun W N v h => by
  have hh := made_any (okT X) (valid sigT X) W N v h
  rw [mk_ok] at hh
  exact hh
theorem madQ1 (X : Tr) : MadQ X true (mkV X) := fun W N v h => by
  have hh := made_any X true W N v h
  rw [if_pos rfl] at hh
  exact hh
set_option maxRecDepth 100000 in
set_option maxHeartbeats 1000000 in
theorem part_any {wC : World} {p1 p2 : Nat} {A : Option Addr} {G : List Tr} {At : Option Addr} {ks : List Tr} {ty : Nat → An} (k n : Int) (ca ct : Nat) (hlt : ks.length ≤ ct) (hct : ct ≤ maxLen) (w0 : World) (N : Nat → Prop) (hJ : JOk wC w0 N p1 p2 A G At ks ty) (hk : k = 15 ∨ k = 16) (hks : ks.length = 1) (hvj : valid sigT (.mk k n ks) = true) (r : Tr × Int) (h : prtV ty k (kd ks 0) = some r) : Calls Try.prog 58 #[.agg #[.slice A G.length ca, .int .i64 k, .int .i64 n, .slice At ks.length ct, .func (.func 35) #[] #[.pointer (some ⟨p1, 0, none⟩), .pointer (some ⟨p2, 0, none⟩)]]] w0 (AnQ N w0 r) := by
  have HKS := Lib.hid hks
  have hkd : valid sigT (kd ks 0) = true := kd_valid (t := .mk k n ks) hvj (by show 0 < ks.length; omega)
  obtain ⟨b, o, rfl, hkid⟩ := InK.kid hJ.hK (by omega)
  obtain ⟨k01, k02, k03, k04, k05, hk00, hk01, hk02, hkT0⟩ := hkid 0 (by omega)
  simp only [Nat.mul_zero, Nat.add_zero] at hk00 hk01 hk02
  have KT0 := Lib.hid hkT0
  clear hkT0
  have hp0 : (0 : Int) < (ks.length : Int) := by omega
  have hq0 : 0 < ks.length := by omega
  clear hkid
  rcases thn_some h with ⟨sA, h1, h2⟩ | ⟨sA, c, h1, hc, rfl⟩
  · have H1 := Lib.hid h1
    obtain ⟨hsk, hsl, hsv⟩ := frm_len h1
    have hl2 : sA.kids.length = 2 := by have : opsT 13 = 2 := rfl; omega
    have hv1 : valid sigT (kd sA.kids 1) = true := kd_valid hsv (by omega)
    obtain ⟨ka, na, ka2⟩ := sA
    simp only [Tr.kids] at hl2 hv1 h2
    clear h h1 hsl hsv hsk
    have hvu : valid sigT (.mk 15 0 [kd ks 0]) = true ∨ k = 15 := by
      rcases hk with rfl | rfl
      · exact .inr rfl
      · left
        obtain ⟨x, hx⟩ : ∃ x, ks = [x] := List.length_eq_one_iff.1 hks
        subst hx
        obtain ⟨q1, q2⟩ := valid_parts hvj
        obtain ⟨-, -, -, q3⟩ := shape_kids' q1
        have q4 := q3 x (by simp)
        unfold valid
        simp only [Bool.and_eq_true, decide_eq_true_eq]
        refine ⟨?_, by simpa [cnt, cnts, kd] using q2⟩
        simp only [kd, List.getD_cons_zero, shape, shapes, Bool.and_true, Bool.and_eq_true, decide_eq_true_eq]
        exact ⟨by omega, rfl, q4⟩
    clear hvj hks
    obtain ⟨w1, hw1⟩ : ∃ x, x = ((w0.alloc (.cells #[.slice A G.length ca, .int .i64 k, .int .i64 n, .slice (some ⟨b, o, none⟩) ks.length ct, .func (.func 35) #[] #[.pointer (some ⟨p1, 0, none⟩), .pointer (some ⟨p2, 0, none⟩)]] 65)).alloc (.cells #[.int .i64 0, .int .i64 0, .slice none 0 0] 27)) := ⟨_, rfl⟩
    obtain ⟨bj_1, br_1, s1, e1⟩ := box2 hw1
    have HJ := Lib.hid (hJ.keep e1 (g := w0.heap.size + 1) (Nat.le_succ _) (by omega))
    obtain ⟨M, hM⟩ : ∃ M, M = (fun b => N b ∧ b ≠ w0.heap.size + 1) := ⟨_, rfl⟩
    rw [← hM] at HJ
    have HM := Lib.hid hM
    clear hM hJ
    go_enter Try.func58, Try.ntmps58
    go_wp2_with fail
    rw [← hw1]
    clear hw1
    refine (form_any k n ca ct hlt hct w1 M (HJ.out.ext (Ext.refl w1)) 0 (by rw [HKS.out]; decide) 13 _ H1.out).mono ?_
    rintro e w2 ⟨u, rfl, hT, e2⟩
    have s2 := e2.size
    obtain ⟨A1, c1, rfl, hl1, hc1, hK1⟩ := InT.mk_iff.1 hT
    obtain ⟨b2, o2, rfl, hkid2⟩ := InK.kid hK1 (by omega)
    obtain ⟨x1, x2, x3, x4, x5, hx0, hx1, hx2, hxT⟩ := hkid2 0 (by omega)
    obtain ⟨y1, y2, y3, y4, y5, hy0, hy1, hy2, hyT⟩ := hkid2 1 (by omega)
    simp only [Nat.mul_zero, Nat.add_zero, Nat.mul_one] at hx0 hx1 hx2 hy0 hy1 hy2
    rw [hl2] at hl1 ⊢
    have HX := Lib.hid hxT
    have HY := Lib.hid hyT
    clear hT hK1 hkid2 hxT hyT
    by_cases hk15 : k = 15
    · obtain rfl : r = (kd ka2 0, 0) := by rw [if_pos hk15] at h2; simpa using h2.symm
      have t15 : (k == 15) = true := beq_iff_eq.2 hk15
      clear h2 hvu hk15 hk hy0 hy1 hy2 hk00 hk01 hk02
      have bj_2 := e2.blk bj_1
      obtain ⟨zj0, zj1, zj2, zj3, zj4⟩ := own5 bj_2
      have lj := lt_of_blk bj_2
      have br_2 := e2.blk br_1
      obtain ⟨zr0, zr1, zr2, yr0, yr1, yr2⟩ := own3 br_2
      have lr := lt_of_blk br_2
      clear lr
      have eq2 : Ext w2 (w2.alloc (.cells #[.int .i64 ka, .int .i64 na, .slice (some ⟨b2, o2, none⟩) 2 c1] 27)) := (Ext.refl w2).alloc _
      have X0_1 := e1
      have X0_2 := X0_1.trans e2
      obtain ⟨pr0, pr1, pr2, or0, or1, or2⟩ := own3 (eq2.blk br_2)
      have px0 := eq2.cell hx0
      have px1 := eq2.cell hx1
      have px2 := eq2.cell hx2
      go_wp2_with fail
      refine bodyPost_ret (v := .tuple #[.agg #[.int .i64 x1, .int .i64 x2, .slice x3 x4 x5], .int .i64 0]) (by simp [results, Try.results58, go_sem, pr0, pr1, pr2]) rfl ⟨_, rfl, InT.ret (HM.out ▸ HX.out.later eq2) _ _ _, ((((X0_2.trans eq2).setCell (by simp; try omega) _).setCell (by simp; try omega) _).setCell (by simp; try omega) _)⟩
    · have t15 : (k == 15) = false := beq_eq_false_iff_ne.2 hk15
      obtain ⟨X, hX⟩ : ∃ X, sbsT (.mk 15 0 [kd ks 0]) (kd ka2 1) 0 0 = X := ⟨_, rfl⟩
      obtain ⟨⟨T2, d⟩, hT2⟩ : ∃ q, mkV X = q := ⟨_, rfl⟩
      obtain rfl : r = (T2, d) := by rw [if_neg hk15, hX, hT2] at h2; simpa using h2.symm
      have HMQ : Hid (MadQ (okT X) (valid sigT X) (T2, d)) := Lib.hid (hT2 ▸ madQ X)
      have HSQ : Hid (∀ vu, SubQ w2 (.mk 15 0 [kd ks 0]) _ vu (okT X) (valid sigT X)) := Lib.hid (fun vu => hX ▸ subQ HY.out.lies' hv1 (hvu.resolve_right hk15))
      generalize okT X = T1 at HMQ HSQ
      generalize valid sigT X = zz at HMQ HSQ
      clear h2 hX hT2 hvu hk hk15 hx0 hx1 hx2 hv1
      have bj_2 := e2.blk bj_1
      obtain ⟨zj0, zj1, zj2, zj3, zj4⟩ := own5 bj_2
      have lj := lt_of_blk bj_2
      have br_2 := e2.blk br_1
      obtain ⟨zr0, zr1, zr2, yr0, yr1, yr2⟩ := own3 br_2
      have lr := lt_of_blk br_2
      obtain ⟨w3, hw3⟩ : ∃ x, x = w2.alloc (.cells #[.int .i64 ka, .int .i64 na, .slice (some ⟨b2, o2, none⟩) 2 c1] 27) := ⟨_, rfl⟩
      have e3 : Ext w2 w3 := hw3 ▸ (Ext.refl w2).alloc _
      have bq_3 := heap_alloc_new w2 (.cells #[.int .i64 ka, .int .i64 na, .slice (some ⟨b2, o2, none⟩) 2 c1] 27)
      rw [← hw3] at bq_3
      have s3 : w2.heap.size < w3.heap.size := lt_of_blk bq_3
      go_wp2_with fail
      rw [← hw3]
      clear hw3
      clear zj0 zj1 zj2 zj3 zj4 lj zr0 zr1 zr2 yr0 yr1 yr2 lr
      have X2_3 := e3
      replace hy0 := X2_3.cell hy0
      replace hy1 := X2_3.cell hy1
      replace hy2 := X2_3.cell hy2
      have X0_1 := e1
      have X0_2 := X0_1.trans e2
      have X0_3 := X0_2.trans e3
      replace hk00 := X0_3.cell hk00
      replace hk01 := X0_3.cell hk01
      replace hk02 := X0_3.cell hk02
      have bj_3 := e3.blk bj_2
      obtain ⟨zj0, zj1, zj2, zj3, zj4⟩ := own5 bj_3
      have lj := lt_of_blk bj_3
      have br_3 := e3.blk br_2
      obtain ⟨zr0, zr1, zr2, yr0, yr1, yr2⟩ := own3 br_3
      have lr := lt_of_blk br_3
      obtain ⟨zq0, zq1, zq2, -⟩ := own3 bq_3
      have lq := lt_of_blk bq_3
      have X1_2 := e2
      have X1_3 := X1_2.trans e3
      have HNN := Lib.hid (show ∀ w z, EG (w3.drew, []) (w, z) → ∀ b, w.heap.size ≤ b → Mz M z b from fun w z h => h.news ((fun w h => ((HJ.out.ext X1_3).ext h).hN) w ((Ext.refl w3).drew.trans h.1)))
      refine wp_region_held_drew (S := fun _ => True) (by kernel_rfl) trivial (fun _ => ?_)
      refine ordG w3 17 42 #[true, true, true, true, true, true, true, true, true, true, true, true, true, true, true, true, true, false, false] 2 [Sp.val (.pointer (some ⟨w2.heap.size, 2, none⟩)), Sp.val (.slice (some ⟨b2, o2, none⟩) 2 c1), Sp.val (.pointer (some ⟨b2, o2 + 3, none⟩)), Sp.val (.agg #[.int .i64 y1, .int .i64 y2, .slice y3 y4 y5]), Sp.val (.pointer (some ⟨w0.heap.size, 1, none⟩)), Sp.val (.pointer (some ⟨w0.heap.size, 3, none⟩)), Sp.val (.slice (some ⟨b, o, none⟩) ks.length ct), Sp.val (.pointer (some ⟨b, o, none⟩)), Sp.val (.agg #[.int .i64 k01, .int .i64 k02, .slice k03 k04 k05]), Sp.row M [kd ks 0], Sp.tree M (.mk 15 0 [kd ks 0]), Sp.two M T1 (.bool zz), Sp.tree M T1, Sp.val (.bool zz), Sp.two M T2 (.int .i64 d), Sp.tree M T2, Sp.val (.int .i64 d)] (by kernel_rfl) rfl (by kernel_rfl) (by kernel_rfl) (by kernel_rfl) ?steps_1 ?fin_1
      case steps_1 =>
        refine And.intro (.inr ?s0_1) (And.intro (.inr ?s1_1) (And.intro (.inr ?s2_1) (And.intro (.inr ?s3_1) (And.intro (.inr ?s4_1) (And.intro (.inr ?s5_1) (And.intro (.inr ?s6_1) (And.intro (.inr ?s7_1) (And.intro (.inr ?s8_1) (And.intro (.inr ?s9_1) (And.intro (.inr ?s10_1) (And.intro (.inr ?s11_1) (And.intro (.inr ?s12_1) (And.intro (.inr ?s13_1) (And.intro (.inr ?s14_1) (And.intro (.inr ?s15_1) (And.intro (.inr ?s16_1) (trivial)))))))))))))))))
        all_goals (intro a w z hE hold hdep; refine Ord.step_of rfl rfl ?_; intro K hK)
        case s0_1 => (have f4 := slot_at (show a.eval (.tmp 4) = .pointer (some ⟨w2.heap.size, 0, none⟩) from hold 4 (by kernel_rfl)); go_simp; exact hK _ _ ⟨_, z, rfl, hE.id, rfl⟩)
        case s1_1 => (have f25 := slot_at (show a.eval (.tmp 25) = .pointer (some ⟨w2.heap.size, 2, none⟩) from hdep 0 25 (by kernel_rfl)); have q0 := hE.1.cell zq2; go_simp; exact hK _ _ ⟨_, z, rfl, hE.id, rfl⟩)
        case s2_1 => (have f26 := slot_at (show a.eval (.tmp 26) = .slice (some ⟨b2, o2, none⟩) 2 c1 from hdep 1 26 (by kernel_rfl)); go_simp; exact hK _ _ ⟨_, z, rfl, hE.id, rfl⟩)
        case s3_1 => (have f27 := slot_at (show a.eval (.tmp 27) = .pointer (some ⟨b2, o2 + 3, none⟩) from hdep 2 27 (by kernel_rfl)); have q0 := hE.1.cell hy0; have q1 := hE.1.cell hy1; have q2 := hE.1.cell hy2; go_simp; exact hK _ _ ⟨_, z, rfl, hE.id, rfl⟩)
        case s4_1 => (have f1 := slot_at (show a.eval (.tmp 1) = .pointer (some ⟨w0.heap.size, 0, none⟩) from hold 1 (by kernel_rfl)); go_simp; exact hK _ _ ⟨_, z, rfl, hE.id, rfl⟩)
        case s5_1 => (have f29 := slot_at (show a.eval (.tmp 29) = .pointer (some ⟨w0.heap.size, 1, none⟩) from hdep 4 29 (by kernel_rfl)); go_simp; exact hK _ _ ⟨_, z, rfl, hE.id, rfl⟩)
        case s6_1 => (have f30 := slot_at (show a.eval (.tmp 30) = .pointer (some ⟨w0.heap.size, 3, none⟩) from hdep 5 30 (by kernel_rfl)); have q0 := hE.1.cell zj3; go_simp; exact hK _ _ ⟨_, z, rfl, hE.id, rfl⟩)
        case s7_1 => (have f31 := slot_at (show a.eval (.tmp 31) = .slice (some ⟨b, o, none⟩) ks.length ct from hdep 6 31 (by kernel_rfl)); go_simp; exact hK _ _ ⟨_, z, rfl, hE.id, rfl⟩)
        case s8_1 => (have f32 := slot_at (show a.eval (.tmp 32) = .pointer (some ⟨b, o, none⟩) from hdep 7 32 (by kernel_rfl)); have q0 := hE.1.cell hk00; have q1 := hE.1.cell hk01; have q2 := hE.1.cell hk02; go_simp; exact hK _ _ ⟨_, z, rfl, hE.id, rfl⟩)
        case s9_1 => (have f33 := slot_at (show a.eval (.tmp 33) = .agg #[.int .i64 k01, .int .i64 k02, .slice k03 k04 k05] from hdep 8 33 (by kernel_rfl)); go_simp; refine hK _ _ ⟨_, z, rfl, EG.same hE ((Ext.refl _).alloc _), ⟨_, 1, rfl, Nat.le_refl _, by decide, InK.news (InT.oldG (M := M) (HM.out ▸ InT.later (InT.keep KT0.out e1 (g := w0.heap.size + 1) (Nat.le_succ _)) X1_3) hE) (HNN.out w z hE _ (Nat.le_refl _))⟩⟩)
        case s10_1 => (obtain ⟨A34, c34, f34, g34_1, g34_2, g34_3⟩ : ∃ A c, a.eval (.tmp 34) = .slice A 1 c ∧ 1 ≤ c ∧ c ≤ maxLen ∧ InK w (Mz M z) A [kd ks 0] := hdep 9 34 (by kernel_rfl); replace f34 := slot_at f34; go_simp; go_at_call 14; refine (node_any w 15 A34 1 c34).mono ?_; rintro e w' ⟨rfl, e'⟩; exact hK _ _ ⟨_, z, rfl, EG.same hE e', InT.mk_iff.2 ⟨A34, c34, rfl, g34_1, g34_2, g34_3.later e'⟩⟩)
        case s11_1 => (have f28 := slot_at (show a.eval (.tmp 28) = .agg #[.int .i64 y1, .int .i64 y2, .slice y3 y4 y5] from hdep 3 28 (by kernel_rfl)); have h35 : InT w (Mz M z) (.mk 15 0 [kd ks 0]) (a.eval (.tmp 35)) := hdep 10 35 (by kernel_rfl); obtain ⟨d35_1, d35_2, d35_3, d35_4, d35_5, f35⟩ := h35.three; rw [f35] at h35; replace f35 := slot_at f35; go_simp; go_at_call 53; refine (HSQ.out _ w (Mz M z) (X2_3.trans ((Ext.refl _).drew.trans hE.1)) h35.lies' (HNN.out w z hE)).mono ?_; rintro e w' ⟨u, rfl, hu, e'⟩; exact hK _ _ ⟨_, z, rfl, EG.same hE e', u, rfl, hu⟩)
        case s12_1 => (obtain ⟨u36, f36, h36⟩ : ∃ u, a.eval (.tmp 36) = .tuple #[u, .bool zz] ∧ InT w (Mz M z) T1 u := hdep 11 36 (by kernel_rfl); replace f36 := slot_at f36; go_simp; exact hK _ _ ⟨_, z, rfl, hE.id, h36⟩)
        case s13_1 => (obtain ⟨u36, f36, h36⟩ : ∃ u, a.eval (.tmp 36) = .tuple #[u, .bool zz] ∧ InT w (Mz M z) T1 u := hdep 11 36 (by kernel_rfl); replace f36 := slot_at f36; go_simp; exact hK _ _ ⟨_, z, rfl, hE.id, rfl⟩)
        case s14_1 => (have h37 : InT w (Mz M z) T1 (a.eval (.tmp 37)) := hdep 12 37 (by kernel_rfl); obtain ⟨d37_1, d37_2, d37_3, d37_4, d37_5, f37⟩ := h37.three; rw [f37] at h37; replace f37 := slot_at f37; have f38 := slot_at (show a.eval (.tmp 38) = .bool zz from hdep 13 38 (by kernel_rfl)); go_simp; go_at_call 44; refine (HMQ.out w (Mz M z) _ h37).mono ?_; rintro e w' ⟨u, rfl, hu, e'⟩; exact hK _ _ ⟨_, z, rfl, EG.same hE e', u, rfl, hu⟩)
        case s15_1 => (obtain ⟨u39, f39, h39⟩ : ∃ u, a.eval (.tmp 39) = .tuple #[u, .int .i64 d] ∧ InT w (Mz M z) T2 u := hdep 14 39 (by kernel_rfl); replace f39 := slot_at f39; go_simp; exact hK _ _ ⟨_, z, rfl, hE.id, h39⟩)
        case s16_1 => (obtain ⟨u39, f39, h39⟩ : ∃ u, a.eval (.tmp 39) = .tuple #[u, .int .i64 d] ∧ InT w (Mz M z) T2 u := hdep 14 39 (by kernel_rfl); replace f39 := slot_at f39; go_simp; exact hK _ _ ⟨_, z, rfl, hE.id, rfl⟩)
      case fin_1 =>
        intro v w' z hE' hG
        have t15_ : InT w' (Mz M z) T2 (v 15) := hG 15 (by decide) rfl
        obtain ⟨a15_1, a15_2, a15_3, a15_4, a15_5, v15_⟩ := t15_.three
        rw [v15_] at t15_
        have T15_ := Lib.hid t15_
        clear t15_
        have v16_ : v 16 = .int .i64 d := hG 16 (by decide) rfl
        rw [Ord.putN_all]
        simp only [Ord.putO, Ord.dstOf, List.getElem?_toArray, List.getElem?_cons_zero, List.getElem?_cons_succ, Option.bind_some, Act.put, List.setIfInBounds_toArray, List.set_cons_zero, List.set_cons_succ]
        rw [v15_, v16_]
        clear hG v15_ v16_
        have e4 : Ext w3 w' := (Ext.refl w3).drew.trans hE'.1
        clear hE'
        obtain ⟨w4, rfl⟩ : ∃ x, x = w' := ⟨_, rfl⟩
        have s4 := e4.size
        clear hy0 hy1 hy2 hk00 hk01 hk02 zj0 zj1 zj2 zj3 zj4 lj zr0 zr1 zr2 yr0 yr1 yr2 lr zq0 zq1 zq2 lq
        have X0_4 := X0_3.trans e4
        have br_4 := e4.blk br_3
        obtain ⟨zr0, zr1, zr2, yr0, yr1, yr2⟩ := own3 br_4
        refine wpAnyH_ready (rs := [17]) (by kernel_rfl) (by simp) ?_
        refine AllReadyH.cons rfl (fun K hK => ?_) AllReadyH.nil
        go_simp
        refine hK.out _ _ trivial (fun _ => ?_)
        clear hK K
        refine wpAnyH_take (i := 18) (v := ?v18_1) rfl (by kernel_rfl) (by kernel_rfl) (by kernel_rfl) (fun _ _ _ h => h) (Or.inl ⟨by rfl, ?hy18_1⟩) trivial ?rest18_1
        case hy18_1 => (intro w hSw; go_simp; (try with_reducible rfl))
        try simp only [Act.put, List.getElem_toArray, List.getElem_cons_succ, List.getElem_cons_zero, List.setIfInBounds_toArray, List.set_cons_zero, List.set_cons_succ]
        refine wpAnyH_done (by kernel_rfl) ?_ _
        go_wp2_with fail
        refine bodyPost_ret (v := .tuple #[.agg #[.int .i64 a15_1, .int .i64 a15_2, .slice a15_3 a15_4 a15_5], .int .i64 d]) (by simp [results, Try.results58, go_sem, zr0, zr1, zr2]) rfl ⟨_, rfl, InT.ret (HM.out ▸ InT.mono (fun b hb => hb.1) (fun _ _ => rfl) T15_.out) _ _ _, (X0_4.set3 (by omega) _ _ _)⟩
  · have H1 := Lib.hid h1
    have t1 : (c != 0) = true := by simp [hc]
    clear h h1 hc hk00 hk01 hk02 hvj hks hk
    obtain ⟨w1, hw1⟩ : ∃ x, x = ((w0.alloc (.cells #[.slice A G.length ca, .int .i64 k, .int .i64 n, .slice (some ⟨b, o, none⟩) ks.length ct, .func (.func 35) #[] #[.pointer (some ⟨p1, 0, none⟩), .pointer (some ⟨p2, 0, none⟩)]] 65)).alloc (.cells #[.int .i64 0, .int .i64 0, .slice none 0 0] 27)) := ⟨_, rfl⟩
    obtain ⟨bj_1, br_1, s1, e1⟩ := box2 hw1
    have HJ := Lib.hid (hJ.keep e1 (g := w0.heap.size + 1) (Nat.le_succ _) (by omega))
    obtain ⟨M, hM⟩ : ∃ M, M = (fun b => N b ∧ b ≠ w0.heap.size + 1) := ⟨_, rfl⟩
    rw [← hM] at HJ
    have HM := Lib.hid hM
    clear hM hJ
    go_enter Try.func58, Try.ntmps58
    go_wp2_with fail
    rw [← hw1]
    clear hw1
    refine (form_any k n ca ct hlt hct w1 M (HJ.out.ext (Ext.refl w1)) 0 (by rw [HKS.out]; decide) 13 _ H1.out).mono ?_
    rintro e w2 ⟨u, rfl, hT, e2⟩
    have s2 := e2.size
    obtain ⟨a1, b1, A1, l1, c1, rfl⟩ := hT.three
    have T1 := Lib.hid hT
    clear hT
    have bj_2 := e2.blk bj_1
    obtain ⟨zj0, zj1, zj2, zj3, zj4⟩ := own5 bj_2
    have lj := lt_of_blk bj_2
    have br_2 := e2.blk br_1
    obtain ⟨zr0, zr1, zr2, yr0, yr1, yr2⟩ := own3 br_2
    have lr := lt_of_blk br_2
    clear lr
    have eq2 : Ext w2 (w2.alloc (.cells #[.int .i64 a1, .int .i64 b1, .slice A1 l1 c1] 27)) := (Ext.refl w2).alloc _
    have X0_1 := e1
    have X0_2 := X0_1.trans e2
    obtain ⟨pr0, pr1, pr2, or0, or1, or2⟩ := own3 (eq2.blk br_2)
    go_wp2_with fail
    refine bodyPost_ret (v := .tuple #[.agg #[.int .i64 0, .int .i64 0, .slice none 0 0], .int .i64 c]) (by simp [results, Try.results58, go_sem, pr0, pr1, pr2]) rfl ⟨_, rfl, leafT _ _ 0 0, ((X0_2.trans eq2).set3 (by omega) _ _ _)⟩
end Go.Proofs.Ytdkamgafpphdjaa

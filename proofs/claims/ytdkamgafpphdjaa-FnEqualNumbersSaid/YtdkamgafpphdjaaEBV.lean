/-
  Lemmas towards the law, 48: InfN.
-/
import Derived.Test.YtdkamgafpphdjaaEBU
namespace Go.Proofs.Ytdkamgafpphdjaa
open Go.RowKit
set_option linter.unusedVariables false
attribute [local go_sem ↓] Go.wp_at_zero Go.wp_at_succ
theorem lies_row1 {w : World} {g : Nat} {e : TypeId} {t : Tr} {v0 v1 v2 : Value} (hb : w.heap[g]? = some (.cells #[v0, v1, v2] e (0, 0))) (h : Lies w t (.agg #[v0, v1, v2])) : LiesK w (some ⟨g, 0, none⟩) [t] :=
  .inr ⟨g, 0, rfl, lt_of_blk hb, ⟨⟨v0, v1, v2, cell_of_blk hb 0, cell_of_blk hb 1, cell_of_blk hb 2, h⟩, trivial⟩⟩
theorem lies_row2 {w : World} {g : Nat} {e : TypeId} {t u : Tr} {v0 v1 v2 u0 u1 u2 : Value} (hb : w.heap[g]? = some (.cells #[v0, v1, v2, u0, u1, u2] e (0, 0))) (h : Lies w t (.agg #[v0, v1, v2])) (k : Lies w u (.agg #[u0, u1, u2])) : LiesK w (some ⟨g, 0, none⟩) [t, u] :=
  .inr ⟨g, 0, rfl, lt_of_blk hb, ⟨⟨v0, v1, v2, cell_of_blk hb 0, cell_of_blk hb 1, cell_of_blk hb 2, h⟩, ⟨u0, u1, u2, cell_of_blk hb 3, cell_of_blk hb 4, cell_of_blk hb 5, k⟩, trivial⟩⟩
theorem rdyV_fits {f : Nat} {ctx l : List Tr} {u : Tr} (h : rdyV f ctx l = some (u, 0)) : fitsC ctx = true := by
  have := (rdyV_ok h).1
  unfold ccV at this
  split at this
  · assumption
  · simp at this
set_option maxRecDepth 100000 in
set_option maxHeartbeats 8000000 in
theorem checkType_any (f : Nat) (ctx : List Tr) (A : Option Addr) (ca : Nat) (w0 : World) (hG : LiesK w0 A ctx) (hca : ctx.length ≤ ca) (hcm : ca ≤ maxLen) (t : Tr) (v : Value) (ht : Lies w0 t v) (want : Tr) (vw : Value) (hw : Lies w0 want vw) (r : Tr × Int) (h : ctV f ctx t want = some r) : Calls Try.prog 9 #[.slice A ctx.length ca, v, vw] w0 fun e w' => e = .returned (.int .i64 r.2) ∧ Ext w0 w' := by
  obtain ⟨q1, c, h1, h2, h3⟩ := thn_code h
  obtain ⟨k, n, ks⟩ := t
  obtain ⟨At, ct, rfl, hl, hct, hK⟩ := Lies.mk_iff.1 ht
  have HT := Lib.hid ht
  have HG := Lib.hid hG
  have H1 := Lib.hid h1
  have H2 := Lib.hid h2
  have H3 := Lib.hid h3
  have HCA := Lib.hid hca
  have HCM := Lib.hid hcm
  clear h h1 h2 h3 ht hK hG hca hcm
  obtain ⟨k8, n8, ks8⟩ := want
  obtain ⟨A8, c8, rfl, hl8, hc8, hK8⟩ := Lies.mk_iff.1 hw
  have HW := Lib.hid hw
  clear hw hK8
  obtain ⟨w1, hw1⟩ : ∃ x, x = (((w0.alloc (.cells #[.int .i64 k, .int .i64 n, .slice At ks.length ct] 27)).alloc (.cells #[.int .i64 k8, .int .i64 n8, .slice A8 ks8.length c8] 27)).alloc (.cells #[.int .i64 k, .int .i64 n, .slice At ks.length ct, .int .i64 k8, .int .i64 n8, .slice A8 ks8.length c8] 27)) := ⟨_, rfl⟩
  obtain ⟨bt_1, bw_1, bq_1, s1, e1⟩ := box3 hw1
  go_enter Try.func9, Try.ntmps9
  go_wp2_with fail
  rw [← hw1]
  clear hw1
  refine (ready_any f ctx w1 A ca (HG.out.ext e1) HCA.out HCM.out [.mk k n ks, .mk k8 n8 ks8] _ 2 (lies_row2 bq_1 (HT.out.ext e1) (HW.out.ext e1)) (Nat.le_refl _) (by decide) _ H1.out).mono ?_
  rintro e w2 ⟨rfl, e2⟩
  have s2 := e2.size
  simp only
  by_cases hc0 : c = 0
  case neg =>
    obtain rfl := H3.out hc0
    have t1 : (c != 0) = true := by simp [hc0]
    clear hc0 H1 H2 H3
    have X0_1 := e1
    have X0_2 := X0_1.trans e2
    have bt_2 := e2.blk bt_1
    obtain ⟨zt0, zt1, zt2, -⟩ := own3 bt_2
    have lt := lt_of_blk bt_2
    have bw_2 := e2.blk bw_1
    obtain ⟨zw0, zw1, zw2, -⟩ := own3 bw_2
    have lw := lt_of_blk bw_2
    have bq_2 := e2.blk bq_1
    have zq0 : w2.cell? ⟨w0.heap.size + 1 + 1, 0, none⟩ = some (.int .i64 k) := cell_of_blk bq_2 0
    have zq1 : w2.cell? ⟨w0.heap.size + 1 + 1, 1, none⟩ = some (.int .i64 n) := cell_of_blk bq_2 1
    have zq2 : w2.cell? ⟨w0.heap.size + 1 + 1, 2, none⟩ = some (.slice At ks.length ct) := cell_of_blk bq_2 2
    have zq3 : w2.cell? ⟨w0.heap.size + 1 + 1, 3, none⟩ = some (.int .i64 k8) := cell_of_blk bq_2 3
    have zq4 : w2.cell? ⟨w0.heap.size + 1 + 1, 4, none⟩ = some (.int .i64 n8) := cell_of_blk bq_2 4
    have zq5 : w2.cell? ⟨w0.heap.size + 1 + 1, 5, none⟩ = some (.slice A8 ks8.length c8) := cell_of_blk bq_2 5
    have lq := lt_of_blk bq_2
    go_wp2_with fail
    go_ret
    first | exact ⟨rfl, X0_2⟩ | exact X0_2
  subst hc0
  obtain ⟨s, d, h4, h5, h6⟩ := thn_code (H2.out rfl)
  have H4 := Lib.hid h4
  have H5 := Lib.hid h5
  have H6 := Lib.hid h6
  clear h4 h5 h6
  have HF := Lib.hid (fitsC_mem (rdyV_fits H1.out))
  have HV := Lib.hid ((rdyV_ok H1.out).2 (.mk k n ks) (by simp))
  have HINF := Lib.hid (infF_of (f := f) (w := w1) (A := A) HCA.out HCM.out HF.out.2 (by have := HF.out.1; omega))
  have HWV := Lib.hid ((rdyV_ok H1.out).2 (.mk k8 n8 ks8) (by simp))
  clear H1 H2 H3
  have bt_2 := e2.blk bt_1
  obtain ⟨zt0, zt1, zt2, -⟩ := own3 bt_2
  have lt := lt_of_blk bt_2
  have bw_2 := e2.blk bw_1
  obtain ⟨zw0, zw1, zw2, -⟩ := own3 bw_2
  have lw := lt_of_blk bw_2
  have bq_2 := e2.blk bq_1
  have zq0 : w2.cell? ⟨w0.heap.size + 1 + 1, 0, none⟩ = some (.int .i64 k) := cell_of_blk bq_2 0
  have zq1 : w2.cell? ⟨w0.heap.size + 1 + 1, 1, none⟩ = some (.int .i64 n) := cell_of_blk bq_2 1
  have zq2 : w2.cell? ⟨w0.heap.size + 1 + 1, 2, none⟩ = some (.slice At ks.length ct) := cell_of_blk bq_2 2
  have zq3 : w2.cell? ⟨w0.heap.size + 1 + 1, 3, none⟩ = some (.int .i64 k8) := cell_of_blk bq_2 3
  have zq4 : w2.cell? ⟨w0.heap.size + 1 + 1, 4, none⟩ = some (.int .i64 n8) := cell_of_blk bq_2 4
  have zq5 : w2.cell? ⟨w0.heap.size + 1 + 1, 5, none⟩ = some (.slice A8 ks8.length c8) := cell_of_blk bq_2 5
  have lq := lt_of_blk bq_2
  go_wp2_with fail
  clear zt0 zt1 zt2 lt zw0 zw1 zw2 lw zq0 zq1 zq2 zq3 zq4 zq5 lq
  have X0_1 := e1
  have X0_2 := X0_1.trans e2
  have X1_2 := e2
  refine (level_any HINF.out w2 AllN X1_2 (fun _ _ => trivial) (InK.all (HG.out.ext X0_2)) _ _ (InT.all (HW.out.ext X0_2)) HWV.out _ H4.out).mono ?_
  rintro e w3 ⟨rfl, e3⟩
  have s3 := e3.size
  simp only
  by_cases hd0 : d = 0
  case neg =>
    obtain rfl := H6.out hd0
    have t1 : (d != 0) = true := by simp [hd0]
    clear hd0 H4 H5 H6
    have X0_3 := X0_2.trans e3
    have bt_3 := e3.blk bt_2
    obtain ⟨zt0, zt1, zt2, -⟩ := own3 bt_3
    have lt := lt_of_blk bt_3
    have bw_3 := e3.blk bw_2
    obtain ⟨zw0, zw1, zw2, -⟩ := own3 bw_3
    have lw := lt_of_blk bw_3
    have bq_3 := e3.blk bq_2
    have zq0 : w3.cell? ⟨w0.heap.size + 1 + 1, 0, none⟩ = some (.int .i64 k) := cell_of_blk bq_3 0
    have zq1 : w3.cell? ⟨w0.heap.size + 1 + 1, 1, none⟩ = some (.int .i64 n) := cell_of_blk bq_3 1
    have zq2 : w3.cell? ⟨w0.heap.size + 1 + 1, 2, none⟩ = some (.slice At ks.length ct) := cell_of_blk bq_3 2
    have zq3 : w3.cell? ⟨w0.heap.size + 1 + 1, 3, none⟩ = some (.int .i64 k8) := cell_of_blk bq_3 3
    have zq4 : w3.cell? ⟨w0.heap.size + 1 + 1, 4, none⟩ = some (.int .i64 n8) := cell_of_blk bq_3 4
    have zq5 : w3.cell? ⟨w0.heap.size + 1 + 1, 5, none⟩ = some (.slice A8 ks8.length c8) := cell_of_blk bq_3 5
    have lq := lt_of_blk bq_3
    go_wp2_with fail
    go_ret
    first | exact ⟨rfl, X0_3⟩ | exact X0_3
  subst hd0
  obtain ⟨d, h7, h8, h9⟩ := chk_some (H5.out rfl)
  have H7 := Lib.hid h7
  obtain rfl : r.2 = d := by
    by_cases hd : d = 0
    · obtain rfl : (dflt0, (0 : Int)) = r := by simpa using h8 hd
      exact hd.symm
    · rw [h9 hd]
  clear h7 h8 h9 H4 H5 H6
  have bt_3 := e3.blk bt_2
  obtain ⟨zt0, zt1, zt2, -⟩ := own3 bt_3
  have lt := lt_of_blk bt_3
  have bw_3 := e3.blk bw_2
  obtain ⟨zw0, zw1, zw2, -⟩ := own3 bw_3
  have lw := lt_of_blk bw_3
  have bq_3 := e3.blk bq_2
  have zq0 : w3.cell? ⟨w0.heap.size + 1 + 1, 0, none⟩ = some (.int .i64 k) := cell_of_blk bq_3 0
  have zq1 : w3.cell? ⟨w0.heap.size + 1 + 1, 1, none⟩ = some (.int .i64 n) := cell_of_blk bq_3 1
  have zq2 : w3.cell? ⟨w0.heap.size + 1 + 1, 2, none⟩ = some (.slice At ks.length ct) := cell_of_blk bq_3 2
  have zq3 : w3.cell? ⟨w0.heap.size + 1 + 1, 3, none⟩ = some (.int .i64 k8) := cell_of_blk bq_3 3
  have zq4 : w3.cell? ⟨w0.heap.size + 1 + 1, 4, none⟩ = some (.int .i64 n8) := cell_of_blk bq_3 4
  have zq5 : w3.cell? ⟨w0.heap.size + 1 + 1, 5, none⟩ = some (.slice A8 ks8.length c8) := cell_of_blk bq_3 5
  have lq := lt_of_blk bq_3
  go_wp2_with fail
  clear zt0 zt1 zt2 lt zw0 zw1 zw2 lw zq0 zq1 zq2 zq3 zq4 zq5 lq
  have X0_3 := X0_2.trans e3
  have X1_3 := X1_2.trans e3
  refine (check_any HINF.out w3 X1_3 (HG.out.ext X0_3) _ _ (HT.out.ext X0_3) HV.out _ _ (HW.out.ext X0_3) _ H7.out).mono ?_
  rintro e w4 ⟨rfl, e4⟩
  have s4 := e4.size
  have X0_4 := X0_3.trans e4
  have bt_4 := e4.blk bt_3
  obtain ⟨zt0, zt1, zt2, -⟩ := own3 bt_4
  have lt := lt_of_blk bt_4
  have bw_4 := e4.blk bw_3
  obtain ⟨zw0, zw1, zw2, -⟩ := own3 bw_4
  have lw := lt_of_blk bw_4
  have bq_4 := e4.blk bq_3
  have zq0 : w4.cell? ⟨w0.heap.size + 1 + 1, 0, none⟩ = some (.int .i64 k) := cell_of_blk bq_4 0
  have zq1 : w4.cell? ⟨w0.heap.size + 1 + 1, 1, none⟩ = some (.int .i64 n) := cell_of_blk bq_4 1
  have zq2 : w4.cell? ⟨w0.heap.size + 1 + 1, 2, none⟩ = some (.slice At ks.length ct) := cell_of_blk bq_4 2
  have zq3 : w4.cell? ⟨w0.heap.size + 1 + 1, 3, none⟩ = some (.int .i64 k8) := cell_of_blk bq_4 3
  have zq4 : w4.cell? ⟨w0.heap.size + 1 + 1, 4, none⟩ = some (.int .i64 n8) := cell_of_blk bq_4 4
  have zq5 : w4.cell? ⟨w0.heap.size + 1 + 1, 5, none⟩ = some (.slice A8 ks8.length c8) := cell_of_blk bq_4 5
  have lq := lt_of_blk bq_4
  go_wp2_with fail
  go_ret
  first | exact ⟨rfl, X0_4⟩ | exact X0_4
end Go.Proofs.Ytdkamgafpphdjaa

/-
  PROVED: the law FnExactExtractTerm returns true for every input: the program's ExtractTerm returns what the reference's returns.
  CONDITIONS: none.
-/
import Derived.Test.YtohmpjpjpgonpaaRows
import Derived.Test.YtohmpjpjpgonpaaLift
import Derived.Test.YtohmpjpjpgonpaaSpExtract
import Derived.Test.YtohmpjpjpgonpaaSz
import Derived.Test.YtohmpjpjpgonpaaTo
import Derived.Test.YtohmpjpjpgonpaaEq
import Derived.Test.YtohmpjpjpgonpaaMark
import Derived.Test.YtohmpjpjpgonpaaLater
import Derived.Deep.RegionHeld3
namespace Go.Proofs.Ytohmpjpjpgonpaa.exExtractTerm
open Go.RowKit Go.ChangeShapes Go.WideShapes Go.ChangeAt
set_option linter.unusedVariables false

theorem own : ownKnob Try.prog.godebug = none := by kernel_rfl
theorem tyTerm : TreeTy Try.prog 65 63 3 (fld "Kind" 3 0 0) (fld "N" 3 1 8) (fld "Kids" 63 2 16) := ⟨Try.underlying65, Try.underlying63, Try.underlying3, rfl, rfl, rfl, rfl, rfl, rfl, by kernel_rfl, by kernel_rfl, by kernel_rfl⟩

set_option maxRecDepth 100000 in
set_option maxHeartbeats 2000000 in
theorem walk (w : World) (t : Tr) (v : Value) (ha : Lies w t v) :
    Calls Try.prog 13 #[v] w fun e w' => e = .returned (.bool true) ∧ Ext w w' := by
  obtain ⟨k, n, ks⟩ := t
  obtain ⟨A, cap, rfl, hl, hc, hK⟩ := Lies.mk_iff.1 ha
  go_enter Try.func13, Try.ntmps13
  go_wp2_with fail
  have hx := (Ext.refl w).alloc (.cells #[.int .i64 k, .int .i64 n, .slice A ks.length cap] 65)
  have hb := (blk1 (Ext.refl (w.alloc (.cells #[.int .i64 k, .int .i64 n, .slice A ks.length cap] 65)))).1
  generalize w.alloc _ = w1 at hx hb
  have hA := At.of_blk3 hb
  have hT := (At.lies ha).step hx
  have hs01 : w.heap.size < w1.heap.size := lt_of_blk hb
  clear hb ha
  refine (szTerm_any _ w1 _ _ 1048576 (fun _ h => h) hT.now (by omega) (by omega)).mono ?_
  rintro e w2 ⟨rfl, h2⟩
  have h2' : Ext w1 w2 := h2
  have hle := szT_le (.mk k n ks) 1048576 (by omega)
  have hcn := szT_le_cnt (t := .mk k n ks) (left := 1048576) (by omega)
  generalize szT (.mk k n ks) 1048576 = q at hle hcn
  by_cases hq : q < 0
  · have hd : decide (q < 0) = true := decide_eq_true hq
    go_wp2_with fail
    go_ret
    exact ⟨rfl, hx.trans h2'⟩
  have hd : decide (q < 0) = false := decide_eq_false hq
  replace hcn := hcn hq
  simp only [Tr.kids] at hcn
  have h12 : Ext w1 w2 := h2'
  clear h2 h2' hd
  obtain ⟨x0, x1, x2⟩ := (hA.step h12).now
  go_wp2_with fail
  refine (toTerm_any (.mk k n ks) w2 _ (hT.step h12).now (by simp only [cnt]; omega)).mono ?_
  rintro e w3 ⟨u, rfl, hM, h3⟩
  have hL := hM.lies
  obtain ⟨B3, c3, rfl, -, -, -⟩ := Made.mk_iff.1 hM
  have h13 := h12.trans h3
  clear h3 hM x0 x1 x2
  have hcnt := cnt_exV (.mk k n ks)
  obtain ⟨R, hR⟩ : ∃ R, R = exV (.mk k n ks) := ⟨_, rfl⟩
  rw [← hR] at hcnt
  have HI := fun W vv (hin : Lies W (.mk k n ks) vv) => extractTerm_any (.mk k n ks) W vv hin
  have HS := fun W vv (hin : Lies W (.mk k n ks) vv) => specExtractTerm_any (.mk k n ks) W vv hin
  rw [← hR] at HI HS
  have HI := Lib.hid HI
  have HS := Lib.hid HS
  clear hR
  obtain ⟨⟨kk, nn, rs⟩, b⟩ := R
  simp only at hcnt
  obtain ⟨x0, x1, x2⟩ := (hA.step h13).now
  go_wp2_with fail
  refine (HS.out w3 _ hL).mono ?_
  rintro e w4 ⟨u, rfl, hL4, h4⟩
  obtain ⟨A4, c4, rfl, hl4, hc4, -⟩ := Lies.mk_iff.1 hL4
  have h14 := h13.trans h4
  clear hL x0 x1 x2
  have h5 := (Ext.refl w4).alloc (.cells #[.int .i64 kk, .int .i64 nn, .slice A4 rs.length c4] 31)
  have hb5 := heap_alloc_new w4 (.cells #[.int .i64 kk, .int .i64 nn, .slice A4 rs.length c4] 31)
  have hs14 : w.heap.size < w4.heap.size := by have := h14.size; omega
  obtain ⟨x0, x1, x2⟩ := (hA.step h14).now
  go_wp2_with fail
  generalize w4.alloc _ = w5 at h5 hb5
  have h15 := h14.trans h5
  have hG4 := (At.of_blk3 hb5).and ((At.lies hL4).step h5)
  have hs45 : w4.heap.size < w5.heap.size := lt_of_blk hb5
  clear hb5 hL4
  refine (toTerm_any (.mk k n ks) w5 _ (hT.step h15).now (by simp only [cnt]; omega)).mono ?_
  rintro e w6 ⟨u, rfl, hM, h6⟩
  obtain ⟨A6, c6, rfl, hl6, hc6, L6, hO6, hF6⟩ := Made.mk_iff.1 hM
  clear hM x0 x1 x2
  have h7 := (Ext.refl w6).alloc (.cells #[.int .i64 k, .int .i64 n, .slice A6 ks.length c6] 36)
  have hb7 := heap_alloc_new w6 (.cells #[.int .i64 k, .int .i64 n, .slice A6 ks.length c6] 36)
  go_wp2_with fail
  generalize w6.alloc _ = w7 at h7 hb7
  have h57 := h6.trans h7
  have hs67 : w6.heap.size < w7.heap.size := lt_of_blk hb7
  have hs56 := h6.size
  have hO7 : OwnK w7 36 A6 ks L6 := hO6.mono fun b hb => h7.heap b (hF6.2 b hb).2
  clear hO6
  refine (HI.out w7 _ (Lies.mk hl6 hc6 (MadeK.lies ⟨L6, hO7, hF6.mono (Nat.le_refl _) h7.size⟩))).mono ?_
  rintro e w8 ⟨u, rfl, hM, h8⟩
  obtain ⟨A8, c8, rfl, hl8, hc8, L8, hO8, hF8⟩ := Made.mk_iff.1 hM
  clear hM
  have hs78 := h8.size
  have hs48 : w4.heap.size < w8.heap.size := by omega
  have hs68 : w6.heap.size < w8.heap.size := by omega
  have h9 := (Ext.refl w8).alloc (.cells #[.int .i64 kk, .int .i64 nn, .slice A8 rs.length c8] 31)
  have hb9 := heap_alloc_new w8 (.cells #[.int .i64 kk, .int .i64 nn, .slice A8 rs.length c8] 31)
  have h58 := h57.trans h8
  obtain ⟨⟨x0, x1, x2⟩, -⟩ := (hG4.step h58).now
  go_wp2_with fail
  generalize w8.alloc _ = w9 at h9 hb9
  have hs89 : w8.heap.size < w9.heap.size := lt_of_blk hb9
  have h59 := h58.trans h9
  have hO9 : OwnK w9 31 A8 rs L8 := hO8.mono fun b hb => h9.heap b (hF8.2 b hb).2
  clear hO8 x0 x1 x2
  refine (eqCode_any (.mk kk nn rs) w9 (.mk kk nn rs) _ _ (Lies.mk hl8 hc8 (MadeK.lies ⟨L8, hO9, hF8.mono (Nat.le_refl _) h9.size⟩)) (hG4.step h59).now.2).mono ?_
  rw [eqTr_self]
  rintro e w10 ⟨rfl, h10⟩
  have h7a := (h8.trans h9).trans h10
  have hB := At.of_blk3 (h7a.blk hb7)
  have hG := (At.lies (Lies.mk (k := k) (n := n) hl6 hc6 (MadeK.lies ⟨L6, hO7, hF6.mono (Nat.le_refl _) h7.size⟩))).step h7a
  have h1a := (h15.trans h57).trans h7a
  have hA' := hA.step h1a
  have hT' := hT.step h1a
  have hbb : (b != b) = false := by cases b <;> rfl
  go_wp2_with fail
  go_region_held3 (fun w' => (w'.cell? ⟨w6.heap.size, 0, none⟩ = some (.int .i64 k) ∧ w'.cell? ⟨w6.heap.size, 1, none⟩ = some (.int .i64 n) ∧ w'.cell? ⟨w6.heap.size, 2, none⟩ = some (.slice A6 ks.length c6)) ∧ w'.cell? ⟨w.heap.size, 0, none⟩ = some (.int .i64 k) ∧ w'.cell? ⟨w.heap.size, 1, none⟩ = some (.int .i64 n) ∧ w'.cell? ⟨w.heap.size, 2, none⟩ = some (.slice A ks.length cap))
    (first | exact ((hB.and hA').step ((Ext.preDrew hc1).trans hc2)).now | exact ((hB.and hA').step (Ext.preDrew hc1)).now | exact ((hB.and hA').step (Ext.refl _).drew).now)
    (first | (go_at_call 45; refine (toTerm_any (.mk k n ks) _ _ (hT'.step (Ext.refl _).drew).now (by simp only [cnt]; omega)).mono ?_; rintro e wc ⟨u, rfl, hM, hc1⟩; obtain ⟨Bc, cc, rfl, -, -, -⟩ := Made.mk_iff.1 hM) | (go_at_call 24; refine (eqTerm_any (.mk k n ks) _ (.mk k n ks) _ _ (hG.step (Ext.preDrew hc1)).now hM.lies).mono ?_; rw [eqTr_self]; rintro e w11 ⟨rfl, hc2⟩))
  have hab := (Ext.preDrew hc1).trans hc2
  have h7b := h7a.trans hab
  have h9b := h10.trans hab
  obtain ⟨y0, y1, y2⟩ := (hB.step hab).now
  clear hM hc1 hc2 hB hG hA' hT' h7a h10 hab
  have hOb : OwnK w11 36 A6 ks L6 := hO7.mono fun b hb => h7b.heap b (by have := (hF6.2 b hb).2; omega)
  clear hO7
  go_wp2_with fail
  refine (markTerm_any w11 k n A6 c6 ks L6 1 hOb hF6.1 hl6 hc6 (by omega) (by omega)).mono ?_
  rintro e w12 ⟨rfl, -, h12m⟩
  have hs7b := h7b.size
  have hs9b := h9b.size
  have hs12 := h12m.size
  have h5c : Ext w5 w12 := h12m.ext (h57.trans h7b) (fun b hb => (hF6.2 b hb).1)
  have keep6 : ∀ b, w6.heap.size ≤ b → b < w11.heap.size → w12.heap[b]? = w11.heap[b]? := fun b h1 h2 => h12m.block b h2 (fun hm => by have := (hF6.2 b hm).2; omega)
  have hOc : OwnK w12 31 A8 rs L8 := hO9.mono fun b hb => (keep6 b (by have := (hF8.2 b hb).1; omega) (by have := (hF8.2 b hb).2; omega)).trans (h9b.heap b (by have := (hF8.2 b hb).2; omega))
  have hbc : w12.heap[w8.heap.size]? = some (.cells #[.int .i64 kk, .int .i64 nn, .slice A8 rs.length c8] 31 (0, 0)) := (keep6 _ (by omega) (by omega)).trans (h9b.blk hb9)
  clear hOb h12m keep6 hO9 y0 y1 y2
  have hd0 : decide (1 + 2 * (cnts ks : Int) < 0) = false := decide_eq_false (by omega)
  obtain ⟨z0, z1, z2, -, -, -⟩ := own3 hbc
  obtain ⟨⟨y0, y1, y2⟩, hL4⟩ := (hG4.step h5c).now
  have hL8c : Lies w12 (.mk kk nn rs) (.agg #[.int .i64 kk, .int .i64 nn, .slice A8 rs.length c8]) := Lies.mk hl8 hc8 (MadeK.lies ⟨L8, hOc, hF8.mono (Nat.le_refl _) (by omega)⟩)
  go_wp2_with fail
  refine (eqCode_any (.mk kk nn rs) w12 (.mk kk nn rs) _ _ hL8c hL4).mono ?_
  rw [eqTr_self]
  rintro e w13 ⟨rfl, h13'⟩
  have hb13 := h13'.blk hbc
  have hO13 : OwnK w13 31 A8 rs L8 := hOc.mono fun b hb => h13'.heap b (by have := (hF8.2 b hb).2; omega)
  have h5d := h5c.trans h13'
  have hs13 := h13'.size
  clear z0 z1 z2 y0 y1 y2 hL4 hL8c hOc h13' hd0
  obtain ⟨y0, y1, y2, -, -, -⟩ := own3 hb13
  go_wp2_with fail
  refine (markCode_any w13 kk nn A8 c8 rs L8 1 hO13 hF8.1 hl8 hc8 (by omega) (by simp only [cnt] at hcnt; omega)).mono ?_
  rintro e w14 ⟨rfl, hO14, h14m⟩
  have h5e : Ext w5 w14 := h14m.ext h5d (fun b hb => by have := (hF8.2 b hb).1; omega)
  have hs14 := h14m.size
  have hK14 : LiesK w14 A8 (mkS rs 1) := MadeK.lies ⟨L8, hO14, hF8.mono (Nat.le_refl _) (by omega)⟩
  have hb14 : w14.heap[w8.heap.size]? = some (.cells #[.int .i64 kk, .int .i64 nn, .slice A8 rs.length c8] 31 (0, 0)) := (h14m.block _ (by omega) (fun hm => by have := (hF8.2 _ hm).2; omega)).trans hb13
  have hml := mkS_len rs 1
  have hmc := cnt_mkS rs 1
  have hmd := hdS_mk rs 1 (by omega)
  have hcn2 : cnts rs ≤ 400 := by simp only [cnt] at hcnt; omega
  clear hO13 hO14 h14m y0 y1 y2
  obtain ⟨y0, y1, y2, -, -, -⟩ := own3 hb14
  go_wp2_with fail
  have hH := fun w' (hw : Ext w14 w') => heldCode_any w' kk nn A8 c8 (mkS rs 1) 1 (hK14.ext hw) (by omega) hc8 (by omega) (by omega)
  rw [hml, hmd] at hH
  have HH := Lib.hid hH
  clear hH hmd
  refine (HH.out w14 (Ext.refl _)).mono ?_
  rintro e w15 ⟨rfl, h15'⟩
  have hm0 : decide (1 + 2 * (cnts rs : Int) < 0) = false := decide_eq_false (by omega)
  have hmm : (1 + 2 * (cnts rs : Int) != 1 + 2 * (cnts rs : Int)) = false := by simp
  have h5f := h5e.trans h15'
  have h1f := h15.trans h5f
  obtain ⟨x0, x1, x2⟩ := (hA.step h1f).now
  clear y0 y1 y2
  go_wp2_with fail
  refine (toTerm_any (.mk k n ks) w15 _ (hT.step h1f).now (by simp only [cnt]; omega)).mono ?_
  rintro e w16 ⟨u, rfl, hM, h16⟩
  have hL := hM.lies
  obtain ⟨B16, c16, rfl, -, -, -⟩ := Made.mk_iff.1 hM
  clear hM x0 x1 x2
  go_wp2_with fail
  refine (HI.out w16 _ hL).mono ?_
  rintro e w17 ⟨u, rfl, hM, h17⟩
  have hL17 := hM.lies
  obtain ⟨A17, c17, rfl, hl17, hc17, -⟩ := Made.mk_iff.1 hM
  have h14f := h15'.trans (h16.trans h17)
  have h5g := h5e.trans h14f
  have h18 := (Ext.refl w17).alloc (.cells #[.int .i64 kk, .int .i64 nn, .slice A17 rs.length c17] 31)
  have hs17 := h5g.size
  have hs417 : w4.heap.size < w17.heap.size := by omega
  obtain ⟨⟨x0, x1, x2⟩, hL4⟩ := (hG4.step h5g).now
  clear hM hL
  go_wp2_with fail
  generalize w17.alloc _ = w18 at h18
  refine (eqCode_any (.mk kk nn rs) w18 (.mk kk nn rs) _ _ (hL17.ext h18) (hL4.ext h18)).mono ?_
  rw [eqTr_self]
  rintro e w19 ⟨rfl, h19⟩
  have h14g := h14f.trans (h18.trans h19)
  have h1g := h15.trans (h5e.trans h14g)
  obtain ⟨y0, y1, y2, -, -, -⟩ := own3 (h14g.blk hb14)
  clear x0 x1 x2 hL4
  go_wp2_with fail
  refine (HH.out w19 h14g).mono ?_
  rintro e w20 ⟨rfl, h20⟩
  have hfin := hx.trans (h1g.trans h20)
  go_wp2_with fail
  go_ret
  exact ⟨rfl, hfin⟩

set_option maxRecDepth 100000 in
theorem lifted (os : Os) (started : os.Started) (H : Type) (enc : TypeId × Value → H) :
    ReturnsInHanded {} Try.checked os 13 .any (Rows.fnExactExtractTermSpec.pre6 enc Try.prog Try.f13 Rows.fnExactExtractTermRow.domain false) (Rows.fnExactExtractTermSpec.post enc Try.prog Try.f13 false true false false) := by
  refine law_lift (C := Try.checked) (fn := Try.f13) (tb := 4) own started (by kernel_rfl) Try.func13 (by kernel_rfl) (by kernel_rfl) rfl Try.underlying4 rfl
    (fun ds h => by
      match ds, h with
      | [d1], _ => exact ⟨rfl, rfl, rfl⟩)
    (ChangeSpec.witness6 (enc := enc) (C := Try.checked) false ⟨#[], #[.agg #[.int .i64 0, .int .i64 0, .slice none 0 0]], []⟩ 8 (by kernel_rfl) (by kernel_rfl) (by kernel_rfl) (by kernel_rfl)) ?_
  intro W base args ds p hval hA hlt
  rw [Try.params13] at hA hval
  obtain ⟨v0, vs0, d0, ds0, p0, q0, hargs, rfl, rfl, h0, r0⟩ := trodAll_cons hA
  obtain ⟨rfl, rfl, rfl⟩ := trodAll_nil r0
  obtain rfl : args = #[v0] := by cases args; simp_all
  obtain ⟨a0, ha0⟩ := open_tree tyTerm (hval 0 65 v0 rfl rfl) h0
  exact walk W a0 v0 ha0

theorem over : Rows.fnExactExtractTermRow.holds Try.pinned (OpenSpec.ofChange Rows.fnExactExtractTermSpec) :=
  OpenClaim.holds_of_wide 13 Try.f13 rfl rfl rfl rfl rfl rfl rfl ⟨rfl, rfl, rfl, rfl, rfl⟩ rfl rfl rfl rfl rfl (by kernel_rfl) Try.func13 (by kernel_rfl)
    (of_decide_eq_true (by kernel_rfl)) (by unfold Func.isWrapper; first | (rw [if_pos (by decide +kernel)]; kernel_rfl) | (rw [if_neg (by decide +kernel)]; exact ⟨rfl, rfl⟩))
    (fun os started H enc _ => lifted os started H enc)

theorem proved : Rows.FnExactExtractTermSaid := over
#print axioms proved
end Go.Proofs.Ytohmpjpjpgonpaa.exExtractTerm

/-
  PROVED: the law FnContextAt returns true for every input: contexts grow inwards.
  CONDITIONS: none.
-/
import Derived.Test.YtappakllopkfiaaCAB
import Derived.Test.YtappakllopkfiaaCBP
import Derived.Test.YtappakllopkfiaaCBR
import Derived.Deep.RegionHeld3
import Derived.Test.YtappakllopkfiaaRows
namespace Go.Proofs.Ytappakllopkfiaa.contextAtL
open Go.RowKit Go.ChangeShapes Go.WideShapes Go.ChangeAt
set_option linter.unusedVariables false

theorem own : ownKnob Try.prog.godebug = none := by kernel_rfl

set_option maxRecDepth 100000 in
set_option maxHeartbeats 40000000 in
theorem walk (w0 : World) (A : Option Addr) (cap : Nat) (bs : List Int) (hl : bs.length ≤ cap) (hc : cap ≤ maxLen) (hB : Bytes w0 w0.heap.size A bs) :
    Calls Try.prog 7 #[.slice A bs.length cap] w0 fun e w' => e = .returned (.bool true) ∧ Ext w0 w' := by
  have hcc := hc
  unfold maxLen at hcc
  by_cases hn : 1048576 < (bs.length : Int)
  · have d1 : decide (1048576 < (bs.length : Int)) = true := decide_eq_true hn
    go_enter Try.func7, Try.ntmps7
    go_wp2_with fail
    go_ret
    exact ⟨rfl, Ext.refl _⟩
  have d1 : decide (1048576 < (bs.length : Int)) = false := decide_eq_false hn
  go_enter Try.func7, Try.ntmps7
  go_wp2_with fail
  refine (drawContextAt_any w0 A cap bs hl hc hB).mono ?_
  rintro e w1 ⟨B, n, c, ctx, ⟨k0, m0, ks0⟩, u, x, p, rfl, hcn, hnc, hcm, hn9, hpl, hKB, hL0, hPA, e1⟩
  obtain ⟨A0, cap0, rfl, hl0, hc0, hK0⟩ := Lies.mk_iff.1 hL0
  obtain ⟨Ap, cp, rfl, hp1, hp2, hNp⟩ := hPA.slice (fun _ h => h)
  obtain ⟨np, hnp⟩ : ∃ n, p.length = n := ⟨_, rfl⟩
  have HPF : PFx w1 Ap np cp p := ⟨hnp, by omega, hp2, hNp⟩
  have HSB : SlT w1 B n c ctx := ⟨hcn, hnc, hcm, hKB⟩
  have HCN := Lib.hid hcn
  rw [hnp] at hpl hp1 ⊢
  have hnp9 : np < 1000 := by omega
  have hcc1 := hcm
  unfold maxLen at hcc1
  have hcc2 := hp2
  unfold maxLen at hcc2
  clear hnp hNp hPA hcn hKB
  have e2 := (Ext.refl w1).alloc (.cells #[.int .i64 k0, .int .i64 m0, .slice A0 ks0.length cap0] 44)
  have b2 := heap_alloc_new w1 (.cells #[.int .i64 k0, .int .i64 m0, .slice A0 ks0.length cap0] 44)
  obtain ⟨q, z, hq⟩ : ∃ q z, ctxV ctx (.mk k0 m0 ks0) p = (q, z) := ⟨_, _, rfl⟩
  have HQ := Lib.hid hq
  obtain ⟨m, hm⟩ : ∃ m, q.length = m := ⟨_, rfl⟩
  have HM := Lib.hid hm
  clear hq hm
  go_wp2_with fail
  generalize w1.alloc (.cells #[.int .i64 k0, .int .i64 m0, .slice A0 ks0.length cap0] 44) = w2 at e2 b2 ⊢
  refine (ctx1 HQ.out HM.out w2 _ (hL0.ext e2) B Ap n c np cp (HSB.ext e2) (HPF.ext e2) hnp9).mono ?_
  rintro e w3 ⟨D, dc, rfl, hS3, e3⟩
  have b3 := e3.blk b2
  have X3 := e2.trans e3
  obtain ⟨z0, z1, z2, -, -, -⟩ := own3 b3
  go_wp2_with fail
  clear z0 z1 z2
  refine (ctx2 HQ.out HM.out w3 _ (hL0.ext X3) B Ap n c np cp (HSB.ext X3) (HPF.ext X3) hnp9).mono ?_
  rintro e w4 ⟨F, fc, rfl, hS4, e4⟩
  have b4 := e4.blk b3
  have X4 := X3.trans e4
  have hz1 : (z != z) = false := by simp
  have hz2 : (z == z) = true := by simp
  have hf4 := hS3.hc
  unfold maxLen at hf4
  have hd4 := hS3.hl
  go_wp2_with fail
  refine (dkTerms_any q w4 D F m dc fc (hS3.ext e4) hS4).mono ?_
  rintro e w5 ⟨rfl, e5⟩
  cases z with
  | false =>
    go_wp2_with fail
    refine (dkTerms_any q w5 D F m dc fc (hS3.ext (e4.trans e5)) (hS4.ext e5)).mono ?_
    rintro e w6 ⟨rfl, e6⟩
    go_wp2_with fail
    go_ret
    exact ⟨rfl, ((e1.trans X4).trans e5).trans e6⟩
  | true =>
    obtain ⟨t1, t2, t3⟩ := ctxV_true HQ.out
    have T1 := Lib.hid t1
    have hnm : n ≤ m := by rw [← HCN.out, ← HM.out]; exact t3
    have hnmz : (n : Int) ≤ (m : Int) := by omega
    have HS7 : SlT w3 D n dc ctx := ⟨HCN.out, by omega, hS3.hc, by rw [← t2, HCN.out]; exact hS3.hK.take n⟩
    have hndc : (n : Int) ≤ (dc : Int) := by omega
    have hn0 : (0 : Int) ≤ (n : Int) := by omega
    have b5 := e5.blk b4
    obtain ⟨z0, z1, z2, -, -, -⟩ := own3 b5
    clear t1 t2 t3
    go_wp2_with fail
    clear z0 z1 z2
    have X5 := X4.trans e5
    have e6 := (Ext.refl w5).alloc (.cells #[] 3)
    refine (ctx1 T1.out HCN.out _ _ (hL0.ext (X5.trans e6)) B _ n c 0 0 (HSB.ext (X5.trans e6)) ⟨rfl, Nat.le_refl _, by decide, .inl rfl⟩ (by decide)).mono ?_
    rintro e w7 ⟨G, gc, rfl, hS7, e7⟩
    have X7 := (X5.trans e6).trans e7
    go_wp2_with fail
    refine (dkTerms_any ctx w7 G B n gc c hS7 (HSB.ext X7)).mono ?_
    rintro e w8 ⟨rfl, e8⟩
    go_wp2_with fail
    refine (dkTerms_any ctx w8 D B n dc c (HS7.ext (((e4.trans e5).trans e6).trans (e7.trans e8))) (HSB.ext (X7.trans e8))).mono ?_
    rintro e w9 ⟨rfl, e9⟩
    go_wp2_with fail
    go_ret
    exact ⟨rfl, ((e1.trans X7).trans e8).trans e9⟩

set_option maxRecDepth 100000 in
theorem lifted (os : Os) (started : os.Started) (H : Type) (enc : TypeId × Value → H) :
    ReturnsInHanded {} Try.checked os 7 .any (Rows.fnContextAtSpec.pre6 enc Try.prog Try.f7 Rows.fnContextAtRow.domain false) (Rows.fnContextAtSpec.post enc Try.prog Try.f7 false true false false) := by
  refine law_lift (C := Try.checked) (fn := Try.f7) (tb := 4) own started (by kernel_rfl) Try.func7 (by kernel_rfl) (by kernel_rfl) rfl Try.underlying4 rfl
    (fun ds h => by
      match ds, h with
      | [d1], _ => exact ⟨rfl, rfl, rfl⟩)
    (ChangeSpec.witness6 (enc := enc) (C := Try.checked) false ⟨#[], #[.slice none 0 0], []⟩ 8 (by kernel_rfl) (by kernel_rfl) (by kernel_rfl) (by kernel_rfl)) ?_
  intro W base args ds p hval hA hlt
  rw [Try.params7] at hA hval
  obtain ⟨v0, vs0, d0, ds0, p0, q0, hargs, rfl, rfl, h0, r0⟩ := trodAll_cons hA
  obtain ⟨rfl, rfl, rfl⟩ := trodAll_nil r0
  obtain rfl : args = #[v0] := by cases args; simp_all
  obtain ⟨A0, cap0, bs0, rfl, hl0, hc0, ha0⟩ := open_bytes Try.underlying35 Try.underlying5 (by kernel_rfl) (hval 0 35 v0 rfl rfl) h0
  exact walk W A0 cap0 bs0 hl0 hc0 ha0.1

theorem over : Rows.fnContextAtRow.holds Try.pinned (OpenSpec.ofChange Rows.fnContextAtSpec) :=
  OpenClaim.holds_of_wide 7 Try.f7 rfl rfl rfl rfl rfl rfl rfl ⟨rfl, rfl, rfl, rfl, rfl⟩ rfl rfl rfl rfl rfl (by kernel_rfl) Try.func7 (by kernel_rfl)
    (of_decide_eq_true (by kernel_rfl)) (by unfold Func.isWrapper; first | (rw [if_pos (by decide +kernel)]; kernel_rfl) | (rw [if_neg (by decide +kernel)]; exact ⟨rfl, rfl⟩))
    (fun os started H enc _ => lifted os started H enc)

theorem proved : Rows.FnContextAtSaid := over
#print axioms proved
end Go.Proofs.Ytappakllopkfiaa.contextAtL

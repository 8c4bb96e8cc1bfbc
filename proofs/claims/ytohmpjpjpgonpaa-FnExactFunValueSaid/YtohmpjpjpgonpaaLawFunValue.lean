/-
  PROVED: the law FnExactFunValue returns true for every input: the program's FunValue returns what the reference's returns.
  CONDITIONS: none.
-/
import Derived.Test.YtohmpjpjpgonpaaRows
import Derived.Test.YtohmpjpjpgonpaaLift
import Derived.Test.YtohmpjpjpgonpaaFunVal
import Derived.Test.YtohmpjpjpgonpaaToInt
import Derived.Deep.RegionHeld3
namespace Go.Proofs.Ytohmpjpjpgonpaa.exFunValue
open Go.RowKit Go.ChangeShapes Go.WideShapes Go.ChangeAt
set_option linter.unusedVariables false

theorem own : ownKnob Try.prog.godebug = none := by kernel_rfl

set_option maxRecDepth 100000 in
set_option maxHeartbeats 1000000 in
theorem walk (w : World) (f : Int) (wf : (Lit.int .i64 f).wf = true) (A : Option Addr) (cap : Nat) (ns : List Int) (hl : ns.length ≤ cap) (hc : cap ≤ maxLen) (h : Nums w A ns) :
    Calls Try.prog 6 #[.int .i64 f, .slice A ns.length cap] w fun e w' => e = .returned (.bool true) ∧ Ext w w' := by
  have hcc := hc
  unfold maxLen at hcc
  by_cases hn : 1048576 < (ns.length : Int)
  · have d1 : decide (1048576 < (ns.length : Int)) = true := decide_eq_true hn
    go_enter Try.func6, Try.ntmps6
    go_wp2_with fail
    go_ret
    exact ⟨rfl, Ext.refl _⟩
  have d1 : decide (1048576 < (ns.length : Int)) = false := decide_eq_false hn
  go_enter Try.func6, Try.ntmps6
  go_wp2_with fail
  refine (toIntS_any ns w A cap h hl hc (by omega)).mono ?_
  rintro e w1 ⟨cs, rfl, hb, hcs, h1⟩
  have hN := nums_of_blk hb hcs
  clear hb hcs
  go_wp2_with fail
  refine (specFunValue f ns w1 _ ns.length (Nat.le_refl _) (by omega) hN).mono ?_
  rintro e w2 ⟨rfl, h2⟩
  have hx := h1.trans h2
  clear h1 h2 hN
  go_wp2_with fail
  refine (toIntS_any ns w2 A cap (h.ext hx) hl hc (by omega)).mono ?_
  rintro e w3 ⟨cs, rfl, hb, hcs, h3⟩
  have hN := nums_of_blk hb hcs
  replace hx := hx.trans h3
  clear hb hcs h3
  go_wp2_with fail
  refine (funValue_any f ns w3 _ ns.length (Nat.le_refl _) (by omega) hN).mono ?_
  rintro e w4 ⟨rfl, h4⟩
  replace hN := hN.ext h4
  replace hx := hx.trans h4
  clear h4
  have hq0 : ((funVal f ns).1 != (funVal f ns).1) = false := by simp
  have hq1 : ((funVal f ns).2 != (funVal f ns).2) = false := by simp
  generalize (funVal f ns).1 = r0 at hq0
  generalize (funVal f ns).2 = r1 at hq1
  go_wp2_with fail
  refine (toIntS_any ns w4 A cap (h.ext hx) hl hc (by omega)).mono ?_
  rintro e w5 ⟨cs, rfl, hb, hcs, h5⟩
  have hN2 := nums_of_blk hb hcs
  replace hx := hx.trans h5
  replace hN := hN.ext h5
  clear hb hcs h5
  go_wp2_with fail
  refine (eqIntS_any ns ns w5 _ _ ns.length ns.length hN (Nat.le_refl _) (by omega) hN2 (Nat.le_refl _) (by omega)).mono ?_
  rw [decide_eq_true rfl]
  rintro e w6 ⟨rfl, h6⟩
  replace hx := hx.trans h6
  clear h6 hN hN2
  go_wp2_with fail
  go_ret
  exact ⟨rfl, hx⟩

set_option maxRecDepth 100000 in
theorem lifted (os : Os) (started : os.Started) (H : Type) (enc : TypeId × Value → H) :
    ReturnsInHanded {} Try.checked os 6 .any (Rows.fnExactFunValueSpec.pre6 enc Try.prog Try.f6 Rows.fnExactFunValueRow.domain false) (Rows.fnExactFunValueSpec.post enc Try.prog Try.f6 false true false false) := by
  refine law_lift (C := Try.checked) (fn := Try.f6) (tb := 4) own started (by kernel_rfl) Try.func6 (by kernel_rfl) (by kernel_rfl) rfl Try.underlying4 rfl
    (fun ds h => by
      match ds, h with
      | [d1, d2], _ => exact ⟨rfl, rfl, rfl⟩)
    (ChangeSpec.witness6 (enc := enc) (C := Try.checked) false ⟨#[], #[.int .i64 0, .slice none 0 0], []⟩ 8 (by kernel_rfl) (by kernel_rfl) (by kernel_rfl) (by kernel_rfl)) ?_
  intro W base args ds p hval hA hlt
  rw [Try.params6] at hA hval
  obtain ⟨v0, vs0, d0, ds0, p0, q0, hargs, rfl, rfl, h0, r0⟩ := trodAll_cons hA
  obtain ⟨v1, vs1, d1, ds1, p1, q1, rfl, rfl, rfl, h1, r1⟩ := trodAll_cons r0
  obtain ⟨rfl, rfl, rfl⟩ := trodAll_nil r1
  obtain rfl : args = #[v0, v1] := by cases args; simp_all
  obtain ⟨a0, rfl, rfl, rfl, w0⟩ := open_int Try.underlying3 (hval 0 3 v0 rfl rfl) h0
  obtain ⟨A1, cap1, ns1, rfl, hl1, hc1, ha1⟩ := open_nums Try.underlying42 Try.underlying3 (by kernel_rfl) (hval 1 42 v1 rfl rfl) h1
  exact walk W a0 w0 A1 cap1 ns1 hl1 hc1 ha1

theorem over : Rows.fnExactFunValueRow.holds Try.pinned (OpenSpec.ofChange Rows.fnExactFunValueSpec) :=
  OpenClaim.holds_of_wide 6 Try.f6 rfl rfl rfl rfl rfl rfl rfl ⟨rfl, rfl, rfl, rfl, rfl⟩ rfl rfl rfl rfl rfl (by kernel_rfl) Try.func6 (by kernel_rfl)
    (of_decide_eq_true (by kernel_rfl)) (by unfold Func.isWrapper; first | (rw [if_pos (by decide +kernel)]; kernel_rfl) | (rw [if_neg (by decide +kernel)]; exact ⟨rfl, rfl⟩))
    (fun os started H enc _ => lifted os started H enc)

theorem proved : Rows.FnExactFunValueSaid := over
#print axioms proved
end Go.Proofs.Ytohmpjpjpgonpaa.exFunValue

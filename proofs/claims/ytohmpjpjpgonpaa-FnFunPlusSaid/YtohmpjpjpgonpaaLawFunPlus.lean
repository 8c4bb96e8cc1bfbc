/-
  PROVED: the law FnFunPlus returns true for every input: values obey arithmetic.
  CONDITIONS: none.
-/
import Derived.Test.YtohmpjpjpgonpaaRows
import Derived.Test.YtohmpjpjpgonpaaLift
import Derived.Test.YtohmpjpjpgonpaaFunVal
import Derived.Test.YtohmpjpjpgonpaaDrawFun
import Derived.Deep.RegionHeld3
namespace Go.Proofs.Ytohmpjpjpgonpaa.funPlus
open Go.RowKit Go.ChangeShapes Go.WideShapes Go.ChangeAt
set_option linter.unusedVariables false

theorem own : ownKnob Try.prog.godebug = none := by kernel_rfl

set_option maxRecDepth 100000 in
set_option maxHeartbeats 4000000 in
theorem walk (w : World) (A : Option Addr) (cap : Nat) (bs : List Int) (hl : bs.length ≤ cap) (hc : cap ≤ maxLen) (hB : Bytes w w.heap.size A bs) (A2 : Option Addr) (cap2 : Nat) (ms : List Int) (hl2 : ms.length ≤ cap2) (hc2 : cap2 ≤ maxLen) (hB2 : Bytes w w.heap.size A2 ms) :
    Calls Try.prog 9 #[.slice A bs.length cap, .slice A2 ms.length cap2] w fun e w' => e = .returned (.bool true) ∧ Ext w w' := by
  have hcc := hc
  have hcc2 := hc2
  unfold maxLen at hcc hcc2
  by_cases hn : 1048576 < (bs.length : Int)
  · have d1 : decide (1048576 < (bs.length : Int)) = true := decide_eq_true hn
    go_enter Try.func9, Try.ntmps9
    go_wp2_with fail
    go_ret
    exact ⟨rfl, Ext.refl _⟩
  have d1 : decide (1048576 < (bs.length : Int)) = false := decide_eq_false hn
  by_cases hn2 : 1048576 < (ms.length : Int)
  · have d2 : decide (1048576 < (ms.length : Int)) = true := decide_eq_true hn2
    go_enter Try.func9, Try.ntmps9
    go_wp2_with fail
    go_ret
    exact ⟨rfl, Ext.refl _⟩
  have d2 : decide (1048576 < (ms.length : Int)) = false := decide_eq_false hn2
  obtain ⟨b, hbe⟩ : ∃ b : Nat, b = ms.length % 9 := ⟨_, rfl⟩
  have hb1 : b < 9 := hbe ▸ Nat.mod_lt _ (by decide)
  have eb : ((ms.length : Int) % 9) = (b : Int) := by rw [hbe]; omega
  clear hbe
  go_enter Try.func9, Try.ntmps9
  go_wp2_with fail
  refine (drawFunValue_any w A cap bs hl hc hB).mono ?_
  rintro e w1 ⟨f, B, c, ns, rfl, q1, q2, hN, h1⟩
  go_wp2_with fail
  refine (funValue_any f ns w1 B c q1 q2 hN).mono ?_
  rintro e w2 ⟨rfl, h2⟩
  go_wp2_with fail
  refine (specFunValue f ns w2 B c q1 q2 (hN.ext h2)).mono ?_
  rintro e w3 ⟨rfl, h3⟩
  have hx := h1.trans (h2.trans h3)
  replace hN := hN.ext (h2.trans h3)
  clear h1 h2 h3
  have hq0 : ((funVal f ns).1 != (funVal f ns).1) = false := by simp
  have hq0' : ((funVal f ns).1 == (funVal f ns).1) = true := by simp
  obtain ⟨v, hv⟩ : ∃ v, v = (funVal f ns).1 := ⟨_, rfl⟩
  rw [← hv] at hq0 hq0'
  rw [← hv]
  obtain ⟨z, hz⟩ : ∃ z, fits f ns = z := ⟨_, rfl⟩
  cases z with
  | false =>
    have e : (funVal f ns).2 = false := by unfold funVal; rw [hz]; rfl
    rw [e]
    clear e hv hz
    go_wp2_with fail
    go_ret
    exact ⟨rfl, hx⟩
  | true =>
    have hok : (funVal f ns).2 = true ∧ ∃ a, ns[0]? = some a ∧ 0 ≤ a ∧ a ≤ 20 := by
      rcases fits_true hz with ⟨a, b, rfl, ha0, ha1, -⟩ | ⟨a, rfl, ha0, ha1, -⟩
      · exact ⟨by unfold funVal; rw [hz]; rfl, a, rfl, ha0, ha1⟩
      · exact ⟨by unfold funVal; rw [hz]; rfl, a, rfl, ha0, ha1⟩
    obtain ⟨e, a, ha, ha0, ha1⟩ := hok
    rw [e]
    have hlen : 0 < ns.length := by cases ns with | nil => cases ha | cons _ _ => simp
    obtain ⟨b1, o1, rfl, ca⟩ := hN.get (Ext.refl _) (j := 0) hlen
    have ea : ns[0] = a := by rw [List.getElem?_eq_getElem hlen] at ha; exact Option.some.inj ha
    rw [ea, Nat.add_zero] at ca
    clear e hv hz ha ea hN
    go_wp2_with fail
    refine (funValue_any 1 [a, (b : Int)] _ _ 2 (by simp) (by decide) (nums_of_row (heap_alloc_new w3 _) rfl)).mono ?_
    rw [show funVal 1 [a, (b : Int)] = (a + b, true) from funVal_plus ha0 ha1 (by omega) (by omega)]
    rintro e w4 ⟨rfl, h4⟩
    replace hx := hx.trans h4.pre
    go_wp2_with fail
    refine (funValue_any 1 [(b : Int), a] _ _ 2 (by simp) (by decide) (nums_of_row (heap_alloc_new w4 _) rfl)).mono ?_
    rw [show funVal 1 [(b : Int), a] = (b + a, true) from funVal_plus (by omega) (by omega) ha0 ha1]
    rintro e w5 ⟨rfl, h5⟩
    replace hx := hx.trans h5.pre
    go_wp2_with fail
    refine (funValue_any 1 [a, a] _ _ 2 (by simp) (by decide) (nums_of_row (heap_alloc_new w5 _) rfl)).mono ?_
    rw [show funVal 1 [a, a] = (a + a, true) from funVal_plus ha0 ha1 ha0 ha1]
    rintro e w6 ⟨rfl, h6⟩
    replace hx := hx.trans h6.pre
    go_wp2_with fail
    refine (funValue_any 6 [a] _ _ 1 (by simp) (by decide) (nums_of_row (heap_alloc_new w6 _) rfl)).mono ?_
    rw [show funVal 6 [a] = (2 * a, true) from funVal_double ha0 ha1]
    rintro e w7 ⟨rfl, h7⟩
    replace hx := hx.trans h7.pre
    go_wp2_with fail
    refine (funValue_any 4 [a, (b : Int)] _ _ 2 (by simp) (by decide) (nums_of_row (heap_alloc_new w7 _) rfl)).mono ?_
    rw [show funVal 4 [a, (b : Int)] = (if a < b then 0 else a - b, true) from funVal_minus ha0 ha1 (by omega) (by omega)]
    rintro e w8 ⟨rfl, h8⟩
    replace hx := hx.trans h8.pre
    go_wp2_with fail
    all_goals go_ret
    all_goals exact ⟨rfl, hx⟩

set_option maxRecDepth 100000 in
theorem lifted (os : Os) (started : os.Started) (H : Type) (enc : TypeId × Value → H) :
    ReturnsInHanded {} Try.checked os 9 .any (Rows.fnFunPlusSpec.pre6 enc Try.prog Try.f9 Rows.fnFunPlusRow.domain false) (Rows.fnFunPlusSpec.post enc Try.prog Try.f9 false true false false) := by
  refine law_lift (C := Try.checked) (fn := Try.f9) (tb := 4) own started (by kernel_rfl) Try.func9 (by kernel_rfl) (by kernel_rfl) rfl Try.underlying4 rfl
    (fun ds h => by
      match ds, h with
      | [d1, d2], _ => exact ⟨rfl, rfl, rfl⟩)
    (ChangeSpec.witness6 (enc := enc) (C := Try.checked) false ⟨#[], #[.slice none 0 0, .slice none 0 0], []⟩ 8 (by kernel_rfl) (by kernel_rfl) (by kernel_rfl) (by kernel_rfl)) ?_
  intro W base args ds p hval hA hlt
  rw [Try.params9] at hA hval
  obtain ⟨v0, vs0, d0, ds0, p0, q0, hargs, rfl, rfl, h0, r0⟩ := trodAll_cons hA
  obtain ⟨v1, vs1, d1, ds1, p1, q1, rfl, rfl, rfl, h1, r1⟩ := trodAll_cons r0
  obtain ⟨rfl, rfl, rfl⟩ := trodAll_nil r1
  obtain rfl : args = #[v0, v1] := by cases args; simp_all
  obtain ⟨A0, cap0, bs0, rfl, hl0, hc0, ha0⟩ := open_bytes Try.underlying51 Try.underlying5 (by kernel_rfl) (hval 0 51 v0 rfl rfl) h0
  obtain ⟨A1, cap1, bs1, rfl, hl1, hc1, ha1⟩ := open_bytes Try.underlying51 Try.underlying5 (by kernel_rfl) (hval 1 51 v1 rfl rfl) h1
  exact walk W A0 cap0 bs0 hl0 hc0 ha0.1 A1 cap1 bs1 hl1 hc1 ha1.1

theorem over : Rows.fnFunPlusRow.holds Try.pinned (OpenSpec.ofChange Rows.fnFunPlusSpec) :=
  OpenClaim.holds_of_wide 9 Try.f9 rfl rfl rfl rfl rfl rfl rfl ⟨rfl, rfl, rfl, rfl, rfl⟩ rfl rfl rfl rfl rfl (by kernel_rfl) Try.func9 (by kernel_rfl)
    (of_decide_eq_true (by kernel_rfl)) (by unfold Func.isWrapper; first | (rw [if_pos (by decide +kernel)]; kernel_rfl) | (rw [if_neg (by decide +kernel)]; exact ⟨rfl, rfl⟩))
    (fun os started H enc _ => lifted os started H enc)

theorem proved : Rows.FnFunPlusSaid := over
#print axioms proved
end Go.Proofs.Ytohmpjpjpgonpaa.funPlus

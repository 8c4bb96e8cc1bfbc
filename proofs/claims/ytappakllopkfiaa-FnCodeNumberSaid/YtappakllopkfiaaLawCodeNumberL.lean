/-
  PROVED: the law FnCodeNumber returns true for every input: numbers are extracted.
  CONDITIONS: none.
-/
import Derived.Test.YtappakllopkfiaaRows
import Derived.Test.YtappakllopkfiaaLift
import Derived.Test.YtappakllopkfiaaDrawC
import Derived.Test.YtappakllopkfiaaNumeral
import Derived.Test.YtappakllopkfiaaExtractTop
import Derived.Test.YtappakllopkfiaaSame
import Derived.Test.YtappakllopkfiaaNum
import Derived.Test.YtappakllopkfiaaRunValue
import Derived.Test.YtappakllopkfiaaExShape
import Derived.Deep.RegionHeld3
namespace Go.Proofs.Ytappakllopkfiaa.codeNumberL
open Go.RowKit Go.ChangeShapes Go.WideShapes Go.ChangeAt
set_option linter.unusedVariables false

theorem own : ownKnob Try.prog.godebug = none := by kernel_rfl

theorem numR_num {n : Nat} : ∀ (c : Tr) (m d : Int), 0 ≤ m → shape sigC c d = true → numR 5 4 c m = ((n : Int), true) → n ≤ 20 ∧ ∃ j : Nat, (n : Int) = m + j ∧ c = codNum j := fun c => by
  refine Tr.ind (P := fun c => ∀ (m d : Int), 0 ≤ m → shape sigC c d = true → numR 5 4 c m = ((n : Int), true) → n ≤ 20 ∧ ∃ j : Nat, (n : Int) = m + j ∧ c = codNum j) (fun k q ks ih => ?_) c
  intro m d hm hsh h
  obtain ⟨h1, h2, h3, h4⟩ := shape_kids' hsh
  have h1' : opsC k = (ks.length : Int) := h1
  have h3' : q ≤ mostC k := h3
  cases ks with
  | nil =>
    unfold numR at h
    split at h
    · rename_i h5
      obtain ⟨rfl, h6⟩ := h5
      simp only [Prod.mk.injEq, and_true] at h
      have hq : q = 0 := by have h7 : q ≤ 0 := h3'; omega
      subst hq
      exact ⟨by omega, 0, by omega, rfl⟩
    · cases h
  | cons t ts =>
    unfold numR at h
    split at h
    · rename_i h5
      subst h5
      have hl : ts = [] := by
        have h7 : (1 : Int) = ((t :: ts).length : Int) := h1'
        simp only [List.length_cons] at h7
        exact List.eq_nil_of_length_eq_zero (by omega)
      subst hl
      have hq : q = 0 := by have h7 : q ≤ 0 := h3'; omega
      subst hq
      obtain ⟨g1, j, g2, g3⟩ := ih t (by simp) (m + 1) (d - 1) (by omega) (h4 t (by simp)) h
      refine ⟨g1, j + 1, by omega, ?_⟩
      rw [g3]
      rfl
    · split at h
      · rename_i h5
        obtain ⟨rfl, h6⟩ := h5
        have h7 : (0 : Int) = ((t :: ts).length : Int) := h1'
        simp only [List.length_cons] at h7
        omega
      · cases h
theorem numV_num {c : Tr} {x : Int} (h : numV sigC 5 4 c = (x, true)) : ∃ n : Nat, x = (n : Int) ∧ n ≤ 20 ∧ c = codNum n := by
  unfold numV at h
  split at h
  · rename_i hv
    obtain ⟨n, rfl⟩ : ∃ n : Nat, x = (n : Int) := by
      have hnn : ∀ (c : Tr) (m : Int), 0 ≤ m → 0 ≤ (numR 5 4 c m).1 := fun c => by
        refine Tr.ind (P := fun c => ∀ m : Int, 0 ≤ m → 0 ≤ (numR 5 4 c m).1) (fun k q ks ih => ?_) c
        intro m hm
        cases ks with
        | nil => unfold numR; split <;> simp [hm]
        | cons t ts =>
          unfold numR
          split
          · exact ih t (by simp) (m + 1) (by omega)
          · split <;> simp [hm]
      have := hnn c 0 (by omega)
      rw [h] at this
      exact ⟨x.toNat, by simp at this; omega⟩
    obtain ⟨g1, j, g2, g3⟩ := numR_num c 0 30 (by omega) (valid_parts hv).1 h
    have : n = j := by omega
    subst this
    exact ⟨n, rfl, g1, g3⟩
  · cases h
theorem cnm {c : Tr} {x : Int} {z : Bool} (h : numV sigC 5 4 c = (x, z)) (w : World) (v : Value) (hin : Lies w c v) : Calls Try.prog 25 #[v] w fun e w' => e = .returned (.tuple #[.int .i64 x, .bool z]) ∧ Ext w w' := by
  have := numCode c w v hin
  rw [h] at this
  exact this
theorem cnm2 {c : Tr} {x : Int} {z : Bool} (h : numV sigC 5 4 c = (x, z)) (w : World) (v : Value) (hin : Lies w c v) : Calls Try.prog 26 #[v] w fun e w' => e = .returned (.tuple #[.int .i64 x, .bool z]) ∧ Ext w w' := by
  have := specnumCode c w v hin
  rw [h] at this
  exact this
theorem numa {n : Nat} (h : n ≤ 20) (w : World) : Calls Try.prog 27 #[.int .i64 n] w fun e w' => ∃ u, e = .returned (.tuple #[u, .bool true]) ∧ Lies w' (numTr n) u ∧ Ext w w' := by
  have := numeralAns_any n w
  rw [numAns_good h] at this
  exact this.mono fun e w' ⟨u, h1, h2, h3⟩ => ⟨u, h1, h2.lies, h3⟩
theorem exa {n : Nat} (h : n ≤ 20) (w : World) (v : Value) (hin : Lies w (numTr n) v) : Calls Try.prog 28 #[v] w fun e w' => ∃ u, e = .returned (.tuple #[u, .bool true]) ∧ Lies w' (codNum n) u ∧ Ext w w' := by
  have := extractTerm_any (numTr n) w v hin
  obtain ⟨f1, f2, -⟩ := numFacts ⟨n, by omega⟩
  have e : exV (numTr n) = (codNum n, true) := by unfold exV; rw [f1, f2]; rfl
  rw [e] at this
  exact this.mono fun e w' ⟨u, h1, h2, h3⟩ => ⟨u, h1, h2.lies, h3⟩
theorem runa {n : Nat} (h : n ≤ 20) (w : World) (v : Value) (hin : Lies w (codNum n) v) : Calls Try.prog 17 #[v, .int .i64 0] w fun e w' => ∃ u, e = .returned (.tuple #[u, .int .i64 0]) ∧ Lies w' (codNum n) u ∧ Ext w w' := by
  obtain ⟨-, -, f3, f4, f5, -⟩ := numFacts ⟨n, by omega⟩
  exact (runValue_any (codNum n) w v 0 hin f3 f4 f5 (by omega) (by omega)).mono fun e w' ⟨u, h1, h2, h3⟩ => ⟨u, h1, h2.lies, h3⟩
theorem cs1 (c : Tr) (w : World) (v u : Value) (h : Lies w c v) (k : Lies w c u) : Calls Try.prog 22 #[v, u] w fun e w' => e = .returned (.bool true) ∧ Ext w w' := by
  have := sameCode_any c w c v u h k
  rw [eqTr_self] at this
  exact this
set_option maxRecDepth 100000 in
set_option maxHeartbeats 4000000 in
theorem walk (w0 : World) (A : Option Addr) (cap : Nat) (bs : List Int) (hl : bs.length ≤ cap) (hc : cap ≤ maxLen) (hB : Bytes w0 w0.heap.size A bs) :
    Calls Try.prog 5 #[.slice A bs.length cap] w0 fun e w' => e = .returned (.bool true) ∧ Ext w0 w' := by
  have hcc := hc
  unfold maxLen at hcc
  by_cases hn : 1048576 < (bs.length : Int)
  · have d1 : decide (1048576 < (bs.length : Int)) = true := decide_eq_true hn
    go_enter Try.func5, Try.ntmps5
    go_wp2_with fail
    go_ret
    exact ⟨rfl, Ext.refl _⟩
  have d1 : decide (1048576 < (bs.length : Int)) = false := decide_eq_false hn
  go_enter Try.func5, Try.ntmps5
  go_wp2_with fail
  refine (drawCodeNumber_any w0 A cap bs hl hc hB).mono ?_
  rintro e w1 ⟨⟨k0, m0, ks0⟩, u, rfl, hcn0, hF0, e1⟩
  have s1 : w0.heap.size ≤ w1.heap.size := e1.size
  have hL0 := hF0.lies
  obtain ⟨A0, cap0, rfl, hl0, hc0, hK0⟩ := Lies.mk_iff.1 hL0
  clear hF0 hcn0
  obtain ⟨w2, hw2⟩ : ∃ w2, w2 = w1.alloc (.cells #[.int .i64 k0, .int .i64 m0, .slice A0 ks0.length cap0] 28) := ⟨_, rfl⟩
  have e2 : Ext w1 w2 := hw2 ▸ (Ext.refl w1).alloc _
  have b2 := heap_alloc_new w1 (.cells #[.int .i64 k0, .int .i64 m0, .slice A0 ks0.length cap0] 28)
  rw [← hw2] at b2
  have s2 : w1.heap.size < w2.heap.size := lt_of_blk b2
  obtain ⟨x, z, hz⟩ : ∃ x z, numV sigC 5 4 (.mk k0 m0 ks0) = (x, z) := ⟨_, _, rfl⟩
  have HZ := Lib.hid hz
  clear hz
  go_wp2_with fail
  rw [← hw2]
  clear hw2
  have X1_2 : Ext w1 w2 := (Ext.refl w1).trans e2
  refine (cnm HZ.out w2 _ (hL0.ext X1_2)).mono ?_
  rintro e w3 ⟨rfl, e3⟩
  have s3 : w2.heap.size ≤ w3.heap.size := e3.size
  have ba0_3 := e3.blk b2
  obtain ⟨za00, za01, za02, -, -, -⟩ := own3 ba0_3
  have lza0 := lt_of_blk ba0_3
  go_wp2_with fail
  clear za00 za01 za02 lza0
  have X1_3 : Ext w1 w3 := X1_2.trans e3
  refine (cnm2 HZ.out w3 _ (hL0.ext X1_3)).mono ?_
  rintro e w4 ⟨rfl, e4⟩
  have s4 : w3.heap.size ≤ w4.heap.size := e4.size
  have hz1 : (z != z) = false := by simp
  have hz2 : (z == z) = true := by simp
  have hx1 : (x != x) = false := by simp
  have hx2 : (x == x) = true := by simp
  cases z with
  | false =>
    have ba0_4 := e4.blk ba0_3
    obtain ⟨za00, za01, za02, -, -, -⟩ := own3 ba0_4
    have lza0 := lt_of_blk ba0_4
    go_wp2_with fail
    clear za00 za01 za02 lza0
    have X0_1 : Ext w0 w1 := (Ext.refl w0).trans e1
    have X0_2 : Ext w0 w2 := X0_1.trans e2
    have X0_3 : Ext w0 w3 := X0_2.trans e3
    have X0_4 : Ext w0 w4 := X0_3.trans e4
    go_ret
    exact ⟨rfl, X0_4⟩
  | true =>
    obtain ⟨n, rfl, hn20, hcd⟩ := numV_num HZ.out
    have HCD := Lib.hid hcd
    clear hcd
    have ba0_4 := e4.blk ba0_3
    obtain ⟨za00, za01, za02, -, -, -⟩ := own3 ba0_4
    have lza0 := lt_of_blk ba0_4
    go_wp2_with fail
    clear za00 za01 za02 lza0
    refine (numa hn20 w4).mono ?_
    rintro e w5 ⟨u, rfl, hL4, e5⟩
    have s5 : w4.heap.size ≤ w5.heap.size := e5.size
    obtain ⟨k4, m4, A4, l4, cap4, rfl⟩ := hL4.three
    obtain ⟨w6, hw6⟩ : ∃ w6, w6 = w5.alloc (.cells #[.int .i64 k4, .int .i64 m4, .slice A4 l4 cap4] 44) := ⟨_, rfl⟩
    have e6 : Ext w5 w6 := hw6 ▸ (Ext.refl w5).alloc _
    have b6 := heap_alloc_new w5 (.cells #[.int .i64 k4, .int .i64 m4, .slice A4 l4 cap4] 44)
    rw [← hw6] at b6
    have s6 : w5.heap.size < w6.heap.size := lt_of_blk b6
    have ba0_5 := e5.blk ba0_4
    obtain ⟨za00, za01, za02, -, -, -⟩ := own3 ba0_5
    have lza0 := lt_of_blk ba0_5
    go_wp2_with fail
    rw [← hw6]
    clear hw6
    clear za00 za01 za02 lza0
    have X5_6 : Ext w5 w6 := (Ext.refl w5).trans e6
    refine (exa hn20 w6 _ (hL4.ext X5_6)).mono ?_
    rintro e w7 ⟨u, rfl, hL6, e7⟩
    have s7 : w6.heap.size ≤ w7.heap.size := e7.size
    obtain ⟨k6, m6, A6, l6, cap6, rfl⟩ := hL6.three
    obtain ⟨w8, hw8⟩ : ∃ w8, w8 = w7.alloc (.cells #[.int .i64 k6, .int .i64 m6, .slice A6 l6 cap6] 28) := ⟨_, rfl⟩
    have e8 : Ext w7 w8 := hw8 ▸ (Ext.refl w7).alloc _
    have b8 := heap_alloc_new w7 (.cells #[.int .i64 k6, .int .i64 m6, .slice A6 l6 cap6] 28)
    rw [← hw8] at b8
    have s8 : w7.heap.size < w8.heap.size := lt_of_blk b8
    have ba0_6 := e6.blk ba0_5
    have ba0_7 := e7.blk ba0_6
    obtain ⟨za00, za01, za02, -, -, -⟩ := own3 ba0_7
    have lza0 := lt_of_blk ba0_7
    have ba4_7 := e7.blk b6
    obtain ⟨za40, za41, za42, -, -, -⟩ := own3 ba4_7
    have lza4 := lt_of_blk ba4_7
    go_wp2_with fail
    rw [← hw8]
    clear hw8
    clear za00 za01 za02 lza0 za40 za41 za42 lza4
    have X1_4 : Ext w1 w4 := X1_3.trans e4
    have X1_5 : Ext w1 w5 := X1_4.trans e5
    have X1_6 : Ext w1 w6 := X1_5.trans e6
    have X1_7 : Ext w1 w7 := X1_6.trans e7
    have X1_8 : Ext w1 w8 := X1_7.trans e8
    refine (runa hn20 w8 _ (by have h9 := (hL0.ext X1_8); rw [HCD.out] at h9; exact h9)).mono ?_
    rintro e w9 ⟨u, rfl, hL8, e9⟩
    have s9 : w8.heap.size ≤ w9.heap.size := e9.size
    obtain ⟨k8, m8, A8, l8, cap8, rfl⟩ := hL8.three
    obtain ⟨w10, hw10⟩ : ∃ w10, w10 = w9.alloc (.cells #[.int .i64 k8, .int .i64 m8, .slice A8 l8 cap8] 28) := ⟨_, rfl⟩
    have e10 : Ext w9 w10 := hw10 ▸ (Ext.refl w9).alloc _
    have b10 := heap_alloc_new w9 (.cells #[.int .i64 k8, .int .i64 m8, .slice A8 l8 cap8] 28)
    rw [← hw10] at b10
    have s10 : w9.heap.size < w10.heap.size := lt_of_blk b10
    have ba0_8 := e8.blk ba0_7
    have ba0_9 := e9.blk ba0_8
    obtain ⟨za00, za01, za02, -, -, -⟩ := own3 ba0_9
    have lza0 := lt_of_blk ba0_9
    have ba4_8 := e8.blk ba4_7
    have ba4_9 := e9.blk ba4_8
    obtain ⟨za40, za41, za42, -, -, -⟩ := own3 ba4_9
    have lza4 := lt_of_blk ba4_9
    have ba6_9 := e9.blk b8
    obtain ⟨za60, za61, za62, -, -, -⟩ := own3 ba6_9
    have lza6 := lt_of_blk ba6_9
    go_wp2_with fail
    rw [← hw10]
    clear hw10
    clear za00 za01 za02 lza0 za40 za41 za42 lza4 za60 za61 za62 lza6
    have X7_8 : Ext w7 w8 := (Ext.refl w7).trans e8
    have X7_9 : Ext w7 w9 := X7_8.trans e9
    have X7_10 : Ext w7 w10 := X7_9.trans e10
    have X1_9 : Ext w1 w9 := X1_8.trans e9
    have X1_10 : Ext w1 w10 := X1_9.trans e10
    refine (cs1 (codNum n) w10 _ _ (hL6.ext X7_10) (by have h9 := (hL0.ext X1_10); rw [HCD.out] at h9; exact h9)).mono ?_
    rintro e w11 ⟨rfl, e11⟩
    have s11 : w10.heap.size ≤ w11.heap.size := e11.size
    have ba0_10 := e10.blk ba0_9
    have ba0_11 := e11.blk ba0_10
    obtain ⟨za00, za01, za02, -, -, -⟩ := own3 ba0_11
    have lza0 := lt_of_blk ba0_11
    have ba4_10 := e10.blk ba4_9
    have ba4_11 := e11.blk ba4_10
    obtain ⟨za40, za41, za42, -, -, -⟩ := own3 ba4_11
    have lza4 := lt_of_blk ba4_11
    have ba6_10 := e10.blk ba6_9
    have ba6_11 := e11.blk ba6_10
    obtain ⟨za60, za61, za62, -, -, -⟩ := own3 ba6_11
    have lza6 := lt_of_blk ba6_11
    have ba8_11 := e11.blk b10
    obtain ⟨za80, za81, za82, -, -, -⟩ := own3 ba8_11
    have lza8 := lt_of_blk ba8_11
    go_wp2_with fail
    clear za00 za01 za02 lza0 za40 za41 za42 lza4 za60 za61 za62 lza6 za80 za81 za82 lza8
    have X9_10 : Ext w9 w10 := (Ext.refl w9).trans e10
    have X9_11 : Ext w9 w11 := X9_10.trans e11
    have X1_11 : Ext w1 w11 := X1_10.trans e11
    refine (cs1 (codNum n) w11 _ _ (hL8.ext X9_11) (by have h9 := (hL0.ext X1_11); rw [HCD.out] at h9; exact h9)).mono ?_
    rintro e w12 ⟨rfl, e12⟩
    have s12 : w11.heap.size ≤ w12.heap.size := e12.size
    have ba0_12 := e12.blk ba0_11
    obtain ⟨za00, za01, za02, -, -, -⟩ := own3 ba0_12
    have lza0 := lt_of_blk ba0_12
    have ba4_12 := e12.blk ba4_11
    obtain ⟨za40, za41, za42, -, -, -⟩ := own3 ba4_12
    have lza4 := lt_of_blk ba4_12
    have ba6_12 := e12.blk ba6_11
    obtain ⟨za60, za61, za62, -, -, -⟩ := own3 ba6_12
    have lza6 := lt_of_blk ba6_12
    have ba8_12 := e12.blk ba8_11
    obtain ⟨za80, za81, za82, -, -, -⟩ := own3 ba8_12
    have lza8 := lt_of_blk ba8_12
    go_wp2_with fail
    clear za00 za01 za02 lza0 za40 za41 za42 lza4 za60 za61 za62 lza6 za80 za81 za82 lza8
    have X0_1 : Ext w0 w1 := (Ext.refl w0).trans e1
    have X0_2 : Ext w0 w2 := X0_1.trans e2
    have X0_3 : Ext w0 w3 := X0_2.trans e3
    have X0_4 : Ext w0 w4 := X0_3.trans e4
    have X0_5 : Ext w0 w5 := X0_4.trans e5
    have X0_6 : Ext w0 w6 := X0_5.trans e6
    have X0_7 : Ext w0 w7 := X0_6.trans e7
    have X0_8 : Ext w0 w8 := X0_7.trans e8
    have X0_9 : Ext w0 w9 := X0_8.trans e9
    have X0_10 : Ext w0 w10 := X0_9.trans e10
    have X0_11 : Ext w0 w11 := X0_10.trans e11
    have X0_12 : Ext w0 w12 := X0_11.trans e12
    go_ret
    exact ⟨rfl, X0_12⟩

set_option maxRecDepth 100000 in
theorem lifted (os : Os) (started : os.Started) (H : Type) (enc : TypeId × Value → H) :
    ReturnsInHanded {} Try.checked os 5 .any (Rows.fnCodeNumberSpec.pre6 enc Try.prog Try.f5 Rows.fnCodeNumberRow.domain false) (Rows.fnCodeNumberSpec.post enc Try.prog Try.f5 false true false false) := by
  refine law_lift (C := Try.checked) (fn := Try.f5) (tb := 4) own started (by kernel_rfl) Try.func5 (by kernel_rfl) (by kernel_rfl) rfl Try.underlying4 rfl
    (fun ds h => by
      match ds, h with
      | [d1], _ => exact ⟨rfl, rfl, rfl⟩)
    (ChangeSpec.witness6 (enc := enc) (C := Try.checked) false ⟨#[], #[.slice none 0 0], []⟩ 8 (by kernel_rfl) (by kernel_rfl) (by kernel_rfl) (by kernel_rfl)) ?_
  intro W base args ds p hval hA hlt
  rw [Try.params5] at hA hval
  obtain ⟨v0, vs0, d0, ds0, p0, q0, hargs, rfl, rfl, h0, r0⟩ := trodAll_cons hA
  obtain ⟨rfl, rfl, rfl⟩ := trodAll_nil r0
  obtain rfl : args = #[v0] := by cases args; simp_all
  obtain ⟨A0, cap0, bs0, rfl, hl0, hc0, ha0⟩ := open_bytes Try.underlying35 Try.underlying5 (by kernel_rfl) (hval 0 35 v0 rfl rfl) h0
  exact walk W A0 cap0 bs0 hl0 hc0 ha0.1

theorem over : Rows.fnCodeNumberRow.holds Try.pinned (OpenSpec.ofChange Rows.fnCodeNumberSpec) :=
  OpenClaim.holds_of_wide 5 Try.f5 rfl rfl rfl rfl rfl rfl rfl ⟨rfl, rfl, rfl, rfl, rfl⟩ rfl rfl rfl rfl rfl (by kernel_rfl) Try.func5 (by kernel_rfl)
    (of_decide_eq_true (by kernel_rfl)) (by unfold Func.isWrapper; first | (rw [if_pos (by decide +kernel)]; kernel_rfl) | (rw [if_neg (by decide +kernel)]; exact ⟨rfl, rfl⟩))
    (fun os started H enc _ => lifted os started H enc)

theorem proved : Rows.FnCodeNumberSaid := over
#print axioms proved
end Go.Proofs.Ytappakllopkfiaa.codeNumberL

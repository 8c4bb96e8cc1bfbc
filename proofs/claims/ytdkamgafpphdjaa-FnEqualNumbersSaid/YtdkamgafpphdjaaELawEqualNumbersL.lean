/-
  PROVED: the law FnEqualNumbers returns true for every input: equal numbers have proofs.
  CONDITIONS: none.
-/
import Derived.Test.YtdkamgafpphdjaaEAJ
import Derived.Test.YtdkamgafpphdjaaEAM
import Derived.Test.YtdkamgafpphdjaaEAP
import Derived.Test.YtdkamgafpphdjaaEAQ
import Derived.Test.YtdkamgafpphdjaaEBV
import Derived.Deep.RegionHeld3
import Derived.Test.YtdkamgafpphdjaaRows
namespace Go.Proofs.Ytdkamgafpphdjaa.equalNumbersL
open Go.RowKit Go.ChangeShapes Go.WideShapes Go.ChangeAt
set_option linter.unusedVariables false

theorem own : ownKnob Try.prog.godebug = none := by kernel_rfl

theorem same1 (c : Tr) (w : World) (v u : Value) (h : Lies w c v) (k : Lies w c u) : Calls Try.prog 7 #[v, u] w fun e w' => e = .returned (.bool true) ∧ Ext w w' := by
  have := sameTerm_any c w c v u h k
  rw [eqTr_self] at this
  exact this
theorem drawEqualNumbers_any (w : World) (A : Option Addr) (cap : Nat) (bs : List Int) (hl : bs.length ≤ cap) (hc : cap ≤ maxLen) (hB : Bytes w w.heap.size A bs) : Calls Try.prog 4 #[.slice A bs.length cap] w fun e w' =>
    ∃ x y : Int, e = .returned (.tuple #[.int .i64 x, .int .i64 y]) ∧ x ∈ [0, 1, 3, 20, 21, -1] ∧ y ∈ [0, 1, 3, 20, 21, -1] ∧ Ext w w' := by
  go_enter Try.func4, Try.ntmps4
  go_wp2_with fail
  refine (l19Open_any w A cap bs hl hc hB).mono ?_
  rintro e w1 ⟨rfl, hR, h1⟩
  have hlt := hR.lt
  go_wp2_with fail
  refine (num_any _ _ 0 (hR.ext ((Ext.refl w1).alloc _)) (by omega) _ 6 [0, 1, 3, 20, 21, -1] (by simp) (by decide) (by simp) (nums_of_row (heap_alloc_new w1 _) rfl) (by intro b o hb; simp at hb; omega)).mono ?_
  rintro e w2 ⟨x, rfl, hx, hR2, ho⟩
  have hlt2 := hR2.lt
  have HX := Lib.hid hx
  clear hx
  go_wp2_with fail
  refine (num_any _ _ 1 (hR2.ext ((Ext.refl w2).alloc _)) (by omega) _ 6 [0, 1, 3, 20, 21, -1] (by simp) (by decide) (by simp) (nums_of_row (heap_alloc_new w2 _) rfl) (by intro b o hb; simp at hb; omega)).mono ?_
  rintro e w3 ⟨y, rfl, hy, hR3, ho2⟩
  have HY := Lib.hid hy
  clear hy
  go_wp2_with fail
  go_ret2
  exact ⟨x, y, rfl, HX.out, HY.out, ((((Only.refl _ _).alloc _).trans ho).trans ((Only.refl _ _).alloc _ |>.trans ho2)).ext h1 (by intro b hb; simp at hb; omega)⟩
def vsN : Fin 4 → Nat := fun i => [0, 1, 3, 20].getD i.val 0
theorem enFacts : ∀ i j : Fin 4, ctV 30 [] (.mk 11 0 [numTr (vsN i)]) (.mk 10 0 [.mk 6 0 [], numTr (vsN i), numTr (vsN j)]) = some (dflt0, if i = j then 0 else 1) := by decide +kernel
theorem lies_row3 {w : World} {g : Nat} {e : TypeId} {t u x : Tr} {v0 v1 v2 u0 u1 u2 x0 x1 x2 : Value} (hb : w.heap[g]? = some (.cells #[v0, v1, v2, u0, u1, u2, x0, x1, x2] e (0, 0))) (h : Lies w t (.agg #[v0, v1, v2])) (k : Lies w u (.agg #[u0, u1, u2])) (l : Lies w x (.agg #[x0, x1, x2])) : LiesK w (some ⟨g, 0, none⟩) [t, u, x] :=
  .inr ⟨g, 0, rfl, lt_of_blk hb, ⟨⟨v0, v1, v2, cell_of_blk hb 0, cell_of_blk hb 1, cell_of_blk hb 2, h⟩, ⟨u0, u1, u2, cell_of_blk hb 3, cell_of_blk hb 4, cell_of_blk hb 5, k⟩, ⟨x0, x1, x2, cell_of_blk hb 6, cell_of_blk hb 7, cell_of_blk hb 8, l⟩, trivial⟩⟩
theorem en1 {a b : Int} {p : Tr} {z : Bool} (h : eqNum a b = (p, z)) (w : World) : Calls Try.prog 5 #[.int .i64 a, .int .i64 b] w fun e w' => ∃ u, e = .returned (.tuple #[u, .bool z]) ∧ Lies w' p u ∧ Ext w w' := by
  have := equalNumbers_any a b w
  rw [h] at this
  exact this.mono fun e w' ⟨u, h1, h2, h3⟩ => ⟨u, h1, h2.lies, h3⟩
theorem en2 {a b : Int} {p : Tr} {z : Bool} (h : eqNum a b = (p, z)) (w : World) : Calls Try.prog 6 #[.int .i64 a, .int .i64 b] w fun e w' => ∃ u, e = .returned (.tuple #[u, .bool z]) ∧ Lies w' p u ∧ Ext w w' := by
  have := specEqualNumbers_any a b w
  rw [h] at this
  exact this
theorem nu1 {a : Int} {p : Tr} {z : Bool} (h : numAns a = (p, z)) (w : World) : Calls Try.prog 8 #[.int .i64 a] w fun e w' => ∃ u, e = .returned (.tuple #[u, .bool z]) ∧ Lies w' p u ∧ Ext w w' := by
  have := numeralAns_any a w
  rw [h] at this
  exact this.mono fun e w' ⟨u, h1, h2, h3⟩ => ⟨u, h1, h2.lies, h3⟩
theorem ck1 {f : Nat} {t want s : Tr} {c : Int} (h : ctV f [] t want = some (s, c)) (w : World) (v vw : Value) (ht : Lies w t v) (hw : Lies w want vw) (A : Option Addr) : Calls Try.prog 9 #[.slice A 0 0, v, vw] w fun e w' => e = .returned (.int .i64 c) ∧ Ext w w' :=
  checkType_any f [] A 0 w (.inl rfl) (Nat.le_refl _) (Nat.zero_le _) t v ht want vw hw _ h
theorem dk1 (z : Bool) (w : World) : Calls Try.prog 10 #[.bool z] w fun e w' => e = .returned (.int .i64 (if z = true then 0 else 1)) ∧ Ext w w' := by
  cases z <;> (go_enter Try.func10, Try.ntmps10; go_wp2_with fail; go_ret; exact ⟨rfl, Ext.refl _⟩)
/-- What is said of two numbers. -/
theorem eqFacts {a b : Int} (ha : a ∈ [0, 1, 3, 20, 21, -1]) (hb : b ∈ [0, 1, 3, 20, 21, -1]) : ∃ (P X Y : Tr) (z qa qb : Bool), eqNum a b = (P, z) ∧ numAns a = (X, qa) ∧ numAns b = (Y, qb) ∧ (a == b) = (if (qa && qb) = true then z else (a == b)) ∧ ((qa && qb) = false → z = false) ∧
    ((qa && qb) = true → (∃ u, z = true → ctV 30 [] P (.mk 10 0 [.mk 6 0 [], X, Y]) = some (u, 0)) ∧ ∃ u, ctV 30 [] (.mk 11 0 [X]) (.mk 10 0 [.mk 6 0 [], X, Y]) = some (u, if z = true then 0 else 1)) := by
  have hcase : ∀ c : Int, c ∈ [0, 1, 3, 20, 21, -1] → (∃ i : Fin 4, c = (vsN i : Int)) ∨ ¬ (0 ≤ c ∧ c ≤ 20) := by
    intro c hc
    simp only [List.mem_cons, List.not_mem_nil, or_false] at hc
    rcases hc with rfl | rfl | rfl | rfl | rfl | rfl
    · exact .inl ⟨0, rfl⟩
    · exact .inl ⟨1, rfl⟩
    · exact .inl ⟨2, rfl⟩
    · exact .inl ⟨3, rfl⟩
    · exact .inr (by omega)
    · exact .inr (by omega)
  have hle : ∀ i : Fin 4, vsN i ≤ 20 := by decide
  have hij : ∀ i j : Fin 4, vsN i = vsN j → i = j := by decide
  rcases hcase a ha with ⟨i, rfl⟩ | h1
  · rcases hcase b hb with ⟨j, rfl⟩ | h2
    · by_cases e : i = j
      · subst e
        refine ⟨_, _, _, _, _, _, eqNum_good (hle i), numAns_good (hle i), numAns_good (hle i), by simp, by simp, fun _ => ⟨⟨dflt0, fun _ => ?_⟩, dflt0, ?_⟩⟩
        · have := enFacts i i
          rwa [if_pos rfl] at this
        · have := enFacts i i
          rwa [if_pos rfl] at this
      · have hne : ¬ ((vsN i : Int) = (vsN j : Int)) := fun h => e (hij i j (by omega))
        refine ⟨_, _, _, _, _, _, eqNum_bad (fun h => hne h.1), numAns_good (hle i), numAns_good (hle j), by simp [hne], by simp, fun _ => ⟨⟨dflt0, fun h => by cases h⟩, dflt0, ?_⟩⟩
        have := enFacts i j
        rwa [if_neg e] at this
    · refine ⟨_, _, _, _, _, _, eqNum_bad (fun h => h2 (by omega)), numAns_good (hle i), numAns_bad h2, by simp, by simp, by simp⟩
  · refine ⟨_, _, _, _, _, _, eqNum_bad (fun h => h1 h.2), numAns_bad h1, rfl, by simp, by simp, by simp⟩
set_option maxRecDepth 100000 in
set_option maxHeartbeats 4000000 in
theorem walk (w0 : World) (A : Option Addr) (cap : Nat) (bs : List Int) (hl : bs.length ≤ cap) (hc : cap ≤ maxLen) (hB : Bytes w0 w0.heap.size A bs) :
    Calls Try.prog 3 #[.slice A bs.length cap] w0 fun e w' => e = .returned (.bool true) ∧ Ext w0 w' := by
  have hcc := hc
  unfold maxLen at hcc
  by_cases hn : 1048576 < (bs.length : Int)
  · have d1 : decide (1048576 < (bs.length : Int)) = true := decide_eq_true hn
    go_enter Try.func3, Try.ntmps3
    go_wp2_with fail
    go_ret
    exact ⟨rfl, Ext.refl _⟩
  have d1 : decide (1048576 < (bs.length : Int)) = false := decide_eq_false hn
  go_enter Try.func3, Try.ntmps3
  go_wp2_with fail
  refine (drawEqualNumbers_any w0 A cap bs hl hc hB).mono ?_
  rintro e w1 ⟨a, b, rfl, ha, hb, e1⟩
  have s1 : w0.heap.size ≤ w1.heap.size := e1.size
  obtain ⟨⟨k1, m1, ks1⟩, ⟨k3, m3, ks3⟩, ⟨k4, m4, ks4⟩, z, qa, qb, f1, f2, f3, f4, f5, f6⟩ := eqFacts ha hb
  have F1 := Lib.hid f1
  have F2 := Lib.hid f2
  have F3 := Lib.hid f3
  have F5 := Lib.hid f5
  have F6 := Lib.hid f6
  clear f1 f2 f3 f5 f6 ha hb
  go_wp2_with fail
  refine (en1 F1.out w1).mono ?_
  rintro e w2 ⟨u, rfl, hL1, e2⟩
  have s2 : w1.heap.size ≤ w2.heap.size := e2.size
  obtain ⟨A1, cap1, rfl, hl1, hc1, hK1⟩ := Lies.mk_iff.1 hL1
  obtain ⟨w3, hw3⟩ : ∃ w3, w3 = w2.alloc (.cells #[.int .i64 k1, .int .i64 m1, .slice A1 ks1.length cap1] 27) := ⟨_, rfl⟩
  have e3 : Ext w2 w3 := hw3 ▸ (Ext.refl w2).alloc _
  have b3 := heap_alloc_new w2 (.cells #[.int .i64 k1, .int .i64 m1, .slice A1 ks1.length cap1] 27)
  rw [← hw3] at b3
  have s3 : w2.heap.size < w3.heap.size := lt_of_blk b3
  go_wp2_with fail
  rw [← hw3]
  clear hw3
  refine (en2 F1.out w3).mono ?_
  rintro e w4 ⟨u, rfl, hL2, e4⟩
  have s4 : w3.heap.size ≤ w4.heap.size := e4.size
  obtain ⟨A2, cap2, rfl, hl2, hc2, hK2⟩ := Lies.mk_iff.1 hL2
  obtain ⟨w5, hw5⟩ : ∃ w5, w5 = w4.alloc (.cells #[.int .i64 k1, .int .i64 m1, .slice A2 ks1.length cap2] 27) := ⟨_, rfl⟩
  have e5 : Ext w4 w5 := hw5 ▸ (Ext.refl w4).alloc _
  have b5 := heap_alloc_new w4 (.cells #[.int .i64 k1, .int .i64 m1, .slice A2 ks1.length cap2] 27)
  rw [← hw5] at b5
  have s5 : w4.heap.size < w5.heap.size := lt_of_blk b5
  have hz1 : (z != z) = false := by simp
  have ba1_4 := e4.blk b3
  obtain ⟨za10, za11, za12, -, -, -⟩ := own3 ba1_4
  have lza1 := lt_of_blk ba1_4
  go_wp2_with fail
  rw [← hw5]
  clear hw5
  clear za10 za11 za12 lza1
  have X2_3 : Ext w2 w3 := (Ext.refl w2).trans e3
  have X2_4 : Ext w2 w4 := X2_3.trans e4
  have X2_5 : Ext w2 w5 := X2_4.trans e5
  have X4_5 : Ext w4 w5 := (Ext.refl w4).trans e5
  refine (same1 _ w5 _ _ (hL1.ext X2_5) (hL2.ext X4_5)).mono ?_
  rintro e w6 ⟨rfl, e6⟩
  have s6 : w5.heap.size ≤ w6.heap.size := e6.size
  have ba1_5 := e5.blk ba1_4
  have ba1_6 := e6.blk ba1_5
  obtain ⟨za10, za11, za12, -, -, -⟩ := own3 ba1_6
  have lza1 := lt_of_blk ba1_6
  have ba2_6 := e6.blk b5
  obtain ⟨za20, za21, za22, -, -, -⟩ := own3 ba2_6
  have lza2 := lt_of_blk ba2_6
  go_wp2_with fail
  clear za10 za11 za12 lza1 za20 za21 za22 lza2
  refine (nu1 F2.out w6).mono ?_
  rintro e w7 ⟨u, rfl, hL3, e7⟩
  have s7 : w6.heap.size ≤ w7.heap.size := e7.size
  obtain ⟨A3, cap3, rfl, hl3, hc3, hK3⟩ := Lies.mk_iff.1 hL3
  obtain ⟨w8, hw8⟩ : ∃ w8, w8 = w7.alloc (.cells #[.int .i64 k3, .int .i64 m3, .slice A3 ks3.length cap3] 27) := ⟨_, rfl⟩
  have e8 : Ext w7 w8 := hw8 ▸ (Ext.refl w7).alloc _
  have b8 := heap_alloc_new w7 (.cells #[.int .i64 k3, .int .i64 m3, .slice A3 ks3.length cap3] 27)
  rw [← hw8] at b8
  have s8 : w7.heap.size < w8.heap.size := lt_of_blk b8
  have ba1_7 := e7.blk ba1_6
  obtain ⟨za10, za11, za12, -, -, -⟩ := own3 ba1_7
  have lza1 := lt_of_blk ba1_7
  have ba2_7 := e7.blk ba2_6
  obtain ⟨za20, za21, za22, -, -, -⟩ := own3 ba2_7
  have lza2 := lt_of_blk ba2_7
  go_wp2_with fail
  rw [← hw8]
  clear hw8
  clear za10 za11 za12 lza1 za20 za21 za22 lza2
  refine (nu1 F3.out w8).mono ?_
  rintro e w9 ⟨u, rfl, hL4, e9⟩
  have s9 : w8.heap.size ≤ w9.heap.size := e9.size
  obtain ⟨A4, cap4, rfl, hl4, hc4, hK4⟩ := Lies.mk_iff.1 hL4
  obtain ⟨w10, hw10⟩ : ∃ w10, w10 = w9.alloc (.cells #[.int .i64 k4, .int .i64 m4, .slice A4 ks4.length cap4] 27) := ⟨_, rfl⟩
  have e10 : Ext w9 w10 := hw10 ▸ (Ext.refl w9).alloc _
  have b10 := heap_alloc_new w9 (.cells #[.int .i64 k4, .int .i64 m4, .slice A4 ks4.length cap4] 27)
  rw [← hw10] at b10
  have s10 : w9.heap.size < w10.heap.size := lt_of_blk b10
  cases qa with
  | false =>
    have hzf := F5.out (by simp)
    subst hzf
    have ba1_8 := e8.blk ba1_7
    have ba1_9 := e9.blk ba1_8
    obtain ⟨za10, za11, za12, -, -, -⟩ := own3 ba1_9
    have lza1 := lt_of_blk ba1_9
    have ba2_8 := e8.blk ba2_7
    have ba2_9 := e9.blk ba2_8
    obtain ⟨za20, za21, za22, -, -, -⟩ := own3 ba2_9
    have lza2 := lt_of_blk ba2_9
    have ba3_9 := e9.blk b8
    obtain ⟨za30, za31, za32, -, -, -⟩ := own3 ba3_9
    have lza3 := lt_of_blk ba3_9
    go_wp2_with fail
    rw [← hw10]
    clear hw10
    clear za10 za11 za12 lza1 za20 za21 za22 lza2 za30 za31 za32 lza3
    have X0_1 : Ext w0 w1 := (Ext.refl w0).trans e1
    have X0_2 : Ext w0 w2 := X0_1.trans e2
    have X0_3 : Ext w0 w3 := X0_2.trans e3
    have X0_4 : Ext w0 w4 := X0_3.trans e4
    have X0_5 : Ext w0 w5 := X0_4.trans e5
    have X0_6 : Ext w0 w6 := X0_5.trans e6
    have X0_7 : Ext w0 w7 := X0_6.trans e7
    have X0_8 : Ext w0 w8 := X0_7.trans e8
    have X0_9 : Ext w0 w9 := X0_8.trans e9
    have X0_10 : Ext w0 w10 := X0_9.trans e10
    go_ret
    exact ⟨rfl, X0_10⟩
  | true =>
    cases qb with
    | false =>
      have hzf := F5.out (by simp)
      subst hzf
      have ba1_8 := e8.blk ba1_7
      have ba1_9 := e9.blk ba1_8
      obtain ⟨za10, za11, za12, -, -, -⟩ := own3 ba1_9
      have lza1 := lt_of_blk ba1_9
      have ba2_8 := e8.blk ba2_7
      have ba2_9 := e9.blk ba2_8
      obtain ⟨za20, za21, za22, -, -, -⟩ := own3 ba2_9
      have lza2 := lt_of_blk ba2_9
      have ba3_9 := e9.blk b8
      obtain ⟨za30, za31, za32, -, -, -⟩ := own3 ba3_9
      have lza3 := lt_of_blk ba3_9
      go_wp2_with fail
      rw [← hw10]
      clear hw10
      clear za10 za11 za12 lza1 za20 za21 za22 lza2 za30 za31 za32 lza3
      have X0_1 : Ext w0 w1 := (Ext.refl w0).trans e1
      have X0_2 : Ext w0 w2 := X0_1.trans e2
      have X0_3 : Ext w0 w3 := X0_2.trans e3
      have X0_4 : Ext w0 w4 := X0_3.trans e4
      have X0_5 : Ext w0 w5 := X0_4.trans e5
      have X0_6 : Ext w0 w6 := X0_5.trans e6
      have X0_7 : Ext w0 w7 := X0_6.trans e7
      have X0_8 : Ext w0 w8 := X0_7.trans e8
      have X0_9 : Ext w0 w9 := X0_8.trans e9
      have X0_10 : Ext w0 w10 := X0_9.trans e10
      go_ret
      exact ⟨rfl, X0_10⟩
    | true =>
      have hab : (a == b) = z := by rw [f4]; rfl
      obtain ⟨⟨u1, c1⟩, u2, c2⟩ := F6.out rfl
      have C1 := Lib.hid c1
      have C2 := Lib.hid c2
      clear c1 c2 f4
      obtain ⟨w11, hw11⟩ : ∃ w11, w11 = w10.alloc (.cells #[.int .i64 6, .int .i64 0, .slice none 0 0, .int .i64 k3, .int .i64 m3, .slice A3 ks3.length cap3, .int .i64 k4, .int .i64 m4, .slice A4 ks4.length cap4] 27) := ⟨_, rfl⟩
      have e11 : Ext w10 w11 := hw11 ▸ (Ext.refl w10).alloc _
      have b11 := heap_alloc_new w10 (.cells #[.int .i64 6, .int .i64 0, .slice none 0 0, .int .i64 k3, .int .i64 m3, .slice A3 ks3.length cap3, .int .i64 k4, .int .i64 m4, .slice A4 ks4.length cap4] 27)
      rw [← hw11] at b11
      have s11 : w10.heap.size < w11.heap.size := lt_of_blk b11
      have q11 : w10.heap.size = w9.heap.size + 1 := by rw [hw10]; simp
      rw [q11] at b11
      obtain ⟨w12, hw12⟩ : ∃ w12, w12 = w11.alloc (.cells #[.int .i64 10, .int .i64 0, .slice (some ⟨w9.heap.size + 1, 0, none⟩) 3 3] 27) := ⟨_, rfl⟩
      have e12 : Ext w11 w12 := hw12 ▸ (Ext.refl w11).alloc _
      have b12 := heap_alloc_new w11 (.cells #[.int .i64 10, .int .i64 0, .slice (some ⟨w9.heap.size + 1, 0, none⟩) 3 3] 27)
      rw [← hw12] at b12
      have s12 : w11.heap.size < w12.heap.size := lt_of_blk b12
      have q12 : w11.heap.size = w9.heap.size + 1 + 1 := by rw [hw11]; simp [q11]
      rw [q12] at b12
      cases z with
      | false =>
        obtain ⟨w13, hw13⟩ : ∃ w13, w13 = w12.alloc (.cells #[] 27) := ⟨_, rfl⟩
        have e13 : Ext w12 w13 := hw13 ▸ (Ext.refl w12).alloc _
        have b13 := heap_alloc_new w12 (.cells #[] 27)
        rw [← hw13] at b13
        have s13 : w12.heap.size < w13.heap.size := lt_of_blk b13
        have q13 : w12.heap.size = w9.heap.size + 1 + 1 + 1 := by rw [hw12]; simp [q12]
        rw [q13] at b13
        obtain ⟨w14, hw14⟩ : ∃ w14, w14 = w13.alloc (.cells #[.int .i64 k3, .int .i64 m3, .slice A3 ks3.length cap3] 27) := ⟨_, rfl⟩
        have e14 : Ext w13 w14 := hw14 ▸ (Ext.refl w13).alloc _
        have b14 := heap_alloc_new w13 (.cells #[.int .i64 k3, .int .i64 m3, .slice A3 ks3.length cap3] 27)
        rw [← hw14] at b14
        have s14 : w13.heap.size < w14.heap.size := lt_of_blk b14
        have q14 : w13.heap.size = w9.heap.size + 1 + 1 + 1 + 1 := by rw [hw13]; simp [q13]
        rw [q14] at b14
        have ba1_8 := e8.blk ba1_7
        have ba1_9 := e9.blk ba1_8
        have lza1 := lt_of_blk ba1_9
        have ba2_8 := e8.blk ba2_7
        have ba2_9 := e9.blk ba2_8
        have lza2 := lt_of_blk ba2_9
        have ba3_9 := e9.blk b8
        have lza3 := lt_of_blk ba3_9
        have zda30 : ∀ o0 o1 o2 o3 : Obj, ((((w9.alloc o0).alloc o1).alloc o2).alloc o3).cell? ⟨w7.heap.size, 0, none⟩ = some (.int .i64 k3) := fun o0 o1 o2 o3 => (((((Ext.refl w9).alloc o0).alloc o1).alloc o2).alloc o3).cell (cell_of_blk ba3_9 0)
        have zda31 : ∀ o0 o1 o2 o3 : Obj, ((((w9.alloc o0).alloc o1).alloc o2).alloc o3).cell? ⟨w7.heap.size, 1, none⟩ = some (.int .i64 m3) := fun o0 o1 o2 o3 => (((((Ext.refl w9).alloc o0).alloc o1).alloc o2).alloc o3).cell (cell_of_blk ba3_9 1)
        have zda32 : ∀ o0 o1 o2 o3 : Obj, ((((w9.alloc o0).alloc o1).alloc o2).alloc o3).cell? ⟨w7.heap.size, 2, none⟩ = some (.slice A3 ks3.length cap3) := fun o0 o1 o2 o3 => (((((Ext.refl w9).alloc o0).alloc o1).alloc o2).alloc o3).cell (cell_of_blk ba3_9 2)
        have zda50 : ∀ (o0 : Obj) (o1 : Obj) (o3 : Obj) (o4 : Obj), (((((w9.alloc o0).alloc o1).alloc (.cells #[.int .i64 10, .int .i64 0, .slice (some ⟨w9.heap.size + 1, 0, none⟩) 3 3] 27)).alloc o3).alloc o4).cell? ⟨w9.heap.size + 1 + 1, 0, none⟩ = some (.int .i64 10) := fun o0 o1 o3 o4 => by have h := (((Ext.refl (((w9.alloc o0).alloc o1).alloc (.cells #[.int .i64 10, .int .i64 0, .slice (some ⟨w9.heap.size + 1, 0, none⟩) 3 3] 27))).alloc o3).alloc o4).cell (cell_of_blk (heap_alloc_new ((w9.alloc o0).alloc o1) (.cells #[.int .i64 10, .int .i64 0, .slice (some ⟨w9.heap.size + 1, 0, none⟩) 3 3] 27)) 0); simpa using h
        have zda51 : ∀ (o0 : Obj) (o1 : Obj) (o3 : Obj) (o4 : Obj), (((((w9.alloc o0).alloc o1).alloc (.cells #[.int .i64 10, .int .i64 0, .slice (some ⟨w9.heap.size + 1, 0, none⟩) 3 3] 27)).alloc o3).alloc o4).cell? ⟨w9.heap.size + 1 + 1, 1, none⟩ = some (.int .i64 0) := fun o0 o1 o3 o4 => by have h := (((Ext.refl (((w9.alloc o0).alloc o1).alloc (.cells #[.int .i64 10, .int .i64 0, .slice (some ⟨w9.heap.size + 1, 0, none⟩) 3 3] 27))).alloc o3).alloc o4).cell (cell_of_blk (heap_alloc_new ((w9.alloc o0).alloc o1) (.cells #[.int .i64 10, .int .i64 0, .slice (some ⟨w9.heap.size + 1, 0, none⟩) 3 3] 27)) 1); simpa using h
        have zda52 : ∀ (o0 : Obj) (o1 : Obj) (o3 : Obj) (o4 : Obj), (((((w9.alloc o0).alloc o1).alloc (.cells #[.int .i64 10, .int .i64 0, .slice (some ⟨w9.heap.size + 1, 0, none⟩) 3 3] 27)).alloc o3).alloc o4).cell? ⟨w9.heap.size + 1 + 1, 2, none⟩ = some (.slice (some ⟨w9.heap.size + 1, 0, none⟩) 3 3) := fun o0 o1 o3 o4 => by have h := (((Ext.refl (((w9.alloc o0).alloc o1).alloc (.cells #[.int .i64 10, .int .i64 0, .slice (some ⟨w9.heap.size + 1, 0, none⟩) 3 3] 27))).alloc o3).alloc o4).cell (cell_of_blk (heap_alloc_new ((w9.alloc o0).alloc o1) (.cells #[.int .i64 10, .int .i64 0, .slice (some ⟨w9.heap.size + 1, 0, none⟩) 3 3] 27)) 2); simpa using h
        obtain ⟨za10, za11, za12, -, -, -⟩ := own3 ba1_9
        have lza1 := lt_of_blk ba1_9
        obtain ⟨za20, za21, za22, -, -, -⟩ := own3 ba2_9
        have lza2 := lt_of_blk ba2_9
        obtain ⟨za30, za31, za32, -, -, -⟩ := own3 ba3_9
        have lza3 := lt_of_blk ba3_9
        go_wp2_with fail
        rw [← hw10]
        rw [← hw11]
        rw [← hw12]
        rw [← hw13]
        rw [← hw14]
        clear hw10 hw11 hw12 hw13 hw14
        clear za10 za11 za12 lza1 za20 za21 za22 lza2 za30 za31 za32 lza3
        clear lza1 lza2 lza3 zda30 zda31 zda32 zda50 zda51 zda52
        have X7_8 : Ext w7 w8 := (Ext.refl w7).trans e8
        have X7_9 : Ext w7 w9 := X7_8.trans e9
        have X7_10 : Ext w7 w10 := X7_9.trans e10
        have X7_11 : Ext w7 w11 := X7_10.trans e11
        have X7_12 : Ext w7 w12 := X7_11.trans e12
        have X7_13 : Ext w7 w13 := X7_12.trans e13
        have X7_14 : Ext w7 w14 := X7_13.trans e14
        have brow_12 := e12.blk b11
        have brow_13 := e13.blk brow_12
        have brow_14 := e14.blk brow_13
        have X9_10 : Ext w9 w10 := (Ext.refl w9).trans e10
        have X9_11 : Ext w9 w11 := X9_10.trans e11
        have X9_12 : Ext w9 w12 := X9_11.trans e12
        have X9_13 : Ext w9 w13 := X9_12.trans e13
        have X9_14 : Ext w9 w14 := X9_13.trans e14
        refine (ck1 C2.out w14 _ _ (Lies.mk (k := 11) (n := 0) (ks := [.mk k3 m3 ks3]) (Nat.le_refl _) (show (1 : Nat) ≤ maxLen by decide) (lies_row1 b14 (hL3.ext X7_14))) (Lies.mk (k := 10) (n := 0) (ks := [.mk 6 0 [], .mk k3 m3 ks3, .mk k4 m4 ks4]) (Nat.le_refl _) (show (3 : Nat) ≤ maxLen by decide) (lies_row3 brow_14 (Lies.leaf _ _ _) (hL3.ext X7_14) (hL4.ext X9_14))) _).mono ?_
        rintro e w15 ⟨rfl, e15⟩
        have s15 : w14.heap.size ≤ w15.heap.size := e15.size
        have ba1_10 := e10.blk ba1_9
        have ba1_11 := e11.blk ba1_10
        have ba1_12 := e12.blk ba1_11
        have ba1_13 := e13.blk ba1_12
        have ba1_14 := e14.blk ba1_13
        have ba1_15 := e15.blk ba1_14
        obtain ⟨za10, za11, za12, -, -, -⟩ := own3 ba1_15
        have lza1 := lt_of_blk ba1_15
        have ba2_10 := e10.blk ba2_9
        have ba2_11 := e11.blk ba2_10
        have ba2_12 := e12.blk ba2_11
        have ba2_13 := e13.blk ba2_12
        have ba2_14 := e14.blk ba2_13
        have ba2_15 := e15.blk ba2_14
        obtain ⟨za20, za21, za22, -, -, -⟩ := own3 ba2_15
        have lza2 := lt_of_blk ba2_15
        have ba3_10 := e10.blk ba3_9
        have ba3_11 := e11.blk ba3_10
        have ba3_12 := e12.blk ba3_11
        have ba3_13 := e13.blk ba3_12
        have ba3_14 := e14.blk ba3_13
        have ba3_15 := e15.blk ba3_14
        obtain ⟨za30, za31, za32, -, -, -⟩ := own3 ba3_15
        have lza3 := lt_of_blk ba3_15
        have ba4_11 := e11.blk b10
        have ba4_12 := e12.blk ba4_11
        have ba4_13 := e13.blk ba4_12
        have ba4_14 := e14.blk ba4_13
        have ba4_15 := e15.blk ba4_14
        obtain ⟨za40, za41, za42, -, -, -⟩ := own3 ba4_15
        have lza4 := lt_of_blk ba4_15
        have ba5_13 := e13.blk b12
        have ba5_14 := e14.blk ba5_13
        have ba5_15 := e15.blk ba5_14
        obtain ⟨za50, za51, za52, -, -, -⟩ := own3 ba5_15
        have lza5 := lt_of_blk ba5_15
        go_wp2_with fail
        clear za10 za11 za12 lza1 za20 za21 za22 lza2 za30 za31 za32 lza3 za40 za41 za42 lza4 za50 za51 za52 lza5
        refine (dk1 false w15).mono ?_
        rintro e w16 ⟨rfl, e16⟩
        have s16 : w15.heap.size ≤ w16.heap.size := e16.size
        have ba1_16 := e16.blk ba1_15
        obtain ⟨za10, za11, za12, -, -, -⟩ := own3 ba1_16
        have lza1 := lt_of_blk ba1_16
        have ba2_16 := e16.blk ba2_15
        obtain ⟨za20, za21, za22, -, -, -⟩ := own3 ba2_16
        have lza2 := lt_of_blk ba2_16
        have ba3_16 := e16.blk ba3_15
        obtain ⟨za30, za31, za32, -, -, -⟩ := own3 ba3_16
        have lza3 := lt_of_blk ba3_16
        have ba4_16 := e16.blk ba4_15
        obtain ⟨za40, za41, za42, -, -, -⟩ := own3 ba4_16
        have lza4 := lt_of_blk ba4_16
        have ba5_16 := e16.blk ba5_15
        obtain ⟨za50, za51, za52, -, -, -⟩ := own3 ba5_16
        have lza5 := lt_of_blk ba5_16
        go_wp2_with fail
        clear za10 za11 za12 lza1 za20 za21 za22 lza2 za30 za31 za32 lza3 za40 za41 za42 lza4 za50 za51 za52 lza5
        have X0_1 : Ext w0 w1 := (Ext.refl w0).trans e1
        have X0_2 : Ext w0 w2 := X0_1.trans e2
        have X0_3 : Ext w0 w3 := X0_2.trans e3
        have X0_4 : Ext w0 w4 := X0_3.trans e4
        have X0_5 : Ext w0 w5 := X0_4.trans e5
        have X0_6 : Ext w0 w6 := X0_5.trans e6
        have X0_7 : Ext w0 w7 := X0_6.trans e7
        have X0_8 : Ext w0 w8 := X0_7.trans e8
        have X0_9 : Ext w0 w9 := X0_8.trans e9
        have X0_10 : Ext w0 w10 := X0_9.trans e10
        have X0_11 : Ext w0 w11 := X0_10.trans e11
        have X0_12 : Ext w0 w12 := X0_11.trans e12
        have X0_13 : Ext w0 w13 := X0_12.trans e13
        have X0_14 : Ext w0 w14 := X0_13.trans e14
        have X0_15 : Ext w0 w15 := X0_14.trans e15
        have X0_16 : Ext w0 w16 := X0_15.trans e16
        go_ret
        exact ⟨rfl, X0_16⟩
      | true =>
        obtain ⟨w13, hw13⟩ : ∃ w13, w13 = w12.alloc (.cells #[] 27) := ⟨_, rfl⟩
        have e13 : Ext w12 w13 := hw13 ▸ (Ext.refl w12).alloc _
        have b13 := heap_alloc_new w12 (.cells #[] 27)
        rw [← hw13] at b13
        have s13 : w12.heap.size < w13.heap.size := lt_of_blk b13
        have q13 : w12.heap.size = w9.heap.size + 1 + 1 + 1 := by rw [hw12]; simp [q12]
        rw [q13] at b13
        have ba1_8 := e8.blk ba1_7
        have ba1_9 := e9.blk ba1_8
        have lza1 := lt_of_blk ba1_9
        have ba2_8 := e8.blk ba2_7
        have ba2_9 := e9.blk ba2_8
        have lza2 := lt_of_blk ba2_9
        have ba3_9 := e9.blk b8
        have lza3 := lt_of_blk ba3_9
        have zda10 : ∀ o0 o1 o2 o3 : Obj, ((((w9.alloc o0).alloc o1).alloc o2).alloc o3).cell? ⟨w2.heap.size, 0, none⟩ = some (.int .i64 k1) := fun o0 o1 o2 o3 => (((((Ext.refl w9).alloc o0).alloc o1).alloc o2).alloc o3).cell (cell_of_blk ba1_9 0)
        have zda11 : ∀ o0 o1 o2 o3 : Obj, ((((w9.alloc o0).alloc o1).alloc o2).alloc o3).cell? ⟨w2.heap.size, 1, none⟩ = some (.int .i64 m1) := fun o0 o1 o2 o3 => (((((Ext.refl w9).alloc o0).alloc o1).alloc o2).alloc o3).cell (cell_of_blk ba1_9 1)
        have zda12 : ∀ o0 o1 o2 o3 : Obj, ((((w9.alloc o0).alloc o1).alloc o2).alloc o3).cell? ⟨w2.heap.size, 2, none⟩ = some (.slice A1 ks1.length cap1) := fun o0 o1 o2 o3 => (((((Ext.refl w9).alloc o0).alloc o1).alloc o2).alloc o3).cell (cell_of_blk ba1_9 2)
        have zda50 : ∀ (o0 : Obj) (o1 : Obj) (o3 : Obj), ((((w9.alloc o0).alloc o1).alloc (.cells #[.int .i64 10, .int .i64 0, .slice (some ⟨w9.heap.size + 1, 0, none⟩) 3 3] 27)).alloc o3).cell? ⟨w9.heap.size + 1 + 1, 0, none⟩ = some (.int .i64 10) := fun o0 o1 o3 => by have h := ((Ext.refl (((w9.alloc o0).alloc o1).alloc (.cells #[.int .i64 10, .int .i64 0, .slice (some ⟨w9.heap.size + 1, 0, none⟩) 3 3] 27))).alloc o3).cell (cell_of_blk (heap_alloc_new ((w9.alloc o0).alloc o1) (.cells #[.int .i64 10, .int .i64 0, .slice (some ⟨w9.heap.size + 1, 0, none⟩) 3 3] 27)) 0); simpa using h
        have zda51 : ∀ (o0 : Obj) (o1 : Obj) (o3 : Obj), ((((w9.alloc o0).alloc o1).alloc (.cells #[.int .i64 10, .int .i64 0, .slice (some ⟨w9.heap.size + 1, 0, none⟩) 3 3] 27)).alloc o3).cell? ⟨w9.heap.size + 1 + 1, 1, none⟩ = some (.int .i64 0) := fun o0 o1 o3 => by have h := ((Ext.refl (((w9.alloc o0).alloc o1).alloc (.cells #[.int .i64 10, .int .i64 0, .slice (some ⟨w9.heap.size + 1, 0, none⟩) 3 3] 27))).alloc o3).cell (cell_of_blk (heap_alloc_new ((w9.alloc o0).alloc o1) (.cells #[.int .i64 10, .int .i64 0, .slice (some ⟨w9.heap.size + 1, 0, none⟩) 3 3] 27)) 1); simpa using h
        have zda52 : ∀ (o0 : Obj) (o1 : Obj) (o3 : Obj), ((((w9.alloc o0).alloc o1).alloc (.cells #[.int .i64 10, .int .i64 0, .slice (some ⟨w9.heap.size + 1, 0, none⟩) 3 3] 27)).alloc o3).cell? ⟨w9.heap.size + 1 + 1, 2, none⟩ = some (.slice (some ⟨w9.heap.size + 1, 0, none⟩) 3 3) := fun o0 o1 o3 => by have h := ((Ext.refl (((w9.alloc o0).alloc o1).alloc (.cells #[.int .i64 10, .int .i64 0, .slice (some ⟨w9.heap.size + 1, 0, none⟩) 3 3] 27))).alloc o3).cell (cell_of_blk (heap_alloc_new ((w9.alloc o0).alloc o1) (.cells #[.int .i64 10, .int .i64 0, .slice (some ⟨w9.heap.size + 1, 0, none⟩) 3 3] 27)) 2); simpa using h
        obtain ⟨za10, za11, za12, -, -, -⟩ := own3 ba1_9
        have lza1 := lt_of_blk ba1_9
        obtain ⟨za20, za21, za22, -, -, -⟩ := own3 ba2_9
        have lza2 := lt_of_blk ba2_9
        obtain ⟨za30, za31, za32, -, -, -⟩ := own3 ba3_9
        have lza3 := lt_of_blk ba3_9
        go_wp2_with fail
        rw [← hw10]
        rw [← hw11]
        rw [← hw12]
        rw [← hw13]
        clear hw10 hw11 hw12 hw13
        clear za10 za11 za12 lza1 za20 za21 za22 lza2 za30 za31 za32 lza3
        clear lza1 lza2 lza3 zda10 zda11 zda12 zda50 zda51 zda52
        have X2_6 : Ext w2 w6 := X2_5.trans e6
        have X2_7 : Ext w2 w7 := X2_6.trans e7
        have X2_8 : Ext w2 w8 := X2_7.trans e8
        have X2_9 : Ext w2 w9 := X2_8.trans e9
        have X2_10 : Ext w2 w10 := X2_9.trans e10
        have X2_11 : Ext w2 w11 := X2_10.trans e11
        have X2_12 : Ext w2 w12 := X2_11.trans e12
        have X2_13 : Ext w2 w13 := X2_12.trans e13
        have brow_12 := e12.blk b11
        have brow_13 := e13.blk brow_12
        have X7_8 : Ext w7 w8 := (Ext.refl w7).trans e8
        have X7_9 : Ext w7 w9 := X7_8.trans e9
        have X7_10 : Ext w7 w10 := X7_9.trans e10
        have X7_11 : Ext w7 w11 := X7_10.trans e11
        have X7_12 : Ext w7 w12 := X7_11.trans e12
        have X7_13 : Ext w7 w13 := X7_12.trans e13
        have X9_10 : Ext w9 w10 := (Ext.refl w9).trans e10
        have X9_11 : Ext w9 w11 := X9_10.trans e11
        have X9_12 : Ext w9 w12 := X9_11.trans e12
        have X9_13 : Ext w9 w13 := X9_12.trans e13
        refine (ck1 (C1.out (by simp)) w13 _ _ (hL1.ext X2_13) (Lies.mk (k := 10) (n := 0) (ks := [.mk 6 0 [], .mk k3 m3 ks3, .mk k4 m4 ks4]) (Nat.le_refl _) (show (3 : Nat) ≤ maxLen by decide) (lies_row3 brow_13 (Lies.leaf _ _ _) (hL3.ext X7_13) (hL4.ext X9_13))) _).mono ?_
        rintro e w14 ⟨rfl, e14⟩
        have s14 : w13.heap.size ≤ w14.heap.size := e14.size
        obtain ⟨w15, hw15⟩ : ∃ w15, w15 = w14.alloc (.cells #[] 27) := ⟨_, rfl⟩
        have e15 : Ext w14 w15 := hw15 ▸ (Ext.refl w14).alloc _
        have b15 := heap_alloc_new w14 (.cells #[] 27)
        rw [← hw15] at b15
        have s15 : w14.heap.size < w15.heap.size := lt_of_blk b15
        obtain ⟨w16, hw16⟩ : ∃ w16, w16 = w15.alloc (.cells #[.int .i64 k3, .int .i64 m3, .slice A3 ks3.length cap3] 27) := ⟨_, rfl⟩
        have e16 : Ext w15 w16 := hw16 ▸ (Ext.refl w15).alloc _
        have b16 := heap_alloc_new w15 (.cells #[.int .i64 k3, .int .i64 m3, .slice A3 ks3.length cap3] 27)
        rw [← hw16] at b16
        have s16 : w15.heap.size < w16.heap.size := lt_of_blk b16
        have q16 : w15.heap.size = w14.heap.size + 1 := by rw [hw15]; simp
        rw [q16] at b16
        have ba1_10 := e10.blk ba1_9
        have ba1_11 := e11.blk ba1_10
        have ba1_12 := e12.blk ba1_11
        have ba1_13 := e13.blk ba1_12
        have ba1_14 := e14.blk ba1_13
        have lza1 := lt_of_blk ba1_14
        have ba2_10 := e10.blk ba2_9
        have ba2_11 := e11.blk ba2_10
        have ba2_12 := e12.blk ba2_11
        have ba2_13 := e13.blk ba2_12
        have ba2_14 := e14.blk ba2_13
        have lza2 := lt_of_blk ba2_14
        have ba3_10 := e10.blk ba3_9
        have ba3_11 := e11.blk ba3_10
        have ba3_12 := e12.blk ba3_11
        have ba3_13 := e13.blk ba3_12
        have ba3_14 := e14.blk ba3_13
        have lza3 := lt_of_blk ba3_14
        have ba4_11 := e11.blk b10
        have ba4_12 := e12.blk ba4_11
        have ba4_13 := e13.blk ba4_12
        have ba4_14 := e14.blk ba4_13
        have lza4 := lt_of_blk ba4_14
        have ba5_13 := e13.blk b12
        have ba5_14 := e14.blk ba5_13
        have lza5 := lt_of_blk ba5_14
        have zda30 : ∀ o0 : Obj, (w14.alloc o0).cell? ⟨w7.heap.size, 0, none⟩ = some (.int .i64 k3) := fun o0 => ((Ext.refl w14).alloc o0).cell (cell_of_blk ba3_14 0)
        have zda31 : ∀ o0 : Obj, (w14.alloc o0).cell? ⟨w7.heap.size, 1, none⟩ = some (.int .i64 m3) := fun o0 => ((Ext.refl w14).alloc o0).cell (cell_of_blk ba3_14 1)
        have zda32 : ∀ o0 : Obj, (w14.alloc o0).cell? ⟨w7.heap.size, 2, none⟩ = some (.slice A3 ks3.length cap3) := fun o0 => ((Ext.refl w14).alloc o0).cell (cell_of_blk ba3_14 2)
        have zda50 : ∀ o0 o1 : Obj, ((w14.alloc o0).alloc o1).cell? ⟨w9.heap.size + 1 + 1, 0, none⟩ = some (.int .i64 10) := fun o0 o1 => (((Ext.refl w14).alloc o0).alloc o1).cell (cell_of_blk ba5_14 0)
        have zda51 : ∀ o0 o1 : Obj, ((w14.alloc o0).alloc o1).cell? ⟨w9.heap.size + 1 + 1, 1, none⟩ = some (.int .i64 0) := fun o0 o1 => (((Ext.refl w14).alloc o0).alloc o1).cell (cell_of_blk ba5_14 1)
        have zda52 : ∀ o0 o1 : Obj, ((w14.alloc o0).alloc o1).cell? ⟨w9.heap.size + 1 + 1, 2, none⟩ = some (.slice (some ⟨w9.heap.size + 1, 0, none⟩) 3 3) := fun o0 o1 => (((Ext.refl w14).alloc o0).alloc o1).cell (cell_of_blk ba5_14 2)
        obtain ⟨za10, za11, za12, -, -, -⟩ := own3 ba1_14
        have lza1 := lt_of_blk ba1_14
        obtain ⟨za20, za21, za22, -, -, -⟩ := own3 ba2_14
        have lza2 := lt_of_blk ba2_14
        obtain ⟨za30, za31, za32, -, -, -⟩ := own3 ba3_14
        have lza3 := lt_of_blk ba3_14
        obtain ⟨za40, za41, za42, -, -, -⟩ := own3 ba4_14
        have lza4 := lt_of_blk ba4_14
        obtain ⟨za50, za51, za52, -, -, -⟩ := own3 ba5_14
        have lza5 := lt_of_blk ba5_14
        go_wp2_with fail
        rw [← hw15]
        rw [← hw16]
        clear hw15 hw16
        clear za10 za11 za12 lza1 za20 za21 za22 lza2 za30 za31 za32 lza3 za40 za41 za42 lza4 za50 za51 za52 lza5
        clear lza1 lza2 lza3 lza4 lza5 zda30 zda31 zda32 zda50 zda51 zda52
        have X7_14 : Ext w7 w14 := X7_13.trans e14
        have X7_15 : Ext w7 w15 := X7_14.trans e15
        have X7_16 : Ext w7 w16 := X7_15.trans e16
        have brow_14 := e14.blk brow_13
        have brow_15 := e15.blk brow_14
        have brow_16 := e16.blk brow_15
        have X9_14 : Ext w9 w14 := X9_13.trans e14
        have X9_15 : Ext w9 w15 := X9_14.trans e15
        have X9_16 : Ext w9 w16 := X9_15.trans e16
        refine (ck1 C2.out w16 _ _ (Lies.mk (k := 11) (n := 0) (ks := [.mk k3 m3 ks3]) (Nat.le_refl _) (show (1 : Nat) ≤ maxLen by decide) (lies_row1 b16 (hL3.ext X7_16))) (Lies.mk (k := 10) (n := 0) (ks := [.mk 6 0 [], .mk k3 m3 ks3, .mk k4 m4 ks4]) (Nat.le_refl _) (show (3 : Nat) ≤ maxLen by decide) (lies_row3 brow_16 (Lies.leaf _ _ _) (hL3.ext X7_16) (hL4.ext X9_16))) _).mono ?_
        rintro e w17 ⟨rfl, e17⟩
        have s17 : w16.heap.size ≤ w17.heap.size := e17.size
        have ba1_15 := e15.blk ba1_14
        have ba1_16 := e16.blk ba1_15
        have ba1_17 := e17.blk ba1_16
        obtain ⟨za10, za11, za12, -, -, -⟩ := own3 ba1_17
        have lza1 := lt_of_blk ba1_17
        have ba2_15 := e15.blk ba2_14
        have ba2_16 := e16.blk ba2_15
        have ba2_17 := e17.blk ba2_16
        obtain ⟨za20, za21, za22, -, -, -⟩ := own3 ba2_17
        have lza2 := lt_of_blk ba2_17
        have ba3_15 := e15.blk ba3_14
        have ba3_16 := e16.blk ba3_15
        have ba3_17 := e17.blk ba3_16
        obtain ⟨za30, za31, za32, -, -, -⟩ := own3 ba3_17
        have lza3 := lt_of_blk ba3_17
        have ba4_15 := e15.blk ba4_14
        have ba4_16 := e16.blk ba4_15
        have ba4_17 := e17.blk ba4_16
        obtain ⟨za40, za41, za42, -, -, -⟩ := own3 ba4_17
        have lza4 := lt_of_blk ba4_17
        have ba5_15 := e15.blk ba5_14
        have ba5_16 := e16.blk ba5_15
        have ba5_17 := e17.blk ba5_16
        obtain ⟨za50, za51, za52, -, -, -⟩ := own3 ba5_17
        have lza5 := lt_of_blk ba5_17
        go_wp2_with fail
        clear za10 za11 za12 lza1 za20 za21 za22 lza2 za30 za31 za32 lza3 za40 za41 za42 lza4 za50 za51 za52 lza5
        refine (dk1 true w17).mono ?_
        rintro e w18 ⟨rfl, e18⟩
        have s18 : w17.heap.size ≤ w18.heap.size := e18.size
        have ba1_18 := e18.blk ba1_17
        obtain ⟨za10, za11, za12, -, -, -⟩ := own3 ba1_18
        have lza1 := lt_of_blk ba1_18
        have ba2_18 := e18.blk ba2_17
        obtain ⟨za20, za21, za22, -, -, -⟩ := own3 ba2_18
        have lza2 := lt_of_blk ba2_18
        have ba3_18 := e18.blk ba3_17
        obtain ⟨za30, za31, za32, -, -, -⟩ := own3 ba3_18
        have lza3 := lt_of_blk ba3_18
        have ba4_18 := e18.blk ba4_17
        obtain ⟨za40, za41, za42, -, -, -⟩ := own3 ba4_18
        have lza4 := lt_of_blk ba4_18
        have ba5_18 := e18.blk ba5_17
        obtain ⟨za50, za51, za52, -, -, -⟩ := own3 ba5_18
        have lza5 := lt_of_blk ba5_18
        go_wp2_with fail
        clear za10 za11 za12 lza1 za20 za21 za22 lza2 za30 za31 za32 lza3 za40 za41 za42 lza4 za50 za51 za52 lza5
        have X0_1 : Ext w0 w1 := (Ext.refl w0).trans e1
        have X0_2 : Ext w0 w2 := X0_1.trans e2
        have X0_3 : Ext w0 w3 := X0_2.trans e3
        have X0_4 : Ext w0 w4 := X0_3.trans e4
        have X0_5 : Ext w0 w5 := X0_4.trans e5
        have X0_6 : Ext w0 w6 := X0_5.trans e6
        have X0_7 : Ext w0 w7 := X0_6.trans e7
        have X0_8 : Ext w0 w8 := X0_7.trans e8
        have X0_9 : Ext w0 w9 := X0_8.trans e9
        have X0_10 : Ext w0 w10 := X0_9.trans e10
        have X0_11 : Ext w0 w11 := X0_10.trans e11
        have X0_12 : Ext w0 w12 := X0_11.trans e12
        have X0_13 : Ext w0 w13 := X0_12.trans e13
        have X0_14 : Ext w0 w14 := X0_13.trans e14
        have X0_15 : Ext w0 w15 := X0_14.trans e15
        have X0_16 : Ext w0 w16 := X0_15.trans e16
        have X0_17 : Ext w0 w17 := X0_16.trans e17
        have X0_18 : Ext w0 w18 := X0_17.trans e18
        go_ret
        exact ⟨rfl, X0_18⟩

set_option maxRecDepth 100000 in
theorem lifted (os : Os) (started : os.Started) (H : Type) (enc : TypeId × Value → H) :
    ReturnsInHanded {} Try.checked os 3 .any (Rows.fnEqualNumbersSpec.pre6 enc Try.prog Try.f3 Rows.fnEqualNumbersRow.domain false) (Rows.fnEqualNumbersSpec.post enc Try.prog Try.f3 false true false false) := by
  refine law_lift (C := Try.checked) (fn := Try.f3) (tb := 4) own started (by kernel_rfl) Try.func3 (by kernel_rfl) (by kernel_rfl) rfl Try.underlying4 rfl
    (fun ds h => by
      match ds, h with
      | [d1], _ => exact ⟨rfl, rfl, rfl⟩)
    (ChangeSpec.witness6 (enc := enc) (C := Try.checked) false ⟨#[], #[.slice none 0 0], []⟩ 8 (by kernel_rfl) (by kernel_rfl) (by kernel_rfl) (by kernel_rfl)) ?_
  intro W base args ds p hval hA hlt
  rw [Try.params3] at hA hval
  obtain ⟨v0, vs0, d0, ds0, p0, q0, hargs, rfl, rfl, h0, r0⟩ := trodAll_cons hA
  obtain ⟨rfl, rfl, rfl⟩ := trodAll_nil r0
  obtain rfl : args = #[v0] := by cases args; simp_all
  obtain ⟨A0, cap0, bs0, rfl, hl0, hc0, ha0⟩ := open_bytes Try.underlying22 Try.underlying5 (by kernel_rfl) (hval 0 22 v0 rfl rfl) h0
  exact walk W A0 cap0 bs0 hl0 hc0 ha0.1

theorem over : Rows.fnEqualNumbersRow.holds Try.pinned (OpenSpec.ofChange Rows.fnEqualNumbersSpec) :=
  OpenClaim.holds_of_wide 3 Try.f3 rfl rfl rfl rfl rfl rfl rfl ⟨rfl, rfl, rfl, rfl, rfl⟩ rfl rfl rfl rfl rfl (by kernel_rfl) Try.func3 (by kernel_rfl)
    (of_decide_eq_true (by kernel_rfl)) (by unfold Func.isWrapper; first | (rw [if_pos (by decide +kernel)]; kernel_rfl) | (rw [if_neg (by decide +kernel)]; exact ⟨rfl, rfl⟩))
    (fun os started H enc _ => lifted os started H enc)

theorem proved : Rows.FnEqualNumbersSaid := over
#print axioms proved
end Go.Proofs.Ytdkamgafpphdjaa.equalNumbersL

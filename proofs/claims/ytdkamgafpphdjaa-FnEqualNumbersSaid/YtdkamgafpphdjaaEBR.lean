/-
  Lemmas towards the law, 44: InfH.
-/
import Derived.Test.YtdkamgafpphdjaaEBO
import Derived.Test.YtdkamgafpphdjaaEBP
import Derived.Test.YtdkamgafpphdjaaEBQ
namespace Go.Proofs.Ytdkamgafpphdjaa
open Go.RowKit
set_option linter.unusedVariables false
attribute [local go_sem ↓] Go.wp_at_zero Go.wp_at_succ
set_option maxRecDepth 100000 in
set_option maxHeartbeats 8000000 in
theorem judged_3 {wC : World} {p1 p2 : Nat} {A : Option Addr} {G : List Tr} {At : Option Addr} {ks : List Tr} {ty : Nat → An} (n : Int) (ca ct : Nat) (hlt : ks.length ≤ ct) (hct : ct ≤ maxLen) (w0 : World) (N : Nat → Prop) (hJ : JOk wC w0 N p1 p2 A G At ks ty) (hks : ks.length = 2) (r : Tr × Int) (h : arrV ty = some r) : Calls Try.prog 37 #[.agg #[.slice A G.length ca, .int .i64 3, .int .i64 n, .slice At ks.length ct, .func (.func 35) #[] #[.pointer (some ⟨p1, 0, none⟩), .pointer (some ⟨p2, 0, none⟩)]]] w0 (AnQ N w0 r) := by
  have HH := Lib.hid h
  have HKS := Lib.hid hks
  clear h hks
  obtain ⟨⟨q1, q2, q3⟩, c⟩ := r
  obtain ⟨w1, hw1⟩ : ∃ x, x = (((w0.alloc (.cells #[.slice A G.length ca, .int .i64 3, .int .i64 n, .slice At ks.length ct, .func (.func 35) #[] #[.pointer (some ⟨p1, 0, none⟩), .pointer (some ⟨p2, 0, none⟩)]] 65)).alloc (.cells #[.int .i64 0, .int .i64 0, .slice none 0 0] 27)).alloc (.cells #[.int .i64 3, .int .i64 n, .slice At ks.length ct] 27)) := ⟨_, rfl⟩
  obtain ⟨bj_1, br_1, bt_1, s1, e1⟩ := box3 hw1
  have HJ := Lib.hid (hJ.keep e1 (g := w0.heap.size + 1) (Nat.le_succ _) (by omega))
  obtain ⟨M, hM⟩ : ∃ M, M = (fun b => N b ∧ b ≠ w0.heap.size + 1) := ⟨_, rfl⟩
  rw [← hM] at HJ
  have HM := Lib.hid hM
  clear hM hJ
  go_enter Try.func37, Try.ntmps37
  go_wp2_with fail
  rw [← hw1]
  clear hw1
  refine (arrow_any 3 n ca ct hlt hct w1 M (HJ.out.ext (Ext.refl w1)) (by rw [HKS.out]; decide) _ HH.out).mono ?_
  rintro e w2 ⟨u, rfl, hT, e2⟩
  have s2 := e2.size
  obtain ⟨a1, b1, A1, l1, c1, rfl⟩ := hT.three
  have T1 := Lib.hid hT
  clear hT
  have bj_2 := e2.blk bj_1
  obtain ⟨zj0, zj1, zj2, zj3, zj4⟩ := own5 bj_2
  have lj := lt_of_blk bj_2
  have br_2 := e2.blk br_1
  obtain ⟨zr0, zr1, zr2, yr0, yr1, yr2⟩ := own3 br_2
  have lr := lt_of_blk br_2
  have bt_2 := e2.blk bt_1
  obtain ⟨zt0, zt1, zt2, -⟩ := own3 bt_2
  have lt := lt_of_blk bt_2
  have X0_1 := e1
  have X0_2 := X0_1.trans e2
  go_wp2_with fail
  refine bodyPost_ret (v := .tuple #[.agg #[.int .i64 a1, .int .i64 b1, .slice A1 l1 c1], .int .i64 c]) (by simp [results, Try.results37, go_sem, zr0, zr1, zr2]) rfl ⟨_, rfl, InT.ret (HM.out ▸ (T1.out.later (Ext.refl w2))) _ _ _, (X0_2.set3 (by omega) _ _ _)⟩
set_option maxRecDepth 100000 in
set_option maxHeartbeats 8000000 in
theorem judged_13 {wC : World} {p1 p2 : Nat} {A : Option Addr} {G : List Tr} {At : Option Addr} {ks : List Tr} {ty : Nat → An} (n : Int) (ca ct : Nat) (hlt : ks.length ≤ ct) (hct : ct ≤ maxLen) (w0 : World) (N : Nat → Prop) (hJ : JOk wC w0 N p1 p2 A G At ks ty) (hks : ks.length = 2) (r : Tr × Int) (h : arrV ty = some r) : Calls Try.prog 37 #[.agg #[.slice A G.length ca, .int .i64 13, .int .i64 n, .slice At ks.length ct, .func (.func 35) #[] #[.pointer (some ⟨p1, 0, none⟩), .pointer (some ⟨p2, 0, none⟩)]]] w0 (AnQ N w0 r) := by
  have HH := Lib.hid h
  have HKS := Lib.hid hks
  clear h hks
  obtain ⟨⟨q1, q2, q3⟩, c⟩ := r
  obtain ⟨w1, hw1⟩ : ∃ x, x = (((w0.alloc (.cells #[.slice A G.length ca, .int .i64 13, .int .i64 n, .slice At ks.length ct, .func (.func 35) #[] #[.pointer (some ⟨p1, 0, none⟩), .pointer (some ⟨p2, 0, none⟩)]] 65)).alloc (.cells #[.int .i64 0, .int .i64 0, .slice none 0 0] 27)).alloc (.cells #[.int .i64 13, .int .i64 n, .slice At ks.length ct] 27)) := ⟨_, rfl⟩
  obtain ⟨bj_1, br_1, bt_1, s1, e1⟩ := box3 hw1
  have HJ := Lib.hid (hJ.keep e1 (g := w0.heap.size + 1) (Nat.le_succ _) (by omega))
  obtain ⟨M, hM⟩ : ∃ M, M = (fun b => N b ∧ b ≠ w0.heap.size + 1) := ⟨_, rfl⟩
  rw [← hM] at HJ
  have HM := Lib.hid hM
  clear hM hJ
  go_enter Try.func37, Try.ntmps37
  go_wp2_with fail
  rw [← hw1]
  clear hw1
  refine (arrow_any 13 n ca ct hlt hct w1 M (HJ.out.ext (Ext.refl w1)) (by rw [HKS.out]; decide) _ HH.out).mono ?_
  rintro e w2 ⟨u, rfl, hT, e2⟩
  have s2 := e2.size
  obtain ⟨a1, b1, A1, l1, c1, rfl⟩ := hT.three
  have T1 := Lib.hid hT
  clear hT
  have bj_2 := e2.blk bj_1
  obtain ⟨zj0, zj1, zj2, zj3, zj4⟩ := own5 bj_2
  have lj := lt_of_blk bj_2
  have br_2 := e2.blk br_1
  obtain ⟨zr0, zr1, zr2, yr0, yr1, yr2⟩ := own3 br_2
  have lr := lt_of_blk br_2
  have bt_2 := e2.blk bt_1
  obtain ⟨zt0, zt1, zt2, -⟩ := own3 bt_2
  have lt := lt_of_blk bt_2
  have X0_1 := e1
  have X0_2 := X0_1.trans e2
  go_wp2_with fail
  refine bodyPost_ret (v := .tuple #[.agg #[.int .i64 a1, .int .i64 b1, .slice A1 l1 c1], .int .i64 c]) (by simp [results, Try.results37, go_sem, zr0, zr1, zr2]) rfl ⟨_, rfl, InT.ret (HM.out ▸ (T1.out.later (Ext.refl w2))) _ _ _, (X0_2.set3 (by omega) _ _ _)⟩
set_option maxRecDepth 100000 in
set_option maxHeartbeats 8000000 in
theorem judged_4 {wC : World} {p1 p2 : Nat} {A : Option Addr} {G : List Tr} {At : Option Addr} {ks : List Tr} {ty : Nat → An} (n : Int) (ca ct : Nat) (hlt : ks.length ≤ ct) (hct : ct ≤ maxLen) (w0 : World) (N : Nat → Prop) (hJ : JOk wC w0 N p1 p2 A G At ks ty) (inf : Tr → An) (hI : InfF wC A ca G inf) (hks : ks.length = 2) (r : Tr × Int) (h : lamV inf ty (kd ks 0) = some r) : Calls Try.prog 37 #[.agg #[.slice A G.length ca, .int .i64 4, .int .i64 n, .slice At ks.length ct, .func (.func 35) #[] #[.pointer (some ⟨p1, 0, none⟩), .pointer (some ⟨p2, 0, none⟩)]]] w0 (AnQ N w0 r) := by
  have HH := Lib.hid h
  have HKS := Lib.hid hks
  clear h hks
  obtain ⟨⟨q1, q2, q3⟩, c⟩ := r
  obtain ⟨w1, hw1⟩ : ∃ x, x = (((w0.alloc (.cells #[.slice A G.length ca, .int .i64 4, .int .i64 n, .slice At ks.length ct, .func (.func 35) #[] #[.pointer (some ⟨p1, 0, none⟩), .pointer (some ⟨p2, 0, none⟩)]] 65)).alloc (.cells #[.int .i64 0, .int .i64 0, .slice none 0 0] 27)).alloc (.cells #[.int .i64 4, .int .i64 n, .slice At ks.length ct] 27)) := ⟨_, rfl⟩
  obtain ⟨bj_1, br_1, bt_1, s1, e1⟩ := box3 hw1
  have HJ := Lib.hid (hJ.keep e1 (g := w0.heap.size + 1) (Nat.le_succ _) (by omega))
  obtain ⟨M, hM⟩ : ∃ M, M = (fun b => N b ∧ b ≠ w0.heap.size + 1) := ⟨_, rfl⟩
  rw [← hM] at HJ
  have HM := Lib.hid hM
  clear hM hJ
  go_enter Try.func37, Try.ntmps37
  go_wp2_with fail
  rw [← hw1]
  clear hw1
  refine (function_any 4 n ca ct hlt hct w1 M (HJ.out.ext (Ext.refl w1)) inf hI HKS.out _ HH.out).mono ?_
  rintro e w2 ⟨u, rfl, hT, e2⟩
  have s2 := e2.size
  obtain ⟨a1, b1, A1, l1, c1, rfl⟩ := hT.three
  have T1 := Lib.hid hT
  clear hT
  have bj_2 := e2.blk bj_1
  obtain ⟨zj0, zj1, zj2, zj3, zj4⟩ := own5 bj_2
  have lj := lt_of_blk bj_2
  have br_2 := e2.blk br_1
  obtain ⟨zr0, zr1, zr2, yr0, yr1, yr2⟩ := own3 br_2
  have lr := lt_of_blk br_2
  have bt_2 := e2.blk bt_1
  obtain ⟨zt0, zt1, zt2, -⟩ := own3 bt_2
  have lt := lt_of_blk bt_2
  have X0_1 := e1
  have X0_2 := X0_1.trans e2
  go_wp2_with fail
  refine bodyPost_ret (v := .tuple #[.agg #[.int .i64 a1, .int .i64 b1, .slice A1 l1 c1], .int .i64 c]) (by simp [results, Try.results37, go_sem, zr0, zr1, zr2]) rfl ⟨_, rfl, InT.ret (HM.out ▸ (T1.out.later (Ext.refl w2))) _ _ _, (X0_2.set3 (by omega) _ _ _)⟩
set_option maxRecDepth 100000 in
set_option maxHeartbeats 8000000 in
theorem judged_9 {wC : World} {p1 p2 : Nat} {A : Option Addr} {G : List Tr} {At : Option Addr} {ks : List Tr} {ty : Nat → An} (n : Int) (ca ct : Nat) (hlt : ks.length ≤ ct) (hct : ct ≤ maxLen) (w0 : World) (N : Nat → Prop) (hJ : JOk wC w0 N p1 p2 A G At ks ty) (hks : ks.length = 4) (hv0 : valid sigT (kd ks 0) = true) (r : Tr × Int) (h : elmV ty (kd ks 0) (kd ks 3) = some r) : Calls Try.prog 37 #[.agg #[.slice A G.length ca, .int .i64 9, .int .i64 n, .slice At ks.length ct, .func (.func 35) #[] #[.pointer (some ⟨p1, 0, none⟩), .pointer (some ⟨p2, 0, none⟩)]]] w0 (AnQ N w0 r) := by
  have HH := Lib.hid h
  have HKS := Lib.hid hks
  clear h hks
  obtain ⟨⟨q1, q2, q3⟩, c⟩ := r
  obtain ⟨w1, hw1⟩ : ∃ x, x = (((w0.alloc (.cells #[.slice A G.length ca, .int .i64 9, .int .i64 n, .slice At ks.length ct, .func (.func 35) #[] #[.pointer (some ⟨p1, 0, none⟩), .pointer (some ⟨p2, 0, none⟩)]] 65)).alloc (.cells #[.int .i64 0, .int .i64 0, .slice none 0 0] 27)).alloc (.cells #[.int .i64 9, .int .i64 n, .slice At ks.length ct] 27)) := ⟨_, rfl⟩
  obtain ⟨bj_1, br_1, bt_1, s1, e1⟩ := box3 hw1
  have HJ := Lib.hid (hJ.keep e1 (g := w0.heap.size + 1) (Nat.le_succ _) (by omega))
  obtain ⟨M, hM⟩ : ∃ M, M = (fun b => N b ∧ b ≠ w0.heap.size + 1) := ⟨_, rfl⟩
  rw [← hM] at HJ
  have HM := Lib.hid hM
  clear hM hJ
  go_enter Try.func37, Try.ntmps37
  go_wp2_with fail
  rw [← hw1]
  clear hw1
  refine (recursion_any 9 n ca ct hlt hct w1 M (HJ.out.ext (Ext.refl w1)) HKS.out hv0 _ HH.out).mono ?_
  rintro e w2 ⟨u, rfl, hT, e2⟩
  have s2 := e2.size
  obtain ⟨a1, b1, A1, l1, c1, rfl⟩ := hT.three
  have T1 := Lib.hid hT
  clear hT
  have bj_2 := e2.blk bj_1
  obtain ⟨zj0, zj1, zj2, zj3, zj4⟩ := own5 bj_2
  have lj := lt_of_blk bj_2
  have br_2 := e2.blk br_1
  obtain ⟨zr0, zr1, zr2, yr0, yr1, yr2⟩ := own3 br_2
  have lr := lt_of_blk br_2
  have bt_2 := e2.blk bt_1
  obtain ⟨zt0, zt1, zt2, -⟩ := own3 bt_2
  have lt := lt_of_blk bt_2
  have X0_1 := e1
  have X0_2 := X0_1.trans e2
  go_wp2_with fail
  refine bodyPost_ret (v := .tuple #[.agg #[.int .i64 a1, .int .i64 b1, .slice A1 l1 c1], .int .i64 c]) (by simp [results, Try.results37, go_sem, zr0, zr1, zr2]) rfl ⟨_, rfl, InT.ret (HM.out ▸ (T1.out.later (Ext.refl w2))) _ _ _, (X0_2.set3 (by omega) _ _ _)⟩
set_option maxRecDepth 100000 in
set_option maxHeartbeats 8000000 in
theorem judged_10 {wC : World} {p1 p2 : Nat} {A : Option Addr} {G : List Tr} {At : Option Addr} {ks : List Tr} {ty : Nat → An} (n : Int) (ca ct : Nat) (hlt : ks.length ≤ ct) (hct : ct ≤ maxLen) (w0 : World) (N : Nat → Prop) (hJ : JOk wC w0 N p1 p2 A G At ks ty) (hks : ks.length = 3) (r : Tr × Int) (h : idnV ty (kd ks 0) = some r) : Calls Try.prog 37 #[.agg #[.slice A G.length ca, .int .i64 10, .int .i64 n, .slice At ks.length ct, .func (.func 35) #[] #[.pointer (some ⟨p1, 0, none⟩), .pointer (some ⟨p2, 0, none⟩)]]] w0 (AnQ N w0 r) := by
  have HH := Lib.hid h
  have HKS := Lib.hid hks
  clear h hks
  obtain ⟨⟨q1, q2, q3⟩, c⟩ := r
  obtain ⟨w1, hw1⟩ : ∃ x, x = (((w0.alloc (.cells #[.slice A G.length ca, .int .i64 10, .int .i64 n, .slice At ks.length ct, .func (.func 35) #[] #[.pointer (some ⟨p1, 0, none⟩), .pointer (some ⟨p2, 0, none⟩)]] 65)).alloc (.cells #[.int .i64 0, .int .i64 0, .slice none 0 0] 27)).alloc (.cells #[.int .i64 10, .int .i64 n, .slice At ks.length ct] 27)) := ⟨_, rfl⟩
  obtain ⟨bj_1, br_1, bt_1, s1, e1⟩ := box3 hw1
  have HJ := Lib.hid (hJ.keep e1 (g := w0.heap.size + 1) (Nat.le_succ _) (by omega))
  obtain ⟨M, hM⟩ : ∃ M, M = (fun b => N b ∧ b ≠ w0.heap.size + 1) := ⟨_, rfl⟩
  rw [← hM] at HJ
  have HM := Lib.hid hM
  clear hM hJ
  go_enter Try.func37, Try.ntmps37
  go_wp2_with fail
  rw [← hw1]
  clear hw1
  refine (equality_any 10 n ca ct hlt hct w1 M (HJ.out.ext (Ext.refl w1)) HKS.out _ HH.out).mono ?_
  rintro e w2 ⟨u, rfl, hT, e2⟩
  have s2 := e2.size
  obtain ⟨a1, b1, A1, l1, c1, rfl⟩ := hT.three
  have T1 := Lib.hid hT
  clear hT
  have bj_2 := e2.blk bj_1
  obtain ⟨zj0, zj1, zj2, zj3, zj4⟩ := own5 bj_2
  have lj := lt_of_blk bj_2
  have br_2 := e2.blk br_1
  obtain ⟨zr0, zr1, zr2, yr0, yr1, yr2⟩ := own3 br_2
  have lr := lt_of_blk br_2
  have bt_2 := e2.blk bt_1
  obtain ⟨zt0, zt1, zt2, -⟩ := own3 bt_2
  have lt := lt_of_blk bt_2
  have X0_1 := e1
  have X0_2 := X0_1.trans e2
  go_wp2_with fail
  refine bodyPost_ret (v := .tuple #[.agg #[.int .i64 a1, .int .i64 b1, .slice A1 l1 c1], .int .i64 c]) (by simp [results, Try.results37, go_sem, zr0, zr1, zr2]) rfl ⟨_, rfl, InT.ret (HM.out ▸ (T1.out.later (Ext.refl w2))) _ _ _, (X0_2.set3 (by omega) _ _ _)⟩
set_option maxRecDepth 100000 in
set_option maxHeartbeats 8000000 in
theorem judged_12 {wC : World} {p1 p2 : Nat} {A : Option Addr} {G : List Tr} {At : Option Addr} {ks : List Tr} {ty : Nat → An} (n : Int) (ca ct : Nat) (hlt : ks.length ≤ ct) (hct : ct ≤ maxLen) (w0 : World) (N : Nat → Prop) (hJ : JOk wC w0 N p1 p2 A G At ks ty) (hks : ks.length = 3) (r : Tr × Int) (h : movV ty (kd ks 0) = some r) : Calls Try.prog 37 #[.agg #[.slice A G.length ca, .int .i64 12, .int .i64 n, .slice At ks.length ct, .func (.func 35) #[] #[.pointer (some ⟨p1, 0, none⟩), .pointer (some ⟨p2, 0, none⟩)]]] w0 (AnQ N w0 r) := by
  have HH := Lib.hid h
  have HKS := Lib.hid hks
  clear h hks
  obtain ⟨⟨q1, q2, q3⟩, c⟩ := r
  obtain ⟨w1, hw1⟩ : ∃ x, x = (((w0.alloc (.cells #[.slice A G.length ca, .int .i64 12, .int .i64 n, .slice At ks.length ct, .func (.func 35) #[] #[.pointer (some ⟨p1, 0, none⟩), .pointer (some ⟨p2, 0, none⟩)]] 65)).alloc (.cells #[.int .i64 0, .int .i64 0, .slice none 0 0] 27)).alloc (.cells #[.int .i64 12, .int .i64 n, .slice At ks.length ct] 27)) := ⟨_, rfl⟩
  obtain ⟨bj_1, br_1, bt_1, s1, e1⟩ := box3 hw1
  have HJ := Lib.hid (hJ.keep e1 (g := w0.heap.size + 1) (Nat.le_succ _) (by omega))
  obtain ⟨M, hM⟩ : ∃ M, M = (fun b => N b ∧ b ≠ w0.heap.size + 1) := ⟨_, rfl⟩
  rw [← hM] at HJ
  have HM := Lib.hid hM
  clear hM hJ
  go_enter Try.func37, Try.ntmps37
  go_wp2_with fail
  rw [← hw1]
  clear hw1
  refine (moved_any 12 n ca ct hlt hct w1 M (HJ.out.ext (Ext.refl w1)) HKS.out _ HH.out).mono ?_
  rintro e w2 ⟨u, rfl, hT, e2⟩
  have s2 := e2.size
  obtain ⟨a1, b1, A1, l1, c1, rfl⟩ := hT.three
  have T1 := Lib.hid hT
  clear hT
  have bj_2 := e2.blk bj_1
  obtain ⟨zj0, zj1, zj2, zj3, zj4⟩ := own5 bj_2
  have lj := lt_of_blk bj_2
  have br_2 := e2.blk br_1
  obtain ⟨zr0, zr1, zr2, yr0, yr1, yr2⟩ := own3 br_2
  have lr := lt_of_blk br_2
  have bt_2 := e2.blk bt_1
  obtain ⟨zt0, zt1, zt2, -⟩ := own3 bt_2
  have lt := lt_of_blk bt_2
  have X0_1 := e1
  have X0_2 := X0_1.trans e2
  go_wp2_with fail
  refine bodyPost_ret (v := .tuple #[.agg #[.int .i64 a1, .int .i64 b1, .slice A1 l1 c1], .int .i64 c]) (by simp [results, Try.results37, go_sem, zr0, zr1, zr2]) rfl ⟨_, rfl, InT.ret (HM.out ▸ (T1.out.later (Ext.refl w2))) _ _ _, (X0_2.set3 (by omega) _ _ _)⟩
set_option maxRecDepth 100000 in
set_option maxHeartbeats 8000000 in
theorem judged_14 {wC : World} {p1 p2 : Nat} {A : Option Addr} {G : List Tr} {At : Option Addr} {ks : List Tr} {ty : Nat → An} (n : Int) (ca ct : Nat) (hlt : ks.length ≤ ct) (hct : ct ≤ maxLen) (w0 : World) (N : Nat → Prop) (hJ : JOk wC w0 N p1 p2 A G At ks ty) (hks : ks.length = 3) (hv1 : valid sigT (kd ks 1) = true) (r : Tr × Int) (h : parV ty (kd ks 0) (kd ks 1) = some r) : Calls Try.prog 37 #[.agg #[.slice A G.length ca, .int .i64 14, .int .i64 n, .slice At ks.length ct, .func (.func 35) #[] #[.pointer (some ⟨p1, 0, none⟩), .pointer (some ⟨p2, 0, none⟩)]]] w0 (AnQ N w0 r) := by
  have HH := Lib.hid h
  have HKS := Lib.hid hks
  clear h hks
  obtain ⟨⟨q1, q2, q3⟩, c⟩ := r
  obtain ⟨w1, hw1⟩ : ∃ x, x = (((w0.alloc (.cells #[.slice A G.length ca, .int .i64 14, .int .i64 n, .slice At ks.length ct, .func (.func 35) #[] #[.pointer (some ⟨p1, 0, none⟩), .pointer (some ⟨p2, 0, none⟩)]] 65)).alloc (.cells #[.int .i64 0, .int .i64 0, .slice none 0 0] 27)).alloc (.cells #[.int .i64 14, .int .i64 n, .slice At ks.length ct] 27)) := ⟨_, rfl⟩
  obtain ⟨bj_1, br_1, bt_1, s1, e1⟩ := box3 hw1
  have HJ := Lib.hid (hJ.keep e1 (g := w0.heap.size + 1) (Nat.le_succ _) (by omega))
  obtain ⟨M, hM⟩ : ∃ M, M = (fun b => N b ∧ b ≠ w0.heap.size + 1) := ⟨_, rfl⟩
  rw [← hM] at HJ
  have HM := Lib.hid hM
  clear hM hJ
  go_enter Try.func37, Try.ntmps37
  go_wp2_with fail
  rw [← hw1]
  clear hw1
  refine (paired_any 14 n ca ct hlt hct w1 M (HJ.out.ext (Ext.refl w1)) HKS.out hv1 _ HH.out).mono ?_
  rintro e w2 ⟨u, rfl, hT, e2⟩
  have s2 := e2.size
  obtain ⟨a1, b1, A1, l1, c1, rfl⟩ := hT.three
  have T1 := Lib.hid hT
  clear hT
  have bj_2 := e2.blk bj_1
  obtain ⟨zj0, zj1, zj2, zj3, zj4⟩ := own5 bj_2
  have lj := lt_of_blk bj_2
  have br_2 := e2.blk br_1
  obtain ⟨zr0, zr1, zr2, yr0, yr1, yr2⟩ := own3 br_2
  have lr := lt_of_blk br_2
  have bt_2 := e2.blk bt_1
  obtain ⟨zt0, zt1, zt2, -⟩ := own3 bt_2
  have lt := lt_of_blk bt_2
  have X0_1 := e1
  have X0_2 := X0_1.trans e2
  go_wp2_with fail
  refine bodyPost_ret (v := .tuple #[.agg #[.int .i64 a1, .int .i64 b1, .slice A1 l1 c1], .int .i64 c]) (by simp [results, Try.results37, go_sem, zr0, zr1, zr2]) rfl ⟨_, rfl, InT.ret (HM.out ▸ (T1.out.later (Ext.refl w2))) _ _ _, (X0_2.set3 (by omega) _ _ _)⟩
set_option maxRecDepth 100000 in
set_option maxHeartbeats 8000000 in
theorem judged_15 {wC : World} {p1 p2 : Nat} {A : Option Addr} {G : List Tr} {At : Option Addr} {ks : List Tr} {ty : Nat → An} (n : Int) (ca ct : Nat) (hlt : ks.length ≤ ct) (hct : ct ≤ maxLen) (w0 : World) (N : Nat → Prop) (hJ : JOk wC w0 N p1 p2 A G At ks ty) (hks : ks.length = 1) (hvj : valid sigT (.mk 15 n ks) = true) (r : Tr × Int) (h : prtV ty 15 (kd ks 0) = some r) : Calls Try.prog 37 #[.agg #[.slice A G.length ca, .int .i64 15, .int .i64 n, .slice At ks.length ct, .func (.func 35) #[] #[.pointer (some ⟨p1, 0, none⟩), .pointer (some ⟨p2, 0, none⟩)]]] w0 (AnQ N w0 r) := by
  have HH := Lib.hid h
  have HKS := Lib.hid hks
  clear h hks
  obtain ⟨⟨q1, q2, q3⟩, c⟩ := r
  obtain ⟨w1, hw1⟩ : ∃ x, x = (((w0.alloc (.cells #[.slice A G.length ca, .int .i64 15, .int .i64 n, .slice At ks.length ct, .func (.func 35) #[] #[.pointer (some ⟨p1, 0, none⟩), .pointer (some ⟨p2, 0, none⟩)]] 65)).alloc (.cells #[.int .i64 0, .int .i64 0, .slice none 0 0] 27)).alloc (.cells #[.int .i64 15, .int .i64 n, .slice At ks.length ct] 27)) := ⟨_, rfl⟩
  obtain ⟨bj_1, br_1, bt_1, s1, e1⟩ := box3 hw1
  have HJ := Lib.hid (hJ.keep e1 (g := w0.heap.size + 1) (Nat.le_succ _) (by omega))
  obtain ⟨M, hM⟩ : ∃ M, M = (fun b => N b ∧ b ≠ w0.heap.size + 1) := ⟨_, rfl⟩
  rw [← hM] at HJ
  have HM := Lib.hid hM
  clear hM hJ
  go_enter Try.func37, Try.ntmps37
  go_wp2_with fail
  rw [← hw1]
  clear hw1
  refine (part_any 15 n ca ct hlt hct w1 M (HJ.out.ext (Ext.refl w1)) (by simp) HKS.out hvj _ HH.out).mono ?_
  rintro e w2 ⟨u, rfl, hT, e2⟩
  have s2 := e2.size
  obtain ⟨a1, b1, A1, l1, c1, rfl⟩ := hT.three
  have T1 := Lib.hid hT
  clear hT
  have bj_2 := e2.blk bj_1
  obtain ⟨zj0, zj1, zj2, zj3, zj4⟩ := own5 bj_2
  have lj := lt_of_blk bj_2
  have br_2 := e2.blk br_1
  obtain ⟨zr0, zr1, zr2, yr0, yr1, yr2⟩ := own3 br_2
  have lr := lt_of_blk br_2
  have bt_2 := e2.blk bt_1
  obtain ⟨zt0, zt1, zt2, -⟩ := own3 bt_2
  have lt := lt_of_blk bt_2
  have X0_1 := e1
  have X0_2 := X0_1.trans e2
  go_wp2_with fail
  refine bodyPost_ret (v := .tuple #[.agg #[.int .i64 a1, .int .i64 b1, .slice A1 l1 c1], .int .i64 c]) (by simp [results, Try.results37, go_sem, zr0, zr1, zr2]) rfl ⟨_, rfl, InT.ret (HM.out ▸ (T1.out.later (Ext.refl w2))) _ _ _, (X0_2.set3 (by omega) _ _ _)⟩
set_option maxRecDepth 100000 in
set_option maxHeartbeats 8000000 in
theorem judged_16 {wC : World} {p1 p2 : Nat} {A : Option Addr} {G : List Tr} {At : Option Addr} {ks : List Tr} {ty : Nat → An} (n : Int) (ca ct : Nat) (hlt : ks.length ≤ ct) (hct : ct ≤ maxLen) (w0 : World) (N : Nat → Prop) (hJ : JOk wC w0 N p1 p2 A G At ks ty) (hks : ks.length = 1) (hvj : valid sigT (.mk 16 n ks) = true) (r : Tr × Int) (h : prtV ty 16 (kd ks 0) = some r) : Calls Try.prog 37 #[.agg #[.slice A G.length ca, .int .i64 16, .int .i64 n, .slice At ks.length ct, .func (.func 35) #[] #[.pointer (some ⟨p1, 0, none⟩), .pointer (some ⟨p2, 0, none⟩)]]] w0 (AnQ N w0 r) := by
  have HH := Lib.hid h
  have HKS := Lib.hid hks
  clear h hks
  obtain ⟨⟨q1, q2, q3⟩, c⟩ := r
  obtain ⟨w1, hw1⟩ : ∃ x, x = (((w0.alloc (.cells #[.slice A G.length ca, .int .i64 16, .int .i64 n, .slice At ks.length ct, .func (.func 35) #[] #[.pointer (some ⟨p1, 0, none⟩), .pointer (some ⟨p2, 0, none⟩)]] 65)).alloc (.cells #[.int .i64 0, .int .i64 0, .slice none 0 0] 27)).alloc (.cells #[.int .i64 16, .int .i64 n, .slice At ks.length ct] 27)) := ⟨_, rfl⟩
  obtain ⟨bj_1, br_1, bt_1, s1, e1⟩ := box3 hw1
  have HJ := Lib.hid (hJ.keep e1 (g := w0.heap.size + 1) (Nat.le_succ _) (by omega))
  obtain ⟨M, hM⟩ : ∃ M, M = (fun b => N b ∧ b ≠ w0.heap.size + 1) := ⟨_, rfl⟩
  rw [← hM] at HJ
  have HM := Lib.hid hM
  clear hM hJ
  go_enter Try.func37, Try.ntmps37
  go_wp2_with fail
  rw [← hw1]
  clear hw1
  refine (part_any 16 n ca ct hlt hct w1 M (HJ.out.ext (Ext.refl w1)) (by simp) HKS.out hvj _ HH.out).mono ?_
  rintro e w2 ⟨u, rfl, hT, e2⟩
  have s2 := e2.size
  obtain ⟨a1, b1, A1, l1, c1, rfl⟩ := hT.three
  have T1 := Lib.hid hT
  clear hT
  have bj_2 := e2.blk bj_1
  obtain ⟨zj0, zj1, zj2, zj3, zj4⟩ := own5 bj_2
  have lj := lt_of_blk bj_2
  have br_2 := e2.blk br_1
  obtain ⟨zr0, zr1, zr2, yr0, yr1, yr2⟩ := own3 br_2
  have lr := lt_of_blk br_2
  have bt_2 := e2.blk bt_1
  obtain ⟨zt0, zt1, zt2, -⟩ := own3 bt_2
  have lt := lt_of_blk bt_2
  have X0_1 := e1
  have X0_2 := X0_1.trans e2
  go_wp2_with fail
  refine bodyPost_ret (v := .tuple #[.agg #[.int .i64 a1, .int .i64 b1, .slice A1 l1 c1], .int .i64 c]) (by simp [results, Try.results37, go_sem, zr0, zr1, zr2]) rfl ⟨_, rfl, InT.ret (HM.out ▸ (T1.out.later (Ext.refl w2))) _ _ _, (X0_2.set3 (by omega) _ _ _)⟩
set_option maxRecDepth 100000 in
set_option maxHeartbeats 8000000 in
theorem judged_2 {wC : World} {p1 p2 : Nat} {A : Option Addr} {G : List Tr} {At : Option Addr} {ks : List Tr} {ty : Nat → An} (n : Int) (ca ct : Nat) (hlt : ks.length ≤ ct) (hct : ct ≤ maxLen) (w0 : World) (N : Nat → Prop) (hJ : JOk wC w0 N p1 p2 A G At ks ty) (hn0 : 0 ≤ n) (hn3 : n ≤ 3) (r : Tr × Int) (h : some (if n = 3 then (dflt0, 1) else (srtT (n + 1), 0)) = some r) : Calls Try.prog 37 #[.agg #[.slice A G.length ca, .int .i64 2, .int .i64 n, .slice At ks.length ct, .func (.func 35) #[] #[.pointer (some ⟨p1, 0, none⟩), .pointer (some ⟨p2, 0, none⟩)]]] w0 (AnQ N w0 r) := by
  by_cases hn : n = 3
  · obtain rfl : r = (dflt0, 1) := by rw [if_pos hn] at h; simpa using h.symm
    have t1 : (n == 3) = true := beq_iff_eq.2 hn
    clear h hn
    obtain ⟨bj_1, br_1, bt_1, s1⟩ := blk3 (Ext.refl (((w0.alloc (.cells #[.slice A G.length ca, .int .i64 2, .int .i64 n, .slice At ks.length ct, .func (.func 35) #[] #[.pointer (some ⟨p1, 0, none⟩), .pointer (some ⟨p2, 0, none⟩)]] 65)).alloc (.cells #[.int .i64 0, .int .i64 0, .slice none 0 0] 27)).alloc (.cells #[.int .i64 2, .int .i64 n, .slice At ks.length ct] 27)))
    obtain ⟨zr0, zr1, zr2, yr0, yr1, yr2⟩ := own3 br_1
    clear bj_1 bt_1 s1 br_1
    go_enter Try.func37, Try.ntmps37
    go_wp2_with fail
    refine bodyPost_ret (v := .tuple #[.agg #[.int .i64 0, .int .i64 0, .slice none 0 0], .int .i64 1]) (by simp [results, Try.results37, go_sem, zr0, zr1, zr2]) rfl ⟨_, rfl, leafT _ _ _ _, ?_⟩
    exact (((Ext.refl _).alloc _).alloc _).alloc _
  · obtain rfl : r = (srtT (n + 1), 0) := by rw [if_neg hn] at h; simpa using h.symm
    have t1 : (n == 3) = false := beq_eq_false_iff_ne.2 hn
    have hw : IntKind.i64.wrap (n + 1) = n + 1 := IntWalk.i64_in _ ⟨by omega, by omega⟩
    clear h hn
    obtain ⟨w1, hw1⟩ : ∃ x, x = (((w0.alloc (.cells #[.slice A G.length ca, .int .i64 2, .int .i64 n, .slice At ks.length ct, .func (.func 35) #[] #[.pointer (some ⟨p1, 0, none⟩), .pointer (some ⟨p2, 0, none⟩)]] 65)).alloc (.cells #[.int .i64 0, .int .i64 0, .slice none 0 0] 27)).alloc (.cells #[.int .i64 2, .int .i64 n, .slice At ks.length ct] 27)) := ⟨_, rfl⟩
    obtain ⟨bj_1, br_1, bt_1, s1, e1⟩ := box3 hw1
    have HJ := Lib.hid (hJ.keep e1 (g := w0.heap.size + 1) (Nat.le_succ _) (by omega))
    obtain ⟨M, hM⟩ : ∃ M, M = (fun b => N b ∧ b ≠ w0.heap.size + 1) := ⟨_, rfl⟩
    rw [← hM] at HJ
    have HM := Lib.hid hM
    clear hM hJ
    go_enter Try.func37, Try.ntmps37
    go_wp2_with fail
    rw [← hw1]
    clear hw1
    refine (sort_any (n + 1) w1).mono ?_
    rintro e w2 ⟨rfl, e2⟩
    have s2 := e2.size
    have bj_2 := e2.blk bj_1
    obtain ⟨zj0, zj1, zj2, zj3, zj4⟩ := own5 bj_2
    have lj := lt_of_blk bj_2
    have br_2 := e2.blk br_1
    obtain ⟨zr0, zr1, zr2, yr0, yr1, yr2⟩ := own3 br_2
    have lr := lt_of_blk br_2
    have bt_2 := e2.blk bt_1
    obtain ⟨zt0, zt1, zt2, -⟩ := own3 bt_2
    have lt := lt_of_blk bt_2
    have X0_1 := e1
    have X0_2 := X0_1.trans e2
    go_wp2_with fail
    refine bodyPost_ret (v := .tuple #[.agg #[.int .i64 2, .int .i64 (n + 1), .slice none 0 0], .int .i64 0]) (by simp [results, Try.results37, go_sem, zr0, zr1, zr2]) rfl ⟨_, rfl, leafT _ _ 2 _, (X0_2.set3 (by omega) _ _ _)⟩
set_option maxRecDepth 100000 in
set_option maxHeartbeats 8000000 in
theorem judged_6 {wC : World} {p1 p2 : Nat} {A : Option Addr} {G : List Tr} {At : Option Addr} {ks : List Tr} {ty : Nat → An} (n : Int) (ca ct : Nat) (hlt : ks.length ≤ ct) (hct : ct ≤ maxLen) (w0 : World) (N : Nat → Prop) (hJ : JOk wC w0 N p1 p2 A G At ks ty)  (r : Tr × Int) (h : some (srtT 0, 0) = some r) : Calls Try.prog 37 #[.agg #[.slice A G.length ca, .int .i64 6, .int .i64 n, .slice At ks.length ct, .func (.func 35) #[] #[.pointer (some ⟨p1, 0, none⟩), .pointer (some ⟨p2, 0, none⟩)]]] w0 (AnQ N w0 r) := by
  obtain rfl : r = (srtT 0, 0) := by simpa using h.symm
  clear h
  obtain ⟨w1, hw1⟩ : ∃ x, x = (((w0.alloc (.cells #[.slice A G.length ca, .int .i64 6, .int .i64 n, .slice At ks.length ct, .func (.func 35) #[] #[.pointer (some ⟨p1, 0, none⟩), .pointer (some ⟨p2, 0, none⟩)]] 65)).alloc (.cells #[.int .i64 0, .int .i64 0, .slice none 0 0] 27)).alloc (.cells #[.int .i64 6, .int .i64 n, .slice At ks.length ct] 27)) := ⟨_, rfl⟩
  obtain ⟨bj_1, br_1, bt_1, s1, e1⟩ := box3 hw1
  have HJ := Lib.hid (hJ.keep e1 (g := w0.heap.size + 1) (Nat.le_succ _) (by omega))
  obtain ⟨M, hM⟩ : ∃ M, M = (fun b => N b ∧ b ≠ w0.heap.size + 1) := ⟨_, rfl⟩
  rw [← hM] at HJ
  have HM := Lib.hid hM
  clear hM hJ
  go_enter Try.func37, Try.ntmps37
  go_wp2_with fail
  rw [← hw1]
  clear hw1
  refine (sort_any 0 w1).mono ?_
  rintro e w2 ⟨rfl, e2⟩
  have s2 := e2.size
  have bj_2 := e2.blk bj_1
  obtain ⟨zj0, zj1, zj2, zj3, zj4⟩ := own5 bj_2
  have lj := lt_of_blk bj_2
  have br_2 := e2.blk br_1
  obtain ⟨zr0, zr1, zr2, yr0, yr1, yr2⟩ := own3 br_2
  have lr := lt_of_blk br_2
  have bt_2 := e2.blk bt_1
  obtain ⟨zt0, zt1, zt2, -⟩ := own3 bt_2
  have lt := lt_of_blk bt_2
  have X0_1 := e1
  have X0_2 := X0_1.trans e2
  go_wp2_with fail
  refine bodyPost_ret (v := .tuple #[.agg #[.int .i64 2, .int .i64 0, .slice none 0 0], .int .i64 0]) (by simp [results, Try.results37, go_sem, zr0, zr1, zr2]) rfl ⟨_, rfl, leafT _ _ 2 _, (X0_2.set3 (by omega) _ _ _)⟩
set_option maxRecDepth 100000 in
set_option maxHeartbeats 8000000 in
theorem judged_7 {wC : World} {p1 p2 : Nat} {A : Option Addr} {G : List Tr} {At : Option Addr} {ks : List Tr} {ty : Nat → An} (n : Int) (ca ct : Nat) (hlt : ks.length ≤ ct) (hct : ct ≤ maxLen) (w0 : World) (N : Nat → Prop) (hJ : JOk wC w0 N p1 p2 A G At ks ty)  (r : Tr × Int) (h : some (natT, 0) = some r) : Calls Try.prog 37 #[.agg #[.slice A G.length ca, .int .i64 7, .int .i64 n, .slice At ks.length ct, .func (.func 35) #[] #[.pointer (some ⟨p1, 0, none⟩), .pointer (some ⟨p2, 0, none⟩)]]] w0 (AnQ N w0 r) := by
  obtain rfl : r = (natT, 0) := by simpa using h.symm
  clear h
  obtain ⟨w1, hw1⟩ : ∃ x, x = (((w0.alloc (.cells #[.slice A G.length ca, .int .i64 7, .int .i64 n, .slice At ks.length ct, .func (.func 35) #[] #[.pointer (some ⟨p1, 0, none⟩), .pointer (some ⟨p2, 0, none⟩)]] 65)).alloc (.cells #[.int .i64 0, .int .i64 0, .slice none 0 0] 27)).alloc (.cells #[.int .i64 7, .int .i64 n, .slice At ks.length ct] 27)) := ⟨_, rfl⟩
  obtain ⟨bj_1, br_1, bt_1, s1, e1⟩ := box3 hw1
  have HJ := Lib.hid (hJ.keep e1 (g := w0.heap.size + 1) (Nat.le_succ _) (by omega))
  obtain ⟨M, hM⟩ : ∃ M, M = (fun b => N b ∧ b ≠ w0.heap.size + 1) := ⟨_, rfl⟩
  rw [← hM] at HJ
  have HM := Lib.hid hM
  clear hM hJ
  go_enter Try.func37, Try.ntmps37
  go_wp2_with fail
  rw [← hw1]
  clear hw1
  refine (node_any w1 6 none 0 0).mono ?_
  rintro e w2 ⟨rfl, e2⟩
  have s2 := e2.size
  have bj_2 := e2.blk bj_1
  obtain ⟨zj0, zj1, zj2, zj3, zj4⟩ := own5 bj_2
  have lj := lt_of_blk bj_2
  have br_2 := e2.blk br_1
  obtain ⟨zr0, zr1, zr2, yr0, yr1, yr2⟩ := own3 br_2
  have lr := lt_of_blk br_2
  have bt_2 := e2.blk bt_1
  obtain ⟨zt0, zt1, zt2, -⟩ := own3 bt_2
  have lt := lt_of_blk bt_2
  have X0_1 := e1
  have X0_2 := X0_1.trans e2
  go_wp2_with fail
  refine bodyPost_ret (v := .tuple #[.agg #[.int .i64 6, .int .i64 0, .slice none 0 0], .int .i64 0]) (by simp [results, Try.results37, go_sem, zr0, zr1, zr2]) rfl ⟨_, rfl, leafT _ _ 6 _, (X0_2.set3 (by omega) _ _ _)⟩
set_option maxRecDepth 100000 in
set_option maxHeartbeats 8000000 in
theorem judged_8 {wC : World} {p1 p2 : Nat} {A : Option Addr} {G : List Tr} {At : Option Addr} {ks : List Tr} {ty : Nat → An} (n : Int) (ca ct : Nat) (hlt : ks.length ≤ ct) (hct : ct ≤ maxLen) (w0 : World) (N : Nat → Prop) (hJ : JOk wC w0 N p1 p2 A G At ks ty) (hks : ks.length = 1) (r : Tr × Int) (h : chkV (ty 0) natT (some (natT, 0)) = some r) : Calls Try.prog 37 #[.agg #[.slice A G.length ca, .int .i64 8, .int .i64 n, .slice At ks.length ct, .func (.func 35) #[] #[.pointer (some ⟨p1, 0, none⟩), .pointer (some ⟨p2, 0, none⟩)]]] w0 (AnQ N w0 r) := by
  have HKS := Lib.hid hks
  obtain ⟨c, h1, h2, h3⟩ := chk_some h
  have H1 := Lib.hid h1
  have H2 := Lib.hid h2
  have H3 := Lib.hid h3
  clear h1 h2 h3
  clear h hks
  obtain ⟨w1, hw1⟩ : ∃ x, x = (((w0.alloc (.cells #[.slice A G.length ca, .int .i64 8, .int .i64 n, .slice At ks.length ct, .func (.func 35) #[] #[.pointer (some ⟨p1, 0, none⟩), .pointer (some ⟨p2, 0, none⟩)]] 65)).alloc (.cells #[.int .i64 0, .int .i64 0, .slice none 0 0] 27)).alloc (.cells #[.int .i64 8, .int .i64 n, .slice At ks.length ct] 27)) := ⟨_, rfl⟩
  obtain ⟨bj_1, br_1, bt_1, s1, e1⟩ := box3 hw1
  have HJ := Lib.hid (hJ.keep e1 (g := w0.heap.size + 1) (Nat.le_succ _) (by omega))
  obtain ⟨M, hM⟩ : ∃ M, M = (fun b => N b ∧ b ≠ w0.heap.size + 1) := ⟨_, rfl⟩
  rw [← hM] at HJ
  have HM := Lib.hid hM
  clear hM hJ
  go_enter Try.func37, Try.ntmps37
  go_wp2_with fail
  rw [← hw1]
  clear hw1
  obtain ⟨zj0, zj1, zj2, zj3, zj4⟩ := own5 bj_1
  have lj := lt_of_blk bj_1
  obtain ⟨zr0, zr1, zr2, yr0, yr1, yr2⟩ := own3 br_1
  have lr := lt_of_blk br_1
  obtain ⟨zt0, zt1, zt2, -⟩ := own3 bt_1
  have lt := lt_of_blk bt_1
  have HNN := Lib.hid (show ∀ w z, EG (w1.drew, []) (w, z) → ∀ b, w.heap.size ≤ b → Mz M z b from fun w z h => h.news ((fun w h => ((HJ.out.ext (Ext.refl w1)).ext h).hN) w ((Ext.refl w1).drew.trans h.1)))
  refine wp_region_held_drew (S := fun _ => True) (by kernel_rfl) trivial (fun _ => ?_)
  refine ordG w1 3 180 #[true, true, true, false] 1 [Sp.val (.agg #[.slice A G.length ca, .int .i64 8, .int .i64 n, .slice At ks.length ct, .func (.func 35) #[] #[.pointer (some ⟨p1, 0, none⟩), .pointer (some ⟨p2, 0, none⟩)]]), Sp.tree M (.mk 6 0 []), Sp.val (.int .i64 c)] (by kernel_rfl) rfl (by kernel_rfl) (by kernel_rfl) (by kernel_rfl) ?steps_12 ?fin_12
  case steps_12 =>
    refine And.intro (.inr ?s0_12) (And.intro (.inr ?s1_12) (And.intro (.inr ?s2_12) (trivial)))
    all_goals (intro a w z hE hold hdep; refine Ord.step_of rfl rfl ?_; intro K hK)
    case s0_12 => (have f1 := slot_at (show a.eval (.tmp 1) = .pointer (some ⟨w0.heap.size, 0, none⟩) from hold 1 (by kernel_rfl)); have q0 := hE.1.cell zj0; have q1 := hE.1.cell zj1; have q2 := hE.1.cell zj2; have q3 := hE.1.cell zj3; have q4 := hE.1.cell zj4; go_simp; exact hK _ _ ⟨_, z, rfl, hE.id, rfl⟩)
    case s1_12 => (go_simp; go_at_call 14; refine (node_any w 6 none 0 0).mono ?_; rintro e w' ⟨rfl, e'⟩; exact hK _ _ ⟨_, z, rfl, EG.same hE e', leafT _ _ _ _⟩)
    case s2_12 => (have f64 := slot_at (show a.eval (.tmp 64) = .agg #[.slice A G.length ca, .int .i64 8, .int .i64 n, .slice At ks.length ct, .func (.func 35) #[] #[.pointer (some ⟨p1, 0, none⟩), .pointer (some ⟨p2, 0, none⟩)]] from hdep 0 64 (by kernel_rfl)); have h65 : InT w (Mz M z) (.mk 6 0 []) (a.eval (.tmp 65)) := hdep 1 65 (by kernel_rfl); obtain ⟨d65_1, d65_2, d65_3, d65_4, d65_5, f65⟩ := h65.three; rw [f65] at h65; replace f65 := slot_at f65; go_simp; go_at_call 47; refine (jcheck_any 8 n ca ct hlt hct w M ((HJ.out.ext (Ext.refl w1)).ext ((Ext.refl _).drew.trans hE.1)) 0 (by rw [HKS.out]; decide) natT _ (InT.mono (fun b hb => hb.1) (fun _ _ => rfl) h65) c H1.out).mono ?_; rintro e w' ⟨rfl, e'⟩; exact hK _ _ ⟨_, z, rfl, EG.same hE e', rfl⟩)
  case fin_12 =>
    intro v w' z hE' hG
    have v2_ : v 2 = .int .i64 c := hG 2 (by decide) rfl
    rw [Ord.putN_all]
    simp only [Ord.putO, Ord.dstOf, List.getElem?_toArray, List.getElem?_cons_zero, List.getElem?_cons_succ, Option.bind_some, Act.put, List.setIfInBounds_toArray, List.set_cons_zero, List.set_cons_succ]
    rw [v2_]
    clear hG v2_
    have e2 : Ext w1 w' := (Ext.refl w1).drew.trans hE'.1
    clear hE'
    obtain ⟨w2, rfl⟩ : ∃ x, x = w' := ⟨_, rfl⟩
    have s2 := e2.size
    refine wpAnyH_take (i := 3) (v := ?v3_12) rfl (by kernel_rfl) (by kernel_rfl) (by kernel_rfl) (fun _ _ _ h => h) (Or.inl ⟨by rfl, ?hy3_12⟩) trivial ?rest3_12
    case hy3_12 => (intro w hSw; go_simp; (try with_reducible rfl))
    try simp only [Act.put, List.getElem_toArray, List.getElem_cons_succ, List.getElem_cons_zero, List.setIfInBounds_toArray, List.set_cons_zero, List.set_cons_succ]
    refine wpAnyH_done (by kernel_rfl) ?_ _
    clear zj0 zj1 zj2 zj3 zj4 lj zr0 zr1 zr2 yr0 yr1 yr2 lr zt0 zt1 zt2 lt
    by_cases hc0 : c = 0
    case neg =>
      obtain rfl := H3.out hc0
      have t1 : (c != 0) = true := by simp [hc0]
      clear hc0 H3
      have bj_2 := e2.blk bj_1
      obtain ⟨zj0, zj1, zj2, zj3, zj4⟩ := own5 bj_2
      have lj := lt_of_blk bj_2
      have br_2 := e2.blk br_1
      obtain ⟨zr0, zr1, zr2, yr0, yr1, yr2⟩ := own3 br_2
      have lr := lt_of_blk br_2
      have bt_2 := e2.blk bt_1
      obtain ⟨zt0, zt1, zt2, -⟩ := own3 bt_2
      have lt := lt_of_blk bt_2
      have X0_1 := e1
      have X0_2 := X0_1.trans e2
      go_wp2_with fail
      refine bodyPost_ret (v := .tuple #[.agg #[.int .i64 0, .int .i64 0, .slice none 0 0], .int .i64 c]) (by simp [results, Try.results37, go_sem, zr0, zr1, zr2]) rfl ⟨_, rfl, leafT _ _ 0 0, (X0_2.set3 (by omega) _ _ _)⟩
    obtain rfl : r = (natT, 0) := by simpa using (H2.out hc0).symm
    subst hc0
    clear H2 H3
    have bj_2 := e2.blk bj_1
    obtain ⟨zj0, zj1, zj2, zj3, zj4⟩ := own5 bj_2
    have lj := lt_of_blk bj_2
    have br_2 := e2.blk br_1
    obtain ⟨zr0, zr1, zr2, yr0, yr1, yr2⟩ := own3 br_2
    have lr := lt_of_blk br_2
    have bt_2 := e2.blk bt_1
    obtain ⟨zt0, zt1, zt2, -⟩ := own3 bt_2
    have lt := lt_of_blk bt_2
    go_wp2_with fail
    clear zj0 zj1 zj2 zj3 zj4 lj zr0 zr1 zr2 yr0 yr1 yr2 lr zt0 zt1 zt2 lt
    refine (node_any w2 6 none 0 0).mono ?_
    rintro e w3 ⟨rfl, e3⟩
    have s3 := e3.size
    have bj_3 := e3.blk bj_2
    obtain ⟨zj0, zj1, zj2, zj3, zj4⟩ := own5 bj_3
    have lj := lt_of_blk bj_3
    have br_3 := e3.blk br_2
    obtain ⟨zr0, zr1, zr2, yr0, yr1, yr2⟩ := own3 br_3
    have lr := lt_of_blk br_3
    have bt_3 := e3.blk bt_2
    obtain ⟨zt0, zt1, zt2, -⟩ := own3 bt_3
    have lt := lt_of_blk bt_3
    have X0_1 := e1
    have X0_2 := X0_1.trans e2
    have X0_3 := X0_2.trans e3
    go_wp2_with fail
    refine bodyPost_ret (v := .tuple #[.agg #[.int .i64 6, .int .i64 0, .slice none 0 0], .int .i64 0]) (by simp [results, Try.results37, go_sem, zr0, zr1, zr2]) rfl ⟨_, rfl, leafT _ _ 6 _, (X0_3.set3 (by omega) _ _ _)⟩
end Go.Proofs.Ytdkamgafpphdjaa

/-
  Lemmas towards the law, 45: InfI.
-/
import Derived.Test.YtdkamgafpphdjaaEBO
import Derived.Test.YtdkamgafpphdjaaEBQ
namespace Go.Proofs.Ytdkamgafpphdjaa
open Go.RowKit
set_option linter.unusedVariables false
attribute [local go_sem ↓] Go.wp_at_zero Go.wp_at_succ
/-- shift, as1 a region wants it. -/
def ShfQ (w0 : World) (v : Value) (y : Int) (T : Tr) (b : Bool) : Prop := ∀ (W : World) (N : Nat → Prop), Ext w0 W → (∀ b, W.heap.size ≤ b → N b) →
  Calls Try.prog 45 #[v, .int .i64 y, .int .i64 0] W fun e w' => ∃ r, e = .returned (.tuple #[r, .bool b]) ∧ InT w' N T r ∧ Ext W w'
theorem shfQ {w0 : World} {t : Tr} {v : Value} {y : Int} (h : Lies w0 t v) (hv : valid sigT t = true) (hy : 0 ≤ y) (hy1 : y ≤ 1000) : ShfQ w0 v y (okT (shfT y t 0)) (valid sigT (shfT y t 0)) := fun W N hW hN => by
  refine (shift_any t y 0 W v (h.ext hW) hv hy hy1 (by omega) (by omega)).mono ?_
  rintro e w' ⟨r, rfl, hM, e'⟩
  exact ⟨r, rfl, hM.at' hN, e'⟩
set_option maxRecDepth 100000 in
set_option maxHeartbeats 8000000 in
theorem judged_1 {wC : World} {p1 p2 : Nat} {A : Option Addr} {G : List Tr} {At : Option Addr} {ks : List Tr} {ty : Nat → An} (n : Int) (ca ct : Nat) (hlt : ks.length ≤ ct) (hct : ct ≤ maxLen) (w0 : World) (N : Nat → Prop) (hJ : JOk wC w0 N p1 p2 A G At ks ty) (hn0 : 0 ≤ n) (hn20 : n ≤ 20) (hGv : ∀ x ∈ G, valid sigT x = true) (hca : G.length ≤ ca) (hcm : ca ≤ maxLen) (r : Tr × Int) (h : some (lkV G n) = some r) : Calls Try.prog 37 #[.agg #[.slice A G.length ca, .int .i64 1, .int .i64 n, .slice At ks.length ct, .func (.func 35) #[] #[.pointer (some ⟨p1, 0, none⟩), .pointer (some ⟨p2, 0, none⟩)]]] w0 (AnQ N w0 r) := by
  unfold maxLen at hcm
  by_cases hlt1 : (G.length : Int) ≤ n
  · obtain rfl : r = (dflt0, 1) := by unfold lkV at h; rw [if_pos hlt1] at h; simpa using h.symm
    have t1 : decide ((G.length : Int) ≤ n) = true := decide_eq_true hlt1
    clear h hlt1 hGv hn0 hn20 hca hcm
    obtain ⟨bj_1, br_1, bt_1, s1⟩ := blk3 (Ext.refl (((w0.alloc (.cells #[.slice A G.length ca, .int .i64 1, .int .i64 n, .slice At ks.length ct, .func (.func 35) #[] #[.pointer (some ⟨p1, 0, none⟩), .pointer (some ⟨p2, 0, none⟩)]] 65)).alloc (.cells #[.int .i64 0, .int .i64 0, .slice none 0 0] 27)).alloc (.cells #[.int .i64 1, .int .i64 n, .slice At ks.length ct] 27)))
    obtain ⟨zr0, zr1, zr2, yr0, yr1, yr2⟩ := own3 br_1
    clear bj_1 bt_1 s1 br_1
    go_enter Try.func37, Try.ntmps37
    go_wp2_with fail
    refine bodyPost_ret (v := .tuple #[.agg #[.int .i64 0, .int .i64 0, .slice none 0 0], .int .i64 1]) (by simp [results, Try.results37, go_sem, zr0, zr1, zr2]) rfl ⟨_, rfl, leafT _ _ _ _, ?_⟩
    exact (((Ext.refl _).alloc _).alloc _).alloc _
  · have t1 : decide ((G.length : Int) ≤ n) = false := decide_eq_false hlt1
    obtain ⟨i, hi⟩ : ∃ i : Nat, (G.length : Int) - 1 - n = (i : Int) := ⟨G.length - 1 - n.toNat, by omega⟩
    have hin : G.length - 1 - n.toNat = i := by omega
    have hiG : i < G.length := by omega
    have hiZ : (i : Int) < (G.length : Int) := by omega
    have hw1 : IntKind.i64.wrap ((G.length : Int) - 1) = (G.length : Int) - 1 := IntWalk.i64_in _ ⟨by omega, by omega⟩
    have hw2 : IntKind.i64.wrap ((G.length : Int) - 1 - n) = (i : Int) := by rw [hi]; exact IntWalk.i64_in _ ⟨by omega, by omega⟩
    have hw3 : IntKind.i64.wrap (n + 1) = n + 1 := IntWalk.i64_in _ ⟨by omega, by omega⟩
    obtain ⟨bg, og, rfl, hkid⟩ := InK.kid hJ.hG (by omega)
    obtain ⟨x1, x2, x3, x4, x5, c0, c1, c2, hxT⟩ := hkid i hiG
    rw [Nat.mul_comm] at c0 c1 c2
    have KX := Lib.hid hxT
    have hvx : valid sigT (kd G i) = true := hGv _ (kd_mem hiG)
    obtain ⟨X, hX⟩ : ∃ X, shfT (n + 1) (kd G i) 0 = X := ⟨_, rfl⟩
    obtain ⟨⟨T2, d⟩, hTT⟩ : ∃ q, mkV X = q := ⟨_, rfl⟩
    obtain rfl : r = (T2, d) := by unfold lkV at h; rw [if_neg hlt1, hin, hX, hTT] at h; simpa using h.symm
    have HMQ : Hid (MadQ (okT X) (valid sigT X) (T2, d)) := Lib.hid (hTT ▸ madQ X)
    have HSQ : Hid (ShfQ w0 _ (n + 1) (okT X) (valid sigT X)) := Lib.hid (hX ▸ shfQ KX.out.lies' hvx (by omega) (by omega))
    generalize okT X = T1 at HMQ HSQ
    generalize valid sigT X = zz at HMQ HSQ
    clear h hX hTT hvx hkid hxT hGv hin hi hn0 hn20 hlt1 hca hcm
    obtain ⟨w1, hw1⟩ : ∃ x, x = (((w0.alloc (.cells #[.slice (some ⟨bg, og, none⟩) G.length ca, .int .i64 1, .int .i64 n, .slice At ks.length ct, .func (.func 35) #[] #[.pointer (some ⟨p1, 0, none⟩), .pointer (some ⟨p2, 0, none⟩)]] 65)).alloc (.cells #[.int .i64 0, .int .i64 0, .slice none 0 0] 27)).alloc (.cells #[.int .i64 1, .int .i64 n, .slice At ks.length ct] 27)) := ⟨_, rfl⟩
    obtain ⟨bj_1, br_1, bt_1, s1, e1⟩ := box3 hw1
    have HJ := Lib.hid (hJ.keep e1 (g := w0.heap.size + 1) (Nat.le_succ _) (by omega))
    obtain ⟨M, hM⟩ : ∃ M, M = (fun b => N b ∧ b ≠ w0.heap.size + 1) := ⟨_, rfl⟩
    rw [← hM] at HJ
    have HM := Lib.hid hM
    clear hM hJ
    go_enter Try.func37, Try.ntmps37
    go_wp2_with fail
    rw [← hw1]
    clear hw1
    have X0_1 := e1
    replace c0 := X0_1.cell c0
    replace c1 := X0_1.cell c1
    replace c2 := X0_1.cell c2
    obtain ⟨zj0, zj1, zj2, zj3, zj4⟩ := own5 bj_1
    have lj := lt_of_blk bj_1
    obtain ⟨zr0, zr1, zr2, yr0, yr1, yr2⟩ := own3 br_1
    have lr := lt_of_blk br_1
    obtain ⟨zt0, zt1, zt2, -⟩ := own3 bt_1
    have lt := lt_of_blk bt_1
    have HNN := Lib.hid (show ∀ w z, EG (w1.drew, []) (w, z) → ∀ b, w.heap.size ≤ b → Mz M z b from fun w z h => h.news ((fun w h => ((HJ.out.ext (Ext.refl w1)).ext h).hN) w ((Ext.refl w1).drew.trans h.1)))
    refine wp_region_held_drew (S := fun _ => True) (by kernel_rfl) trivial (fun _ => ?_)
    refine ordG w1 20 180 #[true, true, true, true, true, true, true, true, true, true, true, true, true, true, true, true, true, true, true, true, false, false] 2 [Sp.val (.pointer (some ⟨w0.heap.size, 0, none⟩)), Sp.val (.slice (some ⟨bg, og, none⟩) G.length ca), Sp.val (.pointer (some ⟨w0.heap.size, 0, none⟩)), Sp.val (.slice (some ⟨bg, og, none⟩) G.length ca), Sp.val (.int .i64 (G.length : Int)), Sp.val (.int .i64 ((G.length : Int) - 1)), Sp.val (.pointer (some ⟨w0.heap.size + 1 + 1, 1, none⟩)), Sp.val (.int .i64 n), Sp.val (.int .i64 (i : Int)), Sp.val (.pointer (some ⟨bg, og + i * 3, none⟩)), Sp.val (.agg #[.int .i64 x1, .int .i64 x2, .slice x3 x4 x5]), Sp.val (.pointer (some ⟨w0.heap.size + 1 + 1, 1, none⟩)), Sp.val (.int .i64 n), Sp.val (.int .i64 (n + 1)), Sp.two M T1 (.bool zz), Sp.tree M T1, Sp.val (.bool zz), Sp.two M T2 (.int .i64 d), Sp.tree M T2, Sp.val (.int .i64 d)] (by kernel_rfl) rfl (by kernel_rfl) (by kernel_rfl) (by kernel_rfl) ?steps_13 ?fin_13
    case steps_13 =>
      refine And.intro (.inr ?s0_13) (And.intro (.inr ?s1_13) (And.intro (.inr ?s2_13) (And.intro (.inr ?s3_13) (And.intro (.inr ?s4_13) (And.intro (.inr ?s5_13) (And.intro (.inr ?s6_13) (And.intro (.inr ?s7_13) (And.intro (.inr ?s8_13) (And.intro (.inr ?s9_13) (And.intro (.inr ?s10_13) (And.intro (.inr ?s11_13) (And.intro (.inr ?s12_13) (And.intro (.inr ?s13_13) (And.intro (.inr ?s14_13) (And.intro (.inr ?s15_13) (And.intro (.inr ?s16_13) (And.intro (.inr ?s17_13) (And.intro (.inr ?s18_13) (And.intro (.inr ?s19_13) (trivial))))))))))))))))))))
      all_goals (intro a w z hE hold hdep; refine Ord.step_of rfl rfl ?_; intro K hK)
      case s0_13 => (have f1 := slot_at (show a.eval (.tmp 1) = .pointer (some ⟨w0.heap.size, 0, none⟩) from hold 1 (by kernel_rfl)); go_simp; exact hK _ _ ⟨_, z, rfl, hE.id, rfl⟩)
      case s1_13 => (have f26 := slot_at (show a.eval (.tmp 26) = .pointer (some ⟨w0.heap.size, 0, none⟩) from hdep 0 26 (by kernel_rfl)); have q0 := hE.1.cell zj0; go_simp; exact hK _ _ ⟨_, z, rfl, hE.id, rfl⟩)
      case s2_13 => (have f1 := slot_at (show a.eval (.tmp 1) = .pointer (some ⟨w0.heap.size, 0, none⟩) from hold 1 (by kernel_rfl)); go_simp; exact hK _ _ ⟨_, z, rfl, hE.id, rfl⟩)
      case s3_13 => (have f28 := slot_at (show a.eval (.tmp 28) = .pointer (some ⟨w0.heap.size, 0, none⟩) from hdep 2 28 (by kernel_rfl)); have q0 := hE.1.cell zj0; go_simp; exact hK _ _ ⟨_, z, rfl, hE.id, rfl⟩)
      case s4_13 => (have f29 := slot_at (show a.eval (.tmp 29) = .slice (some ⟨bg, og, none⟩) G.length ca from hdep 3 29 (by kernel_rfl)); go_simp; exact hK _ _ ⟨_, z, rfl, hE.id, rfl⟩)
      case s5_13 => (have f30 := slot_at (show a.eval (.tmp 30) = .int .i64 (G.length : Int) from hdep 4 30 (by kernel_rfl)); go_simp; exact hK _ _ ⟨_, z, rfl, hE.id, rfl⟩)
      case s6_13 => (have f4 := slot_at (show a.eval (.tmp 4) = .pointer (some ⟨w0.heap.size + 1 + 1, 0, none⟩) from hold 4 (by kernel_rfl)); go_simp; exact hK _ _ ⟨_, z, rfl, hE.id, rfl⟩)
      case s7_13 => (have f32 := slot_at (show a.eval (.tmp 32) = .pointer (some ⟨w0.heap.size + 1 + 1, 1, none⟩) from hdep 6 32 (by kernel_rfl)); have q0 := hE.1.cell zt1; go_simp; exact hK _ _ ⟨_, z, rfl, hE.id, rfl⟩)
      case s8_13 => (have f31 := slot_at (show a.eval (.tmp 31) = .int .i64 ((G.length : Int) - 1) from hdep 5 31 (by kernel_rfl)); have f33 := slot_at (show a.eval (.tmp 33) = .int .i64 n from hdep 7 33 (by kernel_rfl)); go_simp; exact hK _ _ ⟨_, z, rfl, hE.id, rfl⟩)
      case s9_13 => (have f27 := slot_at (show a.eval (.tmp 27) = .slice (some ⟨bg, og, none⟩) G.length ca from hdep 1 27 (by kernel_rfl)); have f34 := slot_at (show a.eval (.tmp 34) = .int .i64 (i : Int) from hdep 8 34 (by kernel_rfl)); go_simp; exact hK _ _ ⟨_, z, rfl, hE.id, rfl⟩)
      case s10_13 => (have f35 := slot_at (show a.eval (.tmp 35) = .pointer (some ⟨bg, og + i * 3, none⟩) from hdep 9 35 (by kernel_rfl)); have q0 := hE.1.cell c0; have q1 := hE.1.cell c1; have q2 := hE.1.cell c2; go_simp; exact hK _ _ ⟨_, z, rfl, hE.id, rfl⟩)
      case s11_13 => (have f4 := slot_at (show a.eval (.tmp 4) = .pointer (some ⟨w0.heap.size + 1 + 1, 0, none⟩) from hold 4 (by kernel_rfl)); go_simp; exact hK _ _ ⟨_, z, rfl, hE.id, rfl⟩)
      case s12_13 => (have f37 := slot_at (show a.eval (.tmp 37) = .pointer (some ⟨w0.heap.size + 1 + 1, 1, none⟩) from hdep 11 37 (by kernel_rfl)); have q0 := hE.1.cell zt1; go_simp; exact hK _ _ ⟨_, z, rfl, hE.id, rfl⟩)
      case s13_13 => (have f38 := slot_at (show a.eval (.tmp 38) = .int .i64 n from hdep 12 38 (by kernel_rfl)); go_simp; exact hK _ _ ⟨_, z, rfl, hE.id, rfl⟩)
      case s14_13 => (have f36 := slot_at (show a.eval (.tmp 36) = .agg #[.int .i64 x1, .int .i64 x2, .slice x3 x4 x5] from hdep 10 36 (by kernel_rfl)); have f39 := slot_at (show a.eval (.tmp 39) = .int .i64 (n + 1) from hdep 13 39 (by kernel_rfl)); go_simp; go_at_call 45; refine (HSQ.out w (Mz M z) (X0_1.trans ((Ext.refl _).drew.trans hE.1)) (HNN.out w z hE)).mono ?_; rintro e w' ⟨u, rfl, hu, e'⟩; exact hK _ _ ⟨_, z, rfl, EG.same hE e', u, rfl, hu⟩)
      case s15_13 => (obtain ⟨u40, f40, h40⟩ : ∃ u, a.eval (.tmp 40) = .tuple #[u, .bool zz] ∧ InT w (Mz M z) T1 u := hdep 14 40 (by kernel_rfl); replace f40 := slot_at f40; go_simp; exact hK _ _ ⟨_, z, rfl, hE.id, h40⟩)
      case s16_13 => (obtain ⟨u40, f40, h40⟩ : ∃ u, a.eval (.tmp 40) = .tuple #[u, .bool zz] ∧ InT w (Mz M z) T1 u := hdep 14 40 (by kernel_rfl); replace f40 := slot_at f40; go_simp; exact hK _ _ ⟨_, z, rfl, hE.id, rfl⟩)
      case s17_13 => (have h41 : InT w (Mz M z) T1 (a.eval (.tmp 41)) := hdep 15 41 (by kernel_rfl); obtain ⟨d41_1, d41_2, d41_3, d41_4, d41_5, f41⟩ := h41.three; rw [f41] at h41; replace f41 := slot_at f41; have f42 := slot_at (show a.eval (.tmp 42) = .bool zz from hdep 16 42 (by kernel_rfl)); go_simp; go_at_call 44; refine (HMQ.out w (Mz M z) _ h41).mono ?_; rintro e w' ⟨u, rfl, hu, e'⟩; exact hK _ _ ⟨_, z, rfl, EG.same hE e', u, rfl, hu⟩)
      case s18_13 => (obtain ⟨u43, f43, h43⟩ : ∃ u, a.eval (.tmp 43) = .tuple #[u, .int .i64 d] ∧ InT w (Mz M z) T2 u := hdep 17 43 (by kernel_rfl); replace f43 := slot_at f43; go_simp; exact hK _ _ ⟨_, z, rfl, hE.id, h43⟩)
      case s19_13 => (obtain ⟨u43, f43, h43⟩ : ∃ u, a.eval (.tmp 43) = .tuple #[u, .int .i64 d] ∧ InT w (Mz M z) T2 u := hdep 17 43 (by kernel_rfl); replace f43 := slot_at f43; go_simp; exact hK _ _ ⟨_, z, rfl, hE.id, rfl⟩)
    case fin_13 =>
      intro v w' z hE' hG
      have t18_ : InT w' (Mz M z) T2 (v 18) := hG 18 (by decide) rfl
      obtain ⟨a18_1, a18_2, a18_3, a18_4, a18_5, v18_⟩ := t18_.three
      rw [v18_] at t18_
      have T18_ := Lib.hid t18_
      clear t18_
      have v19_ : v 19 = .int .i64 d := hG 19 (by decide) rfl
      rw [Ord.putN_all]
      simp only [Ord.putO, Ord.dstOf, List.getElem?_toArray, List.getElem?_cons_zero, List.getElem?_cons_succ, Option.bind_some, Act.put, List.setIfInBounds_toArray, List.set_cons_zero, List.set_cons_succ]
      rw [v18_, v19_]
      clear hG v18_ v19_
      have e2 : Ext w1 w' := (Ext.refl w1).drew.trans hE'.1
      clear hE'
      obtain ⟨w2, rfl⟩ : ∃ x, x = w' := ⟨_, rfl⟩
      have s2 := e2.size
      clear c0 c1 c2 hw1 hw2 hw3 t1 zj0 zj1 zj2 zj3 zj4 lj zr0 zr1 zr2 yr0 yr1 yr2 lr zt0 zt1 zt2 lt
      have X0_2 := X0_1.trans e2
      have br_2 := e2.blk br_1
      obtain ⟨zr0, zr1, zr2, yr0, yr1, yr2⟩ := own3 br_2
      refine wpAnyH_ready (rs := [20]) (by kernel_rfl) (by simp) ?_
      refine AllReadyH.cons rfl (fun K hK => ?_) AllReadyH.nil
      go_simp
      refine hK.out _ _ trivial (fun _ => ?_)
      clear hK K
      refine wpAnyH_take (i := 21) (v := ?v21_13) rfl (by kernel_rfl) (by kernel_rfl) (by kernel_rfl) (fun _ _ _ h => h) (Or.inl ⟨by rfl, ?hy21_13⟩) trivial ?rest21_13
      case hy21_13 => (intro w hSw; go_simp; (try with_reducible rfl))
      try simp only [Act.put, List.getElem_toArray, List.getElem_cons_succ, List.getElem_cons_zero, List.setIfInBounds_toArray, List.set_cons_zero, List.set_cons_succ]
      refine wpAnyH_done (by kernel_rfl) ?_ _
      go_wp2_with fail
      refine bodyPost_ret (v := .tuple #[.agg #[.int .i64 a18_1, .int .i64 a18_2, .slice a18_3 a18_4 a18_5], .int .i64 d]) (by simp [results, Try.results37, go_sem, zr0, zr1, zr2]) rfl ⟨_, rfl, InT.ret (HM.out ▸ InT.mono (fun b hb => hb.1) (fun _ _ => rfl) T18_.out) _ _ _, (X0_2.set3 (by omega) _ _ _)⟩
set_option maxRecDepth 100000 in
set_option maxHeartbeats 8000000 in
theorem judged_5 {wC : World} {p1 p2 : Nat} {A : Option Addr} {G : List Tr} {At : Option Addr} {ks : List Tr} {ty : Nat → An} (n : Int) (ca ct : Nat) (hlt : ks.length ≤ ct) (hct : ct ≤ maxLen) (w0 : World) (N : Nat → Prop) (hJ : JOk wC w0 N p1 p2 A G At ks ty) (hks : ks.length = 2) (hv1 : valid sigT (kd ks 1) = true) (r : Tr × Int) (h : appV ty (kd ks 1) = some r) : Calls Try.prog 37 #[.agg #[.slice A G.length ca, .int .i64 5, .int .i64 n, .slice At ks.length ct, .func (.func 35) #[] #[.pointer (some ⟨p1, 0, none⟩), .pointer (some ⟨p2, 0, none⟩)]]] w0 (AnQ N w0 r) := by
  have HKS := Lib.hid hks
  have HV1 := Lib.hid hv1
  obtain ⟨sA, c, hf, -, -⟩ := thn_code h
  unfold appV at h
  rw [hf] at h
  obtain ⟨d, h1, h2, h3, h4⟩ := has_code2 h
  have hsp : c = 0 → sA.kids.length = 2 ∧ valid sigT sA = true := fun h0 => by
    subst h0
    obtain ⟨-, q1, q2⟩ := frm_len hf
    have : opsT 3 = 2 := rfl
    exact ⟨by omega, q2⟩
  obtain ⟨qk, qn, qs⟩ := sA
  simp only [Tr.kids] at h1 h2 h3 hsp
  have HF := Lib.hid hf
  have H1 := Lib.hid h1
  have H2 := Lib.hid h2
  have H3 := Lib.hid h3
  have H4 := Lib.hid h4
  have HSP := Lib.hid hsp
  clear h1 h2 h3 h4 hsp
  clear h hv1 hf
  obtain ⟨b, o, rfl, hkid⟩ := InK.kid hJ.hK (by omega)
  obtain ⟨k11, k12, k13, k14, k15, hk10, hk11, hk12, hkT1⟩ := hkid 1 (by omega)
  simp only [Nat.mul_one] at hk10 hk11 hk12
  have KT1 := Lib.hid hkT1
  clear hkT1
  have hp1 : (1 : Int) < (ks.length : Int) := by omega
  have hq1 : 1 < ks.length := by omega
  clear hkid
  clear hks
  obtain ⟨w1, hw1⟩ : ∃ x, x = (((w0.alloc (.cells #[.slice A G.length ca, .int .i64 5, .int .i64 n, .slice (some ⟨b, o, none⟩) ks.length ct, .func (.func 35) #[] #[.pointer (some ⟨p1, 0, none⟩), .pointer (some ⟨p2, 0, none⟩)]] 65)).alloc (.cells #[.int .i64 0, .int .i64 0, .slice none 0 0] 27)).alloc (.cells #[.int .i64 5, .int .i64 n, .slice (some ⟨b, o, none⟩) ks.length ct] 27)) := ⟨_, rfl⟩
  obtain ⟨bj_1, br_1, bt_1, s1, e1⟩ := box3 hw1
  have HJ := Lib.hid (hJ.keep e1 (g := w0.heap.size + 1) (Nat.le_succ _) (by omega))
  obtain ⟨M, hM⟩ : ∃ M, M = (fun b => N b ∧ b ≠ w0.heap.size + 1) := ⟨_, rfl⟩
  rw [← hM] at HJ
  have HM := Lib.hid hM
  clear hM hJ
  go_enter Try.func37, Try.ntmps37
  go_wp2_with fail
  rw [← hw1]
  clear hw1
  refine (form_any 5 n ca ct hlt hct w1 M (HJ.out.ext (Ext.refl w1)) 0 (by rw [HKS.out]; decide) 3 _ HF.out).mono ?_
  rintro e w2 ⟨u, rfl, hT, e2⟩
  have s2 := e2.size
  simp only at hT ⊢
  obtain ⟨A3, c1, rfl, hl3, hc3, hK3⟩ := InT.mk_iff.1 hT
  have T6 := Lib.hid hT
  clear hT hK3
  have bj_2 := e2.blk bj_1
  obtain ⟨zj0, zj1, zj2, zj3, zj4⟩ := own5 bj_2
  have lj := lt_of_blk bj_2
  have br_2 := e2.blk br_1
  obtain ⟨zr0, zr1, zr2, yr0, yr1, yr2⟩ := own3 br_2
  have lr := lt_of_blk br_2
  have bt_2 := e2.blk bt_1
  obtain ⟨zt0, zt1, zt2, -⟩ := own3 bt_2
  have lt := lt_of_blk bt_2
  obtain ⟨w3, hw3⟩ : ∃ x, x = w2.alloc (.cells #[.int .i64 qk, .int .i64 qn, .slice A3 qs.length c1] 27) := ⟨_, rfl⟩
  have e3 : Ext w2 w3 := hw3 ▸ (Ext.refl w2).alloc _
  have bq_3 := heap_alloc_new w2 (.cells #[.int .i64 qk, .int .i64 qn, .slice A3 qs.length c1] 27)
  rw [← hw3] at bq_3
  have s3 : w2.heap.size < w3.heap.size := lt_of_blk bq_3
  go_wp2_with fail
  rw [← hw3]
  clear hw3
  clear zj0 zj1 zj2 zj3 zj4 lj zr0 zr1 zr2 yr0 yr1 yr2 lr zt0 zt1 zt2 lt
  have bj_3 := e3.blk bj_2
  obtain ⟨zj0, zj1, zj2, zj3, zj4⟩ := own5 bj_3
  have lj := lt_of_blk bj_3
  have br_3 := e3.blk br_2
  obtain ⟨zr0, zr1, zr2, yr0, yr1, yr2⟩ := own3 br_3
  have lr := lt_of_blk br_3
  have bt_3 := e3.blk bt_2
  obtain ⟨zt0, zt1, zt2, -⟩ := own3 bt_3
  have lt := lt_of_blk bt_3
  obtain ⟨zq0, zq1, zq2, -⟩ := own3 bq_3
  have lq := lt_of_blk bq_3
  have X2_3 := e3
  have X1_2 := e2
  have X1_3 := X1_2.trans e3
  have HNN := Lib.hid (show ∀ w z, EG (w3.drew, []) (w, z) → ∀ b, w.heap.size ≤ b → Mz M z b from fun w z h => h.news ((fun w h => ((HJ.out.ext X1_3).ext h).hN) w ((Ext.refl w3).drew.trans h.1)))
  refine wp_region_held_drew (S := fun _ => True) (by kernel_rfl) trivial (fun _ => ?_)
  refine ordG w3 5 180 #[true, true, true, true, true, false] 1 [Sp.val (.agg #[.slice A G.length ca, .int .i64 5, .int .i64 n, .slice (some ⟨b, o, none⟩) ks.length ct, .func (.func 35) #[] #[.pointer (some ⟨p1, 0, none⟩), .pointer (some ⟨p2, 0, none⟩)]]), Sp.val (.agg #[.int .i64 qk, .int .i64 qn, .slice A3 qs.length c1]), Sp.tree M (kd qs 0), Sp.val (.int .i64 c), Sp.val (.int .i64 d)] (by kernel_rfl) rfl (by kernel_rfl) (by kernel_rfl) (by kernel_rfl) ?steps_14 ?fin_14
  case steps_14 =>
    refine And.intro (.inr ?s0_14) (And.intro (.inr ?s1_14) (And.intro (.inr ?s2_14) (And.intro (.inr ?s3_14) (And.intro (.inr ?s4_14) (trivial)))))
    all_goals (intro a w z hE hold hdep; refine Ord.step_of rfl rfl ?_; intro K hK)
    case s0_14 => (have f1 := slot_at (show a.eval (.tmp 1) = .pointer (some ⟨w0.heap.size, 0, none⟩) from hold 1 (by kernel_rfl)); have q0 := hE.1.cell zj0; have q1 := hE.1.cell zj1; have q2 := hE.1.cell zj2; have q3 := hE.1.cell zj3; have q4 := hE.1.cell zj4; go_simp; exact hK _ _ ⟨_, z, rfl, hE.id, rfl⟩)
    case s1_14 => (have f6 := slot_at (show a.eval (.tmp 6) = .pointer (some ⟨w2.heap.size, 0, none⟩) from hold 6 (by kernel_rfl)); have q0 := hE.1.cell zq0; have q1 := hE.1.cell zq1; have q2 := hE.1.cell zq2; go_simp; exact hK _ _ ⟨_, z, rfl, hE.id, rfl⟩)
    case s2_14 => (have f93 := slot_at (show a.eval (.tmp 93) = .agg #[.int .i64 qk, .int .i64 qn, .slice A3 qs.length c1] from hdep 1 93 (by kernel_rfl)); go_simp; go_at_call 52; refine (sideOf_any (.mk qk qn qs) w (Mz M z) _ (InT.oldG (M := M) (T6.out.later X2_3) hE)).mono ?_; rintro e w' ⟨u, rfl, hu, e'⟩; exact hK _ _ ⟨_, z, rfl, EG.same hE e', hu⟩)
    case s3_14 => (have f7 := slot_at (show a.eval (.tmp 7) = .int .i64 c from hold 7 (by kernel_rfl)); go_simp; exact hK _ _ ⟨_, z, rfl, hE.id, rfl⟩)
    case s4_14 => (have f92 := slot_at (show a.eval (.tmp 92) = .agg #[.slice A G.length ca, .int .i64 5, .int .i64 n, .slice (some ⟨b, o, none⟩) ks.length ct, .func (.func 35) #[] #[.pointer (some ⟨p1, 0, none⟩), .pointer (some ⟨p2, 0, none⟩)]] from hdep 0 92 (by kernel_rfl)); have h94 : InT w (Mz M z) (kd qs 0) (a.eval (.tmp 94)) := hdep 2 94 (by kernel_rfl); obtain ⟨d94_1, d94_2, d94_3, d94_4, d94_5, f94⟩ := h94.three; rw [f94] at h94; replace f94 := slot_at f94; have f95 := slot_at (show a.eval (.tmp 95) = .int .i64 c from hdep 3 95 (by kernel_rfl)); go_simp; go_at_call 51; refine (jhas_any 5 n ca ct hlt hct w M ((HJ.out.ext X1_3).ext ((Ext.refl _).drew.trans hE.1)) 1 (by rw [HKS.out]; decide) (kd qs 0) _ (InT.mono (fun b hb => hb.1) (fun _ _ => rfl) h94) c d H1.out H2.out).mono ?_; rintro e w' ⟨rfl, e'⟩; exact hK _ _ ⟨_, z, rfl, EG.same hE e', rfl⟩)
  case fin_14 =>
    intro v w' z hE' hG
    have v4_ : v 4 = .int .i64 d := hG 4 (by decide) rfl
    rw [Ord.putN_all]
    simp only [Ord.putO, Ord.dstOf, List.getElem?_toArray, List.getElem?_cons_zero, List.getElem?_cons_succ, Option.bind_some, Act.put, List.setIfInBounds_toArray, List.set_cons_zero, List.set_cons_succ]
    rw [v4_]
    clear hG v4_
    have e4 : Ext w3 w' := (Ext.refl w3).drew.trans hE'.1
    clear hE'
    obtain ⟨w4, rfl⟩ : ∃ x, x = w' := ⟨_, rfl⟩
    have s4 := e4.size
    refine wpAnyH_take (i := 5) (v := ?v5_14) rfl (by kernel_rfl) (by kernel_rfl) (by kernel_rfl) (fun _ _ _ h => h) (Or.inl ⟨by rfl, ?hy5_14⟩) trivial ?rest5_14
    case hy5_14 => (intro w hSw; go_simp; (try with_reducible rfl))
    try simp only [Act.put, List.getElem_toArray, List.getElem_cons_succ, List.getElem_cons_zero, List.setIfInBounds_toArray, List.set_cons_zero, List.set_cons_succ]
    refine wpAnyH_done (by kernel_rfl) ?_ _
    clear zj0 zj1 zj2 zj3 zj4 lj zr0 zr1 zr2 yr0 yr1 yr2 lr zt0 zt1 zt2 lt zq0 zq1 zq2 lq
    by_cases hc0 : d = 0
    case neg =>
      obtain rfl := H4.out hc0
      have t1 : (d != 0) = true := by simp [hc0]
      clear hc0 H4 hk10 hk11 hk12
      have bj_4 := e4.blk bj_3
      obtain ⟨zj0, zj1, zj2, zj3, zj4⟩ := own5 bj_4
      have lj := lt_of_blk bj_4
      have br_4 := e4.blk br_3
      obtain ⟨zr0, zr1, zr2, yr0, yr1, yr2⟩ := own3 br_4
      have lr := lt_of_blk br_4
      have bt_4 := e4.blk bt_3
      obtain ⟨zt0, zt1, zt2, -⟩ := own3 bt_4
      have lt := lt_of_blk bt_4
      have bq_4 := e4.blk bq_3
      obtain ⟨zq0, zq1, zq2, -⟩ := own3 bq_4
      have lq := lt_of_blk bq_4
      have X0_1 := e1
      have X0_2 := X0_1.trans e2
      have X0_3 := X0_2.trans e3
      have X0_4 := X0_3.trans e4
      go_wp2_with fail
      refine bodyPost_ret (v := .tuple #[.agg #[.int .i64 0, .int .i64 0, .slice none 0 0], .int .i64 d]) (by simp [results, Try.results37, go_sem, zr0, zr1, zr2]) rfl ⟨_, rfl, leafT _ _ 0 0, (X0_4.set3 (by omega) _ _ _)⟩
    obtain ⟨hcc, hq⟩ := H3.out hc0
    subst hc0
    obtain ⟨hl2, hsv⟩ := HSP.out hcc
    clear H1 H2 H3 H4 hcc HSP
    have hs1 : valid sigT (kd qs 1) = true := kd_valid (t := .mk qk qn qs) hsv (by show 1 < qs.length; omega)
    have hi1 : (1 : Int) < (qs.length : Int) := by omega
    have hj1 : 1 < qs.length := by omega
    obtain ⟨X, hX⟩ : ∃ X, sbsT (kd ks 1) (kd qs 1) 0 0 = X := ⟨_, rfl⟩
    obtain ⟨⟨T2, d⟩, hTT⟩ : ∃ q, mkV X = q := ⟨_, rfl⟩
    obtain rfl : r = (T2, d) := by rw [hX, hTT] at hq; simpa using hq.symm
    have X2_4 := X2_3.trans e4
    obtain ⟨A9, c9, he9, hl9, hc9, hK9⟩ := InT.mk_iff.1 (T6.out.later X2_4)
    simp only [Value.agg.injEq, Array.mk.injEq, List.cons.injEq, Value.slice.injEq, and_true, true_and] at he9
    obtain ⟨rfl, rfl⟩ := he9
    obtain ⟨b2, o2, rfl, hkid2⟩ := InK.kid hK9 (by omega)
    obtain ⟨y1, y2, y3, y4, y5, hy0, hy1, hy2, hyT⟩ := hkid2 1 (by omega)
    simp only [Nat.mul_one] at hy0 hy1 hy2
    have Sy := Lib.hid hyT
    clear hyT
    have HMQ : Hid (MadQ (okT X) (valid sigT X) (T2, d)) := Lib.hid (hTT ▸ madQ X)
    have HSQ : Hid (∀ vu, SubQ w4 (kd ks 1) _ vu (okT X) (valid sigT X)) := Lib.hid (fun vu => hX ▸ subQ Sy.out.lies' hs1 HV1.out)
    generalize okT X = T1 at HMQ HSQ
    generalize valid sigT X = zz at HMQ HSQ
    clear hq hX hTT hs1 hl2 hsv hK9 hkid2 hl9 hc9
    have bj_4 := e4.blk bj_3
    obtain ⟨zj0, zj1, zj2, zj3, zj4⟩ := own5 bj_4
    have lj := lt_of_blk bj_4
    have br_4 := e4.blk br_3
    obtain ⟨zr0, zr1, zr2, yr0, yr1, yr2⟩ := own3 br_4
    have lr := lt_of_blk br_4
    have bt_4 := e4.blk bt_3
    obtain ⟨zt0, zt1, zt2, -⟩ := own3 bt_4
    have lt := lt_of_blk bt_4
    have bq_4 := e4.blk bq_3
    obtain ⟨zq0, zq1, zq2, -⟩ := own3 bq_4
    have lq := lt_of_blk bq_4
    go_wp2_with fail
    clear zj0 zj1 zj2 zj3 zj4 lj zr0 zr1 zr2 yr0 yr1 yr2 lr zt0 zt1 zt2 lt zq0 zq1 zq2 lq
    have X0_1 := e1
    have X0_2 := X0_1.trans e2
    have X0_3 := X0_2.trans e3
    have X0_4 := X0_3.trans e4
    replace hk10 := X0_4.cell hk10
    replace hk11 := X0_4.cell hk11
    replace hk12 := X0_4.cell hk12
    obtain ⟨zj0, zj1, zj2, zj3, zj4⟩ := own5 bj_4
    have lj := lt_of_blk bj_4
    obtain ⟨zr0, zr1, zr2, yr0, yr1, yr2⟩ := own3 br_4
    have lr := lt_of_blk br_4
    obtain ⟨zt0, zt1, zt2, -⟩ := own3 bt_4
    have lt := lt_of_blk bt_4
    obtain ⟨zq0, zq1, zq2, -⟩ := own3 bq_4
    have lq := lt_of_blk bq_4
    have X1_4 := X1_3.trans e4
    have HNN := Lib.hid (show ∀ w z, EG (w4.drew, []) (w, z) → ∀ b, w.heap.size ≤ b → Mz M z b from fun w z h => h.news ((fun w h => ((HJ.out.ext X1_4).ext h).hN) w ((Ext.refl w4).drew.trans h.1)))
    refine wp_region_held_drew (S := fun _ => True) (by kernel_rfl) trivial (fun _ => ?_)
    refine ordG w4 14 180 #[true, true, true, true, true, true, true, true, true, true, true, true, true, true, false, false] 2 [Sp.val (.pointer (some ⟨w2.heap.size, 2, none⟩)), Sp.val (.slice (some ⟨b2, o2, none⟩) qs.length c1), Sp.val (.pointer (some ⟨b2, o2 + 3, none⟩)), Sp.val (.agg #[.int .i64 y1, .int .i64 y2, .slice y3 y4 y5]), Sp.val (.pointer (some ⟨w0.heap.size + 1 + 1, 2, none⟩)), Sp.val (.slice (some ⟨b, o, none⟩) ks.length ct), Sp.val (.pointer (some ⟨b, o + 3, none⟩)), Sp.val (.agg #[.int .i64 k11, .int .i64 k12, .slice k13 k14 k15]), Sp.two M T1 (.bool zz), Sp.tree M T1, Sp.val (.bool zz), Sp.two M T2 (.int .i64 d), Sp.tree M T2, Sp.val (.int .i64 d)] (by kernel_rfl) rfl (by kernel_rfl) (by kernel_rfl) (by kernel_rfl) ?steps_15 ?fin_15
    case steps_15 =>
      refine And.intro (.inr ?s0_15) (And.intro (.inr ?s1_15) (And.intro (.inr ?s2_15) (And.intro (.inr ?s3_15) (And.intro (.inr ?s4_15) (And.intro (.inr ?s5_15) (And.intro (.inr ?s6_15) (And.intro (.inr ?s7_15) (And.intro (.inr ?s8_15) (And.intro (.inr ?s9_15) (And.intro (.inr ?s10_15) (And.intro (.inr ?s11_15) (And.intro (.inr ?s12_15) (And.intro (.inr ?s13_15) (trivial))))))))))))))
      all_goals (intro a w z hE hold hdep; refine Ord.step_of rfl rfl ?_; intro K hK)
      case s0_15 => (have f6 := slot_at (show a.eval (.tmp 6) = .pointer (some ⟨w2.heap.size, 0, none⟩) from hold 6 (by kernel_rfl)); go_simp; exact hK _ _ ⟨_, z, rfl, hE.id, rfl⟩)
      case s1_15 => (have f101 := slot_at (show a.eval (.tmp 101) = .pointer (some ⟨w2.heap.size, 2, none⟩) from hdep 0 101 (by kernel_rfl)); have q0 := hE.1.cell zq2; go_simp; exact hK _ _ ⟨_, z, rfl, hE.id, rfl⟩)
      case s2_15 => (have f102 := slot_at (show a.eval (.tmp 102) = .slice (some ⟨b2, o2, none⟩) qs.length c1 from hdep 1 102 (by kernel_rfl)); go_simp; exact hK _ _ ⟨_, z, rfl, hE.id, rfl⟩)
      case s3_15 => (have f103 := slot_at (show a.eval (.tmp 103) = .pointer (some ⟨b2, o2 + 3, none⟩) from hdep 2 103 (by kernel_rfl)); have q0 := hE.1.cell hy0; have q1 := hE.1.cell hy1; have q2 := hE.1.cell hy2; go_simp; exact hK _ _ ⟨_, z, rfl, hE.id, rfl⟩)
      case s4_15 => (have f4 := slot_at (show a.eval (.tmp 4) = .pointer (some ⟨w0.heap.size + 1 + 1, 0, none⟩) from hold 4 (by kernel_rfl)); go_simp; exact hK _ _ ⟨_, z, rfl, hE.id, rfl⟩)
      case s5_15 => (have f105 := slot_at (show a.eval (.tmp 105) = .pointer (some ⟨w0.heap.size + 1 + 1, 2, none⟩) from hdep 4 105 (by kernel_rfl)); have q0 := hE.1.cell zt2; go_simp; exact hK _ _ ⟨_, z, rfl, hE.id, rfl⟩)
      case s6_15 => (have f106 := slot_at (show a.eval (.tmp 106) = .slice (some ⟨b, o, none⟩) ks.length ct from hdep 5 106 (by kernel_rfl)); go_simp; exact hK _ _ ⟨_, z, rfl, hE.id, rfl⟩)
      case s7_15 => (have f107 := slot_at (show a.eval (.tmp 107) = .pointer (some ⟨b, o + 3, none⟩) from hdep 6 107 (by kernel_rfl)); have q0 := hE.1.cell hk10; have q1 := hE.1.cell hk11; have q2 := hE.1.cell hk12; go_simp; exact hK _ _ ⟨_, z, rfl, hE.id, rfl⟩)
      case s8_15 => (have f104 := slot_at (show a.eval (.tmp 104) = .agg #[.int .i64 y1, .int .i64 y2, .slice y3 y4 y5] from hdep 3 104 (by kernel_rfl)); have f108 := slot_at (show a.eval (.tmp 108) = .agg #[.int .i64 k11, .int .i64 k12, .slice k13 k14 k15] from hdep 7 108 (by kernel_rfl)); go_simp; go_at_call 53; refine (HSQ.out _ w (Mz M z) ((Ext.refl w4).trans ((Ext.refl _).drew.trans hE.1)) (InT.lies' (InT.later KT1.out (X0_4.trans ((Ext.refl _).drew.trans hE.1)))) (HNN.out w z hE)).mono ?_; rintro e w' ⟨u, rfl, hu, e'⟩; exact hK _ _ ⟨_, z, rfl, EG.same hE e', u, rfl, hu⟩)
      case s9_15 => (obtain ⟨u109, f109, h109⟩ : ∃ u, a.eval (.tmp 109) = .tuple #[u, .bool zz] ∧ InT w (Mz M z) T1 u := hdep 8 109 (by kernel_rfl); replace f109 := slot_at f109; go_simp; exact hK _ _ ⟨_, z, rfl, hE.id, h109⟩)
      case s10_15 => (obtain ⟨u109, f109, h109⟩ : ∃ u, a.eval (.tmp 109) = .tuple #[u, .bool zz] ∧ InT w (Mz M z) T1 u := hdep 8 109 (by kernel_rfl); replace f109 := slot_at f109; go_simp; exact hK _ _ ⟨_, z, rfl, hE.id, rfl⟩)
      case s11_15 => (have h110 : InT w (Mz M z) T1 (a.eval (.tmp 110)) := hdep 9 110 (by kernel_rfl); obtain ⟨d110_1, d110_2, d110_3, d110_4, d110_5, f110⟩ := h110.three; rw [f110] at h110; replace f110 := slot_at f110; have f111 := slot_at (show a.eval (.tmp 111) = .bool zz from hdep 10 111 (by kernel_rfl)); go_simp; go_at_call 44; refine (HMQ.out w (Mz M z) _ h110).mono ?_; rintro e w' ⟨u, rfl, hu, e'⟩; exact hK _ _ ⟨_, z, rfl, EG.same hE e', u, rfl, hu⟩)
      case s12_15 => (obtain ⟨u112, f112, h112⟩ : ∃ u, a.eval (.tmp 112) = .tuple #[u, .int .i64 d] ∧ InT w (Mz M z) T2 u := hdep 11 112 (by kernel_rfl); replace f112 := slot_at f112; go_simp; exact hK _ _ ⟨_, z, rfl, hE.id, h112⟩)
      case s13_15 => (obtain ⟨u112, f112, h112⟩ : ∃ u, a.eval (.tmp 112) = .tuple #[u, .int .i64 d] ∧ InT w (Mz M z) T2 u := hdep 11 112 (by kernel_rfl); replace f112 := slot_at f112; go_simp; exact hK _ _ ⟨_, z, rfl, hE.id, rfl⟩)
    case fin_15 =>
      intro v w' z hE' hG
      have t12_ : InT w' (Mz M z) T2 (v 12) := hG 12 (by decide) rfl
      obtain ⟨a12_1, a12_2, a12_3, a12_4, a12_5, v12_⟩ := t12_.three
      rw [v12_] at t12_
      have T12_ := Lib.hid t12_
      clear t12_
      have v13_ : v 13 = .int .i64 d := hG 13 (by decide) rfl
      rw [Ord.putN_all]
      simp only [Ord.putO, Ord.dstOf, List.getElem?_toArray, List.getElem?_cons_zero, List.getElem?_cons_succ, Option.bind_some, Act.put, List.setIfInBounds_toArray, List.set_cons_zero, List.set_cons_succ]
      rw [v12_, v13_]
      clear hG v12_ v13_
      have e5 : Ext w4 w' := (Ext.refl w4).drew.trans hE'.1
      clear hE'
      obtain ⟨w5, rfl⟩ : ∃ x, x = w' := ⟨_, rfl⟩
      have s5 := e5.size
      clear hk10 hk11 hk12 hy0 hy1 hy2 zj0 zj1 zj2 zj3 zj4 lj zr0 zr1 zr2 yr0 yr1 yr2 lr zt0 zt1 zt2 lt zq0 zq1 zq2 lq
      have X0_5 := X0_4.trans e5
      have br_5 := e5.blk br_4
      obtain ⟨zr0, zr1, zr2, yr0, yr1, yr2⟩ := own3 br_5
      refine wpAnyH_ready (rs := [14]) (by kernel_rfl) (by simp) ?_
      refine AllReadyH.cons rfl (fun K hK => ?_) AllReadyH.nil
      go_simp
      refine hK.out _ _ trivial (fun _ => ?_)
      clear hK K
      refine wpAnyH_take (i := 15) (v := ?v15_15) rfl (by kernel_rfl) (by kernel_rfl) (by kernel_rfl) (fun _ _ _ h => h) (Or.inl ⟨by rfl, ?hy15_15⟩) trivial ?rest15_15
      case hy15_15 => (intro w hSw; go_simp; (try with_reducible rfl))
      try simp only [Act.put, List.getElem_toArray, List.getElem_cons_succ, List.getElem_cons_zero, List.setIfInBounds_toArray, List.set_cons_zero, List.set_cons_succ]
      refine wpAnyH_done (by kernel_rfl) ?_ _
      go_wp2_with fail
      refine bodyPost_ret (v := .tuple #[.agg #[.int .i64 a12_1, .int .i64 a12_2, .slice a12_3 a12_4 a12_5], .int .i64 d]) (by simp [results, Try.results37, go_sem, zr0, zr1, zr2]) rfl ⟨_, rfl, InT.ret (HM.out ▸ InT.mono (fun b hb => hb.1) (fun _ _ => rfl) T12_.out) _ _ _, (X0_5.set3 (by omega) _ _ _)⟩
set_option maxRecDepth 100000 in
set_option maxHeartbeats 8000000 in
theorem judged_11 {wC : World} {p1 p2 : Nat} {A : Option Addr} {G : List Tr} {At : Option Addr} {ks : List Tr} {ty : Nat → An} (n : Int) (ca ct : Nat) (hlt : ks.length ≤ ct) (hct : ct ≤ maxLen) (w0 : World) (N : Nat → Prop) (hJ : JOk wC w0 N p1 p2 A G At ks ty) (inf : Tr → An) (hI : InfF wC A ca G inf) (hks : ks.length = 1) (hTV : ∀ s, ty 0 = some (s, 0) → valid sigT s = true) (r : Tr × Int) (h : rflV inf ty (kd ks 0) = some r) : Calls Try.prog 37 #[.agg #[.slice A G.length ca, .int .i64 11, .int .i64 n, .slice At ks.length ct, .func (.func 35) #[] #[.pointer (some ⟨p1, 0, none⟩), .pointer (some ⟨p2, 0, none⟩)]]] w0 (AnQ N w0 r) := by
  have HKS := Lib.hid hks
  have HINF := Lib.hid hI
  have HTV := Lib.hid hTV
  obtain ⟨sA, c, h1, h2, h3⟩ := thn_code h
  have H1 := Lib.hid h1
  have H2 := Lib.hid h2
  have H3 := Lib.hid h3
  clear h1 h2 h3
  clear h hI hTV
  obtain ⟨b, o, rfl, hkid⟩ := InK.kid hJ.hK (by omega)
  obtain ⟨k01, k02, k03, k04, k05, hk00, hk01, hk02, hkT0⟩ := hkid 0 (by omega)
  simp only [Nat.mul_zero, Nat.add_zero] at hk00 hk01 hk02
  have KT0 := Lib.hid hkT0
  clear hkT0
  have hp0 : (0 : Int) < (ks.length : Int) := by omega
  have hq0 : 0 < ks.length := by omega
  clear hkid
  clear hks
  obtain ⟨w1, hw1⟩ : ∃ x, x = (((w0.alloc (.cells #[.slice A G.length ca, .int .i64 11, .int .i64 n, .slice (some ⟨b, o, none⟩) ks.length ct, .func (.func 35) #[] #[.pointer (some ⟨p1, 0, none⟩), .pointer (some ⟨p2, 0, none⟩)]] 65)).alloc (.cells #[.int .i64 0, .int .i64 0, .slice none 0 0] 27)).alloc (.cells #[.int .i64 11, .int .i64 n, .slice (some ⟨b, o, none⟩) ks.length ct] 27)) := ⟨_, rfl⟩
  obtain ⟨bj_1, br_1, bt_1, s1, e1⟩ := box3 hw1
  have HJ := Lib.hid (hJ.keep e1 (g := w0.heap.size + 1) (Nat.le_succ _) (by omega))
  obtain ⟨M, hM⟩ : ∃ M, M = (fun b => N b ∧ b ≠ w0.heap.size + 1) := ⟨_, rfl⟩
  rw [← hM] at HJ
  have HM := Lib.hid hM
  clear hM hJ
  go_enter Try.func37, Try.ntmps37
  go_wp2_with fail
  rw [← hw1]
  clear hw1
  refine ((HJ.out.ext (Ext.refl w1)).hT w1 _ (HJ.out.ext (Ext.refl w1)).hx (HJ.out.ext (Ext.refl w1)).hN (HJ.out.ext (Ext.refl w1)).hG (HJ.out.ext (Ext.refl w1)).hK 0 (by rw [HKS.out]; decide) _ H1.out).mono ?_
  rintro e w2 ⟨u, rfl, hT, e2⟩
  have s2 := e2.size
  obtain ⟨a1, b1, A1, l1, c1, rfl⟩ := hT.three
  have T1 := Lib.hid hT
  clear hT
  by_cases hc0 : c = 0
  case neg =>
    obtain rfl := H3.out hc0
    have t1 : (c != 0) = true := by simp [hc0]
    clear hc0 H3
    clear hk00 hk01 hk02
    have bj_2 := e2.blk bj_1
    obtain ⟨zj0, zj1, zj2, zj3, zj4⟩ := own5 bj_2
    have lj := lt_of_blk bj_2
    have br_2 := e2.blk br_1
    obtain ⟨zr0, zr1, zr2, yr0, yr1, yr2⟩ := own3 br_2
    have lr := lt_of_blk br_2
    have bt_2 := e2.blk bt_1
    obtain ⟨zt0, zt1, zt2, -⟩ := own3 bt_2
    have lt := lt_of_blk bt_2
    clear lr
    have eq2 : Ext w2 (w2.alloc (.cells #[.int .i64 a1, .int .i64 b1, .slice A1 l1 c1] 27)) := (Ext.refl w2).alloc _
    have X0_1 := e1
    have X0_2 := X0_1.trans e2
    obtain ⟨pr0, pr1, pr2, or0, or1, or2⟩ := own3 (eq2.blk br_2)
    go_wp2_with fail
    refine bodyPost_ret (v := .tuple #[.agg #[.int .i64 0, .int .i64 0, .slice none 0 0], .int .i64 c]) (by simp [results, Try.results37, go_sem, pr0, pr1, pr2]) rfl ⟨_, rfl, leafT _ _ 0 0, ((X0_2.trans eq2).set3 (by omega) _ _ _)⟩
  have hq := H2.out hc0
  subst hc0
  have HVA := Lib.hid (HTV.out _ H1.out)
  clear H1 H2 H3 HTV
  obtain ⟨sB, c, h1, h2, h3⟩ := thn_code hq
  have H1 := Lib.hid h1
  have H2 := Lib.hid h2
  have H3 := Lib.hid h3
  clear h1 h2 h3
  clear hq
  have bj_2 := e2.blk bj_1
  obtain ⟨zj0, zj1, zj2, zj3, zj4⟩ := own5 bj_2
  have lj := lt_of_blk bj_2
  have br_2 := e2.blk br_1
  obtain ⟨zr0, zr1, zr2, yr0, yr1, yr2⟩ := own3 br_2
  have lr := lt_of_blk br_2
  have bt_2 := e2.blk bt_1
  obtain ⟨zt0, zt1, zt2, -⟩ := own3 bt_2
  have lt := lt_of_blk bt_2
  obtain ⟨w3, hw3⟩ : ∃ x, x = w2.alloc (.cells #[.int .i64 a1, .int .i64 b1, .slice A1 l1 c1] 27) := ⟨_, rfl⟩
  have e3 : Ext w2 w3 := hw3 ▸ (Ext.refl w2).alloc _
  have bx1_3 := heap_alloc_new w2 (.cells #[.int .i64 a1, .int .i64 b1, .slice A1 l1 c1] 27)
  rw [← hw3] at bx1_3
  have s3 : w2.heap.size < w3.heap.size := lt_of_blk bx1_3
  go_wp2_with fail
  rw [← hw3]
  clear hw3
  clear zj0 zj1 zj2 zj3 zj4 lj zr0 zr1 zr2 yr0 yr1 yr2 lr zt0 zt1 zt2 lt
  have X1_2 := e2
  have X1_3 := X1_2.trans e3
  have X2_3 := e3
  refine (level_any HINF.out w3 M (HJ.out.ext X1_3).hx (HJ.out.ext X1_3).hN (HJ.out.ext X1_3).hG sA _ (T1.out.later X2_3) HVA.out _ H1.out).mono ?_
  rintro e w4 ⟨rfl, e4⟩
  have s4 := e4.size
  simp only
  by_cases hc0 : c = 0
  case neg =>
    obtain rfl := H3.out hc0
    have t1 : (c != 0) = true := by simp [hc0]
    clear hc0 H3
    clear hk00 hk01 hk02
    have bj_3 := e3.blk bj_2
    have bj_4 := e4.blk bj_3
    obtain ⟨zj0, zj1, zj2, zj3, zj4⟩ := own5 bj_4
    have lj := lt_of_blk bj_4
    have br_3 := e3.blk br_2
    have br_4 := e4.blk br_3
    obtain ⟨zr0, zr1, zr2, yr0, yr1, yr2⟩ := own3 br_4
    have lr := lt_of_blk br_4
    have bt_3 := e3.blk bt_2
    have bt_4 := e4.blk bt_3
    obtain ⟨zt0, zt1, zt2, -⟩ := own3 bt_4
    have lt := lt_of_blk bt_4
    have bx1_4 := e4.blk bx1_3
    obtain ⟨zx10, zx11, zx12, -⟩ := own3 bx1_4
    have lx1 := lt_of_blk bx1_4
    have X0_1 := e1
    have X0_2 := X0_1.trans e2
    have X0_3 := X0_2.trans e3
    have X0_4 := X0_3.trans e4
    go_wp2_with fail
    refine bodyPost_ret (v := .tuple #[.agg #[.int .i64 0, .int .i64 0, .slice none 0 0], .int .i64 c]) (by simp [results, Try.results37, go_sem, zr0, zr1, zr2]) rfl ⟨_, rfl, leafT _ _ 0 0, (X0_4.set3 (by omega) _ _ _)⟩
  obtain ⟨⟨T2, d⟩, hTT⟩ : ∃ q, mkV (.mk 10 0 [sA, kd ks 0, kd ks 0]) = q := ⟨_, rfl⟩
  obtain rfl : r = (T2, d) := by have hq := H2.out hc0; rw [hTT] at hq; simpa using hq.symm
  subst hc0
  have HMQ : Hid (MadQ (.mk 10 0 [sA, kd ks 0, kd ks 0]) true (T2, d)) := Lib.hid (by have := madQ1 (.mk 10 0 [sA, kd ks 0, kd ks 0]); rwa [hTT] at this)
  clear H2 H3 hTT
  have bj_3 := e3.blk bj_2
  have bj_4 := e4.blk bj_3
  obtain ⟨zj0, zj1, zj2, zj3, zj4⟩ := own5 bj_4
  have lj := lt_of_blk bj_4
  have br_3 := e3.blk br_2
  have br_4 := e4.blk br_3
  obtain ⟨zr0, zr1, zr2, yr0, yr1, yr2⟩ := own3 br_4
  have lr := lt_of_blk br_4
  have bt_3 := e3.blk bt_2
  have bt_4 := e4.blk bt_3
  obtain ⟨zt0, zt1, zt2, -⟩ := own3 bt_4
  have lt := lt_of_blk bt_4
  have bx1_4 := e4.blk bx1_3
  obtain ⟨zx10, zx11, zx12, -⟩ := own3 bx1_4
  have lx1 := lt_of_blk bx1_4
  go_wp2_with fail
  clear zj0 zj1 zj2 zj3 zj4 lj zr0 zr1 zr2 yr0 yr1 yr2 lr zt0 zt1 zt2 lt zx10 zx11 zx12 lx1
  have X0_1 := e1
  have X0_2 := X0_1.trans e2
  have X0_3 := X0_2.trans e3
  have X0_4 := X0_3.trans e4
  replace hk00 := X0_4.cell hk00
  replace hk01 := X0_4.cell hk01
  replace hk02 := X0_4.cell hk02
  obtain ⟨zj0, zj1, zj2, zj3, zj4⟩ := own5 bj_4
  have lj := lt_of_blk bj_4
  obtain ⟨zr0, zr1, zr2, yr0, yr1, yr2⟩ := own3 br_4
  have lr := lt_of_blk br_4
  obtain ⟨zt0, zt1, zt2, -⟩ := own3 bt_4
  have lt := lt_of_blk bt_4
  obtain ⟨zx10, zx11, zx12, -⟩ := own3 bx1_4
  have lx1 := lt_of_blk bx1_4
  have X2_4 := X2_3.trans e4
  have X1_4 := X1_3.trans e4
  have HNN := Lib.hid (show ∀ w z, EG (w4.drew, []) (w, z) → ∀ b, w.heap.size ≤ b → Mz M z b from fun w z h => h.news ((fun w h => ((HJ.out.ext X1_4).ext h).hN) w ((Ext.refl w4).drew.trans h.1)))
  refine wp_region_held_drew (S := fun _ => True) (by kernel_rfl) trivial (fun _ => ?_)
  refine ordG w4 14 180 #[true, true, true, true, true, true, true, true, true, true, true, true, true, true, false, false] 2 [Sp.val (.agg #[.int .i64 a1, .int .i64 b1, .slice A1 l1 c1]), Sp.val (.pointer (some ⟨w0.heap.size + 1 + 1, 2, none⟩)), Sp.val (.slice (some ⟨b, o, none⟩) ks.length ct), Sp.val (.pointer (some ⟨b, o, none⟩)), Sp.val (.agg #[.int .i64 k01, .int .i64 k02, .slice k03 k04 k05]), Sp.val (.pointer (some ⟨w0.heap.size + 1 + 1, 2, none⟩)), Sp.val (.slice (some ⟨b, o, none⟩) ks.length ct), Sp.val (.pointer (some ⟨b, o, none⟩)), Sp.val (.agg #[.int .i64 k01, .int .i64 k02, .slice k03 k04 k05]), Sp.row M [sA, kd ks 0, kd ks 0], Sp.tree M (.mk 10 0 [sA, kd ks 0, kd ks 0]), Sp.two M T2 (.int .i64 d), Sp.tree M T2, Sp.val (.int .i64 d)] (by kernel_rfl) rfl (by kernel_rfl) (by kernel_rfl) (by kernel_rfl) ?steps_16 ?fin_16
  case steps_16 =>
    refine And.intro (.inr ?s0_16) (And.intro (.inr ?s1_16) (And.intro (.inr ?s2_16) (And.intro (.inr ?s3_16) (And.intro (.inr ?s4_16) (And.intro (.inr ?s5_16) (And.intro (.inr ?s6_16) (And.intro (.inr ?s7_16) (And.intro (.inr ?s8_16) (And.intro (.inr ?s9_16) (And.intro (.inr ?s10_16) (And.intro (.inr ?s11_16) (And.intro (.inr ?s12_16) (And.intro (.inr ?s13_16) (trivial))))))))))))))
    all_goals (intro a w z hE hold hdep; refine Ord.step_of rfl rfl ?_; intro K hK)
    case s0_16 => (have f9 := slot_at (show a.eval (.tmp 9) = .pointer (some ⟨w2.heap.size, 0, none⟩) from hold 9 (by kernel_rfl)); have q0 := hE.1.cell zx10; have q1 := hE.1.cell zx11; have q2 := hE.1.cell zx12; go_simp; exact hK _ _ ⟨_, z, rfl, hE.id, rfl⟩)
    case s1_16 => (have f4 := slot_at (show a.eval (.tmp 4) = .pointer (some ⟨w0.heap.size + 1 + 1, 0, none⟩) from hold 4 (by kernel_rfl)); go_simp; exact hK _ _ ⟨_, z, rfl, hE.id, rfl⟩)
    case s2_16 => (have f151 := slot_at (show a.eval (.tmp 151) = .pointer (some ⟨w0.heap.size + 1 + 1, 2, none⟩) from hdep 1 151 (by kernel_rfl)); have q0 := hE.1.cell zt2; go_simp; exact hK _ _ ⟨_, z, rfl, hE.id, rfl⟩)
    case s3_16 => (have f152 := slot_at (show a.eval (.tmp 152) = .slice (some ⟨b, o, none⟩) ks.length ct from hdep 2 152 (by kernel_rfl)); go_simp; exact hK _ _ ⟨_, z, rfl, hE.id, rfl⟩)
    case s4_16 => (have f153 := slot_at (show a.eval (.tmp 153) = .pointer (some ⟨b, o, none⟩) from hdep 3 153 (by kernel_rfl)); have q0 := hE.1.cell hk00; have q1 := hE.1.cell hk01; have q2 := hE.1.cell hk02; go_simp; exact hK _ _ ⟨_, z, rfl, hE.id, rfl⟩)
    case s5_16 => (have f4 := slot_at (show a.eval (.tmp 4) = .pointer (some ⟨w0.heap.size + 1 + 1, 0, none⟩) from hold 4 (by kernel_rfl)); go_simp; exact hK _ _ ⟨_, z, rfl, hE.id, rfl⟩)
    case s6_16 => (have f155 := slot_at (show a.eval (.tmp 155) = .pointer (some ⟨w0.heap.size + 1 + 1, 2, none⟩) from hdep 5 155 (by kernel_rfl)); have q0 := hE.1.cell zt2; go_simp; exact hK _ _ ⟨_, z, rfl, hE.id, rfl⟩)
    case s7_16 => (have f156 := slot_at (show a.eval (.tmp 156) = .slice (some ⟨b, o, none⟩) ks.length ct from hdep 6 156 (by kernel_rfl)); go_simp; exact hK _ _ ⟨_, z, rfl, hE.id, rfl⟩)
    case s8_16 => (have f157 := slot_at (show a.eval (.tmp 157) = .pointer (some ⟨b, o, none⟩) from hdep 7 157 (by kernel_rfl)); have q0 := hE.1.cell hk00; have q1 := hE.1.cell hk01; have q2 := hE.1.cell hk02; go_simp; exact hK _ _ ⟨_, z, rfl, hE.id, rfl⟩)
    case s9_16 => (have f150 := slot_at (show a.eval (.tmp 150) = .agg #[.int .i64 a1, .int .i64 b1, .slice A1 l1 c1] from hdep 0 150 (by kernel_rfl)); have f154 := slot_at (show a.eval (.tmp 154) = .agg #[.int .i64 k01, .int .i64 k02, .slice k03 k04 k05] from hdep 4 154 (by kernel_rfl)); have f158 := slot_at (show a.eval (.tmp 158) = .agg #[.int .i64 k01, .int .i64 k02, .slice k03 k04 k05] from hdep 8 158 (by kernel_rfl)); go_simp; refine hK _ _ ⟨_, z, rfl, EG.same hE ((Ext.refl _).alloc _), ⟨_, 3, rfl, Nat.le_refl _, by decide, InK.news3 (InT.oldG (M := M) ((T1.out.later X2_4)) hE) (InT.oldG (M := M) (HM.out ▸ InT.later (InT.keep KT0.out e1 (g := w0.heap.size + 1) (Nat.le_succ _)) X1_4) hE) (InT.oldG (M := M) (HM.out ▸ InT.later (InT.keep KT0.out e1 (g := w0.heap.size + 1) (Nat.le_succ _)) X1_4) hE) (HNN.out w z hE _ (Nat.le_refl _))⟩⟩)
    case s10_16 => (obtain ⟨A159, c159, f159, g159_1, g159_2, g159_3⟩ : ∃ A c, a.eval (.tmp 159) = .slice A 3 c ∧ 3 ≤ c ∧ c ≤ maxLen ∧ InK w (Mz M z) A [sA, kd ks 0, kd ks 0] := hdep 9 159 (by kernel_rfl); replace f159 := slot_at f159; go_simp; go_at_call 14; refine (node_any w 10 A159 3 c159).mono ?_; rintro e w' ⟨rfl, e'⟩; exact hK _ _ ⟨_, z, rfl, EG.same hE e', InT.mk_iff.2 ⟨A159, c159, rfl, g159_1, g159_2, g159_3.later e'⟩⟩)
    case s11_16 => (have h160 : InT w (Mz M z) (.mk 10 0 [sA, kd ks 0, kd ks 0]) (a.eval (.tmp 160)) := hdep 10 160 (by kernel_rfl); obtain ⟨d160_1, d160_2, d160_3, d160_4, d160_5, f160⟩ := h160.three; rw [f160] at h160; replace f160 := slot_at f160; go_simp; go_at_call 44; refine (HMQ.out w (Mz M z) _ h160).mono ?_; rintro e w' ⟨u, rfl, hu, e'⟩; exact hK _ _ ⟨_, z, rfl, EG.same hE e', u, rfl, hu⟩)
    case s12_16 => (obtain ⟨u161, f161, h161⟩ : ∃ u, a.eval (.tmp 161) = .tuple #[u, .int .i64 d] ∧ InT w (Mz M z) T2 u := hdep 11 161 (by kernel_rfl); replace f161 := slot_at f161; go_simp; exact hK _ _ ⟨_, z, rfl, hE.id, h161⟩)
    case s13_16 => (obtain ⟨u161, f161, h161⟩ : ∃ u, a.eval (.tmp 161) = .tuple #[u, .int .i64 d] ∧ InT w (Mz M z) T2 u := hdep 11 161 (by kernel_rfl); replace f161 := slot_at f161; go_simp; exact hK _ _ ⟨_, z, rfl, hE.id, rfl⟩)
  case fin_16 =>
    intro v w' z hE' hG
    have t12_ : InT w' (Mz M z) T2 (v 12) := hG 12 (by decide) rfl
    obtain ⟨a12_1, a12_2, a12_3, a12_4, a12_5, v12_⟩ := t12_.three
    rw [v12_] at t12_
    have T12_ := Lib.hid t12_
    clear t12_
    have v13_ : v 13 = .int .i64 d := hG 13 (by decide) rfl
    rw [Ord.putN_all]
    simp only [Ord.putO, Ord.dstOf, List.getElem?_toArray, List.getElem?_cons_zero, List.getElem?_cons_succ, Option.bind_some, Act.put, List.setIfInBounds_toArray, List.set_cons_zero, List.set_cons_succ]
    rw [v12_, v13_]
    clear hG v12_ v13_
    have e5 : Ext w4 w' := (Ext.refl w4).drew.trans hE'.1
    clear hE'
    obtain ⟨w5, rfl⟩ : ∃ x, x = w' := ⟨_, rfl⟩
    have s5 := e5.size
    clear hk00 hk01 hk02 zj0 zj1 zj2 zj3 zj4 lj zr0 zr1 zr2 yr0 yr1 yr2 lr zt0 zt1 zt2 lt zx10 zx11 zx12 lx1
    have X0_5 := X0_4.trans e5
    have br_5 := e5.blk br_4
    obtain ⟨zr0, zr1, zr2, yr0, yr1, yr2⟩ := own3 br_5
    refine wpAnyH_ready (rs := [14]) (by kernel_rfl) (by simp) ?_
    refine AllReadyH.cons rfl (fun K hK => ?_) AllReadyH.nil
    go_simp
    refine hK.out _ _ trivial (fun _ => ?_)
    clear hK K
    refine wpAnyH_take (i := 15) (v := ?v15_16) rfl (by kernel_rfl) (by kernel_rfl) (by kernel_rfl) (fun _ _ _ h => h) (Or.inl ⟨by rfl, ?hy15_16⟩) trivial ?rest15_16
    case hy15_16 => (intro w hSw; go_simp; (try with_reducible rfl))
    try simp only [Act.put, List.getElem_toArray, List.getElem_cons_succ, List.getElem_cons_zero, List.setIfInBounds_toArray, List.set_cons_zero, List.set_cons_succ]
    refine wpAnyH_done (by kernel_rfl) ?_ _
    go_wp2_with fail
    refine bodyPost_ret (v := .tuple #[.agg #[.int .i64 a12_1, .int .i64 a12_2, .slice a12_3 a12_4 a12_5], .int .i64 d]) (by simp [results, Try.results37, go_sem, zr0, zr1, zr2]) rfl ⟨_, rfl, InT.ret (HM.out ▸ InT.mono (fun b hb => hb.1) (fun _ _ => rfl) T12_.out) _ _ _, (X0_5.set3 (by omega) _ _ _)⟩
end Go.Proofs.Ytdkamgafpphdjaa

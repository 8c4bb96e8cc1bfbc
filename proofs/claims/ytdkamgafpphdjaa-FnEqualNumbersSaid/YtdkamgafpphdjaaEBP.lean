/-
  Lemmas towards the law, 42: InfE.
-/
import Derived.Test.YtdkamgafpphdjaaEBN
namespace Go.Proofs.Ytdkamgafpphdjaa
open Go.RowKit
set_option linter.unusedVariables false
attribute [local go_sem ↓] Go.wp_at_zero Go.wp_at_succ
set_option maxRecDepth 100000 in
set_option maxHeartbeats 8000000 in
theorem recursion_any {wC : World} {p1 p2 : Nat} {A : Option Addr} {G : List Tr} {At : Option Addr} {ks : List Tr} {ty : Nat → An} (k n : Int) (ca ct : Nat) (hlt : ks.length ≤ ct) (hct : ct ≤ maxLen) (w0 : World) (N : Nat → Prop) (hJ : JOk wC w0 N p1 p2 A G At ks ty) (hks : ks.length = 4) (hv0 : valid sigT (kd ks 0) = true) (r : Tr × Int) (h : elmV ty (kd ks 0) (kd ks 3) = some r) : Calls Try.prog 54 #[.agg #[.slice A G.length ca, .int .i64 k, .int .i64 n, .slice At ks.length ct, .func (.func 35) #[] #[.pointer (some ⟨p1, 0, none⟩), .pointer (some ⟨p2, 0, none⟩)]]] w0 (AnQ N w0 r) := by
  have HKS := Lib.hid hks
  have HV0 := Lib.hid hv0
  obtain ⟨c, h1, h2, h3⟩ := fam_some h
  have H1 := Lib.hid h1
  have H2 := Lib.hid h2
  have H3 := Lib.hid h3
  clear h1 h2 h3
  clear h hv0
  obtain ⟨b, o, rfl, hkid⟩ := InK.kid hJ.hK (by omega)
  obtain ⟨k01, k02, k03, k04, k05, hk00, hk01, hk02, hkT0⟩ := hkid 0 (by omega)
  simp only [Nat.mul_zero, Nat.add_zero] at hk00 hk01 hk02
  have KT0 := Lib.hid hkT0
  clear hkT0
  obtain ⟨k31, k32, k33, k34, k35, hk30, hk31, hk32, hkT3⟩ := hkid 3 (by omega)
  simp only [Nat.reduceMul] at hk30 hk31 hk32
  have KT3 := Lib.hid hkT3
  clear hkT3
  have hp0 : (0 : Int) < (ks.length : Int) := by omega
  have hq0 : 0 < ks.length := by omega
  have hp3 : (3 : Int) < (ks.length : Int) := by omega
  have hq3 : 3 < ks.length := by omega
  clear hkid
  clear hks
  have ex0 : Ext w0 ((w0.alloc (.cells #[.slice A G.length ca, .int .i64 k, .int .i64 n, .slice (some ⟨b, o, none⟩) ks.length ct, .func (.func 35) #[] #[.pointer (some ⟨p1, 0, none⟩), .pointer (some ⟨p2, 0, none⟩)]] 65)).alloc (.cells #[.int .i64 0, .int .i64 0, .slice none 0 0] 27)) := ((Ext.refl w0).alloc _).alloc _
  have ek0 := ex0.cell hk00
  have ek1 := ex0.cell hk01
  have ek2 := ex0.cell hk02
  obtain ⟨w1, hw1⟩ : ∃ x, x = (((w0.alloc (.cells #[.slice A G.length ca, .int .i64 k, .int .i64 n, .slice (some ⟨b, o, none⟩) ks.length ct, .func (.func 35) #[] #[.pointer (some ⟨p1, 0, none⟩), .pointer (some ⟨p2, 0, none⟩)]] 65)).alloc (.cells #[.int .i64 0, .int .i64 0, .slice none 0 0] 27)).alloc (.cells #[.int .i64 k01, .int .i64 k02, .slice k03 k04 k05] 27)) := ⟨_, rfl⟩
  obtain ⟨bj_1, br_1, bp_1, s1, e1⟩ := box3 hw1
  have HJ := Lib.hid (hJ.keep e1 (g := w0.heap.size + 1) (Nat.le_succ _) (by omega))
  obtain ⟨M, hM⟩ : ∃ M, M = (fun b => N b ∧ b ≠ w0.heap.size + 1) := ⟨_, rfl⟩
  rw [← hM] at HJ
  have HM := Lib.hid hM
  clear hM hJ
  go_enter Try.func54, Try.ntmps54
  go_wp2_with fail
  rw [← hw1]
  clear hw1
  clear ex0 ek0 ek1 ek2
  obtain ⟨zj0, zj1, zj2, zj3, zj4⟩ := own5 bj_1
  have lj := lt_of_blk bj_1
  obtain ⟨zr0, zr1, zr2, yr0, yr1, yr2⟩ := own3 br_1
  have lr := lt_of_blk br_1
  obtain ⟨zp0, zp1, zp2, -⟩ := own3 bp_1
  have lp := lt_of_blk bp_1
  have HNN := Lib.hid (show ∀ w z, EG (w1.drew, []) (w, z) → ∀ b, w.heap.size ≤ b → Mz M z b from fun w z h => h.news ((fun w h => ((HJ.out.ext (Ext.refl w1)).ext h).hN) w ((Ext.refl w1).drew.trans h.1)))
  refine wp_region_held_drew (S := fun _ => True) (by kernel_rfl) trivial (fun _ => ?_)
  refine ordG w1 3 70 #[true, true, true, false] 1 [Sp.val (.agg #[.slice A G.length ca, .int .i64 k, .int .i64 n, .slice (some ⟨b, o, none⟩) ks.length ct, .func (.func 35) #[] #[.pointer (some ⟨p1, 0, none⟩), .pointer (some ⟨p2, 0, none⟩)]]), Sp.tree M (.mk 6 0 []), Sp.val (.int .i64 c)] (by kernel_rfl) rfl (by kernel_rfl) (by kernel_rfl) (by kernel_rfl) ?steps_3 ?fin_3
  case steps_3 =>
    refine And.intro (.inr ?s0_3) (And.intro (.inr ?s1_3) (And.intro (.inr ?s2_3) (trivial)))
    all_goals (intro a w z hE hold hdep; refine Ord.step_of rfl rfl ?_; intro K hK)
    case s0_3 => (have f1 := slot_at (show a.eval (.tmp 1) = .pointer (some ⟨w0.heap.size, 0, none⟩) from hold 1 (by kernel_rfl)); have q0 := hE.1.cell zj0; have q1 := hE.1.cell zj1; have q2 := hE.1.cell zj2; have q3 := hE.1.cell zj3; have q4 := hE.1.cell zj4; go_simp; exact hK _ _ ⟨_, z, rfl, hE.id, rfl⟩)
    case s1_3 => (go_simp; go_at_call 14; refine (node_any w 6 none 0 0).mono ?_; rintro e w' ⟨rfl, e'⟩; exact hK _ _ ⟨_, z, rfl, EG.same hE e', leafT _ _ _ _⟩)
    case s2_3 => (have f16 := slot_at (show a.eval (.tmp 16) = .agg #[.slice A G.length ca, .int .i64 k, .int .i64 n, .slice (some ⟨b, o, none⟩) ks.length ct, .func (.func 35) #[] #[.pointer (some ⟨p1, 0, none⟩), .pointer (some ⟨p2, 0, none⟩)]] from hdep 0 16 (by kernel_rfl)); have h17 : InT w (Mz M z) (.mk 6 0 []) (a.eval (.tmp 17)) := hdep 1 17 (by kernel_rfl); obtain ⟨d17_1, d17_2, d17_3, d17_4, d17_5, f17⟩ := h17.three; rw [f17] at h17; replace f17 := slot_at f17; go_simp; go_at_call 70; refine (family_any k n ca ct hlt hct w M ((HJ.out.ext (Ext.refl w1)).ext ((Ext.refl _).drew.trans hE.1)) 0 (by rw [HKS.out]; decide) natT _ (InT.mono (fun b hb => hb.1) (fun _ _ => rfl) h17) c H1.out).mono ?_; rintro e w' ⟨rfl, e'⟩; exact hK _ _ ⟨_, z, rfl, EG.same hE e', rfl⟩)
  case fin_3 =>
    intro v w' z hE' hG
    have v2_ : v 2 = .int .i64 c := hG 2 (by decide) rfl
    rw [Ord.putN_all]
    simp only [Ord.putO, Ord.dstOf, List.getElem?_toArray, List.getElem?_cons_zero, List.getElem?_cons_succ, Option.bind_some, Act.put, List.setIfInBounds_toArray, List.set_cons_zero, List.set_cons_succ]
    rw [v2_]
    clear hG v2_
    have e2 : Ext w1 w' := (Ext.refl w1).drew.trans hE'.1
    clear hE'
    obtain ⟨w2, rfl⟩ : ∃ x, x = w' := ⟨_, rfl⟩
    have s2 := e2.size
    refine wpAnyH_take (i := 3) (v := ?v3_3) rfl (by kernel_rfl) (by kernel_rfl) (by kernel_rfl) (fun _ _ _ h => h) (Or.inl ⟨by rfl, ?hy3_3⟩) trivial ?rest3_3
    case hy3_3 => (intro w hSw; go_simp; (try with_reducible rfl))
    try simp only [Act.put, List.getElem_toArray, List.getElem_cons_succ, List.getElem_cons_zero, List.setIfInBounds_toArray, List.set_cons_zero, List.set_cons_succ]
    refine wpAnyH_done (by kernel_rfl) ?_ _
    clear zj0 zj1 zj2 zj3 zj4 lj zr0 zr1 zr2 yr0 yr1 yr2 lr zp0 zp1 zp2 lp
    by_cases hc0 : c = 0
    case neg =>
      obtain rfl := H3.out hc0
      have t1 : (c != 0) = true := by simp [hc0]
      clear hc0 H3
      have bj_2 := e2.blk bj_1
      obtain ⟨zj0, zj1, zj2, zj3, zj4⟩ := own5 bj_2
      have lj := lt_of_blk bj_2
      have br_2 := e2.blk br_1
      obtain ⟨zr0, zr1, zr2, yr0, yr1, yr2⟩ := own3 br_2
      have lr := lt_of_blk br_2
      have bp_2 := e2.blk bp_1
      obtain ⟨zp0, zp1, zp2, -⟩ := own3 bp_2
      have lp := lt_of_blk bp_2
      have X0_1 := e1
      have X0_2 := X0_1.trans e2
      go_wp2_with fail
      refine bodyPost_ret (v := .tuple #[.agg #[.int .i64 0, .int .i64 0, .slice none 0 0], .int .i64 c]) (by simp [results, Try.results54, go_sem, zr0, zr1, zr2]) rfl ⟨_, rfl, leafT _ _ 0 0, (X0_2.set3 (by omega) _ _ _)⟩
    have hq := H2.out hc0
    subst hc0
    clear H2 H3
    obtain ⟨⟨T2, c⟩, hTT⟩ : ∃ q, mkV (.mk 5 0 [kd ks 0, .mk 7 0 []]) = q := ⟨_, rfl⟩
    have HMQ : Hid (MadQ (.mk 5 0 [kd ks 0, .mk 7 0 []]) true (T2, c)) := Lib.hid (by have := madQ1 (.mk 5 0 [kd ks 0, .mk 7 0 []]); rwa [hTT] at this)
    rw [hTT] at hq
    obtain ⟨d, h1, h2, h3, h4⟩ := has_code hq
    simp only at h1 h2
    have H1 := Lib.hid h1
    have H2 := Lib.hid h2
    have H3 := Lib.hid h3
    have H4 := Lib.hid h4
    clear h1 h2 h3 h4
    clear hq hTT
    have bj_2 := e2.blk bj_1
    obtain ⟨zj0, zj1, zj2, zj3, zj4⟩ := own5 bj_2
    have lj := lt_of_blk bj_2
    have br_2 := e2.blk br_1
    obtain ⟨zr0, zr1, zr2, yr0, yr1, yr2⟩ := own3 br_2
    have lr := lt_of_blk br_2
    have bp_2 := e2.blk bp_1
    obtain ⟨zp0, zp1, zp2, -⟩ := own3 bp_2
    have lp := lt_of_blk bp_2
    go_wp2_with fail
    clear zj0 zj1 zj2 zj3 zj4 lj zr0 zr1 zr2 yr0 yr1 yr2 lr zp0 zp1 zp2 lp
    obtain ⟨zj0, zj1, zj2, zj3, zj4⟩ := own5 bj_2
    have lj := lt_of_blk bj_2
    obtain ⟨zr0, zr1, zr2, yr0, yr1, yr2⟩ := own3 br_2
    have lr := lt_of_blk br_2
    obtain ⟨zp0, zp1, zp2, -⟩ := own3 bp_2
    have lp := lt_of_blk bp_2
    have X1_2 := e2
    have HNN := Lib.hid (show ∀ w z, EG (w2.drew, []) (w, z) → ∀ b, w.heap.size ≤ b → Mz M z b from fun w z h => h.news ((fun w h => ((HJ.out.ext X1_2).ext h).hN) w ((Ext.refl w2).drew.trans h.1)))
    refine wp_region_held_drew (S := fun _ => True) (by kernel_rfl) trivial (fun _ => ?_)
    refine ordX w2 9 70 7 #[true, true, true, true, true, true, true, true, true, false, false] #[true, true, true, true, true, true, true, false, true, false, false] 2 [Sp.val (.agg #[.int .i64 k01, .int .i64 k02, .slice k03 k04 k05]), Sp.tree M (.mk 7 0 []), Sp.row M [kd ks 0, (.mk 7 0 [])], Sp.tree M (.mk 5 0 [kd ks 0, (.mk 7 0 [])]), Sp.two M T2 (.int .i64 c), Sp.two M T2 (.int .i64 c), Sp.tree M T2, Sp.val (.int .i64 c), Sp.box w2] (by kernel_rfl) rfl (by kernel_rfl) (by kernel_rfl) (by kernel_rfl) rfl (by decide) (by kernel_rfl) (by kernel_rfl) (by kernel_rfl) (by kernel_rfl) (by kernel_rfl) (fun _ _ _ _ h => h) ?hx_4 ?steps_4 ?fin_4
    case hx_4 => (intro a w z hE hold hdep; obtain ⟨u23, f23, h23⟩ : ∃ u, a.eval (.tmp 23) = .tuple #[u, .int .i64 c] ∧ InT w (Mz M z) T2 u := hdep 5 23 (by kernel_rfl); replace f23 := slot_at f23; exact ⟨.int .i64 c, Or.inl ⟨by rfl, fun w'' _ => by go_simp⟩, rfl⟩)
    case steps_4 =>
      refine And.intro (.inr ?s0_4) (And.intro (.inr ?s1_4) (And.intro (.inr ?s2_4) (And.intro (.inr ?s3_4) (And.intro (.inr ?s4_4) (And.intro (.inr ?s5_4) (And.intro (.inr ?s6_4) (And.intro (.inr ?s7_4) (And.intro (.inr ?s8_4) (trivial)))))))))
      all_goals (intro a w z hE hold hdep; refine Ord.step_of rfl rfl ?_; intro K hK)
      case s0_4 => (have f4 := slot_at (show a.eval (.tmp 4) = .pointer (some ⟨w0.heap.size + 1 + 1, 0, none⟩) from hold 4 (by kernel_rfl)); have q0 := hE.1.cell zp0; have q1 := hE.1.cell zp1; have q2 := hE.1.cell zp2; go_simp; exact hK _ _ ⟨_, z, rfl, hE.id, rfl⟩)
      case s1_4 => (go_simp; go_at_call 14; refine (node_any w 7 none 0 0).mono ?_; rintro e w' ⟨rfl, e'⟩; exact hK _ _ ⟨_, z, rfl, EG.same hE e', leafT _ _ _ _⟩)
      case s2_4 => (have f24 := slot_at (show a.eval (.tmp 24) = .agg #[.int .i64 k01, .int .i64 k02, .slice k03 k04 k05] from hdep 0 24 (by kernel_rfl)); have h25 : InT w (Mz M z) (.mk 7 0 []) (a.eval (.tmp 25)) := hdep 1 25 (by kernel_rfl); obtain ⟨d25_1, d25_2, d25_3, d25_4, d25_5, f25⟩ := h25.three; rw [f25] at h25; replace f25 := slot_at f25; go_simp; refine hK _ _ ⟨_, z, rfl, EG.same hE ((Ext.refl _).alloc _), ⟨_, 2, rfl, Nat.le_refl _, by decide, InK.news2 (InT.oldG (M := M) (HM.out ▸ InT.later (InT.keep KT0.out e1 (g := w0.heap.size + 1) (Nat.le_succ _)) X1_2) hE) (h25) (HNN.out w z hE _ (Nat.le_refl _))⟩⟩)
      case s3_4 => (obtain ⟨A26, c26, f26, g26_1, g26_2, g26_3⟩ : ∃ A c, a.eval (.tmp 26) = .slice A 2 c ∧ 2 ≤ c ∧ c ≤ maxLen ∧ InK w (Mz M z) A [kd ks 0, (.mk 7 0 [])] := hdep 2 26 (by kernel_rfl); replace f26 := slot_at f26; go_simp; go_at_call 14; refine (node_any w 5 A26 2 c26).mono ?_; rintro e w' ⟨rfl, e'⟩; exact hK _ _ ⟨_, z, rfl, EG.same hE e', InT.mk_iff.2 ⟨A26, c26, rfl, g26_1, g26_2, g26_3.later e'⟩⟩)
      case s4_4 => (have h27 : InT w (Mz M z) (.mk 5 0 [kd ks 0, (.mk 7 0 [])]) (a.eval (.tmp 27)) := hdep 3 27 (by kernel_rfl); obtain ⟨d27_1, d27_2, d27_3, d27_4, d27_5, f27⟩ := h27.three; rw [f27] at h27; replace f27 := slot_at f27; go_simp; go_at_call 44; refine (HMQ.out w (Mz M z) _ h27).mono ?_; rintro e w' ⟨u, rfl, hu, e'⟩; exact hK _ _ ⟨_, z, rfl, EG.same hE e', u, rfl, hu⟩)
      case s5_4 => (obtain ⟨u28, f28, h28⟩ : ∃ u, a.eval (.tmp 28) = .tuple #[u, .int .i64 c] ∧ InT w (Mz M z) T2 u := hdep 4 28 (by kernel_rfl); replace f28 := slot_at f28; go_simp; exact hK _ _ ⟨_, z, rfl, hE.id, _, rfl, h28⟩)
      case s6_4 => (obtain ⟨u23, f23, h23⟩ : ∃ u, a.eval (.tmp 23) = .tuple #[u, .int .i64 c] ∧ InT w (Mz M z) T2 u := hdep 5 23 (by kernel_rfl); replace f23 := slot_at f23; go_simp; exact hK _ _ ⟨_, z, rfl, hE.id, h23⟩)
      case s7_4 => (obtain ⟨u23, f23, h23⟩ : ∃ u, a.eval (.tmp 23) = .tuple #[u, .int .i64 c] ∧ InT w (Mz M z) T2 u := hdep 5 23 (by kernel_rfl); replace f23 := slot_at f23; go_simp; exact hK _ _ ⟨_, z, rfl, hE.id, rfl⟩)
      case s8_4 => (go_simp; exact hK _ _ ⟨_, _, rfl, EG.box hE, _, rfl, List.mem_cons_self .., (show w2.heap.size ≤ w.heap.size from hE.1.size), heap_alloc_new _ _⟩)
    case fin_4 =>
      intro v w' z hE' hG
      have t6_ : InT w' (Mz M z) T2 (v 6) := hG 6 (by decide) rfl
      obtain ⟨a6_1, a6_2, a6_3, a6_4, a6_5, v6_⟩ := t6_.three
      rw [v6_] at t6_
      have T6_ := Lib.hid t6_
      clear t6_
      obtain ⟨g8_, v8_, gz8_, bl8_, bx8_⟩ : ∃ g, v 8 = .pointer (some ⟨g, 0, none⟩) ∧ g ∈ z ∧ w2.heap.size ≤ g ∧ w'.heap[g]? = _ := hG 8 (by decide) rfl
      have v7_ : v 7 = .int .i64 c := hG 7 (by decide) rfl
      rw [Ord.putN_all]
      simp only [Ord.putO, Ord.dstOf, List.getElem?_toArray, List.getElem?_cons_zero, List.getElem?_cons_succ, Option.bind_some, Act.put, List.setIfInBounds_toArray, List.set_cons_zero, List.set_cons_succ]
      rw [v6_, v8_, v7_]
      clear hG v6_ v8_ v7_
      clear zj0 zj1 zj2 zj3 zj4 lj zr0 zr1 zr2 yr0 yr1 yr2 lr zp0 zp1 zp2 lp
      have e' : Ext w2 w' := (Ext.refl w2).drew.trans hE'.1
      have gs8_ : g8_ < w'.heap.size := hE'.2.2.2 _ gz8_
      clear hE'
      obtain ⟨x0, x1, x2, x3, x4, x5⟩ := own3 bx8_
      refine wpAnyH_ready (rs := [9]) (by kernel_rfl) (by simp) ?_
      refine AllReadyH.cons rfl (fun K hK => ?_) AllReadyH.nil
      go_simp
      refine hK.out _ _ trivial (fun _ => ?_)
      clear hK K
      refine wpAnyH_take (i := 10) (v := ?v10_4) rfl (by kernel_rfl) (by kernel_rfl) (by kernel_rfl) (fun _ _ _ h => h) (Or.inl ⟨by rfl, ?hy10_4⟩) trivial ?rest10_4
      case hy10_4 => (intro w hSw; go_simp; (try with_reducible rfl))
      try simp only [Act.put, List.getElem_toArray, List.getElem_cons_succ, List.getElem_cons_zero, List.setIfInBounds_toArray, List.set_cons_zero, List.set_cons_succ]
      refine wpAnyH_done (by kernel_rfl) ?_ _
      clear x0 x1 x2 x3 x4 x5
      have bw_3 := blk_setCell (blk_setCell (blk_setCell bx8_ 0 (.int .i64 a6_1)) 1 (.int .i64 a6_2)) 2 (.slice a6_3 a6_4 a6_5)
      have e3 : Ext w2 (((w'.setCell ⟨g8_, 0, none⟩ (.int .i64 a6_1)).setCell ⟨g8_, 1, none⟩ (.int .i64 a6_2)).setCell ⟨g8_, 2, none⟩ (.slice a6_3 a6_4 a6_5)) := ((e'.setCell bl8_ _).setCell bl8_ _).setCell bl8_ _
      have HTw : Hid (InT (((w'.setCell ⟨g8_, 0, none⟩ (.int .i64 a6_1)).setCell ⟨g8_, 1, none⟩ (.int .i64 a6_2)).setCell ⟨g8_, 2, none⟩ (.slice a6_3 a6_4 a6_5)) M T2 (.agg #[.int .i64 a6_1, .int .i64 a6_2, .slice a6_3 a6_4 a6_5])) := Lib.hid (InT.ret (InT.mono (fun b hb => ⟨hb.1, fun h => hb.2 (h ▸ gz8_)⟩) (fun _ _ => rfl) T6_.out) _ _ _)
      obtain ⟨w3, hw3⟩ : ∃ x, x = (((w'.setCell ⟨g8_, 0, none⟩ (.int .i64 a6_1)).setCell ⟨g8_, 1, none⟩ (.int .i64 a6_2)).setCell ⟨g8_, 2, none⟩ (.slice a6_3 a6_4 a6_5)) := ⟨_, rfl⟩
      rw [← hw3] at bw_3 e3 HTw ⊢
      clear hw3 T6_ gz8_ bx8_ e' gs8_
      have s3 := e3.size
      have bj_3 := e3.blk bj_2
      obtain ⟨zj0, zj1, zj2, zj3, zj4⟩ := own5 bj_3
      have lj := lt_of_blk bj_3
      have br_3 := e3.blk br_2
      obtain ⟨zr0, zr1, zr2, yr0, yr1, yr2⟩ := own3 br_3
      have lr := lt_of_blk br_3
      have bp_3 := e3.blk bp_2
      obtain ⟨zp0, zp1, zp2, -⟩ := own3 bp_3
      have lp := lt_of_blk bp_3
      obtain ⟨zw0, zw1, zw2, -⟩ := own3 bw_3
      have lw := lt_of_blk bw_3
      go_wp2_with fail
      clear zj0 zj1 zj2 zj3 zj4 lj zr0 zr1 zr2 yr0 yr1 yr2 lr zp0 zp1 zp2 lp zw0 zw1 zw2 lw
      have X1_3 := X1_2.trans e3
      refine (jhas_any k n ca ct hlt hct w3 M (HJ.out.ext X1_3) 1 (by rw [HKS.out]; decide) T2 _ (HTw.out.later (Ext.refl w3)) c d H1.out H2.out).mono ?_
      rintro e w4 ⟨rfl, e4⟩
      have s4 := e4.size
      by_cases hc0 : d = 0
      case neg =>
        obtain rfl := H4.out hc0
        have t1 : (d != 0) = true := by simp [hc0]
        clear hc0 H4
        have bj_4 := e4.blk bj_3
        obtain ⟨zj0, zj1, zj2, zj3, zj4⟩ := own5 bj_4
        have lj := lt_of_blk bj_4
        have br_4 := e4.blk br_3
        obtain ⟨zr0, zr1, zr2, yr0, yr1, yr2⟩ := own3 br_4
        have lr := lt_of_blk br_4
        have bp_4 := e4.blk bp_3
        obtain ⟨zp0, zp1, zp2, -⟩ := own3 bp_4
        have lp := lt_of_blk bp_4
        have bw_4 := e4.blk bw_3
        obtain ⟨zw0, zw1, zw2, -⟩ := own3 bw_4
        have lw := lt_of_blk bw_4
        have X0_1 := e1
        have X0_2 := X0_1.trans e2
        have X0_3 := X0_2.trans e3
        have X0_4 := X0_3.trans e4
        go_wp2_with fail
        refine bodyPost_ret (v := .tuple #[.agg #[.int .i64 0, .int .i64 0, .slice none 0 0], .int .i64 d]) (by simp [results, Try.results54, go_sem, zr0, zr1, zr2]) rfl ⟨_, rfl, leafT _ _ 0 0, (X0_4.set3 (by omega) _ _ _)⟩
      have hq := H3.out hc0
      subst hc0
      clear H3 H4
      obtain ⟨⟨T3, c3⟩, hTT⟩ : ∃ q, mkV (stpT (kd ks 0)) = q := ⟨_, rfl⟩
      have HTT := Lib.hid hTT
      rw [hTT] at hq
      obtain ⟨d, h1, h2, h3, h4⟩ := has_code hq
      simp only at h1 h2
      have H1 := Lib.hid h1
      have H2 := Lib.hid h2
      have H3 := Lib.hid h3
      have H4 := Lib.hid h4
      clear h1 h2 h3 h4
      clear hq hTT
      have bj_4 := e4.blk bj_3
      obtain ⟨zj0, zj1, zj2, zj3, zj4⟩ := own5 bj_4
      have lj := lt_of_blk bj_4
      have br_4 := e4.blk br_3
      obtain ⟨zr0, zr1, zr2, yr0, yr1, yr2⟩ := own3 br_4
      have lr := lt_of_blk br_4
      have bp_4 := e4.blk bp_3
      obtain ⟨zp0, zp1, zp2, -⟩ := own3 bp_4
      have lp := lt_of_blk bp_4
      have bw_4 := e4.blk bw_3
      obtain ⟨zw0, zw1, zw2, -⟩ := own3 bw_4
      have lw := lt_of_blk bw_4
      go_wp2_with fail
      clear zj0 zj1 zj2 zj3 zj4 lj zr0 zr1 zr2 yr0 yr1 yr2 lr zp0 zp1 zp2 lp zw0 zw1 zw2 lw
      have X2_3 := e3
      have X2_4 := X2_3.trans e4
      have X1_4 := X1_3.trans e4
      have HST := Lib.hid (stepType_any (kd ks 0) w4 (fun b => M b ∧ b ≠ g8_) (newN (w := w4) ((HJ.out.ext X1_4).hN) (Nat.le_refl _) (lt_of_blk bw_4)) _ (InT.keep ((show InT w2 M (kd ks 0) _ from HM.out ▸ InT.later (InT.keep KT0.out e1 (g := w0.heap.size + 1) (Nat.le_succ _)) X1_2)) X2_4 (g := g8_) bl8_) HV0.out)
      rw [HTT.out] at HST
      refine (HST.out).mono ?_
      rintro e w5 ⟨u, rfl, hT, e5⟩
      have s5 := e5.size
      obtain ⟨a9, b9, A9, l9, c9, rfl⟩ := hT.three
      have T9 := Lib.hid hT
      clear hT HST
      have X2_5 := X2_4.trans e5
      have bw_5 := e5.blk bw_4
      have eS : Ext w2 (((w5.setCell ⟨g8_, 0, none⟩ (.int .i64 a9)).setCell ⟨g8_, 1, none⟩ (.int .i64 b9)).setCell ⟨g8_, 2, none⟩ (.slice A9 l9 c9)) := ((X2_5.setCell bl8_ _).setCell bl8_ _).setCell bl8_ _
      have bwS := blk_setCell (blk_setCell (blk_setCell bw_5 0 (.int .i64 a9)) 1 (.int .i64 b9)) 2 (.slice A9 l9 c9)
      have HTv : Hid (InT (((w5.setCell ⟨g8_, 0, none⟩ (.int .i64 a9)).setCell ⟨g8_, 1, none⟩ (.int .i64 b9)).setCell ⟨g8_, 2, none⟩ (.slice A9 l9 c9)) M T3 (.agg #[.int .i64 a9, .int .i64 b9, .slice A9 l9 c9])) := Lib.hid (InT.ret T9.out _ _ _)
      obtain ⟨x0, x1, x2, x3, x4, x5⟩ := own3 bw_5
      obtain ⟨q0, q1, q2, q3, q4, q5⟩ := own3 bwS
      have bjS := eS.blk bj_2
      have zjS0 : World.cell? (((w5.setCell ⟨g8_, 0, none⟩ (.int .i64 a9)).setCell ⟨g8_, 1, none⟩ (.int .i64 b9)).setCell ⟨g8_, 2, none⟩ (.slice A9 l9 c9)) ⟨w0.heap.size, 0, none⟩ = some (.slice A G.length ca) := cell_of_blk bjS 0
      have zjS1 : World.cell? (((w5.setCell ⟨g8_, 0, none⟩ (.int .i64 a9)).setCell ⟨g8_, 1, none⟩ (.int .i64 b9)).setCell ⟨g8_, 2, none⟩ (.slice A9 l9 c9)) ⟨w0.heap.size, 1, none⟩ = some (.int .i64 k) := cell_of_blk bjS 1
      have zjS2 : World.cell? (((w5.setCell ⟨g8_, 0, none⟩ (.int .i64 a9)).setCell ⟨g8_, 1, none⟩ (.int .i64 b9)).setCell ⟨g8_, 2, none⟩ (.slice A9 l9 c9)) ⟨w0.heap.size, 2, none⟩ = some (.int .i64 n) := cell_of_blk bjS 2
      have zjS3 : World.cell? (((w5.setCell ⟨g8_, 0, none⟩ (.int .i64 a9)).setCell ⟨g8_, 1, none⟩ (.int .i64 b9)).setCell ⟨g8_, 2, none⟩ (.slice A9 l9 c9)) ⟨w0.heap.size, 3, none⟩ = some (.slice (some ⟨b, o, none⟩) ks.length ct) := cell_of_blk bjS 3
      have zjS4 : World.cell? (((w5.setCell ⟨g8_, 0, none⟩ (.int .i64 a9)).setCell ⟨g8_, 1, none⟩ (.int .i64 b9)).setCell ⟨g8_, 2, none⟩ (.slice A9 l9 c9)) ⟨w0.heap.size, 4, none⟩ = some (.func (.func 35) #[] #[.pointer (some ⟨p1, 0, none⟩), .pointer (some ⟨p2, 0, none⟩)]) := cell_of_blk bjS 4
      have bj_5 := e5.blk bj_4
      obtain ⟨zj0, zj1, zj2, zj3, zj4⟩ := own5 bj_5
      have lj := lt_of_blk bj_5
      have hgl := lt_of_blk bw_5
      go_wp2_with fail
      obtain ⟨w6, hw6⟩ : ∃ x, x = (((w5.setCell ⟨g8_, 0, none⟩ (.int .i64 a9)).setCell ⟨g8_, 1, none⟩ (.int .i64 b9)).setCell ⟨g8_, 2, none⟩ (.slice A9 l9 c9)) := ⟨_, rfl⟩
      rw [← hw6] at eS bwS HTv ⊢
      clear hw6 x0 x1 x2 x3 x4 x5 q0 q1 q2 q3 q4 q5 zjS0 zjS1 zjS2 zjS3 zjS4 bjS hgl T9 HTw zj0 zj1 zj2 zj3 zj4 lj
      have e6 : Ext w2 w6 := eS
      clear eS
      have s6 : w2.heap.size ≤ w6.heap.size := e6.size
      have X1_6 := X1_2.trans e6
      refine (jhas_any k n ca ct hlt hct w6 M (HJ.out.ext X1_6) 2 (by rw [HKS.out]; decide) T3 _ HTv.out c3 d H1.out H2.out).mono ?_
      rintro e w7 ⟨rfl, e7⟩
      have s7 := e7.size
      by_cases hc0 : d = 0
      case neg =>
        obtain rfl := H4.out hc0
        have t1 : (d != 0) = true := by simp [hc0]
        clear hc0 H4
        have bj_6 := e6.blk bj_2
        have bj_7 := e7.blk bj_6
        obtain ⟨zj0, zj1, zj2, zj3, zj4⟩ := own5 bj_7
        have lj := lt_of_blk bj_7
        have br_6 := e6.blk br_2
        have br_7 := e7.blk br_6
        obtain ⟨zr0, zr1, zr2, yr0, yr1, yr2⟩ := own3 br_7
        have lr := lt_of_blk br_7
        have bp_6 := e6.blk bp_2
        have bp_7 := e7.blk bp_6
        obtain ⟨zp0, zp1, zp2, -⟩ := own3 bp_7
        have lp := lt_of_blk bp_7
        have bv_7 := e7.blk bwS
        obtain ⟨zv0, zv1, zv2, -⟩ := own3 bv_7
        have lv := lt_of_blk bv_7
        have X0_1 := e1
        have X0_2 := X0_1.trans e2
        have X0_6 := X0_2.trans e6
        have X0_7 := X0_6.trans e7
        go_wp2_with fail
        refine bodyPost_ret (v := .tuple #[.agg #[.int .i64 0, .int .i64 0, .slice none 0 0], .int .i64 d]) (by simp [results, Try.results54, go_sem, zr0, zr1, zr2]) rfl ⟨_, rfl, leafT _ _ 0 0, (X0_7.set3 (by omega) _ _ _)⟩
      have hq := H3.out hc0
      subst hc0
      clear H3 H4
      obtain ⟨c, h1, h2, h3⟩ := chk_some hq
      clear hq H1 H2
      have H1 := Lib.hid h1
      have H2 := Lib.hid h2
      have H3 := Lib.hid h3
      clear h1 h2 h3
      have bj_6 := e6.blk bj_2
      have bj_7 := e7.blk bj_6
      obtain ⟨zj0, zj1, zj2, zj3, zj4⟩ := own5 bj_7
      have lj := lt_of_blk bj_7
      have br_6 := e6.blk br_2
      have br_7 := e7.blk br_6
      obtain ⟨zr0, zr1, zr2, yr0, yr1, yr2⟩ := own3 br_7
      have lr := lt_of_blk br_7
      have bp_6 := e6.blk bp_2
      have bp_7 := e7.blk bp_6
      obtain ⟨zp0, zp1, zp2, -⟩ := own3 bp_7
      have lp := lt_of_blk bp_7
      have bv_7 := e7.blk bwS
      obtain ⟨zv0, zv1, zv2, -⟩ := own3 bv_7
      have lv := lt_of_blk bv_7
      go_wp2_with fail
      clear zj0 zj1 zj2 zj3 zj4 lj zr0 zr1 zr2 yr0 yr1 yr2 lr zp0 zp1 zp2 lp zv0 zv1 zv2 lv
      obtain ⟨zj0, zj1, zj2, zj3, zj4⟩ := own5 bj_7
      have lj := lt_of_blk bj_7
      obtain ⟨zr0, zr1, zr2, yr0, yr1, yr2⟩ := own3 br_7
      have lr := lt_of_blk br_7
      obtain ⟨zp0, zp1, zp2, -⟩ := own3 bp_7
      have lp := lt_of_blk bp_7
      obtain ⟨zv0, zv1, zv2, -⟩ := own3 bv_7
      have lv := lt_of_blk bv_7
      have X1_7 := X1_6.trans e7
      have HNN := Lib.hid (show ∀ w z, EG (w7.drew, []) (w, z) → ∀ b, w.heap.size ≤ b → Mz M z b from fun w z h => h.news ((fun w h => ((HJ.out.ext X1_7).ext h).hN) w ((Ext.refl w7).drew.trans h.1)))
      refine wp_region_held_drew (S := fun _ => True) (by kernel_rfl) trivial (fun _ => ?_)
      refine ordG w7 3 70 #[true, true, true, false] 1 [Sp.val (.agg #[.slice A G.length ca, .int .i64 k, .int .i64 n, .slice (some ⟨b, o, none⟩) ks.length ct, .func (.func 35) #[] #[.pointer (some ⟨p1, 0, none⟩), .pointer (some ⟨p2, 0, none⟩)]]), Sp.tree M (.mk 6 0 []), Sp.val (.int .i64 c)] (by kernel_rfl) rfl (by kernel_rfl) (by kernel_rfl) (by kernel_rfl) ?steps_5 ?fin_5
      case steps_5 =>
        refine And.intro (.inr ?s0_5) (And.intro (.inr ?s1_5) (And.intro (.inr ?s2_5) (trivial)))
        all_goals (intro a w z hE hold hdep; refine Ord.step_of rfl rfl ?_; intro K hK)
        case s0_5 => (have f1 := slot_at (show a.eval (.tmp 1) = .pointer (some ⟨w0.heap.size, 0, none⟩) from hold 1 (by kernel_rfl)); have q0 := hE.1.cell zj0; have q1 := hE.1.cell zj1; have q2 := hE.1.cell zj2; have q3 := hE.1.cell zj3; have q4 := hE.1.cell zj4; go_simp; exact hK _ _ ⟨_, z, rfl, hE.id, rfl⟩)
        case s1_5 => (go_simp; go_at_call 14; refine (node_any w 6 none 0 0).mono ?_; rintro e w' ⟨rfl, e'⟩; exact hK _ _ ⟨_, z, rfl, EG.same hE e', leafT _ _ _ _⟩)
        case s2_5 => (have f52 := slot_at (show a.eval (.tmp 52) = .agg #[.slice A G.length ca, .int .i64 k, .int .i64 n, .slice (some ⟨b, o, none⟩) ks.length ct, .func (.func 35) #[] #[.pointer (some ⟨p1, 0, none⟩), .pointer (some ⟨p2, 0, none⟩)]] from hdep 0 52 (by kernel_rfl)); have h53 : InT w (Mz M z) (.mk 6 0 []) (a.eval (.tmp 53)) := hdep 1 53 (by kernel_rfl); obtain ⟨d53_1, d53_2, d53_3, d53_4, d53_5, f53⟩ := h53.three; rw [f53] at h53; replace f53 := slot_at f53; go_simp; go_at_call 47; refine (jcheck_any k n ca ct hlt hct w M ((HJ.out.ext X1_7).ext ((Ext.refl _).drew.trans hE.1)) 3 (by rw [HKS.out]; decide) natT _ (InT.mono (fun b hb => hb.1) (fun _ _ => rfl) h53) c H1.out).mono ?_; rintro e w' ⟨rfl, e'⟩; exact hK _ _ ⟨_, z, rfl, EG.same hE e', rfl⟩)
      case fin_5 =>
        intro v w' z hE' hG
        have v2_ : v 2 = .int .i64 c := hG 2 (by decide) rfl
        rw [Ord.putN_all]
        simp only [Ord.putO, Ord.dstOf, List.getElem?_toArray, List.getElem?_cons_zero, List.getElem?_cons_succ, Option.bind_some, Act.put, List.setIfInBounds_toArray, List.set_cons_zero, List.set_cons_succ]
        rw [v2_]
        clear hG v2_
        have e8 : Ext w7 w' := (Ext.refl w7).drew.trans hE'.1
        clear hE'
        obtain ⟨w8, rfl⟩ : ∃ x, x = w' := ⟨_, rfl⟩
        have s8 := e8.size
        refine wpAnyH_take (i := 3) (v := ?v3_5) rfl (by kernel_rfl) (by kernel_rfl) (by kernel_rfl) (fun _ _ _ h => h) (Or.inl ⟨by rfl, ?hy3_5⟩) trivial ?rest3_5
        case hy3_5 => (intro w hSw; go_simp; (try with_reducible rfl))
        try simp only [Act.put, List.getElem_toArray, List.getElem_cons_succ, List.getElem_cons_zero, List.setIfInBounds_toArray, List.set_cons_zero, List.set_cons_succ]
        refine wpAnyH_done (by kernel_rfl) ?_ _
        clear zj0 zj1 zj2 zj3 zj4 lj zr0 zr1 zr2 yr0 yr1 yr2 lr zp0 zp1 zp2 lp zv0 zv1 zv2 lv
        by_cases hc0 : c = 0
        case neg =>
          obtain rfl := H3.out hc0
          have t1 : (c != 0) = true := by simp [hc0]
          clear hc0 H3
          have bj_8 := e8.blk bj_7
          obtain ⟨zj0, zj1, zj2, zj3, zj4⟩ := own5 bj_8
          have lj := lt_of_blk bj_8
          have br_8 := e8.blk br_7
          obtain ⟨zr0, zr1, zr2, yr0, yr1, yr2⟩ := own3 br_8
          have lr := lt_of_blk br_8
          have bp_8 := e8.blk bp_7
          obtain ⟨zp0, zp1, zp2, -⟩ := own3 bp_8
          have lp := lt_of_blk bp_8
          have bv_8 := e8.blk bv_7
          obtain ⟨zv0, zv1, zv2, -⟩ := own3 bv_8
          have lv := lt_of_blk bv_8
          have X0_1 := e1
          have X0_2 := X0_1.trans e2
          have X0_6 := X0_2.trans e6
          have X0_7 := X0_6.trans e7
          have X0_8 := X0_7.trans e8
          go_wp2_with fail
          refine bodyPost_ret (v := .tuple #[.agg #[.int .i64 0, .int .i64 0, .slice none 0 0], .int .i64 c]) (by simp [results, Try.results54, go_sem, zr0, zr1, zr2]) rfl ⟨_, rfl, leafT _ _ 0 0, (X0_8.set3 (by omega) _ _ _)⟩
        have hq := H2.out hc0
        subst hc0
        clear H2 H3
        obtain ⟨⟨T2, c⟩, hTT⟩ : ∃ q, mkV (.mk 5 0 [kd ks 0, kd ks 3]) = q := ⟨_, rfl⟩
        obtain rfl : r = (T2, c) := by rw [hTT] at hq; simpa using hq.symm
        have HMQ : Hid (MadQ (.mk 5 0 [kd ks 0, kd ks 3]) true (T2, c)) := Lib.hid (by have := madQ1 (.mk 5 0 [kd ks 0, kd ks 3]); rwa [hTT] at this)
        clear hq hTT
        have bj_8 := e8.blk bj_7
        obtain ⟨zj0, zj1, zj2, zj3, zj4⟩ := own5 bj_8
        have lj := lt_of_blk bj_8
        have br_8 := e8.blk br_7
        obtain ⟨zr0, zr1, zr2, yr0, yr1, yr2⟩ := own3 br_8
        have lr := lt_of_blk br_8
        have bp_8 := e8.blk bp_7
        obtain ⟨zp0, zp1, zp2, -⟩ := own3 bp_8
        have lp := lt_of_blk bp_8
        have bv_8 := e8.blk bv_7
        obtain ⟨zv0, zv1, zv2, -⟩ := own3 bv_8
        have lv := lt_of_blk bv_8
        go_wp2_with fail
        clear zj0 zj1 zj2 zj3 zj4 lj zr0 zr1 zr2 yr0 yr1 yr2 lr zp0 zp1 zp2 lp zv0 zv1 zv2 lv
        have X0_1 := e1
        have X0_2 := X0_1.trans e2
        have X0_6 := X0_2.trans e6
        have X0_7 := X0_6.trans e7
        have X0_8 := X0_7.trans e8
        replace hk00 := X0_8.cell hk00
        replace hk01 := X0_8.cell hk01
        replace hk02 := X0_8.cell hk02
        replace hk30 := X0_8.cell hk30
        replace hk31 := X0_8.cell hk31
        replace hk32 := X0_8.cell hk32
        obtain ⟨zj0, zj1, zj2, zj3, zj4⟩ := own5 bj_8
        have lj := lt_of_blk bj_8
        obtain ⟨zr0, zr1, zr2, yr0, yr1, yr2⟩ := own3 br_8
        have lr := lt_of_blk br_8
        obtain ⟨zp0, zp1, zp2, -⟩ := own3 bp_8
        have lp := lt_of_blk bp_8
        obtain ⟨zv0, zv1, zv2, -⟩ := own3 bv_8
        have lv := lt_of_blk bv_8
        have X1_8 := X1_7.trans e8
        have HNN := Lib.hid (show ∀ w z, EG (w8.drew, []) (w, z) → ∀ b, w.heap.size ≤ b → Mz M z b from fun w z h => h.news ((fun w h => ((HJ.out.ext X1_8).ext h).hN) w ((Ext.refl w8).drew.trans h.1)))
        refine wp_region_held_drew (S := fun _ => True) (by kernel_rfl) trivial (fun _ => ?_)
        refine ordG w8 11 70 #[true, true, true, true, true, true, true, true, true, true, true, false, false] 2 [Sp.val (.agg #[.int .i64 k01, .int .i64 k02, .slice k03 k04 k05]), Sp.val (.pointer (some ⟨w0.heap.size, 1, none⟩)), Sp.val (.pointer (some ⟨w0.heap.size, 3, none⟩)), Sp.val (.slice (some ⟨b, o, none⟩) ks.length ct), Sp.val (.pointer (some ⟨b, o + 9, none⟩)), Sp.val (.agg #[.int .i64 k31, .int .i64 k32, .slice k33 k34 k35]), Sp.row M [kd ks 0, kd ks 3], Sp.tree M (.mk 5 0 [kd ks 0, kd ks 3]), Sp.two M T2 (.int .i64 c), Sp.tree M T2, Sp.val (.int .i64 c)] (by kernel_rfl) rfl (by kernel_rfl) (by kernel_rfl) (by kernel_rfl) ?steps_6 ?fin_6
        case steps_6 =>
          refine And.intro (.inr ?s0_6) (And.intro (.inr ?s1_6) (And.intro (.inr ?s2_6) (And.intro (.inr ?s3_6) (And.intro (.inr ?s4_6) (And.intro (.inr ?s5_6) (And.intro (.inr ?s6_6) (And.intro (.inr ?s7_6) (And.intro (.inr ?s8_6) (And.intro (.inr ?s9_6) (And.intro (.inr ?s10_6) (trivial)))))))))))
          all_goals (intro a w z hE hold hdep; refine Ord.step_of rfl rfl ?_; intro K hK)
          case s0_6 => (have f4 := slot_at (show a.eval (.tmp 4) = .pointer (some ⟨w0.heap.size + 1 + 1, 0, none⟩) from hold 4 (by kernel_rfl)); have q0 := hE.1.cell zp0; have q1 := hE.1.cell zp1; have q2 := hE.1.cell zp2; go_simp; exact hK _ _ ⟨_, z, rfl, hE.id, rfl⟩)
          case s1_6 => (have f1 := slot_at (show a.eval (.tmp 1) = .pointer (some ⟨w0.heap.size, 0, none⟩) from hold 1 (by kernel_rfl)); go_simp; exact hK _ _ ⟨_, z, rfl, hE.id, rfl⟩)
          case s2_6 => (have f60 := slot_at (show a.eval (.tmp 60) = .pointer (some ⟨w0.heap.size, 1, none⟩) from hdep 1 60 (by kernel_rfl)); go_simp; exact hK _ _ ⟨_, z, rfl, hE.id, rfl⟩)
          case s3_6 => (have f61 := slot_at (show a.eval (.tmp 61) = .pointer (some ⟨w0.heap.size, 3, none⟩) from hdep 2 61 (by kernel_rfl)); have q0 := hE.1.cell zj3; go_simp; exact hK _ _ ⟨_, z, rfl, hE.id, rfl⟩)
          case s4_6 => (have f62 := slot_at (show a.eval (.tmp 62) = .slice (some ⟨b, o, none⟩) ks.length ct from hdep 3 62 (by kernel_rfl)); go_simp; exact hK _ _ ⟨_, z, rfl, hE.id, rfl⟩)
          case s5_6 => (have f63 := slot_at (show a.eval (.tmp 63) = .pointer (some ⟨b, o + 9, none⟩) from hdep 4 63 (by kernel_rfl)); have q0 := hE.1.cell hk30; have q1 := hE.1.cell hk31; have q2 := hE.1.cell hk32; go_simp; exact hK _ _ ⟨_, z, rfl, hE.id, rfl⟩)
          case s6_6 => (have f59 := slot_at (show a.eval (.tmp 59) = .agg #[.int .i64 k01, .int .i64 k02, .slice k03 k04 k05] from hdep 0 59 (by kernel_rfl)); have f64 := slot_at (show a.eval (.tmp 64) = .agg #[.int .i64 k31, .int .i64 k32, .slice k33 k34 k35] from hdep 5 64 (by kernel_rfl)); go_simp; refine hK _ _ ⟨_, z, rfl, EG.same hE ((Ext.refl _).alloc _), ⟨_, 2, rfl, Nat.le_refl _, by decide, InK.news2 (InT.oldG (M := M) (HM.out ▸ InT.later (InT.keep KT0.out e1 (g := w0.heap.size + 1) (Nat.le_succ _)) X1_8) hE) (InT.oldG (M := M) (HM.out ▸ InT.later (InT.keep KT3.out e1 (g := w0.heap.size + 1) (Nat.le_succ _)) X1_8) hE) (HNN.out w z hE _ (Nat.le_refl _))⟩⟩)
          case s7_6 => (obtain ⟨A65, c65, f65, g65_1, g65_2, g65_3⟩ : ∃ A c, a.eval (.tmp 65) = .slice A 2 c ∧ 2 ≤ c ∧ c ≤ maxLen ∧ InK w (Mz M z) A [kd ks 0, kd ks 3] := hdep 6 65 (by kernel_rfl); replace f65 := slot_at f65; go_simp; go_at_call 14; refine (node_any w 5 A65 2 c65).mono ?_; rintro e w' ⟨rfl, e'⟩; exact hK _ _ ⟨_, z, rfl, EG.same hE e', InT.mk_iff.2 ⟨A65, c65, rfl, g65_1, g65_2, g65_3.later e'⟩⟩)
          case s8_6 => (have h66 : InT w (Mz M z) (.mk 5 0 [kd ks 0, kd ks 3]) (a.eval (.tmp 66)) := hdep 7 66 (by kernel_rfl); obtain ⟨d66_1, d66_2, d66_3, d66_4, d66_5, f66⟩ := h66.three; rw [f66] at h66; replace f66 := slot_at f66; go_simp; go_at_call 44; refine (HMQ.out w (Mz M z) _ h66).mono ?_; rintro e w' ⟨u, rfl, hu, e'⟩; exact hK _ _ ⟨_, z, rfl, EG.same hE e', u, rfl, hu⟩)
          case s9_6 => (obtain ⟨u67, f67, h67⟩ : ∃ u, a.eval (.tmp 67) = .tuple #[u, .int .i64 c] ∧ InT w (Mz M z) T2 u := hdep 8 67 (by kernel_rfl); replace f67 := slot_at f67; go_simp; exact hK _ _ ⟨_, z, rfl, hE.id, h67⟩)
          case s10_6 => (obtain ⟨u67, f67, h67⟩ : ∃ u, a.eval (.tmp 67) = .tuple #[u, .int .i64 c] ∧ InT w (Mz M z) T2 u := hdep 8 67 (by kernel_rfl); replace f67 := slot_at f67; go_simp; exact hK _ _ ⟨_, z, rfl, hE.id, rfl⟩)
        case fin_6 =>
          intro v w' z hE' hG
          have t9_ : InT w' (Mz M z) T2 (v 9) := hG 9 (by decide) rfl
          obtain ⟨a9_1, a9_2, a9_3, a9_4, a9_5, v9_⟩ := t9_.three
          rw [v9_] at t9_
          have T9_ := Lib.hid t9_
          clear t9_
          have v10_ : v 10 = .int .i64 c := hG 10 (by decide) rfl
          rw [Ord.putN_all]
          simp only [Ord.putO, Ord.dstOf, List.getElem?_toArray, List.getElem?_cons_zero, List.getElem?_cons_succ, Option.bind_some, Act.put, List.setIfInBounds_toArray, List.set_cons_zero, List.set_cons_succ]
          rw [v9_, v10_]
          clear hG v9_ v10_
          have e9 : Ext w8 w' := (Ext.refl w8).drew.trans hE'.1
          clear hE'
          obtain ⟨w9, rfl⟩ : ∃ x, x = w' := ⟨_, rfl⟩
          have s9 := e9.size
          clear hk00 hk01 hk02 hk30 hk31 hk32 zj0 zj1 zj2 zj3 zj4 lj zr0 zr1 zr2 yr0 yr1 yr2 lr zp0 zp1 zp2 lp zv0 zv1 zv2 lv
          have X0_9 := X0_8.trans e9
          have br_9 := e9.blk br_8
          obtain ⟨zr0, zr1, zr2, yr0, yr1, yr2⟩ := own3 br_9
          refine wpAnyH_ready (rs := [11]) (by kernel_rfl) (by simp) ?_
          refine AllReadyH.cons rfl (fun K hK => ?_) AllReadyH.nil
          go_simp
          refine hK.out _ _ trivial (fun _ => ?_)
          clear hK K
          refine wpAnyH_take (i := 12) (v := ?v12_6) rfl (by kernel_rfl) (by kernel_rfl) (by kernel_rfl) (fun _ _ _ h => h) (Or.inl ⟨by rfl, ?hy12_6⟩) trivial ?rest12_6
          case hy12_6 => (intro w hSw; go_simp; (try with_reducible rfl))
          try simp only [Act.put, List.getElem_toArray, List.getElem_cons_succ, List.getElem_cons_zero, List.setIfInBounds_toArray, List.set_cons_zero, List.set_cons_succ]
          refine wpAnyH_done (by kernel_rfl) ?_ _
          go_wp2_with fail
          refine bodyPost_ret (v := .tuple #[.agg #[.int .i64 a9_1, .int .i64 a9_2, .slice a9_3 a9_4 a9_5], .int .i64 c]) (by simp [results, Try.results54, go_sem, zr0, zr1, zr2]) rfl ⟨_, rfl, InT.ret (HM.out ▸ InT.mono (fun b hb => hb.1) (fun _ _ => rfl) T9_.out) _ _ _, (X0_9.set3 (by omega) _ _ _)⟩
end Go.Proofs.Ytdkamgafpphdjaa

/-
  Lemmas towards the law, 42: DrawZ, CtxA.
-/
import Derived.Test.YtappakllopkfiaaCBE
import Derived.Test.YtappakllopkfiaaCBK
import Derived.Test.YtappakllopkfiaaCBM
import Derived.Test.YtappakllopkfiaaCBO
namespace Go.Proofs.Ytappakllopkfiaa
open Go.RowKit
set_option linter.unusedVariables false
attribute [local go_sem ↓] Go.wp_at_zero Go.wp_at_succ
set_option maxRecDepth 100000 in
set_option maxHeartbeats 4000000 in
theorem drawContextAt_any (w : World) (A : Option Addr) (cap : Nat) (bs : List Int) (hl : bs.length ≤ cap) (hc : cap ≤ maxLen) (hB : Bytes w w.heap.size A bs) : Calls Try.prog 35 #[.slice A bs.length cap] w fun e w' =>
    ∃ B n c ks t u x p, e = .returned (.tuple #[.slice B n c, u, x]) ∧ ks.length = n ∧ n ≤ c ∧ c ≤ maxLen ∧ n ≤ 9 ∧ p.length ≤ 29 ∧ LiesK w' B ks ∧ Lies w' t u ∧ PathAt w' (fun b => b < w'.heap.size) x p ∧ Ext w w' := by
  have hx0 := (Ext.refl w).alloc (.cells #[.int .i64 0, .int .i64 0, .slice none 0 0] 44)
  have hb0 := heap_alloc_new w (.cells #[.int .i64 0, .int .i64 0, .slice none 0 0] 44)
  go_enter Try.func35, Try.ntmps35
  go_wp2_with fail
  refine (l19Open_any _ A cap bs hl hc ((hB.ext hx0).mono hx0.size)).mono ?_
  rintro e w1 ⟨rfl, hR, h1⟩
  generalize hg : (w.alloc (.cells #[.int .i64 0, .int .i64 0, .slice none 0 0] 44)).heap.size = g at hR ⊢
  have hg' : w.heap.size < g := by rw [← hg]; simp
  have hb1 := h1.blk hb0
  have hg1 : g < w1.heap.size := hR.lt
  clear hg hb0
  go_wp2_with fail
  refine (l5Draw_any w1 g 0 hR (by omega)).mono ?_
  rintro e w2 ⟨A2, n2, c2, ks2, t2, u2, rfl, hk2, hl2, hc2, hn2, hkc2, htc2, hK2, hF2, hR2, ho⟩
  obtain ⟨a1, a2, a3, a4, a5, rfl⟩ := hF2.three
  subst hk2
  have hxm := (Ext.refl w2).alloc (.cells #[.int .i64 a1, .int .i64 a2, .slice a3 a4 a5] 44)
  have hbm := hxm.blk (ho.keepBlk hb1 (by simp; omega))
  have hom := ho.trans (Only.of_ext (L := [g]) hxm)
  have hKm := hK2.ext hxm
  have hFm := hF2.ext hxm
  have hRm := hR2.ext hxm
  clear hb1 hK2 hF2 hR2 hxm
  go_wp2_with fail
  have hs12 := ho.size
  clear ho
  generalize hwm : w2.alloc (.cells #[.int .i64 a1, .int .i64 a2, .slice a3 a4 a5] 44) = wm at hbm hom hKm hFm hRm ⊢
  have hsm : w2.heap.size < wm.heap.size := by rw [← hwm]; simp
  clear hwm
  refine (l5Mutate_any ks2 t2 wm g _ _ A2 c2 w1.heap.size hFm hg1 (InK.mono (fun b hb => hb.2) (fun _ _ => rfl) hKm) hl2 hc2 (by omega) (fun x hx => by have := hkc2 x hx; omega) (by omega) hRm (by omega)).mono ?_
  rintro e w3 ⟨B, n, c, ks, t', u', rfl, hkn, hnc, hcm, hn9, hK3, hF3, hR3, ho3⟩
  obtain ⟨b1, b2, b3, b4, b5, rfl⟩ := hF3.three
  have hx4 := (Ext.refl w3).alloc (.cells #[.int .i64 b1, .int .i64 b2, .slice b3 b4 b5] 44)
  have hb4 := heap_alloc_new w3 (.cells #[.int .i64 b1, .int .i64 b2, .slice b3 b4 b5] 44)
  have hb14 := hx4.blk (ho3.keepBlk hbm (by simp; omega))
  have hO := ((hom.trans ho3).trans (Only.of_ext (L := [g]) hx4))
  have hF4 := hF3.ext hx4
  have hK4 := hK3.ext hx4
  have hR4 := hR3.ext hx4
  have hg3 := hR3.lt
  have hsm3 := ho3.size
  have hwm2 : w.heap.size < wm.heap.size := lt_of_blk hbm
  clear hK3 hF3 hR3 hKm hFm hRm hbm
  go_wp2_with fail
  generalize hw4 : w3.alloc _ = w4 at hx4 hb4 hb14 hO hF4 hR4 hK4 ⊢
  clear hw4
  have lz := lt_of_blk hb4
  have HS := Lib.hid (show ∀ w', Only [g] w4 w' → w'.cell? ⟨w3.heap.size, 0, none⟩ = some (.int .i64 b1) ∧ w'.cell? ⟨w3.heap.size, 1, none⟩ = some (.int .i64 b2) ∧ w'.cell? ⟨w3.heap.size, 2, none⟩ = some (.slice b3 b4 b5) from fun w' hw => by
    obtain ⟨y0, y1, y2, -, -, -⟩ := own3 (hw.keepBlk hb4 (by simp; omega))
    exact ⟨y0, y1, y2⟩)
  have hbR : ∀ w', Only [g] w4 w' → w'.heap[w.heap.size]? = some (.cells #[.int .i64 0, .int .i64 0, .slice none 0 0] 44 (0, 0)) := fun w' hw => hw.keepBlk hb14 (by simp; omega)
  have HBR := Lib.hid hbR
  have hwS : w.heap.size < w4.heap.size := lt_of_blk hb14
  have hs3w : w.heap.size < w3.heap.size := by omega
  have HO4 := Lib.hid hO
  have HHS := Lib.hid (show ∀ w', Only [g] w4 w' → ∀ v0 v1 v2, (((w'.setCell ⟨w.heap.size, 0, none⟩ v0).setCell ⟨w.heap.size, 1, none⟩ v1).setCell ⟨w.heap.size, 2, none⟩ v2).cell? ⟨w3.heap.size, 0, none⟩ = some (.int .i64 b1) ∧ (((w'.setCell ⟨w.heap.size, 0, none⟩ v0).setCell ⟨w.heap.size, 1, none⟩ v1).setCell ⟨w.heap.size, 2, none⟩ v2).cell? ⟨w3.heap.size, 1, none⟩ = some (.int .i64 b2) ∧ (((w'.setCell ⟨w.heap.size, 0, none⟩ v0).setCell ⟨w.heap.size, 1, none⟩ v1).setCell ⟨w.heap.size, 2, none⟩ v2).cell? ⟨w3.heap.size, 2, none⟩ = some (.slice b3 b4 b5) from fun w' hw v0 v1 v2 => by
    obtain ⟨y0, y1, y2, -, -, -⟩ := own3 (blk_setCell_ne (blk_setCell_ne (blk_setCell_ne (hw.keepBlk hb4 (by simp; omega)) (p := ⟨w.heap.size, 0, none⟩) (by show w3.heap.size ≠ w.heap.size; omega) v0) (p := ⟨w.heap.size, 1, none⟩) (by show w3.heap.size ≠ w.heap.size; omega) v1) (p := ⟨w.heap.size, 2, none⟩) (by show w3.heap.size ≠ w.heap.size; omega) v2)
    exact ⟨y0, y1, y2⟩)
  clear hb14 hbR hb4 hO
  have hD : Only [g] w4 w4.drew := Only.of_ext (Ext.refl w4).drew
  have hx34 : w3.heap.size < w4.heap.size := lz
  clear hx4
  go_region_held3 (fun w' => w'.cell? ⟨w3.heap.size, 0, none⟩ = some (.int .i64 b1) ∧ w'.cell? ⟨w3.heap.size, 1, none⟩ = some (.int .i64 b2) ∧ w'.cell? ⟨w3.heap.size, 2, none⟩ = some (.slice b3 b4 b5))
    (first | exact HHS.out _ (hD.trans ho5) _ _ _ | exact HS.out _ (hD.trans ho5) | exact HS.out _ hD)
    (first | (go_at_call 98; refine (l8Path_any t' _ g _ _ (hF4.lies.ext (Ext.refl w4).drew) (hR4.ext (Ext.refl w4).drew) (by omega)).mono ?_; rintro e w5 ⟨x, p, rfl, hpl, hPA, hR5, ho5⟩; obtain ⟨q0, q1, q2, r0, r1, r2⟩ := own3 (HBR.out _ (hD.trans ho5))))
  have hwS5 : w.heap.size < w5.heap.size := by have := (hD.trans ho5).size; omega
  have hE := (HO4.out.trans (hD.trans ho5)).ext (hx0.trans h1) (by intro b hb; simp at hb; omega)
  have hF5 := hF4.only (hD.trans ho5) (by intro b hb; rw [List.mem_singleton.1 hb]; omega)
  have hK5 := hK4.only (hD.trans ho5) (by intro b hb; rw [List.mem_singleton.1 hb]; omega)
  go_wp2_with fail
  refine bodyPost_ret (v := .tuple #[.slice B n c, .agg #[.int .i64 b1, .int .i64 b2, .slice b3 b4 b5], x]) (by simp [results, Try.results35, go_sem, q0, q1, q2]) rfl ⟨B, n, c, ks, t', _, x, p, rfl, hkn, hnc, hcm, hn9, hpl, ?_, ?_, ?_, ?_⟩
  · refine InK.mono (fun b hb => by simpa using hb.2) (fun b hb => ?_) hK5
    have hb1 : wm.heap.size ≤ b := hb.1
    rw [Below.heap_setCell _ _ _ _ (by show b ≠ w.heap.size; omega), Below.heap_setCell _ _ _ _ (by show b ≠ w.heap.size; omega), Below.heap_setCell _ _ _ _ (by show b ≠ w.heap.size; omega)]
  · exact (((hF5.set (by show w.heap.size < wm.heap.size; omega) _).set (by show w.heap.size < wm.heap.size; omega) _).set (by show w.heap.size < wm.heap.size; omega) _).lies
  · refine hPA.mono (fun b hb => by simpa using hb.2) (fun b hb => ?_)
    have hb1 : w4.heap.size ≤ b := hb.1
    rw [Below.heap_setCell _ _ _ _ (by show b ≠ w.heap.size; omega), Below.heap_setCell _ _ _ _ (by show b ≠ w.heap.size; omega), Below.heap_setCell _ _ _ _ (by show b ≠ w.heap.size; omega)]
  · exact ((hE.setCell (by simp) _).setCell (by simp) _).setCell (by simp) _
end Go.Proofs.Ytappakllopkfiaa
namespace Go.Proofs.Ytappakllopkfiaa
open Go.RowKit
set_option linter.unusedVariables false
attribute [local go_sem ↓] Go.wp_at_zero Go.wp_at_succ
theorem atV_snd (t : Tr) (p : List Int) : (atV t p).2 = (valid sigT t && (atT t p).isSome) := by
  unfold atV
  split <;> rename_i h <;> simp [h]
set_option maxRecDepth 100000 in
set_option maxHeartbeats 2000000 in
theorem contextAt_any (ctx : List Tr) (t : Tr) (path : List Int) (w : World) (v : Value) (A Ap : Option Addr) (cap pc : Nat) (hin : Lies w t v) (hK : LiesK w A ctx) (hl : ctx.length ≤ cap) (hc : cap ≤ maxLen) (hP : Nums w Ap path) (hpl : path.length ≤ pc) (hpc : pc ≤ maxLen) (hp9 : path.length < 1000) :
    Calls Try.prog 36 #[.slice A ctx.length cap, v, .slice Ap path.length pc] w fun e w' => ∃ B c, e = .returned (.tuple #[.slice B (ctxV ctx t path).1.length c, .bool (ctxV ctx t path).2]) ∧ (ctxV ctx t path).1.length ≤ c ∧ c ≤ maxLen ∧ LiesK w' B (ctxV ctx t path).1 ∧ Ext w w' := by
  obtain ⟨i0, hi, hz0, hz1, hz2⟩ := info_parts infoTermC
  have HV := Lib.hid (fun W (hW : Ext w W) => validTerm_any t W v (hin.ext hW))
  have HX := Lib.hid (fun (h : valid sigT t = true) W (hW : Ext w W) => walked_any t 30 (cnt_of_valid h).2 (by decide) path W v (hin.ext hW) Ap pc hpl hpc (hP.ext hW))
  have HA := Lib.hid (fun W (hW : Ext w W) => areTerms_any ctx W A cap hl hc (hK.ext hW))
  have hV : ctxV ctx t path = if (fitsC ctx && (valid sigT t && (atT t path).isSome) && decide (ctx.length + (bndT t path).length ≤ 8)) = true then (ctx ++ bndT t path, true) else ([], false) := by
    rw [← atV_snd]
    rfl
  have HF := Lib.hid (fun (h : fitsC ctx = true) => fitsC_mem h)
  have HBL := Lib.hid (Nat.lt_of_le_of_lt (bndT_len path t) hp9)
  have HBC := Lib.hid (fun (h : valid sigT t = true) x hx => Nat.le_trans (bndT_cnt path t x hx) (valid_parts h).2)
  have HO := Lib.hid (fun W (hW : Ext w W) (h : fitsC ctx = true) => ownAll_any ctx W A cap (hK.ext hW) hl hc (by have := (fitsC_mem h).1; omega) (fun x hx => by have := (valid_parts ((fitsC_mem h).2 x hx)).2; omega))
  obtain ⟨bn, hbn⟩ : ∃ bn, bndT t path = bn := ⟨_, rfl⟩
  rw [hbn] at HX HBL HBC hV
  obtain ⟨q, hq⟩ : ∃ q, atT t path = q := ⟨_, rfl⟩
  rw [hq] at HX hV
  obtain ⟨z, hz⟩ : ∃ z, valid sigT t = z := ⟨_, rfl⟩
  rw [hz] at HV HX HBC hV
  obtain ⟨f, hf⟩ : ∃ f, fitsC ctx = f := ⟨_, rfl⟩
  rw [hf] at HA HF HO hV
  clear hbn hq hz hf hP hp9
  obtain ⟨k, n, ks⟩ := t
  obtain ⟨At, ct, rfl, -, -, -⟩ := Lies.mk_iff.1 hin
  have hx0 := (Ext.refl w).alloc (.cells #[.int .i64 k, .int .i64 n, .slice At ks.length ct] 44)
  have hb0 := heap_alloc_new w (.cells #[.int .i64 k, .int .i64 n, .slice At ks.length ct] 44)
  have hcc := hc
  unfold maxLen at hcc
  clear hin hK
  cases z with
  | false =>
    rw [if_neg (by simp)] at hV
    rw [hV]
    clear hV HX HBC HO HF HA hb0
    go_enter Try.func36, Try.ntmps36
    go_wp2_with fail
    refine (HV.out _ hx0).mono ?_
    rintro e w1 ⟨rfl, h1⟩
    go_wp2_with fail
    go_ret2
    exact ⟨none, 0, rfl, Nat.le_refl _, Nat.zero_le _, .inl rfl, hx0.trans h1⟩
  | true =>
    cases f with
    | false =>
      rw [if_neg (by simp)] at hV
      rw [hV]
      clear hV HX HBC HO HF hb0
      go_enter Try.func36, Try.ntmps36
      go_wp2_with fail
      refine (HV.out _ hx0).mono ?_
      rintro e w1 ⟨rfl, h1⟩
      have h1' := hx0.trans h1
      go_wp2_with fail
      refine (HA.out _ h1').mono ?_
      rintro e w2 ⟨rfl, h2⟩
      go_wp2_with fail
      go_ret2
      exact ⟨none, 0, rfl, Nat.le_refl _, Nat.zero_le _, .inl rfl, h1'.trans h2⟩
    | true =>
      obtain ⟨hc8, -⟩ := HF.out rfl
      rw [Bool.true_and, Bool.true_and] at hV
      have HX2 := Lib.hid (HX.out rfl)
      have HO2 := Lib.hid (fun W hW => HO.out W hW rfl)
      have HBC2 := Lib.hid (HBC.out rfl)
      clear HF HX HO HBC
      go_enter Try.func36, Try.ntmps36
      go_wp2_with fail
      refine (HV.out _ hx0).mono ?_
      rintro e w1 ⟨rfl, h1⟩
      have h1' := hx0.trans h1
      have hb1 := h1.blk hb0
      go_wp2_with fail
      refine (HA.out _ h1').mono ?_
      rintro e w2 ⟨rfl, h2⟩
      have h2' := h1'.trans h2
      obtain ⟨s0, s1, s2, -, -, -⟩ := own3 (h2.blk hb1)
      clear hb0 hb1 h1 h2 HA HV
      go_wp2_with fail
      refine (HX2.out _ h2').mono ?_
      rintro e w3 ⟨x, ar, rfl, hLx, hG1, hG2, e3⟩
      have h3' := h2'.trans e3
      generalize q.getD dflt0 = y at hLx
      obtain ⟨k9, n9, ks9⟩ := y
      obtain ⟨A9, c9, rfl, -, -, -⟩ := Lies.mk_iff.1 hLx
      generalize q.isSome = sm at hG1 hG2 hV ⊢
      have h4' := h3'.alloc (.cells #[.int .i64 k9, .int .i64 n9, .slice A9 ks9.length c9] 44)
      cases sm with
      | false =>
        obtain rfl := hG2 rfl
        rw [if_neg (by simp)] at hV
        have HVV := Lib.hid hV
        clear hV HX2 HBC2 HO2 s0 s1 s2 hG1 hG2 hLx
        go_wp2_with fail
        go_ret2
        rw [HVV.out]
        exact ⟨none, 0, rfl, Nat.le_refl _, Nat.zero_le _, .inl rfl, h4'⟩
      | true =>
        have hG3 := hG1 rfl
        obtain ⟨Ba, ca, rfl, la, ma, hKa⟩ := hG3.lies e3.size
        have hbl := HBL.out
        have hma := ma
        unfold maxLen at hma
        rw [Bool.true_and] at hV
        by_cases h8 : ctx.length + bn.length ≤ 8
        · have d8 : decide ((8 : Int) < (ctx.length : Int) + (bn.length : Int)) = false := decide_eq_false (by omega)
          rw [if_pos (by simpa using h8)] at hV
          have HVV := Lib.hid hV
          have hKa4 : LiesK (w3.alloc (.cells #[.int .i64 k9, .int .i64 n9, .slice A9 ks9.length c9] 44)) Ba bn := hKa.ext ((Ext.refl w3).alloc _)
          clear hV HX2 s0 s1 s2 hG1 hG2 hLx hG3 hKa
          go_wp2_with fail
          generalize World.alloc w3 _ = w4 at h4' hKa4 ⊢
          refine (HO2.out _ h4').mono ?_
          rintro e w5 ⟨v5, rfl, hG5, e5⟩
          have hbc := HBC2.out
          go_wp2_with fail
          refine (ownAll_any bn w5 Ba ca (hKa4.ext e5) la ma (by omega) (fun x hx => by have := hbc x hx; omega)).mono ?_
          rintro e w6 ⟨v6, rfl, hG6, e6⟩
          have hGa := hG5.toS.ext e6
          have hs5 := e5.size
          have hs6 := e6.size
          obtain ⟨A6, c6, he6, l6, m6, hK6, -⟩ := hG6.toS.lies (fun b hb => hb)
          have hlt5 : ∀ b, v5.ownBlock = some b → b < w5.heap.size := fun b hb => by
            obtain ⟨xs, L, q1, -⟩ := hG5
            exact (q1.lt b hb).2
          have hG6s := hG6.toS
          rw [he6] at hG6s
          have hnil : A6 = none → c6 = 0 := fun h => by
            subst h
            exact hG6s.capz
          clear hG6s
          subst he6
          have hK7 : InK w6 (fun b => b < w6.heap.size ∧ v5.ownBlock ≠ some b ∧ ¬ b < w4.heap.size) A6 bn := InK.mono (fun b hb => ⟨hb.1, fun he => by have := hlt5 b he; have := hb.2; omega, by have := hb.2; omega⟩) (fun _ _ => rfl) hK6
          have hW6 : w4.heap.size ≤ w6.heap.size := by omega
          obtain ⟨B5, c5, rfl, -, -, -⟩ := hG5.made
          clear hG5 hG6 hK6 hlt5 HBC2 HO2
          go_wp2_with (at_builtin; refine wpList_append_trees _ (by rfl) (.tmp 37) (.tmp 39) _ (by rfl) 44 i0 _ Try.underlying42 hi hz0 hz1 hz2 rfl (by rfl) hGa hW6 hnil hK7 (by rfl) (by omega) (by omega) ?_)
          intro v7 w7 hG7 hB7
          obtain ⟨A7, c7, rfl, l7, m7, hK8, -⟩ := hG7.lies (fun b hb => hb)
          go_wp2_with fail
          go_ret2
          rw [HVV.out]
          exact ⟨A7, c7, rfl, l7, m7, InK.mono (fun b hb => hb.1) (fun _ _ => rfl) hK8, ((h4'.trans e5).trans e6).trans' hB7 h4'.size⟩
        · have d8 : decide ((8 : Int) < (ctx.length : Int) + (bn.length : Int)) = true := decide_eq_true (by omega)
          rw [if_neg (by simpa using h8)] at hV
          have HVV := Lib.hid hV
          clear hV HX2 HBC2 HO2 s0 s1 s2 hG1 hG2 hLx
          go_wp2_with fail
          go_ret2
          rw [HVV.out]
          exact ⟨none, 0, rfl, Nat.le_refl _, Nat.zero_le _, .inl rfl, h4'⟩
end Go.Proofs.Ytappakllopkfiaa

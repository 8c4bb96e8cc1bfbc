/-
  Lemmas towards the law, 34: Norm, MNb.
-/
import Derived.Test.YtdkamgafpphdjaaEBG
namespace Go.Proofs.Ytdkamgafpphdjaa
open Go.RowKit
set_option linter.unusedVariables false
theorem nrmC_none {x : Tr} (h : outT x = none) (f : Nat) : nrmC f x = (x, 0) := by
  cases f <;> (unfold nrmC; rw [h])
theorem nrmC_zero {x : Tr} {p : List Int} (h : outT x = some p) : nrmC 0 x = (dflt0, 1) := by
  unfold nrmC; rw [h]
theorem nrmC_no {x : Tr} {p : List Int} (h : outT x = some p) (hv : valid sigT (conA x p) = false) (f : Nat) : nrmC (f + 1) x = (dflt0, 2) := by
  rw [nrmC, h]
  simp only
  rw [if_neg (by rw [hv]; decide)]
theorem nrmC_go {x : Tr} {p : List Int} (h : outT x = some p) (hv : valid sigT (conA x p) = true) (f : Nat) : nrmC (f + 1) x = nrmC f (conA x p) := by
  rw [nrmC, h]
  simp only
  rw [if_pos hv]
set_option maxRecDepth 100000 in
set_option maxHeartbeats 4000000 in
theorem reduce_any (t : Tr) (f : Int) (w : World) (v : Value) (hin : Lies w t v) :
    Calls Try.prog 60 #[v, .int .i64 f, .func (.func 72) #[] #[]] w fun e w' => ∃ r s, e = .returned (.tuple #[r, .int .i64 s, .int .i64 (normV t f).2]) ∧ Made w w' 27 (normV t f).1 r ∧ Ext w w' := by
  have HV := Lib.hid (fun W (hW : Ext w W) => validTerm_any t W v (hin.ext hW))
  have E : normV t f = if (valid sigT t && inR f 0 200) = true then nrmC f.toNat t else (dflt0, 3) := rfl
  rw [E]
  clear E
  obtain ⟨z, hz⟩ : ∃ z, valid sigT t = z := ⟨_, rfl⟩
  obtain ⟨y, hy⟩ : ∃ y, inR f 0 200 = y := ⟨_, rfl⟩
  rw [hz] at HV ⊢
  rw [hy]
  obtain ⟨k, n, ks⟩ := t
  obtain ⟨A, cap, rfl, hl, hc, hK⟩ := Lies.mk_iff.1 hin
  have hx0 := ((Ext.refl w).alloc (.cells #[.int .i64 k, .int .i64 n, .slice A ks.length cap] 27)).alloc (.cells #[.int .i64 0, .int .i64 0, .slice none 0 0] 27)
  obtain ⟨hb0, hb1, hs2⟩ := blk2 (Ext.refl ((w.alloc (.cells #[.int .i64 k, .int .i64 n, .slice A ks.length cap] 27)).alloc (.cells #[.int .i64 0, .int .i64 0, .slice none 0 0] 27)))
  obtain ⟨wS, hwS⟩ : ∃ x, x = (w.alloc (.cells #[.int .i64 k, .int .i64 n, .slice A ks.length cap] 27)).alloc (.cells #[.int .i64 0, .int .i64 0, .slice none 0 0] 27) := ⟨_, rfl⟩
  rw [← hwS] at hx0 hb0 hb1 hs2
  cases z with
  | false =>
    rw [if_neg (by simp)]
    go_enter Try.func60, Try.ntmps60
    go_wp2_with fail
    rw [← hwS]
    clear hwS
    refine (HV.out _ hx0).mono ?_
    rintro e w1 ⟨rfl, h1⟩
    obtain ⟨s0, s1, s2, f0, f1, f2⟩ := own3 (h1.blk hb1)
    go_wp2_with fail
    refine bodyPost_ret (v := .tuple #[.agg #[.int .i64 0, .int .i64 0, .slice none 0 0], .int .i64 0, .int .i64 3]) (by simp [results, Try.results60, go_sem, s0, s1, s2]) rfl ⟨_, _, rfl, Made.leaf _ _ _ 0 0, ?_⟩
    exact ((((hx0.trans h1).setCell (by simp) _).setCell (by simp) _).setCell (by simp) _)
  | true =>
    cases y with
    | false =>
      rw [if_neg (by simp)]
      go_enter Try.func60, Try.ntmps60
      go_wp2_with fail
      rw [← hwS]
      clear hwS
      refine (HV.out _ hx0).mono ?_
      rintro e w1 ⟨rfl, h1⟩
      obtain ⟨s0, s1, s2, f0, f1, f2⟩ := own3 (h1.blk hb1)
      go_wp2_with (go_at_call 19; refine (within_any _ _ _ _).mono ?_; rw [hy]; rintro e w3 ⟨rfl, rfl⟩)
      refine bodyPost_ret (v := .tuple #[.agg #[.int .i64 0, .int .i64 0, .slice none 0 0], .int .i64 0, .int .i64 3]) (by simp [results, Try.results60, go_sem, s0, s1, s2]) rfl ⟨_, _, rfl, Made.leaf _ _ _ 0 0, ?_⟩
      exact ((((hx0.trans h1).setCell (by simp) _).setCell (by simp) _).setCell (by simp) _)
    | true =>
      rw [if_pos (by simp)]
      obtain ⟨hf1, hf2⟩ := inR_iff.1 hy
      obtain ⟨F, rfl⟩ := Int.eq_ofNat_of_zero_le hf1
      rw [show ((F : Int)).toNat = F from by omega]
      obtain ⟨R, hR⟩ : ∃ R, nrmC F (.mk k n ks) = R := ⟨_, rfl⟩
      rw [hR]
      have HR := Lib.hid hR
      have HY := Lib.hid hy
      have HZ := Lib.hid hz
      have HF := Lib.hid hf2
      clear hy hR hz hf1 hf2
      go_enter Try.func60, Try.ntmps60
      go_wp2_with fail
      rw [← hwS]
      clear hwS
      refine (HV.out _ hx0).mono ?_
      rintro e w1 ⟨rfl, h1⟩
      have hb10 := h1.blk hb0
      have hb11 := h1.blk hb1
      have hx1 := hx0.trans h1
      go_wp2_with (go_at_call 19; refine (within_any _ _ _ _).mono ?_; rw [HY.out]; rintro e w3 ⟨rfl, rfl⟩)
      clear HV hx0 hb0 hb1 hs2 h1 hin HY
      go_loopw [9] (fun i wr => ∃ (j : Nat) (k' n' : Int) (kids : List Tr) (A' : Option Addr) (c' : Nat), j ≤ F ∧ i = .int .i64 j ∧
        Hid (nrmC (F - j) (.mk k' n' kids) = R) ∧ Hid (valid sigT (.mk k' n' kids) = true) ∧ kids.length ≤ c' ∧ c' ≤ maxLen ∧ InK wr (fun b => b < wr.heap.size ∧ (b < w.heap.size ∨ w.heap.size + 2 ≤ b)) A' kids ∧
        wr.heap[w.heap.size]? = some (.cells #[.int .i64 k', .int .i64 n', .slice A' kids.length c'] 27 (0, 0)) ∧ wr.heap[w.heap.size + 1]? = some (.cells #[.int .i64 0, .int .i64 0, .slice none 0 0] 27 (0, 0)) ∧ Ext w wr) (fun i _ => F - (intOf i).toNat)
      case atStart => exact ⟨0, k, n, ks, A, cap, Nat.zero_le _, rfl, Lib.hid HR.out, HZ, hl, hc, InK.mono (fun b hb => ⟨Nat.lt_of_lt_of_le hb hx1.size, .inl hb⟩) (fun b hb => hx1.heap b hb) hK, hb10, hb11, hx1⟩
      case round =>
        obtain ⟨j, k', n', kids, A', c', hj, rfl, HN, HVX, hkl, hkc, hT, hb, hbR, hx⟩ := hrel
        have hsz : w.heap.size + 1 < wr.heap.size := lt_of_blk hbR
        have hL : Lies wr (.mk k' n' kids) (.agg #[.int .i64 k', .int .i64 n', .slice A' kids.length c']) := Lies.mk hkl hkc (InK.mono (fun b hb => hb.1) (fun _ _ => rfl) hT)
        have HO := outer_any (.mk k' n' kids) wr _ 30 (cnt_of_valid HVX.out).2 hL (by decide)
        have HOW := Lib.hid (fun W (hW : Ext wr W) => own_any (.mk k' n' kids) W _ (hL.ext hW) (by have := (cnt_of_valid HVX.out).1; omega))
        have HCO := Lib.hid (fun p (hp : outT (.mk k' n' kids) = some p) W (hW : Ext wr W) B c (hP : PFs W B p.length c p) => contracted_any (.mk k' n' kids) p HVX.out (outT_at _ p hp) W _ (hL.ext hW) B p.length c hP (by have := outT_len _ 30 (cnt_of_valid HVX.out).2 p hp; omega))
        rw [show outP (.mk k' n' kids) = (outT (.mk k' n' kids)).getD [] from rfl] at HO
        have HO2 := Lib.hid HO
        clear HO hT hK hb10 hb11 hx1
        obtain ⟨z0, z1, z2, -, -, -⟩ := own3 hb
        obtain ⟨q, hq⟩ : ∃ q, outT (.mk k' n' kids) = q := ⟨_, rfl⟩
        rw [hq] at HO2
        cases q with
        | none =>
          have HE := Lib.hid (HN.out.symm.trans (nrmC_none hq (F - j)))
          clear HCO hq HN
          go_wp2_with fail
          refine HO2.out.mono ?_
          rintro e w2 ⟨x, rfl, -, h2⟩
          obtain ⟨y0, y1, y2, -, -, -⟩ := own3 (h2.blk hb)
          clear z0 z1 z2
          go_wp2_with fail
          refine (HOW.out _ h2).mono ?_
          rintro e w3 ⟨r, rfl, hM, h3⟩
          obtain ⟨b1, b2, b3, b4, b5, rfl⟩ := hM.three'
          have h16 := h2.trans h3
          obtain ⟨s0, s1, s2, f0, f1, f2⟩ := own3 (h16.blk hbR)
          have hw4 : w.heap.size + 2 ≤ w2.heap.size := by have := h2.size; omega
          clear y0 y1 y2
          go_wp2_with fail
          rw [HE.out]
          refine bodyPost_ret (v := .tuple #[.agg #[.int .i64 b1, .int .i64 b2, .slice b3 b4 b5], .int .i64 j, .int .i64 0]) (by simp [results, Try.results60, go_sem, s0, s1, s2]) rfl ⟨_, _, rfl, Made.since (hM.after ((((Above.refl _ _).setCell (p := ⟨w.heap.size + 1, 0, none⟩) (by show w.heap.size + 1 < _; omega) (.int .i64 b1)).setCell (p := ⟨w.heap.size + 1, 1, none⟩) (by show w.heap.size + 1 < _; omega) (.int .i64 b2)).setCell (p := ⟨w.heap.size + 1, 2, none⟩) (by show w.heap.size + 1 < _; omega) (.slice b3 b4 b5))) (by omega), ?_⟩
          exact ((((hx.trans h16).setCell (by simp) _).setCell (by simp) _).setCell (by simp) _)
        | some p =>
          have HCO2 := Lib.hid (HCO.out p hq)
          simp only [Option.isSome_some, Option.getD_some] at HO2
          have HQ := Lib.hid hq
          clear HCO hq HOW
          by_cases hjF : j = F
          · have HE := Lib.hid (HN.out.symm.trans (show nrmC (F - j) (.mk k' n' kids) = (dflt0, 1) by rw [show F - j = 0 by omega]; exact nrmC_zero HQ.out))
            clear HCO2 HN
            subst hjF
            go_wp2_with fail
            refine HO2.out.mono ?_
            rintro e w2 ⟨x, rfl, hRw, h2⟩
            obtain ⟨B, c, rfl, hP⟩ := pfs_row hRw
            obtain ⟨s0, s1, s2, f0, f1, f2⟩ := own3 (h2.blk hbR)
            clear z0 z1 z2 hRw
            go_wp2_with fail
            rw [HE.out]
            refine bodyPost_ret (v := .tuple #[.agg #[.int .i64 0, .int .i64 0, .slice none 0 0], .int .i64 j, .int .i64 1]) (by simp [results, Try.results60, go_sem, s0, s1, s2]) rfl ⟨_, _, rfl, Made.leaf _ _ _ 0 0, ?_⟩
            exact ((((hx.trans h2).setCell (by simp) _).setCell (by simp) _).setCell (by simp) _)
          · have hj1 : ((j : Int) == (F : Int)) = false := beq_eq_false_iff_ne.2 (by omega)
            have hj2 : (j == F) = false := beq_eq_false_iff_ne.2 hjF
            have hlt : j < F := by omega
            have hj3 : (j : Int) < 200 := by have := HF.out; omega
            have hj4 : F ≤ 200 := by have := HF.out; omega
            obtain ⟨g, hg⟩ : ∃ g, F - j = g + 1 := ⟨F - j - 1, by omega⟩
            have hg2 : F - (j + 1) = g := by omega
            have hcv : conV (.mk k' n' kids) p = if valid sigT (conA (.mk k' n' kids) p) = true then (conA (.mk k' n' kids) p, true) else (dflt0, false) := rfl
            have HN1 := HN.out
            rw [hg] at HN1
            by_cases hcx : valid sigT (conA (.mk k' n' kids) p) = true
            · rw [if_pos hcx] at hcv
              rw [nrmC_go HQ.out hcx, ← hg2] at HN1
              rw [hcv] at HCO2
              clear hcv HN hg hg2
              generalize conA (.mk k' n' kids) p = X at HCO2 HN1 hcx
              obtain ⟨k2, n2, kids2⟩ := X
              have HX1 := Lib.hid HN1
              have HX2 := Lib.hid hcx
              clear HN1 hcx
              go_wp2_with fail
              refine HO2.out.mono ?_
              rintro e w2 ⟨x, rfl, hRw, h2⟩
              obtain ⟨B, c, rfl, hP⟩ := pfs_row hRw
              obtain ⟨y0, y1, y2, -, -, -⟩ := own3 (h2.blk hb)
              clear z0 z1 z2 hRw
              go_wp2_with fail
              refine (HCO2.out _ h2 _ _ hP).mono ?_
              rintro e w3 ⟨r, rfl, hM, h3⟩
              have hF3 := From.made hM
              obtain ⟨A2, c2, rfl, hl2, hc2, hK2⟩ := InT.mk_iff.1 hF3
              have h16 := (h2.trans h3).trans ((Ext.refl w3).alloc (.cells #[.int .i64 k2, .int .i64 n2, .slice A2 kids2.length c2] 27))
              obtain ⟨s0, s1, s2, f0, f1, f2⟩ := own3 (h16.blk hb)
              have hb7 := h16.blk hb
              have hb8 := h16.blk hbR
              have hs23 : wr.heap.size ≤ w2.heap.size := h2.size
              have hs33 : w2.heap.size ≤ w3.heap.size := h3.size
              have KEEP := Lib.hid (fun (a0 a1 a2 : Value) (b : Nat) (hb : b < w3.heap.size) (hne : b ≠ w.heap.size) => (show ((((w3.alloc (.cells #[.int .i64 k2, .int .i64 n2, .slice A2 kids2.length c2] 27)).setCell ⟨w.heap.size, 0, none⟩ a0).setCell ⟨w.heap.size, 1, none⟩ a1).setCell ⟨w.heap.size, 2, none⟩ a2).heap[b]? = w3.heap[b]? from by
                rw [Below.heap_setCell _ _ _ _ hne, Below.heap_setCell _ _ _ _ hne, Below.heap_setCell _ _ _ _ hne]; exact ((Ext.refl w3).alloc _).heap b hb))
              clear y0 y1 y2 hb hbR hM hF3
              go_wp2_with fail
              go_roundw
              case rel => exact ⟨j + 1, k2, n2, kids2, A2, c2, hlt, by go_num, HX1, HX2, hl2, hc2, InK.mono (fun b hb => ⟨by simp; omega, .inr (by omega)⟩) (fun b hb => KEEP.out _ _ _ b hb.2 (by omega)) hK2, blk_setCell (blk_setCell (blk_setCell hb7 0 _) 1 _) 2 _, blk_setCell_ne (blk_setCell_ne (blk_setCell_ne hb8 (by simp) _) (by simp) _) (by simp) _, (((hx.trans h16).setCell (by simp) _).setCell (by simp) _).setCell (by simp) _⟩
              case measure => simp [intOf]; omega
            · rw [if_neg hcx] at hcv
              rw [nrmC_no HQ.out (Bool.eq_false_iff.2 hcx)] at HN1
              rw [hcv] at HCO2
              have HE := Lib.hid HN1.symm
              clear hcv HN hg hg2 hcx HN1
              go_wp2_with fail
              refine HO2.out.mono ?_
              rintro e w2 ⟨x, rfl, hRw, h2⟩
              obtain ⟨B, c, rfl, hP⟩ := pfs_row hRw
              obtain ⟨y0, y1, y2, -, -, -⟩ := own3 (h2.blk hb)
              clear z0 z1 z2 hRw
              go_wp2_with fail
              refine (HCO2.out _ h2 _ _ hP).mono ?_
              rintro e w3 ⟨r, rfl, hM, h3⟩
              obtain ⟨b1, b2, b3, b4, b5, rfl⟩ := hM.three'
              have h16 := (h2.trans h3).trans ((Ext.refl w3).alloc (.cells #[.int .i64 b1, .int .i64 b2, .slice b3 b4 b5] 27))
              obtain ⟨s0, s1, s2, f0, f1, f2⟩ := own3 (h16.blk hbR)
              clear y0 y1 y2
              go_wp2_with fail
              rw [HE.out]
              refine bodyPost_ret (v := .tuple #[.agg #[.int .i64 0, .int .i64 0, .slice none 0 0], .int .i64 j, .int .i64 2]) (by simp [results, Try.results60, go_sem, s0, s1, s2]) rfl ⟨_, _, rfl, Made.leaf _ _ _ 0 0, ?_⟩
              exact ((((hx.trans h16).setCell (by simp) _).setCell (by simp) _).setCell (by simp) _)
set_option maxRecDepth 100000 in
theorem normalize_any (t : Tr) (f : Int) (w : World) (v : Value) (hin : Lies w t v) :
    Calls Try.prog 59 #[v, .int .i64 f] w fun e w' => ∃ r, e = .returned (.tuple #[r, .int .i64 (normV t f).2]) ∧ Made w w' 27 (normV t f).1 r ∧ Ext w w' := by
  have HS := Lib.hid (fun W (hW : Ext w W) => reduce_any t f W v (hin.ext hW))
  obtain ⟨S, hS⟩ : ∃ S, normV t f = S := ⟨_, rfl⟩
  rw [hS] at HS ⊢
  obtain ⟨k, n, ks⟩ := t
  obtain ⟨A, cap, rfl, hl, hc, hK⟩ := Lies.mk_iff.1 hin
  clear hS
  have hx0 := ((Ext.refl w).alloc (.cells #[.int .i64 k, .int .i64 n, .slice A ks.length cap] 27)).alloc (.cells #[.int .i64 0, .int .i64 0, .slice none 0 0] 27)
  obtain ⟨hb0, hb1, hs2⟩ := blk2 (Ext.refl ((w.alloc (.cells #[.int .i64 k, .int .i64 n, .slice A ks.length cap] 27)).alloc (.cells #[.int .i64 0, .int .i64 0, .slice none 0 0] 27)))
  obtain ⟨wS, hwS⟩ : ∃ x, x = (w.alloc (.cells #[.int .i64 k, .int .i64 n, .slice A ks.length cap] 27)).alloc (.cells #[.int .i64 0, .int .i64 0, .slice none 0 0] 27) := ⟨_, rfl⟩
  rw [← hwS] at hx0 hb0 hb1 hs2
  go_enter Try.func59, Try.ntmps59
  go_wp2_with fail
  rw [← hwS]
  clear hwS
  refine (HS.out _ hx0).mono ?_
  rintro e w3 ⟨r, s, rfl, hM, h3⟩
  obtain ⟨b1, b2, b3, b4, b5, rfl⟩ := hM.three'
  have h16 := h3.trans ((Ext.refl w3).alloc (.cells #[.int .i64 b1, .int .i64 b2, .slice b3 b4 b5] 27))
  obtain ⟨s0, s1, s2, f0, f1, f2⟩ := own3 (h16.blk hb1)
  have hM2 := hM.ext ((Ext.refl w3).alloc (.cells #[.int .i64 b1, .int .i64 b2, .slice b3 b4 b5] 27))
  have hw4 : w.heap.size + 2 ≤ wS.heap.size := by omega
  go_wp2_with fail
  refine bodyPost_ret (v := .tuple #[.agg #[.int .i64 b1, .int .i64 b2, .slice b3 b4 b5], .int .i64 S.2]) (by simp [results, Try.results59, go_sem, s0, s1, s2]) rfl ⟨_, rfl, Made.since (hM2.after ((((Above.refl _ _).setCell (p := ⟨w.heap.size + 1, 0, none⟩) (by show w.heap.size + 1 < _; omega) (.int .i64 b1)).setCell (p := ⟨w.heap.size + 1, 1, none⟩) (by show w.heap.size + 1 < _; omega) (.int .i64 b2)).setCell (p := ⟨w.heap.size + 1, 2, none⟩) (by show w.heap.size + 1 < _; omega) (.slice b3 b4 b5))) (by omega), ?_⟩
  exact ((((hx0.trans h16).setCell (by simp) _).setCell (by simp) _).setCell (by simp) _)
end Go.Proofs.Ytdkamgafpphdjaa
namespace Go.Proofs.Ytdkamgafpphdjaa
open Go.RowKit
set_option linter.unusedVariables false
open M (Hd HR Cv Ty Lim WfL TyB Lev)
/-- An answer that is a type, or that a limit is reached. -/
def Nb (x : An) : Prop := ∀ s c, x = some (s, c) → c = 0 ∨ c = 2
theorem Nb.thn {x : An} {f : Tr → An} (h : Nb x) (k : ∀ s, x = some (s, 0) → Nb (f s)) : Nb (thn x f) := by
  intro s c e
  rcases thn_some e with ⟨u, h1, h2⟩ | ⟨u, c', h1, h2, h3⟩
  · exact k u h1 s c h2
  · simp only [Prod.mk.injEq] at h3
    obtain ⟨-, rfl⟩ := h3
    exact h u _ h1
theorem Nb.one {y : Tr × Int} (h : y.2 = 0 ∨ y.2 = 2) : Nb (some y) := by
  intro s c e
  simp only [Option.some.injEq] at e
  subst e
  exact h
theorem Nb.mk (t : Tr) : Nb (some (mkV t)) := Nb.one (by unfold mkV; split <;> simp)
theorem Nb.shp {F c : M.Tm} {kind : Int} (r : HR F c) (hc : M.hk c ≠ 0) (hk : (enc c).kind = kind) : Nb (some (shpV (enc F) kind)) := by
  refine Nb.one ?_
  unfold shpV
  split
  · simp
  · rename_i h1
    have h2 : hnfV (enc F) 200 = ((hnfV (enc F) 200).1, 0) := by
      have h3 : (hnfV (enc F) 200).2 = 0 := by simpa using h1
      rw [← h3]
    obtain ⟨B, e, rB, hs, -⟩ := hnf_enc h2
    rw [stuck_eq rB hs r hc] at e
    rw [e, if_neg (by rw [hk]; simp)]
    simp
theorem Nb.frm {x : An} {kind : Int} (h : Nb x) (k : ∀ s, x = some (s, 0) → ∃ F c, s = enc F ∧ HR F c ∧ M.hk c ≠ 0 ∧ (enc c).kind = kind) : Nb (frmV x kind) :=
  h.thn fun s e => by
    obtain ⟨F, c, rfl, r, hc, hk⟩ := k s e
    exact Nb.shp r hc hk
theorem Nb.chk {x y : An} {W : M.Tm} (h : Nb x) (k : ∀ s, x = some (s, 0) → ∃ X, s = enc X ∧ Cv X W) (hy : Nb y) : Nb (chkV x (enc W) y) :=
  h.thn fun s e => by
    obtain ⟨X, rfl, cX⟩ := k s e
    split
    · exact hy
    · rename_i h0
      exact Nb.one (.inr ((cvt_nb cX).resolve_left h0))
theorem Nb.fam {x y : An} {T : M.Tm} (h : Nb x) (k : ∀ s, x = some (s, 0) → ∃ F C D j, s = enc F ∧ HR F (.pi C D) ∧ Cv C T ∧ HR D (.sort j)) (hy : Nb y) : Nb (famV x (enc T) y) := by
  have h1 : Nb (frmV x 3) := h.frm fun s e => by
    obtain ⟨F, C, D, j, rfl, r, -, -⟩ := k s e
    exact ⟨F, .pi C D, rfl, r, by simp [M.hk], rfl⟩
  refine h1.thn fun s e => ?_
  obtain ⟨u, e1, e2, e3⟩ := frmV_ok e
  obtain ⟨F, C, D, j, rfl, r, cC, rD⟩ := k u e1
  obtain ⟨B, rfl, rB, hs, -⟩ := hnf_enc e2
  obtain rfl := stuck_eq rB hs r (by simp [M.hk])
  split
  · exact (Nb.shp (F := D) rD (by simp [M.hk]) rfl).thn fun _ _ => hy
  · rename_i h0
    exact Nb.one (.inr ((cvt_nb (A := C) cC).resolve_left h0))
theorem under_is {f : Nat} {G : List M.Tm} {k : Int} {A t : M.Tm} {s : Tr} (hk : und k 1 = 1) (h : tyV (infV f) (ctxE G) k [enc A, enc t] 1 = some (s, 0)) : infV f (ctxE (A :: G)) (enc t) = some (s, 0) := by
  have := (uty hk h).2
  rwa [show ctxE G ++ [kd [enc A, enc t] 0] = ctxE (A :: G) from (ctxE_cons A G).symm] at this
end Go.Proofs.Ytdkamgafpphdjaa

/-
  Lemmas towards the law, 47: InfL, InfM.
-/
import Derived.Test.YtdkamgafpphdjaaEBT
namespace Go.Proofs.Ytdkamgafpphdjaa
open Go.RowKit
set_option linter.unusedVariables false
attribute [local go_sem ↓] Go.wp_at_zero Go.wp_at_succ
abbrev AllN : Nat → Prop := fun _ => True
theorem InK.all {w : World} {A : Option Addr} {ks : List Tr} (h : LiesK w A ks) : InK w AllN A ks := InK.mono (fun _ _ => trivial) (fun _ _ => rfl) h
theorem InT.all {w : World} {t : Tr} {v : Value} (h : Lies w t v) : InT w AllN t v := InT.mono (fun _ _ => trivial) (fun _ _ => rfl) h
theorem infF_of {f : Nat} {w : World} {A : Option Addr} {ca : Nat} {G : List Tr} (hca : G.length ≤ ca) (hcm : ca ≤ maxLen) (hv : ∀ x ∈ G, valid sigT x = true) (hL : G.length ≤ 20) : InfF w A ca G (infV f G) :=
  fun W N hx hN hG t v ht htv r hr => infer_any f W N A ca G t v r hN hca hcm hG hv hL ht htv hr
set_option maxRecDepth 100000 in
set_option maxHeartbeats 4000000 in
theorem checkCtx_any (f : Nat) (ks : List Tr) (w : World) (A : Option Addr) (cap : Nat) (hK : LiesK w A ks) (hl : ks.length ≤ cap) (hc : cap ≤ maxLen) (r : Tr × Int) (h : ccV f ks = some r) :
    Calls Try.prog 25 #[.slice A ks.length cap] w fun e w' => e = .returned (.int .i64 r.2) ∧ Ext w w' := by
  have hcc := hc
  unfold maxLen at hcc
  by_cases h8 : ks.length ≤ 8
  · have d8 : decide ((8 : Int) < (ks.length : Int)) = false := decide_eq_false (by omega)
    have H3 : Hid (∀ t ∈ ks, valid sigT t = false → r.2 = 3) := Lib.hid fun t ht hv => by
      have : fitsC ks = false := by
        unfold fitsC
        rw [Bool.and_eq_false_iff]
        refine .inr ?_
        simp only [Bool.not_eq_false', List.any_eq_true]
        exact ⟨t, ht, by simp [hv]⟩
      unfold ccV at h
      rw [if_neg (by simp [this])] at h
      have e : (dflt0, (3 : Int)) = r := by simpa using h
      rw [← e]
    have HG : Hid ((∀ t ∈ ks, valid sigT t = true) → ccR f [] ks = some r) := Lib.hid fun hv => by
      have : fitsC ks = true := by
        unfold fitsC
        rw [Bool.and_eq_true, decide_eq_true_eq]
        refine ⟨h8, ?_⟩
        simp only [Bool.not_eq_true', List.any_eq_false]
        intro t ht
        simp [hv t ht]
      unfold ccV at h
      rwa [if_pos this] at h
    clear h
    have HK := Lib.hid hK
    go_enter Try.func25, Try.ntmps25
    go_wp2_with fail
    go_loopw [14] (fun i wr => ∃ j : Nat, j ≤ ks.length ∧ i = .int .i64 j ∧ Hid (∀ t ∈ ks.take j, valid sigT t = true) ∧ Ext w wr) (fun i _ => ks.length - (intOf i).toNat)
    case atStart => exact ⟨0, Nat.zero_le _, rfl, Lib.hid (by simp), Ext.refl _⟩
    case round =>
      obtain ⟨j, hj, rfl, hval, hx⟩ := hrel
      by_cases hlt : j < ks.length
      · obtain ⟨b, o, k1, n1, A1, p1, kids1, rfl, HK1, c0, c1, c2, l1, m1, hK1, hin1, hmem1⟩ := hK.get hx hlt
        have hj' : (j : Int) < (ks.length : Int) := by omega
        have hE := hx.alloc (.cells #[.int .i64 k1, .int .i64 n1, .slice A1 kids1.length p1] 27)
        have hE1 := (Ext.refl wr).alloc (.cells #[.int .i64 k1, .int .i64 n1, .slice A1 kids1.length p1] 27)
        have HV := Lib.hid (validTerm_any (.mk k1 n1 kids1) _ _ (hin1.ext hE1))
        go_wp2_with fail
        refine HV.out.mono ?_
        rintro e w1 ⟨rfl, h1⟩
        have hX := hE.trans h1
        obtain ⟨vv, hvv⟩ : ∃ vv, valid sigT (.mk k1 n1 kids1) = vv := ⟨_, rfl⟩
        rw [hvv]
        have HVV := Lib.hid hvv
        clear hvv HV c0 c1 c2
        cases vv with
        | false =>
          go_wp2_with fail
          go_ret
          exact ⟨by rw [H3.out _ hmem1 HVV.out]; rfl, hX⟩
        | true =>
          have HVL : Hid (∀ t ∈ ks.take (j + 1), valid sigT t = true) := Lib.hid fun t ht => by
            rw [List.take_succ_eq_append_getElem hlt, List.mem_append, List.mem_singleton] at ht
            rcases ht with ht | rfl
            · exact hval.out t ht
            · rw [HK1.out]; exact HVV.out
          go_wp2_with fail
          go_roundw
          case rel => exact ⟨j + 1, by omega, by go_num, HVL, hX⟩
          case measure => simp [intOf]; omega
      · have hv : ∀ t ∈ ks, valid sigT t = true := by
          have := hval.out
          rwa [List.take_of_length_le (by omega)] at this
        have HVD := Lib.hid hv
        have HGG := Lib.hid (HG.out hv)
        clear hv hval HG H3
        go_wp2_with fail
        go_loopw [24] (fun i wr => ∃ j : Nat, j ≤ ks.length ∧ i = .int .i64 j ∧ Hid (ccR f (ks.take j) (ks.drop j) = some r) ∧ Ext w wr) (fun i _ => ks.length - (intOf i).toNat)
        case atStart => exact ⟨0, Nat.zero_le _, rfl, HGG, hx⟩
        case round =>
          obtain ⟨i, hi, rfl, HR, hx2⟩ := hrel
          by_cases hlt : i < ks.length
          · obtain ⟨b, o, k1, n1, A1, p1, kids1, rfl, HK1, c0, c1, c2, l1, m1, hK1, hin1, hmem1⟩ := hK.get hx2 hlt
            have hi' : (i : Int) < (ks.length : Int) := by omega
            have hi0 : (0 : Int) ≤ (i : Int) := by omega
            have hic : (i : Int) ≤ (cap : Int) := by omega
            have hE1 := (Ext.refl wr).alloc (.cells #[.int .i64 k1, .int .i64 n1, .slice A1 kids1.length p1] 27)
            have hB1 := heap_alloc_new wr (.cells #[.int .i64 k1, .int .i64 n1, .slice A1 kids1.length p1] 27)
            obtain ⟨sA, c, h1, h2, h3⟩ := thn_code (by
              have := HR.out
              rw [List.drop_eq_getElem_cons hlt, ccR] at this
              exact this)
            rw [HK1.out] at h1
            have H1 := Lib.hid h1
            have H2 := Lib.hid h2
            have H3 := Lib.hid h3
            have HIN := Lib.hid hin1
            have HLEV := Lib.hid (fun (W : World) (hW : Ext wr W) => level_any (wC := wr) (infF_of (f := f) (w := wr) (A := some ⟨b, o, none⟩) (ca := cap) (G := ks.take i) (by simp; omega) hc (fun x hm => HVD.out x (List.mem_of_mem_take hm)) (by simp; omega)) W AllN hW (fun _ _ => trivial) ((InK.all (HK.out.ext (hx2.trans hW))).take i) (.mk k1 n1 kids1) _ (InT.all (HIN.out.ext hW)) (HVD.out _ hmem1) _ H1.out)
            rw [show (ks.take i).length = i from by simp; omega] at HLEV
            clear h1 h2 h3 hin1 hK1 HR
            go_wp2_with fail
            obtain ⟨z0, z1, z2, -, -, -⟩ := own3 hB1
            have HKEEP := Lib.hid (show ∀ w', Ext (wr.alloc (.cells #[.int .i64 k1, .int .i64 n1, .slice A1 kids1.length p1] 27)) w' → w'.cell? ⟨wr.heap.size, 0, none⟩ = some (.int .i64 k1) ∧ w'.cell? ⟨wr.heap.size, 1, none⟩ = some (.int .i64 n1) ∧ w'.cell? ⟨wr.heap.size, 2, none⟩ = some (.slice A1 kids1.length p1) from fun w' h => ⟨h.cell z0, h.cell z1, h.cell z2⟩)
            obtain ⟨q, hq⟩ : ∃ q, wr.alloc (.cells #[.int .i64 k1, .int .i64 n1, .slice A1 kids1.length p1] 27) = q := ⟨_, rfl⟩
            rw [hq] at HKEEP hE1 z0 z1 z2
            rw [hq]
            obtain ⟨g, hg⟩ : ∃ g, wr.heap.size = g := ⟨_, rfl⟩
            rw [hg] at HKEEP z0 z1 z2 ⊢
            clear hq hg hB1 c0 c1 c2
            go_region_held3 (fun w' => w'.cell? ⟨g, 0, none⟩ = some (.int .i64 k1) ∧ w'.cell? ⟨g, 1, none⟩ = some (.int .i64 n1) ∧ w'.cell? ⟨g, 2, none⟩ = some (.slice A1 kids1.length p1))
              (first | exact HKEEP.out _ ((Ext.refl _).drew) | exact HKEEP.out _ ((Ext.refl _).drew.trans e2))
              (first | (go_at_call 21; refine (HLEV.out _ (hE1.trans (Ext.refl _).drew)).mono ?_; rintro e w2 ⟨rfl, e2⟩))
            have hX := (hx2.trans hE1).trans ((Ext.refl _).drew.trans e2)
            clear HKEEP z0 z1 z2 HLEV
            by_cases hc0 : c = 0
            · subst hc0
              have HR2 := Lib.hid (H2.out rfl)
              rw [← List.take_succ_eq_append_getElem hlt] at HR2
              clear H1 H2 H3
              go_wp2_with fail
              go_roundw
              case rel => exact ⟨i + 1, by omega, by go_num, HR2, hX⟩
              case measure => simp [intOf]; omega
            · have t1 : (c != 0) = true := by simp [hc0]
              have hr := H3.out hc0
              clear H1 H2 H3 hc0
              go_wp2_with fail
              go_ret
              exact ⟨by rw [hr]; rfl, hX⟩
          · have hr : r = (dflt0, 0) := by
              have := HR.out
              rw [List.drop_of_length_le (by omega)] at this
              simpa [ccR] using this.symm
            go_wp2_with fail
            go_ret
            exact ⟨by rw [hr]; rfl, hx2⟩
  · have d8 : decide ((8 : Int) < (ks.length : Int)) = true := decide_eq_true (by omega)
    have hr : r.2 = 3 := by
      unfold ccV fitsC at h
      rw [decide_eq_false h8, Bool.false_and, if_neg (by simp)] at h
      have e : (dflt0, (3 : Int)) = r := by simpa using h
      rw [← e]
    go_enter Try.func25, Try.ntmps25
    go_wp2_with fail
    go_ret
    exact ⟨by rw [hr]; rfl, Ext.refl _⟩
end Go.Proofs.Ytdkamgafpphdjaa
namespace Go.Proofs.Ytdkamgafpphdjaa
open Go.RowKit
set_option linter.unusedVariables false
attribute [local go_sem ↓] Go.wp_at_zero Go.wp_at_succ
theorem ready1 (t : Tr) (w : World) (v : Value) (hin : Lies w t v) : Calls Try.prog 27 #[v] w fun e w' => e = .returned (.bool (!valid sigT t)) ∧ Ext w w' := by
  have HV := Lib.hid (fun W (hW : Ext w W) => validTerm_any t W v (hin.ext hW))
  obtain ⟨k, n, ks⟩ := t
  obtain ⟨A, cap, rfl, hl, hc, hK⟩ := Lies.mk_iff.1 hin
  go_enter Try.func27, Try.ntmps27
  go_wp2_with fail
  refine (HV.out _ ((Ext.refl w).alloc _)).mono ?_
  rintro e w1 ⟨rfl, h1⟩
  go_wp2_with fail
  go_ret
  exact ⟨rfl, h1.pre⟩
set_option maxHeartbeats 400000 in
theorem index_rd (ks : List Tr) (w : World) (A : Option Addr) (cap : Nat) (hl : ks.length ≤ cap) (hc : cap ≤ maxLen) (h : LiesK w A ks) :
    Calls Try.prog 32 #[.slice A ks.length cap, .func (.func 27) #[] #[]] w fun e w' => e = .returned (.int .i64 (firstIx (fun t => !valid sigT t) ks 0)) ∧ Ext w w' := by
  obtain ⟨p, hp⟩ : ∃ p : Tr → Bool, p = fun t => !valid sigT t := ⟨_, rfl⟩
  have hf : ∀ t ∈ ks, ∀ w' v, Ext w w' → Lies w' t v → Calls Try.prog 27 #[v] w' fun e w'' => e = .returned (.bool (p t)) ∧ Ext w' w'' := fun t _ w' v _ hv => by rw [hp]; exact ready1 t w' v hv
  rw [← hp]
  clear hp
  unfold maxLen at hc
  go_enter Try.func32, Try.ntmps32
  go_wp2_with fail
  go_loopw [8] (fun i wr => ∃ j : Nat, j ≤ ks.length ∧ i = .int .i64 j ∧ firstIx p ks 0 = firstIx p (ks.drop j) j ∧ Ext w wr) (fun i _ => ks.length - (intOf i).toNat)
  case atStart => exact ⟨0, Nat.zero_le _, rfl, rfl, Ext.refl _⟩
  case round =>
    obtain ⟨j, hj, rfl, heq, hx⟩ := hrel
    have HE := Lib.hid heq
    clear heq
    by_cases hlt : j < ks.length
    · obtain ⟨b, o, k, n, A', cap', kids, rfl, HK, c0, c1, c2, hkl, hkc, hK, hin, hmem⟩ := h.get hx hlt
      have hst : firstIx p (ks.drop j) j = if p (.mk k n kids) = true then (j : Int) else firstIx p (ks.drop (j + 1)) (j + 1) := by
        rw [List.drop_eq_getElem_cons hlt, HK.out]; conv => lhs; unfold firstIx
      have HF := Lib.hid (hf _ hmem)
      clear hf
      go_wp2_with fail
      refine (HF.out wr _ hx hin).mono ?_
      rintro e w1 ⟨rfl, h1⟩
      generalize p (.mk k n kids) = r at hst
      cases r with
      | true =>
        rw [if_pos rfl] at hst
        have HT := Lib.hid hst
        clear hst
        go_wp2_with fail
        go_ret
        exact ⟨by rw [HE.out, HT.out]; rfl, hx.trans h1⟩
      | false =>
        rw [if_neg (by decide)] at hst
        have HT := Lib.hid hst
        clear hst
        go_wp2_with fail
        go_roundw
        case rel => exact ⟨j + 1, by omega, by go_num, by rw [HE.out, HT.out], hx.trans h1⟩
        case measure => simp [intOf]; omega
    · go_wp2_with fail
      go_ret
      exact ⟨by rw [HE.out, List.drop_of_length_le (by omega)]; rfl, hx⟩
theorem contains_rd (ks : List Tr) (w : World) (A : Option Addr) (cap : Nat) (hl : ks.length ≤ cap) (hc : cap ≤ maxLen) (h : LiesK w A ks) :
    Calls Try.prog 26 #[.slice A ks.length cap, .func (.func 27) #[] #[]] w fun e w' => e = .returned (.bool (ks.any (fun t => !valid sigT t))) ∧ Ext w w' := by
  have HI := Lib.hid (index_rd ks w A cap hl hc h)
  have HB := Lib.hid (firstIx_spec (fun t => !valid sigT t) ks 0)
  go_enter Try.func26, Try.ntmps26
  go_wp2_with fail
  refine HI.out.mono ?_
  rintro e w1 ⟨rfl, h1⟩
  go_wp2_with fail
  go_ret
  exact ⟨by rw [← HB.out]; rfl, h1⟩
theorem ready_any (f : Nat) (ks : List Tr) (w : World) (A : Option Addr) (cap : Nat) (hK : LiesK w A ks) (hl : ks.length ≤ cap) (hc : cap ≤ maxLen) (l : List Tr) (B : Option Addr) (lc : Nat) (hL : LiesK w B l) (hll : l.length ≤ lc) (hlc : lc ≤ maxLen) (r : Tr × Int) (h : rdyV f ks l = some r) :
    Calls Try.prog 20 #[.slice A ks.length cap, .slice B l.length lc] w fun e w' => e = .returned (.int .i64 r.2) ∧ Ext w w' := by
  obtain ⟨q, hq, hr⟩ : ∃ q, ccV f ks = some q ∧ (if l.all (fun t => valid sigT t) = true then some q else some (dflt0, 3)) = some r := by
    unfold rdyV at h
    cases e : ccV f ks with
    | none => rw [e] at h; cases h
    | some q => rw [e] at h; exact ⟨q, rfl, h⟩
  have HC := Lib.hid (checkCtx_any f ks w A cap hK hl hc q hq)
  have HD := Lib.hid (fun W (hW : Ext w W) => contains_rd l W B lc hll hlc (hL.ext hW))
  have hany : (l.any fun t => !valid sigT t) = !l.all (fun t => valid sigT t) := by rw [List.not_all_eq_any_not]
  rw [hany] at HD
  generalize l.all (fun t => valid sigT t) = z at hr HD
  have HR := Lib.hid hr
  clear hr hany hK hL h hq
  go_enter Try.func20, Try.ntmps20
  go_wp2_with fail
  refine HC.out.mono ?_
  rintro e w1 ⟨rfl, h1⟩
  go_wp2_with fail
  refine (HD.out _ h1).mono ?_
  rintro e w2 ⟨rfl, h2⟩
  cases z with
  | true =>
    have hr := HR.out
    rw [if_pos rfl] at hr
    obtain rfl : q = r := by simpa using hr
    clear HR hr
    go_wp2_with fail
    go_ret
    exact ⟨rfl, h1.trans h2⟩
  | false =>
    have hr := HR.out
    rw [if_neg (by decide)] at hr
    obtain rfl : (dflt0, (3 : Int)) = r := by simpa using hr
    clear HR hr
    go_wp2_with fail
    go_ret
    exact ⟨rfl, h1.trans h2⟩
set_option maxRecDepth 100000 in
set_option maxHeartbeats 8000000 in
theorem check_any {wC : World} {A : Option Addr} {ca : Nat} {G : List Tr} {inf : Tr → An} (hI : InfF wC A ca G inf) (w0 : World) (hx : Ext wC w0) (hG : LiesK w0 A G) (t : Tr) (v : Value) (ht : Lies w0 t v) (hv : valid sigT t = true) (want : Tr) (vw : Value) (hw : Lies w0 want vw) (c : Int) (h : chkI (inf t) want = some c) : Calls Try.prog 22 #[.slice A G.length ca, v, vw] w0 fun e w' => e = .returned (.int .i64 c) ∧ Ext w0 w' := by
  obtain ⟨k, n, ks⟩ := t
  obtain ⟨At, ct, rfl, hl, hct, hK⟩ := Lies.mk_iff.1 ht
  obtain ⟨k8, n8, ks8⟩ := want
  obtain ⟨A8, c8, rfl, hl8, hc8, hK8⟩ := Lies.mk_iff.1 hw
  have HT := Lib.hid ht
  have HW := Lib.hid hw
  have HI := Lib.hid hI
  have HG := Lib.hid hG
  have HV := Lib.hid hv
  obtain ⟨s, d, hs, hcd⟩ : ∃ s d, inf (.mk k n ks) = some (s, d) ∧ c = if d = 0 then cvtV s (.mk k8 n8 ks8) else d := by
    rcases chkI_some h with ⟨s, hs, rfl⟩ | ⟨s, hs, hc⟩
    · exact ⟨s, 0, hs, by rw [if_pos rfl]⟩
    · exact ⟨s, c, hs, by rw [if_neg hc]⟩
  have HS := Lib.hid hs
  clear h hs ht hw hI hG hv hK hK8
  obtain ⟨w1, hw1⟩ : ∃ x, x = ((w0.alloc (.cells #[.int .i64 k, .int .i64 n, .slice At ks.length ct] 27)).alloc (.cells #[.int .i64 k8, .int .i64 n8, .slice A8 ks8.length c8] 27)) := ⟨_, rfl⟩
  obtain ⟨bt_1, bw_1, s1, e1⟩ := box2 hw1
  go_enter Try.func22, Try.ntmps22
  go_wp2_with fail
  rw [← hw1]
  clear hw1
  refine (HI.out w1 AllN (hx.trans e1) (fun _ _ => trivial) (InK.all (HG.out.ext e1)) _ _ (InT.all (HT.out.ext e1)) HV.out _ HS.out).mono ?_
  rintro e w2 ⟨u, rfl, hT, e2⟩
  have s2 := e2.size
  simp only at hT ⊢
  obtain ⟨a1, b1, A1, l1, c1, rfl⟩ := hT.three
  have T1 := Lib.hid hT
  clear hT HS
  by_cases hd : d = 0
  case neg =>
    rw [if_neg hd] at hcd
    subst hcd
    have t1 : (c != 0) = true := by simp [hd]
    clear hd
    have X0_1 := e1
    have X0_2 := X0_1.trans e2
    have bt_2 := e2.blk bt_1
    obtain ⟨zt0, zt1, zt2, -⟩ := own3 bt_2
    have lt := lt_of_blk bt_2
    have bw_2 := e2.blk bw_1
    obtain ⟨zw0, zw1, zw2, -⟩ := own3 bw_2
    have lw := lt_of_blk bw_2
    go_wp2_with fail
    go_ret
    exact ⟨rfl, X0_2.alloc _⟩
  subst hd
  rw [if_pos rfl] at hcd
  subst hcd
  have bt_2 := e2.blk bt_1
  obtain ⟨zt0, zt1, zt2, -⟩ := own3 bt_2
  have lt := lt_of_blk bt_2
  have bw_2 := e2.blk bw_1
  obtain ⟨zw0, zw1, zw2, -⟩ := own3 bw_2
  have lw := lt_of_blk bw_2
  obtain ⟨w3, hw3⟩ : ∃ x, x = w2.alloc (.cells #[.int .i64 a1, .int .i64 b1, .slice A1 l1 c1] 27) := ⟨_, rfl⟩
  have e3 : Ext w2 w3 := hw3 ▸ (Ext.refl w2).alloc _
  have bx_3 := heap_alloc_new w2 (.cells #[.int .i64 a1, .int .i64 b1, .slice A1 l1 c1] 27)
  rw [← hw3] at bx_3
  have s3 : w2.heap.size < w3.heap.size := lt_of_blk bx_3
  go_wp2_with fail
  rw [← hw3]
  clear hw3
  clear zt0 zt1 zt2 lt zw0 zw1 zw2 lw
  have X0_1 := e1
  have X0_2 := X0_1.trans e2
  have X0_3 := X0_2.trans e3
  have X2_3 := e3
  refine (converts_any s (.mk k8 n8 ks8) w3 _ _ (T1.out.lies'.ext X2_3) (HW.out.ext X0_3)).mono ?_
  rintro e w4 ⟨rfl, e4⟩
  have s4 := e4.size
  have X0_4 := X0_3.trans e4
  go_wp2_with fail
  go_ret
  exact ⟨rfl, X0_4⟩
end Go.Proofs.Ytdkamgafpphdjaa

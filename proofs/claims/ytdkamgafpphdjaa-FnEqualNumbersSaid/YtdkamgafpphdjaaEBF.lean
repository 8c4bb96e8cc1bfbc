/-
  Lemmas towards the law, 32: Contracted, MHd, StepT.
-/
import Derived.Test.YtdkamgafpphdjaaEAG
import Derived.Test.YtdkamgafpphdjaaEBD
import Derived.Test.YtdkamgafpphdjaaEBE
namespace Go.Proofs.Ytdkamgafpphdjaa
open Go.RowKit
set_option linter.unusedVariables false
theorem contract_any (t : Tr) (hv : valid sigT t = true) (hr : isRdx t = true) (w : World) (v : Value) (hin : Lies w t v) : Calls Try.prog 76 #[v] w (ConQ w (ctrT t)) := by
  obtain ⟨k, n, ks⟩ := t
  obtain ⟨A, cap, rfl, hl, hc, hK⟩ := Lies.mk_iff.1 hin
  rcases rdx_cases (isRdx_iff.1 hr) with ⟨rfl, h⟩ | ⟨rfl, h⟩ | ⟨rfl, h⟩ | ⟨rfl, h⟩ | ⟨rfl, h⟩ | ⟨rfl, h⟩
  · exact contract_1 n ks hv w A cap hin hK hl hc h
  · exact contract_2 n ks hv w A cap hin hK hl hc h
  · exact contract_3 n ks hv w A cap hin hK hl hc h
  · exact contract_4 n ks hv w A cap hin hK hl hc h
  · exact contract_5 n ks hv w A cap hin hK hl hc h
  · exact contract_6 n ks hv w A cap hin hK hl hc h
set_option maxRecDepth 100000 in
set_option maxHeartbeats 1000000 in
theorem at_any (t : Tr) (path : List Int) (u : Tr) (hat : atT t path = some u) (w : World) (v : Value) (hin : Lies w t v) (A : Option Addr) (cap : Nat) (hl : path.length ≤ cap) (hc : cap ≤ maxLen) (hP : Nums w A path) :
    Calls Try.prog 77 #[v, .slice A path.length cap] w fun e w' => ∃ x, e = .returned x ∧ Lies w' u x ∧ Ext w w' := by
  obtain ⟨k, n, ks⟩ := t
  obtain ⟨At, ct, rfl, hlt, hct, hKt⟩ := Lies.mk_iff.1 hin
  have hcc := hc
  unfold maxLen at hcc
  have hx0 := ((Ext.refl w).alloc (.cells #[.int .i64 k, .int .i64 n, .slice At ks.length ct] 27)).alloc (.cells #[.int .i64 0, .int .i64 0, .slice none 0 0] 27)
  obtain ⟨hb0, hb1, hs0⟩ := blk2 (Ext.refl ((w.alloc (.cells #[.int .i64 k, .int .i64 n, .slice At ks.length ct] 27)).alloc (.cells #[.int .i64 0, .int .i64 0, .slice none 0 0] 27)))
  clear hin
  go_enter Try.func77, Try.ntmps77
  go_wp2_with fail
  generalize World.alloc (World.alloc w _) _ = wS at hx0 hb0 hb1 hs0 ⊢
  go_loopw [9] (fun i wr => ∃ (j : Nat) (k' n' : Int) (kids : List Tr) (A' : Option Addr) (c' : Nat), j ≤ path.length ∧ i = .int .i64 j ∧
    Hid (atT (.mk k' n' kids) (path.drop j) = some u) ∧ kids.length ≤ c' ∧ c' ≤ maxLen ∧ LiesK w A' kids ∧
    wr.heap[w.heap.size]? = some (.cells #[.int .i64 k', .int .i64 n', .slice A' kids.length c'] 27 (0, 0)) ∧ wr.heap[w.heap.size + 1]? = some (.cells #[.int .i64 0, .int .i64 0, .slice none 0 0] 27 (0, 0)) ∧ Ext w wr) (fun i _ => path.length - (intOf i).toNat)
  case atStart => exact ⟨0, k, n, ks, At, ct, Nat.zero_le _, rfl, Lib.hid hat, hlt, hct, hKt, hb0, hb1, hx0⟩
  case round =>
    obtain ⟨j, k', n', kids, A', c', hj, rfl, HA, hkl, hkc, hK, hb, hbR, hx⟩ := hrel
    have hsz : w.heap.size + 1 < wr.heap.size := lt_of_blk hbR
    obtain ⟨z0, z1, z2, f0, f1, f2⟩ := own3 hb
    obtain ⟨y0, y1, y2, g0, g1, g2⟩ := own3 hbR
    by_cases hlj : j < path.length
    · obtain ⟨bp, op, rfl, cp⟩ := hP.get hx hlj
      have hdr : path.drop j = path[j] :: path.drop (j + 1) := List.drop_eq_getElem_cons hlj
      have HA1 := HA.out
      rw [hdr, atT_step] at HA1
      clear HA hdr
      generalize path[j] = i at cp HA1
      have hj2 : (j : Int) < (path.length : Int) := by omega
      have hj0 : (0 : Int) ≤ (j : Int) := Int.natCast_nonneg _
      have hi2 : 0 ≤ i ∧ i < (kids.length : Int) := by
        split at HA1
        · assumption
        · cases HA1
      rw [if_pos hi2] at HA1
      obtain ⟨m, rfl⟩ := Int.eq_ofNat_of_zero_le hi2.1
      have hm : m < kids.length := by omega
      have e0 : ((m : Int)).toNat = m := by omega
      rw [e0] at HA1
      obtain ⟨b, o, k2, n2, A2, c2, kids2, rfl, HK, d0, d1, d2, hkl2, hkc2, hK2, hin2, hmem⟩ := hK.get (Ext.refl w) hm
      have hkd : kd kids m = .mk k2 n2 kids2 := kd_of hm HK.out
      rw [hkd] at HA1
      have HA2 := Lib.hid HA1
      have hm2 : (m : Int) < (kids.length : Int) := hi2.2
      have hm0 : (0 : Int) ≤ (m : Int) := hi2.1
      have c0 := hx.cell d0
      have c1 := hx.cell d1
      have c2' := hx.cell d2
      clear hkd HK hmem hi2 e0 d0 d1 d2 HA1
      have hkc3 := hkc
      unfold maxLen at hkc3
      go_wp2_with fail
      go_roundw
      case rel => exact ⟨j + 1, k2, n2, kids2, A2, c2, by omega, by go_num, HA2, hkl2, hkc2, hK2, blk_setCell (blk_setCell (blk_setCell hb 0 _) 1 _) 2 _, blk_setCell_ne (blk_setCell_ne (blk_setCell_ne hbR (by simp) _) (by simp) _) (by simp) _, ((hx.setCell (by simp) _).setCell (by simp) _).setCell (by simp) _⟩
      case measure => simp [intOf]; omega
    · have hje : path.drop j = [] := List.drop_of_length_le (by omega)
      have HA1 := HA.out
      rw [hje] at HA1
      have HU : (.mk k' n' kids : Tr) = u := by simpa [atT] using HA1
      clear HA HA1 hje
      go_wp2_with fail
      refine bodyPost_ret (v := .agg #[.int .i64 k', .int .i64 n', .slice A' kids.length c']) (by simp [results, Try.results77, go_sem, y0, y1, y2]) rfl ⟨_, rfl, ?_, ?_⟩
      · rw [← HU]
        exact Lies.mk hkl hkc (hK.ext (((hx.setCell (by simp) _).setCell (by simp) _).setCell (by simp) _))
      · exact (((hx.setCell (by simp) _).setCell (by simp) _).setCell (by simp) _)
set_option maxRecDepth 100000 in
set_option maxHeartbeats 2000000 in
theorem contracted_any (t : Tr) (p : List Int) (hv : valid sigT t = true) (hr : rdxA t p = true) (w : World) (v : Value) (hin : Lies w t v) (A : Option Addr) (n cap : Nat) (hp : PFs w A n cap p) (hn : n ≤ 1000) :
    Calls Try.prog 74 #[v, .slice A n cap] w fun e w' => ∃ r, e = .returned (.tuple #[r, .bool (conV t p).2]) ∧ Made w w' 27 (conV t p).1 r ∧ Ext w w' := by
  obtain ⟨u, hat, hru⟩ := rdxA_some hr
  have hvu := valid_at hv hat
  have hca : conA t p = putA t p (ctrT u) := by unfold conA; rw [hat]
  have HAT := Lib.hid (fun W (hW : Ext w W) => by
    have := at_any t p u hat W v (hin.ext hW) A cap (by rw [hp.hn]; exact hp.hl) hp.hc (hp.hP.ext hW)
    rw [hp.hn] at this
    exact this)
  have HCT := Lib.hid (fun W x (hx : Lies W u x) => contract_any u hvu hru W x hx)
  have HPT := Lib.hid (fun W (hW : Ext w W) x (hx : Lies W (ctrT u) x) => put_any p t (ctrT u) 30 (cnt_of_valid hv).2 (by rw [hat]; rfl) W v x (fun b => b < W.heap.size) (fun _ h => h) (hin.ext hW) hx A n cap (hp.ext hW) hn (by have := (cnt_of_valid hv).1; omega))
  have hcn : valid sigT (ctrT u) = true → cnt (putA t p (ctrT u)) ≤ 1000000 := fun h => by
    have h1 := cnt_putA p t (ctrT u) u hat
    have h2 := (cnt_of_valid h).1
    have h3 := (cnt_of_valid hv).1
    omega
  have hpart := conA_part (t := t) hat
  have hc1 : (conV t p).1 = okT (putA t p (ctrT u)) := by unfold conV okT; rw [hca]; split <;> rfl
  have hc2 : (conV t p).2 = valid sigT (putA t p (ctrT u)) := by
    unfold conV; rw [hca]; split
    · rename_i h; exact h.symm
    · rename_i h; exact (Bool.eq_false_iff.2 h).symm
  rw [hca] at hpart
  rw [hc1, hc2]
  clear hc1 hc2 hca hat hru hr hvu
  generalize putA t p (ctrT u) = X at HPT hcn hpart ⊢
  generalize ctrT u = c at HCT HPT hcn hpart
  obtain ⟨k, nn, ks⟩ := t
  obtain ⟨At, ct, rfl, -, -, -⟩ := Lies.mk_iff.1 hin
  have hx0 := ((Ext.refl w).alloc (.cells #[.int .i64 k, .int .i64 nn, .slice At ks.length ct] 27)).alloc (.cells #[.int .i64 0, .int .i64 0, .slice none 0 0] 27)
  obtain ⟨hb0, hb1, hs2⟩ := blk2 (Ext.refl ((w.alloc (.cells #[.int .i64 k, .int .i64 nn, .slice At ks.length ct] 27)).alloc (.cells #[.int .i64 0, .int .i64 0, .slice none 0 0] 27)))
  obtain ⟨wS, hwS⟩ : ∃ x, x = (w.alloc (.cells #[.int .i64 k, .int .i64 nn, .slice At ks.length ct] 27)).alloc (.cells #[.int .i64 0, .int .i64 0, .slice none 0 0] 27) := ⟨_, rfl⟩
  rw [← hwS] at hx0 hb0 hb1 hs2
  obtain ⟨z, hz⟩ : ∃ z, valid sigT c = z := ⟨_, rfl⟩
  have HCT2 := Lib.hid (show ∀ W x, Lies W u x → Calls Try.prog 76 #[x] W fun e w' => ∃ r, e = .returned (.tuple #[r, .bool z]) ∧ Made W w' 27 (okT c) r ∧ Ext W w' from fun W x hx => hz ▸ HCT.out W x hx)
  clear HCT
  have HOK := Lib.hid (show z = true → okT c = c from fun h => by unfold okT; rw [if_pos (hz.trans h)])
  have HNO := Lib.hid (show z = false → valid sigT X = false from fun h => Bool.eq_false_iff.2 fun h' => by have := hpart h'; rw [hz, h] at this; cases this)
  have HCN := Lib.hid (show z = true → cnt X ≤ 1000000 from fun h => hcn (hz.trans h))
  clear hz hcn hpart
  cases z with
  | false =>
    have E2 := HNO.out rfl
    have E3 : okT X = dflt0 := by unfold okT; rw [if_neg (by rw [E2]; decide)]
    rw [E2, E3]
    clear HNO HOK HCN E2 E3 HPT
    go_enter Try.func74, Try.ntmps74
    go_wp2_with fail
    rw [← hwS]
    clear hwS
    refine (HAT.out _ hx0).mono ?_
    rintro e w1 ⟨x, rfl, hL, h1⟩
    go_wp2_with fail
    refine (HCT2.out _ _ hL).mono ?_
    rintro e w2 ⟨r, rfl, hM, h2⟩
    obtain ⟨a1, a2, a3, a4, a5, rfl⟩ := hM.three'
    obtain ⟨s0, s1, s2, f0, f1, f2⟩ := own3 (((h1.trans h2).trans ((Ext.refl w2).alloc (.cells #[.int .i64 a1, .int .i64 a2, .slice a3 a4 a5] 27))).blk hb1)
    go_wp2_with fail
    refine bodyPost_ret (v := .tuple #[.agg #[.int .i64 0, .int .i64 0, .slice none 0 0], .bool false]) (by simp [results, Try.results74, go_sem, s0, s1, s2]) rfl ⟨_, rfl, Made.leaf _ _ _ 0 0, ?_⟩
    exact ((((((hx0.trans h1).trans h2).alloc _).setCell (by simp) _).setCell (by simp) _).setCell (by simp) _)
  | true =>
    have E2 := HOK.out rfl
    have HC := HCN.out rfl
    rw [E2] at HCT2
    clear HNO HOK HCN E2
    go_enter Try.func74, Try.ntmps74
    go_wp2_with fail
    rw [← hwS]
    clear hwS
    refine (HAT.out _ hx0).mono ?_
    rintro e w1 ⟨x, rfl, hL, h1⟩
    go_wp2_with fail
    refine (HCT2.out _ _ hL).mono ?_
    rintro e w2 ⟨r, rfl, hM, h2⟩
    obtain ⟨a1, a2, a3, a4, a5, rfl⟩ := hM.three'
    have h3 := (Ext.refl w2).alloc (.cells #[.int .i64 a1, .int .i64 a2, .slice a3 a4 a5] 27)
    have h13 := (h1.trans h2).trans h3
    obtain ⟨z0, z1, z2, -, -, -⟩ := own3 (h13.blk hb0)
    have hL3 := hM.lies.ext h3
    clear hM hL
    go_wp2_with fail
    refine (HPT.out _ (hx0.trans h13) _ hL3).mono ?_
    rintro e w4 ⟨y, rfl, hY, h4⟩
    have hLY : Lies w4 X y := InT.mono (fun b hb => by rcases hb with h | h; exact Nat.lt_of_lt_of_le h h4.size; exact h.2) (fun _ _ => rfl) hY
    clear hY hL3
    go_wp2_with fail
    refine (own_any _ _ _ hLY HC).mono ?_
    rintro e w5 ⟨yo, rfl, hMo, h5⟩
    go_wp2_with fail
    refine (valid_made hMo).mono ?_
    rintro e w6 ⟨b1, b2, b3, b4, b5, rfl, hM6, h6⟩
    have h16 := ((h13.trans h4).trans h5).trans h6
    obtain ⟨s0, s1, s2, f0, f1, f2⟩ := own3 (h16.blk hb1)
    have hw4 : w.heap.size + 2 ≤ w4.heap.size := by have := hx0.size; have := (h13.trans h4).size; omega
    go_wp2_with fail
    refine bodyPost_ret (v := .tuple #[.agg #[.int .i64 b1, .int .i64 b2, .slice b3 b4 b5], .bool (valid sigT X)]) (by simp [results, Try.results74, go_sem, s0, s1, s2]) rfl ⟨_, rfl, Made.since (hM6.after ((((Above.refl _ _).setCell (p := ⟨w.heap.size + 1, 0, none⟩) (by show w.heap.size + 1 < _; omega) (.int .i64 b1)).setCell (p := ⟨w.heap.size + 1, 1, none⟩) (by show w.heap.size + 1 < _; omega) (.int .i64 b2)).setCell (p := ⟨w.heap.size + 1, 2, none⟩) (by show w.heap.size + 1 < _; omega) (.slice b3 b4 b5))) (by omega), ?_⟩
    exact ((((hx0.trans h16).setCell (by simp) _).setCell (by simp) _).setCell (by simp) _)
end Go.Proofs.Ytdkamgafpphdjaa
namespace Go.Proofs.Ytdkamgafpphdjaa
open Go.RowKit
set_option linter.unusedVariables false
open M (Hd HR Cv)
theorem leafW {k : Int} (n : Int) (ks : List Tr) (h : ¬ (k = 5 ∨ k = 9 ∨ k = 12 ∨ k = 15 ∨ k = 16)) : hdW (.mk k n ks) = ([], false) := by
  have h0 : rdx k ks = 0 := rdx_none (by omega) (by omega) (by omega) (by omega) (by omega)
  rw [hdW, if_neg (by rw [h0]; decide), if_neg (by omega), if_neg (by omega), if_neg (by omega)]
def HdE (t : M.Tm) : Prop := (∀ p, hdW (enc t) = (p, true) → ∃ u, conA (enc t) p = enc u ∧ Hd t u) ∧ ((hdW (enc t)).2 = false → ∀ u, ¬ Hd t u)
theorem HdE.leaf {t : M.Tm} (h : hdW (enc t) = ([], false)) (no : ∀ u, ¬ Hd t u) : HdE t :=
  ⟨fun p e => by rw [h] at e; simp at e, fun _ => no⟩
theorem HdE.root {t u : M.Tm} (h : hdW (enc t) = ([], true)) (e : ctrT (enc t) = enc u) (k : Hd t u) : HdE t :=
  ⟨fun p q => by
    rw [h] at q
    simp only [Prod.mk.injEq, and_true] at q
    subst q
    exact ⟨u, by rw [conA_nil, e], k⟩, fun q => by rw [h] at q; cases q⟩
theorem hd_enc : ∀ t : M.Tm, HdE t := by
  intro t
  induction t with
  | var n => exact .leaf (leafW _ _ (by omega)) fun u h => by cases h
  | sort n => exact .leaf (leafW _ _ (by omega)) fun u h => by cases h
  | pi A B => exact .leaf (leafW _ _ (by omega)) fun u h => by cases h
  | lam A B => exact .leaf (leafW _ _ (by omega)) fun u h => by cases h
  | nat => exact .leaf (leafW _ _ (by omega)) fun u h => by cases h
  | zero => exact .leaf (leafW _ _ (by omega)) fun u h => by cases h
  | succ a => exact .leaf (leafW _ _ (by omega)) fun u h => by cases h
  | id T a b => exact .leaf (leafW _ _ (by omega)) fun u h => by cases h
  | refl a => exact .leaf (leafW _ _ (by omega)) fun u h => by cases h
  | sg A B => exact .leaf (leafW _ _ (by omega)) fun u h => by cases h
  | pair T a b => exact .leaf (leafW _ _ (by omega)) fun u h => by cases h
  | app f a i1 i2 =>
    by_cases hl : ∃ A b, f = .lam A b
    · obtain ⟨A, b, rfl⟩ := hl
      exact .root (by simp [enc, hdW, rdx, kd, Tr.kind]) (enc_inst b a) (.beta A b a)
    · have hk : (enc f).kind ≠ 4 := by intro h; cases f <;> simp [enc, Tr.kind] at h; exact hl ⟨_, _, rfl⟩
      have h0 : ¬ rdx 5 [enc f, enc a] ≠ 0 := fun h => by
        rcases rdx_cases h with h | h | h | h | h | h <;> first | exact hk h.2 | omega
      have e : hdW (enc (.app f a)) = (((0 : Nat) : Int) :: (hdW (enc f)).1, (hdW (enc f)).2) := by
        show hdW (.mk 5 0 [enc f, enc a]) = _
        rw [hdW, if_neg h0, if_pos (.inl rfl), hdWs]
        rfl
      refine ⟨fun p h => ?_, fun h u hu => ?_⟩
      · rw [e] at h
        simp only [Prod.mk.injEq] at h
        obtain ⟨rfl, h2⟩ := h
        obtain ⟨u, h3, h4⟩ := i1.1 _ (by rw [← h2])
        refine ⟨.app u a, ?_, .app a h4⟩
        show conA (.mk 5 0 [enc f, enc a]) _ = _
        rw [conA_cons (k := 5) (n := 0) (ks := [enc f, enc a]) (i := 0) (p := (hdW (enc f)).1) (by simp) (hdW_at (enc f) _ (by rw [← h2]))]
        show Tr.mk 5 0 [conA (enc f) _, enc a] = _
        rw [h3]
        rfl
      · rw [e] at h
        cases hu with
        | beta => exact hl ⟨_, _, rfl⟩
        | app _ h5 => exact i1.2 h _ h5
  | elim p z s a i1 i2 i3 i4 =>
    by_cases hz : a = .zero
    · subst hz
      exact .root (by simp [enc, hdW, rdx, kd, Tr.kind]) rfl (.ez p z s)
    by_cases hl : ∃ b, a = .succ b
    · obtain ⟨b, rfl⟩ := hl
      exact .root (by simp [enc, hdW, rdx, kd, Tr.kind]) rfl (.es p z s b)
    · have hk : (enc a).kind ≠ 7 := by intro h; cases a <;> simp [enc, Tr.kind] at h; exact hz rfl
      have hk2 : (enc a).kind ≠ 8 := by intro h; cases a <;> simp [enc, Tr.kind] at h; exact hl ⟨_, rfl⟩
      have h0 : ¬ rdx 9 [enc p, enc z, enc s, enc a] ≠ 0 := fun h => by
        rcases rdx_cases h with h | h | h | h | h | h <;> first | exact hk h.2 | exact hk2 h.2 | omega
      have e : hdW (enc (.elim p z s a)) = (((3 : Nat) : Int) :: (hdW (enc a)).1, (hdW (enc a)).2) := by
        show hdW (.mk 9 0 [enc p, enc z, enc s, enc a]) = _
        rw [hdW, if_neg h0, if_neg (by omega), if_pos rfl, hdWs, hdWs, hdWs, hdWs]
        rfl
      refine ⟨fun q h => ?_, fun h u hu => ?_⟩
      · rw [e] at h
        simp only [Prod.mk.injEq] at h
        obtain ⟨rfl, h2⟩ := h
        obtain ⟨u, h3, h4⟩ := i4.1 _ (by rw [← h2])
        refine ⟨.elim p z s u, ?_, .elim p z s h4⟩
        show conA (.mk 9 0 [enc p, enc z, enc s, enc a]) _ = _
        rw [conA_cons (k := 9) (n := 0) (ks := [enc p, enc z, enc s, enc a]) (i := 3) (p := (hdW (enc a)).1) (by simp) (hdW_at (enc a) _ (by rw [← h2]))]
        show Tr.mk 9 0 [enc p, enc z, enc s, conA (enc a) _] = _
        rw [h3]
        rfl
      · rw [e] at h
        cases hu with
        | ez => exact hz rfl
        | es => exact hl ⟨_, rfl⟩
        | elim _ _ _ h5 => exact i4.2 h _ h5
  | move p m a i1 i2 i3 =>
    by_cases hl : ∃ b, m = .refl b
    · obtain ⟨b, rfl⟩ := hl
      exact .root (by simp [enc, hdW, rdx, kd, Tr.kind]) rfl (.mr p b a)
    · have hk : (enc m).kind ≠ 11 := by intro h; cases m <;> simp [enc, Tr.kind] at h; exact hl ⟨_, rfl⟩
      have h0 : ¬ rdx 12 [enc p, enc m, enc a] ≠ 0 := fun h => by
        rcases rdx_cases h with h | h | h | h | h | h <;> first | exact hk h.2 | omega
      have e : hdW (enc (.move p m a)) = (((1 : Nat) : Int) :: (hdW (enc m)).1, (hdW (enc m)).2) := by
        show hdW (.mk 12 0 [enc p, enc m, enc a]) = _
        rw [hdW, if_neg h0, if_neg (by omega), if_neg (by omega), if_pos rfl, hdWs, hdWs]
        rfl
      refine ⟨fun q h => ?_, fun h u hu => ?_⟩
      · rw [e] at h
        simp only [Prod.mk.injEq] at h
        obtain ⟨rfl, h2⟩ := h
        obtain ⟨u, h3, h4⟩ := i2.1 _ (by rw [← h2])
        refine ⟨.move p u a, ?_, .move p a h4⟩
        show conA (.mk 12 0 [enc p, enc m, enc a]) _ = _
        rw [conA_cons (k := 12) (n := 0) (ks := [enc p, enc m, enc a]) (i := 1) (p := (hdW (enc m)).1) (by simp) (hdW_at (enc m) _ (by rw [← h2]))]
        show Tr.mk 12 0 [enc p, conA (enc m) _, enc a] = _
        rw [h3]
        rfl
      · rw [e] at h
        cases hu with
        | mr => exact hl ⟨_, rfl⟩
        | move _ _ h5 => exact i2.2 h _ h5
  | fst a i1 =>
    by_cases hl : ∃ T x y, a = .pair T x y
    · obtain ⟨T, x, y, rfl⟩ := hl
      exact .root (by simp [enc, hdW, rdx, kd, Tr.kind]) rfl (.fp T x y)
    · have hk : (enc a).kind ≠ 14 := by intro h; cases a <;> simp [enc, Tr.kind] at h; exact hl ⟨_, _, _, rfl⟩
      have h0 : ¬ rdx 15 [enc a] ≠ 0 := fun h => by
        rcases rdx_cases h with h | h | h | h | h | h <;> first | exact hk h.2 | omega
      have e : hdW (enc (.fst a)) = (((0 : Nat) : Int) :: (hdW (enc a)).1, (hdW (enc a)).2) := by
        show hdW (.mk 15 0 [enc a]) = _
        rw [hdW, if_neg h0, if_pos (.inr (.inl rfl)), hdWs]
        rfl
      refine ⟨fun q h => ?_, fun h u hu => ?_⟩
      · rw [e] at h
        simp only [Prod.mk.injEq] at h
        obtain ⟨rfl, h2⟩ := h
        obtain ⟨u, h3, h4⟩ := i1.1 _ (by rw [← h2])
        refine ⟨.fst u, ?_, .fst h4⟩
        show conA (.mk 15 0 [enc a]) _ = _
        rw [conA_cons (k := 15) (n := 0) (ks := [enc a]) (i := 0) (p := (hdW (enc a)).1) (by simp) (hdW_at (enc a) _ (by rw [← h2]))]
        show Tr.mk 15 0 [conA (enc a) _] = _
        rw [h3]
        rfl
      · rw [e] at h
        cases hu with
        | fp => exact hl ⟨_, _, _, rfl⟩
        | fst h5 => exact i1.2 h _ h5
  | snd a i1 =>
    by_cases hl : ∃ T x y, a = .pair T x y
    · obtain ⟨T, x, y, rfl⟩ := hl
      exact .root (by simp [enc, hdW, rdx, kd, Tr.kind]) rfl (.sp T x y)
    · have hk : (enc a).kind ≠ 14 := by intro h; cases a <;> simp [enc, Tr.kind] at h; exact hl ⟨_, _, _, rfl⟩
      have h0 : ¬ rdx 16 [enc a] ≠ 0 := fun h => by
        rcases rdx_cases h with h | h | h | h | h | h <;> first | exact hk h.2 | omega
      have e : hdW (enc (.snd a)) = (((0 : Nat) : Int) :: (hdW (enc a)).1, (hdW (enc a)).2) := by
        show hdW (.mk 16 0 [enc a]) = _
        rw [hdW, if_neg h0, if_pos (.inr (.inr rfl)), hdWs]
        rfl
      refine ⟨fun q h => ?_, fun h u hu => ?_⟩
      · rw [e] at h
        simp only [Prod.mk.injEq] at h
        obtain ⟨rfl, h2⟩ := h
        obtain ⟨u, h3, h4⟩ := i1.1 _ (by rw [← h2])
        refine ⟨.snd u, ?_, .snd h4⟩
        show conA (.mk 16 0 [enc a]) _ = _
        rw [conA_cons (k := 16) (n := 0) (ks := [enc a]) (i := 0) (p := (hdW (enc a)).1) (by simp) (hdW_at (enc a) _ (by rw [← h2]))]
        show Tr.mk 16 0 [conA (enc a) _] = _
        rw [h3]
        rfl
      · rw [e] at h
        cases hu with
        | sp => exact hl ⟨_, _, _, rfl⟩
        | snd h5 => exact i1.2 h _ h5
/-- What the program's head normalization answers. -/
theorem hnfC_enc : ∀ (f : Nat) (A : M.Tm) (x : Tr), hnfC f (enc A) = (x, 0) → ∃ B, x = enc B ∧ HR A B ∧ ∀ C, ¬ Hd B C
  | 0, A, x, h => by
    cases e : hdQ (enc A) with
    | none =>
      rw [hnfC_none e] at h
      simp only [Prod.mk.injEq, and_true] at h
      exact ⟨A, h.symm, .refl A, (hd_enc A).2 (hdQ_none e)⟩
    | some p => rw [hnfC_zero e] at h; cases h
  | f + 1, A, x, h => by
    cases e : hdQ (enc A) with
    | none =>
      rw [hnfC_none e] at h
      simp only [Prod.mk.injEq, and_true] at h
      exact ⟨A, h.symm, .refl A, (hd_enc A).2 (hdQ_none e)⟩
    | some p =>
      by_cases hc : valid sigT (conA (enc A) p) = true
      · rw [hnfC_go e hc] at h
        obtain ⟨u, h1, h2⟩ := (hd_enc A).1 p (hdQ_some e)
        rw [h1] at h
        obtain ⟨B, h3, h4, h5⟩ := hnfC_enc f u x h
        exact ⟨B, h3, .step h2 h4, h5⟩
      · rw [hnfC_no e (Bool.eq_false_iff.2 hc)] at h
        cases h
theorem hnf_enc {A : M.Tm} {x : Tr} {f : Int} (h : hnfV (enc A) f = (x, 0)) : ∃ B, x = enc B ∧ HR A B ∧ (∀ C, ¬ Hd B C) ∧ valid sigT (enc B) = true := by
  have hv := (hnfV_reds h).2.2.2
  unfold hnfV at h
  split at h
  · obtain ⟨B, rfl, h1, h2⟩ := hnfC_enc _ A x h
    exact ⟨B, rfl, h1, h2, hv⟩
  · cases h
theorem stuck_eq {A B c : M.Tm} (h : HR A B) (hs : ∀ C, ¬ Hd B C) (k : HR A c) (hc : M.hk c ≠ 0) : B = c := by
  have := h.after k hc
  cases this with
  | refl => rfl
  | step h1 _ => exact absurd h1 (hs _)
theorem conv_yes {A B : M.Tm} (h : convV (enc A) (enc B) 200 = 1) : Cv A B := by
  unfold convV at h
  split at h
  · rename_i hv
    simp only [Bool.and_eq_true] at hv
    split at h
    · rename_i e
      rw [enc_inj e]
      exact Cv.rfl' _
    · split at h
      · rename_i h1
        split at h
        · rename_i h2
          obtain ⟨r1, -, -⟩ := nrmC_reds (200 : Int).toNat (enc A) (nrmC (200 : Int).toNat (enc A)).1 hv.1 (by rw [← h1.1])
          obtain ⟨r2, -, -⟩ := nrmC_reds (200 : Int).toNat (enc B) (nrmC (200 : Int).toNat (enc B)).1 hv.2.1 (by rw [← h1.2])
          obtain ⟨m, e1, q1⟩ := red_enc r1 rfl
          obtain ⟨m', e2, q2⟩ := red_enc r2 rfl
          have : m = m' := enc_inj (by rw [← e1, ← e2, h2])
          subst this
          exact ⟨m, q1, q2⟩
        · simp at h
      · simp at h
  · simp at h
theorem conv_no {A B : M.Tm} (h : convV (enc A) (enc B) 200 = 2) : ¬ Cv A B := by
  intro hc
  unfold convV at h
  split at h
  · rename_i hv
    simp only [Bool.and_eq_true] at hv
    split at h
    · simp at h
    · split at h
      · rename_i h1
        split at h
        · simp at h
        · rename_i h2
          obtain ⟨r1, n1, -⟩ := nrmC_reds (200 : Int).toNat (enc A) (nrmC (200 : Int).toNat (enc A)).1 hv.1 (by rw [← h1.1])
          obtain ⟨r2, n2, -⟩ := nrmC_reds (200 : Int).toNat (enc B) (nrmC (200 : Int).toNat (enc B)).1 hv.2.1 (by rw [← h1.2])
          obtain ⟨C, c1, c2⟩ := hc
          obtain ⟨d1, e1, f1⟩ := r1.meet (enc_red c1)
          obtain ⟨d2, e2, f2⟩ := r2.meet (enc_red c2)
          rw [e1.normal n1] at f1
          rw [e2.normal n2] at f2
          exact h2 (Reds.unique f1 f2 n1 n2)
      · simp at h
  · simp at h
theorem cvt_yes {A B : M.Tm} (h : cvtV (enc A) (enc B) = 0) : Cv A B := conv_yes (cvtV_ok h)
theorem cvt_nb {A B : M.Tm} (h : Cv A B) : cvtV (enc A) (enc B) = 0 ∨ cvtV (enc A) (enc B) = 2 := by
  unfold cvtV
  split
  · exact .inl rfl
  · split
    · rename_i h2
      exact absurd h (conv_no h2)
    · exact .inr rfl
theorem kind2 {B : M.Tm} (h : (enc B).kind = 2) : ∃ n, B = .sort n := by
  cases B <;> simp [enc, Tr.kind] at h; exact ⟨_, rfl⟩
theorem kind3 {B : M.Tm} (h : (enc B).kind = 3) : ∃ C R, B = .pi C R := by
  cases B <;> simp [enc, Tr.kind] at h; exact ⟨_, _, rfl⟩
theorem kind10 {B : M.Tm} (h : (enc B).kind = 10) : ∃ T a b, B = .id T a b := by
  cases B <;> simp [enc, Tr.kind] at h; exact ⟨_, _, _, rfl⟩
theorem kind13 {B : M.Tm} (h : (enc B).kind = 13) : ∃ C R, B = .sg C R := by
  cases B <;> simp [enc, Tr.kind] at h; exact ⟨_, _, rfl⟩
end Go.Proofs.Ytdkamgafpphdjaa
namespace Go.Proofs.Ytdkamgafpphdjaa
open Go.RowKit
set_option linter.unusedVariables false
theorem pfs_row {w : World} {base : Nat} {v : Value} {p : List Int} (h : w.ownsRow base 3 1 v p.length (p.map (Value.int .i64))) : ∃ B c, v = .slice B p.length c ∧ PFs w B p.length c p := by
  obtain ⟨B, c, rfl, h1, h2, h3⟩ := ownsRow_nums h
  exact ⟨B, c, rfl, rfl, h1, h2, h3⟩
end Go.Proofs.Ytdkamgafpphdjaa

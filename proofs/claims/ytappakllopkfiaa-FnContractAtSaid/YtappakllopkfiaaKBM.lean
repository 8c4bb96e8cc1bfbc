/-
  Lemmas towards the law, 39: Put4, SConAt.
-/
import Derived.Test.YtappakllopkfiaaKAI
import Derived.Test.YtappakllopkfiaaKBC
import Derived.Test.YtappakllopkfiaaKBD
import Derived.Test.YtappakllopkfiaaKBG
import Derived.Test.YtappakllopkfiaaKBL
import Derived.Deep.RegionHeld3
namespace Go.Proofs.Ytappakllopkfiaa
open Go.RowKit
set_option linter.unusedVariables false
attribute [local go_sem ↓] Go.wp_at_zero Go.wp_at_succ
def L8PutC (p : List Int) : Prop := ∀ (t u : Tr) (d : Int), shape sigT t d = true → (atT t p).isSome = true → ∀ (w : World) (vt vu : Value), Lies w t vt → Lies w u vu → ∀ (A : Option Addr) (n cap : Nat), PFs w A n cap p → n ≤ 1000 → cnt t ≤ 1000000 → cnt u ≤ 1000000 →
  Calls Try.prog 108 #[vt, .slice A n cap, vu] w fun e w' => ∃ x, e = .returned x ∧ From w.heap.size w' (putA t p u) x ∧ Ext w w'
set_option maxRecDepth 100000 in
set_option maxHeartbeats 4000000 in
theorem l8Put_any : ∀ p : List Int, L8PutC p := fun p => by
  induction p with
  | nil =>
    intro t u d hsh hat w vt vu hT hU A n cap hp hn1 hcn hcu
    obtain ⟨k, nn, ks⟩ := t
    obtain ⟨At, ct, rfl, hlt, hct, hKt⟩ := Lies.mk_iff.1 hT
    have hU0 := hU
    obtain ⟨d1, d2, d3, d4, d5, rfl⟩ := InT.three hU
    have hn0 : n = 0 := hp.hn.symm
    subst hn0
    have hx0 := (((Ext.refl w).alloc (.cells #[.int .i64 k, .int .i64 nn, .slice At ks.length ct] 44)).alloc (.cells #[.int .i64 d1, .int .i64 d2, .slice d3 d4 d5] 44)).alloc (.cells #[.int .i64 0, .int .i64 0, .slice none 0 0] 44)
    obtain ⟨hb0, hbu, hbr, hs2⟩ := blk3 (Ext.refl (((w.alloc (.cells #[.int .i64 k, .int .i64 nn, .slice At ks.length ct] 44)).alloc (.cells #[.int .i64 d1, .int .i64 d2, .slice d3 d4 d5] 44)).alloc (.cells #[.int .i64 0, .int .i64 0, .slice none 0 0] 44)))
    go_enter Try.func108, Try.ntmps108
    go_wp2_with fail
    generalize World.alloc (World.alloc (World.alloc w _) _) _ = wS at hx0 hb0 hbu hbr hs2 ⊢
    refine (l1Copy_any u _ _ (hU0.ext hx0) (by omega)).mono ?_
    rintro e w6 ⟨xo, rfl, hM6, h6⟩
    obtain ⟨o1, o2, o3, o4, o5, rfl⟩ := hM6.three
    have hF6 := (From.made hM6).since (C := w.heap.size + 3) (by have := lt_of_blk hbr; omega)
    obtain ⟨s0, s1, s2, f0, f1, f2⟩ := own3 (h6.blk hbr)
    have hxx := hx0.trans h6
    clear hb0 hbu hbr
    go_wp2_with fail
    rw [putA_nil]
    refine bodyPost_ret (v := .agg #[.int .i64 o1, .int .i64 o2, .slice o3 o4 o5]) (by simp [results, Try.results108, go_sem, s0, s1, s2]) rfl ⟨_, rfl, ?_, ?_⟩
    · exact (((hF6.set (by show w.heap.size + 1 + 1 < w.heap.size + 3; omega) _).set (by show w.heap.size + 1 + 1 < w.heap.size + 3; omega) _).set (by show w.heap.size + 1 + 1 < w.heap.size + 3; omega) _).since (by omega)
    · exact ((hxx.setCell (by show w.heap.size ≤ w.heap.size + 1 + 1; omega) _).setCell (by show w.heap.size ≤ w.heap.size + 1 + 1; omega) _).setCell (by show w.heap.size ≤ w.heap.size + 1 + 1; omega) _
  | cons i r ih =>
    intro t u d hsh hat w vt vu hT hU A n cap hp hn1 hcn hcu
    have hT0 := hT
    obtain ⟨k, nn, ks⟩ := t
    obtain ⟨At, ct, rfl, hlt, hct, hKt⟩ := Lies.mk_iff.1 hT
    have hU0 := hU
    obtain ⟨e1, e2, e3, e4, e5, rfl⟩ := InT.three hU
    have hn0 : n = r.length + 1 := by have := hp.hn; simpa using this.symm
    obtain ⟨b1, o1, rfl, cp⟩ := hp.hP.get (Ext.refl w) (j := 0) (by simp)
    simp only [List.getElem_cons_zero, Nat.add_zero] at cp
    have hi : 0 ≤ i ∧ i < ks.length := by
      rw [atT] at hat
      split at hat
      · assumption
      · cases hat
    rw [atT, if_pos hi] at hat
    obtain ⟨m, rfl⟩ := Int.eq_ofNat_of_zero_le hi.1
    have hm : m < ks.length := by omega
    have hmt : ((m : Int)).toNat = m := by omega
    rw [hmt] at hat
    have hput : putA (.mk k nn ks) ((m : Int) :: r) u = .mk k nn (ks.set m (putA (kd ks m) r u)) := by rw [putA, hmt]
    rw [hput]
    obtain ⟨b, o, k2, n2, A2, c2, kids2, rfl, HK, d0, d1, d2, hkl2, hkc2, hK2, hin2, hmem⟩ := hKt.get (Ext.refl w) hm
    have hkd : kd ks m = .mk k2 n2 kids2 := kd_of hm HK.out
    obtain ⟨-, -, -, hsk⟩ := shape_kids hsh
    have hsk2 := hsk _ hmem
    have hcm := cnt_mem hmem
    have hcnt := hcn
    simp only [cnt] at hcn
    rw [hkd] at hat ⊢
    have hbw : b < w.heap.size := World.block_lt_of_cell? _ _ d0
    have hb1w : b1 < w.heap.size := World.block_lt_of_cell? _ _ cp
    have hx0 := (((Ext.refl w).alloc (.cells #[.int .i64 k, .int .i64 nn, .slice (some ⟨b, o, none⟩) ks.length ct] 44)).alloc (.cells #[.int .i64 e1, .int .i64 e2, .slice e3 e4 e5] 44)).alloc (.cells #[.int .i64 0, .int .i64 0, .slice none 0 0] 44)
    obtain ⟨hb0, hbu, hbr, hs2⟩ := blk3 (Ext.refl (((w.alloc (.cells #[.int .i64 k, .int .i64 nn, .slice (some ⟨b, o, none⟩) ks.length ct] 44)).alloc (.cells #[.int .i64 e1, .int .i64 e2, .slice e3 e4 e5] 44)).alloc (.cells #[.int .i64 0, .int .i64 0, .slice none 0 0] 44)))
    have hpt := hp.tail
    have hcpb : n ≤ cap := hp.hl
    have hcpm : cap ≤ maxLen := hp.hc
    unfold maxLen at hcpm
    obtain ⟨AD, hAD⟩ : ∃ AD, (if cap = 1 then some (⟨b1, o1, none⟩ : Addr) else some ⟨b1, o1 + 1, none⟩) = AD := ⟨_, rfl⟩
    rw [hAD] at hpt
    have HAD := Lib.hid hAD
    have hnz : ((n : Int) == 0) = false := beq_eq_false_iff_ne.2 (by omega)
    have hnz2 : (n == 0) = false := beq_eq_false_iff_ne.2 (by omega)
    have hn2 : (0 : Int) < (n : Int) := by omega
    have hn3 : (1 : Int) ≤ (n : Int) := by omega
    have hn6 : 0 < n := by omega
    have hn7 : 1 ≤ n := by omega
    have hn8 : 1 ≤ cap := by omega
    have hn4 : (1 : Int) ≤ (cap : Int) := by omega
    have hn5 : (n : Int) ≤ (cap : Int) := by omega
    have hm2 : (m : Int) < (ks.length : Int) := by omega
    have hm3 : (0 : Int) ≤ (m : Int) := by omega
    clear hAD hput hsk hmt hi hn0 hT hU hkd hKt
    go_enter Try.func108, Try.ntmps108
    go_wp2_with fail
    generalize World.alloc (World.alloc (World.alloc w _) _) _ = wS at hx0 hb0 hbu hbr hs2 ⊢
    obtain ⟨y0, y1, y2, -, -, -⟩ := own3 hb0
    obtain ⟨v0, v1, v2, -, -, -⟩ := own3 hbu
    have p0 := hx0.cell cp
    have q0 := hx0.cell d0
    have q1 := hx0.cell d1
    have q2 := hx0.cell d2
    have HS4 := Lib.hid (show ∀ w' : World, (∀ y, y < wS.heap.size → y ≠ w.heap.size + 1 + 1 → w'.heap[y]? = wS.heap[y]?) → w'.cell? ⟨w.heap.size, 0, none⟩ = some (.int .i64 k) ∧ w'.cell? ⟨w.heap.size, 1, none⟩ = some (.int .i64 nn) ∧ w'.cell? ⟨w.heap.size, 2, none⟩ = some (.slice (some ⟨b, o, none⟩) ks.length ct) ∧ w'.cell? ⟨b1, o1, none⟩ = some (.int .i64 m) ∧ w'.cell? ⟨b, o + m * 3, none⟩ = some (.int .i64 k2) ∧ w'.cell? ⟨b, o + m * 3 + 1, none⟩ = some (.int .i64 n2) ∧ w'.cell? ⟨b, o + m * 3 + 2, none⟩ = some (.slice A2 kids2.length c2) ∧ w'.cell? ⟨w.heap.size + 1, 0, none⟩ = some (.int .i64 e1) ∧ w'.cell? ⟨w.heap.size + 1, 1, none⟩ = some (.int .i64 e2) ∧ w'.cell? ⟨w.heap.size + 1, 2, none⟩ = some (.slice e3 e4 e5) from fun w' hw => by
      have f : ∀ (y j : Nat) (x : Value), y < wS.heap.size → y ≠ w.heap.size + 1 + 1 → wS.cell? ⟨y, j, none⟩ = some x → w'.cell? ⟨y, j, none⟩ = some x := fun y j x h1 h2 h3 => (World.cell?_of_block (a := ⟨y, j, none⟩) (hw y h1 h2)).trans h3
      exact ⟨f _ _ _ (by omega) (by omega) y0, f _ _ _ (by omega) (by omega) y1, f _ _ _ (by omega) (by omega) y2, f _ _ _ (by omega) (by omega) p0, f _ _ _ (by omega) (by omega) q0, f _ _ _ (by omega) (by omega) q1, f _ _ _ (by omega) (by omega) q2, f _ _ _ (by omega) (by omega) v0, f _ _ _ (by omega) (by omega) v1, f _ _ _ (by omega) (by omega) v2⟩)
    have X0 : Ext wS wS.drew := (Ext.refl wS).drew
    clear y0 y1 y2 v0 v1 v2 p0 q0 q1 q2
    go_region_held3 (fun w' => w'.cell? ⟨w.heap.size, 0, none⟩ = some (.int .i64 k) ∧ w'.cell? ⟨w.heap.size, 1, none⟩ = some (.int .i64 nn) ∧ w'.cell? ⟨w.heap.size, 2, none⟩ = some (.slice (some ⟨b, o, none⟩) ks.length ct) ∧ w'.cell? ⟨b1, o1, none⟩ = some (.int .i64 m) ∧ w'.cell? ⟨b, o + m * 3, none⟩ = some (.int .i64 k2) ∧ w'.cell? ⟨b, o + m * 3 + 1, none⟩ = some (.int .i64 n2) ∧ w'.cell? ⟨b, o + m * 3 + 2, none⟩ = some (.slice A2 kids2.length c2) ∧ w'.cell? ⟨w.heap.size + 1, 0, none⟩ = some (.int .i64 e1) ∧ w'.cell? ⟨w.heap.size + 1, 1, none⟩ = some (.int .i64 e2) ∧ w'.cell? ⟨w.heap.size + 1, 2, none⟩ = some (.slice e3 e4 e5))
      (first | exact HS4.out _ (fun y h1 h2 => by rw [Below.heap_setCell _ _ _ _ h2, Below.heap_setCell _ _ _ _ h2, Below.heap_setCell _ _ _ _ h2]; exact hx9.heap y h1) | exact HS4.out _ (fun y h1 _ => hx9.heap y h1) | exact HS4.out _ (fun y h1 _ => hx8.heap y h1) | exact HS4.out _ (fun y h1 _ => X0.heap y h1))
      (first | (go_at_call 108; (try rw [HAD.out]); refine (ih _ u (d - 1) hsk2 hat wS.drew _ _ (hin2.ext (hx0.trans X0)) (hU0.ext (hx0.trans X0)) _ _ _ (hpt.ext (hx0.trans X0)) (by omega) (by omega) (by omega)).mono ?_; rintro e w8 ⟨x, rfl, hX8, ea8⟩; have hx8 : Ext wS w8 := X0.trans ea8) | (go_at_call 159; refine (l3With_any k nn ks _ m wS.drew.heap.size w8 _ _ (hT0.ext (hx0.trans hx8)) hX8 ea8.size hm hcnt).mono ?_; rintro e w9 ⟨x9, rfl, hX9, ea9⟩; have hx9 : Ext wS w9 := hx8.trans ea9; have hX9' := hX9; obtain ⟨g1, g2, g3, g4, g5, rfl⟩ := hX9'.three; clear hX9'; obtain ⟨s0, s1, s2, f0, f1, f2⟩ := own3 (hx9.blk hbr)))
    have hF9 := hX9.since (C := w.heap.size + 3) (by show w.heap.size + 3 ≤ wS.heap.size; omega)
    have hxx := hx0.trans hx9
    clear hb0 hbu hbr HS4 X0 hx8 hX8 hX9 ea8 ea9
    go_wp2_with fail
    refine bodyPost_ret (v := .agg #[.int .i64 g1, .int .i64 g2, .slice g3 g4 g5]) (by simp [results, Try.results108, go_sem, s0, s1, s2]) rfl ⟨_, rfl, ?_, ?_⟩
    · exact (((hF9.set (by show w.heap.size + 1 + 1 < w.heap.size + 3; omega) _).set (by show w.heap.size + 1 + 1 < w.heap.size + 3; omega) _).set (by show w.heap.size + 1 + 1 < w.heap.size + 3; omega) _).since (by omega)
    · exact ((hxx.setCell (by show w.heap.size ≤ w.heap.size + 1 + 1; omega) _).setCell (by show w.heap.size ≤ w.heap.size + 1 + 1; omega) _).setCell (by show w.heap.size ≤ w.heap.size + 1 + 1; omega) _
end Go.Proofs.Ytappakllopkfiaa
namespace Go.Proofs.Ytappakllopkfiaa
open Go.RowKit
set_option linter.unusedVariables false
set_option maxRecDepth 100000 in
set_option maxHeartbeats 4000000 in
theorem specContractAt_any (t : Tr) (p : List Int) (w : World) (v : Value) (hin : Lies w t v) (A : Option Addr) (n cap : Nat) (hp : PFs w A n cap p) :
    Calls Try.prog 40 #[v, .slice A n cap] w fun e w' => ∃ r, e = .returned (.tuple #[r, .bool (conP t p).2]) ∧ Lies w' (conP t p).1 r ∧ Ext w w' := by
  have HX := Lib.hid (fun W (hW : Ext w W) => by
    have := specTermAt_any t p W v (hin.ext hW) A cap (by rw [hp.hn]; exact hp.hl) hp.hc (hp.hP.ext hW)
    rw [hp.hn] at this
    exact this)
  have hfc : ∀ u, atV t p = (u, true) → valid sigT t = true ∧ atT t p = some u := fun u h => by
    unfold atV at h
    split at h
    · rename_i hv
      cases e : atT t p with
      | none => rw [e] at h; simp at h
      | some x => rw [e] at h; simp at h; subst h; exact ⟨hv, rfl⟩
    · simp at h
  have hno : (atV t p).2 = false → conP t p = (dflt0, false) := fun h => by
    unfold conP rdxA
    unfold atV at h
    split at h
    · rename_i hv
      cases e : atT t p with
      | none => simp
      | some x => rw [e] at h; simp at h
    · rename_i hv
      rw [if_neg (by simp [hv])]
  have HRX := Lib.hid (fun u (hu : atV t p = (u, true)) W x (hx : Lies W u x) => l3Redex_any u 30 (cnt_of_valid (valid_at (hfc u hu).1 (hfc u hu).2)).2 W x hx)
  have HCT := Lib.hid (fun u (hu : atV t p = (u, true)) (hr : isRdx u = true) W x (hx : Lies W u x) => l3Contract_any u (valid_at (hfc u hu).1 (hfc u hu).2) hr W x hx)
  have HPT := Lib.hid (fun u (hu : atV t p = (u, true)) W (hW : Ext w W) x (hx : Lies W (ctrT u) x) => l8Put_any p t (ctrT u) 30 (cnt_of_valid (hfc u hu).1).2 (by rw [(hfc u hu).2]; rfl) W v x (hin.ext hW) hx A n cap (hp.ext hW) (by
    have h1 := atT_len p t u 30 (cnt_of_valid (hfc u hu).1).2 (hfc u hu).2
    have h2 := hp.hn
    omega) (by have := (cnt_of_valid (hfc u hu).1).1; omega) (ctrT_cnt (cnt_of_valid (valid_at (hfc u hu).1 (hfc u hu).2)).1))
  have hcp : ∀ u, atV t p = (u, true) → conP t p = if isRdx u = true then (if valid sigT (putA t p (ctrT u)) = true then (putA t p (ctrT u), true) else (dflt0, false)) else (dflt0, false) := fun u hu => by
    obtain ⟨h1, h2⟩ := hfc u hu
    unfold conP conV rdxA conA
    rw [h1, h2]
    simp
  clear hfc
  obtain ⟨⟨u, z⟩, ha⟩ : ∃ a, atV t p = a := ⟨_, rfl⟩
  rw [ha] at HX HRX HCT HPT hno hcp
  obtain ⟨k, nn, ks⟩ := t
  obtain ⟨At, ct, rfl, -, -, -⟩ := Lies.mk_iff.1 hin
  have hx0 := ((Ext.refl w).alloc (.cells #[.int .i64 k, .int .i64 nn, .slice At ks.length ct] 44)).alloc (.cells #[.int .i64 0, .int .i64 0, .slice none 0 0] 44)
  obtain ⟨hb0, hb1, hs2⟩ := blk2 (Ext.refl ((w.alloc (.cells #[.int .i64 k, .int .i64 nn, .slice At ks.length ct] 44)).alloc (.cells #[.int .i64 0, .int .i64 0, .slice none 0 0] 44)))
  obtain ⟨wS, hwS⟩ : ∃ x, x = (w.alloc (.cells #[.int .i64 k, .int .i64 nn, .slice At ks.length ct] 44)).alloc (.cells #[.int .i64 0, .int .i64 0, .slice none 0 0] 44) := ⟨_, rfl⟩
  rw [← hwS] at hx0 hb0 hb1 hs2
  cases z with
  | false =>
    rw [hno rfl]
    clear HRX HCT HPT hno hcp
    go_enter Try.func40, Try.ntmps40
    go_wp2_with fail
    rw [← hwS]
    clear hwS
    refine (HX.out _ hx0).mono ?_
    rintro e w1 ⟨x, rfl, hL, h1⟩
    obtain ⟨b1, b2, b3, b4, b5, rfl⟩ := InT.three hL
    have h16 := h1.trans ((Ext.refl w1).alloc (.cells #[.int .i64 b1, .int .i64 b2, .slice b3 b4 b5] 44))
    obtain ⟨s0, s1, s2, f0, f1, f2⟩ := own3 (h16.blk hb1)
    go_wp2_with fail
    refine bodyPost_ret (v := .tuple #[.agg #[.int .i64 0, .int .i64 0, .slice none 0 0], .bool false]) (by simp [results, Try.results40, go_sem, s0, s1, s2]) rfl ⟨_, rfl, Lies.leaf _ _ _, ?_⟩
    exact ((((hx0.trans h16).setCell (by simp) _).setCell (by simp) _).setCell (by simp) _)
  | true =>
    have HRX2 := Lib.hid (HRX.out u rfl)
    have HCT2 := Lib.hid (HCT.out u rfl)
    have HPT2 := Lib.hid (HPT.out u rfl)
    have HCP := hcp u rfl
    clear HRX HCT HPT hno hcp
    rw [HCP]
    clear HCP
    obtain ⟨r, hr⟩ : ∃ r, rdxT u = r := ⟨_, rfl⟩
    have HRX3 := Lib.hid (show ∀ W x, Lies W u x → Calls Try.prog 106 #[x] W fun e w' => e = .returned (.int .i64 r) ∧ Ext W w' from fun W x hx => hr ▸ HRX2.out W x hx)
    have ER : isRdx u = (r != 0) := by unfold isRdx; rw [hr]
    clear hr HRX2
    generalize putA (.mk k nn ks) p (ctrT u) = X at HPT2 ⊢
    generalize ctrT u = C at HCT2 HPT2
    generalize isRdx u = rr at ER HCT2 ⊢
    have START : True := trivial
    by_cases h0 : r = 0
    · subst h0
      have ER3 : rr = false := ER
      subst ER3
      rw [if_neg (by decide)]
      clear ER HCT2 HPT2
      go_enter Try.func40, Try.ntmps40
      go_wp2_with fail
      rw [← hwS]
      clear hwS
      refine (HX.out _ hx0).mono ?_
      rintro e w1 ⟨x, rfl, hL, h1⟩
      obtain ⟨b1, b2, b3, b4, b5, rfl⟩ := InT.three hL
      have h3 := (Ext.refl w1).alloc (.cells #[.int .i64 b1, .int .i64 b2, .slice b3 b4 b5] 44)
      have hL2 := Lies.ext hL h3
      go_wp2_with fail
      refine (HRX3.out _ _ hL2).mono ?_
      rintro e w4 ⟨rfl, h4⟩
      have h16 := (h1.trans h3).trans h4
      obtain ⟨s0, s1, s2, f0, f1, f2⟩ := own3 (h16.blk hb1)
      go_wp2_with fail
      refine bodyPost_ret (v := .tuple #[.agg #[.int .i64 0, .int .i64 0, .slice none 0 0], .bool false]) (by simp [results, Try.results40, go_sem, s0, s1, s2]) rfl ⟨_, rfl, Lies.leaf _ _ _, ?_⟩
      exact ((((hx0.trans h16).setCell (by simp) _).setCell (by simp) _).setCell (by simp) _)
    · have ER3 : rr = true := ER.trans (bne_iff_ne.2 h0)
      have hb0r : (r == 0) = false := beq_eq_false_iff_ne.2 h0
      subst ER3
      rw [if_pos rfl]
      have HCT3 := Lib.hid (HCT2.out rfl)
      have HVX := Lib.hid (fun a0 a1 a2 a3 a4 W h => l7Made_any X a0 a1 a2 a3 a4 W h)
      obtain ⟨b, hbv⟩ : ∃ b, valid sigT X = b := ⟨_, rfl⟩
      rw [hbv] at HVX ⊢
      clear ER HCT2 hbv START
      cases b with
      | false =>
        simp only [Bool.false_eq_true, if_false] at HVX
        rw [if_neg (by decide)]
        go_enter Try.func40, Try.ntmps40
        go_wp2_with fail
        rw [← hwS]
        clear hwS
        refine (HX.out _ hx0).mono ?_
        rintro e w1 ⟨x, rfl, hL, h1⟩
        obtain ⟨b1, b2, b3, b4, b5, rfl⟩ := InT.three hL
        have h3 := (Ext.refl w1).alloc (.cells #[.int .i64 b1, .int .i64 b2, .slice b3 b4 b5] 44)
        have hb6 := heap_alloc_new w1 (.cells #[.int .i64 b1, .int .i64 b2, .slice b3 b4 b5] 44)
        have hL2 := Lies.ext hL h3
        go_wp2_with fail
        refine (HRX3.out _ _ hL2).mono ?_
        rintro e w4 ⟨rfl, h4⟩
        have h14 := (h1.trans h3).trans h4
        have hx4 := hx0.trans h14
        have hL4 := Lies.ext hL2 h4
        have hb14 := h14.blk hb1
        have hs1 : w.heap.size + 1 < w1.heap.size := lt_of_blk (h1.blk hb1)
        have hs4 : w1.heap.size < w4.heap.size := lt_of_blk (h4.blk hb6)
        have HS := Lib.hid (show ∀ w' : World, (∀ y, y < w4.heap.size → y ≠ w.heap.size + 1 → w'.heap[y]? = w4.heap[y]?) → w'.cell? ⟨w.heap.size, 0, none⟩ = some (.int .i64 k) ∧ w'.cell? ⟨w.heap.size, 1, none⟩ = some (.int .i64 nn) ∧ w'.cell? ⟨w.heap.size, 2, none⟩ = some (.slice At ks.length ct) ∧ w'.cell? ⟨w1.heap.size, 0, none⟩ = some (.int .i64 b1) ∧ w'.cell? ⟨w1.heap.size, 1, none⟩ = some (.int .i64 b2) ∧ w'.cell? ⟨w1.heap.size, 2, none⟩ = some (.slice b3 b4 b5) from fun w' hw => by
          have f : ∀ (y j : Nat) (x : Value), y < w4.heap.size → y ≠ w.heap.size + 1 → w4.cell? ⟨y, j, none⟩ = some x → w'.cell? ⟨y, j, none⟩ = some x := fun y j x h1 h2 h3 => (World.cell?_of_block (a := ⟨y, j, none⟩) (hw y h1 h2)).trans h3
          exact ⟨f _ _ _ (by omega) (by omega) (cell_of_blk (h14.blk hb0) 0), f _ _ _ (by omega) (by omega) (cell_of_blk (h14.blk hb0) 1), f _ _ _ (by omega) (by omega) (cell_of_blk (h14.blk hb0) 2), f _ _ _ (by omega) (by omega) (cell_of_blk (h4.blk hb6) 0), f _ _ _ (by omega) (by omega) (cell_of_blk (h4.blk hb6) 1), f _ _ _ (by omega) (by omega) (cell_of_blk (h4.blk hb6) 2)⟩)
        have X0 : Ext w4 w4.drew := (Ext.refl w4).drew
        clear hb0 hb1 hb6 hL hL2
        go_wp2_with fail
        go_region_held3 (fun w' => w'.cell? ⟨w.heap.size, 0, none⟩ = some (.int .i64 k) ∧ w'.cell? ⟨w.heap.size, 1, none⟩ = some (.int .i64 nn) ∧ w'.cell? ⟨w.heap.size, 2, none⟩ = some (.slice At ks.length ct) ∧ w'.cell? ⟨w1.heap.size, 0, none⟩ = some (.int .i64 b1) ∧ w'.cell? ⟨w1.heap.size, 1, none⟩ = some (.int .i64 b2) ∧ w'.cell? ⟨w1.heap.size, 2, none⟩ = some (.slice b3 b4 b5))
          (first | exact HS.out _ (fun y h1 h2 => by rw [Below.heap_setCell _ _ _ _ h2, Below.heap_setCell _ _ _ _ h2, Below.heap_setCell _ _ _ _ h2]; exact Xc.heap y h1) | exact HS.out _ (fun y h1 _ => by with_reducible exact Ext.heap Xc y h1) | exact HS.out _ (fun y h1 _ => by with_reducible exact Ext.heap Xb y h1) | exact HS.out _ (fun y h1 _ => by with_reducible exact Ext.heap Xa y h1) | exact HS.out _ (fun y h1 _ => by with_reducible exact Ext.heap X0 y h1))
          (first | (go_at_call 107; refine (HVX.out _ _ _ _ _ _ hY.lies).mono ?_; rintro e wc ⟨rfl, ec, -⟩; have Xc : Ext w4 wc := Xb.trans ec; obtain ⟨s0, s1, s2, f0, f1, f2⟩ := own3 (Xc.blk hb14)) | (go_at_call 108; refine (HPT2.out _ (hx4.trans Xa) _ hR).mono ?_; rintro e wb ⟨y, rfl, hY, eb⟩; obtain ⟨o1, o2, o3, o4, o5, rfl⟩ := hY.three; have Xb : Ext w4 wb := Xa.trans eb) | (go_at_call 109; refine (HCT3.out _ _ (Lies.ext hL4 X0)).mono ?_; rintro e wa ⟨rc, rfl, hR, ea⟩; obtain ⟨a1, a2, a3, a4, a5, rfl⟩ := InT.three hR; have Xa : Ext w4 wa := X0.trans ea))
        have hend := hx4.trans Xc
        have hwa : w.heap.size + 2 ≤ wa.heap.size := by have := Xa.size; omega
        have HYc := Lib.hid (hY.ext ec)
        clear HS X0 hb14 hR hY
        go_wp2_with fail
        refine bodyPost_ret (v := .tuple #[.agg #[.int .i64 0, .int .i64 0, .slice none 0 0], .bool false]) (by simp [results, Try.results40, go_sem, s0, s1, s2]) rfl ⟨_, rfl, ?_, ?_⟩
        · exact Lies.leaf _ _ _
        · exact (((hend.setCell (by simp) _).setCell (by simp) _).setCell (by simp) _)
      | true =>
        simp only [if_true] at HVX
        rw [if_pos rfl]
        go_enter Try.func40, Try.ntmps40
        go_wp2_with fail
        rw [← hwS]
        clear hwS
        refine (HX.out _ hx0).mono ?_
        rintro e w1 ⟨x, rfl, hL, h1⟩
        obtain ⟨b1, b2, b3, b4, b5, rfl⟩ := InT.three hL
        have h3 := (Ext.refl w1).alloc (.cells #[.int .i64 b1, .int .i64 b2, .slice b3 b4 b5] 44)
        have hb6 := heap_alloc_new w1 (.cells #[.int .i64 b1, .int .i64 b2, .slice b3 b4 b5] 44)
        have hL2 := Lies.ext hL h3
        go_wp2_with fail
        refine (HRX3.out _ _ hL2).mono ?_
        rintro e w4 ⟨rfl, h4⟩
        have h14 := (h1.trans h3).trans h4
        have hx4 := hx0.trans h14
        have hL4 := Lies.ext hL2 h4
        have hb14 := h14.blk hb1
        have hs1 : w.heap.size + 1 < w1.heap.size := lt_of_blk (h1.blk hb1)
        have hs4 : w1.heap.size < w4.heap.size := lt_of_blk (h4.blk hb6)
        have HS := Lib.hid (show ∀ w' : World, (∀ y, y < w4.heap.size → y ≠ w.heap.size + 1 → w'.heap[y]? = w4.heap[y]?) → w'.cell? ⟨w.heap.size, 0, none⟩ = some (.int .i64 k) ∧ w'.cell? ⟨w.heap.size, 1, none⟩ = some (.int .i64 nn) ∧ w'.cell? ⟨w.heap.size, 2, none⟩ = some (.slice At ks.length ct) ∧ w'.cell? ⟨w1.heap.size, 0, none⟩ = some (.int .i64 b1) ∧ w'.cell? ⟨w1.heap.size, 1, none⟩ = some (.int .i64 b2) ∧ w'.cell? ⟨w1.heap.size, 2, none⟩ = some (.slice b3 b4 b5) from fun w' hw => by
          have f : ∀ (y j : Nat) (x : Value), y < w4.heap.size → y ≠ w.heap.size + 1 → w4.cell? ⟨y, j, none⟩ = some x → w'.cell? ⟨y, j, none⟩ = some x := fun y j x h1 h2 h3 => (World.cell?_of_block (a := ⟨y, j, none⟩) (hw y h1 h2)).trans h3
          exact ⟨f _ _ _ (by omega) (by omega) (cell_of_blk (h14.blk hb0) 0), f _ _ _ (by omega) (by omega) (cell_of_blk (h14.blk hb0) 1), f _ _ _ (by omega) (by omega) (cell_of_blk (h14.blk hb0) 2), f _ _ _ (by omega) (by omega) (cell_of_blk (h4.blk hb6) 0), f _ _ _ (by omega) (by omega) (cell_of_blk (h4.blk hb6) 1), f _ _ _ (by omega) (by omega) (cell_of_blk (h4.blk hb6) 2)⟩)
        have X0 : Ext w4 w4.drew := (Ext.refl w4).drew
        clear hb0 hb1 hb6 hL hL2
        go_wp2_with fail
        go_region_held3 (fun w' => w'.cell? ⟨w.heap.size, 0, none⟩ = some (.int .i64 k) ∧ w'.cell? ⟨w.heap.size, 1, none⟩ = some (.int .i64 nn) ∧ w'.cell? ⟨w.heap.size, 2, none⟩ = some (.slice At ks.length ct) ∧ w'.cell? ⟨w1.heap.size, 0, none⟩ = some (.int .i64 b1) ∧ w'.cell? ⟨w1.heap.size, 1, none⟩ = some (.int .i64 b2) ∧ w'.cell? ⟨w1.heap.size, 2, none⟩ = some (.slice b3 b4 b5))
          (first | exact HS.out _ (fun y h1 h2 => by rw [Below.heap_setCell _ _ _ _ h2, Below.heap_setCell _ _ _ _ h2, Below.heap_setCell _ _ _ _ h2]; exact Xc.heap y h1) | exact HS.out _ (fun y h1 _ => by with_reducible exact Ext.heap Xc y h1) | exact HS.out _ (fun y h1 _ => by with_reducible exact Ext.heap Xb y h1) | exact HS.out _ (fun y h1 _ => by with_reducible exact Ext.heap Xa y h1) | exact HS.out _ (fun y h1 _ => by with_reducible exact Ext.heap X0 y h1))
          (first | (go_at_call 107; refine (HVX.out _ _ _ _ _ _ hY.lies).mono ?_; rintro e wc ⟨rfl, ec, -⟩; have Xc : Ext w4 wc := Xb.trans ec; obtain ⟨s0, s1, s2, f0, f1, f2⟩ := own3 (Xc.blk hb14)) | (go_at_call 108; refine (HPT2.out _ (hx4.trans Xa) _ hR).mono ?_; rintro e wb ⟨y, rfl, hY, eb⟩; obtain ⟨o1, o2, o3, o4, o5, rfl⟩ := hY.three; have Xb : Ext w4 wb := Xa.trans eb) | (go_at_call 109; refine (HCT3.out _ _ (Lies.ext hL4 X0)).mono ?_; rintro e wa ⟨rc, rfl, hR, ea⟩; obtain ⟨a1, a2, a3, a4, a5, rfl⟩ := InT.three hR; have Xa : Ext w4 wa := X0.trans ea))
        have hend := hx4.trans Xc
        have hwa : w.heap.size + 2 ≤ wa.heap.size := by have := Xa.size; omega
        have HYc := Lib.hid (hY.ext ec)
        clear HS X0 hb14 hR hY
        go_wp2_with fail
        refine bodyPost_ret (v := .tuple #[.agg #[.int .i64 o1, .int .i64 o2, .slice o3 o4 o5], .bool true]) (by simp [results, Try.results40, go_sem, s0, s1, s2]) rfl ⟨_, rfl, ?_, ?_⟩
        · exact (((HYc.out.set (by show w.heap.size + 1 < _; omega) _).set (by show w.heap.size + 1 < _; omega) _).set (by show w.heap.size + 1 < _; omega) _).lies
        · exact (((hend.setCell (by simp) _).setCell (by simp) _).setCell (by simp) _)
end Go.Proofs.Ytappakllopkfiaa

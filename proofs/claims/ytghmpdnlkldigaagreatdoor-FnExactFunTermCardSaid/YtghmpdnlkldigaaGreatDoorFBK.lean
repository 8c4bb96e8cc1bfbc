/-
  Lemmas towards the law, 37: PTerm.
-/
import Derived.Test.YtghmpdnlkldigaaGreatDoorFBJ
namespace Go.Proofs.YtghmpdnlkldigaaGreatDoor
open Go.RowKit
set_option linter.unusedVariables false
attribute [local go_sem ↓] Go.wp_at_zero Go.wp_at_succ
theorem rdV_cases (l : List UInt8) {t : Tr} {y : List UInt8} {ok : Bool} (h : rdT 30 l = (t, y, ok)) : rdV l = if ok = true ∧ y = [] ∧ valid sigT t = true ∧ fmtL t = l then some t else none := by
  unfold rdV
  rw [h]
set_option maxRecDepth 100000 in
set_option maxHeartbeats 4000000 in
theorem parseTermI_any (l : List UInt8) (hl : l.length ≤ 1000000000) (w : World) (hW : EnvR w) : Calls Tryz.prog 47 #[.string (ofL l)] w fun e w' => ∃ u, e = .returned (.tuple #[u, .bool (prsV l).isSome]) ∧ Made w w' 36 ((prsV l).getD dflt0) u ∧ Ext w w' := by
  rw [← rdV_eq]
  have HR := Lib.hid (fun W (hx : Ext w W) => readTerm_any 30 (by omega) 1 l W rfl (hW.ext hx) hl)
  obtain ⟨⟨t, y, ok⟩, hF⟩ : ∃ x, rdT 30 l = x := ⟨_, rfl⟩
  have hV := rdV_cases l hF
  rw [hF] at HR
  obtain ⟨R, hR⟩ : ∃ R, rdV l = R := ⟨_, rfl⟩
  rw [hR] at hV ⊢
  have hFl := hF
  clear hR
  have hx0 := (Ext.refl w).alloc (.cells #[.int .i64 0, .int .i64 0, .slice none 0 0] 36)
  obtain ⟨s, hs⟩ : ∃ s, s = ofL l := ⟨_, rfl⟩
  have hsl : s.toList = l := by rw [hs, ofL_tl]
  have HV := Lib.hid hV
  rw [← hs] at HR ⊢
  clear hF hFl hV hs
  have fail : R = none → True := fun _ => trivial
  cases ok with
  | false =>
    have hn : R = none := by rw [HV.out, if_neg (by simp)]
    subst hn
    go_enter Tryz.func47, Tryz.ntmps47
    go_wp2_with fail
    refine (HR.out _ hx0).mono ?_
    rintro e w1 ⟨u, rfl, hM, h1⟩
    obtain ⟨b1, b2, b3, b4, b5, rfl⟩ := hM.three
    have hb := (blk1 h1).1
    have hx1 := hx0.trans h1
    obtain ⟨y0, y1, y2, f0, f1, f2⟩ := own3 ((((Ext.refl w1).alloc (.cells #[.int .i64 b1, .int .i64 b2, .slice b3 b4 b5] 36))).blk hb)
    go_wp2_with fail
    refine bodyPost_ret (v := .tuple #[.agg #[.int .i64 0, .int .i64 0, .slice none 0 0], .bool false]) (by simp [results, Tryz.results47, go_sem, y0, y1, y2]) rfl ⟨_, rfl, Made.leaf _ _ _ 0 0, ?_⟩
    exact (((hx1.alloc _).setCell (by simp) _).setCell (by simp) _).setCell (by simp) _
  | true =>
    go_enter Tryz.func47, Tryz.ntmps47
    go_wp2_with fail
    refine (HR.out _ hx0).mono ?_
    rintro e w1 ⟨u, rfl, hM, h1⟩
    obtain ⟨k, n, ks⟩ := t
    obtain ⟨A, cap, rfl, hkl, hkc, hMK⟩ := Made.mk_iff.1 hM
    have hb := (blk1 h1).1
    have hsz := h1.size
    have hx1 := hx0.trans h1
    have hx2 : Ext w (w1.alloc (.cells #[.int .i64 k, .int .i64 n, .slice A ks.length cap] 36)) := hx1.alloc _
    have hb2 := ((Ext.refl w1).alloc (.cells #[.int .i64 k, .int .i64 n, .slice A ks.length cap] 36)).blk hb
    have hbn := heap_alloc_new w1 (.cells #[.int .i64 k, .int .i64 n, .slice A ks.length cap] 36)
    cases y with
    | cons c y =>
      have hye : (ofL (c :: y)).toList.isEmpty = false := by rw [ofL_tl]; rfl
      have hn : R = none := by rw [HV.out, if_neg (by simp)]
      subst hn
      obtain ⟨y0, y1, y2, f0, f1, f2⟩ := own3 hb2
      go_wp2_with fail
      refine bodyPost_ret (v := .tuple #[.agg #[.int .i64 0, .int .i64 0, .slice none 0 0], .bool false]) (by simp [results, Tryz.results47, go_sem, y0, y1, y2]) rfl ⟨_, rfl, Made.leaf _ _ _ 0 0, ?_⟩
      exact ((hx2.setCell (by simp) _).setCell (by simp) _).setCell (by simp) _
    | nil =>
      have hye : (ofL []).toList.isEmpty = true := by rw [ofL_tl]; rfl
      have HVT := Lib.hid (fun W (hW : Ext w1 W) => validTerm_any (.mk k n ks) W _ (hM.lies.ext hW))
      cases hz : valid sigT (.mk k n ks) with
      | false =>
        have hn : R = none := by rw [HV.out, if_neg (by simp [hz])]
        subst hn
        rw [hz] at HVT
        clear hz
        obtain ⟨z0, z1, z2, e0, e1, e2⟩ := own3 hbn
        go_wp2_with fail
        refine (HVT.out _ ((Ext.refl w1).alloc _)).mono ?_
        rintro e w3 ⟨rfl, h3⟩
        obtain ⟨y0, y1, y2, f0, f1, f2⟩ := own3 (h3.blk hb2)
        go_wp2_with fail
        refine bodyPost_ret (v := .tuple #[.agg #[.int .i64 0, .int .i64 0, .slice none 0 0], .bool false]) (by simp [results, Tryz.results47, go_sem, y0, y1, y2]) rfl ⟨_, rfl, Made.leaf _ _ _ 0 0, ?_⟩
        exact (((hx2.trans h3).setCell (by simp) _).setCell (by simp) _).setCell (by simp) _
      | true =>
        obtain ⟨q1, q2⟩ := valid_parts hz
        have HTT := Lib.hid (fun W (hX : Ext w1 W) => termText_any (.mk k n ks) W _ 30 ((hW.ext (hx1.trans hX)).1) q1 (by omega) (hM.lies.ext hX))
        obtain ⟨x, hx⟩ : ∃ x, fmtL (.mk k n ks) = x := ⟨_, rfl⟩
        rw [hx] at HTT
        have hVV := HV.out
        rw [hx, hz] at hVV
        rw [hz] at HVT
        by_cases hxl : x = l
        · have hn : R = some (.mk k n ks) := by rw [hVV, if_pos (by simp [hxl])]
          have heq : ((ofL x).toList == s.toList) = true := by rw [hxl, hsl, ofL_tl]; simp
          subst hn
          clear hz hVV hx HV hxl hsl
          obtain ⟨z0, z1, z2, e0, e1, e2⟩ := own3 hbn
          go_wp2_with fail
          refine (HVT.out _ ((Ext.refl w1).alloc _)).mono ?_
          rintro e w3 ⟨rfl, h3⟩
          obtain ⟨z0, z1, z2, e0, e1, e2⟩ := own3 (h3.blk hbn)
          go_wp2_with fail
          refine (HTT.out _ (((Ext.refl w1).alloc _).trans h3)).mono ?_
          rintro e w4 ⟨rfl, h4⟩
          have h34 := h3.trans h4
          have hs34 := h34.size
          obtain ⟨y0, y1, y2, f0, f1, f2⟩ := own3 (h34.blk hb2)
          obtain ⟨z0, z1, z2, e0, e1, e2⟩ := own3 (h34.blk hbn)
          go_wp2_with fail
          refine bodyPost_ret (v := .tuple #[.agg #[.int .i64 k, .int .i64 n, .slice A ks.length cap], .bool true]) (by simp [results, Tryz.results47, go_sem, y0, y1, y2]) rfl ⟨_, rfl, Made.since (w := w.alloc (.cells #[.int .i64 0, .int .i64 0, .slice none 0 0] 36)) ((hM.ext (((Ext.refl w1).alloc _).trans h34)).after ((((Above.refl _ _).setCell (p := ⟨w.heap.size, 0, none⟩) (by simp) _).setCell (p := ⟨w.heap.size, 1, none⟩) (by simp) _).setCell (p := ⟨w.heap.size, 2, none⟩) (by simp) _)) (by simp), ?_⟩
          exact (((hx2.trans h34).setCell (by simp) _).setCell (by simp) _).setCell (by simp) _
        · have hn : R = none := by rw [hVV, if_neg (fun h => hxl h.2.2.2)]
          have heq : ((ofL x).toList == s.toList) = false := by rw [hsl, ofL_tl]; exact beq_eq_false_iff_ne.2 hxl
          subst hn
          clear hz hVV hx HV hxl hsl
          obtain ⟨z0, z1, z2, e0, e1, e2⟩ := own3 hbn
          go_wp2_with fail
          refine (HVT.out _ ((Ext.refl w1).alloc _)).mono ?_
          rintro e w3 ⟨rfl, h3⟩
          obtain ⟨z0, z1, z2, e0, e1, e2⟩ := own3 (h3.blk hbn)
          go_wp2_with fail
          refine (HTT.out _ (((Ext.refl w1).alloc _).trans h3)).mono ?_
          rintro e w4 ⟨rfl, h4⟩
          have h34 := h3.trans h4
          have hs34 := h34.size
          obtain ⟨y0, y1, y2, f0, f1, f2⟩ := own3 (h34.blk hb2)
          go_wp2_with fail
          refine bodyPost_ret (v := .tuple #[.agg #[.int .i64 0, .int .i64 0, .slice none 0 0], .bool false]) (by simp [results, Tryz.results47, go_sem, y0, y1, y2]) rfl ⟨_, rfl, Made.leaf _ _ _ 0 0, ?_⟩
          exact (((hx2.trans h34).setCell (by simp) _).setCell (by simp) _).setCell (by simp) _
end Go.Proofs.YtghmpdnlkldigaaGreatDoor

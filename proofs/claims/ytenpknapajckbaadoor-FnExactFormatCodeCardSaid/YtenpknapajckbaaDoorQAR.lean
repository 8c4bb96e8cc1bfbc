/-
  Lemmas towards the law, 18: FmtC.
-/
import Derived.Test.YtenpknapajckbaaDoorQAJ
import Derived.Test.YtenpknapajckbaaDoorQAP
import Derived.Deep.RegionHeld3
namespace Go.Proofs.YtenpknapajckbaaDoor
open Go.RowKit
set_option linter.unusedVariables false
def CodeTC (t : Tr) : Prop := ∀ (w : World) (v : Value) (d : Int), shape sigC t d = true → cnt t ≤ 1000 → Lies w t v → Calls Tryd.prog 20 #[v] w fun e w' => e = .returned (.string (ofL (fmtP t))) ∧ Ext w w'
set_option maxRecDepth 100000 in
set_option maxHeartbeats 1000000 in
theorem l12List_any (ks : List Tr) (hk : ∀ t ∈ ks, CodeTC t) (d : Int) (hsh : ∀ t ∈ ks, shape sigC t d = true) (hcn : cnts ks ≤ 1000) (w : World) (A : Option Addr) (cap : Nat) (h : LiesK w A ks) (hl : ks.length ≤ cap) (hc : cap ≤ maxLen) :
    Calls Tryd.prog 39 #[.slice A ks.length cap] w fun e w' => e = .returned (.string (ofL (fmtPK [44] ks true))) ∧ Ext w w' := by
  have hcc := hc
  unfold maxLen at hcc
  have hlc := len_le_cnts ks
  go_enter Tryd.func39, Tryd.ntmps39
  go_wp2_with fail
  go_loopw [3, 4] (fun o i wr => ∃ (j : Nat) (x : List UInt8), j ≤ ks.length ∧ i = .int .i64 j ∧ o = .string (ofL x) ∧ x ++ fmtPK [44] (ks.drop j) (decide (j = 0)) = fmtPK [44] ks true ∧ x.length + 5 * cnts (ks.drop j) ≤ 5 * cnts ks ∧ Ext w wr) (fun _ i _ => ks.length - (intOf i).toNat)
  case atStart => exact ⟨0, [], Nat.zero_le _, rfl, rfl, rfl, by simp, Ext.refl _⟩
  case round =>
    obtain ⟨j, x, hj, rfl, rfl, heq, hlen, he⟩ := hrel
    have HE := Lib.hid heq
    clear heq
    by_cases hlt : j < ks.length
    · obtain ⟨b, o, k, n, A', cap', kids, rfl, HK, c0, c1, c2, hkl, hkc, hK, hin, hmem⟩ := h.get he hlt
      have hjz : (j : Int) < (ks.length : Int) := by omega
      have hst : ks.drop j = .mk k n kids :: ks.drop (j + 1) := by rw [List.drop_eq_getElem_cons hlt, HK.out]
      have hf := fmtP_len (.mk k n kids)
      have hcd : cnts (ks.drop j) = cnt (.mk k n kids) + cnts (ks.drop (j + 1)) := by rw [hst]; simp only [cnts]
      have hcm := cnt_mem hmem
      have HC := Lib.hid (hk _ hmem wr _ d (hsh _ hmem) (by omega) hin)
      have hfk : fmtPK [44] (ks.drop j) (decide (j = 0)) = (if decide (j = 0) = true then [] else [44]) ++ fmtP (.mk k n kids) ++ fmtPK [44] (ks.drop (j + 1)) false := by
        rw [hst]; conv => lhs; unfold fmtPK
      have HFK := Lib.hid hfk
      have hxl : x.length ≤ 10000 := by omega
      have hx1 := sz_le hxl
      obtain ⟨y, hy⟩ : ∃ y, y = fmtP (.mk k n kids) := ⟨_, rfl⟩
      rw [← hy] at HC HFK hf
      have hx2 := sz_le (x := y) (n := 10000) (by omega)
      have HCD := Lib.hid hcd
      have HL := Lib.hid (show x.length + 5 * (cnt (.mk k n kids) + cnts (ks.drop (j + 1))) ≤ 5 * cnts ks from by rw [← hcd]; exact hlen)
      clear hst hcd hfk hy hlen
      rcases Nat.eq_zero_or_pos j with h0 | h0
      · subst h0
        have hd0 : decide ((0 : Int) < ((0 : Nat) : Int)) = false := by decide
        simp only [Nat.zero_mul, Nat.add_zero] at c0 c1 c2
        go_wp2_with fail
        refine HC.out.mono ?_
        rintro e w1 ⟨rfl, e1⟩
        go_wp2_with fail
        go_roundw
        case rel => exact ⟨1, x ++ y, by omega, rfl, by rw [ofL_append], by rw [← HE.out, HFK.out]; simp, by have := HL.out; rw [Nat.zero_add] at this; simp only [List.length_append]; omega, he.trans e1⟩
        case measure => simp [intOf]; omega
      · have hd0 : decide ((0 : Int) < (j : Int)) = true := decide_eq_true (by omega)
        have HX := Lib.hid (show ofL x ++ ({ data := #[44] } : ByteArray) = ofL (x ++ [44]) from ofL_append x [44])
        have hx3 : (ofL x ++ ({ data := #[44] } : ByteArray)).size ≤ 10001 := by rw [HX.out, ofL_size]; simp; omega
        go_wp2_with fail
        refine HC.out.mono ?_
        rintro e w1 ⟨rfl, e1⟩
        go_wp2_with fail
        go_roundw
        case rel => exact ⟨j + 1, x ++ [44] ++ y, by omega, by go_num, by rw [HX.out, ofL_append], by rw [← HE.out, HFK.out, show decide (j = 0) = false from decide_eq_false (by omega), show decide (j + 1 = 0) = false from decide_eq_false (by omega)]; simp, by have := HL.out; simp only [List.length_append, List.length_singleton]; omega, he.trans e1⟩
        case measure => simp [intOf]; omega
    · have hd := List.drop_of_length_le (show ks.length ≤ j by omega)
      have hx : x = fmtPK [44] ks true := by rw [← HE.out, hd]; simp [fmtPK]
      have HX := Lib.hid hx
      clear hd hx
      go_wp2_with fail
      go_ret
      exact ⟨by rw [← HX.out]; rfl, he⟩
set_option maxRecDepth 100000 in
set_option maxHeartbeats 4000000 in
theorem l12Text_any : ∀ t : Tr, CodeTC t := Tr.ind fun k n ks hk => by
  intro w v d hsh hcn hin
  obtain ⟨A, cap, rfl, hl, hc, hK⟩ := Lies.mk_iff.1 hin
  obtain ⟨hops, hn0, hn1, hsk⟩ := shape_kids' hsh
  have hops : opsC k = (ks.length : Int) := hops
  have hn1 : n ≤ mostC k := hn1
  have hlc := len_le_cnts ks
  have hcc := hc
  unfold maxLen at hcc
  simp only [cnt] at hcn
  have hx : Ext w (w.alloc (.cells #[.int .i64 k, .int .i64 n, .slice A ks.length cap] 29)) := (Ext.refl w).alloc _
  have hbx := heap_alloc_new w (.cells #[.int .i64 k, .int .i64 n, .slice A ks.length cap] 29)
  by_cases c2 : k = 2
  · subst c2
    have hlen1 : ks.length = 1 := by have : (1 : Int) = (ks.length : Int) := hops; omega
    obtain ⟨b, o, k0, n0, A0, cap0, kids0, rfl, HK, x0, x1, x2, hkl, hkc, hK0, hin0, hmem⟩ := hK.get hx (j := 0) (by omega)
    simp only [Nat.zero_mul, Nat.add_zero] at x0 x1 x2
    obtain ⟨t0, ht0⟩ : ∃ t0, t0 = Tr.mk k0 n0 kids0 := ⟨_, rfl⟩
    have hks : ks = [t0] := list1 hlen1 (by omega) (by rw [ht0]; exact HK.out)
    have hl0 : 0 < ks.length := by omega
    have hf := fmtP_len t0
    have hcm := cnt_mem hmem
    rw [← ht0] at hcm
    have HC := Lib.hid (fun W (hW : Ext _ W) => hk _ hmem W _ (d - 1) (hsk _ hmem) (by rw [← ht0]; omega) (hin0.ext hW))
    rw [← ht0] at HC
    have hxl : (fmtP t0).length ≤ 10000 := by omega
    obtain ⟨y, hy⟩ : ∃ y, y = fmtP t0 := ⟨_, rfl⟩
    rw [← hy] at HC hxl
    have hx1 := sz_le hxl
    have hr : fmtP (.mk 2 n ks) = [46] ++ y := by
      rw [hks, hy]
      simp [fmtP, fmtPK, opnP, clsP]
    have HR := Lib.hid hr
    clear hr hks ht0 hy HK hops hf hcm hlen1
    go_enter Tryd.func20, Tryd.ntmps20
    go_wp2_with fail
    refine (HC.out _ (Ext.refl _)).mono ?_
    rintro e w2 ⟨rfl, e2⟩
    go_wp2_with fail
    go_ret
    exact ⟨by rw [HR.out, ← ofL_append]; rfl, hx.trans e2⟩
  by_cases c5 : k = 5
  · subst c5
    have hlen1 : ks.length = 1 := by have : (1 : Int) = (ks.length : Int) := hops; omega
    obtain ⟨b, o, k0, n0, A0, cap0, kids0, rfl, HK, x0, x1, x2, hkl, hkc, hK0, hin0, hmem⟩ := hK.get hx (j := 0) (by omega)
    simp only [Nat.zero_mul, Nat.add_zero] at x0 x1 x2
    obtain ⟨t0, ht0⟩ : ∃ t0, t0 = Tr.mk k0 n0 kids0 := ⟨_, rfl⟩
    have hks : ks = [t0] := list1 hlen1 (by omega) (by rw [ht0]; exact HK.out)
    have hl0 : 0 < ks.length := by omega
    have hf := fmtP_len t0
    have hcm := cnt_mem hmem
    rw [← ht0] at hcm
    have HC := Lib.hid (fun W (hW : Ext _ W) => hk _ hmem W _ (d - 1) (hsk _ hmem) (by rw [← ht0]; omega) (hin0.ext hW))
    rw [← ht0] at HC
    have hxl : (fmtP t0).length ≤ 10000 := by omega
    obtain ⟨y, hy⟩ : ∃ y, y = fmtP t0 := ⟨_, rfl⟩
    rw [← hy] at HC hxl
    have hx1 := sz_le hxl
    have hr : fmtP (.mk 5 n ks) = [43] ++ y := by
      rw [hks, hy]
      simp [fmtP, fmtPK, opnP, clsP]
    have HR := Lib.hid hr
    clear hr hks ht0 hy HK hops hf hcm hlen1
    go_enter Tryd.func20, Tryd.ntmps20
    go_wp2_with fail
    refine (HC.out _ (Ext.refl _)).mono ?_
    rintro e w2 ⟨rfl, e2⟩
    go_wp2_with fail
    go_ret
    exact ⟨by rw [HR.out, ← ofL_append]; rfl, hx.trans e2⟩
  by_cases c8 : k = 8
  · subst c8
    have hlen1 : ks.length = 1 := by have : (1 : Int) = (ks.length : Int) := hops; omega
    obtain ⟨b, o, k0, n0, A0, cap0, kids0, rfl, HK, x0, x1, x2, hkl, hkc, hK0, hin0, hmem⟩ := hK.get hx (j := 0) (by omega)
    simp only [Nat.zero_mul, Nat.add_zero] at x0 x1 x2
    obtain ⟨t0, ht0⟩ : ∃ t0, t0 = Tr.mk k0 n0 kids0 := ⟨_, rfl⟩
    have hks : ks = [t0] := list1 hlen1 (by omega) (by rw [ht0]; exact HK.out)
    have hl0 : 0 < ks.length := by omega
    have hf := fmtP_len t0
    have hcm := cnt_mem hmem
    rw [← ht0] at hcm
    have HC := Lib.hid (fun W (hW : Ext _ W) => hk _ hmem W _ (d - 1) (hsk _ hmem) (by rw [← ht0]; omega) (hin0.ext hW))
    rw [← ht0] at HC
    have hxl : (fmtP t0).length ≤ 10000 := by omega
    obtain ⟨y, hy⟩ : ∃ y, y = fmtP t0 := ⟨_, rfl⟩
    rw [← hy] at HC hxl
    have hx1 := sz_le hxl
    have hr : fmtP (.mk 8 n ks) = [94] ++ y := by
      rw [hks, hy]
      simp [fmtP, fmtPK, opnP, clsP]
    have HR := Lib.hid hr
    clear hr hks ht0 hy HK hops hf hcm hlen1
    go_enter Tryd.func20, Tryd.ntmps20
    go_wp2_with fail
    refine (HC.out _ (Ext.refl _)).mono ?_
    rintro e w2 ⟨rfl, e2⟩
    go_wp2_with fail
    go_ret
    exact ⟨by rw [HR.out, ← ofL_append]; rfl, hx.trans e2⟩
  by_cases c9 : k = 9
  · subst c9
    have hlen1 : ks.length = 1 := by have : (1 : Int) = (ks.length : Int) := hops; omega
    obtain ⟨b, o, k0, n0, A0, cap0, kids0, rfl, HK, x0, x1, x2, hkl, hkc, hK0, hin0, hmem⟩ := hK.get hx (j := 0) (by omega)
    simp only [Nat.zero_mul, Nat.add_zero] at x0 x1 x2
    obtain ⟨t0, ht0⟩ : ∃ t0, t0 = Tr.mk k0 n0 kids0 := ⟨_, rfl⟩
    have hks : ks = [t0] := list1 hlen1 (by omega) (by rw [ht0]; exact HK.out)
    have hl0 : 0 < ks.length := by omega
    have hf := fmtP_len t0
    have hcm := cnt_mem hmem
    rw [← ht0] at hcm
    have HC := Lib.hid (fun W (hW : Ext _ W) => hk _ hmem W _ (d - 1) (hsk _ hmem) (by rw [← ht0]; omega) (hin0.ext hW))
    rw [← ht0] at HC
    have hxl : (fmtP t0).length ≤ 10000 := by omega
    obtain ⟨y, hy⟩ : ∃ y, y = fmtP t0 := ⟨_, rfl⟩
    rw [← hy] at HC hxl
    have hx1 := sz_le hxl
    have hr : fmtP (.mk 9 n ks) = [95] ++ y := by
      rw [hks, hy]
      simp [fmtP, fmtPK, opnP, clsP]
    have HR := Lib.hid hr
    clear hr hks ht0 hy HK hops hf hcm hlen1
    go_enter Tryd.func20, Tryd.ntmps20
    go_wp2_with fail
    refine (HC.out _ (Ext.refl _)).mono ?_
    rintro e w2 ⟨rfl, e2⟩
    go_wp2_with fail
    go_ret
    exact ⟨by rw [HR.out, ← ofL_append]; rfl, hx.trans e2⟩
  by_cases c3 : k = 3
  · subst c3
    have hlen2 : ks.length = 2 := by have : (2 : Int) = (ks.length : Int) := hops; omega
    obtain ⟨b, o, k0, n0, A0, cap0, kids0, rfl, HK, x0, x1, x2, hkl, hkc, hK0, hin0, hmem⟩ := hK.get hx (j := 0) (by omega)
    obtain ⟨b', o', k1, n1, A1, cap1, kids1, hbo, HK1, y0, y1, y2, hkl1, hkc1, hK1, hin1, hmem1⟩ := hK.get hx (j := 1) (by omega)
    cases hbo
    simp only [Nat.zero_mul, Nat.add_zero] at x0 x1 x2
    simp only [Nat.one_mul] at y0 y1 y2
    obtain ⟨t0, ht0⟩ : ∃ t0, t0 = Tr.mk k0 n0 kids0 := ⟨_, rfl⟩
    obtain ⟨t1, ht1⟩ : ∃ t1, t1 = Tr.mk k1 n1 kids1 := ⟨_, rfl⟩
    have hks : ks = [t0, t1] := list2 hlen2 (by omega) (by omega) (by rw [ht0]; exact HK.out) (by rw [ht1]; exact HK1.out)
    have hl0 : 0 < ks.length := by omega
    have hl1 : 1 < ks.length := by omega
    have hf := fmtP_len t0
    have hf1 := fmtP_len t1
    have hcm := cnt_mem hmem
    have hcm1 := cnt_mem hmem1
    rw [← ht0] at hcm
    rw [← ht1] at hcm1
    have HC := Lib.hid (fun W (hW : Ext _ W) => hk _ hmem W _ (d - 1) (hsk _ hmem) (by rw [← ht0]; omega) (hin0.ext hW))
    have HC1 := Lib.hid (fun W (hW : Ext _ W) => hk _ hmem1 W _ (d - 1) (hsk _ hmem1) (by rw [← ht1]; omega) (hin1.ext hW))
    rw [← ht0] at HC
    rw [← ht1] at HC1
    have hxl : (fmtP t0).length ≤ 10000 := by omega
    have hxl1 : (fmtP t1).length ≤ 10000 := by omega
    obtain ⟨y, hy⟩ : ∃ y, y = fmtP t0 := ⟨_, rfl⟩
    obtain ⟨z, hz⟩ : ∃ z, z = fmtP t1 := ⟨_, rfl⟩
    rw [← hy] at HC hxl
    rw [← hz] at HC1 hxl1
    have hx1 := sz_le hxl
    have hx2 := sz_le hxl1
    have hr : fmtP (.mk 3 n ks) = [40] ++ y ++ [32] ++ z ++ [41] := by
      rw [hks, hy, hz]
      simp [fmtP, fmtPK, opnP, sepP, clsP]
    have HR := Lib.hid hr
    have hi0 : (0 : Int) < (ks.length : Int) := by omega
    have hi1 : (1 : Int) < (ks.length : Int) := by omega
    have hn1 : ¬ (9223372036854775807 < 1 + (ofL y).size) := by omega
    have hn2 : ¬ (9223372036854775807 < 1 + (ofL y).size + 1) := by omega
    have hn3 : ¬ (9223372036854775807 < 1 + (ofL y).size + 1 + (ofL z).size) := by omega
    have hn4 : ¬ (9223372036854775807 < 1 + (ofL y).size + 1 + (ofL z).size + 1) := by omega
    obtain ⟨s0, s1, s2, -, -, -⟩ := own3 hbx
    clear hr hks ht0 hy ht1 hz HK HK1 hops hf hf1 hcm hcm1 hlen2
    go_enter Tryd.func20, Tryd.ntmps20
    go_wp2_with fail
    generalize World.alloc w _ = w1 at *
    have HS := Lib.hid (show ∀ w', Ext w1 w' → w'.cell? ⟨w.heap.size, 2, none⟩ = some (.slice (some ⟨b, o, none⟩) ks.length cap) ∧ w'.cell? ⟨b, o, none⟩ = some (.int .i64 k0) ∧ w'.cell? ⟨b, o + 1, none⟩ = some (.int .i64 n0) ∧ w'.cell? ⟨b, o + 2, none⟩ = some (.slice A0 kids0.length cap0) ∧ w'.cell? ⟨b, o + 3, none⟩ = some (.int .i64 k1) ∧ w'.cell? ⟨b, o + 3 + 1, none⟩ = some (.int .i64 n1) ∧ w'.cell? ⟨b, o + 3 + 2, none⟩ = some (.slice A1 kids1.length cap1) from fun w' hw' => ⟨hw'.cell s2, hw'.cell x0, hw'.cell x1, hw'.cell x2, hw'.cell y0, hw'.cell y1, hw'.cell y2⟩)
    go_region_held3 (fun w' => w'.cell? ⟨w.heap.size, 2, none⟩ = some (.slice (some ⟨b, o, none⟩) ks.length cap) ∧ w'.cell? ⟨b, o, none⟩ = some (.int .i64 k0) ∧ w'.cell? ⟨b, o + 1, none⟩ = some (.int .i64 n0) ∧ w'.cell? ⟨b, o + 2, none⟩ = some (.slice A0 kids0.length cap0) ∧ w'.cell? ⟨b, o + 3, none⟩ = some (.int .i64 k1) ∧ w'.cell? ⟨b, o + 3 + 1, none⟩ = some (.int .i64 n1) ∧ w'.cell? ⟨b, o + 3 + 2, none⟩ = some (.slice A1 kids1.length cap1))
      (first | exact HS.out _ ((Ext.refl w1).drew.trans (e2.trans e3)) | exact HS.out _ ((Ext.refl w1).drew.trans e2) | exact HS.out _ (Ext.refl w1).drew)
      (first | (go_at_call 20; (with_reducible refine (HC.out _ (Ext.refl w1).drew).mono ?_); rintro e w2 ⟨rfl, e2⟩) | (go_at_call 20; refine (HC1.out _ ((Ext.refl w1).drew.trans e2)).mono ?_; rintro e w3 ⟨rfl, e3⟩))
    clear s0 s1 s2 x0 x1 x2 y0 y1 y2 HS
    go_wp2_with fail
    go_ret
    exact ⟨by rw [HR.out]; simp only [← ofL_append]; rfl, hx.trans ((Ext.refl w1).drew.trans (e2.trans e3))⟩
  by_cases c6 : k = 6
  · subst c6
    have hf := fmtPK_len [44] (by simp) ks true
    have HC := Lib.hid (fun W (hW : Ext w W) => l12List_any ks hk (d - 1) hsk (by omega) W A cap (hK.ext hW) hl hc)
    have hxl : (fmtPK [44] ks true).length ≤ 10000 := by omega
    have hr : fmtP (.mk 6 n ks) = [60] ++ fmtPK [44] ks true ++ [62] := by
      simp [fmtP, opnP, sepP, clsP]
    obtain ⟨y, hy⟩ : ∃ y, y = fmtPK [44] ks true := ⟨_, rfl⟩
    rw [← hy] at HC hxl hr
    have hx1 := sz_le hxl
    have HR := Lib.hid hr
    have hq1 : ((⟨#[60]⟩ : ByteArray) ++ ofL y).size ≤ 10002 := by
      have := sz_le (x := [60] ++ y) (n := 10002) (by simp; omega)
      rwa [← ofL_append] at this
    clear hr hy hops hf
    go_enter Tryd.func20, Tryd.ntmps20
    go_wp2_with fail
    refine (HC.out _ hx).mono ?_
    rintro e w2 ⟨rfl, e2⟩
    go_wp2_with fail
    go_ret
    exact ⟨by rw [HR.out, ← ofL_append, ← ofL_append]; rfl, hx.trans e2⟩
  by_cases c7 : k = 7
  · subst c7
    have hf := fmtPK_len [44] (by simp) ks true
    have HC := Lib.hid (fun W (hW : Ext w W) => l12List_any ks hk (d - 1) hsk (by omega) W A cap (hK.ext hW) hl hc)
    have hxl : (fmtPK [44] ks true).length ≤ 10000 := by omega
    have hr : fmtP (.mk 7 n ks) = [124] ++ fmtPK [44] ks true ++ [124] := by
      simp [fmtP, opnP, sepP, clsP]
    obtain ⟨y, hy⟩ : ∃ y, y = fmtPK [44] ks true := ⟨_, rfl⟩
    rw [← hy] at HC hxl hr
    have hx1 := sz_le hxl
    have HR := Lib.hid hr
    have hq1 : ((⟨#[124]⟩ : ByteArray) ++ ofL y).size ≤ 10002 := by
      have := sz_le (x := [124] ++ y) (n := 10002) (by simp; omega)
      rwa [← ofL_append] at this
    clear hr hy hops hf
    go_enter Tryd.func20, Tryd.ntmps20
    go_wp2_with fail
    refine (HC.out _ hx).mono ?_
    rintro e w2 ⟨rfl, e2⟩
    go_wp2_with fail
    go_ret
    exact ⟨by rw [HR.out, ← ofL_append, ← ofL_append]; rfl, hx.trans e2⟩
  by_cases c4 : k = 4
  · subst c4
    have hlen0 : ks = [] := List.eq_nil_of_length_eq_zero (by have : (0 : Int) = (ks.length : Int) := hops; omega)
    have hr : fmtP (.mk 4 n ks) = [48] := by
      rw [hlen0]
      simp [fmtP, fmtPK, opnP, clsP]
    have HR := Lib.hid hr
    clear hr hops hlen0
    go_enter Tryd.func20, Tryd.ntmps20
    go_wp2_with fail
    go_ret
    exact ⟨by rw [HR.out]; rfl, hx⟩
  by_cases c10 : k = 10
  · subst c10
    have hlen0 : ks = [] := List.eq_nil_of_length_eq_zero (by have : (0 : Int) = (ks.length : Int) := hops; omega)
    have hr : fmtP (.mk 10 n ks) = [63] := by
      rw [hlen0]
      simp [fmtP, fmtPK, opnP, clsP]
    have HR := Lib.hid hr
    clear hr hops hlen0
    go_enter Tryd.func20, Tryd.ntmps20
    go_wp2_with fail
    go_ret
    exact ⟨by rw [HR.out]; rfl, hx⟩
  by_cases c1 : k = 1
  · subst c1
    obtain ⟨m, rfl⟩ : ∃ m : Nat, n = m := ⟨n.toNat, by omega⟩
    have hm : (m : Int) ≤ 20 := hn1
    have HC := Lib.hid (fun W => l19Dec_any m (by omega) W)
    have hr : fmtP (.mk 1 m ks) = [35] ++ decL m := by
      simp [fmtP]
    have hxl := decL_len m
    obtain ⟨y, hy⟩ : ∃ y, y = decL m := ⟨_, rfl⟩
    rw [← hy] at HC hxl hr
    have hx1 := sz_le hxl
    have HR := Lib.hid hr
    clear hr hops hy
    go_enter Tryd.func20, Tryd.ntmps20
    go_wp2_with fail
    refine (HC.out _).mono ?_
    rintro e w2 ⟨rfl, e2⟩
    go_wp2_with fail
    go_ret
    exact ⟨by rw [HR.out, ← ofL_append]; rfl, hx.trans e2⟩
  exfalso
  have hge : 0 ≤ opsC k := by omega
  unfold opsC at hge
  repeat rw [if_neg (by omega)] at hge
  omega
theorem formatCode_any (t : Tr) (w : World) (v : Value) (hin : Lies w t v) : Calls Tryd.prog 7 #[v] w fun e w' => e = .returned (.string (ofL (fmtPV t))) ∧ Ext w w' := by
  have H1 := Lib.hid (fun W (hW : Ext w W) => specValidCode t W v (hin.ext hW))
  have H2 := Lib.hid (fun (hv : valid sigC t = true) W (hW : Ext w W) => l12Text_any t W v 30 (valid_parts hv).1 (by have := (valid_parts hv).2; omega) (hin.ext hW))
  have hf : fmtPV t = if valid sigC t = true then fmtP t else [] := rfl
  obtain ⟨b, hb⟩ : ∃ b, b = valid sigC t := ⟨_, rfl⟩
  rw [← hb] at H1 H2 hf
  have HF := Lib.hid hf
  clear hb hf
  obtain ⟨k, n, ks⟩ := t
  obtain ⟨A, cap, rfl, hl, hc, hK⟩ := Lies.mk_iff.1 hin
  have hx : Ext w (w.alloc (.cells #[.int .i64 k, .int .i64 n, .slice A ks.length cap] 29)) := (Ext.refl w).alloc _
  have hbx := heap_alloc_new w (.cells #[.int .i64 k, .int .i64 n, .slice A ks.length cap] 29)
  cases b with
  | false =>
    go_enter Tryd.func7, Tryd.ntmps7
    go_wp2_with fail
    refine (H1.out _ hx).mono ?_
    rintro e w1 ⟨rfl, e1⟩
    go_wp2_with fail
    go_ret
    exact ⟨by rw [HF.out]; rfl, hx.trans e1⟩
  | true =>
    go_enter Tryd.func7, Tryd.ntmps7
    go_wp2_with fail
    refine (H1.out _ hx).mono ?_
    rintro e w1 ⟨rfl, e1⟩
    obtain ⟨s0, s1, s2, -, -, -⟩ := own3 (e1.blk hbx)
    go_wp2_with fail
    refine (H2.out trivial _ (hx.trans e1)).mono ?_
    rintro e w2 ⟨rfl, e2⟩
    go_wp2_with fail
    go_ret
    exact ⟨by rw [HF.out]; rfl, (hx.trans e1).trans e2⟩
end Go.Proofs.YtenpknapajckbaaDoor

/-
  Lemmas towards the law, 21: Apply.
-/
import Derived.Test.YtolkohncmidpeaaGreatDoorHAG
import Derived.Test.YtolkohncmidpeaaGreatDoorHAI
import Derived.Test.YtolkohncmidpeaaGreatDoorHAN
import Derived.Test.YtolkohncmidpeaaGreatDoorHAR
import Derived.Test.YtolkohncmidpeaaGreatDoorHAT
import Derived.Deep.RegionHeld3
namespace Go.Proofs.YtolkohncmidpeaaGreatDoor
open Go.RowKit
set_option linter.unusedVariables false
attribute [local go_sem ↓] Go.wp_at_zero Go.wp_at_succ
def appT (f : Tr) (ts : List Tr) : Tr := ts.foldl (fun o a => .mk 5 0 [o, a]) f
theorem appT_snoc (f : Tr) (ts : List Tr) (a : Tr) : appT f (ts ++ [a]) = .mk 5 0 [appT f ts, a] := by simp [appT]
theorem appT_take {f : Tr} {ts : List Tr} {j : Nat} (h : j < ts.length) : appT f (ts.take (j + 1)) = .mk 5 0 [appT f (ts.take j), ts[j]] := by rw [List.take_succ_eq_append_getElem h, appT_snoc]
theorem appT_cnt : ∀ (ts : List Tr) (f : Tr), (∀ t ∈ ts, cnt t ≤ 400) → cnt (appT f ts) ≤ cnt f + 401 * ts.length
  | [], f, _ => by simp [appT]
  | a :: ts, f, h => by
    have := appT_cnt ts (.mk 5 0 [f, a]) fun t ht => h t (List.mem_cons_of_mem _ ht)
    have h2 := h a (List.mem_cons_self ..)
    simp only [cnt, cnts] at this
    have e : appT f (a :: ts) = appT (.mk 5 0 [f, a]) ts := rfl
    rw [e, List.length_cons]
    omega
/-- ApplyAll's answer. -/
def aplV (f : Tr) (ts : List Tr) : Tr × Bool := if (valid sigT f && fitsC ts) = true then (if valid sigT (appT f ts) = true then (appT f ts, true) else (dflt0, false)) else (dflt0, false)
theorem fitsC_parts {ts : List Tr} (h : fitsC ts = true) : ts.length ≤ 8 ∧ ∀ t ∈ ts, valid sigT t = true := by
  unfold fitsC at h
  simp only [Bool.and_eq_true, decide_eq_true_eq, Bool.not_eq_true', List.any_eq_false] at h
  exact ⟨h.1, fun t ht => by simpa using h.2 t ht⟩
/-- Clear of three blocks. -/
def Off3 (w0 : World) (g : Nat) (b : Nat) : Prop := b ≠ w0.heap.size ∧ b ≠ w0.heap.size + 1 ∧ b ≠ g
set_option maxRecDepth 100000 in
set_option maxHeartbeats 1000000 in
theorem l7MadeN_any (t : Tr) (w0 : World) (N : Nat → Prop) (v : Value) (hin : InT w0 N t v) : Calls Tryz.prog 97 #[v] w0 fun e w' => ∃ u, e = .returned (.tuple #[u, .bool (valid sigT t)]) ∧ InT w' N (if valid sigT t = true then t else dflt0) u ∧ Ext w0 w' := by
  have HV := Lib.hid (fun W (hW : Ext w0 W) => specValidTerm t W v (hin.lies'.ext hW))
  have HIN := Lib.hid hin
  obtain ⟨z, hz⟩ : ∃ z, valid sigT t = z := ⟨_, rfl⟩
  rw [hz] at HV ⊢
  obtain ⟨k, n, ks⟩ := t
  obtain ⟨A, cap, rfl, hl, hc, hK⟩ := InT.mk_iff.1 hin
  clear hin hz
  obtain ⟨bt_1, br_1, s1⟩ := blk2 (Ext.refl ((w0.alloc (.cells #[.int .i64 k, .int .i64 n, .slice A ks.length cap] 45)).alloc (.cells #[.int .i64 0, .int .i64 0, .slice none 0 0] 45)))
  have e1 : Ext w0 ((w0.alloc (.cells #[.int .i64 k, .int .i64 n, .slice A ks.length cap] 45)).alloc (.cells #[.int .i64 0, .int .i64 0, .slice none 0 0] 45)) := (((Ext.refl w0).alloc (.cells #[.int .i64 k, .int .i64 n, .slice A ks.length cap] 45)).alloc (.cells #[.int .i64 0, .int .i64 0, .slice none 0 0] 45))
  obtain ⟨w1, hw1⟩ : ∃ x, x = ((w0.alloc (.cells #[.int .i64 k, .int .i64 n, .slice A ks.length cap] 45)).alloc (.cells #[.int .i64 0, .int .i64 0, .slice none 0 0] 45)) := ⟨_, rfl⟩
  rw [← hw1] at e1 s1 bt_1 br_1
  cases z with
  | false =>
    rw [if_neg (by simp)]
    go_enter Tryz.func97, Tryz.ntmps97
    go_wp2_with fail
    rw [← hw1]
    clear hw1
    refine (HV.out _ e1).mono ?_
    rintro e w2 ⟨rfl, e2⟩
    have s2 : w1.heap.size ≤ w2.heap.size := e2.size
    have X0_1 : Ext w0 w1 := e1
    have X0_2 : Ext w0 w2 := X0_1.trans e2
    have bt_2 := e2.blk bt_1
    have zt0 : w2.cell? ⟨w0.heap.size, 0, none⟩ = some (.int .i64 k) := cell_of_blk bt_2 0
    have zt1 : w2.cell? ⟨w0.heap.size, 1, none⟩ = some (.int .i64 n) := cell_of_blk bt_2 1
    have zt2 : w2.cell? ⟨w0.heap.size, 2, none⟩ = some (.slice A ks.length cap) := cell_of_blk bt_2 2
    have lt := lt_of_blk bt_2
    have br_2 := e2.blk br_1
    obtain ⟨zr0, zr1, zr2, yr0, yr1, yr2⟩ := own3 br_2
    have lr := lt_of_blk br_2
    go_wp2_with fail
    refine bodyPost_ret (v := .tuple #[.agg #[.int .i64 0, .int .i64 0, .slice none 0 0], .bool false]) (by simp [results, Tryz.results97, go_sem, zr0, zr1, zr2]) rfl ⟨_, rfl, leafT _ _ 0 0, (((X0_2.setCell (by simp; try omega) _).setCell (by simp; try omega) _).setCell (by simp; try omega) _)⟩
  | true =>
    rw [if_pos rfl]
    go_enter Tryz.func97, Tryz.ntmps97
    go_wp2_with fail
    rw [← hw1]
    clear hw1
    refine (HV.out _ e1).mono ?_
    rintro e w2 ⟨rfl, e2⟩
    have s2 : w1.heap.size ≤ w2.heap.size := e2.size
    have X0_1 : Ext w0 w1 := e1
    have X0_2 : Ext w0 w2 := X0_1.trans e2
    have bt_2 := e2.blk bt_1
    have zt0 : w2.cell? ⟨w0.heap.size, 0, none⟩ = some (.int .i64 k) := cell_of_blk bt_2 0
    have zt1 : w2.cell? ⟨w0.heap.size, 1, none⟩ = some (.int .i64 n) := cell_of_blk bt_2 1
    have zt2 : w2.cell? ⟨w0.heap.size, 2, none⟩ = some (.slice A ks.length cap) := cell_of_blk bt_2 2
    have lt := lt_of_blk bt_2
    have br_2 := e2.blk br_1
    obtain ⟨zr0, zr1, zr2, yr0, yr1, yr2⟩ := own3 br_2
    have lr := lt_of_blk br_2
    go_wp2_with fail
    refine bodyPost_ret (v := .tuple #[.agg #[.int .i64 k, .int .i64 n, .slice A ks.length cap], .bool true]) (by simp [results, Tryz.results97, go_sem, zr0, zr1, zr2]) rfl ⟨_, rfl, InT.ret (InT.keep HIN.out X0_2 (show w0.heap.size ≤ w0.heap.size + 1 from Nat.le_succ _)) _ _ _, (((X0_2.setCell (by simp; try omega) _).setCell (by simp; try omega) _).setCell (by simp; try omega) _)⟩
set_option maxRecDepth 100000 in
set_option maxHeartbeats 4000000 in
theorem specApplyAll_any (f : Tr) (ts : List Tr) (w0 : World) (v : Value) (hin : Lies w0 f v) (B : Option Addr) (cb : Nat) (hlb : ts.length ≤ cb) (hcb : cb ≤ maxLen) (hT : LiesK w0 B ts) : Calls Tryz.prog 53 #[v, .slice B ts.length cb] w0 fun e w' => ∃ u, e = .returned (.tuple #[u, .bool (aplV f ts).2]) ∧ Lies w' (aplV f ts).1 u ∧ Ext w0 w' := by
  have HV := Lib.hid (fun W (hW : Ext w0 W) => specValidTerm f W v (hin.ext hW))
  have HF := Lib.hid (fun W (hW : Ext w0 W) => l5Fits_any ts W B cb hlb hcb (hT.ext hW))
  have hdef : aplV f ts = if (valid sigT f && fitsC ts) = true then (if valid sigT (appT f ts) = true then (appT f ts, true) else (dflt0, false)) else (dflt0, false) := rfl
  obtain ⟨R, hR⟩ : ∃ R, aplV f ts = R := ⟨_, rfl⟩
  rw [hR] at hdef ⊢
  obtain ⟨z, hz⟩ : ∃ z, valid sigT f = z := ⟨_, rfl⟩
  obtain ⟨y, hy⟩ : ∃ y, fitsC ts = y := ⟨_, rfl⟩
  rw [hz] at HV hdef
  rw [hy] at HF hdef
  clear hR
  have hccb := hcb
  unfold maxLen at hccb
  have HL := Lib.hid hin
  have HTS := Lib.hid hT
  obtain ⟨k, n, ks⟩ := f
  obtain ⟨A, cap, rfl, hl, hc, hK⟩ := Lies.mk_iff.1 hin
  clear hin hT hK
  obtain ⟨bt_1, br_1, s1⟩ := blk2 (Ext.refl ((w0.alloc (.cells #[.int .i64 k, .int .i64 n, .slice A ks.length cap] 45)).alloc (.cells #[.int .i64 0, .int .i64 0, .slice none 0 0] 45)))
  have e1 : Ext w0 ((w0.alloc (.cells #[.int .i64 k, .int .i64 n, .slice A ks.length cap] 45)).alloc (.cells #[.int .i64 0, .int .i64 0, .slice none 0 0] 45)) := (((Ext.refl w0).alloc (.cells #[.int .i64 k, .int .i64 n, .slice A ks.length cap] 45)).alloc (.cells #[.int .i64 0, .int .i64 0, .slice none 0 0] 45))
  obtain ⟨w1, hw1⟩ : ∃ x, x = ((w0.alloc (.cells #[.int .i64 k, .int .i64 n, .slice A ks.length cap] 45)).alloc (.cells #[.int .i64 0, .int .i64 0, .slice none 0 0] 45)) := ⟨_, rfl⟩
  rw [← hw1] at e1 s1 bt_1 br_1
  cases z with
  | false =>
    rw [if_neg (by simp)] at hdef
    subst hdef
    clear hy hz
    go_enter Tryz.func53, Tryz.ntmps53
    go_wp2_with fail
    rw [← hw1]
    clear hw1
    refine (HV.out _ e1).mono ?_
    rintro e w2 ⟨rfl, e2⟩
    have s2 : w1.heap.size ≤ w2.heap.size := e2.size
    have bt_2 := e2.blk bt_1
    have zt0 : w2.cell? ⟨w0.heap.size, 0, none⟩ = some (.int .i64 k) := cell_of_blk bt_2 0
    have zt1 : w2.cell? ⟨w0.heap.size, 1, none⟩ = some (.int .i64 n) := cell_of_blk bt_2 1
    have zt2 : w2.cell? ⟨w0.heap.size, 2, none⟩ = some (.slice A ks.length cap) := cell_of_blk bt_2 2
    have lt := lt_of_blk bt_2
    have br_2 := e2.blk br_1
    obtain ⟨zr0, zr1, zr2, yr0, yr1, yr2⟩ := own3 br_2
    have lr := lt_of_blk br_2
    have X0_1 : Ext w0 w1 := e1
    have X0_2 : Ext w0 w2 := X0_1.trans e2
    go_wp2_with fail
    refine bodyPost_ret (v := .tuple #[.agg #[.int .i64 0, .int .i64 0, .slice none 0 0], .bool false]) (by simp [results, Tryz.results53, go_sem, zr0, zr1, zr2]) rfl ⟨_, rfl, InT.lies' (leafT _ (fun _ => True) 0 0), (((X0_2.setCell (by simp; try omega) _).setCell (by simp; try omega) _).setCell (by simp; try omega) _)⟩
  | true =>
    cases y with
    | false =>
      rw [if_neg (by simp)] at hdef
      subst hdef
      clear hy hz
      go_enter Tryz.func53, Tryz.ntmps53
      go_wp2_with fail
      rw [← hw1]
      clear hw1
      refine (HV.out _ e1).mono ?_
      rintro e w2 ⟨rfl, e2⟩
      have s2 : w1.heap.size ≤ w2.heap.size := e2.size
      have bt_2 := e2.blk bt_1
      have zt0 : w2.cell? ⟨w0.heap.size, 0, none⟩ = some (.int .i64 k) := cell_of_blk bt_2 0
      have zt1 : w2.cell? ⟨w0.heap.size, 1, none⟩ = some (.int .i64 n) := cell_of_blk bt_2 1
      have zt2 : w2.cell? ⟨w0.heap.size, 2, none⟩ = some (.slice A ks.length cap) := cell_of_blk bt_2 2
      have lt := lt_of_blk bt_2
      have br_2 := e2.blk br_1
      obtain ⟨zr0, zr1, zr2, yr0, yr1, yr2⟩ := own3 br_2
      have lr := lt_of_blk br_2
      go_wp2_with fail
      clear zt0 zt1 zt2 lt zr0 zr1 zr2 yr0 yr1 yr2 lr
      have X0_1 : Ext w0 w1 := e1
      have X0_2 : Ext w0 w2 := X0_1.trans e2
      refine (HF.out _ X0_2).mono ?_
      rintro e w3 ⟨rfl, e3⟩
      have s3 : w2.heap.size ≤ w3.heap.size := e3.size
      have bt_3 := e3.blk bt_2
      have zt0 : w3.cell? ⟨w0.heap.size, 0, none⟩ = some (.int .i64 k) := cell_of_blk bt_3 0
      have zt1 : w3.cell? ⟨w0.heap.size, 1, none⟩ = some (.int .i64 n) := cell_of_blk bt_3 1
      have zt2 : w3.cell? ⟨w0.heap.size, 2, none⟩ = some (.slice A ks.length cap) := cell_of_blk bt_3 2
      have lt := lt_of_blk bt_3
      have br_3 := e3.blk br_2
      obtain ⟨zr0, zr1, zr2, yr0, yr1, yr2⟩ := own3 br_3
      have lr := lt_of_blk br_3
      have X0_3 : Ext w0 w3 := X0_2.trans e3
      go_wp2_with fail
      refine bodyPost_ret (v := .tuple #[.agg #[.int .i64 0, .int .i64 0, .slice none 0 0], .bool false]) (by simp [results, Tryz.results53, go_sem, zr0, zr1, zr2]) rfl ⟨_, rfl, InT.lies' (leafT _ (fun _ => True) 0 0), (((X0_3.setCell (by simp; try omega) _).setCell (by simp; try omega) _).setCell (by simp; try omega) _)⟩
    | true =>
      rw [if_pos (by simp)] at hdef
      obtain ⟨hts8, htv⟩ := fitsC_parts hy
      have hcf := (valid_parts hz).2
      have HTV := Lib.hid htv
      have HDEF := Lib.hid hdef
      clear hy hz htv hdef
      go_enter Tryz.func53, Tryz.ntmps53
      go_wp2_with fail
      rw [← hw1]
      clear hw1
      refine (HV.out _ e1).mono ?_
      rintro e w2 ⟨rfl, e2⟩
      have s2 : w1.heap.size ≤ w2.heap.size := e2.size
      have bt_2 := e2.blk bt_1
      have zt0 : w2.cell? ⟨w0.heap.size, 0, none⟩ = some (.int .i64 k) := cell_of_blk bt_2 0
      have zt1 : w2.cell? ⟨w0.heap.size, 1, none⟩ = some (.int .i64 n) := cell_of_blk bt_2 1
      have zt2 : w2.cell? ⟨w0.heap.size, 2, none⟩ = some (.slice A ks.length cap) := cell_of_blk bt_2 2
      have lt := lt_of_blk bt_2
      have br_2 := e2.blk br_1
      obtain ⟨zr0, zr1, zr2, yr0, yr1, yr2⟩ := own3 br_2
      have lr := lt_of_blk br_2
      go_wp2_with fail
      clear zt0 zt1 zt2 lt zr0 zr1 zr2 yr0 yr1 yr2 lr
      have X0_1 : Ext w0 w1 := e1
      have X0_2 : Ext w0 w2 := X0_1.trans e2
      refine (HF.out _ X0_2).mono ?_
      rintro e w3 ⟨rfl, e3⟩
      have s3 : w2.heap.size ≤ w3.heap.size := e3.size
      have bt_3 := e3.blk bt_2
      have zt0 : w3.cell? ⟨w0.heap.size, 0, none⟩ = some (.int .i64 k) := cell_of_blk bt_3 0
      have zt1 : w3.cell? ⟨w0.heap.size, 1, none⟩ = some (.int .i64 n) := cell_of_blk bt_3 1
      have zt2 : w3.cell? ⟨w0.heap.size, 2, none⟩ = some (.slice A ks.length cap) := cell_of_blk bt_3 2
      have lt := lt_of_blk bt_3
      have br_3 := e3.blk br_2
      obtain ⟨zr0, zr1, zr2, yr0, yr1, yr2⟩ := own3 br_3
      have lr := lt_of_blk br_3
      go_wp2_with fail
      clear zt0 zt1 zt2 lt zr0 zr1 zr2 yr0 yr1 yr2 lr
      have X0_3 : Ext w0 w3 := X0_2.trans e3
      refine (l1Copy_any (.mk k n ks) w3 _ (HL.out.ext X0_3) (by omega)).mono ?_
      rintro e w4 ⟨u, rfl, hM, e4⟩
      have s4 : w3.heap.size ≤ w4.heap.size := e4.size
      have X0_4 : Ext w0 w4 := X0_3.trans e4
      obtain ⟨a1, a2, a3, a4, a5, rfl⟩ := hM.three'
      obtain ⟨w5, hw5⟩ : ∃ x, x = w4.alloc (.cells #[.int .i64 a1, .int .i64 a2, .slice a3 a4 a5] 45) := ⟨_, rfl⟩
      have e5 : Ext w4 w5 := hw5 ▸ (Ext.refl w4).alloc _
      have bo5 := heap_alloc_new w4 (.cells #[.int .i64 a1, .int .i64 a2, .slice a3 a4 a5] 45)
      rw [← hw5] at bo5
      have HG4 := Lib.hid (show w0.heap.size + 1 < w4.heap.size from Nat.lt_of_lt_of_le s1 (((e2.trans e3).trans e4).size))
      have hI5 : InT w5 (Off3 w0 w4.heap.size) (.mk k n ks) (.agg #[.int .i64 a1, .int .i64 a2, .slice a3 a4 a5]) := InT.mono (fun b hb => ⟨by have := hb.1; have := ((e2.trans e3)).size; omega, by have := hb.1; have := ((e2.trans e3)).size; omega, by have := hb.2; omega⟩) (fun b hb => e5.heap b hb.2) (From.made hM)
      have br4 := ((e2.trans e3).trans e4).blk br_1
      have br_4 := e4.blk br_3
      obtain ⟨zr0, zr1, zr2, yr0, yr1, yr2⟩ := own3 br_4
      have lr := lt_of_blk br_4
      go_wp2_with fail
      rw [← hw5]
      clear hw5 hM zr0 zr1 zr2 yr0 yr1 yr2 lr
      have X5 : Ext w0 w5 := X0_4.trans e5
      have br5 := e5.blk br4
      obtain ⟨g, hg⟩ : ∃ g, g = w4.heap.size := ⟨_, rfl⟩
      rw [← hg] at bo5 hI5 HG4 ⊢
      clear hg
      go_loopw [7] (fun i wr => ∃ (j : Nat) (o1 o2 : Int) (o3 : Option Addr) (o4 o5 : Nat), j ≤ ts.length ∧ i = .int .i64 j ∧ InT wr (Off3 w0 g) (appT (.mk k n ks) (ts.take j)) (.agg #[.int .i64 o1, .int .i64 o2, .slice o3 o4 o5]) ∧
        wr.heap[g]? = some (.cells #[.int .i64 o1, .int .i64 o2, .slice o3 o4 o5] 45 (0, 0)) ∧ wr.heap[w0.heap.size + 1]? = some (.cells #[.int .i64 0, .int .i64 0, .slice none 0 0] 45 (0, 0)) ∧ Ext w0 wr) (fun i _ => ts.length - (intOf i).toNat)
      case atStart => exact ⟨0, _, _, _, _, _, Nat.zero_le _, rfl, hI5, bo5, br5, X5⟩
      case round =>
        obtain ⟨j, o1, o2, o3, o4, o5, hj, rfl, hO, hbo, hbr, hx⟩ := hrel
        have HGR := Lib.hid (lt_of_blk hbo)
        have HG0 := HG4
        by_cases hlt : j < ts.length
        · have hjz : (j : Int) < (ts.length : Int) := by omega
          obtain ⟨b, o, k1, n1, A1, p1, kids1, rfl, HK1, c0, c1, c2, l1, m1, hK1, hin1, hmem1⟩ := HTS.out.get hx hlt
          have HAT := Lib.hid (show appT (.mk k n ks) (ts.take (j + 1)) = .mk 5 0 [appT (.mk k n ks) (ts.take j), .mk k1 n1 kids1] by rw [appT_take hlt, HK1.out])
          have hv1 := HTV.out _ hmem1
          have hcn1 := (valid_parts hv1).2
          have HIN1 := Lib.hid hin1
          have HOO := Lib.hid hO
          have hjw : IntKind.i64.wrap ((j : Int) + 1) = (j : Int) + 1 := IntWalk.i64_in _ ⟨by omega, by omega⟩
          obtain ⟨z0, z1, z2, y0, y1, y2⟩ := own3 hbo
          clear hin1 hO hK1 hmem1 hv1
          go_wp2_with fail
          refine wp_region_held_drew (S := fun _ => True) (by kernel_rfl) trivial (fun _ => ?_)

          have HGG := Lib.hid (show wr.drew.heap.size = wr.heap.size from rfl)
          refine Ord.wpAnyH_order (m := 8) (N := 37) (lT := #[true, true, true, true, true, true, true, true, false]) (fT := 1) (E := Ext) (G := spG [Sp.val (.agg #[.int .i64 o1, .int .i64 o2, .slice o3 o4 o5]), Sp.val (.slice (some ⟨b, o, none⟩) ts.length cb), Sp.val (.int .i64 j), Sp.val (.pointer (some ⟨b, o + j * 3, none⟩)), Sp.val (.agg #[.int .i64 k1, .int .i64 n1, .slice A1 kids1.length p1]), Sp.tree (Off3 w0 g) (.mk k1 n1 kids1), Sp.row (Off3 w0 g) [appT (.mk k n ks) (ts.take j), .mk k1 n1 kids1], Sp.tree (Off3 w0 g) (.mk 5 0 [appT (.mk k n ks) (ts.take j), .mk k1 n1 kids1])]) (by kernel_rfl) rfl (by kernel_rfl) (by kernel_rfl) (by kernel_rfl) (Ext.refl _) (fun _ _ _ h h' => h.trans h') (spG_ext _) (fun _ _ => trivial) ?steps ?fin
          case steps =>
            refine And.intro (.inr ?s0) (And.intro (.inr ?s1) (And.intro (.inr ?s2) (And.intro (.inr ?s3) (And.intro (.inr ?s4) (And.intro (.inr ?s5) (And.intro (.inr ?s6) (And.intro (.inr ?s7) trivial)))))))
            all_goals (intro a w hE hold hdep; refine Ord.step_of rfl rfl ?_; intro K hK)
            case s0 => (have f6 := slot_at (show a.eval (.tmp 6) = .pointer (some ⟨g, 0, none⟩) from hold 6 (by kernel_rfl)); have q0 := hE.cell z0; have q1 := hE.cell z1; have q2 := hE.cell z2; go_simp; exact hK _ _ ⟨_, rfl, Ext.refl _, rfl⟩)
            case s1 => (have f1 := slot_at (show a.eval (.tmp 1) = .slice (some ⟨b, o, none⟩) ts.length cb from hold 1 (by kernel_rfl)); go_simp; exact hK _ _ ⟨_, rfl, Ext.refl _, rfl⟩)
            case s2 => (have f7 := slot_at (show a.eval (.tmp 7) = .int .i64 j from hold 7 (by kernel_rfl)); go_simp; exact hK _ _ ⟨_, rfl, Ext.refl _, rfl⟩)
            case s3 => (have f26 := slot_at (show a.eval (.tmp 26) = .slice (some ⟨b, o, none⟩) ts.length cb from hdep 1 26 (by kernel_rfl)); have f27 := slot_at (show a.eval (.tmp 27) = .int .i64 j from hdep 2 27 (by kernel_rfl)); go_simp; exact hK _ _ ⟨_, rfl, Ext.refl _, rfl⟩)
            case s4 => (have f28 := slot_at (show a.eval (.tmp 28) = .pointer (some ⟨b, o + j * 3, none⟩) from hdep 3 28 (by kernel_rfl)); have q0 := hE.cell c0; have q1 := hE.cell c1; have q2 := hE.cell c2; go_simp; exact hK _ _ ⟨_, rfl, Ext.refl _, rfl⟩)
            case s5 => (have f29 := slot_at (show a.eval (.tmp 29) = .agg #[.int .i64 k1, .int .i64 n1, .slice A1 kids1.length p1] from hdep 4 29 (by kernel_rfl)); go_simp; go_at_call 96; refine (l1Copy_any (.mk k1 n1 kids1) w _ (HIN1.out.ext ((Ext.refl wr).drew.trans hE)) (by omega)).mono ?_; rintro e w' ⟨u, rfl, hM, e'⟩; exact hK _ _ ⟨u, rfl, e', hM.at' (fun b hb => ⟨by have := HGR.out; have := hE.size; have := HG0.out; have := HGG.out; omega, by have := HGR.out; have := hE.size; have := HG0.out; have := HGG.out; omega, by have := HGR.out; have := hE.size; have := HGG.out; omega⟩)⟩)
            case s6 => (have f25 := slot_at (show a.eval (.tmp 25) = .agg #[.int .i64 o1, .int .i64 o2, .slice o3 o4 o5] from hdep 0 25 (by kernel_rfl)); have h5 : InT w (Off3 w0 g) (.mk k1 n1 kids1) (a.eval (.tmp 30)) := hdep 5 30 (by kernel_rfl); obtain ⟨d1, d2, d3, d4, d5, f30⟩ := h5.three; rw [f30] at h5; replace f30 := slot_at f30; go_simp; refine hK _ _ ⟨_, rfl, (Ext.refl _).alloc _, ⟨_, 2, rfl, Nat.le_refl _, by decide, InK.news2 (InT.later HOO.out ((Ext.refl wr).drew.trans hE)) h5 ⟨by have := HGR.out; have := hE.size; have := HG0.out; have := HGG.out; omega, by have := HGR.out; have := hE.size; have := HG0.out; have := HGG.out; omega, by have := HGR.out; have := hE.size; have := HGG.out; omega⟩⟩⟩)
            case s7 => (obtain ⟨A7, c7, f31, g1, g2, g3⟩ : ∃ A c, a.eval (.tmp 31) = .slice A 2 c ∧ 2 ≤ c ∧ c ≤ maxLen ∧ InK w (Off3 w0 g) A [appT (.mk k n ks) (ts.take j), .mk k1 n1 kids1] := hdep 6 31 (by kernel_rfl); replace f31 := slot_at f31; go_simp; go_at_call 94; refine (l1Node_any w 5 A7 c7 _ (fun h => by rcases g3 with h' | ⟨b', o', h', -⟩ <;> first | (cases h'; done) | (rw [h] at h'; cases h')) (fun b => Off3 w0 g b ∧ b < w.heap.size) (fun b hb => hb.2) g3.bound (by simp)).mono ?_; rintro e w' ⟨u, rfl, hM, e'⟩; exact hK _ _ ⟨u, rfl, e', InT.mono (fun b hb => by rcases hb with hb | hb <;> first | exact hb.1 | exact ⟨by have := HGR.out; have := hE.size; have := HG0.out; have := HGG.out; have := hb.1; omega, by have := HGR.out; have := hE.size; have := HG0.out; have := HGG.out; have := hb.1; omega, by have := HGR.out; have := hE.size; have := HGG.out; have := hb.1; omega⟩) (fun _ _ => rfl) hM⟩)
          case fin =>
            intro v w' hE' hG
            have h7 : InT w' (Off3 w0 g) (.mk 5 0 [appT (.mk k n ks) (ts.take j), .mk k1 n1 kids1]) (v 7) := hG 7 (by decide) rfl
            obtain ⟨u1, u2, u3, u4, u5, hv7⟩ := h7.three
            rw [Ord.putN_all]
            simp only [Ord.putA, Ord.dstOf, List.getElem?_toArray, List.getElem?_cons_zero, List.getElem?_cons_succ, Option.bind_some, Act.put, List.setIfInBounds_toArray, List.set_cons_zero, List.set_cons_succ]
            rw [hv7] at h7 ⊢
            have HT7 := Lib.hid h7
            have EX := (Ext.refl wr).drew.trans hE'
            have hbo2 := EX.blk hbo
            have hbr2 := EX.blk hbr
            obtain ⟨x0, x1, x2, q0, q1, q2⟩ := own3 hbo2
            clear z0 z1 z2 y0 y1 y2 c0 c1 c2 hG h7 hv7
            refine wpAnyH_ready (rs := [8]) (by kernel_rfl) (by simp) ?_
            refine AllReadyH.cons rfl (fun K hK => ?_) AllReadyH.nil
            go_simp
            refine hK.out _ _ trivial (fun _ => ?_)
            clear hK K
            refine wpAnyH_done (by kernel_rfl) ?_ _
            have HB := Lib.hid (blk_setCell (blk_setCell (blk_setCell hbo2 0 (.int .i64 u1)) 1 (.int .i64 u2)) 2 (.slice u3 u4 u5))
            have HBR := Lib.hid hbr2
            clear x0 x1 x2 q0 q1 q2
            go_wp2_with fail
            go_roundw
            case rel => exact ⟨j + 1, u1, u2, u3, u4, u5, by omega, by go_num, HAT.out ▸ InT.ret (InT.mono (fun b hb => ⟨hb, hb.2.2⟩) (fun _ _ => rfl) HT7.out) _ _ _, HB.out, blk_setCell_ne (blk_setCell_ne (blk_setCell_ne HBR.out (by have := HG0.out; show w0.heap.size + 1 ≠ g; omega) _) (by have := HG0.out; show w0.heap.size + 1 ≠ g; omega) _) (by have := HG0.out; show w0.heap.size + 1 ≠ g; omega) _, (((hx.trans EX).setCell (by have := HG0.out; show w0.heap.size ≤ g; omega) _).setCell (by have := HG0.out; show w0.heap.size ≤ g; omega) _).setCell (by have := HG0.out; show w0.heap.size ≤ g; omega) _⟩
            case measure => simp [intOf]; omega
        · have hje : j = ts.length := by omega
          subst hje
          rw [List.take_length] at hO
          have hle : decide ((ts.length : Int) < (ts.length : Int)) = false := by simp
          obtain ⟨z0, z1, z2, y0, y1, y2⟩ := own3 hbo
          have hlg : g < wr.heap.size := lt_of_blk hbo
          have HMD := Lib.hid (l7MadeN_any (appT (.mk k n ks) ts) wr (Off3 w0 g) _ hO)
          obtain ⟨q, hq⟩ : ∃ q, valid sigT (appT (.mk k n ks) ts) = q := ⟨_, rfl⟩
          rw [hq] at HMD
          have HE := Lib.hid (show R = (if q = true then appT (.mk k n ks) ts else dflt0, q) from by rw [HDEF.out, hq]; cases q <;> rfl)
          clear hq
          go_wp2_with fail
          refine HMD.out.mono ?_
          rintro e w6 ⟨u, rfl, hT6, e6⟩
          obtain ⟨u1, u2, u3, u4, u5, rfl⟩ := hT6.three
          have HT6 := Lib.hid hT6
          have hx6 := hx.trans e6
          obtain ⟨x0, x1, x2, q0, q1, q2⟩ := own3 (e6.blk hbr)
          clear z0 z1 z2 y0 y1 y2 hT6 hO
          go_wp2_with fail
          rw [HE.out]
          refine bodyPost_ret (v := .tuple #[.agg #[.int .i64 u1, .int .i64 u2, .slice u3 u4 u5], .bool q]) (by simp [results, Tryz.results53, go_sem, x0, x1, x2]) rfl ⟨_, rfl, InT.lies' (InT.ret (N := fun _ => True) (InT.mono (fun b hb => ⟨trivial, hb.2.1⟩) (fun _ _ => rfl) HT6.out) _ _ _), ((hx6.setCell (by simp; try omega) _).setCell (by simp; try omega) _).setCell (by simp; try omega) _⟩
set_option maxRecDepth 100000 in
set_option maxHeartbeats 4000000 in
theorem applyAll_any (f : Tr) (ts : List Tr) (w0 : World) (v : Value) (hin : Lies w0 f v) (B : Option Addr) (cb : Nat) (hlb : ts.length ≤ cb) (hcb : cb ≤ maxLen) (hT : LiesK w0 B ts) : Calls Tryz.prog 26 #[v, .slice B ts.length cb] w0 fun e w' => ∃ u, e = .returned (.tuple #[u, .bool (aplV f ts).2]) ∧ Lies w' (aplV f ts).1 u ∧ Ext w0 w' := by
  have HV := Lib.hid (fun W (hW : Ext w0 W) => validTerm_any f W v (hin.ext hW))
  have HF := Lib.hid (fun W (hW : Ext w0 W) => areTerms_any ts W B cb hlb hcb (hT.ext hW))
  have hdef : aplV f ts = if (valid sigT f && fitsC ts) = true then (if valid sigT (appT f ts) = true then (appT f ts, true) else (dflt0, false)) else (dflt0, false) := rfl
  obtain ⟨R, hR⟩ : ∃ R, aplV f ts = R := ⟨_, rfl⟩
  rw [hR] at hdef ⊢
  obtain ⟨z, hz⟩ : ∃ z, valid sigT f = z := ⟨_, rfl⟩
  obtain ⟨y, hy⟩ : ∃ y, fitsC ts = y := ⟨_, rfl⟩
  rw [hz] at HV hdef
  rw [hy] at HF hdef
  clear hR
  have hccb := hcb
  unfold maxLen at hccb
  have HL := Lib.hid hin
  have HTS := Lib.hid hT
  obtain ⟨k, n, ks⟩ := f
  obtain ⟨A, cap, rfl, hl, hc, hK⟩ := Lies.mk_iff.1 hin
  clear hin hT hK
  obtain ⟨bt_1, br_1, s1⟩ := blk2 (Ext.refl ((w0.alloc (.cells #[.int .i64 k, .int .i64 n, .slice A ks.length cap] 45)).alloc (.cells #[.int .i64 0, .int .i64 0, .slice none 0 0] 45)))
  have e1 : Ext w0 ((w0.alloc (.cells #[.int .i64 k, .int .i64 n, .slice A ks.length cap] 45)).alloc (.cells #[.int .i64 0, .int .i64 0, .slice none 0 0] 45)) := (((Ext.refl w0).alloc (.cells #[.int .i64 k, .int .i64 n, .slice A ks.length cap] 45)).alloc (.cells #[.int .i64 0, .int .i64 0, .slice none 0 0] 45))
  obtain ⟨w1, hw1⟩ : ∃ x, x = ((w0.alloc (.cells #[.int .i64 k, .int .i64 n, .slice A ks.length cap] 45)).alloc (.cells #[.int .i64 0, .int .i64 0, .slice none 0 0] 45)) := ⟨_, rfl⟩
  rw [← hw1] at e1 s1 bt_1 br_1
  cases z with
  | false =>
    rw [if_neg (by simp)] at hdef
    subst hdef
    clear hy hz
    go_enter Tryz.func26, Tryz.ntmps26
    go_wp2_with fail
    rw [← hw1]
    clear hw1
    refine (HV.out _ e1).mono ?_
    rintro e w2 ⟨rfl, e2⟩
    have s2 : w1.heap.size ≤ w2.heap.size := e2.size
    have bt_2 := e2.blk bt_1
    have zt0 : w2.cell? ⟨w0.heap.size, 0, none⟩ = some (.int .i64 k) := cell_of_blk bt_2 0
    have zt1 : w2.cell? ⟨w0.heap.size, 1, none⟩ = some (.int .i64 n) := cell_of_blk bt_2 1
    have zt2 : w2.cell? ⟨w0.heap.size, 2, none⟩ = some (.slice A ks.length cap) := cell_of_blk bt_2 2
    have lt := lt_of_blk bt_2
    have br_2 := e2.blk br_1
    obtain ⟨zr0, zr1, zr2, yr0, yr1, yr2⟩ := own3 br_2
    have lr := lt_of_blk br_2
    have X0_1 : Ext w0 w1 := e1
    have X0_2 : Ext w0 w2 := X0_1.trans e2
    go_wp2_with fail
    refine bodyPost_ret (v := .tuple #[.agg #[.int .i64 0, .int .i64 0, .slice none 0 0], .bool false]) (by simp [results, Tryz.results26, go_sem, zr0, zr1, zr2]) rfl ⟨_, rfl, InT.lies' (leafT _ (fun _ => True) 0 0), (((X0_2.setCell (by simp; try omega) _).setCell (by simp; try omega) _).setCell (by simp; try omega) _)⟩
  | true =>
    cases y with
    | false =>
      rw [if_neg (by simp)] at hdef
      subst hdef
      clear hy hz
      go_enter Tryz.func26, Tryz.ntmps26
      go_wp2_with fail
      rw [← hw1]
      clear hw1
      refine (HV.out _ e1).mono ?_
      rintro e w2 ⟨rfl, e2⟩
      have s2 : w1.heap.size ≤ w2.heap.size := e2.size
      have bt_2 := e2.blk bt_1
      have zt0 : w2.cell? ⟨w0.heap.size, 0, none⟩ = some (.int .i64 k) := cell_of_blk bt_2 0
      have zt1 : w2.cell? ⟨w0.heap.size, 1, none⟩ = some (.int .i64 n) := cell_of_blk bt_2 1
      have zt2 : w2.cell? ⟨w0.heap.size, 2, none⟩ = some (.slice A ks.length cap) := cell_of_blk bt_2 2
      have lt := lt_of_blk bt_2
      have br_2 := e2.blk br_1
      obtain ⟨zr0, zr1, zr2, yr0, yr1, yr2⟩ := own3 br_2
      have lr := lt_of_blk br_2
      go_wp2_with fail
      clear zt0 zt1 zt2 lt zr0 zr1 zr2 yr0 yr1 yr2 lr
      have X0_1 : Ext w0 w1 := e1
      have X0_2 : Ext w0 w2 := X0_1.trans e2
      refine (HF.out _ X0_2).mono ?_
      rintro e w3 ⟨rfl, e3⟩
      have s3 : w2.heap.size ≤ w3.heap.size := e3.size
      have bt_3 := e3.blk bt_2
      have zt0 : w3.cell? ⟨w0.heap.size, 0, none⟩ = some (.int .i64 k) := cell_of_blk bt_3 0
      have zt1 : w3.cell? ⟨w0.heap.size, 1, none⟩ = some (.int .i64 n) := cell_of_blk bt_3 1
      have zt2 : w3.cell? ⟨w0.heap.size, 2, none⟩ = some (.slice A ks.length cap) := cell_of_blk bt_3 2
      have lt := lt_of_blk bt_3
      have br_3 := e3.blk br_2
      obtain ⟨zr0, zr1, zr2, yr0, yr1, yr2⟩ := own3 br_3
      have lr := lt_of_blk br_3
      have X0_3 : Ext w0 w3 := X0_2.trans e3
      go_wp2_with fail
      refine bodyPost_ret (v := .tuple #[.agg #[.int .i64 0, .int .i64 0, .slice none 0 0], .bool false]) (by simp [results, Tryz.results26, go_sem, zr0, zr1, zr2]) rfl ⟨_, rfl, InT.lies' (leafT _ (fun _ => True) 0 0), (((X0_3.setCell (by simp; try omega) _).setCell (by simp; try omega) _).setCell (by simp; try omega) _)⟩
    | true =>
      rw [if_pos (by simp)] at hdef
      obtain ⟨hts8, htv⟩ := fitsC_parts hy
      have hcf := (valid_parts hz).2
      have HTV := Lib.hid htv
      have HDEF := Lib.hid hdef
      clear hy hz htv hdef
      go_enter Tryz.func26, Tryz.ntmps26
      go_wp2_with fail
      rw [← hw1]
      clear hw1
      refine (HV.out _ e1).mono ?_
      rintro e w2 ⟨rfl, e2⟩
      have s2 : w1.heap.size ≤ w2.heap.size := e2.size
      have bt_2 := e2.blk bt_1
      have zt0 : w2.cell? ⟨w0.heap.size, 0, none⟩ = some (.int .i64 k) := cell_of_blk bt_2 0
      have zt1 : w2.cell? ⟨w0.heap.size, 1, none⟩ = some (.int .i64 n) := cell_of_blk bt_2 1
      have zt2 : w2.cell? ⟨w0.heap.size, 2, none⟩ = some (.slice A ks.length cap) := cell_of_blk bt_2 2
      have lt := lt_of_blk bt_2
      have br_2 := e2.blk br_1
      obtain ⟨zr0, zr1, zr2, yr0, yr1, yr2⟩ := own3 br_2
      have lr := lt_of_blk br_2
      go_wp2_with fail
      clear zt0 zt1 zt2 lt zr0 zr1 zr2 yr0 yr1 yr2 lr
      have X0_1 : Ext w0 w1 := e1
      have X0_2 : Ext w0 w2 := X0_1.trans e2
      refine (HF.out _ X0_2).mono ?_
      rintro e w3 ⟨rfl, e3⟩
      have s3 : w2.heap.size ≤ w3.heap.size := e3.size
      obtain ⟨w4, hw4⟩ : ∃ x, x = w3.alloc (.cells #[.int .i64 k, .int .i64 n, .slice A ks.length cap] 45) := ⟨_, rfl⟩
      have e4 : Ext w3 w4 := hw4 ▸ (Ext.refl w3).alloc _
      have bo4 := heap_alloc_new w3 (.cells #[.int .i64 k, .int .i64 n, .slice A ks.length cap] 45)
      rw [← hw4] at bo4
      have HG4 := Lib.hid (show w0.heap.size + 1 < w3.heap.size from Nat.lt_of_lt_of_le s1 ((e2.trans e3).size))
      have bt_3 := e3.blk bt_2
      have zt0 : w3.cell? ⟨w0.heap.size, 0, none⟩ = some (.int .i64 k) := cell_of_blk bt_3 0
      have zt1 : w3.cell? ⟨w0.heap.size, 1, none⟩ = some (.int .i64 n) := cell_of_blk bt_3 1
      have zt2 : w3.cell? ⟨w0.heap.size, 2, none⟩ = some (.slice A ks.length cap) := cell_of_blk bt_3 2
      have lt := lt_of_blk bt_3
      have br_3 := e3.blk br_2
      obtain ⟨zr0, zr1, zr2, yr0, yr1, yr2⟩ := own3 br_3
      have lr := lt_of_blk br_3
      go_wp2_with fail
      rw [← hw4]
      clear hw4 zt0 zt1 zt2 lt zr0 zr1 zr2 yr0 yr1 yr2 lr
      have X0_3 : Ext w0 w3 := X0_2.trans e3
      have X4 : Ext w0 w4 := X0_3.trans e4
      have br4 := e4.blk (e3.blk (e2.blk br_1))
      have hI4 : InT w4 (Off3 w0 w3.heap.size) (.mk k n ks) (.agg #[.int .i64 k, .int .i64 n, .slice A ks.length cap]) := InT.mono (fun b (hb : b < w0.heap.size) => ⟨by omega, by omega, by have := HG4.out; omega⟩) (fun b hb => X4.heap b hb) HL.out
      obtain ⟨g, hg⟩ : ∃ g, g = w3.heap.size := ⟨_, rfl⟩
      rw [← hg] at bo4 hI4 HG4 ⊢
      clear hg
      go_loopw [21] (fun i wr => ∃ (j : Nat) (o1 o2 : Int) (o3 : Option Addr) (o4 o5 : Nat), j ≤ ts.length ∧ i = .int .i64 j ∧ InT wr (Off3 w0 g) (appT (.mk k n ks) (ts.take j)) (.agg #[.int .i64 o1, .int .i64 o2, .slice o3 o4 o5]) ∧
        wr.heap[g]? = some (.cells #[.int .i64 o1, .int .i64 o2, .slice o3 o4 o5] 45 (0, 0)) ∧ wr.heap[w0.heap.size + 1]? = some (.cells #[.int .i64 0, .int .i64 0, .slice none 0 0] 45 (0, 0)) ∧ Ext w0 wr) (fun i _ => ts.length - (intOf i).toNat)
      case atStart => exact ⟨0, _, _, _, _, _, Nat.zero_le _, rfl, hI4, bo4, br4, X4⟩
      case round =>
        obtain ⟨j, o1, o2, o3, o4, o5, hj, rfl, hO, hbo, hbr, hx⟩ := hrel
        have hlg : g < wr.heap.size := lt_of_blk hbo
        by_cases hlt : j < ts.length
        · have hjz : (j : Int) < (ts.length : Int) := by omega
          obtain ⟨b, o, k1, n1, A1, p1, kids1, rfl, HK1, c0, c1, c2, l1, m1, hK1, hin1, hmem1⟩ := HTS.out.get hx hlt
          have HAT := Lib.hid (show appT (.mk k n ks) (ts.take (j + 1)) = .mk 5 0 [appT (.mk k n ks) (ts.take j), .mk k1 n1 kids1] by rw [appT_take hlt, HK1.out])
          have hin0 : InT w0 (fun b => b < w0.heap.size) (.mk k1 n1 kids1) (.agg #[.int .i64 k1, .int .i64 n1, .slice A1 kids1.length p1]) := by
            obtain ⟨b', o', k', n', A', p', kids', e', HK', d0, d1, d2, -, -, -, h', -⟩ := HTS.out.get (Ext.refl w0) hlt
            simp only [Option.some.injEq, Addr.mk.injEq, and_true] at e'
            obtain ⟨rfl, rfl⟩ := e'
            have f0 := hx.cell d0
            have f1 := hx.cell d1
            have f2 := hx.cell d2
            rw [c0] at f0
            rw [c1] at f1
            rw [c2] at f2
            have e3 := HK'.out.symm.trans HK1.out
            simp only [Tr.mk.injEq] at e3
            obtain ⟨rfl, rfl, rfl⟩ := e3
            simp only [Option.some.injEq, Value.slice.injEq, true_and] at f2
            obtain ⟨rfl, rfl⟩ := f2
            exact h'
          have EA : Ext wr (wr.alloc (.cells #[.int .i64 k1, .int .i64 n1, .slice A1 kids1.length p1] 45)) := (Ext.refl wr).alloc _
          obtain ⟨w6, hw6⟩ : ∃ x, x = wr.alloc (.cells #[.int .i64 k1, .int .i64 n1, .slice A1 kids1.length p1] 45) := ⟨_, rfl⟩
          have E6 : Ext wr w6 := hw6 ▸ (Ext.refl wr).alloc _
          have hz6 : w6.heap.size = wr.heap.size + 1 := by rw [hw6]; simp
          have E7 : Ext w6 (w6.alloc (.cells #[.int .i64 o1, .int .i64 o2, .slice o3 o4 o5, .int .i64 k1, .int .i64 n1, .slice A1 kids1.length p1] 45)) := (Ext.refl w6).alloc _
          have HROW := Lib.hid (show InK (w6.alloc (.cells #[.int .i64 o1, .int .i64 o2, .slice o3 o4 o5, .int .i64 k1, .int .i64 n1, .slice A1 kids1.length p1] 45)) (Off3 w0 g) (some ⟨w6.heap.size, 0, none⟩) [appT (.mk k n ks) (ts.take j), .mk k1 n1 kids1] from InK.news2 (hO.later E6) (InT.mono (fun b (hb : b < w0.heap.size) => ⟨by omega, by omega, by have := HG4.out; omega⟩) (fun b hb => (hx.trans E6).heap b hb) hin0) ⟨by rw [hz6]; have := HG4.out; omega, by rw [hz6]; have := HG4.out; omega, by rw [hz6]; omega⟩)
          rw [hz6] at HROW
          rw [hw6] at HROW E7
          have hjw : IntKind.i64.wrap ((j : Int) + 1) = (j : Int) + 1 := IntWalk.i64_in _ ⟨by omega, by omega⟩
          obtain ⟨z0, z1, z2, y0, y1, y2⟩ := own3 hbo
          clear hin1 hO hK1 hmem1 hw6 hz6 E6 hin0
          go_wp2_with fail
          refine (node_any _ _ _ _ _).mono ?_
          rintro e w8 ⟨rfl, e8⟩
          have EX := (EA.trans E7).trans e8
          have HT8 := Lib.hid (show InT w8 (Off3 w0 g) (.mk 5 0 [appT (.mk k n ks) (ts.take j), .mk k1 n1 kids1]) (.agg #[.int .i64 5, .int .i64 0, .slice (some ⟨wr.heap.size + 1, 0, none⟩) 2 2]) from InT.mk_iff.2 ⟨_, 2, rfl, Nat.le_refl _, by decide, HROW.out.later e8⟩)
          have hbo2 := EX.blk hbo
          have hbr2 := EX.blk hbr
          obtain ⟨x0, x1, x2, q0, q1, q2⟩ := own3 hbo2
          have HB := Lib.hid (blk_setCell (blk_setCell (blk_setCell hbo2 0 (.int .i64 5)) 1 (.int .i64 0)) 2 (.slice (some ⟨wr.heap.size + 1, 0, none⟩) 2 2))
          have HBR := Lib.hid hbr2
          clear z0 z1 z2 y0 y1 y2 c0 c1 c2 HROW hbo2 hbr2
          go_wp2_with fail
          go_roundw
          case rel => exact ⟨j + 1, 5, 0, some ⟨wr.heap.size + 1, 0, none⟩, 2, 2, by omega, by go_num, HAT.out ▸ InT.ret (InT.mono (fun b hb => ⟨hb, hb.2.2⟩) (fun _ _ => rfl) HT8.out) _ _ _, HB.out, blk_setCell_ne (blk_setCell_ne (blk_setCell_ne HBR.out (by have := HG4.out; show w0.heap.size + 1 ≠ g; omega) _) (by have := HG4.out; show w0.heap.size + 1 ≠ g; omega) _) (by have := HG4.out; show w0.heap.size + 1 ≠ g; omega) _, (((hx.trans EX).setCell (by have := HG4.out; show w0.heap.size ≤ g; omega) _).setCell (by have := HG4.out; show w0.heap.size ≤ g; omega) _).setCell (by have := HG4.out; show w0.heap.size ≤ g; omega) _⟩
          case measure => simp [intOf]; omega
        · have hje : j = ts.length := by omega
          subst hje
          rw [List.take_length] at hO
          have hle : decide ((ts.length : Int) < (ts.length : Int)) = false := by simp
          have hcn : cnt (appT (.mk k n ks) ts) ≤ 1000000 := by
            have := appT_cnt ts (.mk k n ks) fun t ht => (valid_parts (HTV.out t ht)).2
            omega
          obtain ⟨z0, z1, z2, y0, y1, y2⟩ := own3 hbo
          generalize appT (.mk k n ks) ts = T at hO hcn HDEF
          have HOW := Lib.hid (own_any T wr _ hO.lies' hcn)
          go_wp2_with fail
          refine HOW.out.mono ?_
          rintro e w6 ⟨u, rfl, hM, e6⟩
          have hT6 : InT w6 (Off3 w0 g) T u := hM.at' (fun b hb => ⟨by have := HG4.out; omega, by have := HG4.out; omega, by omega⟩)
          obtain ⟨t1, t2, t3⟩ := T
          obtain ⟨A6, c6, rfl, hl6, hc6, hK6⟩ := InT.mk_iff.1 hT6
          have HT6 := Lib.hid hT6
          obtain ⟨q, hq⟩ : ∃ q, valid sigT (.mk t1 t2 t3) = q := ⟨_, rfl⟩
          have HE := Lib.hid (show R = (if q = true then .mk t1 t2 t3 else dflt0, q) from by rw [HDEF.out, hq]; cases q <;> rfl)
          have HVD := Lib.hid (valid_any t1 t2 t3 A6 c6 w6 hT6.lies')
          rw [hq] at HVD
          have hx6 := hx.trans e6
          have hbr6 := e6.blk hbr
          clear z0 z1 z2 y0 y1 y2 hT6 hO hq hM hK6
          go_wp2_with fail
          refine HVD.out.mono ?_
          rintro e w7 ⟨he, e7⟩
          have hx7 := hx6.trans e7
          obtain ⟨x0, x1, x2, q0, q1, q2⟩ := own3 (e7.blk hbr6)
          cases q with
          | false =>
            rw [if_neg (by simp)] at he
            subst he
            go_wp2_with fail
            rw [HE.out]
            refine bodyPost_ret (v := .tuple #[.agg #[.int .i64 0, .int .i64 0, .slice none 0 0], .bool false]) (by simp [results, Tryz.results26, go_sem, x0, x1, x2]) rfl ⟨_, rfl, InT.lies' (leafT _ (fun _ => True) 0 0), ((hx7.setCell (by simp; try omega) _).setCell (by simp; try omega) _).setCell (by simp; try omega) _⟩
          | true =>
            rw [if_pos rfl] at he
            subst he
            go_wp2_with fail
            rw [HE.out]
            refine bodyPost_ret (v := .tuple #[.agg #[.int .i64 t1, .int .i64 t2, .slice A6 t3.length c6], .bool true]) (by simp [results, Tryz.results26, go_sem, x0, x1, x2]) rfl ⟨_, rfl, InT.lies' (InT.ret (N := fun _ => True) (InT.mono (fun b hb => ⟨trivial, hb.2.1⟩) (fun _ _ => rfl) (HT6.out.later e7)) _ _ _), ((hx7.setCell (by simp; try omega) _).setCell (by simp; try omega) _).setCell (by simp; try omega) _⟩
end Go.Proofs.YtolkohncmidpeaaGreatDoor

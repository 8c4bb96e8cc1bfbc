/-
  slices.ContainsFunc, slices.IndexFunc over operands; isValue, isOpen.
-/
import Derived.Test.YtappakllopkfiaaLater
import Derived.Test.YtappakllopkfiaaValid
import Derived.Test.YtappakllopkfiaaWalkValid
import Derived.Outline
namespace Go.Proofs.Ytappakllopkfiaa
open Go.RowKit
set_option linter.unusedVariables false

/-- The index of the first that meets p, or -1. -/
def firstIx (p : Tr → Bool) : List Tr → Nat → Int
  | [], _ => -1
  | t :: ts, j => if p t = true then (j : Int) else firstIx p ts (j + 1)
theorem firstIx_spec (p : Tr → Bool) : ∀ (ts : List Tr) (j : Nat), decide (0 ≤ firstIx p ts j) = ts.any p
  | [], j => by simp [firstIx]
  | t :: ts, j => by
    unfold firstIx
    cases h : p t
    · simp [h, firstIx_spec p ts (j + 1)]
    · simp [h]

/-- The closure answers p of each of the trees, in w and in every later world. -/
def Asks_isv (w : World) (ks : List Tr) (p : Tr → Bool) : Prop := ∀ t ∈ ks, ∀ w' v, Ext w w' → Lies w' t v →
  Calls Try.prog 136 #[v] w' fun e w'' => e = .returned (.bool (p t)) ∧ Ext w' w''

set_option maxHeartbeats 400000 in
theorem index_isv (p : Tr → Bool) (ks : List Tr) (w : World) (A : Option Addr) (cap : Nat) (hf : Asks_isv w  ks p) (hl : ks.length ≤ cap) (hc : cap ≤ maxLen) (h : LiesK w A ks) :
    Calls Try.prog 179 #[.slice A ks.length cap, .func (.func 136) #[] #[]] w fun e w' => e = .returned (.int .i64 (firstIx p ks 0)) ∧ Ext w w' := by
  unfold maxLen at hc
  go_enter Try.func179, Try.ntmps179
  go_wp2_with fail
  go_loopw [8] (fun i wr => ∃ j : Nat, j ≤ ks.length ∧ i = .int .i64 j ∧ firstIx p ks 0 = firstIx p (ks.drop j) j ∧ Ext w wr) (fun i _ => ks.length - (intOf i).toNat)
  case atStart => exact ⟨0, Nat.zero_le _, rfl, rfl, Ext.refl _⟩
  case round =>
    obtain ⟨j, hj, rfl, heq, hx⟩ := hrel
    have HE := Lib.hid heq
    clear heq
    by_cases hlt : j < ks.length
    · obtain ⟨b, o, k, n, A', cap', kids, rfl, HK, c0, c1, c2, hkl, hkc, hK, hin, hmem⟩ := h.get hx hlt
      have hst : firstIx p (ks.drop j) j = if p (.mk k n kids) = true then (j : Int) else firstIx p (ks.drop (j + 1)) (j + 1) := by
        rw [List.drop_eq_getElem_cons hlt, HK.out]; conv => lhs; unfold firstIx
      have HF := Lib.hid (hf _ hmem)
      clear hf
      go_wp2_with fail
      refine (HF.out wr _ hx hin).mono ?_
      rintro e w1 ⟨rfl, h1⟩
      generalize p (.mk k n kids) = r at hst
      cases r with
      | true =>
        rw [if_pos rfl] at hst
        have HT := Lib.hid hst
        clear hst
        go_wp2_with fail
        go_ret
        exact ⟨by rw [HE.out, HT.out]; rfl, hx.trans h1⟩
      | false =>
        rw [if_neg (by decide)] at hst
        have HT := Lib.hid hst
        clear hst
        go_wp2_with fail
        go_roundw
        case rel => exact ⟨j + 1, by omega, by go_num, by rw [HE.out, HT.out], hx.trans h1⟩
        case measure => simp [intOf]; omega
    · go_wp2_with fail
      go_ret
      exact ⟨by rw [HE.out, List.drop_of_length_le (by omega)]; rfl, hx⟩

theorem contains_isv (p : Tr → Bool) (ks : List Tr) (w : World) (A : Option Addr) (cap : Nat) (hf : Asks_isv w  ks p) (hl : ks.length ≤ cap) (hc : cap ≤ maxLen) (h : LiesK w A ks) :
    Calls Try.prog 133 #[.slice A ks.length cap, .func (.func 136) #[] #[]] w fun e w' => e = .returned (.bool (ks.any p)) ∧ Ext w w' := by
  have HI := Lib.hid (index_isv  p ks w A cap hf hl hc h)
  have HB := Lib.hid (firstIx_spec p ks 0)
  clear hf
  go_enter Try.func133, Try.ntmps133
  go_wp2_with fail
  refine HI.out.mono ?_
  rintro e w1 ⟨rfl, h1⟩
  go_wp2_with fail
  go_ret
  exact ⟨by rw [← HB.out]; rfl, h1⟩
/-- The closure answers p of each of the trees, in w and in every later world. -/
def Asks_iso (w : World) (p1 p2 : Nat) (ks : List Tr) (p : Tr → Bool) : Prop := ∀ t ∈ ks, ∀ w' v, Ext w w' → Lies w' t v →
  Calls Try.prog 134 #[v, .pointer (some ⟨p1, 0, none⟩), .pointer (some ⟨p2, 0, none⟩)] w' fun e w'' => e = .returned (.bool (p t)) ∧ Ext w' w''

set_option maxHeartbeats 400000 in
theorem index_iso (p1 p2 : Nat) (p : Tr → Bool) (ks : List Tr) (w : World) (A : Option Addr) (cap : Nat) (hf : Asks_iso w p1 p2 ks p) (hl : ks.length ≤ cap) (hc : cap ≤ maxLen) (h : LiesK w A ks) :
    Calls Try.prog 179 #[.slice A ks.length cap, .func (.func 134) #[] #[.pointer (some ⟨p1, 0, none⟩), .pointer (some ⟨p2, 0, none⟩)]] w fun e w' => e = .returned (.int .i64 (firstIx p ks 0)) ∧ Ext w w' := by
  unfold maxLen at hc
  go_enter Try.func179, Try.ntmps179
  go_wp2_with fail
  go_loopw [8] (fun i wr => ∃ j : Nat, j ≤ ks.length ∧ i = .int .i64 j ∧ firstIx p ks 0 = firstIx p (ks.drop j) j ∧ Ext w wr) (fun i _ => ks.length - (intOf i).toNat)
  case atStart => exact ⟨0, Nat.zero_le _, rfl, rfl, Ext.refl _⟩
  case round =>
    obtain ⟨j, hj, rfl, heq, hx⟩ := hrel
    have HE := Lib.hid heq
    clear heq
    by_cases hlt : j < ks.length
    · obtain ⟨b, o, k, n, A', cap', kids, rfl, HK, c0, c1, c2, hkl, hkc, hK, hin, hmem⟩ := h.get hx hlt
      have hst : firstIx p (ks.drop j) j = if p (.mk k n kids) = true then (j : Int) else firstIx p (ks.drop (j + 1)) (j + 1) := by
        rw [List.drop_eq_getElem_cons hlt, HK.out]; conv => lhs; unfold firstIx
      have HF := Lib.hid (hf _ hmem)
      clear hf
      go_wp2_with fail
      refine (HF.out wr _ hx hin).mono ?_
      rintro e w1 ⟨rfl, h1⟩
      generalize p (.mk k n kids) = r at hst
      cases r with
      | true =>
        rw [if_pos rfl] at hst
        have HT := Lib.hid hst
        clear hst
        go_wp2_with fail
        go_ret
        exact ⟨by rw [HE.out, HT.out]; rfl, hx.trans h1⟩
      | false =>
        rw [if_neg (by decide)] at hst
        have HT := Lib.hid hst
        clear hst
        go_wp2_with fail
        go_roundw
        case rel => exact ⟨j + 1, by omega, by go_num, by rw [HE.out, HT.out], hx.trans h1⟩
        case measure => simp [intOf]; omega
    · go_wp2_with fail
      go_ret
      exact ⟨by rw [HE.out, List.drop_of_length_le (by omega)]; rfl, hx⟩

theorem contains_iso (p1 p2 : Nat) (p : Tr → Bool) (ks : List Tr) (w : World) (A : Option Addr) (cap : Nat) (hf : Asks_iso w p1 p2 ks p) (hl : ks.length ≤ cap) (hc : cap ≤ maxLen) (h : LiesK w A ks) :
    Calls Try.prog 133 #[.slice A ks.length cap, .func (.func 134) #[] #[.pointer (some ⟨p1, 0, none⟩), .pointer (some ⟨p2, 0, none⟩)]] w fun e w' => e = .returned (.bool (ks.any p)) ∧ Ext w w' := by
  have HI := Lib.hid (index_iso p1 p2 p ks w A cap hf hl hc h)
  have HB := Lib.hid (firstIx_spec p ks 0)
  clear hf
  go_enter Try.func133, Try.ntmps133
  go_wp2_with fail
  refine HI.out.mono ?_
  rintro e w1 ⟨rfl, h1⟩
  go_wp2_with fail
  go_ret
  exact ⟨by rw [← HB.out]; rfl, h1⟩

/-! ### isValue -/
mutual
/-- A program is a value. -/
def isV : Tr → Bool
  | .mk k _ ks => k == 2 || k == 4 || k == 10 || (k == 5 || k == 7) && isVs ks
def isVs : List Tr → Bool
  | [] => true
  | t :: ts => isV t && isVs ts
end
theorem isVs_any : ∀ ks : List Tr, isVs ks = !ks.any (fun t => !isV t)
  | [] => rfl
  | t :: ts => by simp [isVs, isVs_any ts]
def IsVC (t : Tr) : Prop := ∀ (w : World) (v : Value), Lies w t v → Calls Try.prog 66 #[v] w fun e w' => e = .returned (.bool (isV t)) ∧ Ext w w'
theorem isValue1 (t : Tr) (ht : IsVC t) (w : World) (v : Value) (hin : Lies w t v) : Calls Try.prog 136 #[v] w fun e w' => e = .returned (.bool (!isV t)) ∧ Ext w w' := by
  have HV := Lib.hid (fun W (hW : Ext w W) => ht W v (hin.ext hW))
  obtain ⟨k, n, ks⟩ := t
  obtain ⟨A, cap, rfl, hl, hc, hK⟩ := Lies.mk_iff.1 hin
  go_enter Try.func136, Try.ntmps136
  go_wp2_with fail
  refine (HV.out _ ((Ext.refl w).alloc _)).mono ?_
  rintro e w1 ⟨rfl, h1⟩
  go_wp2_with fail
  go_ret
  exact ⟨rfl, h1.pre⟩
theorem isValue_any : ∀ t : Tr, IsVC t := Tr.ind fun k n ks hk => by
  intro w v hin
  obtain ⟨A, cap, rfl, hl, hc, hK⟩ := Lies.mk_iff.1 hin
  have HC := Lib.hid (fun W (hW : Ext w W) => contains_isv (fun t => !isV t) ks W A cap (fun t ht w' v hw' hv => isValue1 t (hk t ht) w' v hv) hl hc (hK.ext hW))
  have HV := Lib.hid (isVs_any ks)
  by_cases h1 : k = 2 ∨ k = 4 ∨ k = 10
  · have e : isV (.mk k n ks) = true := by rcases h1 with rfl | rfl | rfl <;> rfl
    have E := Lib.hid e
    clear e HC HV
    rcases h1 with rfl | rfl | rfl
    all_goals go_enter Try.func66, Try.ntmps66
    all_goals go_wp2_with fail
    all_goals go_ret
    all_goals exact ⟨by rw [E.out]; rfl, (Ext.refl w).alloc _⟩
  · by_cases h2 : k = 5 ∨ k = 7
    · have e : isV (.mk k n ks) = isVs ks := by rcases h2 with rfl | rfl <;> (unfold isV; simp)
      have E := Lib.hid e
      clear e h1
      rcases h2 with rfl | rfl
      all_goals go_enter Try.func66, Try.ntmps66
      all_goals go_wp2_with fail
      all_goals refine (HC.out _ ((Ext.refl w).alloc _)).mono ?_
      all_goals rintro e w1 ⟨rfl, h1⟩
      all_goals go_wp2_with fail
      all_goals go_ret
      all_goals exact ⟨by rw [E.out, HV.out]; rfl, h1.pre⟩
    · have e : isV (.mk k n ks) = false := by
        unfold isV
        rw [beq_eq_false_iff_ne.2 (by omega : k ≠ 2), beq_eq_false_iff_ne.2 (by omega : k ≠ 4), beq_eq_false_iff_ne.2 (by omega : k ≠ 10), beq_eq_false_iff_ne.2 (by omega : k ≠ 5), beq_eq_false_iff_ne.2 (by omega : k ≠ 7)]
        rfl
      have E := Lib.hid e
      have d1 : (k == 2) = false := beq_eq_false_iff_ne.2 (by omega)
      have d2 : (k == 4) = false := beq_eq_false_iff_ne.2 (by omega)
      have d3 : (k == 10) = false := beq_eq_false_iff_ne.2 (by omega)
      have d4 : (k == 5) = false := beq_eq_false_iff_ne.2 (by omega)
      have d5 : (k == 7) = false := beq_eq_false_iff_ne.2 (by omega)
      clear e HC HV h1 h2
      go_enter Try.func66, Try.ntmps66
      go_wp2_with fail
      go_ret
      exact ⟨by rw [E.out]; rfl, (Ext.refl w).alloc _⟩

/-! ### isOpen -/
mutual
/-- A program has a free variable inside of b binders. -/
def opnC : Tr → Int → Bool
  | .mk k n ks, b => (k == 1) && decide (b ≤ n) || opns ks (b + if k = 2 then 1 else 0)
def opns : List Tr → Int → Bool
  | [], _ => false
  | t :: ts, b => opnC t b || opns ts b
end
theorem opns_any : ∀ (ks : List Tr) (b : Int), opns ks b = ks.any (fun t => opnC t b)
  | [], b => rfl
  | t :: ts, b => by simp [opns, opns_any ts b]
theorem codeScope_any (k n : Int) (A : Option Addr) (l c : Nat) (w : World) : Calls Try.prog 135 #[.agg #[.int .i64 k, .int .i64 n, .slice A l c]] w fun e w' => e = .returned (.int .i64 (if k = 2 then 1 else 0)) ∧ Ext w w' := by
  by_cases h : k = 2
  · subst h
    go_enter Try.func135, Try.ntmps135
    go_wp2_with fail
    go_ret
    exact ⟨rfl, (Ext.refl w).alloc _⟩
  · have d : (k == 2) = false := beq_eq_false_iff_ne.2 h
    have E := Lib.hid h
    clear h
    go_enter Try.func135, Try.ntmps135
    go_wp2_with fail
    go_ret
    exact ⟨by first | rfl | (rw [if_neg E.out]; rfl), (Ext.refl w).alloc _⟩
def IsOC (t : Tr) : Prop := ∀ (w : World) (v : Value) (b : Int), Lies w t v → 0 ≤ b → b + cnt t < 1152921504606846976 → Calls Try.prog 64 #[v, .int .i64 b] w fun e w' => e = .returned (.bool (opnC t b)) ∧ Ext w w'
set_option maxRecDepth 100000 in
theorem isOpen1 (t : Tr) (ht : IsOC t) (w : World) (v : Value) (hin : Lies w t v) (p1 p2 : Nat) (b k n : Int) (A : Option Addr) (l c : Nat) (h1 : w.cell? ⟨p1, 0, none⟩ = some (.int .i64 b)) (h2 : w.heap[p2]? = some (.cells #[.int .i64 k, .int .i64 n, .slice A l c] 28 (0, 0))) (hb0 : 0 ≤ b) (hb1 : b + 1 + cnt t < 1152921504606846976) :
    Calls Try.prog 134 #[v, .pointer (some ⟨p1, 0, none⟩), .pointer (some ⟨p2, 0, none⟩)] w fun e w' => e = .returned (.bool (opnC t (b + if k = 2 then 1 else 0))) ∧ Ext w w' := by
  obtain ⟨z, hz⟩ : ∃ z : Int, z = if k = 2 then 1 else 0 := ⟨_, rfl⟩
  have hzb : 0 ≤ z ∧ z ≤ 1 := by rw [hz]; split <;> omega
  have hS := fun W => codeScope_any k n A l c W
  rw [← hz] at hS
  rw [← hz]
  have HS := Lib.hid hS
  have HV := Lib.hid (fun W (hW : Ext w W) => ht W v (b + z) (hin.ext hW) (by omega) (by omega))
  clear hz hS
  obtain ⟨k', n', ks'⟩ := t
  obtain ⟨A', cap, rfl, hl, hc, hK⟩ := Lies.mk_iff.1 hin
  go_enter Try.func134, Try.ntmps134
  go_wp2_with fail
  have hx := (Ext.refl w).alloc (.cells #[.int .i64 k', .int .i64 n', .slice A' ks'.length cap] 28)
  have hnew := heap_alloc_new w (.cells #[.int .i64 k', .int .i64 n', .slice A' ks'.length cap] 28)
  generalize w.alloc _ = w1 at hx hnew
  have y1 := Later.cell (hx.cell h1)
  obtain ⟨y2, y3, y4⟩ := Later.own3 (hx.blk h2)
  obtain ⟨y5, y6, y7⟩ := Later.own3 hnew
  refine wp_region_later (by kernel_rfl) (by kernel_rfl) ?_
  repeat (go_big_quiet_step (first | (go_at_call 135; exact later_of (HS.out _)) | (go_at_call 64; exact later_of (HV.out _ (hx.trans (Later.ext _))))))
  refine wpQuiet_nil ?_
  intro w3 hw'
  obtain ⟨⟨_, h3⟩, rfl⟩ := hw'
  go_wp2_with fail
  go_ret
  exact ⟨rfl, hx.trans h3⟩
theorem cnt_mem_lt {ks : List Tr} {t : Tr} {k n : Int} (h : t ∈ ks) : cnt t + 1 ≤ cnt (.mk k n ks) := by
  have := cnt_mem h
  simp only [cnt]
  omega
set_option maxRecDepth 100000 in
theorem isOpen_any : ∀ t : Tr, IsOC t := Tr.ind fun k n ks hk => by
  intro w v b hin hb0 hb1
  obtain ⟨A, cap, rfl, hl, hc, hK⟩ := Lies.mk_iff.1 hin
  have HC := Lib.hid (fun (W : World) (p1 p2 : Nat) (hW : Ext w W) (q1 : W.cell? ⟨p1, 0, none⟩ = some (.int .i64 b)) (q2 : W.heap[p2]? = some (.cells #[.int .i64 k, .int .i64 n, .slice A ks.length cap] 28 (0, 0))) =>
    contains_iso p1 p2 (fun t => opnC t (b + if k = 2 then 1 else 0)) ks W A cap (fun t ht w' v hw' hv => isOpen1 t (hk t ht) w' v hv p1 p2 b k n A ks.length cap (hw'.cell q1) (hw'.blk q2) hb0 (by have := cnt_mem_lt (k := k) (n := n) ht; omega)) hl hc (hK.ext hW))
  have HV := Lib.hid (opns_any ks (b + if k = 2 then 1 else 0))
  have he : opnC (.mk k n ks) b = ((k == 1) && decide (b ≤ n) || opns ks (b + if k = 2 then 1 else 0)) := by conv => lhs; unfold opnC
  have key : ∀ (hz : ((k == 1) && decide (b ≤ n)) = false), opnC (.mk k n ks) b = ks.any (fun t => opnC t (b + if k = 2 then 1 else 0)) := by
    intro hz
    rw [he, hz, HV.out]
    rfl
  obtain ⟨r, hr⟩ : ∃ r, r = ks.any (fun t => opnC t (b + if k = 2 then 1 else 0)) := ⟨_, rfl⟩
  rw [← hr] at key
  have KEY := Lib.hid key
  have hxx := ((Ext.refl w).alloc (.cells #[.int .i64 k, .int .i64 n, .slice A ks.length cap] 28)).alloc (.cells #[.int .i64 b] 3)
  obtain ⟨hq2, hq1, -⟩ := blk2 (Ext.refl ((w.alloc (.cells #[.int .i64 k, .int .i64 n, .slice A ks.length cap] 28)).alloc (.cells #[.int .i64 b] 3)))
  have hQ := HC.out _ _ _ hxx (cell_of_blk hq1 0) hq2
  rw [← hr] at hQ
  have HQ := Lib.hid hQ
  clear key hq1 hq2 HC hQ hr HV
  by_cases h1 : k = 1
  · by_cases h2 : b ≤ n
    · have d2 : decide (b ≤ n) = true := decide_eq_true h2
      have E : Hid (opnC (.mk k n ks) b = true) := Lib.hid (by rw [he, h1, d2]; rfl)
      clear he KEY HQ
      subst h1
      go_enter Try.func64, Try.ntmps64
      go_wp2_with fail
      go_ret
      exact ⟨by rw [E.out]; rfl, ((Ext.refl w).alloc _).alloc _⟩
    · have d2 : decide (b ≤ n) = false := decide_eq_false h2
      have E := Lib.hid (KEY.out (by rw [d2, Bool.and_false]))
      clear he KEY
      subst h1
      go_enter Try.func64, Try.ntmps64
      go_wp2_with fail
      refine HQ.out.mono ?_
      rintro e w1 ⟨rfl, h3⟩
      go_wp2_with fail
      go_ret
      exact ⟨by rw [E.out]; rfl, hxx.trans h3⟩
  · have d1 : (k == 1) = false := beq_eq_false_iff_ne.2 h1
    have E := Lib.hid (KEY.out (by rw [d1, Bool.false_and]))
    clear he KEY h1
    go_enter Try.func64, Try.ntmps64
    go_wp2_with fail
    refine HQ.out.mono ?_
    rintro e w1 ⟨rfl, h3⟩
    go_wp2_with fail
    go_ret
    exact ⟨by rw [E.out]; rfl, hxx.trans h3⟩
end Go.Proofs.Ytappakllopkfiaa

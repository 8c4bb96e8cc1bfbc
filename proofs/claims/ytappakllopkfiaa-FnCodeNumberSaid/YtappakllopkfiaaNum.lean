/-
  CodeNumber, NumeralValue: how often a successor stands around zero.
-/
import Derived.Test.YtappakllopkfiaaSpecValid
import Derived.Deep.LoopGhost
namespace Go.Proofs.Ytappakllopkfiaa
open Go.RowKit
set_option linter.unusedVariables false

/-- From a node on: the number that has been counted, where zero is met. -/
def numR (s z : Int) : Tr → Int → Int × Bool
  | .mk k _ (t :: _), m => if k = s then numR s z t (m + 1) else if k = z ∧ m ≤ 20 then (m, true) else (0, false)
  | .mk k _ [], m => if k = z ∧ m ≤ 20 then (m, true) else (0, false)
def numV (g : Sig) (s z : Int) (t : Tr) : Int × Bool := if valid g t then numR s z t 0 else (0, false)

set_option maxHeartbeats 1000000 in
theorem numCode (t : Tr) (w : World) (v : Value) (hin : Lies w t v) : Calls Try.prog 25 #[v] w fun e w' => e = .returned (.tuple #[.int .i64 (numV sigC 5 4 t).1, .bool (numV sigC 5 4 t).2]) ∧ Ext w w' := by
  have hV := fun W (hW : Ext w W) => validCode_any t W v (hin.ext hW)
  have HS := Lib.hid hV
  clear hV
  obtain ⟨s, hs⟩ : ∃ s, valid sigC t = s := ⟨_, rfl⟩
  rw [hs] at HS
  have hn : numV sigC 5 4 t = if s then numR 5 4 t 0 else (0, false) := by unfold numV; rw [hs]
  obtain ⟨k, n, ks⟩ := t
  obtain ⟨A, cap, rfl, hl, hc, h⟩ := Lies.mk_iff.1 hin
  clear hin
  cases s with
  | false =>
    rw [if_neg (by decide)] at hn
    have HN := Lib.hid hn
    clear hn hs
    go_enter Try.func25, Try.ntmps25
    go_wp2_with fail
    refine (HS.out _ ((Ext.refl w).alloc _)).mono ?_
    rintro e w1 ⟨rfl, h1⟩
    go_wp2_with fail
    go_ret2
    exact ⟨by rw [HN.out]; rfl, h1.pre⟩
  | true =>
    rw [if_pos rfl] at hn
    have HN := Lib.hid hn
    unfold valid at hs
    rw [Bool.and_eq_true] at hs
    have hsh := hs.1
    have hct := of_decide_eq_true hs.2
    have HSH := Lib.hid hsh
    clear hn hs hsh
    go_enter Try.func25, Try.ntmps25
    go_wp2_with fail
    refine (HS.out _ ((Ext.refl w).alloc _)).mono ?_
    rintro e w1 ⟨rfl, h1⟩
    have hb1 := h1.newBlk
    have HB := Lib.hid hb1
    have hx1 := h1.pre
    clear hb1 h1
    go_wp2_with fail
    go_loopg [4] (cnt (.mk k n ks)) (fun q i wr => ∃ (k1 n1 : Int) (A1 : Option Addr) (cap1 : Nat) (ks1 : List Tr) (m d : Int), q = cnt (.mk k1 n1 ks1) ∧ i = .int .i64 m ∧ wr.heap[w.heap.size]? = some (.cells #[.int .i64 k1, .int .i64 n1, .slice A1 ks1.length cap1] 28 (0, 0)) ∧
      LiesK w A1 ks1 ∧ shape sigC (.mk k1 n1 ks1) d = true ∧ numR 5 4 (.mk k n ks) 0 = numR 5 4 (.mk k1 n1 ks1) m ∧ 0 ≤ m ∧ m + cnt (.mk k1 n1 ks1) ≤ 400 ∧ Ext w wr)
    case atStart => exact ⟨k, n, A, cap, ks, 0, 30, rfl, rfl, HB.out, h, HSH.out, rfl, by omega, by omega, hx1⟩
    case round =>
      obtain ⟨k1, n1, A1, cap1, ks1, m, d, rfl, rfl, hblk, hK, hsh, heq, hm0, hm1, hx⟩ := hrel
      obtain ⟨z0, z1, z2, o0, o1, o2⟩ := own3 hblk
      have HE := Lib.hid heq
      have HSH1 := Lib.hid hsh
      have HB1 := Lib.hid hblk
      clear hblk heq hsh
      by_cases hk5 : k1 = 5
      · subst hk5
        have hlen : ks1.length = 1 := by
          have := HSH1.out
          unfold shape headOk at this
          simp only [Bool.and_eq_true, decide_eq_true_eq] at this
          have h2 := this.2.1.1
          have h3 : opsC 5 = 1 := by decide
          have h4 : (sigC).ops 5 = opsC 5 := rfl
          omega
        obtain ⟨t2, ht2⟩ : ∃ t2, ks1 = [t2] := by
          match ks1, hlen with
          | [t2], _ => exact ⟨t2, rfl⟩
        subst ht2
        obtain ⟨b, o, k2, n2, A2, cap2, kids, rfl, HK, c0, c1, c2, hkl, hkc, hK2, hin2, hmem⟩ := hK.get hx (j := 0) (by simp)
        have hlt0 := World.block_lt_of_cell? _ _ c0
        obtain ⟨b', o', k2', n2', A2', cap2', kids', e1, HK', d0, d1, d2, -, -, hKw, -, -⟩ := hK.get (Ext.refl w) (j := 0) (by simp)
        injection e1 with e1
        injection e1 with e1 e2
        subst e1
        subst e2
        have hb0 : b < w.heap.size := World.block_lt_of_cell? _ _ d0
        have ht : t2 = .mk k2 n2 kids := HK.out
        have ht' : t2 = .mk k2' n2' kids' := HK'.out
        rw [ht] at ht'
        injection ht' with p1 p2 p3
        subst p1
        subst p2
        subst p3
        have hAc : A2' = A2 ∧ cap2' = cap2 := by
          have := (hx.cell d2).symm.trans c2
          simp only [Option.some.injEq, Value.slice.injEq] at this
          exact ⟨this.1, this.2.2⟩
        obtain ⟨rfl, rfl⟩ := hAc
        subst ht
        simp only [Nat.zero_mul, Nat.add_zero] at c0 c1 c2
        have hst : numR 5 4 (.mk 5 n1 [.mk k2 n2 kids]) m = numR 5 4 (.mk k2 n2 kids) (m + 1) := by conv => lhs; unfold numR; rw [if_pos rfl]
        have HT := Lib.hid hst
        have hcnt : cnt (.mk 5 n1 [.mk k2 n2 kids]) = cnt (.mk k2 n2 kids) + 1 := by simp [cnt, cnts]
        have hsh2 : shape sigC (.mk k2 n2 kids) (d - 1) = true := by
          have := HSH1.out
          unfold shape at this
          simp only [Bool.and_eq_true, shapes] at this
          exact this.2.2.1
        have HSH2 := Lib.hid hsh2
        clear hst hsh2 hK hin2 d0 d1 d2 hmem
        have hne : b ≠ w.heap.size := Nat.ne_of_lt hb0
        go_wp2_with fail
        go_roundg (cnt (.mk k2 n2 kids))
        case rel =>
          refine ⟨k2, n2, A2', cap2', kids, m + 1, d - 1, rfl, by go_num, ?_, hKw, HSH2.out, by rw [HE.out, HT.out], by omega, by omega, ((hx.setCell (Nat.le_refl _) _).setCell (Nat.le_refl _) _).setCell (Nat.le_refl _) _⟩
          exact blk_setCell (blk_setCell (blk_setCell HB1.out 0 _) 1 _) 2 _
        case measure => omega
      · have hst : numR 5 4 (.mk k1 n1 ks1) m = if k1 = 4 ∧ m ≤ 20 then (m, true) else (0, false) := by
          cases ks1
          · conv => lhs; unfold numR
          · conv => lhs; unfold numR; rw [if_neg hk5]
        have d5 : (k1 == 5) = false := by simpa using hk5
        by_cases hk4 : k1 = 4
        · have d4 : (k1 != 4) = false := by simp [hk4]
          by_cases hm : m ≤ 20
          · rw [if_pos ⟨hk4, hm⟩] at hst
            have HT := Lib.hid hst
            have dm : decide (20 < m) = false := decide_eq_false (by omega)
            clear hst hk4 hk5
            go_wp2_with fail
            go_ret2
            exact ⟨by rw [HN.out, HE.out, HT.out]; rfl, hx⟩
          · rw [if_neg (fun h => hm h.2)] at hst
            have HT := Lib.hid hst
            have dm : decide (20 < m) = true := decide_eq_true (by omega)
            clear hst hk4 hk5
            go_wp2_with fail
            go_ret2
            exact ⟨by rw [HN.out, HE.out, HT.out]; rfl, hx⟩
        · rw [if_neg (fun h => hk4 h.1)] at hst
          have HT := Lib.hid hst
          have d4 : (k1 != 4) = true := by rw [bne_iff_ne]; exact hk4
          clear hst hk4 hk5
          go_wp2_with fail
          go_ret2
          exact ⟨by rw [HN.out, HE.out, HT.out]; rfl, hx⟩
set_option maxHeartbeats 1000000 in
theorem specnumCode (t : Tr) (w : World) (v : Value) (hin : Lies w t v) : Calls Try.prog 26 #[v] w fun e w' => e = .returned (.tuple #[.int .i64 (numV sigC 5 4 t).1, .bool (numV sigC 5 4 t).2]) ∧ Ext w w' := by
  have hV := fun W (hW : Ext w W) => specValidCode t W v (hin.ext hW)
  have HS := Lib.hid hV
  clear hV
  obtain ⟨s, hs⟩ : ∃ s, valid sigC t = s := ⟨_, rfl⟩
  rw [hs] at HS
  have hn : numV sigC 5 4 t = if s then numR 5 4 t 0 else (0, false) := by unfold numV; rw [hs]
  obtain ⟨k, n, ks⟩ := t
  obtain ⟨A, cap, rfl, hl, hc, h⟩ := Lies.mk_iff.1 hin
  clear hin
  cases s with
  | false =>
    rw [if_neg (by decide)] at hn
    have HN := Lib.hid hn
    clear hn hs
    go_enter Try.func26, Try.ntmps26
    go_wp2_with fail
    refine (HS.out _ ((Ext.refl w).alloc _)).mono ?_
    rintro e w1 ⟨rfl, h1⟩
    go_wp2_with fail
    go_ret2
    exact ⟨by rw [HN.out]; rfl, h1.pre⟩
  | true =>
    rw [if_pos rfl] at hn
    have HN := Lib.hid hn
    unfold valid at hs
    rw [Bool.and_eq_true] at hs
    have hsh := hs.1
    have hct := of_decide_eq_true hs.2
    have HSH := Lib.hid hsh
    clear hn hs hsh
    go_enter Try.func26, Try.ntmps26
    go_wp2_with fail
    refine (HS.out _ ((Ext.refl w).alloc _)).mono ?_
    rintro e w1 ⟨rfl, h1⟩
    have hb1 := h1.newBlk
    have HB := Lib.hid hb1
    have hx1 := h1.pre
    clear hb1 h1
    go_wp2_with fail
    go_loopg [4] (cnt (.mk k n ks)) (fun q i wr => ∃ (k1 n1 : Int) (A1 : Option Addr) (cap1 : Nat) (ks1 : List Tr) (m d : Int), q = cnt (.mk k1 n1 ks1) ∧ i = .int .i64 m ∧ wr.heap[w.heap.size]? = some (.cells #[.int .i64 k1, .int .i64 n1, .slice A1 ks1.length cap1] 28 (0, 0)) ∧
      LiesK w A1 ks1 ∧ shape sigC (.mk k1 n1 ks1) d = true ∧ numR 5 4 (.mk k n ks) 0 = numR 5 4 (.mk k1 n1 ks1) m ∧ 0 ≤ m ∧ m + cnt (.mk k1 n1 ks1) ≤ 400 ∧ Ext w wr)
    case atStart => exact ⟨k, n, A, cap, ks, 0, 30, rfl, rfl, HB.out, h, HSH.out, rfl, by omega, by omega, hx1⟩
    case round =>
      obtain ⟨k1, n1, A1, cap1, ks1, m, d, rfl, rfl, hblk, hK, hsh, heq, hm0, hm1, hx⟩ := hrel
      obtain ⟨z0, z1, z2, o0, o1, o2⟩ := own3 hblk
      have HE := Lib.hid heq
      have HSH1 := Lib.hid hsh
      have HB1 := Lib.hid hblk
      clear hblk heq hsh
      by_cases hk5 : k1 = 5
      · subst hk5
        have hlen : ks1.length = 1 := by
          have := HSH1.out
          unfold shape headOk at this
          simp only [Bool.and_eq_true, decide_eq_true_eq] at this
          have h2 := this.2.1.1
          have h3 : opsC 5 = 1 := by decide
          have h4 : (sigC).ops 5 = opsC 5 := rfl
          omega
        obtain ⟨t2, ht2⟩ : ∃ t2, ks1 = [t2] := by
          match ks1, hlen with
          | [t2], _ => exact ⟨t2, rfl⟩
        subst ht2
        obtain ⟨b, o, k2, n2, A2, cap2, kids, rfl, HK, c0, c1, c2, hkl, hkc, hK2, hin2, hmem⟩ := hK.get hx (j := 0) (by simp)
        have hlt0 := World.block_lt_of_cell? _ _ c0
        obtain ⟨b', o', k2', n2', A2', cap2', kids', e1, HK', d0, d1, d2, -, -, hKw, -, -⟩ := hK.get (Ext.refl w) (j := 0) (by simp)
        injection e1 with e1
        injection e1 with e1 e2
        subst e1
        subst e2
        have hb0 : b < w.heap.size := World.block_lt_of_cell? _ _ d0
        have ht : t2 = .mk k2 n2 kids := HK.out
        have ht' : t2 = .mk k2' n2' kids' := HK'.out
        rw [ht] at ht'
        injection ht' with p1 p2 p3
        subst p1
        subst p2
        subst p3
        have hAc : A2' = A2 ∧ cap2' = cap2 := by
          have := (hx.cell d2).symm.trans c2
          simp only [Option.some.injEq, Value.slice.injEq] at this
          exact ⟨this.1, this.2.2⟩
        obtain ⟨rfl, rfl⟩ := hAc
        subst ht
        simp only [Nat.zero_mul, Nat.add_zero] at c0 c1 c2
        have hst : numR 5 4 (.mk 5 n1 [.mk k2 n2 kids]) m = numR 5 4 (.mk k2 n2 kids) (m + 1) := by conv => lhs; unfold numR; rw [if_pos rfl]
        have HT := Lib.hid hst
        have hcnt : cnt (.mk 5 n1 [.mk k2 n2 kids]) = cnt (.mk k2 n2 kids) + 1 := by simp [cnt, cnts]
        have hsh2 : shape sigC (.mk k2 n2 kids) (d - 1) = true := by
          have := HSH1.out
          unfold shape at this
          simp only [Bool.and_eq_true, shapes] at this
          exact this.2.2.1
        have HSH2 := Lib.hid hsh2
        clear hst hsh2 hK hin2 d0 d1 d2 hmem
        have hne : b ≠ w.heap.size := Nat.ne_of_lt hb0
        go_wp2_with fail
        go_roundg (cnt (.mk k2 n2 kids))
        case rel =>
          refine ⟨k2, n2, A2', cap2', kids, m + 1, d - 1, rfl, by go_num, ?_, hKw, HSH2.out, by rw [HE.out, HT.out], by omega, by omega, ((hx.setCell (Nat.le_refl _) _).setCell (Nat.le_refl _) _).setCell (Nat.le_refl _) _⟩
          exact blk_setCell (blk_setCell (blk_setCell HB1.out 0 _) 1 _) 2 _
        case measure => omega
      · have hst : numR 5 4 (.mk k1 n1 ks1) m = if k1 = 4 ∧ m ≤ 20 then (m, true) else (0, false) := by
          cases ks1
          · conv => lhs; unfold numR
          · conv => lhs; unfold numR; rw [if_neg hk5]
        have d5 : (k1 == 5) = false := by simpa using hk5
        by_cases hk4 : k1 = 4
        · have d4 : (k1 != 4) = false := by simp [hk4]
          by_cases hm : m ≤ 20
          · rw [if_pos ⟨hk4, hm⟩] at hst
            have HT := Lib.hid hst
            have dm : decide (20 < m) = false := decide_eq_false (by omega)
            clear hst hk4 hk5
            go_wp2_with fail
            go_ret2
            exact ⟨by rw [HN.out, HE.out, HT.out]; rfl, hx⟩
          · rw [if_neg (fun h => hm h.2)] at hst
            have HT := Lib.hid hst
            have dm : decide (20 < m) = true := decide_eq_true (by omega)
            clear hst hk4 hk5
            go_wp2_with fail
            go_ret2
            exact ⟨by rw [HN.out, HE.out, HT.out]; rfl, hx⟩
        · rw [if_neg (fun h => hk4 h.1)] at hst
          have HT := Lib.hid hst
          have d4 : (k1 != 4) = true := by rw [bne_iff_ne]; exact hk4
          clear hst hk4 hk5
          go_wp2_with fail
          go_ret2
          exact ⟨by rw [HN.out, HE.out, HT.out]; rfl, hx⟩
end Go.Proofs.Ytappakllopkfiaa

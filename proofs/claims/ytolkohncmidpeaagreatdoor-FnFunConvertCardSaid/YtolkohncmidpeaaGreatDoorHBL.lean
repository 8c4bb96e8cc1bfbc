/-
  Lemmas towards the law, 38: Num, Mutate, Nat, DrawX.
-/
import Derived.Test.YtolkohncmidpeaaGreatDoorHAE
import Derived.Test.YtolkohncmidpeaaGreatDoorHAN
import Derived.Test.YtolkohncmidpeaaGreatDoorHAQ
import Derived.Test.YtolkohncmidpeaaGreatDoorHAR
import Derived.Test.YtolkohncmidpeaaGreatDoorHAW
import Derived.Test.YtolkohncmidpeaaGreatDoorHBB
import Derived.Deep.LoopGhost
import Derived.Deep.RegionHeld3
namespace Go.Proofs.YtolkohncmidpeaaGreatDoor
open Go.RowKit
set_option linter.unusedVariables false
/-- From a node on: the number that has been counted, where zero is met. -/
def numR (s z : Int) : Tr → Int → Int × Bool
  | .mk k _ (t :: _), m => if k = s then numR s z t (m + 1) else if k = z ∧ m ≤ 20 then (m, true) else (0, false)
  | .mk k _ [], m => if k = z ∧ m ≤ 20 then (m, true) else (0, false)
def numV (g : Sig) (s z : Int) (t : Tr) : Int × Bool := if valid g t then numR s z t 0 else (0, false)
set_option maxHeartbeats 1000000 in
theorem numTerm (t : Tr) (w : World) (v : Value) (hin : Lies w t v) : Calls Tryz.prog 60 #[v] w fun e w' => e = .returned (.tuple #[.int .i64 (numV sigT 8 7 t).1, .bool (numV sigT 8 7 t).2]) ∧ Ext w w' := by
  have hV := fun W (hW : Ext w W) => validTerm_any t W v (hin.ext hW)
  have HS := Lib.hid hV
  clear hV
  obtain ⟨s, hs⟩ : ∃ s, valid sigT t = s := ⟨_, rfl⟩
  rw [hs] at HS
  have hn : numV sigT 8 7 t = if s then numR 8 7 t 0 else (0, false) := by unfold numV; rw [hs]
  obtain ⟨k, n, ks⟩ := t
  obtain ⟨A, cap, rfl, hl, hc, h⟩ := Lies.mk_iff.1 hin
  clear hin
  cases s with
  | false =>
    rw [if_neg (by decide)] at hn
    have HN := Lib.hid hn
    clear hn hs
    go_enter Tryz.func60, Tryz.ntmps60
    go_wp2_with fail
    refine (HS.out _ ((Ext.refl w).alloc _)).mono ?_
    rintro e w1 ⟨rfl, h1⟩
    go_wp2_with fail
    go_ret2
    exact ⟨by rw [HN.out]; rfl, h1.pre⟩
  | true =>
    rw [if_pos rfl] at hn
    have HN := Lib.hid hn
    unfold valid at hs
    rw [Bool.and_eq_true] at hs
    have hsh := hs.1
    have hct := of_decide_eq_true hs.2
    have HSH := Lib.hid hsh
    clear hn hs hsh
    go_enter Tryz.func60, Tryz.ntmps60
    go_wp2_with fail
    refine (HS.out _ ((Ext.refl w).alloc _)).mono ?_
    rintro e w1 ⟨rfl, h1⟩
    have hb1 := h1.newBlk
    have HB := Lib.hid hb1
    have hx1 := h1.pre
    clear hb1 h1
    go_wp2_with fail
    go_loopg [4] (cnt (.mk k n ks)) (fun q i wr => ∃ (k1 n1 : Int) (A1 : Option Addr) (cap1 : Nat) (ks1 : List Tr) (m d : Int), q = cnt (.mk k1 n1 ks1) ∧ i = .int .i64 m ∧ wr.heap[w.heap.size]? = some (.cells #[.int .i64 k1, .int .i64 n1, .slice A1 ks1.length cap1] 45 (0, 0)) ∧
      LiesK w A1 ks1 ∧ shape sigT (.mk k1 n1 ks1) d = true ∧ numR 8 7 (.mk k n ks) 0 = numR 8 7 (.mk k1 n1 ks1) m ∧ 0 ≤ m ∧ m + cnt (.mk k1 n1 ks1) ≤ 400 ∧ Ext w wr)
    case atStart => exact ⟨k, n, A, cap, ks, 0, 30, rfl, rfl, HB.out, h, HSH.out, rfl, by omega, by omega, hx1⟩
    case round =>
      obtain ⟨k1, n1, A1, cap1, ks1, m, d, rfl, rfl, hblk, hK, hsh, heq, hm0, hm1, hx⟩ := hrel
      obtain ⟨z0, z1, z2, o0, o1, o2⟩ := own3 hblk
      have HE := Lib.hid heq
      have HSH1 := Lib.hid hsh
      have HB1 := Lib.hid hblk
      clear hblk heq hsh
      by_cases hk5 : k1 = 8
      · subst hk5
        have hlen : ks1.length = 1 := by
          have := HSH1.out
          unfold shape headOk at this
          simp only [Bool.and_eq_true, decide_eq_true_eq] at this
          have h2 := this.2.1.1
          have h3 : opsT 8 = 1 := by decide
          have h4 : (sigT).ops 8 = opsT 8 := rfl
          omega
        obtain ⟨t2, ht2⟩ : ∃ t2, ks1 = [t2] := by
          match ks1, hlen with
          | [t2], _ => exact ⟨t2, rfl⟩
        subst ht2
        obtain ⟨b, o, k2, n2, A2, cap2, kids, rfl, HK, c0, c1, c2, hkl, hkc, hK2, hin2, hmem⟩ := hK.get hx (j := 0) (by simp)
        have hlt0 := World.block_lt_of_cell? _ _ c0
        obtain ⟨b', o', k2', n2', A2', cap2', kids', e1, HK', d0, d1, d2, -, -, hKw, -, -⟩ := hK.get (Ext.refl w) (j := 0) (by simp)
        injection e1 with e1
        injection e1 with e1 e2
        subst e1
        subst e2
        have hb0 : b < w.heap.size := World.block_lt_of_cell? _ _ d0
        have ht : t2 = .mk k2 n2 kids := HK.out
        have ht' : t2 = .mk k2' n2' kids' := HK'.out
        rw [ht] at ht'
        injection ht' with p1 p2 p3
        subst p1
        subst p2
        subst p3
        have hAc : A2' = A2 ∧ cap2' = cap2 := by
          have := (hx.cell d2).symm.trans c2
          simp only [Option.some.injEq, Value.slice.injEq] at this
          exact ⟨this.1, this.2.2⟩
        obtain ⟨rfl, rfl⟩ := hAc
        subst ht
        simp only [Nat.zero_mul, Nat.add_zero] at c0 c1 c2
        have hst : numR 8 7 (.mk 8 n1 [.mk k2 n2 kids]) m = numR 8 7 (.mk k2 n2 kids) (m + 1) := by conv => lhs; unfold numR; rw [if_pos rfl]
        have HT := Lib.hid hst
        have hcnt : cnt (.mk 8 n1 [.mk k2 n2 kids]) = cnt (.mk k2 n2 kids) + 1 := by simp [cnt, cnts]
        have hsh2 : shape sigT (.mk k2 n2 kids) (d - 1) = true := by
          have := HSH1.out
          unfold shape at this
          simp only [Bool.and_eq_true, shapes] at this
          exact this.2.2.1
        have HSH2 := Lib.hid hsh2
        clear hst hsh2 hK hin2 d0 d1 d2 hmem
        have hne : b ≠ w.heap.size := Nat.ne_of_lt hb0
        go_wp2_with fail
        go_roundg (cnt (.mk k2 n2 kids))
        case rel =>
          refine ⟨k2, n2, A2', cap2', kids, m + 1, d - 1, rfl, by go_num, ?_, hKw, HSH2.out, by rw [HE.out, HT.out], by omega, by omega, ((hx.setCell (Nat.le_refl _) _).setCell (Nat.le_refl _) _).setCell (Nat.le_refl _) _⟩
          exact blk_setCell (blk_setCell (blk_setCell HB1.out 0 _) 1 _) 2 _
        case measure => omega
      · have hst : numR 8 7 (.mk k1 n1 ks1) m = if k1 = 7 ∧ m ≤ 20 then (m, true) else (0, false) := by
          cases ks1
          · conv => lhs; unfold numR
          · conv => lhs; unfold numR; rw [if_neg hk5]
        have d5 : (k1 == 8) = false := by simpa using hk5
        by_cases hk4 : k1 = 7
        · have d4 : (k1 != 7) = false := by simp [hk4]
          by_cases hm : m ≤ 20
          · rw [if_pos ⟨hk4, hm⟩] at hst
            have HT := Lib.hid hst
            have dm : decide (20 < m) = false := decide_eq_false (by omega)
            clear hst hk4 hk5
            go_wp2_with fail
            go_ret2
            exact ⟨by rw [HN.out, HE.out, HT.out]; rfl, hx⟩
          · rw [if_neg (fun h => hm h.2)] at hst
            have HT := Lib.hid hst
            have dm : decide (20 < m) = true := decide_eq_true (by omega)
            clear hst hk4 hk5
            go_wp2_with fail
            go_ret2
            exact ⟨by rw [HN.out, HE.out, HT.out]; rfl, hx⟩
        · rw [if_neg (fun h => hk4 h.1)] at hst
          have HT := Lib.hid hst
          have d4 : (k1 != 7) = true := by rw [bne_iff_ne]; exact hk4
          clear hst hk4 hk5
          go_wp2_with fail
          go_ret2
          exact ⟨by rw [HN.out, HE.out, HT.out]; rfl, hx⟩
set_option maxHeartbeats 1000000 in
theorem specnumTerm (t : Tr) (w : World) (v : Value) (hin : Lies w t v) : Calls Tryz.prog 55 #[v] w fun e w' => e = .returned (.tuple #[.int .i64 (numV sigT 8 7 t).1, .bool (numV sigT 8 7 t).2]) ∧ Ext w w' := by
  have hV := fun W (hW : Ext w W) => specValidTerm t W v (hin.ext hW)
  have HS := Lib.hid hV
  clear hV
  obtain ⟨s, hs⟩ : ∃ s, valid sigT t = s := ⟨_, rfl⟩
  rw [hs] at HS
  have hn : numV sigT 8 7 t = if s then numR 8 7 t 0 else (0, false) := by unfold numV; rw [hs]
  obtain ⟨k, n, ks⟩ := t
  obtain ⟨A, cap, rfl, hl, hc, h⟩ := Lies.mk_iff.1 hin
  clear hin
  cases s with
  | false =>
    rw [if_neg (by decide)] at hn
    have HN := Lib.hid hn
    clear hn hs
    go_enter Tryz.func55, Tryz.ntmps55
    go_wp2_with fail
    refine (HS.out _ ((Ext.refl w).alloc _)).mono ?_
    rintro e w1 ⟨rfl, h1⟩
    go_wp2_with fail
    go_ret2
    exact ⟨by rw [HN.out]; rfl, h1.pre⟩
  | true =>
    rw [if_pos rfl] at hn
    have HN := Lib.hid hn
    unfold valid at hs
    rw [Bool.and_eq_true] at hs
    have hsh := hs.1
    have hct := of_decide_eq_true hs.2
    have HSH := Lib.hid hsh
    clear hn hs hsh
    go_enter Tryz.func55, Tryz.ntmps55
    go_wp2_with fail
    refine (HS.out _ ((Ext.refl w).alloc _)).mono ?_
    rintro e w1 ⟨rfl, h1⟩
    have hb1 := h1.newBlk
    have HB := Lib.hid hb1
    have hx1 := h1.pre
    clear hb1 h1
    go_wp2_with fail
    go_loopg [4] (cnt (.mk k n ks)) (fun q i wr => ∃ (k1 n1 : Int) (A1 : Option Addr) (cap1 : Nat) (ks1 : List Tr) (m d : Int), q = cnt (.mk k1 n1 ks1) ∧ i = .int .i64 m ∧ wr.heap[w.heap.size]? = some (.cells #[.int .i64 k1, .int .i64 n1, .slice A1 ks1.length cap1] 45 (0, 0)) ∧
      LiesK w A1 ks1 ∧ shape sigT (.mk k1 n1 ks1) d = true ∧ numR 8 7 (.mk k n ks) 0 = numR 8 7 (.mk k1 n1 ks1) m ∧ 0 ≤ m ∧ m + cnt (.mk k1 n1 ks1) ≤ 400 ∧ Ext w wr)
    case atStart => exact ⟨k, n, A, cap, ks, 0, 30, rfl, rfl, HB.out, h, HSH.out, rfl, by omega, by omega, hx1⟩
    case round =>
      obtain ⟨k1, n1, A1, cap1, ks1, m, d, rfl, rfl, hblk, hK, hsh, heq, hm0, hm1, hx⟩ := hrel
      obtain ⟨z0, z1, z2, o0, o1, o2⟩ := own3 hblk
      have HE := Lib.hid heq
      have HSH1 := Lib.hid hsh
      have HB1 := Lib.hid hblk
      clear hblk heq hsh
      by_cases hk5 : k1 = 8
      · subst hk5
        have hlen : ks1.length = 1 := by
          have := HSH1.out
          unfold shape headOk at this
          simp only [Bool.and_eq_true, decide_eq_true_eq] at this
          have h2 := this.2.1.1
          have h3 : opsT 8 = 1 := by decide
          have h4 : (sigT).ops 8 = opsT 8 := rfl
          omega
        obtain ⟨t2, ht2⟩ : ∃ t2, ks1 = [t2] := by
          match ks1, hlen with
          | [t2], _ => exact ⟨t2, rfl⟩
        subst ht2
        obtain ⟨b, o, k2, n2, A2, cap2, kids, rfl, HK, c0, c1, c2, hkl, hkc, hK2, hin2, hmem⟩ := hK.get hx (j := 0) (by simp)
        have hlt0 := World.block_lt_of_cell? _ _ c0
        obtain ⟨b', o', k2', n2', A2', cap2', kids', e1, HK', d0, d1, d2, -, -, hKw, -, -⟩ := hK.get (Ext.refl w) (j := 0) (by simp)
        injection e1 with e1
        injection e1 with e1 e2
        subst e1
        subst e2
        have hb0 : b < w.heap.size := World.block_lt_of_cell? _ _ d0
        have ht : t2 = .mk k2 n2 kids := HK.out
        have ht' : t2 = .mk k2' n2' kids' := HK'.out
        rw [ht] at ht'
        injection ht' with p1 p2 p3
        subst p1
        subst p2
        subst p3
        have hAc : A2' = A2 ∧ cap2' = cap2 := by
          have := (hx.cell d2).symm.trans c2
          simp only [Option.some.injEq, Value.slice.injEq] at this
          exact ⟨this.1, this.2.2⟩
        obtain ⟨rfl, rfl⟩ := hAc
        subst ht
        simp only [Nat.zero_mul, Nat.add_zero] at c0 c1 c2
        have hst : numR 8 7 (.mk 8 n1 [.mk k2 n2 kids]) m = numR 8 7 (.mk k2 n2 kids) (m + 1) := by conv => lhs; unfold numR; rw [if_pos rfl]
        have HT := Lib.hid hst
        have hcnt : cnt (.mk 8 n1 [.mk k2 n2 kids]) = cnt (.mk k2 n2 kids) + 1 := by simp [cnt, cnts]
        have hsh2 : shape sigT (.mk k2 n2 kids) (d - 1) = true := by
          have := HSH1.out
          unfold shape at this
          simp only [Bool.and_eq_true, shapes] at this
          exact this.2.2.1
        have HSH2 := Lib.hid hsh2
        clear hst hsh2 hK hin2 d0 d1 d2 hmem
        have hne : b ≠ w.heap.size := Nat.ne_of_lt hb0
        go_wp2_with fail
        go_roundg (cnt (.mk k2 n2 kids))
        case rel =>
          refine ⟨k2, n2, A2', cap2', kids, m + 1, d - 1, rfl, by go_num, ?_, hKw, HSH2.out, by rw [HE.out, HT.out], by omega, by omega, ((hx.setCell (Nat.le_refl _) _).setCell (Nat.le_refl _) _).setCell (Nat.le_refl _) _⟩
          exact blk_setCell (blk_setCell (blk_setCell HB1.out 0 _) 1 _) 2 _
        case measure => omega
      · have hst : numR 8 7 (.mk k1 n1 ks1) m = if k1 = 7 ∧ m ≤ 20 then (m, true) else (0, false) := by
          cases ks1
          · conv => lhs; unfold numR
          · conv => lhs; unfold numR; rw [if_neg hk5]
        have d5 : (k1 == 8) = false := by simpa using hk5
        by_cases hk4 : k1 = 7
        · have d4 : (k1 != 7) = false := by simp [hk4]
          by_cases hm : m ≤ 20
          · rw [if_pos ⟨hk4, hm⟩] at hst
            have HT := Lib.hid hst
            have dm : decide (20 < m) = false := decide_eq_false (by omega)
            clear hst hk4 hk5
            go_wp2_with fail
            go_ret2
            exact ⟨by rw [HN.out, HE.out, HT.out]; rfl, hx⟩
          · rw [if_neg (fun h => hm h.2)] at hst
            have HT := Lib.hid hst
            have dm : decide (20 < m) = true := decide_eq_true (by omega)
            clear hst hk4 hk5
            go_wp2_with fail
            go_ret2
            exact ⟨by rw [HN.out, HE.out, HT.out]; rfl, hx⟩
        · rw [if_neg (fun h => hk4 h.1)] at hst
          have HT := Lib.hid hst
          have d4 : (k1 != 7) = true := by rw [bne_iff_ne]; exact hk4
          clear hst hk4 hk5
          go_wp2_with fail
          go_ret2
          exact ⟨by rw [HN.out, HE.out, HT.out]; rfl, hx⟩
end Go.Proofs.YtolkohncmidpeaaGreatDoor
namespace Go.Proofs.YtolkohncmidpeaaGreatDoor
open Go.RowKit
set_option linter.unusedVariables false
attribute [local go_sem ↓] Go.wp_at_zero Go.wp_at_succ
/-- As GrowS.only, and the row itself stands too. -/
theorem GrowS.keep {X : Nat → Prop} {W w w' : World} {e : TypeId} {v : Value} {ks : List Tr} (h : GrowS X W w e v ks) (hs : w.heap.size ≤ w'.heap.size) (hk : ∀ b, b < w.heap.size → ¬ X b → w'.heap[b]? = w.heap[b]?) (ho : ∀ b, v.ownBlock = some b → ¬ X b) : GrowS X W w' e v ks := by
  obtain ⟨xs, h1, h2⟩ := h
  exact ⟨xs, ownsRow_same h1 (fun b hb => hk b (h1.lt b hb).2 (ho b hb)), h2.mono (fun b hb => ⟨Nat.lt_of_lt_of_le hb.1 hs, hb.2.1, hb.2.2⟩) (fun b hb => hk b hb.1 hb.2.2)⟩
theorem infoTermM : (Tryz.prog.info? 45).map (fun i => (i.zero, i.size, i.bytes)) = some (some (.agg #[.int .i64 0, .int .i64 0, .slice none 0 0]), 3, 40) := by kernel_rfl
end Go.Proofs.YtolkohncmidpeaaGreatDoor
namespace Go.Proofs.YtolkohncmidpeaaGreatDoor
open Go.RowKit
set_option linter.unusedVariables false
theorem FromK.build {B g : Nat} {w : World} {cs : Array Value} {e : TypeId} {ks : List Tr} (h : RowL (w.alloc (.cells cs e)) (fun b => B ≤ b ∧ b < (w.alloc (.cells cs e)).heap.size) cs.toList ks) (hB : B ≤ w.heap.size) (hg : g = w.heap.size) : FromK B (w.alloc (.cells cs e)) (some ⟨g, 0, none⟩) ks := by
  subst hg
  exact .inr ⟨_, 0, rfl, ⟨hB, by simp⟩, RowL.inL (heap_alloc_new w _) (pre := []) h (by simp)⟩
theorem FromK.three {B g : Nat} {w : World} {t u v : Tr} {a0 a1 a2 b0 b1 b2 c0 c1 c2 : Value} {e : TypeId} (h1 : From B w t (.agg #[a0, a1, a2])) (h2 : From B w u (.agg #[b0, b1, b2])) (h3 : From B w v (.agg #[c0, c1, c2])) (hB : B ≤ w.heap.size) (hg : g = w.heap.size) : FromK B (w.alloc (.cells #[a0, a1, a2, b0, b1, b2, c0, c1, c2] e)) (some ⟨g, 0, none⟩) [t, u, v] :=
  FromK.build (RowL.cons_iff.2 ⟨_, _, _, _, rfl, h1.ext ((Ext.refl w).alloc _), RowL.cons_iff.2 ⟨_, _, _, _, rfl, h2.ext ((Ext.refl w).alloc _), RowL.cons_iff.2 ⟨_, _, _, _, rfl, h3.ext ((Ext.refl w).alloc _), RowL.nil⟩⟩⟩) hB hg
theorem FromK.four {B g : Nat} {w : World} {t u v x : Tr} {a0 a1 a2 b0 b1 b2 c0 c1 c2 d0 d1 d2 : Value} {e : TypeId} (h1 : From B w t (.agg #[a0, a1, a2])) (h2 : From B w u (.agg #[b0, b1, b2])) (h3 : From B w v (.agg #[c0, c1, c2])) (h4 : From B w x (.agg #[d0, d1, d2])) (hB : B ≤ w.heap.size) (hg : g = w.heap.size) : FromK B (w.alloc (.cells #[a0, a1, a2, b0, b1, b2, c0, c1, c2, d0, d1, d2] e)) (some ⟨g, 0, none⟩) [t, u, v, x] :=
  FromK.build (RowL.cons_iff.2 ⟨_, _, _, _, rfl, h1.ext ((Ext.refl w).alloc _), RowL.cons_iff.2 ⟨_, _, _, _, rfl, h2.ext ((Ext.refl w).alloc _), RowL.cons_iff.2 ⟨_, _, _, _, rfl, h3.ext ((Ext.refl w).alloc _), RowL.cons_iff.2 ⟨_, _, _, _, rfl, h4.ext ((Ext.refl w).alloc _), RowL.nil⟩⟩⟩⟩) hB hg
theorem FromK.only {B : Nat} {w w' : World} {A : Option Addr} {ks : List Tr} {L : List Nat} (h : FromK B w A ks) (ho : Only L w w') (hL : ∀ b, b ∈ L → b < B) : FromK B w' A ks := InK.mono (fun b hb => ⟨hb.1, Nat.lt_of_lt_of_le hb.2 ho.size⟩) (fun b hb => ho.block b hb.2 (fun hm => by have := hL b hm; omega)) h
theorem FromK.ext {B : Nat} {w w' : World} {A : Option Addr} {ks : List Tr} (h : FromK B w A ks) (ho : Ext w w') : FromK B w' A ks := InK.mono (fun b hb => ⟨hb.1, Nat.lt_of_lt_of_le hb.2 ho.size⟩) (fun b hb => ho.heap b hb.2) h
/-- Rows of block number B or newer, but none in block X. -/
def Away (B X : Nat) (w : World) (t : Tr) (v : Value) : Prop := InT w (fun b => B ≤ b ∧ b < w.heap.size ∧ b ≠ X) t v
def AwayK (B X : Nat) (w : World) (A : Option Addr) (ks : List Tr) : Prop := InK w (fun b => B ≤ b ∧ b < w.heap.size ∧ b ≠ X) A ks
theorem Away.since {B C X : Nat} {w : World} {t : Tr} {v : Value} (h : Away B X w t v) (hC : C ≤ B) : Away C X w t v := InT.mono (fun b hb => ⟨Nat.le_trans hC hb.1, hb.2⟩) (fun _ _ => rfl) h
theorem Away.ext {B X : Nat} {w w' : World} {t : Tr} {v : Value} (h : Away B X w t v) (he : Ext w w') : Away B X w' t v := InT.mono (fun b hb => ⟨hb.1, Nat.lt_of_lt_of_le hb.2.1 he.size, hb.2.2⟩) (fun b hb => he.heap b hb.2.1) h
theorem Away.set {B X : Nat} {w : World} {t : Tr} {v : Value} (h : Away B X w t v) {p : Addr} (hp : p.block = X) (u : Value) : Away B X (w.setCell p u) t v :=
  InT.mono (fun b hb => ⟨hb.1, by simpa using hb.2.1, hb.2.2⟩) (fun b hb => Below.heap_setCell w p u b (by rw [hp]; exact hb.2.2)) h
theorem AwayK.ext {B X : Nat} {w w' : World} {A : Option Addr} {ks : List Tr} (h : AwayK B X w A ks) (he : Ext w w') : AwayK B X w' A ks := InK.mono (fun b hb => ⟨hb.1, Nat.lt_of_lt_of_le hb.2.1 he.size, hb.2.2⟩) (fun b hb => he.heap b hb.2.1) h
theorem AwayK.two {B X : Nat} {w : World} {t : Tr} {v0 v1 v2 : Value} {e : TypeId} (h : Away B X w t (.agg #[v0, v1, v2])) (hB : B ≤ w.heap.size) (hX : X ≠ w.heap.size) : AwayK B X (w.alloc (.cells #[.int .i64 6, .int .i64 0, .slice none 0 0, v0, v1, v2] e)) (some ⟨w.heap.size, 0, none⟩) [.mk 6 0 [], t] := by
  have hx := (Ext.refl w).alloc (.cells #[.int .i64 6, .int .i64 0, .slice none 0 0, v0, v1, v2] e)
  have hg := heap_alloc_new w (.cells #[.int .i64 6, .int .i64 0, .slice none 0 0, v0, v1, v2] e)
  have hN : Away B X (w.alloc (.cells #[.int .i64 6, .int .i64 0, .slice none 0 0, v0, v1, v2] e)) (.mk 6 0 []) (.agg #[.int .i64 6, .int .i64 0, .slice none 0 0]) := InT.mk_iff.2 ⟨none, 0, rfl, Nat.le_refl _, Nat.zero_le _, .inl rfl⟩
  have h2 := h.ext hx
  refine .inr ⟨w.heap.size, 0, rfl, ⟨hB, by simp, fun h => hX h.symm⟩, ?_⟩
  unfold InL
  refine ⟨⟨_, _, _, cell_of_blk hg 0, cell_of_blk hg 1, cell_of_blk hg 2, hN⟩, ?_⟩
  unfold InL
  refine ⟨⟨v0, v1, v2, cell_of_blk hg 3, cell_of_blk hg 4, cell_of_blk hg 5, h2⟩, ?_⟩
  unfold InL
  trivial
/-- A tree of some depth and some nodes. -/
def Sh (d : Int) (c : Nat) (t : Tr) : Prop := shape sigT t d = true ∧ cnt t ≤ c
theorem Sh.up {d e : Int} {c f : Nat} {t : Tr} (h : Sh d c t) (h1 : d ≤ e) (h2 : c ≤ f) : Sh e f t := ⟨shape_up h.1 h1, Nat.le_trans h.2 h2⟩
theorem Sh.leaf {k n : Int} {d : Int} {c : Nat} (hk : opsT k = 0) (h0 : 0 ≤ n) (h1 : n ≤ mostT k) (hd : 1 ≤ d) (hc : 1 ≤ c) : Sh d c (.mk k n []) := ⟨shape_mk hd hk h0 h1 (fun t ht => by cases ht), by simp only [cnt, cnts]; omega⟩
theorem mostT_nonneg (k : Int) : 0 ≤ mostT k := by unfold mostT; split <;> (try split) <;> omega
theorem Sh.n1 {k d : Int} {c1 : Nat} {t1 : Tr} (hk : opsT k = 1) (h1 : Sh d c1 t1) : Sh (d + 1) (c1 + 1) (.mk k 0 [t1]) :=
  ⟨shape_mk (by have := shape_pos h1.1; omega) hk (by omega) (mostT_nonneg k) (fun t ht => by simp at ht; subst ht; rw [Int.add_sub_cancel]; exact h1.1), by have := h1.2; simp only [cnt, cnts]; omega⟩
theorem Sh.n2 {k d : Int} {c1 c2 : Nat} {t1 t2 : Tr} (hk : opsT k = 2) (h1 : Sh d c1 t1) (h2 : Sh d c2 t2) : Sh (d + 1) (c1 + c2 + 1) (.mk k 0 [t1, t2]) :=
  ⟨shape_mk (by have := shape_pos h1.1; omega) hk (by omega) (mostT_nonneg k) (fun t ht => by simp at ht; rw [Int.add_sub_cancel]; rcases ht with rfl | rfl; exact h1.1; exact h2.1), by have := h1.2; have := h2.2; simp only [cnt, cnts]; omega⟩
theorem Sh.n3 {k d : Int} {c1 c2 c3 : Nat} {t1 t2 t3 : Tr} (hk : opsT k = 3) (h1 : Sh d c1 t1) (h2 : Sh d c2 t2) (h3 : Sh d c3 t3) : Sh (d + 1) (c1 + c2 + c3 + 1) (.mk k 0 [t1, t2, t3]) :=
  ⟨shape_mk (by have := shape_pos h1.1; omega) hk (by omega) (mostT_nonneg k) (fun t ht => by simp at ht; rw [Int.add_sub_cancel]; rcases ht with rfl | rfl | rfl; exact h1.1; exact h2.1; exact h3.1), by have := h1.2; have := h2.2; have := h3.2; simp only [cnt, cnts]; omega⟩
theorem Sh.n4 {k d : Int} {c1 c2 c3 c4 : Nat} {t1 t2 t3 t4 : Tr} (hk : opsT k = 4) (h1 : Sh d c1 t1) (h2 : Sh d c2 t2) (h3 : Sh d c3 t3) (h4 : Sh d c4 t4) : Sh (d + 1) (c1 + c2 + c3 + c4 + 1) (.mk k 0 [t1, t2, t3, t4]) :=
  ⟨shape_mk (by have := shape_pos h1.1; omega) hk (by omega) (mostT_nonneg k) (fun t ht => by simp at ht; rw [Int.add_sub_cancel]; rcases ht with rfl | rfl | rfl | rfl; exact h1.1; exact h2.1; exact h3.1; exact h4.1), by have := h1.2; have := h2.2; have := h3.2; have := h4.2; simp only [cnt, cnts]; omega⟩
end Go.Proofs.YtolkohncmidpeaaGreatDoor
namespace Go.Proofs.YtolkohncmidpeaaGreatDoor
open Go.RowKit
set_option linter.unusedVariables false
attribute [local go_sem ↓] Go.wp_at_zero Go.wp_at_succ
theorem GrowS.from {W w : World} {e : TypeId} {v : Value} {ks : List Tr} (h : GrowS (fun b => b < W.heap.size) W w e v ks) : ∃ A cap, v = .slice A ks.length cap ∧ ks.length ≤ cap ∧ cap ≤ maxLen ∧ FromK W.heap.size w A ks := by
  obtain ⟨A, cap, h1, h2, h3, h4, -⟩ := h.lies (fun b hb => hb)
  exact ⟨A, cap, h1, h2, h3, InK.mono (fun b hb => ⟨by have := hb.2; omega, hb.1⟩) (fun _ _ => rfl) h4⟩
/-- A tree newer than a world in which the row lay stands outside of the row. -/
theorem GrowS.off {W w w1 : World} {e : TypeId} {v : Value} {ks : List Tr} {t : Tr} {u : Value} (h : GrowS (fun b => b < W.heap.size) W w e v ks) (hW : W.heap.size ≤ w.heap.size) (ht : From w.heap.size w1 t u) : InT w1 (fun b => b < w1.heap.size ∧ v.ownBlock ≠ some b ∧ ¬ b < W.heap.size) t u := by
  obtain ⟨xs, h1, h2⟩ := h
  exact InT.mono (fun b hb => ⟨hb.2, fun he => by have := (h1.lt b he).2; have := hb.1; omega, by have := hb.1; omega⟩) (fun _ _ => rfl) ht
end Go.Proofs.YtolkohncmidpeaaGreatDoor

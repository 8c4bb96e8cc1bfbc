/-
  Lemmas towards the law, 45: Used, Defs, UnfP, RedP2.
-/
import Derived.Test.YtappakllopkfiaaKAD
import Derived.Test.YtappakllopkfiaaKAF
import Derived.Test.YtappakllopkfiaaKAI
import Derived.Test.YtappakllopkfiaaKAL
import Derived.Test.YtappakllopkfiaaKAN
import Derived.Test.YtappakllopkfiaaKAX
import Derived.Test.YtappakllopkfiaaKAZ
import Derived.Test.YtappakllopkfiaaKBR
import Derived.Deep.RegionHeld3
import Derived.Deep.RegionHeldLaw
namespace Go.Proofs.Ytappakllopkfiaa
open Go.RowKit
set_option linter.unusedVariables false
/-- A slice of bools of the call's own, at block g. -/
def BoolsAt (w : World) (g n : Nat) (s : List Bool) : Prop := s.length = n ∧ w.heap[g]? = some (.cells (s.map Value.bool).toArray 4 (0, 0))
theorem BoolsAt.set {w : World} {g n : Nat} {s : List Bool} (h : BoolsAt w g n s) (i : Nat) (b : Bool) : BoolsAt (w.setCell ⟨g, i, none⟩ (.bool b)) g n (s.set i b) := by
  refine ⟨by simp [h.1], ?_⟩
  rw [blk_setCell h.2 i _]
  simp [List.map_set]
theorem BoolsAt.cell {w : World} {g n : Nat} {s : List Bool} (h : BoolsAt w g n s) {i : Nat} (hi : i < n) : w.cell? ⟨g, i, none⟩ = some (.bool (s[i]'(by rw [h.1]; exact hi))) := by
  rw [cell_of_blk h.2]
  have := h.1
  simp [List.getElem?_eq_getElem (show i < s.length by omega)]
end Go.Proofs.Ytappakllopkfiaa
namespace Go.Proofs.Ytappakllopkfiaa
open Go.RowKit
set_option linter.unusedVariables false
/-- A definition's six cells, asked for in a later world. -/
theorem LiesK.getD {w w' : World} {A : Option Addr} {ks : List Tr} {j : Nat} (h : LiesK w A ks) (he : Ext w w') (hj : j * 2 + 1 < ks.length) :
    ∃ b o k1 n1 A1 p1 kids1 k2 n2 A2 p2 kids2, A = some ⟨b, o, none⟩ ∧ b < w.heap.size ∧ Hid (ks[j * 2] = .mk k1 n1 kids1) ∧ Hid (ks[j * 2 + 1] = .mk k2 n2 kids2) ∧
      (w'.cell? ⟨b, o + j * 6, none⟩ = some (.int .i64 k1) ∧ w'.cell? ⟨b, o + j * 6 + 1, none⟩ = some (.int .i64 n1) ∧ w'.cell? ⟨b, o + j * 6 + 2, none⟩ = some (.slice A1 kids1.length p1) ∧
      w'.cell? ⟨b, o + j * 6 + 3, none⟩ = some (.int .i64 k2) ∧ w'.cell? ⟨b, o + j * 6 + 4, none⟩ = some (.int .i64 n2) ∧ w'.cell? ⟨b, o + j * 6 + 5, none⟩ = some (.slice A2 kids2.length p2)) ∧
      (kids1.length ≤ p1 ∧ p1 ≤ maxLen ∧ LiesK w' A1 kids1 ∧ Lies w' (.mk k1 n1 kids1) (.agg #[.int .i64 k1, .int .i64 n1, .slice A1 kids1.length p1]) ∧ Tr.mk k1 n1 kids1 ∈ ks) ∧
      (kids2.length ≤ p2 ∧ p2 ≤ maxLen ∧ LiesK w' A2 kids2 ∧ Lies w' (.mk k2 n2 kids2) (.agg #[.int .i64 k2, .int .i64 n2, .slice A2 kids2.length p2]) ∧ Tr.mk k2 n2 kids2 ∈ ks) := by
  obtain ⟨b, o, k1, n1, A1, p1, kids1, rfl, HK1, c0, c1, c2, r1⟩ := h.get (j := j * 2) he (by omega)
  obtain ⟨b', o', k2, n2, A2, p2, kids2, e, HK2, d0, d1, d2, r2⟩ := h.get (j := j * 2 + 1) he hj
  obtain ⟨rfl, rfl⟩ : b = b' ∧ o = o' := by cases e; exact ⟨rfl, rfl⟩
  rw [show o + j * 2 * 3 = o + j * 6 by omega] at c0 c1 c2
  rw [show o + (j * 2 + 1) * 3 = o + j * 6 + 3 by omega] at d0 d1 d2
  have hb : b < w.heap.size := by
    rcases h with h | ⟨b', o', e, hb, -⟩
    · rw [h] at hj; simp at hj
    · cases e; exact hb
  exact ⟨b, o, k1, n1, A1, p1, kids1, k2, n2, A2, p2, kids2, rfl, hb, HK1, HK2, ⟨c0, c1, c2, d0, d1, d2⟩, r1, r2⟩
end Go.Proofs.Ytappakllopkfiaa
namespace Go.Proofs.Ytappakllopkfiaa
open Go.RowKit
set_option linter.unusedVariables false
mutual
theorem mxf_shf (y : Int) (hy : 0 ≤ y) : ∀ (t : Tr) (c b : Int), c ≤ b → mxf (shfT y t c) (b + y) ≤ mxf t b
  | .mk k n ks, c, b, h => by
    rw [shfT_mk]
    have := mxfs_shf y hy k ks 0 c b h
    simp only [mxf]
    by_cases hk : k = 1
    · subst hk
      simp only [true_and]
      by_cases h1 : c ≤ n
      · rw [if_pos h1]
        by_cases h2 : b ≤ n
        · rw [if_pos (show b + y ≤ n + y by omega), if_pos h2]; omega
        · rw [if_neg (show ¬ b + y ≤ n + y by omega), if_neg h2]; omega
      · rw [if_neg h1, if_neg (show ¬ b + y ≤ n by omega)]; omega
    · rw [if_neg (fun e => hk e.1), if_neg (fun e => hk e.1)]; omega
theorem mxfs_shf (y : Int) (hy : 0 ≤ y) : ∀ (k : Int) (ts : List Tr) (i : Nat) (c b : Int), c ≤ b → mxfs k (shfTs y k ts i c) i (b + y) ≤ mxfs k ts i b
  | _, [], _, _, _, _ => by simp [shfTs, mxfs]
  | k, t :: ts, i, c, b, h => by
    have h1 := mxf_shf y hy t (c + und k i) (b + und k i) (by omega)
    have h2 := mxfs_shf y hy k ts (i + 1) c b h
    simp only [shfTs, mxfs]
    rw [show b + y + und k i = b + und k i + y by omega]
    omega
end
end Go.Proofs.Ytappakllopkfiaa
namespace Go.Proofs.Ytappakllopkfiaa
open Go.RowKit
set_option linter.unusedVariables false
mutual
theorem mxf_sbs' (u : Tr) (m b : Int) (hb : 0 ≤ b) (hm : mxf u b ≤ m) (hm0 : 0 ≤ m) : ∀ (t : Tr) (d : Int), 0 ≤ d → mxf t (b + d + 1) ≤ m → mxf (sbsT u t d d) (b + d) ≤ m
  | .mk k n ks, d, hd, h => by
    by_cases hv : k = 1 ∧ n = d
    · obtain ⟨rfl, rfl⟩ := hv
      rw [sbsT_hit u ks ⟨rfl, rfl⟩]
      have := mxf_shf n hd u 0 b hb
      omega
    · rw [sbsT_miss u ks hv]
      simp only [mxf] at h ⊢
      have := mxfs_sbs' u m b hb hm hm0 k ks 0 d hd (by omega)
      by_cases hk : k = 1
      · subst hk
        simp only [true_and] at h hv ⊢
        by_cases h1 : d < n
        · rw [if_pos h1]
          by_cases h2 : b + d ≤ n - 1
          · rw [if_pos h2]
            rw [if_pos (show b + d + 1 ≤ n by omega)] at h
            omega
          · rw [if_neg h2]; omega
        · rw [if_neg h1, if_neg (show ¬ b + d ≤ n by omega)]; omega
      · rw [if_neg (fun e => hk e.1)]; omega
theorem mxfs_sbs' (u : Tr) (m b : Int) (hb : 0 ≤ b) (hm : mxf u b ≤ m) (hm0 : 0 ≤ m) : ∀ (k : Int) (ts : List Tr) (i : Nat) (d : Int), 0 ≤ d → mxfs k ts i (b + d + 1) ≤ m → mxfs k (sbsTs u k ts i d d) i (b + d) ≤ m
  | _, [], _, _, _, _ => by simp only [sbsTs, mxfs]; omega
  | k, t :: ts, i, d, hd, h => by
    simp only [sbsTs, mxfs] at h ⊢
    have := und_le k i
    rw [show b + d + 1 + und k i = b + (d + und k i) + 1 by omega] at h
    have h1 := mxf_sbs' u m b hb hm hm0 t (d + und k i) (by omega) (by omega)
    have h2 := mxfs_sbs' u m b hb hm hm0 k ts (i + 1) d hd (by omega)
    rw [show b + d + und k i = b + (d + und k i) by omega]
    omega
end
theorem mxfs_kd {k b : Int} : ∀ (ks : List Tr) (i j : Nat), 0 ≤ b → mxf (kd ks j) (b + und k (i + j)) ≤ mxfs k ks i b
  | [], i, j, hb => by
    rw [kd_big (by simp)]
    simp [dflt0, mxf, mxfs]
  | t :: ts, i, 0, hb => by
    simp only [mxfs]
    have : kd (t :: ts) 0 = t := rfl
    rw [this, Nat.add_zero]
    omega
  | t :: ts, i, j + 1, hb => by
    have := mxfs_kd (k := k) ts (i + 1) j hb
    simp only [mxfs, kd_cons]
    rw [show i + (j + 1) = i + 1 + j by omega]
    omega
theorem mxf_kd {k n b : Int} {ks : List Tr} (hb : 0 ≤ b) (j : Nat) : mxf (kd ks j) (b + und k j) ≤ mxf (.mk k n ks) b := by
  have := mxfs_kd (k := k) ks 0 j hb
  rw [Nat.zero_add] at this
  simp only [mxf]
  omega
theorem und_off {k : Int} (h : k ≠ 3 ∧ k ≠ 4 ∧ k ≠ 13) (j : Nat) : und k j = 0 := und_not h.1 h.2.1 h.2.2 j
theorem mxf_kd0 {k n b : Int} {ks : List Tr} (hb : 0 ≤ b) (h : k ≠ 3 ∧ k ≠ 4 ∧ k ≠ 13) (j : Nat) : mxf (kd ks j) b ≤ mxf (.mk k n ks) b := by
  have := mxf_kd (k := k) (n := n) (ks := ks) hb j
  rwa [und_off h, Int.add_zero] at this
theorem mxf_kids0 {t : Tr} {b : Int} (hb : 0 ≤ b) (h : t.kind ≠ 3 ∧ t.kind ≠ 4 ∧ t.kind ≠ 13) (j : Nat) : mxf (kd t.kids j) b ≤ mxf t b := by
  obtain ⟨k, n, ks⟩ := t
  exact mxf_kd0 hb h j
theorem mxf_ctr {k n : Int} {ks : List Tr} (h : rdx k ks ≠ 0) {b : Int} (hb : 0 ≤ b) : mxf (ctr k ks) b ≤ mxf (.mk k n ks) b := by
  have h0 := mxf_nonneg (.mk k n ks) b
  rcases rdx_cases h with ⟨rfl, e⟩ | ⟨rfl, e⟩ | ⟨rfl, e⟩ | ⟨rfl, e⟩ | ⟨rfl, e⟩ | ⟨rfl, e⟩
  · rw [ctr_app]
    have h1 := mxf_kd0 (k := 5) (n := n) (ks := ks) hb (by decide) 1
    have h2 := mxf_kd0 (k := 5) (n := n) (ks := ks) hb (by decide) 0
    have h3 : mxf (kd (kd ks 0).kids 1) (b + 1) ≤ mxf (kd ks 0) b := by
      generalize kd ks 0 = t at e
      obtain ⟨k', n', ks'⟩ := t
      simp only [Tr.kind] at e
      subst e
      exact mxf_kd hb 1
    have := mxf_sbs' (kd ks 1) (mxf (.mk 5 n ks) b) b hb h1 h0 (kd (kd ks 0).kids 1) 0 (by omega) (by rw [Int.add_zero]; omega)
    rwa [Int.add_zero] at this
  · rw [ctr_zero e]
    exact mxf_kd0 hb (by decide) 1
  · rw [ctr_succ e]
    have h1 := mxf_kd0 (k := 9) (n := n) (ks := ks) hb (by decide) 0
    have h2 := mxf_kd0 (k := 9) (n := n) (ks := ks) hb (by decide) 1
    have h3 := mxf_kd0 (k := 9) (n := n) (ks := ks) hb (by decide) 2
    have h4 := mxf_kd0 (k := 9) (n := n) (ks := ks) hb (by decide) 3
    have h5 := mxf_kids0 (t := kd ks 3) hb (by rw [e]; decide) 0
    simp only [mxf, mxfs, und_off (show (5 : Int) ≠ 3 ∧ (5 : Int) ≠ 4 ∧ (5 : Int) ≠ 13 by decide), und_off (show (9 : Int) ≠ 3 ∧ (9 : Int) ≠ 4 ∧ (9 : Int) ≠ 13 by decide), Int.add_zero] at h0 h1 h2 h3 h4 ⊢
    rw [if_neg (show ¬ ((5 : Int) = 1 ∧ b ≤ 0) by omega), if_neg (show ¬ ((9 : Int) = 1 ∧ b ≤ 0) by omega)]
    omega
  · rw [ctr_move]
    exact mxf_kd0 hb (by decide) 2
  · rw [ctr_fst]
    have h1 := mxf_kd0 (k := 15) (n := n) (ks := ks) hb (by decide) 0
    have h5 := mxf_kids0 (t := kd ks 0) hb (by rw [e]; decide) 1
    omega
  · rw [ctr_snd]
    have h1 := mxf_kd0 (k := 16) (n := n) (ks := ks) hb (by decide) 0
    have h5 := mxf_kids0 (t := kd ks 0) hb (by rw [e]; decide) 2
    omega
theorem mxfs_set {k : Int} {b : Int} (x : Tr) : ∀ (ks : List Tr) (i j : Nat), j < ks.length → mxf x (b + und k (i + j)) ≤ mxf (kd ks j) (b + und k (i + j)) → mxfs k (ks.set j x) i b ≤ mxfs k ks i b
  | t :: ts, i, 0, _, h => by
    have e : kd (t :: ts) 0 = t := rfl
    rw [e, Nat.add_zero] at h
    simp only [List.set_cons_zero, mxfs]
    omega
  | t :: ts, i, j + 1, hj, h => by
    rw [kd_cons, show i + (j + 1) = i + 1 + j by omega] at h
    have := mxfs_set (k := k) (b := b) x ts (i + 1) j (by simpa using hj) h
    simp only [List.set_cons_succ, mxfs]
    omega
theorem mxf_putA : ∀ (p : List Int) (t u u' : Tr) (b : Int), 0 ≤ b → atT t p = some u → (∀ c, 0 ≤ c → mxf u' c ≤ mxf u c) → mxf (putA t p u') b ≤ mxf t b
  | [], t, u, u', b, hb, h, hu => by
    have e : t = u := by cases t; simpa [atT] using h
    subst e
    rw [putA_nil]
    exact hu b hb
  | i :: r, .mk k n ks, u, u', b, hb, h, hu => by
    rw [atT] at h
    split at h
    · rename_i hi
      have := und_le k (0 + i.toNat)
      have h1 := mxf_putA r (kd ks i.toNat) u u' (b + und k (0 + i.toNat)) (by omega) h hu
      have h2 := mxfs_set (k := k) (b := b) (putA (kd ks i.toNat) r u') ks 0 i.toNat (by omega) h1
      rw [putA]
      simp only [mxf]
      omega
    · cases h
theorem mxf_conA {t : Tr} {p : List Int} (h : rdxA t p = true) {b : Int} (hb : 0 ≤ b) : mxf (conA t p) b ≤ mxf t b := by
  obtain ⟨u, h1, h2⟩ := rdxA_some h
  unfold conA
  rw [h1]
  obtain ⟨k, n, ks⟩ := u
  exact mxf_putA p t _ _ b hb h1 (fun c hc => mxf_ctr (isRdx_iff.1 h2) hc)
end Go.Proofs.Ytappakllopkfiaa

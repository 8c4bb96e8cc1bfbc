/-
  Lemmas towards the law, 33: UnfP, MaxF, Same, Times.
-/
import Derived.Test.YtappakllopkfiaaZAC
import Derived.Test.YtappakllopkfiaaZAP
import Derived.Test.YtappakllopkfiaaZAQ
import Derived.Test.YtappakllopkfiaaZBE
import Derived.Test.YtappakllopkfiaaZBF
import Derived.BigQuiet
import Derived.Outline
import Derived.StillTailTactics
import Derived.Test.YtappakllopkfiaaProg
namespace Go.Proofs.Ytappakllopkfiaa
open Go.RowKit
set_option linter.unusedVariables false
mutual
theorem mxf_shf (y : Int) (hy : 0 ≤ y) : ∀ (t : Tr) (c b : Int), c ≤ b → mxf (shfT y t c) (b + y) ≤ mxf t b
  | .mk k n ks, c, b, h => by
    rw [shfT_mk]
    have := mxfs_shf y hy k ks 0 c b h
    simp only [mxf]
    by_cases hk : k = 1
    · subst hk
      simp only [true_and]
      by_cases h1 : c ≤ n
      · rw [if_pos h1]
        by_cases h2 : b ≤ n
        · rw [if_pos (show b + y ≤ n + y by omega), if_pos h2]; omega
        · rw [if_neg (show ¬ b + y ≤ n + y by omega), if_neg h2]; omega
      · rw [if_neg h1, if_neg (show ¬ b + y ≤ n by omega)]; omega
    · rw [if_neg (fun e => hk e.1), if_neg (fun e => hk e.1)]; omega
theorem mxfs_shf (y : Int) (hy : 0 ≤ y) : ∀ (k : Int) (ts : List Tr) (i : Nat) (c b : Int), c ≤ b → mxfs k (shfTs y k ts i c) i (b + y) ≤ mxfs k ts i b
  | _, [], _, _, _, _ => by simp [shfTs, mxfs]
  | k, t :: ts, i, c, b, h => by
    have h1 := mxf_shf y hy t (c + und k i) (b + und k i) (by omega)
    have h2 := mxfs_shf y hy k ts (i + 1) c b h
    simp only [shfTs, mxfs]
    rw [show b + y + und k i = b + und k i + y by omega]
    omega
end
mutual
theorem mxf_sbs (u : Tr) (m : Int) (hm : mxf u 0 ≤ m) (hm0 : 0 ≤ m) : ∀ (t : Tr) (d : Int), 0 ≤ d → mxf t d ≤ m + 1 → mxf (sbsT u t d d) d ≤ m
  | .mk k n ks, d, hd, h => by
    by_cases hv : k = 1 ∧ n = d
    · obtain ⟨rfl, rfl⟩ := hv
      rw [sbsT_hit u ks ⟨rfl, rfl⟩]
      have := mxf_shf n hd u 0 0 (by omega)
      rw [Int.zero_add] at this
      omega
    · rw [sbsT_miss u ks hv]
      simp only [mxf] at h ⊢
      have := mxfs_sbs u m hm hm0 k ks 0 d hd (by omega)
      by_cases hk : k = 1
      · subst hk
        simp only [true_and] at h hv ⊢
        by_cases h1 : d < n
        · rw [if_pos h1, if_pos (show d ≤ n - 1 by omega)]
          rw [if_pos (show d ≤ n by omega)] at h
          omega
        · rw [if_neg h1, if_neg (show ¬ d ≤ n by omega)]; omega
      · rw [if_neg (fun e => hk e.1)]; omega
theorem mxfs_sbs (u : Tr) (m : Int) (hm : mxf u 0 ≤ m) (hm0 : 0 ≤ m) : ∀ (k : Int) (ts : List Tr) (i : Nat) (d : Int), 0 ≤ d → mxfs k ts i d ≤ m + 1 → mxfs k (sbsTs u k ts i d d) i d ≤ m
  | _, [], _, _, _, _ => by simp only [sbsTs, mxfs]; omega
  | k, t :: ts, i, d, hd, h => by
    simp only [sbsTs, mxfs] at h ⊢
    have := und_le k i
    have h1 := mxf_sbs u m hm hm0 t (d + und k i) (by omega) (by omega)
    have h2 := mxfs_sbs u m hm hm0 k ts (i + 1) d hd (by omega)
    omega
end
mutual
theorem sbs_closed (u : Tr) : ∀ (t : Tr) (d : Int), mxf t d ≤ 0 → sbsT u t d d = t
  | .mk k n ks, d, h => by
    simp only [mxf] at h
    have hs := sbss_closed u k ks 0 d (by omega)
    by_cases hk : k = 1
    · subst hk
      simp only [true_and] at h
      have hn : n < d := by
        by_cases h1 : d ≤ n
        · rw [if_pos h1] at h; omega
        · omega
      rw [sbsT_miss u ks (fun e => by omega), hs, if_neg (fun e => by omega)]
    · rw [sbsT_miss u ks (fun e => hk e.1), hs, if_neg (fun e => hk e.1)]
theorem sbss_closed (u : Tr) : ∀ (k : Int) (ts : List Tr) (i : Nat) (d : Int), mxfs k ts i d ≤ 0 → sbsTs u k ts i d d = ts
  | _, [], _, _, _ => rfl
  | k, t :: ts, i, d, h => by
    simp only [mxfs] at h
    simp only [sbsTs]
    rw [sbs_closed u t _ (by omega), sbss_closed u k ts (i + 1) d (by omega)]
end
mutual
theorem fvs_shf (y : Int) (hy : 0 ≤ y) : ∀ (t : Tr) (c b : Int), c ≤ b → fvs (shfT y t c) (b + y) = fvs t b
  | .mk k n ks, c, b, h => by
    rw [shfT_mk]
    have := fvss_shf y hy k ks 0 c b h
    simp only [fvs]
    rw [this]
    congr 1
    by_cases hk : k = 1
    · subst hk
      simp only [true_and]
      by_cases h1 : c ≤ n
      · rw [if_pos h1]
        by_cases h2 : b ≤ n
        · rw [if_pos (show b + y ≤ n + y by omega), if_pos h2, show n + y - (b + y) = n - b by omega]
        · rw [if_neg (show ¬ b + y ≤ n + y by omega), if_neg h2]
      · rw [if_neg h1, if_neg (show ¬ b + y ≤ n by omega), if_neg (show ¬ b ≤ n by omega)]
    · rw [if_neg (fun e => hk e.1), if_neg (fun e => hk e.1)]
theorem fvss_shf (y : Int) (hy : 0 ≤ y) : ∀ (k : Int) (ts : List Tr) (i : Nat) (c b : Int), c ≤ b → fvss k (shfTs y k ts i c) i (b + y) = fvss k ts i b
  | _, [], _, _, _, _ => rfl
  | k, t :: ts, i, c, b, h => by
    simp only [shfTs, fvss]
    rw [show b + y + und k i = b + und k i + y by omega, fvs_shf y hy t _ _ (by omega), fvss_shf y hy k ts (i + 1) c b h]
end
mutual
theorem fvs_sbs (u : Tr) : ∀ (t : Tr) (d i : Int), 0 ≤ d → i ∈ fvs (sbsT u t d d) d → i + 1 ∈ fvs t d ∨ (0 ∈ fvs t d ∧ i ∈ fvs u 0)
  | .mk k n ks, d, i, hd, h => by
    by_cases hv : k = 1 ∧ n = d
    · obtain ⟨rfl, rfl⟩ := hv
      rw [sbsT_hit u ks ⟨rfl, rfl⟩] at h
      have := fvs_shf n hd u 0 0 (by omega)
      rw [Int.zero_add] at this
      rw [this] at h
      exact .inr ⟨by simp [fvs], h⟩
    · rw [sbsT_miss u ks hv] at h
      simp only [fvs, List.mem_append] at h ⊢
      rcases h with h | h
      · by_cases hk : k = 1
        · subst hk
          simp only [true_and] at h hv ⊢
          by_cases h1 : d < n
          · rw [if_pos h1, if_pos (show d ≤ n - 1 by omega)] at h
            simp only [List.mem_singleton] at h
            rw [if_pos (show d ≤ n by omega)]
            exact .inl (.inl (by simp only [List.mem_singleton]; omega))
          · rw [if_neg h1, if_neg (show ¬ d ≤ n by omega)] at h
            cases h
        · rw [if_neg (fun e => hk e.1)] at h
          cases h
      · rcases fvss_sbs u k ks 0 d i hd h with h | h
        · exact .inl (.inr h)
        · exact .inr ⟨.inr h.1, h.2⟩
theorem fvss_sbs (u : Tr) : ∀ (k : Int) (ts : List Tr) (j : Nat) (d i : Int), 0 ≤ d → i ∈ fvss k (sbsTs u k ts j d d) j d → i + 1 ∈ fvss k ts j d ∨ (0 ∈ fvss k ts j d ∧ i ∈ fvs u 0)
  | _, [], _, _, _, _, h => by cases h
  | k, t :: ts, j, d, i, hd, h => by
    have := und_le k j
    simp only [sbsTs, fvss, List.mem_append] at h ⊢
    rcases h with h | h
    · rcases fvs_sbs u t _ i (by omega) h with h | h
      · exact .inl (.inl h)
      · exact .inr ⟨.inl h.1, h.2⟩
    · rcases fvss_sbs u k ts (j + 1) d i hd h with h | h
      · exact .inl (.inr h)
      · exact .inr ⟨.inr h.1, h.2⟩
end
mutual
theorem sbs_unused (u u' : Tr) : ∀ (t : Tr) (d : Int), ¬ 0 ∈ fvs t d → sbsT u t d d = sbsT u' t d d
  | .mk k n ks, d, h => by
    simp only [fvs, List.mem_append, not_or] at h
    have hv : ¬ (k = 1 ∧ n = d) := by
      rintro ⟨rfl, rfl⟩
      exact h.1 (by simp)
    rw [sbsT_miss u ks hv, sbsT_miss u' ks hv, sbss_unused u u' k ks 0 d h.2]
theorem sbss_unused (u u' : Tr) : ∀ (k : Int) (ts : List Tr) (j : Nat) (d : Int), ¬ 0 ∈ fvss k ts j d → sbsTs u k ts j d d = sbsTs u' k ts j d d
  | _, [], _, _, _ => rfl
  | k, t :: ts, j, d, h => by
    simp only [fvss, List.mem_append, not_or] at h
    simp only [sbsTs]
    rw [sbs_unused u u' t _ h.1, sbss_unused u u' k ts (j + 1) d h.2]
end
mutual
theorem fvs_nonneg : ∀ (t : Tr) (b i : Int), i ∈ fvs t b → 0 ≤ i
  | .mk k n ks, b, i, h => by
    simp only [fvs, List.mem_append] at h
    rcases h with h | h
    · split at h
      · rename_i h1
        simp only [List.mem_singleton] at h
        omega
      · cases h
    · exact fvss_nonneg k ks 0 b i h
theorem fvss_nonneg : ∀ (k : Int) (ts : List Tr) (j : Nat) (b i : Int), i ∈ fvss k ts j b → 0 ≤ i
  | _, [], _, _, _, h => by cases h
  | k, t :: ts, j, b, i, h => by
    simp only [fvss, List.mem_append] at h
    rcases h with h | h
    · exact fvs_nonneg t _ i h
    · exact fvss_nonneg k ts (j + 1) b i h
end
/-- The body of a definition. -/
def bodyD (ks : List Tr) (j : Nat) : Tr := ks.getD (j * 2 + 1) dflt0
theorem unfD_closed (ks : List Tr) (t : Tr) (hv : valid sigT t = true) (h : mxf t 0 ≤ 0) : ∀ j, unfD ks j t = (t, true)
  | 0 => rfl
  | j + 1 => by
    unfold unfD
    rw [sbs_closed _ t 0 h, if_pos hv]
    exact unfD_closed ks t hv h j
theorem unfD_mxf (ks : List Tr) : ∀ (j : Nat) (t x : Tr), (∀ i, i < j → mxf (bodyD ks i) 0 ≤ (i : Int)) → mxf t 0 ≤ (j : Int) → unfD ks j t = (x, true) → mxf x 0 ≤ 0
  | 0, t, x, _, h, e => by
    cases e
    exact h
  | j + 1, t, x, hb, h, e => by
    unfold unfD at e
    split at e
    · refine unfD_mxf ks j _ x (fun i hi => hb i (by omega)) ?_ e
      exact mxf_sbs _ j (hb j (by omega)) (by omega) t 0 (by omega) (by simpa using h)
    · cases e
theorem unfD_valid (ks : List Tr) : ∀ (j : Nat) (t x : Tr), valid sigT t = true → unfD ks j t = (x, true) → valid sigT x = true
  | 0, t, x, hv, e => by
    cases e
    exact hv
  | j + 1, t, x, hv, e => by
    unfold unfD at e
    split at e
    · rename_i h
      exact unfD_valid ks j _ x h e
    · cases e
theorem unfD_reds (ks : List Tr) : ∀ (j : Nat) (t t' x y : Tr), Reds t t' → unfD ks j t = (x, true) → unfD ks j t' = (y, true) → Reds x y
  | 0, t, t', x, y, h, e, e' => by
    cases e
    cases e'
    exact h
  | j + 1, t, t', x, y, h, e, e' => by
    unfold unfD at e e'
    split at e
    · split at e'
      · exact unfD_reds ks j _ _ x y (h.sbs _ (by omega) (by omega)) e e'
      · cases e'
    · cases e
theorem markF_keep : ∀ (fs : List Int) (top : Int) (s : List Bool) (q : Nat), s.getD q false = true → (markF fs top s).getD q false = true
  | [], _, _, _, h => h
  | i :: fs, top, s, q, h => by
    refine markF_keep fs top _ q ?_
    simp only [List.getD_eq_getElem?_getD] at h ⊢
    rw [List.getElem?_set]
    by_cases e : (top - 1 - i).toNat = q
    · rw [if_pos e]
      by_cases hl : (top - 1 - i).toNat < s.length
      · rw [if_pos hl]; rfl
      · rw [List.getElem?_eq_none (by omega)] at h
        cases h
    · rw [if_neg e]; exact h
theorem markF_mark : ∀ (fs : List Int) (top : Int) (s : List Bool) (i : Int), i ∈ fs → (top - 1 - i).toNat < s.length → (markF fs top s).getD (top - 1 - i).toNat false = true
  | x :: fs, top, s, i, h, hl => by
    rcases List.mem_cons.1 h with rfl | h
    · refine markF_keep fs top _ _ ?_
      simp only [List.getD_eq_getElem?_getD]
      rw [List.getElem?_set, if_pos rfl, if_pos hl]
      rfl
    · exact markF_mark fs top (s.set (top - 1 - x).toNat true) i h (by simpa using hl)
theorem usD_keep (ks : List Tr) : ∀ (j : Nat) (s : List Bool) (q : Nat), s.getD q false = true → (usD ks j s).getD q false = true
  | 0, _, _, h => h
  | j + 1, s, q, h => by
    unfold usD
    refine usD_keep ks j _ q ?_
    split
    · exact markF_keep _ _ _ _ h
    · exact h
theorem unfD_used (ks ks' : List Tr) : ∀ (j : Nat) (t : Tr) (s : List Bool), j ≤ s.length → (∀ i ∈ fvs t 0, 0 ≤ i ∧ i < (j : Int) ∧ s.getD ((j : Int) - 1 - i).toNat false = true) → (∀ i, i < j → ∀ x ∈ fvs (bodyD ks i) 0, 0 ≤ x ∧ x < (i : Int)) →
    (∀ q, q < j → (usD ks j s).getD q false = true → bodyD ks' q = bodyD ks q) → unfD ks' j t = unfD ks j t
  | 0, _, _, _, _, _, _ => rfl
  | j + 1, t, s, hl, hf, hb, hq => by
    unfold unfD
    have hnat : ((j + 1 : Nat) : Int) - 1 = j := by omega
    by_cases hs : s.getD j false = true
    · have hus : usD ks (j + 1) s = usD ks j (markF (fvs (bodyD ks j) 0) j s) := by
        conv => lhs; unfold usD
        rw [if_pos hs]
        rfl
      rw [hus] at hq
      have he := hq j (by omega) (usD_keep ks j _ j (markF_keep _ _ _ _ hs))
      have he' : ks'.getD (j * 2 + 1) dflt0 = ks.getD (j * 2 + 1) dflt0 := he
      rw [he']
      rw [unfD_used ks ks' j (sbsT (ks.getD (j * 2 + 1) dflt0) t 0 0) (markF (fvs (bodyD ks j) 0) j s) (by rw [markF_len]; omega) ?_ (fun i hi => hb i (by omega)) (fun q hq1 hq2 => hq q (by omega) hq2)]
      intro i hi
      rcases fvs_sbs _ t 0 i (by omega) hi with h | ⟨h0, h⟩
      · obtain ⟨h1, h2, h3⟩ := hf _ h
        have h4 : (((j + 1 : Nat) : Int) - 1 - (i + 1)).toNat = ((j : Int) - 1 - i).toNat := by omega
        rw [h4] at h3
        obtain h6 | h6 : 0 ≤ i ∨ i = -1 := by omega
        · exact ⟨h6, by omega, markF_keep _ _ _ _ h3⟩
        · subst h6
          exfalso
          exact absurd (fvs_nonneg _ 0 _ hi) (by omega)
      · obtain ⟨h1, h2⟩ := hb j (by omega) i h
        exact ⟨h1, h2, markF_mark _ _ _ _ h (by omega)⟩
    · have hus : usD ks (j + 1) s = usD ks j s := by
        conv => lhs; unfold usD
        rw [if_neg hs]
      rw [hus] at hq
      have h0 : ¬ (0 : Int) ∈ fvs t 0 := fun h => hs (by
        have := (hf 0 h).2.2
        rwa [show (((j + 1 : Nat) : Int) - 1 - 0).toNat = j by omega] at this)
      rw [sbs_unused (ks'.getD (j * 2 + 1) dflt0) (ks.getD (j * 2 + 1) dflt0) t 0 h0]
      rw [unfD_used ks ks' j (sbsT (ks.getD (j * 2 + 1) dflt0) t 0 0) s (by omega) ?_ (fun i hi => hb i (by omega)) (fun q hq1 hq2 => hq q (by omega) hq2)]
      intro i hi
      rcases fvs_sbs _ t 0 i (by omega) hi with h | ⟨h0', h⟩
      · obtain ⟨h1, h2, h3⟩ := hf _ h
        have h4 : (((j + 1 : Nat) : Int) - 1 - (i + 1)).toNat = ((j : Int) - 1 - i).toNat := by omega
        rw [h4] at h3
        exact ⟨fvs_nonneg _ 0 _ hi, by omega, h3⟩
      · exact absurd h0' h0
end Go.Proofs.Ytappakllopkfiaa
namespace Go.Proofs.Ytappakllopkfiaa
open Go.RowKit
set_option linter.unusedVariables false
theorem maxFreeTop_any (t : Tr) (w : World) (v : Value) (hin : Lies w t v) : Calls Try.prog 42 #[v] w fun e w' => e = .returned (.int .i64 (mxV t)) ∧ Ext w w' := by
  have HV := Lib.hid (fun W (hW : Ext w W) => validTerm_any t W v (hin.ext hW))
  have HX := Lib.hid (fun (h : valid sigT t = true) W (hW : Ext w W) => maxFree_any t W v (hin.ext hW) h)
  have E := Lib.hid (show mxV t = if valid sigT t = true then mxf t 0 else -1 from rfl)
  obtain ⟨z, hz⟩ : ∃ z, valid sigT t = z := ⟨_, rfl⟩
  rw [hz] at HV E HX
  clear hz
  obtain ⟨m, hm⟩ : ∃ m, mxf t 0 = m := ⟨_, rfl⟩
  rw [hm] at HX E
  clear hm
  obtain ⟨k, n, ks⟩ := t
  obtain ⟨A, cap, rfl, hl, hc, hK⟩ := Lies.mk_iff.1 hin
  have hx0 := (Ext.refl w).alloc (.cells #[.int .i64 k, .int .i64 n, .slice A ks.length cap] 44)
  have hbB := heap_alloc_new w (.cells #[.int .i64 k, .int .i64 n, .slice A ks.length cap] 44)
  cases z with
  | false =>
    have E2 := Lib.hid (E.out.trans (if_neg (by decide)))
    clear E HX
    go_enter Try.func42, Try.ntmps42
    go_wp2_with fail
    refine (HV.out _ hx0).mono ?_
    rintro e w1 ⟨rfl, h1⟩
    go_wp2_with fail
    go_ret
    exact ⟨by rw [E2.out]; rfl, hx0.trans h1⟩
  | true =>
    have E2 := Lib.hid (E.out.trans (if_pos rfl))
    have HX2 := Lib.hid (HX.out rfl)
    clear E HX
    go_enter Try.func42, Try.ntmps42
    go_wp2_with fail
    refine (HV.out _ hx0).mono ?_
    rintro e w1 ⟨rfl, h1⟩
    obtain ⟨z0, z1, z2, -, -, -⟩ := own3 (h1.blk hbB)
    go_wp2_with fail
    refine (HX2.out _ (hx0.trans h1)).mono ?_
    rintro e w2 ⟨rfl, h2⟩
    go_wp2_with fail
    go_ret
    exact ⟨by rw [E2.out]; rfl, (hx0.trans h1).trans h2⟩
end Go.Proofs.Ytappakllopkfiaa
namespace Go.Proofs.Ytappakllopkfiaa
open Go.RowKit
set_option linter.unusedVariables false
def SameTermC (t : Tr) : Prop := ∀ (w : World) (t' : Tr) (v v' : Value), Lies w t v → Lies w t' v' →
  Calls Try.prog 34 #[v, v'] w fun e w' => e = .returned (.bool (eqTr t t')) ∧ Ext w w'
set_option maxHeartbeats 400000 in
theorem equalTerm (ks ks' : List Tr) (hk : ∀ t ∈ ks, SameTermC t) (w : World) (A A' : Option Addr) (cap cap' : Nat) (h : LiesK w A ks) (hl : ks.length ≤ cap) (hc : cap ≤ maxLen) (h' : LiesK w A' ks') (hl' : ks'.length ≤ cap') (hc' : cap' ≤ maxLen) :
    Calls Try.prog 95 #[.slice A ks.length cap, .slice A' ks'.length cap', .func (.func 34) #[] #[]] w fun e w' => e = .returned (.bool (eqTs ks ks')) ∧ Ext w w' := by
  unfold maxLen at hc hc'
  by_cases h0 : ks.length = ks'.length
  · have hd : ((ks.length : Int) != (ks'.length : Int)) = false := by rw [h0]; simp
    have H0 := Lib.hid h0
    clear h0
    go_enter Try.func95, Try.ntmps95
    go_wp2_with fail
    go_loopw [17] (fun i wr => ∃ j : Nat, j ≤ ks.length ∧ i = .int .i64 j ∧ eqTs ks ks' = eqTs (ks.drop j) (ks'.drop j) ∧ Ext w wr) (fun i _ => ks.length - (intOf i).toNat)
    case atStart => exact ⟨0, Nat.zero_le _, rfl, rfl, Ext.refl _⟩
    case round =>
      obtain ⟨j, hj, rfl, hsz, hb⟩ := hrel
      have HS := Lib.hid hsz
      clear hsz
      by_cases hlt : j < ks.length
      · have hlt' : j < ks'.length := by rw [← H0.out]; exact hlt
        obtain ⟨b, o, k, n, B, c, kids, rfl, HK, c0, c1, c2, hkl, hkc, hK, hin, hmem⟩ := h.get hb hlt
        obtain ⟨b', o', k', n', B', c', kids', rfl, HK', c0', c1', c2', hkl', hkc', hK', hin', hmem'⟩ := h'.get hb hlt'
        have hlb := World.block_lt_of_cell? _ _ c0'
        have hstep : eqTs (ks.drop j) (ks'.drop j) = (eqTr (.mk k n kids) (.mk k' n' kids') && eqTs (ks.drop (j + 1)) (ks'.drop (j + 1))) := by
          rw [List.drop_eq_getElem_cons hlt, List.drop_eq_getElem_cons hlt', HK.out, HK'.out]
          conv => lhs; unfold eqTs
        have HST := Lib.hid hstep
        clear hstep
        go_wp2_with fail
        refine (hk _ hmem _ (.mk k' n' kids') _ _ (hin.ext (((Ext.refl wr).alloc _).alloc _)) (hin'.ext (((Ext.refl wr).alloc _).alloc _))).mono ?_
        rintro e w1 ⟨rfl, hb1⟩
        have hb2 := hb.trans hb1.pre.pre
        generalize eqTr (.mk k n kids) (.mk k' n' kids') = q at HST
        cases q with
        | false =>
          go_wp2_with fail
          go_ret
          exact ⟨by rw [HS.out, HST.out]; rfl, hb2⟩
        | true =>
          go_wp2_with fail
          go_roundw
          case rel => exact ⟨j + 1, by omega, by go_num, by rw [HS.out, HST.out]; rfl, hb2⟩
          case measure => simp [intOf]; omega
      · go_wp2_with fail
        go_ret
        exact ⟨by rw [HS.out, List.drop_of_length_le (by omega), List.drop_of_length_le (by rw [← H0.out]; omega)]; rfl, hb⟩
  · have hd : ((ks.length : Int) != (ks'.length : Int)) = true := by rw [bne_iff_ne]; omega
    have e : eqTs ks ks' = false := by
      rw [Bool.eq_false_iff]
      intro he
      exact h0 (eqTs_len he)
    have E := Lib.hid e
    clear e
    go_enter Try.func95, Try.ntmps95
    go_wp2_with fail
    go_ret
    exact ⟨by rw [E.out]; rfl, Ext.refl _⟩
theorem sameTerm_any : ∀ t : Tr, SameTermC t := Tr.ind fun k n ks hk => by
  intro w t' v v' h h'
  obtain ⟨A, cap, rfl, hl, hc, hK⟩ := Lies.mk_iff.1 h
  obtain ⟨k', n', ks'⟩ := t'
  obtain ⟨A', cap', rfl, hl', hc', hK'⟩ := Lies.mk_iff.1 h'
  clear h h'
  have HW := fun W (hW : Ext w W) => equalTerm ks ks' hk W A A' cap cap' (hK.ext hW) hl hc (hK'.ext hW) hl' hc'
  have HS := Lib.hid HW
  clear HW
  by_cases h1 : k = k'
  · by_cases h2 : n = n'
    · have e : eqTr (.mk k n ks) (.mk k' n' ks') = eqTs ks ks' := by simp [eqTr, h1, h2]
      have E := Lib.hid e
      have d1 : (k == k') = true := by simp [h1]
      have d2 : (n == n') = true := by simp [h2]
      clear e h1 h2
      go_enter Try.func34, Try.ntmps34
      go_wp2_with fail
      refine (HS.out _ (((Ext.refl w).alloc _).alloc _)).mono ?_
      rintro e w1 ⟨rfl, hE⟩
      go_wp2_with fail
      go_ret
      exact ⟨by rw [E.out]; rfl, hE.pre.pre⟩
    · have e : eqTr (.mk k n ks) (.mk k' n' ks') = false := by simp [eqTr, h2]
      have E := Lib.hid e
      have d1 : (k == k') = true := by simp [h1]
      have d2 : (n == n') = false := by simpa using h2
      clear e h1 h2
      go_enter Try.func34, Try.ntmps34
      go_wp2_with fail
      go_ret
      exact ⟨by rw [E.out]; rfl, ((Ext.refl w).alloc _).alloc _⟩
  · have e : eqTr (.mk k n ks) (.mk k' n' ks') = false := by simp [eqTr, h1]
    have E := Lib.hid e
    have d1 : (k == k') = false := by simpa using h1
    clear e h1
    go_enter Try.func34, Try.ntmps34
    go_wp2_with fail
    go_ret
    exact ⟨by rw [E.out]; rfl, ((Ext.refl w).alloc _).alloc _⟩
end Go.Proofs.Ytappakllopkfiaa
namespace Go.Proofs.Ytappakllopkfiaa
open Go.RowKit
set_option linter.unusedVariables false
mutual
theorem tms_le : ∀ (t : Tr) (x : Int), 0 ≤ tms t x ∧ tms t x ≤ cnt t
  | .mk k n ks, x => by
    have := tmss_le k ks 0 x
    unfold tms
    simp only [cnt]
    split <;> omega
theorem tmss_le : ∀ (k : Int) (ts : List Tr) (i : Nat) (x : Int), 0 ≤ tmss k ts i x ∧ tmss k ts i x ≤ cnts ts
  | _, [], _, _ => by simp [tmss, cnts]
  | k, t :: ts, i, x => by
    have h1 := tms_le t (x + und k i)
    have h2 := tmss_le k ts (i + 1) x
    unfold tmss
    simp only [cnts]
    omega
end
def TimesC (t : Tr) : Prop := ∀ (w : World) (v : Value) (x d : Int), shape sigT t d = true → Lies w t v → 0 ≤ x → x + cnt t ≤ 1000000 → Calls Try.prog 123 #[v, .int .i64 x] w fun e w' => e = .returned (.int .i64 (tms t x)) ∧ Ext w w'
set_option maxRecDepth 100000 in
set_option maxHeartbeats 1000000 in
theorem l2Times_any : ∀ t : Tr, TimesC t := Tr.ind fun k n ks hk => by
  intro w v x d hsh hin hb0 hb1
  obtain ⟨A, cap, rfl, hl, hc, hK⟩ := Lies.mk_iff.1 hin
  obtain ⟨-, hn0, hn1, hsk⟩ := shape_kids' hsh
  have hlc := len_le_cnts ks
  have hcc := hc
  unfold maxLen at hcc
  simp only [cnt] at hb1
  have hmost : n ≤ 20 := by
    have : sigT.most k = mostT k := rfl
    rw [this] at hn1
    unfold mostT at hn1
    split at hn1
    · omega
    · split at hn1 <;> omega
  have HTOT := Lib.hid (show tms (.mk k n ks) x = (if k = 1 ∧ n = x then 1 else 0) + tmss k ks 0 x from by conv => lhs; unfold tms)
  obtain ⟨z0, hz0⟩ : ∃ z0 : Int, z0 = if k = 1 ∧ n = x then 1 else 0 := ⟨_, rfl⟩
  rw [← hz0] at HTOT
  have hzr : 0 ≤ z0 ∧ z0 ≤ 1 := by rw [hz0]; split <;> omega
  obtain ⟨b1, d1⟩ : ∃ b1, (k == 1) = b1 := ⟨_, rfl⟩
  obtain ⟨b2, d2⟩ : ∃ b2, (n == x) = b2 := ⟨_, rfl⟩
  have hzz : z0 = if (b1 && b2) = true then 1 else 0 := by
    rw [hz0, ← d1, ← d2]; simp
  clear hz0
  cases b1 <;> cases b2
  all_goals simp only [Bool.and_true, Bool.and_false, if_true, Bool.false_eq_true, if_false] at hzz
  all_goals (
    go_enter Try.func123, Try.ntmps123
    go_wp2_with fail
    have hx := (Ext.refl w).alloc (.cells #[.int .i64 k, .int .i64 n, .slice A ks.length cap] 44)
    have hbx := heap_alloc_new w (.cells #[.int .i64 k, .int .i64 n, .slice A ks.length cap] 44)
    generalize w.alloc _ = w1 at hx hbx
    go_loopw [5, 6] (fun q i wr => ∃ (j : Nat) (m : Int), j ≤ ks.length ∧ i = .int .i64 j ∧ q = .int .i64 m ∧ 0 ≤ m ∧ z0 + tmss k ks 0 x = m + tmss k (ks.drop j) j x ∧ m + cnts (ks.drop j) ≤ 1 + cnts ks ∧ Ext w1 wr) (fun _ i _ => ks.length - (intOf i).toNat)
    case atStart => exact ⟨0, z0, Nat.zero_le _, rfl, by rw [hzz], hzr.1, rfl, by rw [List.drop_zero]; omega, Ext.refl _⟩
    case round =>
      obtain ⟨j, m, hj, rfl, rfl, hm0, heq, hmb, he⟩ := hrel
      have HE := Lib.hid heq
      clear heq
      have h1r := hx.trans he
      obtain ⟨x0, x1, x2, -, -, -⟩ := own3 (he.blk hbx)
      have hub := und_le k j
      by_cases hlt : j < ks.length
      · obtain ⟨b', o, k', n', A', cap', kids, rfl, HK, c0, c1, c2, hkl, hkc, hK', hin', hmem⟩ := hK.get h1r hlt
        have hst : tmss k (ks.drop j) j x = tms (.mk k' n' kids) (x + und k j) + tmss k (ks.drop (j + 1)) (j + 1) x := by
          rw [List.drop_eq_getElem_cons hlt, HK.out]; conv => lhs; unfold tmss
        have hcm := cnt_mem hmem
        have hcd : cnts (ks.drop j) = cnt (.mk k' n' kids) + cnts (ks.drop (j + 1)) := by
          rw [List.drop_eq_getElem_cons hlt, HK.out]; simp only [cnts]
        have hmb2 : m + (cnt (.mk k' n' kids) : Int) ≤ 1 + cnts ks := by omega
        have hj' : (j : Int) < (ks.length : Int) := by omega
        have HR := Lib.hid (hk _ hmem)
        have hsk' := hsk _ hmem
        obtain ⟨u, hu⟩ : ∃ u, u = und k j := ⟨_, rfl⟩
        have HU := Lib.hid (fun W => l2Under_any k j W)
        rw [← hu] at HU hub hst
        have hnn := tms_le (.mk k' n' kids) (x + u)
        obtain ⟨r, hr⟩ : ∃ r, r = tms (.mk k' n' kids) (x + u) := ⟨_, rfl⟩
        have HQ := Lib.hid (fun W (hW : Ext wr W) => HR.out W _ (x + u) _ hsk' (hin'.ext hW) (by omega) (by omega))
        rw [← hr] at hst hnn HQ
        have HT := Lib.hid hst
        clear hu hst hr HR
        have y0 := Later.cell x0
        have y2 := Later.cell x2
        have y3 := Later.cell c0
        have y4 := Later.cell c1
        have y5 := Later.cell c2
        go_wp2_with fail
        refine wp_region_later (by kernel_rfl) (by kernel_rfl) ?_
        repeat (go_big_quiet_step (first | (go_at_call 171; exact later_of_same (HU.out _)) | (go_at_call 123; exact later_of (HQ.out _ (Later.ext _)))))
        refine wpQuiet_nil ?_
        intro w3 hw'
        obtain ⟨⟨_, h3⟩, rfl⟩ := hw'
        clear y0 y2 y3 y4 y5
        go_wp2_with fail
        go_roundw
        case rel => exact ⟨j + 1, m + r, by omega, by go_num, rfl, by omega, by rw [HE.out, HT.out, Int.add_assoc], by omega, he.trans h3⟩
        case measure => simp [intOf]; omega
      · go_wp2_with fail
        go_ret
        exact ⟨by rw [HTOT.out, HE.out, List.drop_of_length_le (by omega)]; simp only [tmss]; rw [Int.add_zero]; rfl, h1r⟩)
end Go.Proofs.Ytappakllopkfiaa

/-
  Lemmas towards the law, 20: Par.
-/
import Derived.Test.YtdkamgafpphdjaaEAR
namespace Go.Proofs.Ytdkamgafpphdjaa
open Go.RowKit
set_option linter.unusedVariables false
theorem shfT_mk (y : Int) (k n : Int) (ks : List Tr) (c : Int) : shfT y (.mk k n ks) c = .mk k (if k = 1 ∧ c ≤ n then n + y else n) (shfTs y k ks 0 c) := by
  conv => lhs; unfold shfT
theorem sbsT_mk (u : Tr) (k n : Int) (ks : List Tr) (x d : Int) : sbsT u (.mk k n ks) x d = if k = 1 ∧ n = x then shfT d u 0 else .mk k (if k = 1 ∧ x < n then n - 1 else n) (sbsTs u k ks 0 x d) := by
  conv => lhs; unfold sbsT
theorem sbsT_hit (u : Tr) {k n : Int} (ks : List Tr) {x d : Int} (h : k = 1 ∧ n = x) : sbsT u (.mk k n ks) x d = shfT d u 0 := by rw [sbsT_mk, if_pos h]
theorem sbsT_miss (u : Tr) {k n : Int} (ks : List Tr) {x d : Int} (h : ¬ (k = 1 ∧ n = x)) : sbsT u (.mk k n ks) x d = .mk k (if k = 1 ∧ x < n then n - 1 else n) (sbsTs u k ks 0 x d) := by rw [sbsT_mk, if_neg h]
mutual
theorem shf_add (a b : Int) (hb : 0 ≤ b) : ∀ (t : Tr) (c0 c1 : Int), c0 ≤ c1 → c1 ≤ c0 + b → shfT a (shfT b t c0) c1 = shfT (b + a) t c0
  | .mk k n ks, c0, c1, h0, h1 => by
    rw [shfT_mk, shfT_mk, shfT_mk, shfs_add a b hb k ks 0 c0 c1 h0 h1]
    congr 1
    by_cases hk : k = 1
    · subst hk
      by_cases h2 : c0 ≤ n
      · rw [if_pos (show (1 : Int) = 1 ∧ c0 ≤ n from ⟨rfl, h2⟩), if_pos (show (1 : Int) = 1 ∧ c0 ≤ n from ⟨rfl, h2⟩), if_pos ⟨rfl, by omega⟩]; omega
      · rw [if_neg (show ¬ ((1 : Int) = 1 ∧ c0 ≤ n) from fun h => h2 h.2), if_neg (show ¬ ((1 : Int) = 1 ∧ c0 ≤ n) from fun h => h2 h.2), if_neg (fun h => by omega)]
    · rw [if_neg (fun h => hk h.1), if_neg (fun h => hk h.1), if_neg (fun h => hk h.1)]
theorem shfs_add (a b : Int) (hb : 0 ≤ b) : ∀ (k : Int) (ts : List Tr) (i : Nat) (c0 c1 : Int), c0 ≤ c1 → c1 ≤ c0 + b → shfTs a k (shfTs b k ts i c0) i c1 = shfTs (b + a) k ts i c0
  | _, [], _, _, _, _, _ => rfl
  | k, t :: ts, i, c0, c1, h0, h1 => by
    simp only [shfTs]
    rw [shf_add a b hb t _ _ (by omega) (by omega), shfs_add a b hb k ts (i + 1) c0 c1 h0 h1]
end
mutual
theorem shf_comm (a b : Int) (ha : 0 ≤ a) (hb : 0 ≤ b) : ∀ (t : Tr) (c0 c1 : Int), c0 ≤ c1 → shfT a (shfT b t c0) (c1 + b) = shfT b (shfT a t c1) c0
  | .mk k n ks, c0, c1, h0 => by
    rw [shfT_mk, shfT_mk, shfT_mk, shfT_mk, shfs_comm a b ha hb k ks 0 c0 c1 h0]
    congr 1
    by_cases hk : k = 1
    · subst hk
      by_cases h2 : c0 ≤ n
      · rw [if_pos (show (1 : Int) = 1 ∧ c0 ≤ n from ⟨rfl, h2⟩)]
        by_cases h3 : c1 ≤ n
        · rw [if_pos ⟨rfl, by omega⟩, if_pos (show (1 : Int) = 1 ∧ c1 ≤ n from ⟨rfl, h3⟩), if_pos ⟨rfl, by omega⟩]; omega
        · rw [if_neg (fun h => by omega), if_neg (show ¬ ((1 : Int) = 1 ∧ c1 ≤ n) from fun h => h3 h.2), if_pos ⟨rfl, h2⟩]
      · rw [if_neg (show ¬ ((1 : Int) = 1 ∧ c0 ≤ n) from fun h => h2 h.2), if_neg (fun h => by omega), if_neg (show ¬ ((1 : Int) = 1 ∧ c1 ≤ n) from fun h => by omega), if_neg (fun h => by omega)]
    · rw [if_neg (fun h => hk h.1), if_neg (fun h => hk h.1), if_neg (fun h => hk h.1), if_neg (fun h => hk h.1)]
theorem shfs_comm (a b : Int) (ha : 0 ≤ a) (hb : 0 ≤ b) : ∀ (k : Int) (ts : List Tr) (i : Nat) (c0 c1 : Int), c0 ≤ c1 → shfTs a k (shfTs b k ts i c0) i (c1 + b) = shfTs b k (shfTs a k ts i c1) i c0
  | _, [], _, _, _, _ => rfl
  | k, t :: ts, i, c0, c1, h0 => by
    simp only [shfTs]
    rw [show c1 + b + und k i = c1 + und k i + b by omega, shf_comm a b ha hb t _ _ (by omega), shfs_comm a b ha hb k ts (i + 1) c0 c1 h0]
end
mutual
/-- A shift at or below the variable that is replaced. -/
theorem shf_sbs_low (u : Tr) (y : Int) (hy : 0 ≤ y) : ∀ (t : Tr) (x d c : Int), 0 ≤ c → c ≤ x → c ≤ d → shfT y (sbsT u t x d) c = sbsT u (shfT y t c) (x + y) (d + y)
  | .mk k n ks, x, d, c, h0, h1, h2 => by
    by_cases hv : k = 1 ∧ n = x
    · obtain ⟨rfl, rfl⟩ := hv
      rw [sbsT_hit u ks ⟨rfl, rfl⟩, shfT_mk, if_pos (show (1 : Int) = 1 ∧ c ≤ n from ⟨rfl, h1⟩), sbsT_hit u _ ⟨rfl, rfl⟩]
      exact shf_add y d (by omega) u 0 c h0 (by omega)
    · rw [sbsT_miss u ks hv, shfT_mk, shfT_mk]
      have hne : ¬ (k = 1 ∧ (if k = 1 ∧ c ≤ n then n + y else n) = x + y) := by
        rintro ⟨rfl, h⟩
        by_cases h3 : c ≤ n
        · rw [if_pos ⟨rfl, h3⟩] at h; exact hv ⟨rfl, by omega⟩
        · rw [if_neg (fun h => h3 h.2)] at h; omega
      rw [sbsT_miss u _ hne, shfs_sbs_low u y hy k ks 0 x d c h0 h1 h2]
      congr 1
      by_cases hk : k = 1
      · subst hk
        simp only [true_and]
        have hn : n ≠ x := fun h => hv ⟨rfl, h⟩
        by_cases h3 : x < n
        · rw [if_pos h3, if_pos (show c ≤ n - 1 by omega), if_pos (show c ≤ n by omega), if_pos (by omega)]; omega
        · rw [if_neg h3]
          by_cases h4 : c ≤ n
          · rw [if_pos h4, if_neg (by omega)]
          · rw [if_neg h4, if_neg (by omega)]
      · rw [if_neg (fun h => hk h.1), if_neg (fun h => hk h.1), if_neg (fun h => hk h.1), if_neg (fun h => hk h.1)]
theorem shfs_sbs_low (u : Tr) (y : Int) (hy : 0 ≤ y) : ∀ (k : Int) (ts : List Tr) (i : Nat) (x d c : Int), 0 ≤ c → c ≤ x → c ≤ d → shfTs y k (sbsTs u k ts i x d) i c = sbsTs u k (shfTs y k ts i c) i (x + y) (d + y)
  | _, [], _, _, _, _, _, _, _ => rfl
  | k, t :: ts, i, x, d, c, h0, h1, h2 => by
    have := und_le k i
    simp only [sbsTs, shfTs]
    rw [shf_sbs_low u y hy t _ _ _ (by omega) (by omega) (by omega), shfs_sbs_low u y hy k ts (i + 1) x d c h0 h1 h2, show x + y + und k i = x + und k i + y by omega, show d + y + und k i = d + und k i + y by omega]
end
mutual
/-- A shift above the variable that is replaced. -/
theorem shf_sbs_high (u : Tr) (y c : Int) (hy : 0 ≤ y) (hc : 0 ≤ c) : ∀ (t : Tr) (x d : Int), 0 ≤ d → x ≤ c + d → shfT y (sbsT u t x d) (c + d) = sbsT (shfT y u c) (shfT y t (c + d + 1)) x d
  | .mk k n ks, x, d, h0, h1 => by
    by_cases hv : k = 1 ∧ n = x
    · obtain ⟨rfl, rfl⟩ := hv
      rw [sbsT_hit u ks ⟨rfl, rfl⟩, shfT_mk, if_neg (show ¬ ((1 : Int) = 1 ∧ c + d + 1 ≤ n) from fun h => by omega), sbsT_hit _ _ ⟨rfl, rfl⟩]
      exact shf_comm y d hy h0 u 0 c hc
    · rw [sbsT_miss u ks hv, shfT_mk, shfT_mk]
      have hne : ¬ (k = 1 ∧ (if k = 1 ∧ c + d + 1 ≤ n then n + y else n) = x) := by
        rintro ⟨rfl, h⟩
        by_cases h3 : c + d + 1 ≤ n
        · rw [if_pos ⟨rfl, h3⟩] at h; omega
        · rw [if_neg (fun h => h3 h.2)] at h; exact hv ⟨rfl, h⟩
      rw [sbsT_miss _ _ hne, shfs_sbs_high u y c hy hc k ks 0 x d h0 h1]
      congr 1
      by_cases hk : k = 1
      · subst hk
        simp only [true_and]
        have hn : n ≠ x := fun h => hv ⟨rfl, h⟩
        by_cases h3 : x < n
        · rw [if_pos h3]
          by_cases h4 : c + d ≤ n - 1
          · rw [if_pos h4, if_pos (show c + d + 1 ≤ n by omega), if_pos (by omega)]; omega
          · rw [if_neg h4, if_neg (show ¬ c + d + 1 ≤ n by omega), if_pos h3]
        · rw [if_neg h3, if_neg (show ¬ c + d ≤ n by omega), if_neg (show ¬ c + d + 1 ≤ n by omega), if_neg h3]
      · rw [if_neg (fun h => hk h.1), if_neg (fun h => hk h.1), if_neg (fun h => hk h.1), if_neg (fun h => hk h.1)]
theorem shfs_sbs_high (u : Tr) (y c : Int) (hy : 0 ≤ y) (hc : 0 ≤ c) : ∀ (k : Int) (ts : List Tr) (i : Nat) (x d : Int), 0 ≤ d → x ≤ c + d → shfTs y k (sbsTs u k ts i x d) i (c + d) = sbsTs (shfT y u c) k (shfTs y k ts i (c + d + 1)) i x d
  | _, [], _, _, _, _, _ => rfl
  | k, t :: ts, i, x, d, h0, h1 => by
    have := und_le k i
    simp only [sbsTs, shfTs]
    rw [show c + d + und k i = c + (d + und k i) by omega, shf_sbs_high u y c hy hc t _ _ (by omega) (by omega), shfs_sbs_high u y c hy hc k ts (i + 1) x d h0 h1, show c + d + 1 + und k i = c + (d + und k i) + 1 by omega]
end
mutual
/-- A variable that does not occur is replaced. -/
theorem sbs_shf (u : Tr) (e : Int) (he : 0 ≤ e) : ∀ (t : Tr) (x d b : Int), b ≤ x → x ≤ b + e → sbsT u (shfT (e + 1) t b) x d = shfT e t b
  | .mk k n ks, x, d, b, h0, h1 => by
    rw [shfT_mk, shfT_mk]
    by_cases hk : k = 1
    · subst hk
      by_cases h2 : b ≤ n
      · rw [if_pos (show (1 : Int) = 1 ∧ b ≤ n from ⟨rfl, h2⟩), if_pos (show (1 : Int) = 1 ∧ b ≤ n from ⟨rfl, h2⟩), sbsT_miss _ _ (fun h => by omega), sbss_shf u e he 1 ks 0 x d b h0 h1, if_pos ⟨rfl, by omega⟩]
        congr 1
        omega
      · rw [if_neg (show ¬ ((1 : Int) = 1 ∧ b ≤ n) from fun h => h2 h.2), if_neg (show ¬ ((1 : Int) = 1 ∧ b ≤ n) from fun h => h2 h.2), sbsT_miss _ _ (fun h => by omega), sbss_shf u e he 1 ks 0 x d b h0 h1, if_neg (fun h => by omega)]
    · rw [if_neg (fun h => hk h.1), if_neg (fun h => hk h.1), sbsT_miss _ _ (fun h => hk h.1), sbss_shf u e he k ks 0 x d b h0 h1, if_neg (fun h => hk h.1)]
theorem sbss_shf (u : Tr) (e : Int) (he : 0 ≤ e) : ∀ (k : Int) (ts : List Tr) (i : Nat) (x d b : Int), b ≤ x → x ≤ b + e → sbsTs u k (shfTs (e + 1) k ts i b) i x d = shfTs e k ts i b
  | _, [], _, _, _, _, _, _ => rfl
  | k, t :: ts, i, x, d, b, h0, h1 => by
    simp only [shfTs, sbsTs]
    rw [sbs_shf u e he t _ _ _ (by omega) (by omega), sbss_shf u e he k ts (i + 1) x d b h0 h1]
end
mutual
/-- Two substitutions in a row. -/
theorem sbs_sbs (u a : Tr) (x d : Int) (hx : 0 ≤ x) (hd : 0 ≤ d) : ∀ (t : Tr) (b : Int), 0 ≤ b → sbsT u (sbsT a t b b) (x + b) (d + b) = sbsT (sbsT u a x d) (sbsT u t (x + 1 + b) (d + 1 + b)) b b
  | .mk k n ks, b, hb => by
    by_cases hk : k = 1
    · subst hk
      by_cases h1 : n = b
      · subst h1
        have e1 : sbsT a (.mk 1 n ks) n n = shfT n a 0 := sbsT_hit _ _ ⟨rfl, rfl⟩
        have e2 : sbsT u (.mk 1 n ks) (x + 1 + n) (d + 1 + n) = .mk 1 n (sbsTs u 1 ks 0 (x + 1 + n) (d + 1 + n)) := by
          rw [sbsT_miss _ _ (fun h => by omega), if_neg (fun h => by omega)]
        rw [e1, e2, sbsT_hit _ _ ⟨rfl, rfl⟩, shf_sbs_low u n hb a x d 0 (Int.le_refl _) hx hd]
      · by_cases h2 : n = x + 1 + b
        · have e1 : sbsT a (.mk 1 n ks) b b = .mk 1 (n - 1) (sbsTs a 1 ks 0 b b) := by
            rw [sbsT_miss _ _ (fun h => h1 h.2), if_pos ⟨rfl, by omega⟩]
          have e2 : sbsT u (.mk 1 n ks) (x + 1 + b) (d + 1 + b) = shfT (d + 1 + b) u 0 := sbsT_hit _ _ ⟨rfl, h2⟩
          rw [e1, e2, sbsT_hit _ _ ⟨rfl, by omega⟩, show d + 1 + b = d + b + 1 by omega, sbs_shf _ (d + b) (by omega) u b b 0 hb (by omega)]
        · have e1 : sbsT a (.mk 1 n ks) b b = .mk 1 (if b < n then n - 1 else n) (sbsTs a 1 ks 0 b b) := by
            rw [sbsT_miss _ _ (fun h => h1 h.2)]
            simp
          have e2 : sbsT u (.mk 1 n ks) (x + 1 + b) (d + 1 + b) = .mk 1 (if x + 1 + b < n then n - 1 else n) (sbsTs u 1 ks 0 (x + 1 + b) (d + 1 + b)) := by
            rw [sbsT_miss _ _ (fun h => h2 h.2)]
            simp
          rw [e1, e2]
          have hs := sbss_sbs u a x d hx hd 1 ks 0 b hb
          by_cases h3 : b < n
          · rw [if_pos h3]
            by_cases h4 : x + 1 + b < n
            · rw [if_pos h4, sbsT_miss _ _ (fun h => by omega), sbsT_miss _ _ (fun h => by omega), hs, if_pos ⟨rfl, by omega⟩, if_pos ⟨rfl, by omega⟩]
            · rw [if_neg h4, sbsT_miss _ _ (fun h => by omega), sbsT_miss _ _ (fun h => h1 h.2), hs, if_neg (fun h => by omega), if_pos ⟨rfl, h3⟩]
          · rw [if_neg h3, if_neg (show ¬ x + 1 + b < n by omega), sbsT_miss _ _ (fun h => by omega), sbsT_miss _ _ (fun h => h1 h.2), hs, if_neg (fun h => by omega), if_neg (fun h => h3 h.2)]
    · have q : ∀ (v : Tr) (ls : List Tr) (y z : Int), sbsT v (.mk k n ls) y z = .mk k n (sbsTs v k ls 0 y z) := fun v ls y z => by
        rw [sbsT_miss _ _ (fun h => hk h.1), if_neg (fun h => hk h.1)]
      rw [q, q, q, q, sbss_sbs u a x d hx hd k ks 0 b hb]
theorem sbss_sbs (u a : Tr) (x d : Int) (hx : 0 ≤ x) (hd : 0 ≤ d) : ∀ (k : Int) (ts : List Tr) (i : Nat) (b : Int), 0 ≤ b → sbsTs u k (sbsTs a k ts i b b) i (x + b) (d + b) = sbsTs (sbsT u a x d) k (sbsTs u k ts i (x + 1 + b) (d + 1 + b)) i b b
  | _, [], _, _, _ => rfl
  | k, t :: ts, i, b, hb => by
    have := und_le k i
    simp only [sbsTs]
    rw [show x + b + und k i = x + (b + und k i) by omega, show d + b + und k i = d + (b + und k i) by omega, sbs_sbs u a x d hx hd t _ (by omega), sbss_sbs u a x d hx hd k ts (i + 1) b hb, show x + 1 + b + und k i = x + 1 + (b + und k i) by omega, show d + 1 + b + und k i = d + 1 + (b + und k i) by omega]
end
theorem sbs_beta (u a t : Tr) {x d : Int} (hx : 0 ≤ x) (hd : 0 ≤ d) : sbsT u (sbsT a t 0 0) x d = sbsT (sbsT u a x d) (sbsT u t (x + 1) (d + 1)) 0 0 := by
  have := sbs_sbs u a x d hx hd t 0 (Int.le_refl _)
  simpa using this
theorem shf_beta (a t : Tr) {y c : Int} (hy : 0 ≤ y) (hc : 0 ≤ c) : shfT y (sbsT a t 0 0) c = sbsT (shfT y a c) (shfT y t (c + 1)) 0 0 := by
  have := shf_sbs_high a y c hy hc t 0 0 (Int.le_refl _) (by omega)
  simpa using this
def kd (ks : List Tr) (i : Nat) : Tr := ks.getD i dflt0
/-- The kind of redex that a node is, 0 for none. -/
def rdx (k : Int) (ks : List Tr) : Int :=
  if k = 5 then (if (kd ks 0).kind = 4 then 1 else 0)
  else if k = 9 then (if (kd ks 3).kind = 7 then 2 else if (kd ks 3).kind = 8 then 3 else 0)
  else if k = 12 then (if (kd ks 1).kind = 11 then 4 else 0)
  else if k = 15 then (if (kd ks 0).kind = 14 then 5 else 0)
  else if k = 16 then (if (kd ks 0).kind = 14 then 6 else 0)
  else 0
/-- The contractum. -/
def ctr (k : Int) (ks : List Tr) : Tr :=
  if k = 5 then sbsT (kd ks 1) (kd (kd ks 0).kids 1) 0 0
  else if k = 9 then (if (kd ks 3).kind = 7 then kd ks 1 else .mk 5 0 [.mk 5 0 [kd ks 2, kd (kd ks 3).kids 0], .mk 9 0 [kd ks 0, kd ks 1, kd ks 2, kd (kd ks 3).kids 0]])
  else if k = 12 then kd ks 2
  else if k = 15 then kd (kd ks 0).kids 1
  else kd (kd ks 0).kids 2
def rdxT : Tr → Int
  | .mk k _ ks => rdx k ks
def ctrT : Tr → Tr
  | .mk k _ ks => ctr k ks
/-- The kinds that are never redexes. -/
theorem rdx_none {k : Int} {ks : List Tr} (h : k ≠ 5) (h9 : k ≠ 9) (h12 : k ≠ 12) (h15 : k ≠ 15) (h16 : k ≠ 16) : rdx k ks = 0 := by
  unfold rdx
  rw [if_neg h, if_neg h9, if_neg h12, if_neg h15, if_neg h16]
mutual
inductive Par : Tr → Tr → Prop where
  | node {k n : Int} {ks ks' : List Tr} : Pars ks ks' → Par (.mk k n ks) (.mk k n ks')
  | red {k n : Int} {ks ks' : List Tr} : rdx k ks ≠ 0 → Pars ks ks' → Par (.mk k n ks) (ctr k ks')
inductive Pars : List Tr → List Tr → Prop where
  | nil : Pars [] []
  | cons {t t' : Tr} {ts ts' : List Tr} : Par t t' → Pars ts ts' → Pars (t :: ts) (t' :: ts')
end
mutual
theorem Par.refl : ∀ t : Tr, Par t t
  | .mk k n ks => .node (Pars.refl ks)
theorem Pars.refl : ∀ ts : List Tr, Pars ts ts
  | [] => .nil
  | t :: ts => .cons (Par.refl t) (Pars.refl ts)
end
theorem Pars.kd : ∀ {a b : List Tr}, Pars a b → ∀ i, Par (kd a i) (kd b i)
  | _, _, .nil, i => by simpa [Go.Proofs.Ytdkamgafpphdjaa.kd] using Par.refl dflt0
  | _, _, .cons h _, 0 => by simpa [Go.Proofs.Ytdkamgafpphdjaa.kd] using h
  | _, _, .cons _ h, i + 1 => by simpa [Go.Proofs.Ytdkamgafpphdjaa.kd] using h.kd i
/-- A node of a kind that is no redex keeps its kind. -/
theorem Par.keep {t t' : Tr} (h : Par t t') (h5 : t.kind ≠ 5) (h9 : t.kind ≠ 9) (h12 : t.kind ≠ 12) (h15 : t.kind ≠ 15) (h16 : t.kind ≠ 16) : t'.kind = t.kind ∧ t'.num = t.num ∧ Pars t.kids t'.kids := by
  cases h with
  | node h => exact ⟨rfl, rfl, h⟩
  | red h0 h => exact absurd (rdx_none h5 h9 h12 h15 h16) h0
theorem Pars.rdx {k : Int} {a b : List Tr} (h : Pars a b) (hr : rdx k a ≠ 0) : Go.Proofs.Ytdkamgafpphdjaa.rdx k b = Go.Proofs.Ytdkamgafpphdjaa.rdx k a := by
  have key : ∀ i c, c = 4 ∨ c = 7 ∨ c = 8 ∨ c = 11 ∨ c = 14 → (Go.Proofs.Ytdkamgafpphdjaa.kd a i).kind = c → (Go.Proofs.Ytdkamgafpphdjaa.kd b i).kind = c := fun i c hc he => by
    have h1 := (h.kd i).keep (by omega) (by omega) (by omega) (by omega) (by omega)
    rw [h1.1, he]
  unfold Go.Proofs.Ytdkamgafpphdjaa.rdx at hr ⊢
  by_cases h5 : k = 5
  · rw [if_pos h5, if_pos h5]
    rw [if_pos h5] at hr
    by_cases h1 : (Go.Proofs.Ytdkamgafpphdjaa.kd a 0).kind = 4
    · rw [if_pos h1, if_pos (key 0 4 (by omega) h1)]
    · rw [if_neg h1] at hr; exact absurd rfl hr
  rw [if_neg h5, if_neg h5]
  rw [if_neg h5] at hr
  by_cases h9 : k = 9
  · rw [if_pos h9, if_pos h9]
    rw [if_pos h9] at hr
    by_cases h1 : (Go.Proofs.Ytdkamgafpphdjaa.kd a 3).kind = 7
    · rw [if_pos h1, if_pos (key 3 7 (by omega) h1)]
    · rw [if_neg h1] at hr ⊢
      by_cases h2 : (Go.Proofs.Ytdkamgafpphdjaa.kd a 3).kind = 8
      · have := key 3 8 (by omega) h2
        rw [if_pos h2, if_neg (by omega), if_pos this]
      · rw [if_neg h2] at hr; exact absurd rfl hr
  rw [if_neg h9, if_neg h9]
  rw [if_neg h9] at hr
  by_cases h12 : k = 12
  · rw [if_pos h12, if_pos h12]
    rw [if_pos h12] at hr
    by_cases h1 : (Go.Proofs.Ytdkamgafpphdjaa.kd a 1).kind = 11
    · rw [if_pos h1, if_pos (key 1 11 (by omega) h1)]
    · rw [if_neg h1] at hr; exact absurd rfl hr
  rw [if_neg h12, if_neg h12]
  rw [if_neg h12] at hr
  by_cases h15 : k = 15
  · rw [if_pos h15, if_pos h15]
    rw [if_pos h15] at hr
    by_cases h1 : (Go.Proofs.Ytdkamgafpphdjaa.kd a 0).kind = 14
    · rw [if_pos h1, if_pos (key 0 14 (by omega) h1)]
    · rw [if_neg h1] at hr; exact absurd rfl hr
  rw [if_neg h15, if_neg h15]
  rw [if_neg h15] at hr
  by_cases h16 : k = 16
  · rw [if_pos h16, if_pos h16]
    rw [if_pos h16] at hr
    by_cases h1 : (Go.Proofs.Ytdkamgafpphdjaa.kd a 0).kind = 14
    · rw [if_pos h1, if_pos (key 0 14 (by omega) h1)]
    · rw [if_neg h1] at hr; exact absurd rfl hr
  · rw [if_neg h16] at hr; exact absurd rfl hr
theorem kd_shfTs (y : Int) (k : Int) : ∀ (ts : List Tr) (i j : Nat) (c : Int), j < ts.length → kd (shfTs y k ts i c) j = shfT y (kd ts j) (c + und k (i + j))
  | t :: ts, i, 0, c, h => by simp [shfTs, kd]
  | t :: ts, i, j + 1, c, h => by
    have := kd_shfTs y k ts (i + 1) j c (by simpa using h)
    simp only [shfTs, kd, List.getD_cons_succ] at this ⊢
    rw [this, show i + 1 + j = i + (j + 1) by omega]
theorem kd_sbsTs (u : Tr) (k : Int) : ∀ (ts : List Tr) (i j : Nat) (x d : Int), j < ts.length → kd (sbsTs u k ts i x d) j = sbsT u (kd ts j) (x + und k (i + j)) (d + und k (i + j))
  | t :: ts, i, 0, x, d, h => by simp [sbsTs, kd]
  | t :: ts, i, j + 1, x, d, h => by
    have := kd_sbsTs u k ts (i + 1) j x d (by simpa using h)
    simp only [sbsTs, kd, List.getD_cons_succ] at this ⊢
    rw [this, show i + 1 + j = i + (j + 1) by omega]
theorem kd_big {ts : List Tr} {j : Nat} (h : ts.length ≤ j) : kd ts j = dflt0 := by
  unfold kd
  rw [List.getD_eq_getElem?_getD, List.getElem?_eq_none h]
  rfl
theorem shf_dflt (y c : Int) : shfT y dflt0 c = dflt0 := by
  unfold dflt0
  rw [shfT_mk, if_neg (fun h => by omega)]
  rfl
theorem sbs_dflt (u : Tr) (x d : Int) : sbsT u dflt0 x d = dflt0 := by
  unfold dflt0
  rw [sbsT_miss _ _ (fun h => by omega), if_neg (fun h => by omega)]
  rfl
theorem kd_shf (y k : Int) (ts : List Tr) (j : Nat) (c : Int) : kd (shfTs y k ts 0 c) j = shfT y (kd ts j) (c + und k j) := by
  rcases Nat.lt_or_ge j ts.length with h | h
  · rw [kd_shfTs y k ts 0 j c h, Nat.zero_add]
  · rw [kd_big h, kd_big (by rw [shfTs_len]; exact h), shf_dflt]
theorem kd_sbs (u : Tr) (k : Int) (ts : List Tr) (j : Nat) (x d : Int) : kd (sbsTs u k ts 0 x d) j = sbsT u (kd ts j) (x + und k j) (d + und k j) := by
  rcases Nat.lt_or_ge j ts.length with h | h
  · rw [kd_sbsTs u k ts 0 j x d h, Nat.zero_add]
  · rw [kd_big h, kd_big (by rw [sbsTs_len]; exact h), sbs_dflt]
theorem und_not {k : Int} (h3 : k ≠ 3) (h4 : k ≠ 4) (h13 : k ≠ 13) (j : Nat) : und k j = 0 := by
  unfold und
  rw [if_neg (by omega)]
theorem shf_kind (y : Int) (t : Tr) (c : Int) : (shfT y t c).kind = t.kind ∧ (shfT y t c).kids = shfTs y t.kind t.kids 0 c := by
  obtain ⟨k, n, ks⟩ := t
  rw [shfT_mk]
  exact ⟨rfl, rfl⟩
theorem sbs_kind (u : Tr) (t : Tr) (x d : Int) (h : t.kind ≠ 1) : (sbsT u t x d).kind = t.kind ∧ (sbsT u t x d).kids = sbsTs u t.kind t.kids 0 x d := by
  obtain ⟨k, n, ks⟩ := t
  have hk : k ≠ 1 := h
  rw [sbsT_miss (k := k) (n := n) u ks (fun e => hk e.1)]
  exact ⟨rfl, rfl⟩
/-- What of a redex is looked at. -/
theorem rdx_cases {k : Int} {ks : List Tr} (h : rdx k ks ≠ 0) : (k = 5 ∧ (kd ks 0).kind = 4) ∨ (k = 9 ∧ (kd ks 3).kind = 7) ∨ (k = 9 ∧ (kd ks 3).kind = 8) ∨ (k = 12 ∧ (kd ks 1).kind = 11) ∨ (k = 15 ∧ (kd ks 0).kind = 14) ∨ (k = 16 ∧ (kd ks 0).kind = 14) := by
  unfold rdx at h
  by_cases h5 : k = 5
  · rw [if_pos h5] at h
    by_cases h1 : (kd ks 0).kind = 4
    · exact .inl ⟨h5, h1⟩
    · rw [if_neg h1] at h; exact absurd rfl h
  rw [if_neg h5] at h
  by_cases h9 : k = 9
  · rw [if_pos h9] at h
    by_cases h1 : (kd ks 3).kind = 7
    · exact .inr (.inl ⟨h9, h1⟩)
    · rw [if_neg h1] at h
      by_cases h2 : (kd ks 3).kind = 8
      · exact .inr (.inr (.inl ⟨h9, h2⟩))
      · rw [if_neg h2] at h; exact absurd rfl h
  rw [if_neg h9] at h
  by_cases h12 : k = 12
  · rw [if_pos h12] at h
    by_cases h1 : (kd ks 1).kind = 11
    · exact .inr (.inr (.inr (.inl ⟨h12, h1⟩)))
    · rw [if_neg h1] at h; exact absurd rfl h
  rw [if_neg h12] at h
  by_cases h15 : k = 15
  · rw [if_pos h15] at h
    by_cases h1 : (kd ks 0).kind = 14
    · exact .inr (.inr (.inr (.inr (.inl ⟨h15, h1⟩))))
    · rw [if_neg h1] at h; exact absurd rfl h
  rw [if_neg h15] at h
  by_cases h16 : k = 16
  · rw [if_pos h16] at h
    by_cases h1 : (kd ks 0).kind = 14
    · exact .inr (.inr (.inr (.inr (.inr ⟨h16, h1⟩))))
    · rw [if_neg h1] at h; exact absurd rfl h
  · rw [if_neg h16] at h; exact absurd rfl h
theorem rdx_of {k : Int} {ks : List Tr} (h : (k = 5 ∧ (kd ks 0).kind = 4) ∨ (k = 9 ∧ (kd ks 3).kind = 7) ∨ (k = 9 ∧ (kd ks 3).kind = 8) ∨ (k = 12 ∧ (kd ks 1).kind = 11) ∨ (k = 15 ∧ (kd ks 0).kind = 14) ∨ (k = 16 ∧ (kd ks 0).kind = 14)) : rdx k ks ≠ 0 := by
  rcases h with ⟨rfl, h⟩ | ⟨rfl, h⟩ | ⟨rfl, h⟩ | ⟨rfl, h⟩ | ⟨rfl, h⟩ | ⟨rfl, h⟩ <;> (unfold rdx; simp [h])
theorem ctr_app {ks : List Tr} : ctr 5 ks = sbsT (kd ks 1) (kd (kd ks 0).kids 1) 0 0 := rfl
theorem ctr_zero {ks : List Tr} (h : (kd ks 3).kind = 7) : ctr 9 ks = kd ks 1 := by unfold ctr; simp [h]
theorem ctr_succ {ks : List Tr} (h : (kd ks 3).kind = 8) : ctr 9 ks = .mk 5 0 [.mk 5 0 [kd ks 2, kd (kd ks 3).kids 0], .mk 9 0 [kd ks 0, kd ks 1, kd ks 2, kd (kd ks 3).kids 0]] := by unfold ctr; simp [h]
theorem ctr_move {ks : List Tr} : ctr 12 ks = kd ks 2 := rfl
theorem ctr_fst {ks : List Tr} : ctr 15 ks = kd (kd ks 0).kids 1 := rfl
theorem ctr_snd {ks : List Tr} : ctr 16 ks = kd (kd ks 0).kids 2 := rfl
theorem und4 : und 4 1 = 1 := rfl
theorem shf_leaf0 (y k n : Int) (ks : List Tr) (c : Int) (h : k ≠ 1) : shfT y (.mk k n ks) c = .mk k n (shfTs y k ks 0 c) := by rw [shfT_mk, if_neg (fun e => h e.1)]
theorem sbs_leaf0 (u : Tr) (k n : Int) (ks : List Tr) (x d : Int) (h : k ≠ 1) : sbsT u (.mk k n ks) x d = .mk k n (sbsTs u k ks 0 x d) := by rw [sbsT_miss _ _ (fun e => h e.1), if_neg (fun e => h e.1)]
/-- A redex that is shifted is one, and so is its contractum. -/
theorem shf_ctr {k : Int} {ks : List Tr} (h : rdx k ks ≠ 0) {y c : Int} (hy : 0 ≤ y) (hc : 0 ≤ c) : rdx k (shfTs y k ks 0 c) ≠ 0 ∧ shfT y (ctr k ks) c = ctr k (shfTs y k ks 0 c) := by
  have hcs := rdx_cases h
  have kk : ∀ j, (kd (shfTs y k ks 0 c) j).kind = (kd ks j).kind := fun j => by rw [kd_shf]; exact (shf_kind y _ _).1
  refine ⟨rdx_of (by simpa only [kk] using hcs), ?_⟩
  rcases hcs with ⟨rfl, g⟩ | ⟨rfl, g⟩ | ⟨rfl, g⟩ | ⟨rfl, g⟩ | ⟨rfl, g⟩ | ⟨rfl, g⟩
  · rw [ctr_app, ctr_app, kd_shf, kd_shf, (shf_kind y _ _).2, g, kd_shf, und4, und_not (by decide) (by decide) (by decide), und_not (by decide) (by decide) (by decide), Int.add_zero, shf_beta _ _ hy hc]
  · rw [ctr_zero g, ctr_zero (by rw [kk, g]), kd_shf, und_not (by decide) (by decide) (by decide), Int.add_zero]
  · rw [ctr_succ g, ctr_succ (by rw [kk, g])]
    rw [kd_shf, kd_shf, kd_shf, kd_shf, (shf_kind y _ _).2, g, kd_shf]
    simp only [und_not (show (9 : Int) ≠ 3 by decide) (by decide) (by decide), und_not (show (8 : Int) ≠ 3 by decide) (by decide) (by decide), Int.add_zero]
    rw [shf_leaf0 _ 5 _ _ _ (by decide)]
    simp only [shfTs, und_not (show (5 : Int) ≠ 3 by decide) (by decide) (by decide), Int.add_zero]
    rw [shf_leaf0 _ 5 _ _ _ (by decide), shf_leaf0 _ 9 _ _ _ (by decide)]
    simp only [shfTs, und_not (show (5 : Int) ≠ 3 by decide) (by decide) (by decide), und_not (show (9 : Int) ≠ 3 by decide) (by decide) (by decide), Int.add_zero]
  · rw [ctr_move, ctr_move, kd_shf, und_not (by decide) (by decide) (by decide), Int.add_zero]
  · rw [ctr_fst, ctr_fst, kd_shf, (shf_kind y _ _).2, g, kd_shf, und_not (by decide) (by decide) (by decide), und_not (by decide) (by decide) (by decide), Int.add_zero, Int.add_zero]
  · rw [ctr_snd, ctr_snd, kd_shf, (shf_kind y _ _).2, g, kd_shf, und_not (by decide) (by decide) (by decide), und_not (by decide) (by decide) (by decide), Int.add_zero, Int.add_zero]
theorem sbs_ctr {k : Int} {ks : List Tr} (h : rdx k ks ≠ 0) (u : Tr) {x d : Int} (hx : 0 ≤ x) (hd : 0 ≤ d) : rdx k (sbsTs u k ks 0 x d) ≠ 0 ∧ sbsT u (ctr k ks) x d = ctr k (sbsTs u k ks 0 x d) := by
  have hcs := rdx_cases h
  have kk : ∀ j, (kd ks j).kind ≠ 1 → (kd (sbsTs u k ks 0 x d) j).kind = (kd ks j).kind := fun j hj => by rw [kd_sbs]; exact (sbs_kind u _ _ _ hj).1
  refine ⟨rdx_of ?_, ?_⟩
  · rcases hcs with ⟨h1, g⟩ | ⟨h1, g⟩ | ⟨h1, g⟩ | ⟨h1, g⟩ | ⟨h1, g⟩ | ⟨h1, g⟩
    · exact .inl ⟨h1, by rw [kk _ (by omega), g]⟩
    · exact .inr (.inl ⟨h1, by rw [kk _ (by omega), g]⟩)
    · exact .inr (.inr (.inl ⟨h1, by rw [kk _ (by omega), g]⟩))
    · exact .inr (.inr (.inr (.inl ⟨h1, by rw [kk _ (by omega), g]⟩)))
    · exact .inr (.inr (.inr (.inr (.inl ⟨h1, by rw [kk _ (by omega), g]⟩))))
    · exact .inr (.inr (.inr (.inr (.inr ⟨h1, by rw [kk _ (by omega), g]⟩))))
  rcases hcs with ⟨rfl, g⟩ | ⟨rfl, g⟩ | ⟨rfl, g⟩ | ⟨rfl, g⟩ | ⟨rfl, g⟩ | ⟨rfl, g⟩
  · rw [ctr_app, ctr_app, kd_sbs, kd_sbs, (sbs_kind u _ _ _ (by omega)).2, g, kd_sbs, und4, und_not (by decide) (by decide) (by decide), und_not (by decide) (by decide) (by decide), Int.add_zero, Int.add_zero, sbs_beta _ _ _ hx hd]
  · rw [ctr_zero g, ctr_zero (by rw [kk _ (by omega), g]), kd_sbs, und_not (by decide) (by decide) (by decide), Int.add_zero, Int.add_zero]
  · rw [ctr_succ g, ctr_succ (by rw [kk _ (by omega), g])]
    rw [kd_sbs, kd_sbs, kd_sbs, kd_sbs, (sbs_kind u _ _ _ (by omega)).2, g, kd_sbs]
    simp only [und_not (show (9 : Int) ≠ 3 by decide) (by decide) (by decide), und_not (show (8 : Int) ≠ 3 by decide) (by decide) (by decide), Int.add_zero]
    rw [sbs_leaf0 _ 5 _ _ _ _ (by decide)]
    simp only [sbsTs, und_not (show (5 : Int) ≠ 3 by decide) (by decide) (by decide), Int.add_zero]
    rw [sbs_leaf0 _ 5 _ _ _ _ (by decide), sbs_leaf0 _ 9 _ _ _ _ (by decide)]
    simp only [sbsTs, und_not (show (5 : Int) ≠ 3 by decide) (by decide) (by decide), und_not (show (9 : Int) ≠ 3 by decide) (by decide) (by decide), Int.add_zero]
  · rw [ctr_move, ctr_move, kd_sbs, und_not (by decide) (by decide) (by decide), Int.add_zero, Int.add_zero]
  · rw [ctr_fst, ctr_fst, kd_sbs, (sbs_kind u _ _ _ (by omega)).2, g, kd_sbs, und_not (by decide) (by decide) (by decide), und_not (by decide) (by decide) (by decide)]
    simp only [Int.add_zero]
  · rw [ctr_snd, ctr_snd, kd_sbs, (sbs_kind u _ _ _ (by omega)).2, g, kd_sbs, und_not (by decide) (by decide) (by decide), und_not (by decide) (by decide) (by decide)]
    simp only [Int.add_zero]
mutual
theorem Par.shf {y : Int} (hy : 0 ≤ y) : ∀ {t t' : Tr} (c : Int), 0 ≤ c → Par t t' → Par (shfT y t c) (shfT y t' c)
  | _, _, c, hc, .node h => by
    rw [shfT_mk, shfT_mk]
    exact .node (Pars.shf hy _ 0 c hc h)
  | _, _, c, hc, .red (k := k) (n := n) (ks := ks) (ks' := ks') h0 h => by
    have h1 := shf_ctr (show rdx k ks' ≠ 0 by rw [h.rdx h0]; exact h0) hy hc
    rw [shfT_mk, h1.2]
    exact .red (shf_ctr h0 hy hc).1 (Pars.shf hy _ 0 c hc h)
theorem Pars.shf {y : Int} (hy : 0 ≤ y) : ∀ {ts ts' : List Tr} (k : Int) (i : Nat) (c : Int), 0 ≤ c → Pars ts ts' → Pars (shfTs y k ts i c) (shfTs y k ts' i c)
  | _, _, k, i, c, hc, .nil => .nil
  | _, _, k, i, c, hc, .cons h hs => by
    have := und_le k i
    simp only [shfTs]
    exact .cons (Par.shf hy _ (by omega) h) (Pars.shf hy k (i + 1) c hc hs)
end
mutual
theorem Par.sbs {u u' : Tr} (hu : Par u u') : ∀ {t t' : Tr} (x d : Int), 0 ≤ x → 0 ≤ d → Par t t' → Par (sbsT u t x d) (sbsT u' t' x d)
  | _, _, x, d, hx, hd, .node (k := k) (n := n) h => by
    by_cases hv : k = 1 ∧ n = x
    · rw [sbsT_hit _ _ hv, sbsT_hit _ _ hv]
      exact hu.shf hd 0 (Int.le_refl _)
    · rw [sbsT_miss _ _ hv, sbsT_miss _ _ hv]
      exact .node (Pars.sbs hu _ 0 x d hx hd h)
  | _, _, x, d, hx, hd, .red (k := k) (n := n) (ks := ks) (ks' := ks') h0 h => by
    have h1 := sbs_ctr (show rdx k ks' ≠ 0 by rw [h.rdx h0]; exact h0) u' hx hd
    have hv : ¬ (k = 1 ∧ n = x) := fun e => h0 (rdx_none (by omega) (by omega) (by omega) (by omega) (by omega))
    rw [sbsT_miss _ _ hv, h1.2]
    exact .red (sbs_ctr h0 u hx hd).1 (Pars.sbs hu _ 0 x d hx hd h)
theorem Pars.sbs {u u' : Tr} (hu : Par u u') : ∀ {ts ts' : List Tr} (k : Int) (i : Nat) (x d : Int), 0 ≤ x → 0 ≤ d → Pars ts ts' → Pars (sbsTs u k ts i x d) (sbsTs u' k ts' i x d)
  | _, _, k, i, x, d, hx, hd, .nil => .nil
  | _, _, k, i, x, d, hx, hd, .cons h hs => by
    have := und_le k i
    simp only [sbsTs]
    exact .cons (Par.sbs hu _ _ (by omega) (by omega) h) (Pars.sbs hu k (i + 1) x d hx hd hs)
end
theorem Par.kids_of {t t' : Tr} (h : Par t t') (hk : t.kind = 4 ∨ t.kind = 7 ∨ t.kind = 8 ∨ t.kind = 11 ∨ t.kind = 14) : t'.kind = t.kind ∧ Pars t.kids t'.kids := by
  have := h.keep (by omega) (by omega) (by omega) (by omega) (by omega)
  exact ⟨this.1, this.2.2⟩
/-- Contracta of redexes whose parts reduce. -/
theorem Pars.ctr {k : Int} {a b : List Tr} (h : Pars a b) (h0 : Go.Proofs.Ytdkamgafpphdjaa.rdx k a ≠ 0) : Par (Go.Proofs.Ytdkamgafpphdjaa.ctr k a) (Go.Proofs.Ytdkamgafpphdjaa.ctr k b) := by
  have hcs := rdx_cases h0
  rcases hcs with ⟨rfl, h1⟩ | ⟨rfl, h1⟩ | ⟨rfl, h1⟩ | ⟨rfl, h1⟩ | ⟨rfl, h1⟩ | ⟨rfl, h1⟩
  · rw [ctr_app, ctr_app]
    exact (h.kd 1).sbs 0 0 (Int.le_refl _) (Int.le_refl _) (((h.kd 0).kids_of (by omega)).2.kd 1)
  · rw [ctr_zero h1, ctr_zero (by rw [((h.kd 3).kids_of (by omega)).1]; exact h1)]
    exact h.kd 1
  · rw [ctr_succ h1, ctr_succ (by rw [((h.kd 3).kids_of (by omega)).1]; exact h1)]
    have ha := ((h.kd 3).kids_of (by omega)).2.kd 0
    exact .node (.cons (.node (.cons (h.kd 2) (.cons ha .nil))) (.cons (.node (.cons (h.kd 0) (.cons (h.kd 1) (.cons (h.kd 2) (.cons ha .nil))))) .nil))
  · exact h.kd 2
  · rw [ctr_fst, ctr_fst]
    exact ((h.kd 0).kids_of (by omega)).2.kd 1
  · rw [ctr_snd, ctr_snd]
    exact ((h.kd 0).kids_of (by omega)).2.kd 2
mutual
/-- All redexes at once. -/
def dev : Tr → Tr
  | .mk k n ks => if rdx k ks ≠ 0 then ctr k (devs ks) else .mk k n (devs ks)
def devs : List Tr → List Tr
  | [] => []
  | t :: ts => dev t :: devs ts
end
theorem dev_mk (k n : Int) (ks : List Tr) : dev (.mk k n ks) = if rdx k ks ≠ 0 then ctr k (devs ks) else .mk k n (devs ks) := by
  conv => lhs; unfold dev
mutual
theorem Par.tri : ∀ {t t' : Tr}, Par t t' → Par t' (dev t)
  | _, _, .node (k := k) (n := n) (ks := ks) h => by
    have h1 := h.tri
    rw [dev_mk]
    by_cases h0 : rdx k ks ≠ 0
    · rw [if_pos h0]
      exact .red (by rw [h.rdx h0]; exact h0) h1
    · rw [if_neg h0]
      exact .node h1
  | _, _, .red (k := k) (n := n) (ks := ks) h0 h => by
    have h1 := h.tri
    rw [dev_mk, if_pos h0]
    exact h1.ctr (by rw [h.rdx h0]; exact h0)
theorem Pars.tri : ∀ {ts ts' : List Tr}, Pars ts ts' → Pars ts' (devs ts)
  | _, _, .nil => .nil
  | _, _, .cons h hs => .cons h.tri hs.tri
end
/-- Many of them. -/
inductive Reds : Tr → Tr → Prop where
  | refl (t : Tr) : Reds t t
  | step {a b c : Tr} : Reds a b → Par b c → Reds a c
theorem Reds.trans {a b c : Tr} (h : Reds a b) (k : Reds b c) : Reds a c := by
  induction k with
  | refl => exact h
  | step _ p ih => exact .step ih p
theorem Reds.one {a b : Tr} (h : Par a b) : Reds a b := .step (.refl a) h
theorem Reds.strip {a b : Tr} (h : Reds a b) : ∀ {c : Tr}, Par a c → ∃ d, Par b d ∧ Reds c d := by
  induction h with
  | refl => exact fun {c} p => ⟨c, p, .refl c⟩
  | step _ p ih =>
    intro c q
    obtain ⟨d, h1, h2⟩ := ih q
    exact ⟨_, p.tri, .step h2 h1.tri⟩
theorem Reds.meet {a b : Tr} (h : Reds a b) : ∀ {c : Tr}, Reds a c → ∃ d, Reds b d ∧ Reds c d := by
  induction h with
  | refl => exact fun {c} p => ⟨c, p, .refl c⟩
  | step _ p ih =>
    intro c q
    obtain ⟨d, h1, h2⟩ := ih q
    obtain ⟨e, h3, h4⟩ := h1.strip p
    exact ⟨e, h4, .step h2 h3⟩
mutual
/-- No redex anywhere. -/
def nrm : Tr → Bool
  | .mk k _ ks => decide (rdx k ks = 0) && nrms ks
def nrms : List Tr → Bool
  | [] => true
  | t :: ts => nrm t && nrms ts
end
mutual
theorem Par.normal : ∀ {t t' : Tr}, Par t t' → nrm t = true → t' = t
  | _, _, .node (k := k) (n := n) (ks := ks) h, hn => by
    simp only [nrm, Bool.and_eq_true] at hn
    rw [Pars.normal h hn.2]
  | _, _, .red h0 _, hn => by
    simp only [nrm, Bool.and_eq_true, decide_eq_true_eq] at hn
    exact absurd hn.1 h0
theorem Pars.normal : ∀ {ts ts' : List Tr}, Pars ts ts' → nrms ts = true → ts' = ts
  | _, _, .nil, _ => rfl
  | _, _, .cons h hs, hn => by
    simp only [nrms, Bool.and_eq_true] at hn
    rw [Par.normal h hn.1, Pars.normal hs hn.2]
end
theorem Reds.normal {a b : Tr} (h : Reds a b) (hn : nrm a = true) : b = a := by
  induction h with
  | refl => rfl
  | step _ p ih => subst ih; exact p.normal hn
/-- Normal terms are unique. -/
theorem Reds.unique {a b c : Tr} (h : Reds a b) (k : Reds a c) (hb : nrm b = true) (hc : nrm c = true) : b = c := by
  obtain ⟨d, h1, h2⟩ := h.meet k
  rw [← h1.normal hb, ← h2.normal hc]
theorem Reds.sbs {a b : Tr} (h : Reds a b) (u : Tr) {x d : Int} (hx : 0 ≤ x) (hd : 0 ≤ d) : Reds (sbsT u a x d) (sbsT u b x d) := by
  induction h with
  | refl => exact .refl _
  | step _ p ih => exact .step ih ((Par.refl u).sbs x d hx hd p)
end Go.Proofs.Ytdkamgafpphdjaa

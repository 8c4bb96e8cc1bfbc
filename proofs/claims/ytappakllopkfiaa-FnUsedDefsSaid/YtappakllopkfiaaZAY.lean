/-
  Lemmas towards the law, 25: Sub, Subst.
-/
import Derived.Test.YtappakllopkfiaaZAP
import Derived.Test.YtappakllopkfiaaZAU
import Derived.Deep.RegionHeldLaw
import Derived.Outline
namespace Go.Proofs.Ytappakllopkfiaa
open Go.RowKit
set_option linter.unusedVariables false
/-- The zero term. -/
def dflt0 : Tr := .mk 0 0 []
mutual
/-- The reference's shift. -/
def shfT (y : Int) : Tr → Int → Tr
  | .mk k n ks, c => .mk k (if k = 1 ∧ c ≤ n then n + y else n) (shfTs y k ks 0 c)
def shfTs (y : Int) : Int → List Tr → Nat → Int → List Tr
  | _, [], _, _ => []
  | k, t :: ts, i, c => shfT y t (c + und k i) :: shfTs y k ts (i + 1) c
end
mutual
/-- The reference's substitution. -/
def sbsT (u : Tr) : Tr → Int → Int → Tr
  | .mk k n ks, x, d => if k = 1 ∧ n = x then shfT d u 0 else .mk k (if k = 1 ∧ x < n then n - 1 else n) (sbsTs u k ks 0 x d)
def sbsTs (u : Tr) : Int → List Tr → Nat → Int → Int → List Tr
  | _, [], _, _, _ => []
  | k, t :: ts, i, x, d => sbsT u t (x + und k i) (d + und k i) :: sbsTs u k ts (i + 1) x d
end
mutual
/-- A term whose variables are changed. -/
def chgT (g : Int → Int → Tr) : Tr → Int → Tr
  | .mk k n ks, b => if k = 1 then g n b else .mk k n (chgTs g k ks 0 b)
def chgTs (g : Int → Int → Tr) : Int → List Tr → Nat → Int → List Tr
  | _, [], _, _ => []
  | k, t :: ts, i, b => chgT g t (b + und k i) :: chgTs g k ts (i + 1) b
end
mutual
/-- Each variable meets h. -/
def allT (h : Int → Int → Bool) : Tr → Int → Bool
  | .mk k n ks, b => if k = 1 then h n b else allTs h k ks 0 b
def allTs (h : Int → Int → Bool) : Int → List Tr → Nat → Int → Bool
  | _, [], _, _ => true
  | k, t :: ts, i, b => allT h t (b + und k i) && allTs h k ts (i + 1) b
end
theorem shfTs_len (y : Int) : ∀ (k : Int) (ts : List Tr) (i : Nat) (c : Int), (shfTs y k ts i c).length = ts.length
  | _, [], _, _ => rfl
  | k, t :: ts, i, c => by simp [shfTs, shfTs_len y k ts (i + 1) c]
theorem sbsTs_len (u : Tr) : ∀ (k : Int) (ts : List Tr) (i : Nat) (x d : Int), (sbsTs u k ts i x d).length = ts.length
  | _, [], _, _, _ => rfl
  | k, t :: ts, i, x, d => by simp [sbsTs, sbsTs_len u k ts (i + 1) x d]
mutual
theorem shfT_cnt (y : Int) : ∀ (t : Tr) (c : Int), cnt (shfT y t c) = cnt t
  | .mk k n ks, c => by
    unfold shfT
    simp only [cnt, shfTs_cnt y k ks 0 c]
theorem shfTs_cnt (y : Int) : ∀ (k : Int) (ts : List Tr) (i : Nat) (c : Int), cnts (shfTs y k ts i c) = cnts ts
  | _, [], _, _ => rfl
  | k, t :: ts, i, c => by
    unfold shfTs
    simp only [cnts, shfT_cnt y t _, shfTs_cnt y k ts (i + 1) c]
end
mutual
theorem shape_mono {g : Sig} : ∀ {t : Tr} {d e : Int}, shape g t d = true → d ≤ e → shape g t e = true
  | .mk k n ks, d, e, h, hd => by
    simp only [shape, Bool.and_eq_true, decide_eq_true_eq] at h ⊢
    exact ⟨by omega, h.2.1, shapes_mono h.2.2 (by omega)⟩
theorem shapes_mono {g : Sig} : ∀ {ts : List Tr} {d e : Int}, shapes g ts d = true → d ≤ e → shapes g ts e = true
  | [], _, _, _, _ => rfl
  | t :: ts, d, e, h, hd => by
    simp only [shapes, Bool.and_eq_true] at h ⊢
    exact ⟨shape_mono h.1 hd, shapes_mono h.2 hd⟩
end
theorem var_leaf {n : Int} {ks : List Tr} {d : Int} (h : shape sigT (.mk 1 n ks) d = true) : ks = [] ∧ 0 ≤ n ∧ n ≤ 20 := by
  obtain ⟨h0, h1, h2, -⟩ := shape_kids' h
  have h3 := most_le 1
  have : (0 : Int) = (ks.length : Int) := h0
  exact ⟨List.eq_nil_of_length_eq_zero (by omega), h1, by omega⟩
/-- shift's closure: the variable, and the flag. -/
def gsh (y c : Int) (n b : Int) : Tr := .mk 1 (if c ≤ n - b then n + y else n) []
def hsh (y c : Int) (n b : Int) : Bool := if c ≤ n - b then decide (c ≤ n + y - b) && decide (n + y ≤ 20) else true
mutual
theorem shift_eq (y c : Int) : ∀ (t : Tr) (b d : Int), shape sigT t d = true → chgT (gsh y c) t b = shfT y t (c + b)
  | .mk k n ks, b, d, h => by
    unfold chgT shfT
    by_cases hk : k = 1
    · subst hk
      obtain ⟨rfl, -, -⟩ := var_leaf h
      rw [if_pos rfl]
      unfold gsh
      by_cases h2 : c ≤ n - b
      · rw [if_pos h2, if_pos ⟨rfl, by omega⟩]; rfl
      · rw [if_neg h2, if_neg (by omega)]; rfl
    · rw [if_neg hk, if_neg (fun h => hk h.1), shifts_eq y c k ks 0 b (d - 1) (shape_kids' h).2.2.2]
theorem shifts_eq (y c : Int) : ∀ (k : Int) (ts : List Tr) (i : Nat) (b d : Int), (∀ t ∈ ts, shape sigT t d = true) → chgTs (gsh y c) k ts i b = shfTs y k ts i (c + b)
  | _, [], _, _, _, _ => rfl
  | k, t :: ts, i, b, d, h => by
    unfold chgTs shfTs
    rw [shift_eq y c t _ d (h t (by simp)), shifts_eq y c k ts (i + 1) b d (fun t ht => h t (by simp [ht])), Int.add_assoc]
end
theorem headOk_len {g : Sig} {k n : Int} {a b : Nat} (h : a = b) : headOk g k n a = headOk g k n b := by rw [h]
mutual
theorem shift_ok (y c : Int) (hy : 0 ≤ y) : ∀ (t : Tr) (b d : Int), shape sigT t d = true → allT (hsh y c) t b = shape sigT (shfT y t (c + b)) d
  | .mk k n ks, b, d, h => by
    have hh := h
    simp only [shape, Bool.and_eq_true] at hh
    unfold allT shfT
    by_cases hk : k = 1
    · subst hk
      obtain ⟨rfl, h0, h1⟩ := var_leaf h
      have hd := of_decide_eq_true hh.1
      rw [if_pos rfl]
      have hs : ∀ x : Int, 0 ≤ x → shape sigT (.mk 1 x []) d = decide (x ≤ 20) := fun x hx => by
        simp only [shape, shapes, headOk, List.length_nil, Bool.and_true]
        rw [decide_eq_true hd, decide_eq_true (show sigT.ops 1 = ((0 : Nat) : Int) from rfl), Bool.true_and, Bool.true_and]
        show inR x 0 20 = _
        unfold inR
        rw [decide_eq_true hx, Bool.true_and]
      unfold hsh
      by_cases h2 : c ≤ n - b
      · rw [if_pos h2, if_pos ⟨rfl, by omega⟩, show shfTs y 1 [] 0 (c + b) = [] from rfl, hs _ (by omega), decide_eq_true (by omega), Bool.true_and]
      · rw [if_neg h2, if_neg (by omega), show shfTs y 1 [] 0 (c + b) = [] from rfl, hs _ h0, decide_eq_true h1]
    · rw [if_neg hk, if_neg (fun h => hk h.1), shifts_ok y c hy k ks 0 b (d - 1) hh.2.2]
      simp only [shape]
      rw [hh.1, headOk_len (shfTs_len y k ks 0 (c + b)), hh.2.1]
      rfl
theorem shifts_ok (y c : Int) (hy : 0 ≤ y) : ∀ (k : Int) (ts : List Tr) (i : Nat) (b d : Int), shapes sigT ts d = true → allTs (hsh y c) k ts i b = shapes sigT (shfTs y k ts i (c + b)) d
  | _, [], _, _, _, _ => rfl
  | k, t :: ts, i, b, d, h => by
    simp only [shapes, Bool.and_eq_true] at h
    unfold allTs shfTs
    simp only [shapes]
    rw [shift_ok y c hy t _ d h.1, shifts_ok y c hy k ts (i + 1) b d h.2, Int.add_assoc]
end
/-- shift's way and the reference's. -/
theorem shift_way {y c : Int} (hy : 0 ≤ y) {t : Tr} (h : valid sigT t = true) : (allT (hsh y c) t 0 && valid sigT (chgT (gsh y c) t 0)) = valid sigT (shfT y t c) ∧ chgT (gsh y c) t 0 = shfT y t c := by
  obtain ⟨h1, h2⟩ := valid_parts h
  have e1 := shift_eq y c t 0 30 h1
  have e2 := shift_ok y c hy t 0 30 h1
  rw [Int.add_zero] at e1 e2
  refine ⟨?_, e1⟩
  rw [e1, e2]
  unfold valid
  cases shape sigT (shfT y t c) 30 <;> simp
/-- subst's closure: what stands for the variable, and the flag. -/
def gsb (u : Tr) (x : Int) (n b : Int) : Tr := if n - b = x then (if valid sigT (shfT b u 0) = true then shfT b u 0 else dflt0) else .mk 1 (if x < n - b then n - 1 else n) []
def hsb (u : Tr) (x : Int) (n b : Int) : Bool := if n - b = x then valid sigT (shfT b u 0) else true
mutual
theorem subst_eq (u : Tr) (x : Int) : ∀ (t : Tr) (b d : Int), shape sigT t d = true → allT (hsb u x) t b = true → chgT (gsb u x) t b = sbsT u t (x + b) b
  | .mk k n ks, b, d, h, ho => by
    unfold allT at ho
    unfold chgT sbsT
    by_cases hk : k = 1
    · subst hk
      obtain ⟨rfl, -, -⟩ := var_leaf h
      rw [if_pos rfl] at ho ⊢
      unfold hsb at ho
      unfold gsb
      by_cases h2 : n - b = x
      · rw [if_pos h2] at ho ⊢
        rw [if_pos ho, if_pos (show (1 : Int) = 1 ∧ n = x + b from ⟨rfl, by omega⟩)]
      · rw [if_neg h2, if_neg (show ¬((1 : Int) = 1 ∧ n = x + b) from by omega)]
        by_cases h3 : x < n - b
        · rw [if_pos h3, if_pos (show (1 : Int) = 1 ∧ x + b < n from ⟨rfl, by omega⟩)]; rfl
        · rw [if_neg h3, if_neg (show ¬((1 : Int) = 1 ∧ x + b < n) from by omega)]; rfl
    · rw [if_neg hk] at ho ⊢
      rw [if_neg (fun h => hk h.1), if_neg (fun h => hk h.1), substs_eq u x k ks 0 b (d - 1) (shape_kids' h).2.2.2 ho]
theorem substs_eq (u : Tr) (x : Int) : ∀ (k : Int) (ts : List Tr) (i : Nat) (b d : Int), (∀ t ∈ ts, shape sigT t d = true) → allTs (hsb u x) k ts i b = true → chgTs (gsb u x) k ts i b = sbsTs u k ts i (x + b) b
  | _, [], _, _, _, _, _ => rfl
  | k, t :: ts, i, b, d, h, ho => by
    unfold allTs at ho
    rw [Bool.and_eq_true] at ho
    unfold chgTs sbsTs
    rw [subst_eq u x t _ d (h t (by simp)) ho.1, substs_eq u x k ts (i + 1) b d (fun t ht => h t (by simp [ht])) ho.2, Int.add_assoc]
end
mutual
theorem subst_bad (u : Tr) (x : Int) (hu : cnt u ≤ 400) : ∀ (t : Tr) (b d : Int), shape sigT t d = true → allT (hsb u x) t b = false → ∀ e : Int, e ≤ 30 → shape sigT (sbsT u t (x + b) b) e = false
  | .mk k n ks, b, d, h, ho, e, he => by
    unfold allT at ho
    unfold sbsT
    by_cases hk : k = 1
    · subst hk
      rw [if_pos rfl] at ho
      unfold hsb at ho
      by_cases h2 : n - b = x
      · rw [if_pos h2] at ho
        rw [if_pos (show (1 : Int) = 1 ∧ n = x + b from ⟨rfl, by omega⟩), Bool.eq_false_iff]
        intro hs
        have h3 := shape_mono hs he
        unfold valid at ho
        rw [h3, shfT_cnt, decide_eq_true hu] at ho
        cases ho
      · rw [if_neg h2] at ho
        cases ho
    · rw [if_neg hk] at ho
      rw [if_neg (fun h => hk h.1)]
      simp only [shape]
      rw [substs_bad u x hu k ks 0 b (d - 1) (shape_kids' h).2.2.2 ho (e - 1) (by omega)]
      simp
theorem substs_bad (u : Tr) (x : Int) (hu : cnt u ≤ 400) : ∀ (k : Int) (ts : List Tr) (i : Nat) (b d : Int), (∀ t ∈ ts, shape sigT t d = true) → allTs (hsb u x) k ts i b = false → ∀ e : Int, e ≤ 30 → shapes sigT (sbsTs u k ts i (x + b) b) e = false
  | _, [], _, _, _, _, ho, _, _ => by unfold allTs at ho; cases ho
  | k, t :: ts, i, b, d, h, ho, e, he => by
    unfold allTs at ho
    unfold sbsTs
    simp only [shapes]
    rw [Bool.and_eq_false_iff] at ho ⊢
    rw [Int.add_assoc]
    rcases ho with ho | ho
    · exact .inl (subst_bad u x hu t _ d (h t (by simp)) ho e he)
    · exact .inr (substs_bad u x hu k ts (i + 1) b d (fun t ht => h t (by simp [ht])) ho e he)
end
/-- subst's way and the reference's. -/
theorem subst_way {u : Tr} {x : Int} (hu : cnt u ≤ 400) {t : Tr} (h : valid sigT t = true) : (allT (hsb u x) t 0 && valid sigT (chgT (gsb u x) t 0)) = valid sigT (sbsT u t x 0) ∧ (allT (hsb u x) t 0 = true → chgT (gsb u x) t 0 = sbsT u t x 0) := by
  obtain ⟨h1, h2⟩ := valid_parts h
  have e1 := subst_eq u x t 0 30 h1
  have e2 := subst_bad u x hu t 0 30 h1
  rw [Int.add_zero] at e1 e2
  refine ⟨?_, e1⟩
  cases ha : allT (hsb u x) t 0 with
  | true => rw [e1 ha, Bool.true_and]
  | false =>
    unfold valid
    rw [e2 ha 30 (Int.le_refl _)]
    rfl
end Go.Proofs.Ytappakllopkfiaa
namespace Go.Proofs.Ytappakllopkfiaa
open Go.RowKit
set_option linter.unusedVariables false
attribute [local go_sem ↓] Go.wp_at_zero Go.wp_at_succ
/-- A load, named: so that a region's walk does not look for it in what it holds. -/
def ldO (t : TypeId) (s : Nat) : Op := Op.load t (.tmp s)
attribute [local go_sem] ldO
theorem infoS : (Try.prog.info? 44).map (fun i => (i.zero, i.size, i.bytes)) = some (some (.agg #[.int .i64 0, .int .i64 0, .slice none 0 0]), 3, 40) := by kernel_rfl
theorem shfTs_get (y : Int) : ∀ {k : Int} {ts : List Tr} {i j : Nat} {c : Int} (h : j < ts.length), (shfTs y k ts i c)[j]'(by rw [shfTs_len]; exact h) = shfT y ts[j] (c + und k (i + j))
  | k, t :: ts, i, 0, c, h => by simp [shfTs]
  | k, t :: ts, i, j + 1, c, h => by
    simp only [shfTs, List.getElem_cons_succ]
    rw [shfTs_get y (j := j) (by simpa using h), show i + 1 + j = i + (j + 1) by omega]
theorem LiesK.lt {w : World} {b o j : Nat} {ks : List Tr} (h : LiesK w (some ⟨b, o, none⟩) ks) (hj : j < ks.length) : b < w.heap.size := by
  rcases h with h | ⟨b', o', e, hb, -⟩
  · rw [h] at hj; simp at hj
  · cases e; exact hb
theorem take_snoc {l : List Tr} {j : Nat} {t : Tr} (h : j < l.length) (e : l[j] = t) : l.take j ++ [t] = l.take (j + 1) := by rw [← e]; exact List.take_append_getElem h
def l2ShiftC (t : Tr) : Prop := ∀ (w : World) (v : Value) (y c d : Int), shape sigT t d = true → Lies w t v → cnt t ≤ 1000 → 0 ≤ y → y ≤ 1000000 → 0 ≤ c → c + cnt t ≤ 1000000 →
  Calls Try.prog 190 #[v, .int .i64 y, .int .i64 c] w fun e w' => ∃ u, e = .returned u ∧ Made w w' 44 (shfT y t c) u ∧ Ext w w'
set_option maxRecDepth 100000 in
set_option maxHeartbeats 2000000 in
theorem l2Shift_any : ∀ t : Tr, l2ShiftC t := Tr.ind fun k n ks hk => by
  intro w v y c d hsh hin hcnt hy0 hy1 hc0 hc1
  obtain ⟨-, hn0, hn1, hsk⟩ := shape_kids' hsh
  have hmost := most_le k
  obtain ⟨A, cap, rfl, hl, hc, hK⟩ := Lies.mk_iff.1 hin
  obtain ⟨i0, hi, hz0, hz1, hz2⟩ := info_parts infoS
  have hcc := hc
  unfold maxLen at hcc
  simp only [cnt] at hcnt hc1
  have hlc := len_le_cnts ks
  obtain ⟨b1, d1⟩ : ∃ b1, (k == 1) = b1 := ⟨_, rfl⟩
  obtain ⟨b2, d2⟩ : ∃ b2, decide (c ≤ n) = b2 := ⟨_, rfl⟩
  obtain ⟨nn, hnn⟩ : ∃ nn, nn = if (b1 && b2) = true then n + y else n := ⟨_, rfl⟩
  obtain ⟨rs, hrs⟩ : ∃ rs, rs = shfTs y k ks 0 c := ⟨_, rfl⟩
  have hres : shfT y (.mk k n ks) c = .mk k nn rs := by
    rw [hnn, hrs, ← d1, ← d2]
    conv => lhs; unfold shfT
    simp
  have hrl : rs.length = ks.length := by rw [hrs, shfTs_len]
  have hget : ∀ j (h : j < ks.length), rs[j]'(by omega) = shfT y ks[j] (c + und k j) := fun j h => by
    subst hrs
    rw [shfTs_get y h, Nat.zero_add]
  rw [hres]
  have HGET := Lib.hid hget
  clear hres hrs hget
  cases b1 with
  | true =>
    obtain rfl : k = 1 := by simpa using d1
    obtain ⟨rfl, -, -⟩ := var_leaf hsh
    obtain rfl : rs = [] := List.eq_nil_of_length_eq_zero (by simpa using hrl)
    cases b2
    all_goals simp only [Bool.and_true, Bool.and_false, if_true, Bool.false_eq_true, if_false] at hnn
    all_goals go_enter Try.func190, Try.ntmps190
    all_goals go_wp2_with fail
    all_goals refine wp_loop_rounds 1 ?_
    all_goals rw [rounds_succ]
    all_goals go_wp2_with fail
    all_goals exact bodyPost_ret (v := .agg #[.int .i64 1, .int .i64 nn, .slice none 0 0]) (by simp [results, Try.results190, go_sem, hnn]) rfl ⟨_, rfl, Made.leaf _ _ _ _ _, (((Ext.refl w).alloc _).alloc _).alloc _⟩
  | false =>
    simp only [Bool.false_and, Bool.false_eq_true, if_false] at hnn
    go_enter Try.func190, Try.ntmps190
    go_wp2_with fail
    obtain ⟨w1, hw1⟩ : ∃ w1, w1 = (w.alloc (.cells #[.int .i64 k, .int .i64 n, .slice A ks.length cap] 44)).alloc (.cells #[.int .i64 0, .int .i64 0, .slice none 0 0] 44) := ⟨_, rfl⟩
    obtain ⟨W, hW⟩ : ∃ W, W = w1.alloc (.cells #[.int .i64 k, .int .i64 nn, .slice none 0 0] 44) := ⟨_, rfl⟩
    have hs1 : w1.heap.size = w.heap.size + 1 + 1 := by rw [hw1]; simp
    have hsW : W.heap.size = w.heap.size + 3 := by rw [hW]; simp; omega
    have hE1 : Ext w w1 := hw1 ▸ ((Ext.refl w).alloc _).alloc _
    have hEW : Ext w1 W := hW ▸ (Ext.refl w1).alloc _
    have hbR : w1.heap[w.heap.size + 1]? = some (.cells #[.int .i64 0, .int .i64 0, .slice none 0 0] 44 (0, 0)) := by
      rw [hw1]; exact (blk2 (Ext.refl _)).2.1
    have hbO : W.heap[w.heap.size + 1 + 1]? = some (.cells #[.int .i64 k, .int .i64 nn, .slice none 0 0] 44 (0, 0)) := by
      have := heap_alloc_new w1 (.cells #[.int .i64 k, .int .i64 nn, .slice none 0 0] 44)
      rw [hs1] at this
      rw [hW]
      exact this
    have hbT : w1.heap[w.heap.size]? = some (.cells #[.int .i64 k, .int .i64 n, .slice A ks.length cap] 44 (0, 0)) := by
      rw [hw1]; exact (blk2 (Ext.refl _)).1
    rw [hnn] at hW
    rw [← hw1, ← hW]
    clear hW hw1
    go_loopw [8] (fun i wr => ∃ (j : Nat) (v : Value), j ≤ ks.length ∧ i = .int .i64 j ∧ wr.heap[w.heap.size + 1 + 1]? = some (.cells #[.int .i64 k, .int .i64 nn, v] 44 (0, 0)) ∧ Grow W wr 44 v (rs.take j) ∧ Ext w1 wr ∧ W.heap.size ≤ wr.heap.size) (fun i _ => ks.length - (intOf i).toNat)
    case atStart => exact ⟨0, _, Nat.zero_le _, rfl, hbO, Grow.nil _ _ _, hEW, Nat.le_refl _⟩
    case round =>
      obtain ⟨j, v, hj, rfl, hbv, hG, he, hle⟩ := hrel
      by_cases hlt : j < ks.length
      · obtain ⟨b, o, k', n', A', cap', kids, rfl, HK, c0, c1, c2, hkl, hkc, hK', hin', hmem⟩ := hK.get (hE1.trans he) hlt
        have htk := take_snoc (l := rs) (j := j) (by omega) (HGET.out j hlt)
        rw [HK.out] at htk
        have hub := und_le k j
        have hskj := hsk _ hmem
        have hj2 : (j : Int) < (ks.length : Int) := by omega
        obtain ⟨uu, hu⟩ : ∃ u, u = und k j := ⟨_, rfl⟩
        have HU := Lib.hid (fun W => l2Under_any k j W)
        rw [← hu] at HU hub htk
        have HTK := Lib.hid htk
        have HWR := Lib.hid (IntWalk.i64_in (c + uu) ⟨by omega, by omega⟩)
        clear hu htk
        have hcm := cnt_mem hmem
        have hlen : (rs.take j).length < 1099511627776 := by rw [List.length_take]; omega
        have hlj : (rs.take j).length = j := by rw [List.length_take]; omega
        have HL := Lib.hid hlj
        have hbT2 := he.blk hbT
        obtain ⟨t0, -, t2, -, -, -⟩ := own3 hbT2
        have hj' : (j : Int) < (ks.length : Int) := by omega
        go_wp2_with fail
        have hle2 := hle
        have hG2 := hG
        have hbv2 := hbv
        have hv := cell_of_blk hbv2 2
        have hcells : ∀ w', Below W.heap.size wr w' → w'.heap[w.heap.size + 1 + 1]? = some (.cells #[.int .i64 k, .int .i64 nn, v] 44 (0, 0)) := fun w' hB => (hB.block (w.heap.size + 1 + 1) (by omega)).trans hbv2
        have HCells := Lib.hid hcells
        have hEd : Ext wr wr.drew := (Ext.refl wr).drew
        have hinD := hin'.ext hEd
        have he2 := he
        have hbw := hK.lt hlt
        have HS := Lib.hid (show ∀ w', Below (w.heap.size + 1) wr w' → w'.cell? ⟨w.heap.size, 0, none⟩ = some (.int .i64 k) ∧ w'.cell? ⟨w.heap.size, 2, none⟩ = some (.slice (some ⟨b, o, none⟩) ks.length cap) ∧ w'.cell? ⟨b, o + j * 3, none⟩ = some (.int .i64 k') ∧ w'.cell? ⟨b, o + j * 3 + 1, none⟩ = some (.int .i64 n') ∧ w'.cell? ⟨b, o + j * 3 + 2, none⟩ = some (.slice A' kids.length cap') from fun w' hw' =>
          ⟨(hw'.cell (p := ⟨w.heap.size, 0, none⟩) (by show w.heap.size < _; omega)).trans t0, (hw'.cell (p := ⟨w.heap.size, 2, none⟩) (by show w.heap.size < _; omega)).trans t2, (hw'.cell (p := ⟨b, o + j * 3, none⟩) (by show b < _; omega)).trans c0, (hw'.cell (p := ⟨b, o + j * 3 + 1, none⟩) (by show b < _; omega)).trans c1, (hw'.cell (p := ⟨b, o + j * 3 + 2, none⟩) (by show b < _; omega)).trans c2⟩)
        have hBd : Below (w.heap.size + 1) wr wr.drew := (Below.refl _ _).drew
        clear hcells hlj hbv hG he hle hcc
        rw [show Op.load 42 (Operand.tmp 35) = ldO 42 35 from rfl]
        go_region_held_law (fun w' => w'.cell? ⟨w.heap.size, 0, none⟩ = some (.int .i64 k) ∧ w'.cell? ⟨w.heap.size, 2, none⟩ = some (.slice (some ⟨b, o, none⟩) ks.length cap) ∧ w'.cell? ⟨b, o + j * 3, none⟩ = some (.int .i64 k') ∧ w'.cell? ⟨b, o + j * 3 + 1, none⟩ = some (.int .i64 n') ∧ w'.cell? ⟨b, o + j * 3 + 2, none⟩ = some (.slice A' kids.length cap'))
          (first | exact HS.out _ ((hBe.setCell (by show _ ≤ w.heap.size + 1 + 1; omega) _)) | exact HS.out _ hBe | exact HS.out _ (hBc.alloc (by omega) _) | exact HS.out _ hBc | exact HS.out _ hBd)
          (first | (go_simp; go_at_call 171; refine (HU.out _).mono ?_; rintro e wu ⟨rfl, rfl⟩) | (go_simp; go_at_call 190; (try rw [HWR.out]); refine (hk _ hmem _ _ y (c + uu) (d - 1) hskj hinD (by omega) hy0 hy1 (by omega) (by omega)).mono ?_; rintro e w4 ⟨u, rfl, hM, h4⟩; obtain ⟨a1, a2, a3, a4, a5, rfl⟩ := hM.three'; have hv4 := cell_of_blk (HCells.out _ ((hEd.trans h4).below hle2)) 2; have hs4 := World.block_lt_of_cell? _ _ hv4; have hBc : Below (w.heap.size + 1) wr w4 := ((hEd.trans h4).below hle2).mono (by omega)) | (refine step_append_tree _ (by rfl) (.tmp 36) (.tmp 50) _ (by rfl) 44 i0 _ Try.underlying42 hi hz0 hz1 hz2 rfl (by rfl) hG2 hle2 (hEd.trans h4) (hM.since (Nat.le_refl _)) ((Ext.refl _).alloc _) (by rfl) (heap_alloc_new _ _) hlen ?_; intro v' w5 hG5 hB5; obtain ⟨B5, c5, rfl, q1, q2, -⟩ := hG5.made; have hv5 := cell_of_blk (HCells.out _ hB5) 2; have hf5 := frozen_of_blk (HCells.out _ hB5) 2; have hBe : Below (w.heap.size + 1) wr w5 := hB5.mono (by omega)))
        all_goals (
          have hE5 : Ext w1 w5 := he2.trans' hB5 (by omega)
          have hs5 := hB5.size
          have hb6 := HCells.out _ hB5
          rw [List.length_append, List.length_singleton, HL.out, HTK.out] at hG5
          have hGs := fun u => hG5.after ((Above.refl W.heap.size w5).setCell (p := ⟨w.heap.size + 1 + 1, 2, none⟩) (by show w.heap.size + 1 + 1 < W.heap.size; omega) u)
          clear hv4 hs4 hv HCells hM h4 c0 c1 c2 t2 t0
          go_wp2_with fail
          go_roundw
          case rel => exact ⟨j + 1, _, by omega, by go_num, blk_setCell hb6 2 _, hGs _, hE5.setCell (by show _ ≤ w.heap.size + 1 + 1; omega) _, by simp; omega⟩
          case measure => simp [intOf]; omega)
      · obtain ⟨B5, c5, rfl, q1, q2, hMK⟩ := hG.made
        have hjl : j = ks.length := by omega
        have hrj : rs.take j = rs := List.take_of_length_le (by omega)
        obtain ⟨r0, r1, r2, -, -, -⟩ := own3 hbv
        have hbT2 := he.blk hbT
        obtain ⟨-, -, t2, -, -, -⟩ := own3 hbT2
        have hbR' := he.blk hbR
        obtain ⟨s0, s1, s2, f0, f1, f2⟩ := own3 hbR'
        rw [hrj] at q1 r2 hMK
        clear hbv
        go_wp2_with fail
        refine bodyPost_ret (v := .agg #[.int .i64 k, .int .i64 nn, .slice B5 rs.length c5]) (by simp [results, Try.results190, go_sem, s0, s1, s2, hnn, hrl]) rfl ⟨_, rfl, ?_, ?_⟩
        · exact Made.since (Made.after (Made.mk q1 q2 hMK) ((((Above.refl _ _).setCell (by show w.heap.size + 1 < _; omega) _).setCell (by show w.heap.size + 1 < _; omega) _).setCell (by show w.heap.size + 1 < _; omega) _)) (by omega)
        · exact ((((hE1.trans he).setCell (by simp) _).setCell (by simp) _).setCell (by simp) _)
end Go.Proofs.Ytappakllopkfiaa

/-
  Lemmas towards the law, 29: ReadD.
-/
import Derived.Test.YtolkohncmidpeaaGreatDoorGBA
import Derived.Test.YtolkohncmidpeaaGreatDoorGBB
import Derived.Lib.Split
namespace Go.Proofs.YtolkohncmidpeaaGreatDoor
set_option linter.unusedVariables false
theorem index_one (c b : UInt8) (l : List UInt8) : Lib.index (b :: l) [c] = if b = c then 0 else if Lib.index l [c] = -1 then -1 else Lib.index l [c] + 1 := by
  rw [Lib.index]
  by_cases h : b = c
  · subst h
    simp
  · have h2 : (c == b) = false := beq_eq_false_iff_ne.2 (fun e => h e.symm)
    simp [h]
    intro e
    exact absurd e.symm h
theorem index_ge (c : UInt8) : ∀ l : List UInt8, Lib.index l [c] = -1 ∨ 0 ≤ Lib.index l [c]
  | [] => .inl rfl
  | b :: l => by
    rw [index_one]
    have := index_ge c l
    split
    · exact .inr (by omega)
    · split
      · exact .inl rfl
      · exact .inr (by omega)
theorem index_app (c : UInt8) : ∀ (a r : List UInt8), (∀ x ∈ a, x ≠ c) → Lib.index (a ++ c :: r) [c] = (a.length : Int)
  | [], r, _ => by rw [List.nil_append, index_one, if_pos rfl]; rfl
  | x :: a, r, h => by
    have ih := index_app c a r (fun y hy => h y (List.mem_cons_of_mem _ hy))
    rw [List.cons_append, index_one, if_neg (h x (List.mem_cons_self ..)), ih, if_neg (by omega)]
    simp
theorem cutS_index (c : UInt8) : ∀ (l pre : List UInt8), cutS c pre l = if Lib.index l [c] = -1 then [pre ++ l] else (pre ++ l.take (Lib.index l [c]).toNat) :: cutS c [] (l.drop ((Lib.index l [c]).toNat + 1))
  | [], pre => by simp [cutS, Lib.index]
  | b :: l, pre => by
    rw [cutS, index_one]
    by_cases h : b = c
    · rw [if_pos h, if_pos h]
      simp
    · rw [if_neg h, if_neg h, cutS_index c l (pre ++ [b])]
      rcases index_ge c l with h1 | h1
      · simp [h1]
      · rw [if_neg (show ¬ Lib.index l [c] = -1 by omega), if_neg (show ¬ Lib.index l [c] = -1 by omega), if_neg (show ¬ Lib.index l [c] + 1 = -1 by omega)]
        have e : (Lib.index l [c] + 1).toNat = (Lib.index l [c]).toNat + 1 := by omega
        rw [e]
        simp
theorem split_cut (c : UInt8) : ∀ (n : Nat) (l : List UInt8), l.length ≤ n → Lib.splitK [c] 0 (Lib.count l [c]) l = cutL c l
  | 0, l, h => by
    have : l = [] := List.eq_nil_of_length_eq_zero (by omega)
    subst this
    rw [Lib.count_miss (by rfl)]
    rfl
  | n + 1, l, h => by
    unfold cutL
    rw [cutS_index]
    rcases index_ge c l with h1 | h1
    · rw [if_pos h1, Lib.count_miss h1]
      rfl
    · rw [if_neg (by omega), Lib.count_hit (i := (Lib.index l [c]).toNat) (by simp) (by omega), Nat.add_comm 1, Lib.splitK, if_neg (by simp; omega)]
      have hl := Lib.index_room l [c] h1
      have ih := split_cut c n (l.drop ((Lib.index l [c]).toNat + 1)) (by rw [List.length_drop]; simp at hl; omega)
      unfold cutL at ih
      simp only [List.length_cons, List.length_nil, Nat.zero_add, Nat.add_zero, List.nil_append]
      rw [ih]
theorem cutL_app (c : UInt8) {a : List UInt8} (h : ∀ x ∈ a, x ≠ c) (r : List UInt8) : cutL c (a ++ c :: r) = a :: cutL c r := by
  unfold cutL
  rw [cutS_index, index_app c a r h, if_neg (by omega)]
  simp
/-- The text of which these are the pieces. -/
def joinC (c : UInt8) : List (List UInt8) → List UInt8
  | [] => []
  | [x] => x
  | x :: y :: r => x ++ c :: joinC c (y :: r)
theorem joinC_cut (c : UInt8) : ∀ (l pre : List UInt8), joinC c (cutS c pre l) = pre ++ l
  | [], pre => by simp [cutS, joinC]
  | b :: l, pre => by
    rw [cutS]
    split
    · rename_i h
      subst h
      have ih := joinC_cut b l []
      cases he : cutS b [] l with
      | nil => exact absurd he (cutS_ne b l [])
      | cons y r =>
        rw [he] at ih
        rw [joinC, ih]
        simp
    · rw [joinC_cut c l (pre ++ [b])]
      simp
theorem decL_free {n : Int} (h0 : 0 ≤ n) (h1 : n ≤ 20) : ∀ c ∈ decL n, c ≠ 10 ∧ c ≠ 61 := by
  rcases decL_cases h0 h1 with rfl | rfl | rfl | rfl | rfl | rfl | rfl | rfl | rfl | rfl | rfl | rfl | rfl | rfl | rfl | rfl | rfl | rfl | rfl | rfl | rfl <;> decide
theorem signs_free {k : Int} {n : Nat} (h : opsT k = (n : Int)) : (∀ c ∈ opn k, c ≠ 10 ∧ c ≠ 61) ∧ (∀ c ∈ sep k, c ≠ 10 ∧ c ≠ 61) ∧ (∀ c ∈ cls k, c ≠ 10 ∧ c ≠ 61) := by
  rcases opsT_kind h with rfl | rfl | rfl | rfl | rfl | rfl | rfl | rfl | rfl | rfl | rfl | rfl | rfl | rfl | rfl | rfl <;> decide
mutual
theorem fmtL_free : ∀ (t : Tr) (d : Int), shape sigT t d = true → ∀ c ∈ fmtL t, c ≠ 10 ∧ c ≠ 61
  | .mk k n ks, d, h => by
    obtain ⟨hops, hn0, hn1, hks⟩ := shape_kids' h
    have hops2 : opsT k = (ks.length : Int) := hops
    have hmost : n ≤ mostT k := hn1
    obtain ⟨s1, s2, s3⟩ := signs_free hops2
    have ih := fmtK_free ks (d - 1) hks (sep k) s2 true
    unfold fmtL
    split
    · rename_i hk
      subst hk
      have hn : n ≤ 20 := hmost
      intro c hc
      rcases List.mem_cons.1 hc with rfl | hc
      · decide
      · exact decL_free hn0 hn c hc
    · split
      · rename_i hk
        subst hk
        have hn : n ≤ 3 := hmost
        intro c hc
        rcases List.mem_cons.1 hc with rfl | hc
        · decide
        · exact decL_free hn0 (by omega) c hc
      · intro c hc
        rcases List.mem_append.1 hc with hc | hc
        · rcases List.mem_append.1 hc with hc | hc
          · exact s1 c hc
          · exact ih c hc
        · exact s3 c hc
theorem fmtK_free : ∀ (ts : List Tr) (d : Int), (∀ t ∈ ts, shape sigT t d = true) → ∀ (s : List UInt8), (∀ c ∈ s, c ≠ 10 ∧ c ≠ 61) → ∀ f : Bool, ∀ c ∈ fmtK s ts f, c ≠ 10 ∧ c ≠ 61
  | [], d, _, s, _, f => by intro c hc; simp [fmtK] at hc
  | t :: ts, d, h, s, hs, f => by
    have h1 := fmtL_free t d (h t (List.mem_cons_self ..))
    have h2 := fmtK_free ts d (fun x hx => h x (List.mem_cons_of_mem _ hx)) s hs false
    intro c hc
    unfold fmtK at hc
    rcases List.mem_append.1 hc with hc | hc
    · rcases List.mem_append.1 hc with hc | hc
      · split at hc
        · simp at hc
        · exact hs c hc
      · exact h1 c hc
    · exact h2 c hc
end
theorem fmtL_freeV {t : Tr} (h : valid sigT t = true) : ∀ c ∈ fmtL t, c ≠ 10 ∧ c ≠ 61 := by
  unfold valid at h
  rw [Bool.and_eq_true] at h
  exact fmtL_free t 30 h.1
theorem fmtL_ne {t : Tr} (h : valid sigT t = true) : fmtL t ≠ [] := by
  intro he
  have h1 := prsV_fmt h
  rw [he] at h1
  unfold prsV at h1
  split at h1
  · cases h1
  · split at h1
    · rename_i hh
      exact hh.1 rfl
    · cases h1
/-- A line, as1 the program reads it. -/
def lineI (l : List UInt8) : Option (Tr × Tr) := match rdV (Lib.cut l [61]).1, rdV (Lib.cut l [61]).2.1 with
  | some t, some b => some (t, b)
  | _, _ => none
def linesI : List (List UInt8) → Option (List Tr)
  | [] => some []
  | x :: r => match lineI x with
    | none => none
    | some (t, b) => (linesI r).map fun ds => t :: b :: ds
/-- The program's ParseDefs. -/
def pdI (l : List UInt8) : Option (List Tr) :=
  if (cutL 10 l).getLastD [] ≠ [] ∨ 9 < (cutL 10 l).length then none
  else match linesI (cutL 10 l).dropLast with
    | none => none
    | some ks => if dfV ks (ks.length / 2) = true then some ks else none
theorem rdV_fmt {t : Tr} (h : valid sigT t = true) : rdV (fmtL t) = some t := by rw [rdV_eq]; exact prsV_fmt h
theorem rdV_some {l : List UInt8} {t : Tr} (h : rdV l = some t) : valid sigT t = true ∧ fmtL t = l := prsV_valid (by rw [← rdV_eq]; exact h)
theorem cut_app {a : List UInt8} (h : ∀ x ∈ a, x ≠ 61) (r : List UInt8) : Lib.cut (a ++ 61 :: r) [61] = (a, r, true) := by
  unfold Lib.cut
  rw [index_app 61 a r h, if_pos (by omega)]
  simp
theorem lineI_fmt {t b : Tr} (ht : valid sigT t = true) (hb : valid sigT b = true) : lineI (fmtL t ++ 61 :: fmtL b) = some (t, b) := by
  unfold lineI
  rw [cut_app (fun x hx => (fmtL_freeV ht x hx).2)]
  simp only [rdV_fmt ht, rdV_fmt hb]
theorem lineI_some {l : List UInt8} {t b : Tr} (h : lineI l = some (t, b)) : valid sigT t = true ∧ valid sigT b = true ∧ l = fmtL t ++ 61 :: fmtL b := by
  unfold lineI at h
  split at h
  · rename_i t' b' h1 h2
    simp only [Option.some.injEq, Prod.mk.injEq] at h
    obtain ⟨rfl, rfl⟩ := h
    obtain ⟨v1, f1⟩ := rdV_some h1
    obtain ⟨v2, f2⟩ := rdV_some h2
    refine ⟨v1, v2, ?_⟩
    unfold Lib.cut at f1 f2
    by_cases h0 : 0 ≤ Lib.index l [61]
    · rw [if_pos h0] at f1 f2
      simp only at f1 f2
      have hi := cutS_index 61 l []
      rw [if_neg (by omega)] at hi
      have hj := joinC_cut 61 l []
      rw [hi] at hj
      rw [f1, f2]
      have hr : l.drop ((Lib.index l [61]).toNat) = 61 :: l.drop ((Lib.index l [61]).toNat + 1) := by
        have hc := congrArg List.length hj
        have hq : joinC 61 (cutS 61 [] (l.drop ((Lib.index l [61]).toNat + 1))) = l.drop ((Lib.index l [61]).toNat + 1) := by rw [joinC_cut]; rfl
        cases he : cutS 61 [] (l.drop ((Lib.index l [61]).toNat + 1)) with
        | nil => exact absurd he (cutS_ne _ _ _)
        | cons y r =>
          rw [he] at hq hj
          rw [joinC, hq] at hj
          simp only [List.nil_append] at hj
          have h5 : l.take (Lib.index l [61]).toNat ++ 61 :: l.drop ((Lib.index l [61]).toNat + 1) = l.take (Lib.index l [61]).toNat ++ l.drop (Lib.index l [61]).toNat := by rw [hj, List.take_append_drop]
          exact (List.append_cancel_left h5).symm
      conv => lhs; rw [← List.take_append_drop (Lib.index l [61]).toNat l, hr]
      simp
    · rw [if_neg h0] at f2
      exact absurd f2 (fmtL_ne v2)
  · cases h
theorem linesI_some : ∀ {xs : List (List UInt8)} {ks : List Tr}, linesI xs = some ks → ks.length = xs.length * 2 ∧ (∀ t ∈ ks, valid sigT t = true) ∧ joinC 10 (xs ++ [[]]) = fmtDs ks
  | [], ks, h => by
    simp only [linesI, Option.some.injEq] at h
    subst h
    exact ⟨rfl, by simp, rfl⟩
  | x :: r, ks, h => by
    rw [linesI] at h
    split at h
    · cases h
    · rename_i t b hx
      cases hr : linesI r with
      | none => rw [hr] at h; cases h
      | some ds =>
        rw [hr] at h
        simp only [Option.map_some, Option.some.injEq] at h
        subst h
        obtain ⟨h1, h2, h3⟩ := linesI_some hr
        obtain ⟨v1, v2, hl⟩ := lineI_some hx
        refine ⟨by simp [h1]; omega, fun y hy => ?_, ?_⟩
        · simp only [List.mem_cons] at hy
          rcases hy with rfl | rfl | hy
          · exact v1
          · exact v2
          · exact h2 y hy
        · have hne : r ++ [[]] ≠ ([] : List (List UInt8)) := by simp
          cases he : r ++ [([] : List UInt8)] with
          | nil => exact absurd he hne
          | cons y q =>
            rw [he] at h3
            rw [List.cons_append, he, joinC, h3, fmtDs, hl]
            simp
theorem lineP_fmt {t b : Tr} (ht : valid sigT t = true) (hb : valid sigT b = true) : lineP (fmtL t ++ 61 :: fmtL b) = some (t, b) := by
  have s1 : shape sigT t ((30 : Nat) : Int) = true := by unfold valid at ht; rw [Bool.and_eq_true] at ht; exact ht.1
  have s2 : shape sigT b ((30 : Nat) : Int) = true := by unfold valid at hb; rw [Bool.and_eq_true] at hb; exact hb.1
  obtain ⟨a, q1, q2, -⟩ := prs_fmt 30 t (fmtL t ++ 61 :: fmtL b) 0 (61 :: fmtL b) s1 rfl (by simp)
  obtain ⟨g1, g2⟩ := at_cons q2
  obtain ⟨e, q3, q4, q5⟩ := prs_fmt 30 b (fmtL t ++ 61 :: fmtL b) (a + 1) [] s2 rfl (by rw [g2]; simp)
  rw [List.drop_eq_nil_iff] at q4
  rw [lineP_two q1 g1 q3, if_pos (by omega)]
/-- The pieces of a text of definitions. -/
def linesF : List Tr → List (List UInt8)
  | t :: b :: r => (fmtL t ++ 61 :: fmtL b) :: linesF r
  | _ => []
theorem cut_fmtDs : ∀ {n : Nat} {ks : List Tr}, ks.length = n * 2 → (∀ t ∈ ks, valid sigT t = true) → cutL 10 (fmtDs ks) = linesF ks ++ [[]] ∧ (linesF ks).length = n ∧ linesI (linesF ks) = some ks ∧ linesP (linesF ks ++ [[]]) = some ks
  | 0, ks, h, _ => by
    have : ks = [] := List.eq_nil_of_length_eq_zero (by omega)
    subst this
    exact ⟨rfl, rfl, rfl, rfl⟩
  | n + 1, ks, h, hv => by
    match ks, h, hv with
    | [_], h, _ => simp at h; omega
    | t :: b :: r, h, hv =>
      have ht := hv t (by simp)
      have hb := hv b (by simp)
      obtain ⟨i1, i2, i3, i4⟩ := cut_fmtDs (n := n) (ks := r) (by simp at h; omega) (fun x hx => hv x (by simp [hx]))
      refine ⟨?_, ?_, ?_, ?_⟩
      · have e : fmtDs (t :: b :: r) = (fmtL t ++ 61 :: fmtL b) ++ 10 :: fmtDs r := by rw [fmtDs]; simp
        rw [e, cutL_app 10 (fun x hx => ?_), i1, linesF]
        · rfl
        · rcases List.mem_append.1 hx with hx | hx
          · exact (fmtL_freeV ht x hx).1
          · rcases List.mem_cons.1 hx with rfl | hx
            · decide
            · exact (fmtL_freeV hb x hx).1
      · rw [linesF, List.length_cons, i2]
      · rw [linesF, linesI, lineI_fmt ht hb, i3]
        rfl
      · rw [linesF, List.cons_append]
        cases he : linesF r ++ [([] : List UInt8)] with
        | nil => simp at he
        | cons y q =>
          rw [he] at i4
          rw [linesP, lineP_fmt ht hb, i4]
          rfl
theorem psD_of {l : List UInt8} {ks : List Tr} (h : psD l = some ks) : dfV ks (ks.length / 2) = true ∧ fmtDs ks = l := by
  unfold psD at h
  split at h
  · cases h
  · unfold psO at h
    split at h
    · cases h
    · split at h
      · rename_i hh
        cases h
        refine ⟨hh.2, ?_⟩
        have := hh.1
        unfold fmtDV at this
        rwa [if_pos hh.2] at this
      · cases h
theorem pdI_of {l : List UInt8} {ks : List Tr} (h : pdI l = some ks) : dfV ks (ks.length / 2) = true ∧ fmtDs ks = l ∧ ∃ n, ks.length = n * 2 := by
  unfold pdI at h
  split at h
  · cases h
  · rename_i hc
    split at h
    · cases h
    · rename_i ks' hl
      split at h
      · rename_i hd
        cases h
        obtain ⟨h1, h2, h3⟩ := linesI_some hl
        refine ⟨hd, ?_, _, h1⟩
        rw [← h3]
        have hne : cutL 10 l ≠ [] := cutS_ne 10 l []
        have hlast : (cutL 10 l).getLast hne = [] := by
          have : (cutL 10 l).getLastD [] = [] := by
            apply Classical.byContradiction
            intro hh
            exact hc (.inl hh)
          rwa [List.getLastD_eq_getLast?, List.getLast?_eq_some_getLast hne] at this
        have he := List.dropLast_concat_getLast hne
        rw [hlast] at he
        rw [he]
        exact joinC_cut 10 l []
      · cases h
theorem psD_even {l : List UInt8} {ks : List Tr} (h : psD l = some ks) : ∃ n, ks.length = n * 2 := by
  have hP : ∀ (xs : List (List UInt8)) (qs : List Tr), linesP xs = some qs → ∃ n, qs.length = n * 2 := by
    intro xs
    induction xs with
    | nil => intro qs h; simp only [linesP, Option.some.injEq] at h; subst h; exact ⟨0, rfl⟩
    | cons x r ih =>
      intro qs h
      cases r with
      | nil => simp only [linesP, Option.some.injEq] at h; subst h; exact ⟨0, rfl⟩
      | cons y q =>
        rw [linesP] at h
        split at h
        · cases h
        · cases hr : linesP (y :: q) with
          | none => rw [hr] at h; cases h
          | some ds =>
            rw [hr] at h
            simp only [Option.map_some, Option.some.injEq] at h
            subst h
            obtain ⟨n, hn⟩ := ih ds hr
            exact ⟨n + 1, by simp [hn]; omega⟩
  unfold psD at h
  split at h
  · cases h
  · cases hl : linesP (cutL 10 l) with
    | none => rw [hl] at h; cases h
    | some qs =>
      rw [hl] at h
      unfold psO at h
      simp only at h
      split at h
      · cases h
        exact hP _ _ hl
      · cases h
theorem back_fmt {ks : List Tr} {n : Nat} (hn : ks.length = n * 2) (hd : dfV ks n = true) : psD (fmtDs ks) = some ks ∧ pdI (fmtDs ks) = some ks := by
  obtain ⟨h8, hv⟩ := dfV_valid hd hn
  obtain ⟨c1, c2, c3, c4⟩ := cut_fmtDs hn hv
  have h2 : ks.length / 2 = n := by omega
  constructor
  · unfold psD
    rw [c1, c4, if_neg (by simp; omega)]
    unfold psO
    simp only
    rw [h2, if_pos ⟨by unfold fmtDV; rw [if_pos hd], hd⟩]
  · unfold pdI
    rw [c1, if_neg (by simp; omega), List.dropLast_concat, c3]
    simp only
    rw [h2, if_pos hd]
/-- The program's ParseDefs answers as1 the reference's. -/
theorem pdI_eq (l : List UInt8) : pdI l = psD l := by
  cases hp : psD l with
  | some ks =>
    obtain ⟨n, hn⟩ := psD_even hp
    obtain ⟨h1, h2⟩ := psD_of hp
    rw [show ks.length / 2 = n by omega] at h1
    have := (back_fmt hn h1).2
    rw [h2] at this
    exact this
  | none =>
    cases hi : pdI l with
    | none => rfl
    | some ks =>
      obtain ⟨h1, h2, n, hn⟩ := pdI_of hi
      rw [show ks.length / 2 = n by omega] at h1
      have := (back_fmt hn h1).1
      rw [h2, hp] at this
      cases this
end Go.Proofs.YtolkohncmidpeaaGreatDoor

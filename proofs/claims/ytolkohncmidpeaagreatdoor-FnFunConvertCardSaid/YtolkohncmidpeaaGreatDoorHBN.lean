/-
  Lemmas towards the law, 40: FunQ, NumA, FunR, DrawCp, Same.
-/
import Derived.Test.YtolkohncmidpeaaGreatDoorHAC
import Derived.Test.YtolkohncmidpeaaGreatDoorHAG
import Derived.Test.YtolkohncmidpeaaGreatDoorHAL
import Derived.Test.YtolkohncmidpeaaGreatDoorHAM
import Derived.Test.YtolkohncmidpeaaGreatDoorHBH
import Derived.Test.YtolkohncmidpeaaGreatDoorHBK
import Derived.Test.YtolkohncmidpeaaGreatDoorHBL
import Derived.Test.YtolkohncmidpeaaGreatDoorHBM
import Derived.BigQuiet
import Derived.Outline
import Derived.StillTailTactics
import Derived.Test.YtolkohncmidpeaaGreatDoorProg
namespace Go.Proofs.YtolkohncmidpeaaGreatDoor
set_option linter.unusedVariables false
open M (Cv Par Red)
def numM : Nat → M.Tm
  | 0 => .zero
  | n + 1 => .succ (numM n)
theorem enc_num : ∀ n, enc (numM n) = numTr n
  | 0 => rfl
  | n + 1 => by simp only [numM, enc, numTr, enc_num n]
theorem num_sub (s : Nat → M.Tm) : ∀ n, (numM n).sub s = numM n
  | 0 => rfl
  | n + 1 => by simp only [numM, M.Tm.sub, num_sub s n]
theorem num_ren (r : Nat → Nat) : ∀ n, (numM n).ren r = numM n
  | 0 => rfl
  | n + 1 => by simp only [numM, M.Tm.ren, num_ren r n]
theorem num_inj : ∀ {n m : Nat}, Cv (numM n) (numM m) → n = m
  | 0, 0, _ => rfl
  | n + 1, m + 1, h => by rw [num_inj h.succ_inj]
  | 0, m + 1, h => by have := h.hk (by simp [numM, M.hk]) (by simp [numM, M.hk]); simp [numM, M.hk] at this
  | n + 1, 0, h => by have := h.hk (by simp [numM, M.hk]) (by simp [numM, M.hk]); simp [numM, M.hk] at this
theorem cv_beta (A b a : M.Tm) : Cv (.app (.lam A b) a) (b.inst a) := (M.Hd.beta A b a).par.cv
theorem cv_ez (p z s : M.Tm) : Cv (.elim p z s .zero) z := (M.Hd.ez p z s).par.cv
theorem cv_es (p z s a : M.Tm) : Cv (.elim p z s (.succ a)) (.app (.app s a) (.elim p z s a)) := (M.Hd.es p z s a).par.cv
theorem ren_id_num (n : Nat) : M.Tm.wk (numM n) = numM n := num_ren _ n
/-- Two arguments. -/
theorem cv_two {A B b : M.Tm} (x y : Nat) : Cv (.app (.app (.lam A (.lam B b)) (numM x)) (numM y)) (b.sub (M.Tm.cns (numM y) (M.Tm.cns (numM x) M.Tm.var))) := by
  refine (Cv.app (cv_beta A (.lam B b) (numM x)) (Cv.rfl' _)).trans ?_
  refine (cv_beta _ _ _).trans ?_
  rw [M.Tm.sub_ups_inst]
  exact Cv.rfl' _
theorem plus_cv (a b : Nat) : Cv (.app (.app plusT (numM a)) (numM b)) (numM (a + b)) := by
  refine (cv_two a b).trans ?_
  simp only [M.Tm.sub, M.Tm.cns, M.Tm.ups]
  induction b with
  | zero => exact cv_ez _ _ _
  | succ b ih =>
    refine (cv_es _ _ _ _).trans ?_
    refine (Cv.app (cv_beta _ _ _) (Cv.rfl' _)).trans ?_
    refine (cv_beta _ _ _).trans ?_
    exact ih.succ
theorem pred_cv (a : Nat) : Cv (.app predT (numM a)) (numM (a - 1)) := by
  refine (cv_beta _ _ _).trans ?_
  simp only [M.Tm.inst, M.Tm.sub, M.Tm.cns, M.Tm.ups, M.Tm.ren]
  cases a with
  | zero => exact cv_ez _ _ _
  | succ a =>
    refine (cv_es _ _ _ _).trans ?_
    refine (Cv.app (cv_beta _ _ _) (Cv.rfl' _)).trans ?_
    refine (cv_beta _ _ _).trans ?_
    show Cv ((M.Tm.wk (numM a)).inst _) (numM a)
    rw [M.Tm.wk_inst]
    exact Cv.rfl' _
theorem times_cv (a b : Nat) : Cv (.app (.app timesT (numM a)) (numM b)) (numM (a * b)) := by
  refine (cv_two a b).trans ?_
  have hp : ∀ s, plusT.sub s = plusT := fun s => rfl
  simp only [M.Tm.sub, M.Tm.cns, M.Tm.ups, hp, ren_id_num]
  induction a with
  | zero => rw [Nat.zero_mul]; exact cv_ez _ _ _
  | succ a ih =>
    refine (cv_es _ _ _ _).trans ?_
    refine (Cv.app (cv_beta _ _ _) (Cv.rfl' _)).trans ?_
    refine (cv_beta _ _ _).trans ?_
    simp only [M.Tm.inst, M.Tm.sub, M.Tm.cns, M.Tm.ups, hp, num_sub]
    refine (Cv.app (Cv.rfl' _) ih).trans ?_
    refine (plus_cv _ _).trans ?_
    rw [Nat.succ_mul, Nat.add_comm]
    exact Cv.rfl' _
theorem minus_cv (a b : Nat) : Cv (.app (.app minusT (numM a)) (numM b)) (numM (a - b)) := by
  refine (cv_two a b).trans ?_
  have hp : ∀ s, predT.sub s = predT := fun s => rfl
  simp only [M.Tm.sub, M.Tm.cns, M.Tm.ups, hp]
  induction b with
  | zero => exact cv_ez _ _ _
  | succ b ih =>
    refine (cv_es _ _ _ _).trans ?_
    refine (Cv.app (cv_beta _ _ _) (Cv.rfl' _)).trans ?_
    refine (cv_beta _ _ _).trans ?_
    simp only [M.Tm.inst, M.Tm.sub, M.Tm.cns, M.Tm.ups, hp]
    refine (Cv.app (Cv.rfl' _) ih).trans ?_
    exact pred_cv _
theorem isZero_cv (a : Nat) : Cv (.app isZeroT (numM a)) (numM (if a = 0 then 1 else 0)) := by
  refine (cv_beta _ _ _).trans ?_
  simp only [M.Tm.inst, M.Tm.sub, M.Tm.cns]
  cases a with
  | zero => exact cv_ez _ _ _
  | succ a =>
    refine (cv_es _ _ _ _).trans ?_
    refine (Cv.app (cv_beta _ _ _) (Cv.rfl' _)).trans ?_
    exact cv_beta _ _ _
theorem double_cv (a : Nat) : Cv (.app doubleT (numM a)) (numM (2 * a)) := by
  refine (cv_beta _ _ _).trans ?_
  simp only [M.Tm.inst, M.Tm.sub, M.Tm.cns, M.Tm.ups]
  induction a with
  | zero => exact cv_ez _ _ _
  | succ a ih =>
    refine (cv_es _ _ _ _).trans ?_
    refine (Cv.app (cv_beta _ _ _) (Cv.rfl' _)).trans ?_
    refine (cv_beta _ _ _).trans ?_
    exact ih.succ.succ
end Go.Proofs.YtolkohncmidpeaaGreatDoor
namespace Go.Proofs.YtolkohncmidpeaaGreatDoor
open Go.RowKit
set_option linter.unusedVariables false
/-- What Numeral answers. -/
def numAns (n : Int) : Tr × Bool := if 0 ≤ n ∧ n ≤ 20 then (numTr n.toNat, true) else (.mk 0 0 [], false)
theorem numAns_bad {n : Int} (h : ¬ (0 ≤ n ∧ n ≤ 20)) : numAns n = (.mk 0 0 [], false) := if_neg h
theorem numAns_good {n : Nat} (h : n ≤ 20) : numAns n = (numTr n, true) := by
  unfold numAns
  rw [if_pos ⟨by omega, by omega⟩]
  simp
theorem numeralAns_any (n : Int) (w : World) : Calls Tryz.prog 25 #[.int .i64 n] w fun e w' => ∃ u, e = .returned (.tuple #[u, .bool (numAns n).2]) ∧ Made w w' 45 (numAns n).1 u ∧ Ext w w' := by
  by_cases hg : 0 ≤ n ∧ n ≤ 20
  · obtain ⟨m, rfl⟩ := Int.eq_ofNat_of_zero_le hg.1
    have hm : m ≤ 20 := by omega
    rw [numAns_good hm]
    have d : inR (m : Int) 0 20 = true := by unfold inR; simp; omega
    go_enter Tryz.func25, Tryz.ntmps25
    go_wp2_with (go_at_call 57; refine (within_any _ _ _ _).mono ?_; rw [d]; rintro e w3 ⟨rfl, rfl⟩)
    refine (numeral_any m (by omega) _).mono ?_
    rintro e w1 ⟨u, rfl, hM, hE⟩
    obtain ⟨a1, a2, a3, a4, a5, rfl⟩ := hM.three
    obtain ⟨s0, s1, s2, f0, f1, f2⟩ := own3 (blk1 hE).1
    go_wp2_with fail
    refine bodyPost_ret (v := .tuple #[.agg #[.int .i64 a1, .int .i64 a2, .slice a3 a4 a5], .bool true]) (by simp [results, Tryz.results25, go_sem, s0, s1, s2]) rfl ⟨_, rfl, ?_, ?_⟩
    · exact Made.since (hM.after ((((Above.refl _ _).setCell (by simp) _).setCell (by simp) _).setCell (by simp) _)) (by simp)
    · exact ((((hE.pre).setCell (by simp) _).setCell (by simp) _).setCell (by simp) _)
  · rw [numAns_bad hg]
    have d : inR n 0 20 = false := by unfold inR; simp; omega
    go_enter Tryz.func25, Tryz.ntmps25
    go_wp2_with (go_at_call 57; refine (within_any _ _ _ _).mono ?_; rw [d]; rintro e w3 ⟨rfl, rfl⟩)
    exact bodyPost_ret (v := .tuple #[.agg #[.int .i64 0, .int .i64 0, .slice none 0 0], .bool false]) (by simp [results, Tryz.results25, go_sem]) rfl ⟨_, rfl, Made.leaf _ _ _ _ _, (Ext.refl w).alloc _⟩
end Go.Proofs.YtolkohncmidpeaaGreatDoor
namespace Go.Proofs.YtolkohncmidpeaaGreatDoor
set_option linter.unusedVariables false
open M (Cv Par Red)
theorem fnV_enc : ∀ k : Fin 8, fnV (k.val : Int) = (fnT (k.val : Int)).map enc := by decide +kernel
theorem fnV_of {k : Int} {t : M.Tm} (h1 : 0 ≤ k) (h2 : k < 8) (h : fnT k = some t) : (fnV k).getD dflt0 = enc t := by
  obtain ⟨n, rfl⟩ := Int.eq_ofNat_of_zero_le h1
  have := fnV_enc ⟨n, by omega⟩
  simp only at this
  rw [this, h]
  rfl
theorem numL_one {a : Int} : numL [a] = [enc (numM a.toNat)] := by simp [numL, enc_num]
theorem numL_two {a b : Int} : numL [a, b] = [enc (numM a.toNat), enc (numM b.toNat)] := by simp [numL, enc_num]
/-- The applied term is convertible with the numeral of the value. -/
theorem app_cv {k : Int} {ns : List Int} (h : fits k ns = true) : ∃ (m : M.Tm) (v : Nat), appT ((fnV k).getD dflt0) (numL ns) = enc m ∧ Cv m (numM v) ∧ funVal k ns = ((v : Int), true) := by
  have hf := h
  rcases fits_true h with ⟨a, b, rfl, ha0, ha1, hb0, hb1, hk⟩ | ⟨a, rfl, ha0, ha1, hk⟩
  · rw [numL_two]
    obtain ⟨x, rfl⟩ := Int.eq_ofNat_of_zero_le ha0
    obtain ⟨y, rfl⟩ := Int.eq_ofNat_of_zero_le hb0
    rcases hk with rfl | rfl | rfl
    · rw [fnV_of (t := plusT) (by decide) (by decide) rfl]
      refine ⟨_, x + y, rfl, plus_cv _ _, ?_⟩
      unfold funVal
      rw [if_pos hf]
      simp
    · rw [fnV_of (t := timesT) (by decide) (by decide) rfl]
      refine ⟨_, x * y, rfl, times_cv _ _, ?_⟩
      unfold funVal
      rw [if_pos hf]
      simp
    · rw [fnV_of (t := minusT) (by decide) (by decide) rfl]
      refine ⟨_, x - y, rfl, minus_cv _ _, ?_⟩
      unfold funVal
      rw [if_pos hf]
      by_cases hxy : x < y
      · simp [hxy]; omega
      · simp [hxy]; omega
  · rw [numL_one]
    obtain ⟨x, rfl⟩ := Int.eq_ofNat_of_zero_le ha0
    rcases hk with rfl | rfl | rfl
    · rw [fnV_of (t := predT) (by decide) (by decide) rfl]
      refine ⟨_, x - 1, rfl, pred_cv _, ?_⟩
      unfold funVal
      rw [if_pos hf]
      by_cases hx : x = 0
      · simp [hx]
      · simp [hx]; omega
    · rw [fnV_of (t := isZeroT) (by decide) (by decide) rfl]
      refine ⟨_, if x = 0 then 1 else 0, rfl, isZero_cv _, ?_⟩
      unfold funVal
      rw [if_pos hf]
      by_cases hx : x = 0
      · simp [hx]
      · simp [hx]
    · rw [fnV_of (t := doubleT) (by decide) (by decide) rfl]
      refine ⟨_, 2 * x, rfl, double_cv _, ?_⟩
      unfold funVal
      rw [if_pos hf]
      simp
theorem numR_true (t : M.Tm) : ∀ (d v : Int), numR 8 7 (enc t) d = (v, true) → ∃ j : Nat, v = d + j ∧ enc t = numTr j := by
  induction t with
  | zero =>
    intro d v h
    simp only [enc, numR] at h
    split at h
    · exact ⟨0, by simp at h; omega, rfl⟩
    · simp at h
  | succ a ih =>
    intro d v h
    simp only [enc, numR, if_true] at h
    obtain ⟨j, h1, h2⟩ := ih _ _ h
    exact ⟨j + 1, by omega, by simp only [enc, numTr, h2]⟩
  | _ => intro d v h; simp [enc, numR] at h
theorem numV_true {x : Tr} {n : Int} (h : numV sigT 8 7 x = (n, true)) : ∃ j : Nat, n = (j : Int) ∧ x = numTr j := by
  unfold numV at h
  split at h
  · rename_i hv
    obtain ⟨m, rfl⟩ := enc_of x _ (valid_parts hv).1
    obtain ⟨j, h1, h2⟩ := numR_true m 0 n h
    exact ⟨j, by omega, h2⟩
  · cases h
theorem cmpV_ok {k f n : Int} {ns : List Int} (h : cmpV k ns f = (n, 0)) : fits k ns = true ∧ 0 ≤ f ∧ f ≤ 200 ∧ (aplV ((fnV k).getD dflt0) (numL ns)) = (appT ((fnV k).getD dflt0) (numL ns), true) ∧ ∃ j : Nat, n = (j : Int) ∧ nrmC f.toNat (appT ((fnV k).getD dflt0) (numL ns)) = (numTr j, 0) ∧ numV sigT 8 7 (numTr j) = (n, true) := by
  unfold cmpV at h
  split at h
  · rename_i hh
    rw [Bool.and_eq_true] at hh
    obtain ⟨h1, h2⟩ := hh
    rw [inR_iff] at h2
    unfold cmpA at h
    split at h
    · rename_i h3
      have e : aplV ((fnV k).getD dflt0) (numL ns) = (appT ((fnV k).getD dflt0) (numL ns), true) := by
        unfold aplV at h3 ⊢
        split at h3
        · rename_i h4
          rw [if_pos h4]
          split at h3
          · rename_i h5
            rw [if_pos h5]
          · cases h3
        · cases h3
      refine ⟨h1, h2.1, h2.2, e, ?_⟩
      rw [e] at h
      unfold cmpN at h
      split at h
      · rename_i h6
        split at h
        · rename_i h7
          have hn : (numV sigT 8 7 (nrmC f.toNat (appT ((fnV k).getD dflt0) (numL ns))).1).1 = n := by simpa using h
          have hnv : numV sigT 8 7 (nrmC f.toNat (appT ((fnV k).getD dflt0) (numL ns))).1 = (n, true) := Prod.ext hn h7
          obtain ⟨j, hj, he⟩ := numV_true hnv
          exact ⟨j, hj, Prod.ext he h6, by rw [← he]; exact hnv⟩
        · simp at h
      · rename_i h6
        have : (nrmC f.toNat (appT ((fnV k).getD dflt0) (numL ns))).2 = 0 := by simpa using (Prod.mk.inj h).2
        exact absurd this h6
    · simp at h
  · simp at h
theorem aplV_validT {f : Tr} {ts : List Tr} {x : Tr} (h : aplV f ts = (x, true)) : valid sigT x = true := by
  have := aplV_valid (f := f) (ts := ts) (by rw [h])
  rw [h] at this
  exact this
/-- The value is the function's. -/
theorem cmpV_val {k f n : Int} {ns : List Int} (h : cmpV k ns f = (n, 0)) : funVal k ns = (n, true) := by
  obtain ⟨h1, h2, h3, h4, j, rfl, h5, h6⟩ := cmpV_ok h
  obtain ⟨m, v, e, hc, hv⟩ := app_cv h1
  rw [e] at h5 h4
  obtain ⟨m', em, hr⟩ := red_enc (nrmC_reds _ _ _ (aplV_validT h4) h5).1 rfl
  have : m' = numM j := enc_inj (by rw [← em, enc_num])
  subst this
  have := num_inj (hr.cv.symm.trans hc)
  rw [hv, this]
theorem nrmC_more : ∀ (f g : Nat) (t x : Tr), f ≤ g → nrmC f t = (x, 0) → nrmC g t = (x, 0)
  | 0, g, t, x, hg, h => by
    unfold nrmC at h
    cases e : outT t with
    | none => rw [e] at h; rw [nrmC_none e]; exact h
    | some p => rw [e] at h; simp at h
  | f + 1, 0, t, x, hg, h => absurd hg (by omega)
  | f + 1, g + 1, t, x, hg, h => by
    unfold nrmC at h ⊢
    cases e : outT t with
    | none => rw [e] at h; exact h
    | some p =>
      rw [e] at h
      simp only at h ⊢
      split at h
      · rename_i hc
        rw [if_pos hc]
        exact nrmC_more f g _ _ (by omega) h
      · simp at h
/-- More fuel changes nothing. -/
theorem cmpV_more {k f n : Int} {ns : List Int} (h : cmpV k ns f = (n, 0)) : cmpV k ns 200 = (n, 0) := by
  obtain ⟨h1, h2, h3, h4, j, rfl, h5, h6⟩ := cmpV_ok h
  unfold cmpV
  rw [h1, if_pos (by decide), h4]
  unfold cmpA
  rw [if_pos rfl, show (200 : Int).toNat = 200 from rfl]
  simp only
  rw [nrmC_more _ 200 _ _ (by omega) h5]
  unfold cmpN
  rw [if_pos rfl, h6, if_pos rfl]
/-- No value without an answer. -/
theorem cmpV_zero (k f : Int) (ns : List Int) : (cmpV k ns f).2 = 0 ∨ (cmpV k ns f).1 = 0 := by
  unfold cmpV cmpA cmpN
  repeat' split
  all_goals simp
theorem outT_num : ∀ j, outT (numTr j) = none := by
  intro j
  have h : nrm (numTr j) = true := by
    induction j with
    | zero => rfl
    | succ j ih => simpa [numTr, nrm, nrms, rdx] using ih
  have := outT_nrm (numTr j)
  rw [h] at this
  simpa using this
theorem numTr_inj : ∀ {a b : Nat}, numTr a = numTr b → a = b
  | 0, 0, _ => rfl
  | a + 1, b + 1, h => by
    simp only [numTr, Tr.mk.injEq, List.cons.injEq, and_true, true_and] at h
    rw [numTr_inj h]
  | 0, b + 1, h => by simp [numTr] at h
  | a + 1, 0, h => by simp [numTr] at h
/-- The applied term is convertible with the numeral of its value and with no other. -/
theorem conv_num {t : Tr} {f : Int} {j i : Nat} (hf0 : 0 ≤ f) (hf : f ≤ 200) (hv : valid sigT t = true) (hi : valid sigT (numTr i) = true) (h : nrmC f.toNat t = (numTr j, 0)) : convV t (numTr i) f = if i = j then 1 else 2 := by
  unfold convV
  rw [if_pos (by rw [hv, hi, inR_iff.2 ⟨hf0, hf⟩]; rfl), h, nrmC_none (outT_num i)]
  simp only [and_self, if_true]
  by_cases e : i = j
  · subst e
    simp
  · rw [if_neg e, if_neg (fun h => e (numTr_inj h).symm), if_neg]
    intro ht
    subst ht
    rw [nrmC_none (outT_num i)] at h
    exact e (numTr_inj (Prod.mk.inj h).1)
theorem numR_le : ∀ (j : Nat) (d v : Int), numR 8 7 (numTr j) d = (v, true) → v ≤ 20
  | 0, d, v, h => by
    simp only [numTr, numR] at h
    split at h
    · simp at h; omega
    · simp at h
  | j + 1, d, v, h => by
    simp only [numTr, numR, if_true] at h
    exact numR_le j _ _ h
theorem num_val : ∀ i : Fin 21, valid sigT (numTr i) = true := by decide +kernel
theorem fnV_some {k : Int} {ns : List Int} (h : fits k ns = true) : ∃ T, fnV k = some T := by
  have e : ∀ i : Fin 8, i.val ≠ 0 → (fnV (i.val : Int)).isSome = true := by decide +kernel
  have hk : 1 ≤ k ∧ k ≤ 6 := by
    rcases fits_true h with ⟨a, b, -, -, -, -, -, h⟩ | ⟨a, -, -, -, h⟩ <;> omega
  obtain ⟨n, rfl⟩ := Int.eq_ofNat_of_zero_le (show 0 ≤ k by omega)
  exact Option.isSome_iff_exists.1 (e ⟨n, by omega⟩ (by simp; omega))
/-- What the law FnFunConvert needs. -/
theorem fcFacts {k f n : Int} {ns : List Int} (h : cmpV k ns f = (n, 0)) : ∃ (T q : Tr) (j : Nat), fnV k = some T ∧ aplV T (numL ns) = (q, true) ∧ n = (j : Int) ∧ j ≤ 20 ∧ ns.length ≤ 2 ∧ (∀ x ∈ ns, 0 ≤ x ∧ x ≤ 20) ∧ convV q (numTr j) f = 1 ∧ (j + 1 ≤ 20 → convV q (numTr (j + 1)) f = 2) := by
  obtain ⟨h1, h2, h3, h4, j, rfl, h5, h6⟩ := cmpV_ok h
  obtain ⟨T, hT⟩ := fnV_some h1
  rw [hT] at h4 h5
  simp only [Option.getD_some] at h4 h5
  have hj : j ≤ 20 := by
    unfold numV at h6
    split at h6
    · have := numR_le _ _ _ h6
      omega
    · simp at h6
  have hv := aplV_validT h4
  refine ⟨T, _, j, hT, h4, rfl, hj, (fits_each h1).1, (fits_each h1).2, ?_, fun hj1 => ?_⟩
  · rw [conv_num (i := j) h2 h3 hv (num_val ⟨j, by omega⟩) h5, if_pos rfl]
  · rw [conv_num (i := j + 1) h2 h3 hv (num_val ⟨j + 1, by omega⟩) h5, if_neg (by omega)]
end Go.Proofs.YtolkohncmidpeaaGreatDoor
namespace Go.Proofs.YtolkohncmidpeaaGreatDoor
open Go.RowKit
set_option linter.unusedVariables false
set_option maxRecDepth 100000 in
set_option maxHeartbeats 4000000 in
theorem drawComputeFun_any (w : World) (A : Option Addr) (cap : Nat) (bs : List Int) (hl : bs.length ≤ cap) (hc : cap ≤ maxLen) (hB : Bytes w w.heap.size A bs) : Calls Tryz.prog 22 #[.slice A bs.length cap] w fun e w' =>
    ∃ (f x : Int) (B : Option Addr) (c : Nat) (ns : List Int), e = .returned (.tuple #[.int .i64 f, .slice B ns.length c, .int .i64 x]) ∧ ns.length ≤ c ∧ c ≤ maxLen ∧ Nums w' B ns ∧ Ext w w' := by
  go_enter Tryz.func22, Tryz.ntmps22
  go_wp2_with fail
  refine (l19Open_any w A cap bs hl hc hB).mono ?_
  rintro e w1 ⟨rfl, hR, h1⟩
  go_wp2_with fail
  refine (l10Fun_any _ _ _ hR (by omega)).mono ?_
  rintro e w2 ⟨f, rfl, hR2, ho2⟩
  have h3 : Ext w2 (w2.alloc (.cells #[] 3)) := (Ext.refl w2).alloc _
  have hO : GrowN w1 (w2.alloc (.cells #[] 3)) 3 (.slice (some ⟨w2.heap.size, 0, none⟩) 0 0) [] := World.ownsRow_lit (size := 1) w2 #[] 0 (by have := ho2.size; omega) (Nat.zero_le _) rfl
  have hR3 := hR2.ext h3
  have ho3 := ho2.trans (Only.of_ext (L := [w.heap.size]) h3)
  have hlt0 := hR.lt
  go_wp2_with fail
  generalize w2.alloc _ = w3 at hO hR3 ho3 h3 ⊢
  clear hR2 h3
  have har : arity f ≤ 2 ∧ -1 ≤ arity f := by unfold arity; split; · omega
                                              · split <;> omega
  obtain ⟨i0, hi, hz0, hz1, hz2⟩ := info_parts infoInt
  have HAR := Lib.hid (fun W => specArity f W)
  generalize arity f = a at har HAR
  go_loopw [7, 8] (fun o i wr => ∃ ns : List Int, GrowN w1 wr 3 o ns ∧ i = .int .i64 ns.length ∧ ns.length ≤ 2 ∧ Rd wr w.heap.size (1 + ns.length) ∧ Only [w.heap.size] w1 wr) (fun _ i _ => 3 - (intOf i).toNat)
  case atStart => exact ⟨[], hO, rfl, by simp, hR3, ho3⟩
  case round =>
    obtain ⟨ns, hO, rfl, h3, hR, ho⟩ := hrel
    obtain ⟨B, c, rfl, hl1, hc1', hN⟩ := hO.nums
    have hs1 := ho.size
    go_wp2_with fail
    refine (HAR.out _).mono ?_
    rintro e w4 ⟨rfl, rfl⟩
    by_cases hlt : (ns.length : Int) < a
    · have d2 : decide ((ns.length : Int) < a) = true := decide_eq_true hlt
      go_wp2_with fail
      have hx := (Ext.refl wr).alloc (.cells #[.int .i64 2, .int .i64 1, .int .i64 3, .int .i64 0, .int .i64 4, .int .i64 5, .int .i64 2] 3)
      refine (num_any _ w.heap.size (1 + ns.length) (hR.ext hx) (by omega) _ 7 [2, 1, 3, 0, 4, 5, 2] (by simp) (by decide) (by simp) (nums_of_row (heap_alloc_new wr _) rfl) (by intro b o hb; simp at hb; omega)).mono ?_
      rintro e w5 ⟨y, rfl, hy, hR5, ho5⟩
      have ho6 := (Only.of_ext (L := [w.heap.size]) hx).trans ho5
      have hO5 := hO.only ho6 (by intro b hb; simp at hb; omega)
      have hs6 := ho6.size
      have hy : ∀ u ∈ [Value.int .i64 y], u.oneCell' = true := by intro u hu; simp at hu; subst hu; rfl
      have hcell : ∀ j u, [Value.int .i64 y][j]? = some u → (w5.alloc (.cells #[.int .i64 y] 3)).cell? ((⟨w5.heap.size, 0, none⟩ : Addr).add j) = some u := by
        intro j u hu
        rw [Addr.add_lit, Nat.zero_add, cell_of_blk (heap_alloc_new w5 _)]
        simpa using hu
      have hGa : (w5.alloc (.cells #[.int .i64 y] 3)).ownsRow w1.heap.size 3 1 (.slice B ns.length c) ns.length (ns.map (Value.int .i64)) := World.ownsRow.alloc hO5 _
      go_wp2_with (at_builtin; refine wpList_append_own _ rfl (.tmp 20) (.tmp 24) 32 rfl w1.heap.size 3 i0 (.int .i64 0) 1 8 Tryz.underlying32 hi hz0 hz1 hz2 rfl (by decide) (.slice B ns.length c) ns.length (ns.map (Value.int .i64)) rfl hGa ⟨w5.heap.size, 0, none⟩ 1 1 [.int .i64 y] rfl rfl hcell hy (by unfold maxLen; omega) (by omega) (by simp; omega) ?_)
      intro v' w6 hO6 hg6 _
      have hlt6 := fun k hk => (hGa.lt k hk).1
      have hg1 := hR.lt
      have hR6 : Rd w6 w.heap.size (1 + (ns.length + 1)) := (hR5.ext ((Ext.refl _).alloc _)).grown hg6 (fun k hk => by have := hlt6 k hk; omega)
      have ho7 := ((ho.trans ho6).alloc (.cells #[.int .i64 y] 3)).grown hg6 hlt6
      have hO7 : GrowN w1 w6 3 v' (ns ++ [y]) := by unfold GrowN; simpa using hO6
      clear hGa hcell hy hO6
      go_wp2_with fail
      go_roundw
      case rel => exact ⟨ns ++ [y], hO7, by simp, by simp; omega, by simpa using hR6, ho7⟩
      case measure => simp [intOf]; omega
    · have d2 : decide ((ns.length : Int) < a) = false := decide_eq_false hlt
      have hx := (Ext.refl wr).alloc (.cells #[.int .i64 200, .int .i64 150, .int .i64 20, .int .i64 5, .int .i64 0, .int .i64 201] 3)
      go_wp2_with fail
      refine (num_any _ w.heap.size (1 + ns.length) (hR.ext hx) (by omega) _ 6 [200, 150, 20, 5, 0, 201] (by simp) (by decide) (by simp) (nums_of_row (heap_alloc_new wr _) rfl) (by intro b o hb; simp at hb; omega)).mono ?_
      rintro e w5 ⟨y, rfl, hy, hR5, ho5⟩
      have ho6 := (Only.of_ext (L := [w.heap.size]) hx).trans ho5
      have hO5 := hO.only ho6 (by intro b hb; simp at hb; omega)
      obtain ⟨B5, c5, e5, hl5, hc5, hN5⟩ := hO5.nums
      simp only [Value.slice.injEq, true_and] at e5
      obtain ⟨rfl, rfl⟩ := e5
      go_wp2_with fail
      go_ret3
      exact ⟨f, y, B, c, ns, rfl, hl5, hc5, hN5, (ho.trans ho6).ext h1 (by intro b hb; simp at hb; omega)⟩
end Go.Proofs.YtolkohncmidpeaaGreatDoor
namespace Go.Proofs.YtolkohncmidpeaaGreatDoor
open Go.RowKit
set_option linter.unusedVariables false
def SameTermC (t : Tr) : Prop := ∀ (w : World) (t' : Tr) (v v' : Value), Lies w t v → Lies w t' v' →
  Calls Tryz.prog 30 #[v, v'] w fun e w' => e = .returned (.bool (eqTr t t')) ∧ Ext w w'
set_option maxHeartbeats 400000 in
theorem equalTerm (ks ks' : List Tr) (hk : ∀ t ∈ ks, SameTermC t) (w : World) (A A' : Option Addr) (cap cap' : Nat) (h : LiesK w A ks) (hl : ks.length ≤ cap) (hc : cap ≤ maxLen) (h' : LiesK w A' ks') (hl' : ks'.length ≤ cap') (hc' : cap' ≤ maxLen) :
    Calls Tryz.prog 72 #[.slice A ks.length cap, .slice A' ks'.length cap', .func (.func 30) #[] #[]] w fun e w' => e = .returned (.bool (eqTs ks ks')) ∧ Ext w w' := by
  unfold maxLen at hc hc'
  by_cases h0 : ks.length = ks'.length
  · have hd : ((ks.length : Int) != (ks'.length : Int)) = false := by rw [h0]; simp
    have H0 := Lib.hid h0
    clear h0
    go_enter Tryz.func72, Tryz.ntmps72
    go_wp2_with fail
    go_loopw [17] (fun i wr => ∃ j : Nat, j ≤ ks.length ∧ i = .int .i64 j ∧ eqTs ks ks' = eqTs (ks.drop j) (ks'.drop j) ∧ Ext w wr) (fun i _ => ks.length - (intOf i).toNat)
    case atStart => exact ⟨0, Nat.zero_le _, rfl, rfl, Ext.refl _⟩
    case round =>
      obtain ⟨j, hj, rfl, hsz, hb⟩ := hrel
      have HS := Lib.hid hsz
      clear hsz
      by_cases hlt : j < ks.length
      · have hlt' : j < ks'.length := by rw [← H0.out]; exact hlt
        obtain ⟨b, o, k, n, B, c, kids, rfl, HK, c0, c1, c2, hkl, hkc, hK, hin, hmem⟩ := h.get hb hlt
        obtain ⟨b', o', k', n', B', c', kids', rfl, HK', c0', c1', c2', hkl', hkc', hK', hin', hmem'⟩ := h'.get hb hlt'
        have hlb := World.block_lt_of_cell? _ _ c0'
        have hstep : eqTs (ks.drop j) (ks'.drop j) = (eqTr (.mk k n kids) (.mk k' n' kids') && eqTs (ks.drop (j + 1)) (ks'.drop (j + 1))) := by
          rw [List.drop_eq_getElem_cons hlt, List.drop_eq_getElem_cons hlt', HK.out, HK'.out]
          conv => lhs; unfold eqTs
        have HST := Lib.hid hstep
        clear hstep
        go_wp2_with fail
        refine (hk _ hmem _ (.mk k' n' kids') _ _ (hin.ext (((Ext.refl wr).alloc _).alloc _)) (hin'.ext (((Ext.refl wr).alloc _).alloc _))).mono ?_
        rintro e w1 ⟨rfl, hb1⟩
        have hb2 := hb.trans hb1.pre.pre
        generalize eqTr (.mk k n kids) (.mk k' n' kids') = q at HST
        cases q with
        | false =>
          go_wp2_with fail
          go_ret
          exact ⟨by rw [HS.out, HST.out]; rfl, hb2⟩
        | true =>
          go_wp2_with fail
          go_roundw
          case rel => exact ⟨j + 1, by omega, by go_num, by rw [HS.out, HST.out]; rfl, hb2⟩
          case measure => simp [intOf]; omega
      · go_wp2_with fail
        go_ret
        exact ⟨by rw [HS.out, List.drop_of_length_le (by omega), List.drop_of_length_le (by rw [← H0.out]; omega)]; rfl, hb⟩
  · have hd : ((ks.length : Int) != (ks'.length : Int)) = true := by rw [bne_iff_ne]; omega
    have e : eqTs ks ks' = false := by
      rw [Bool.eq_false_iff]
      intro he
      exact h0 (eqTs_len he)
    have E := Lib.hid e
    clear e
    go_enter Tryz.func72, Tryz.ntmps72
    go_wp2_with fail
    go_ret
    exact ⟨by rw [E.out]; rfl, Ext.refl _⟩
theorem sameTerm_any : ∀ t : Tr, SameTermC t := Tr.ind fun k n ks hk => by
  intro w t' v v' h h'
  obtain ⟨A, cap, rfl, hl, hc, hK⟩ := Lies.mk_iff.1 h
  obtain ⟨k', n', ks'⟩ := t'
  obtain ⟨A', cap', rfl, hl', hc', hK'⟩ := Lies.mk_iff.1 h'
  clear h h'
  have HW := fun W (hW : Ext w W) => equalTerm ks ks' hk W A A' cap cap' (hK.ext hW) hl hc (hK'.ext hW) hl' hc'
  have HS := Lib.hid HW
  clear HW
  by_cases h1 : k = k'
  · by_cases h2 : n = n'
    · have e : eqTr (.mk k n ks) (.mk k' n' ks') = eqTs ks ks' := by simp [eqTr, h1, h2]
      have E := Lib.hid e
      have d1 : (k == k') = true := by simp [h1]
      have d2 : (n == n') = true := by simp [h2]
      clear e h1 h2
      go_enter Tryz.func30, Tryz.ntmps30
      go_wp2_with fail
      refine (HS.out _ (((Ext.refl w).alloc _).alloc _)).mono ?_
      rintro e w1 ⟨rfl, hE⟩
      go_wp2_with fail
      go_ret
      exact ⟨by rw [E.out]; rfl, hE.pre.pre⟩
    · have e : eqTr (.mk k n ks) (.mk k' n' ks') = false := by simp [eqTr, h2]
      have E := Lib.hid e
      have d1 : (k == k') = true := by simp [h1]
      have d2 : (n == n') = false := by simpa using h2
      clear e h1 h2
      go_enter Tryz.func30, Tryz.ntmps30
      go_wp2_with fail
      go_ret
      exact ⟨by rw [E.out]; rfl, ((Ext.refl w).alloc _).alloc _⟩
  · have e : eqTr (.mk k n ks) (.mk k' n' ks') = false := by simp [eqTr, h1]
    have E := Lib.hid e
    have d1 : (k == k') = false := by simpa using h1
    clear e h1
    go_enter Tryz.func30, Tryz.ntmps30
    go_wp2_with fail
    go_ret
    exact ⟨by rw [E.out]; rfl, ((Ext.refl w).alloc _).alloc _⟩
end Go.Proofs.YtolkohncmidpeaaGreatDoor

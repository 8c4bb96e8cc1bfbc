/-
  ExtractTerm: the program's.
-/
import Derived.Test.YtappakllopkfiaaExtractAll
import Derived.Test.YtappakllopkfiaaSpecValid
namespace Go.Proofs.Ytappakllopkfiaa
open Go.RowKit
set_option linter.unusedVariables false

/-- What ExtractTerm answers. -/
def exV (t : Tr) : Tr × Bool := if valid sigT t then (exT t, true) else (.mk 0 0 [], false)
theorem cnt_exT : ∀ t : Tr, ∀ d : Int, shape sigT t d = true → cnt (exT t) ≤ cnt t := Tr.ind fun k n ks hk => by
  intro d hsh
  obtain ⟨h1, h2, h3, h4⟩ := shape_kids hsh
  simp only [sigT] at h1
  have hk' := fun t ht => hk t ht _ (h4 t ht)
  have hr : 1 ≤ k ∧ k ≤ 16 := by
    by_cases h : 1 ≤ k ∧ k ≤ 16
    · exact h
    · exfalso
      unfold opsT at h1
      rw [if_neg (by omega), if_neg (by omega), if_neg (by omega), if_neg (by omega), if_neg (by omega), if_neg (by omega), if_neg (by omega), if_neg (by omega), if_neg (by omega), if_neg (by omega), if_neg (by omega), if_neg (by omega), if_neg (by omega), if_neg (by omega), if_neg (by omega), if_neg (by omega)] at h1
      omega
  clear hsh hk h4
  rcases (show k = 1 ∨ k = 2 ∨ k = 3 ∨ k = 4 ∨ k = 5 ∨ k = 6 ∨ k = 7 ∨ k = 8 ∨ k = 9 ∨ k = 10 ∨ k = 11 ∨ k = 12 ∨ k = 13 ∨ k = 14 ∨ k = 15 ∨ k = 16 from by omega) with rfl | rfl | rfl | rfl | rfl | rfl | rfl | rfl | rfl | rfl | rfl | rfl | rfl | rfl | rfl | rfl
  · obtain rfl : ks = [] := by
      have hl : (0 : Int) = (ks.length : Int) := h1
      exact List.eq_nil_of_length_eq_zero (by omega)
    rw [show exT (.mk 1 n []) = .mk 1 n [] from rfl]
    simp only [cnt, cnts]
    omega
  · obtain rfl : ks = [] := by
      have hl : (0 : Int) = (ks.length : Int) := h1
      exact List.eq_nil_of_length_eq_zero (by omega)
    rw [show exT (.mk 2 n []) = .mk 10 0 [] from rfl]
    simp only [cnt, cnts]
    omega
  · obtain ⟨a, b, rfl⟩ : ∃ a b, ks = [a, b] := by
      have hl : (2 : Int) = (ks.length : Int) := h1
      match ks, hl with
      | [a, b], _ => exact ⟨a, b, rfl⟩
    have ha := hk' a (by simp)
    have hb := hk' b (by simp)
    rw [show exT (.mk 3 n [a, b]) = .mk 10 0 [] from rfl]
    simp only [cnt, cnts]
    omega
  · obtain ⟨a, b, rfl⟩ : ∃ a b, ks = [a, b] := by
      have hl : (2 : Int) = (ks.length : Int) := h1
      match ks, hl with
      | [a, b], _ => exact ⟨a, b, rfl⟩
    have ha := hk' a (by simp)
    have hb := hk' b (by simp)
    rw [show exT (.mk 4 n [a, b]) = .mk 2 0 [exT b] from rfl]
    simp only [cnt, cnts]
    omega
  · obtain ⟨a, b, rfl⟩ : ∃ a b, ks = [a, b] := by
      have hl : (2 : Int) = (ks.length : Int) := h1
      match ks, hl with
      | [a, b], _ => exact ⟨a, b, rfl⟩
    have ha := hk' a (by simp)
    have hb := hk' b (by simp)
    rw [show exT (.mk 5 n [a, b]) = .mk 3 0 [exT a, exT b] from rfl]
    simp only [cnt, cnts]
    omega
  · obtain rfl : ks = [] := by
      have hl : (0 : Int) = (ks.length : Int) := h1
      exact List.eq_nil_of_length_eq_zero (by omega)
    rw [show exT (.mk 6 n []) = .mk 10 0 [] from rfl]
    simp only [cnt, cnts]
    omega
  · obtain rfl : ks = [] := by
      have hl : (0 : Int) = (ks.length : Int) := h1
      exact List.eq_nil_of_length_eq_zero (by omega)
    rw [show exT (.mk 7 n []) = .mk 4 0 [] from rfl]
    simp only [cnt, cnts]
    omega
  · obtain ⟨a, rfl⟩ : ∃ a, ks = [a] := by
      have hl : (1 : Int) = (ks.length : Int) := h1
      match ks, hl with
      | [a], _ => exact ⟨a, rfl⟩
    have ha := hk' a (by simp)
    rw [show exT (.mk 8 n [a]) = .mk 5 0 [exT a] from rfl]
    simp only [cnt, cnts]
    omega
  · obtain ⟨a, b, c, e, rfl⟩ : ∃ a b c e, ks = [a, b, c, e] := by
      have hl : (4 : Int) = (ks.length : Int) := h1
      match ks, hl with
      | [a, b, c, e], _ => exact ⟨a, b, c, e, rfl⟩
    have ha := hk' a (by simp)
    have hb := hk' b (by simp)
    have hc := hk' c (by simp)
    have he := hk' e (by simp)
    rw [show exT (.mk 9 n [a, b, c, e]) = .mk 6 0 [exT b, exT c, exT e] from rfl]
    simp only [cnt, cnts]
    omega
  · obtain ⟨a, b, c, rfl⟩ : ∃ a b c, ks = [a, b, c] := by
      have hl : (3 : Int) = (ks.length : Int) := h1
      match ks, hl with
      | [a, b, c], _ => exact ⟨a, b, c, rfl⟩
    have ha := hk' a (by simp)
    have hb := hk' b (by simp)
    have hc := hk' c (by simp)
    rw [show exT (.mk 10 n [a, b, c]) = .mk 10 0 [] from rfl]
    simp only [cnt, cnts]
    omega
  · obtain ⟨a, rfl⟩ : ∃ a, ks = [a] := by
      have hl : (1 : Int) = (ks.length : Int) := h1
      match ks, hl with
      | [a], _ => exact ⟨a, rfl⟩
    have ha := hk' a (by simp)
    rw [show exT (.mk 11 n [a]) = .mk 10 0 [] from rfl]
    simp only [cnt, cnts]
    omega
  · obtain ⟨a, b, c, rfl⟩ : ∃ a b c, ks = [a, b, c] := by
      have hl : (3 : Int) = (ks.length : Int) := h1
      match ks, hl with
      | [a, b, c], _ => exact ⟨a, b, c, rfl⟩
    have ha := hk' a (by simp)
    have hb := hk' b (by simp)
    have hc := hk' c (by simp)
    rw [show exT (.mk 12 n [a, b, c]) = exT c from rfl]
    simp only [cnt, cnts]
    omega
  · obtain ⟨a, b, rfl⟩ : ∃ a b, ks = [a, b] := by
      have hl : (2 : Int) = (ks.length : Int) := h1
      match ks, hl with
      | [a, b], _ => exact ⟨a, b, rfl⟩
    have ha := hk' a (by simp)
    have hb := hk' b (by simp)
    rw [show exT (.mk 13 n [a, b]) = .mk 10 0 [] from rfl]
    simp only [cnt, cnts]
    omega
  · obtain ⟨a, b, c, rfl⟩ : ∃ a b c, ks = [a, b, c] := by
      have hl : (3 : Int) = (ks.length : Int) := h1
      match ks, hl with
      | [a, b, c], _ => exact ⟨a, b, c, rfl⟩
    have ha := hk' a (by simp)
    have hb := hk' b (by simp)
    have hc := hk' c (by simp)
    rw [show exT (.mk 14 n [a, b, c]) = .mk 7 0 [exT b, exT c] from rfl]
    simp only [cnt, cnts]
    omega
  · obtain ⟨a, rfl⟩ : ∃ a, ks = [a] := by
      have hl : (1 : Int) = (ks.length : Int) := h1
      match ks, hl with
      | [a], _ => exact ⟨a, rfl⟩
    have ha := hk' a (by simp)
    rw [show exT (.mk 15 n [a]) = .mk 8 0 [exT a] from rfl]
    simp only [cnt, cnts]
    omega
  · obtain ⟨a, rfl⟩ : ∃ a, ks = [a] := by
      have hl : (1 : Int) = (ks.length : Int) := h1
      match ks, hl with
      | [a], _ => exact ⟨a, rfl⟩
    have ha := hk' a (by simp)
    rw [show exT (.mk 16 n [a]) = .mk 9 0 [exT a] from rfl]
    simp only [cnt, cnts]
    omega
theorem cnt_exV (t : Tr) : cnt (exV t).1 ≤ 400 := by
  unfold exV
  split
  · rename_i h
    unfold valid at h
    rw [Bool.and_eq_true] at h
    exact Nat.le_trans (cnt_exT t 30 h.1) (of_decide_eq_true h.2)
  · simp [cnt, cnts]
theorem extractTerm_any (t : Tr) (w : World) (v : Value) (hin : Lies w t v) : Calls Try.prog 28 #[v] w fun e w' => ∃ u, e = .returned (.tuple #[u, .bool (exV t).2]) ∧ Made w w' 28 (exV t).1 u ∧ Ext w w' := by
  have HV := fun W (hW : Ext w W) => validTerm_any t W v (hin.ext hW)
  have HX := fun W h (hW : Ext w W) => extract_any t 30 W v h (hin.ext hW)
  obtain ⟨z, hz⟩ : ∃ z, valid sigT t = z := ⟨_, rfl⟩
  rw [hz] at HV
  cases z with
  | false =>
    have e : exV t = (.mk 0 0 [], false) := by unfold exV; rw [hz]; rfl
    have E := Lib.hid e
    have HV := Lib.hid HV
    obtain ⟨k, n, ks⟩ := t
    obtain ⟨A, cap, rfl, hl, hc, hK⟩ := Lies.mk_iff.1 hin
    clear e hz HX
    go_enter Try.func28, Try.ntmps28
    go_wp2_with fail
    refine (HV.out _ (((Ext.refl w).alloc _).alloc _)).mono ?_
    rintro e w1 ⟨rfl, h1⟩
    obtain ⟨-, hb2, hs2⟩ := blk2 h1
    obtain ⟨s0, s1, s2, f0, f1, f2⟩ := own3 hb2
    clear hb2
    go_wp2_with fail
    rw [E.out]
    refine bodyPost_ret (v := .tuple #[.agg #[.int .i64 0, .int .i64 0, .slice none 0 0], .bool false]) (by simp [results, Try.results28, go_sem, s0, s1, s2]) rfl ⟨_, rfl, Made.leaf _ _ _ _ _, ?_⟩
    exact ((((h1.pre.pre).setCell (by simp) _).setCell (by simp) _).setCell (by simp) _)
  | true =>
    have e : exV t = (exT t, true) := by unfold exV; rw [hz]; rfl
    have hsh : shape sigT t 30 = true := by unfold valid at hz; rw [Bool.and_eq_true] at hz; exact hz.1
    have E := Lib.hid e
    have HV := Lib.hid HV
    have HX := Lib.hid (fun W => HX W hsh)
    obtain ⟨k, n, ks⟩ := t
    obtain ⟨A, cap, rfl, hl, hc, hK⟩ := Lies.mk_iff.1 hin
    clear e hz hsh
    go_enter Try.func28, Try.ntmps28
    go_wp2_with fail
    refine (HV.out _ (((Ext.refl w).alloc _).alloc _)).mono ?_
    rintro e w1 ⟨rfl, h1⟩
    obtain ⟨hb1, hb2, hs2⟩ := blk2 h1
    obtain ⟨r0, r1, r2, -, -, -⟩ := own3 hb1
    go_wp2_with fail
    refine (HX.out _ h1.pre.pre).mono ?_
    rintro e w3 ⟨u, rfl, hM, h3⟩
    obtain ⟨a1, a2, a3, a4, a5, rfl⟩ := hM.three'
    have hb3 := h3.blk hb2
    obtain ⟨s0, s1, s2, f0, f1, f2⟩ := own3 hb3
    clear hb1 hb2 r0 r1 r2
    go_wp2_with fail
    rw [E.out]
    refine bodyPost_ret (v := .tuple #[.agg #[.int .i64 a1, .int .i64 a2, .slice a3 a4 a5], .bool true]) (by simp [results, Try.results28, go_sem, s0, s1, s2]) rfl ⟨_, rfl, ?_, ?_⟩
    · exact Made.since (hM.after ((((Above.refl _ _).setCell (by simp; omega) _).setCell (by simp; omega) _).setCell (by simp; omega) _)) (by have := h1.size; simp at this; omega)
    · exact ((((h1.pre.pre.trans h3).setCell (by simp) _).setCell (by simp) _).setCell (by simp) _)
end Go.Proofs.Ytappakllopkfiaa

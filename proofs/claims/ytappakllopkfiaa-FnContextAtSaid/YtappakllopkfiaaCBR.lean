/-
  Lemmas towards the law, 44: Same, DkT.
-/
import Derived.Test.YtappakllopkfiaaCAC
import Derived.Test.YtappakllopkfiaaCBP
import Derived.Test.YtappakllopkfiaaCBQ
import Derived.BigQuiet
import Derived.Deep.RegionHeld3
import Derived.Outline
import Derived.StillTailTactics
import Derived.Test.YtappakllopkfiaaProg
namespace Go.Proofs.Ytappakllopkfiaa
open Go.RowKit
set_option linter.unusedVariables false
def SameTermC (t : Tr) : Prop := ∀ (w : World) (t' : Tr) (v v' : Value), Lies w t v → Lies w t' v' →
  Calls Try.prog 34 #[v, v'] w fun e w' => e = .returned (.bool (eqTr t t')) ∧ Ext w w'
set_option maxHeartbeats 400000 in
theorem equalTerm (ks ks' : List Tr) (hk : ∀ t ∈ ks, SameTermC t) (w : World) (A A' : Option Addr) (cap cap' : Nat) (h : LiesK w A ks) (hl : ks.length ≤ cap) (hc : cap ≤ maxLen) (h' : LiesK w A' ks') (hl' : ks'.length ≤ cap') (hc' : cap' ≤ maxLen) :
    Calls Try.prog 95 #[.slice A ks.length cap, .slice A' ks'.length cap', .func (.func 34) #[] #[]] w fun e w' => e = .returned (.bool (eqTs ks ks')) ∧ Ext w w' := by
  unfold maxLen at hc hc'
  by_cases h0 : ks.length = ks'.length
  · have hd : ((ks.length : Int) != (ks'.length : Int)) = false := by rw [h0]; simp
    have H0 := Lib.hid h0
    clear h0
    go_enter Try.func95, Try.ntmps95
    go_wp2_with fail
    go_loopw [17] (fun i wr => ∃ j : Nat, j ≤ ks.length ∧ i = .int .i64 j ∧ eqTs ks ks' = eqTs (ks.drop j) (ks'.drop j) ∧ Ext w wr) (fun i _ => ks.length - (intOf i).toNat)
    case atStart => exact ⟨0, Nat.zero_le _, rfl, rfl, Ext.refl _⟩
    case round =>
      obtain ⟨j, hj, rfl, hsz, hb⟩ := hrel
      have HS := Lib.hid hsz
      clear hsz
      by_cases hlt : j < ks.length
      · have hlt' : j < ks'.length := by rw [← H0.out]; exact hlt
        obtain ⟨b, o, k, n, B, c, kids, rfl, HK, c0, c1, c2, hkl, hkc, hK, hin, hmem⟩ := h.get hb hlt
        obtain ⟨b', o', k', n', B', c', kids', rfl, HK', c0', c1', c2', hkl', hkc', hK', hin', hmem'⟩ := h'.get hb hlt'
        have hlb := World.block_lt_of_cell? _ _ c0'
        have hstep : eqTs (ks.drop j) (ks'.drop j) = (eqTr (.mk k n kids) (.mk k' n' kids') && eqTs (ks.drop (j + 1)) (ks'.drop (j + 1))) := by
          rw [List.drop_eq_getElem_cons hlt, List.drop_eq_getElem_cons hlt', HK.out, HK'.out]
          conv => lhs; unfold eqTs
        have HST := Lib.hid hstep
        clear hstep
        go_wp2_with fail
        refine (hk _ hmem _ (.mk k' n' kids') _ _ (hin.ext (((Ext.refl wr).alloc _).alloc _)) (hin'.ext (((Ext.refl wr).alloc _).alloc _))).mono ?_
        rintro e w1 ⟨rfl, hb1⟩
        have hb2 := hb.trans hb1.pre.pre
        generalize eqTr (.mk k n kids) (.mk k' n' kids') = q at HST
        cases q with
        | false =>
          go_wp2_with fail
          go_ret
          exact ⟨by rw [HS.out, HST.out]; rfl, hb2⟩
        | true =>
          go_wp2_with fail
          go_roundw
          case rel => exact ⟨j + 1, by omega, by go_num, by rw [HS.out, HST.out]; rfl, hb2⟩
          case measure => simp [intOf]; omega
      · go_wp2_with fail
        go_ret
        exact ⟨by rw [HS.out, List.drop_of_length_le (by omega), List.drop_of_length_le (by rw [← H0.out]; omega)]; rfl, hb⟩
  · have hd : ((ks.length : Int) != (ks'.length : Int)) = true := by rw [bne_iff_ne]; omega
    have e : eqTs ks ks' = false := by
      rw [Bool.eq_false_iff]
      intro he
      exact h0 (eqTs_len he)
    have E := Lib.hid e
    clear e
    go_enter Try.func95, Try.ntmps95
    go_wp2_with fail
    go_ret
    exact ⟨by rw [E.out]; rfl, Ext.refl _⟩
theorem sameTerm_any : ∀ t : Tr, SameTermC t := Tr.ind fun k n ks hk => by
  intro w t' v v' h h'
  obtain ⟨A, cap, rfl, hl, hc, hK⟩ := Lies.mk_iff.1 h
  obtain ⟨k', n', ks'⟩ := t'
  obtain ⟨A', cap', rfl, hl', hc', hK'⟩ := Lies.mk_iff.1 h'
  clear h h'
  have HW := fun W (hW : Ext w W) => equalTerm ks ks' hk W A A' cap cap' (hK.ext hW) hl hc (hK'.ext hW) hl' hc'
  have HS := Lib.hid HW
  clear HW
  by_cases h1 : k = k'
  · by_cases h2 : n = n'
    · have e : eqTr (.mk k n ks) (.mk k' n' ks') = eqTs ks ks' := by simp [eqTr, h1, h2]
      have E := Lib.hid e
      have d1 : (k == k') = true := by simp [h1]
      have d2 : (n == n') = true := by simp [h2]
      clear e h1 h2
      go_enter Try.func34, Try.ntmps34
      go_wp2_with fail
      refine (HS.out _ (((Ext.refl w).alloc _).alloc _)).mono ?_
      rintro e w1 ⟨rfl, hE⟩
      go_wp2_with fail
      go_ret
      exact ⟨by rw [E.out]; rfl, hE.pre.pre⟩
    · have e : eqTr (.mk k n ks) (.mk k' n' ks') = false := by simp [eqTr, h2]
      have E := Lib.hid e
      have d1 : (k == k') = true := by simp [h1]
      have d2 : (n == n') = false := by simpa using h2
      clear e h1 h2
      go_enter Try.func34, Try.ntmps34
      go_wp2_with fail
      go_ret
      exact ⟨by rw [E.out]; rfl, ((Ext.refl w).alloc _).alloc _⟩
  · have e : eqTr (.mk k n ks) (.mk k' n' ks') = false := by simp [eqTr, h1]
    have E := Lib.hid e
    have d1 : (k == k') = false := by simpa using h1
    clear e h1
    go_enter Try.func34, Try.ntmps34
    go_wp2_with fail
    go_ret
    exact ⟨by rw [E.out]; rfl, ((Ext.refl w).alloc _).alloc _⟩
end Go.Proofs.Ytappakllopkfiaa
namespace Go.Proofs.Ytappakllopkfiaa
open Go.RowKit
set_option linter.unusedVariables false
attribute [local go_sem ↓] Go.wp_at_zero Go.wp_at_succ
theorem sameT (c : Tr) (w : World) (v u : Value) (h : Lies w c v) (k : Lies w c u) : Calls Try.prog 34 #[v, u] w fun e w' => e = .returned (.bool true) ∧ Ext w w' := by
  have := sameTerm_any c w c v u h k
  rw [eqTr_self] at this
  exact this
/-- A slice that bears a list of trees. -/
structure SlT (w : World) (A : Option Addr) (n cap : Nat) (ks : List Tr) : Prop where
  hn : ks.length = n
  hl : n ≤ cap
  hc : cap ≤ maxLen
  hK : LiesK w A ks
theorem SlT.ext {w w' : World} {A : Option Addr} {n cap : Nat} {ks : List Tr} (h : SlT w A n cap ks) (he : Ext w w') : SlT w' A n cap ks := ⟨h.hn, h.hl, h.hc, h.hK.ext he⟩
theorem LiesK.take {w : World} {A : Option Addr} {ks : List Tr} (h : LiesK w A ks) (n : Nat) : LiesK w A (ks.take n) := by
  rcases h with rfl | ⟨b, o, rfl, hb, hl⟩
  · exact .inl (by simp)
  · exact .inr ⟨b, o, rfl, hb, InL.take n hl⟩
set_option maxRecDepth 100000 in
set_option maxHeartbeats 4000000 in
theorem dkTerms_any (ks : List Tr) (w : World) (A A' : Option Addr) (n cap cap' : Nat) (h : SlT w A n cap ks) (h' : SlT w A' n cap' ks) : Calls Try.prog 38 #[.slice A n cap, .slice A' n cap'] w fun e w' => e = .returned (.bool true) ∧ Ext w w' := by
  obtain ⟨hn, hl, hc, hK⟩ := h
  obtain ⟨-, hl', hc', hK'⟩ := h'
  have HN := Lib.hid hn
  have hcc := hc
  unfold maxLen at hcc
  have hcc' := hc'
  unfold maxLen at hcc'
  clear hn
  have dn : ((n : Int) != (n : Int)) = false := by simp
  go_enter Try.func38, Try.ntmps38
  go_wp2_with fail
  go_loopw [5] (fun i wr => ∃ j : Nat, j ≤ n ∧ i = .int .i64 j ∧ Ext w wr) (fun i _ => n - (intOf i).toNat)
  case atStart => exact ⟨0, Nat.zero_le _, rfl, Ext.refl _⟩
  case round =>
    obtain ⟨j, hj, rfl, hx⟩ := hrel
    by_cases hlt : j < n
    · have hjx : j < ks.length := by rw [HN.out]; exact hlt
      obtain ⟨b, o, k1, n1, A1, p1, kids1, rfl, HK1, c0, c1, c2, l1, m1, hK1, hin1, -⟩ := hK.get hx hjx
      obtain ⟨b', o', k2, n2, A2, p2, kids2, rfl, HK2, d0, d1, d2, l2, m2, hK2, hin2, -⟩ := hK'.get hx hjx
      have he := HK1.out.symm.trans HK2.out
      rw [← he] at hin2
      have hjz : (j : Int) < (n : Int) := by omega
      have HS := Lib.hid (show ∀ w', Ext wr w' → w'.cell? ⟨b, o + j * 3, none⟩ = some (.int .i64 k1) ∧ w'.cell? ⟨b, o + j * 3 + 1, none⟩ = some (.int .i64 n1) ∧ w'.cell? ⟨b, o + j * 3 + 2, none⟩ = some (.slice A1 kids1.length p1) ∧ w'.cell? ⟨b', o' + j * 3, none⟩ = some (.int .i64 k2) ∧ w'.cell? ⟨b', o' + j * 3 + 1, none⟩ = some (.int .i64 n2) ∧ w'.cell? ⟨b', o' + j * 3 + 2, none⟩ = some (.slice A2 kids2.length p2) from fun w' hw => ⟨hw.cell c0, hw.cell c1, hw.cell c2, hw.cell d0, hw.cell d1, hw.cell d2⟩)
      have hD : Ext wr wr.drew := (Ext.refl wr).drew
      clear he HK1 HK2 c0 c1 c2 d0 d1 d2 hjx
      go_wp2_with fail
      go_region_held3 (fun w' => w'.cell? ⟨b, o + j * 3, none⟩ = some (.int .i64 k1) ∧ w'.cell? ⟨b, o + j * 3 + 1, none⟩ = some (.int .i64 n1) ∧ w'.cell? ⟨b, o + j * 3 + 2, none⟩ = some (.slice A1 kids1.length p1) ∧ w'.cell? ⟨b', o' + j * 3, none⟩ = some (.int .i64 k2) ∧ w'.cell? ⟨b', o' + j * 3 + 1, none⟩ = some (.int .i64 n2) ∧ w'.cell? ⟨b', o' + j * 3 + 2, none⟩ = some (.slice A2 kids2.length p2))
        (first | exact HS.out _ (hD.trans ed) | exact HS.out _ hD)
        (first | (go_at_call 34; refine (sameT _ _ _ _ (hin1.ext hD) (hin2.ext hD)).mono ?_; rintro e wd ⟨rfl, ed⟩))
      all_goals (
        go_wp2_with fail
        go_roundw
        case rel => exact ⟨j + 1, by omega, by go_num, (hx.trans hD).trans ed⟩
        case measure => simp [intOf]; omega)
    · go_wp2_with fail
      go_ret
      exact ⟨rfl, hx⟩
/-- A slice of numbers that holds p. -/
structure PFx (w : World) (A : Option Addr) (n cap : Nat) (p : List Int) : Prop where
  hn : p.length = n
  hl : n ≤ cap
  hc : cap ≤ maxLen
  hP : Nums w A p
theorem PFx.ext {w w' : World} {A : Option Addr} {n cap : Nat} {p : List Int} (h : PFx w A n cap p) (he : Ext w w') : PFx w' A n cap p := ⟨h.hn, h.hl, h.hc, h.hP.ext he⟩
theorem ctx1 {ctx q : List Tr} {t : Tr} {p : List Int} {z : Bool} {m : Nat} (h : ctxV ctx t p = (q, z)) (hm : q.length = m) (w : World) (v : Value) (hin : Lies w t v) (B A : Option Addr) (bn bc n cap : Nat) (hb : SlT w B bn bc ctx) (hp : PFx w A n cap p) (h9 : n < 1000) : Calls Try.prog 36 #[.slice B bn bc, v, .slice A n cap] w fun e w' => ∃ D c, e = .returned (.tuple #[.slice D m c, .bool z]) ∧ SlT w' D m c q ∧ Ext w w' := by
  obtain ⟨rfl, hl, hc, hK⟩ := hb
  obtain ⟨rfl, pl, pc, hP⟩ := hp
  have := contextAt_any ctx t p w v B A bc cap hin hK hl hc hP pl pc h9
  rw [h] at this
  refine this.mono ?_
  rintro e w' ⟨D, c, rfl, h1, h2, h3, h4⟩
  simp only at h1 h3
  subst hm
  exact ⟨D, c, rfl, ⟨rfl, h1, h2, h3⟩, h4⟩
theorem ctx2 {ctx q : List Tr} {t : Tr} {p : List Int} {z : Bool} {m : Nat} (h : ctxV ctx t p = (q, z)) (hm : q.length = m) (w : World) (v : Value) (hin : Lies w t v) (B A : Option Addr) (bn bc n cap : Nat) (hb : SlT w B bn bc ctx) (hp : PFx w A n cap p) (h9 : n < 1000) : Calls Try.prog 37 #[.slice B bn bc, v, .slice A n cap] w fun e w' => ∃ D c, e = .returned (.tuple #[.slice D m c, .bool z]) ∧ SlT w' D m c q ∧ Ext w w' := by
  obtain ⟨rfl, hl, hc, hK⟩ := hb
  obtain ⟨rfl, pl, pc, hP⟩ := hp
  have := specContextAt_any ctx t p w v B A bc cap hin hK hl hc hP pl pc h9
  rw [h] at this
  refine this.mono ?_
  rintro e w' ⟨D, c, rfl, h1, h2, h3, h4⟩
  simp only at h1 h3
  subst hm
  exact ⟨D, c, rfl, ⟨rfl, h1, h2, h3⟩, h4⟩
/-- Where a context is told, it begins with the given one, and the root's context is the given one. -/
theorem ctxV_true {ctx q : List Tr} {t : Tr} {p : List Int} (h : ctxV ctx t p = (q, true)) : ctxV ctx t [] = (ctx, true) ∧ q.take ctx.length = ctx ∧ ctx.length ≤ q.length := by
  unfold ctxV at h
  split at h
  · rename_i hh
    simp only [Prod.mk.injEq, and_true] at h
    subst h
    rw [Bool.and_eq_true, Bool.and_eq_true] at hh
    obtain ⟨⟨h1, h2⟩, h3⟩ := hh
    have hv : valid sigT t = true := by
      unfold atV at h2
      split at h2
      · assumption
      · cases h2
    have hb : bndT t [] = [] := by cases t; rw [bndT]
    have ha : (atV t []).2 = true := by
      unfold atV
      rw [if_pos hv]
      cases t
      simp [atT]
    have h8 := (fitsC_mem h1).1
    refine ⟨?_, by simp, by simp⟩
    unfold ctxV
    rw [hb, ha, h1, if_pos (by simp; omega), List.append_nil]
  · simp at h
end Go.Proofs.Ytappakllopkfiaa

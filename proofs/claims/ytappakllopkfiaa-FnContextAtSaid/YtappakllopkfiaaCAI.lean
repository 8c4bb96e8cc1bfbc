/-
  Lemmas towards the law, 9: Nums, Extract, Plc.
-/
import Derived.Test.YtappakllopkfiaaCAB
import Derived.Test.YtappakllopkfiaaCAC
import Derived.Test.YtappakllopkfiaaCAD
import Derived.Test.YtappakllopkfiaaCAG
import Derived.Test.YtappakllopkfiaaCAH
import Derived.Deep.DrawnRows
import Derived.Deep.RegionLaw
namespace Go.Proofs.Ytappakllopkfiaa
open Go.RowKit Go.ChangeShapes Go.WideShapes Go.Deep
set_option linter.unusedVariables false

/-- The numbers lie in w from A on. -/
def Nums (w : World) (A : Option Addr) (ns : List Int) : Prop := ns = [] ∨ ∃ b o, A = some ⟨b, o, none⟩ ∧ b < w.heap.size ∧ ∀ j (h : j < ns.length), w.cell? ⟨b, o + j, none⟩ = some (.int .i64 ns[j])
theorem Nums.ext {w w' : World} {A : Option Addr} {ns : List Int} (h : Nums w A ns) (he : Ext w w') : Nums w' A ns := by
  rcases h with h | ⟨b, o, rfl, hb, hc⟩
  · exact .inl h
  · exact .inr ⟨b, o, rfl, Nat.lt_of_lt_of_le hb he.size, fun j hj => he.cell (hc j hj)⟩
theorem Nums.get {w w' : World} {A : Option Addr} {ns : List Int} (h : Nums w A ns) (he : Ext w w') {j : Nat} (hj : j < ns.length) : ∃ b o, A = some ⟨b, o, none⟩ ∧ w'.cell? ⟨b, o + j, none⟩ = some (.int .i64 ns[j]) := by
  rcases h with rfl | ⟨b, o, rfl, hb, hc⟩
  · exact absurd hj (by simp)
  · exact ⟨b, o, rfl, he.cell (hc j hj)⟩
theorem At.nums {w : World} {A : Option Addr} {ns : List Int} (h : Nums w A ns) : At w (fun w' => Nums w' A ns) := fun _ hx => h.ext hx

section
variable {H : Type} {enc : TypeId × Value → H} {P : Program} {w : World} {spare : Nat → Bool} {held : Bool}
/-- An argument that is a slice of ints. -/
theorem open_nums {s i : TypeId} (hs : P.underlying s = some (.slice i)) (hi : P.underlying i = some (.int .i64)) (ci : P.cellsOf i = 1) {r : Reach} {b0 : Nat} {v : Value} {d : DataW H} {p : List MemPlace} (hv : Value.okWide P w r b0 s v) (h : DataW.Trod enc P w 0 spare held s v d p) :
    ∃ (A : Option Addr) (cap : Nat) (ns : List Int), v = .slice A ns.length cap ∧ ns.length ≤ cap ∧ cap ≤ maxLen ∧ Nums w A ns := by
  obtain ⟨a0, len0, cap0, rfl⟩ := okWide_slice hs hv
  obtain ⟨fuel, hf⟩ := h
  rcases DataW.trod_slice hs hf with ⟨hcs, _⟩ | ⟨a, len, cap, elems, rest, n, rfl, hcs, _, _, hl, hm, hlen, hel, _, _⟩
  · simp only [Value.cells, List.cons.injEq, and_true] at hcs
    exact ⟨none, 0, [], hcs, Nat.le_refl _, Nat.zero_le _, .inl rfl⟩
  · have hel' : ∀ j, j < len → ∃ x : Int, w.cell? (a.add j) = some (.int .i64 x) := by
      intro j hj
      have hj' := hel j hj
      rw [List.getElem?_eq_getElem (by omega)] at hj'
      obtain ⟨cs', h1, h2⟩ := Option.bind_eq_some_iff.1 hj'
      obtain ⟨x, rfl, _, _⟩ := DataW.trod_int hi h2
      obtain ⟨_, _, hcell⟩ := World.cells?_some h1
      rw [ci] at hcell
      have q0 := hcell 0 (by omega)
      rw [Nat.mul_one] at q0
      have e0 : ∀ y : Addr, y.add 0 = y := fun y => by simp [Addr.add]
      rw [e0] at q0
      exact ⟨x, q0⟩
    obtain ⟨ns, hns, hp⟩ := choose_list len hel'
    subst hns
    simp only [Value.cells, List.cons.injEq, and_true] at hcs
    refine ⟨some a, cap, ns, hcs, hl, hm, ?_⟩
    cases ns with
    | nil => exact .inl rfl
    | cons t0 ts =>
      obtain ⟨b, o, spot⟩ := a
      have hlt : b < w.heap.size ∧ spot = none := by
        have q0 := hp 0 (by simp)
        have e0 : (⟨b, o, spot⟩ : Addr).add 0 = ⟨b, o, spot⟩ := by simp [Addr.add]
        rw [e0] at q0
        exact ⟨World.block_lt_of_cell? _ _ q0, by simpa using World.cell?_spot q0⟩
      obtain ⟨hlt, rfl⟩ := hlt
      refine .inr ⟨b, o, rfl, hlt, fun j hj => ?_⟩
      have q0 := hp j hj
      rw [add_plain'] at q0
      exact q0
end

def arity (f : Int) : Int := if f = 1 ∨ f = 2 ∨ f = 4 then 2 else if f = 3 ∨ f = 5 ∨ f = 6 then 1 else -1
def fits (f : Int) (ns : List Int) : Bool := decide (arity f = (ns.length : Int)) && ns.all (fun n => inR n 0 20)
/-- The value of a function of numbers. -/
def funVal (f : Int) (ns : List Int) : Int × Bool :=
  if fits f ns = true then
    match ns with
    | [a] => (if f = 3 then (if a = 0 then 0 else a - 1) else if f = 6 then 2 * a else if a = 0 then 1 else 0, true)
    | [a, b] => (if f = 1 then a + b else if f = 2 then a * b else if a < b then 0 else a - b, true)
    | _ => (0, false)
  else (0, false)


theorem isNumber_any (n : Int) (w : World) : Calls Try.prog 124 #[.int .i64 n] w fun e w' => e = .returned (.bool (inR n 0 20)) ∧ w = w' := by
  go_enter Try.func124, Try.ntmps124
  go_wp2_with fail
  refine (within_any _ _ _ _).mono ?_
  rintro e w1 ⟨rfl, rfl⟩
  go_wp2_with fail
  go_ret
  exact ⟨rfl, rfl⟩

theorem fits_true {f : Int} {ns : List Int} (h : fits f ns = true) : (∃ a b, ns = [a, b] ∧ 0 ≤ a ∧ a ≤ 20 ∧ 0 ≤ b ∧ b ≤ 20 ∧ (f = 1 ∨ f = 2 ∨ f = 4)) ∨ (∃ a, ns = [a] ∧ 0 ≤ a ∧ a ≤ 20 ∧ (f = 3 ∨ f = 5 ∨ f = 6)) := by
  unfold fits at h
  rw [Bool.and_eq_true] at h
  have h1 := of_decide_eq_true h.1
  have h2 := h.2
  rw [List.all_eq_true] at h2
  unfold arity at h1
  by_cases c1 : f = 1 ∨ f = 2 ∨ f = 4
  · rw [if_pos c1] at h1
    match ns, h1 with
    | [a, b], _ =>
      have ha := inR_iff.1 (h2 a (by simp))
      have hb := inR_iff.1 (h2 b (by simp))
      exact .inl ⟨a, b, rfl, ha.1, ha.2, hb.1, hb.2, c1⟩
    | [], h1 => simp at h1
    | [a], h1 => simp at h1
    | a :: b :: c :: ts, h1 => simp at h1; omega
  · rw [if_neg c1] at h1
    by_cases c2 : f = 3 ∨ f = 5 ∨ f = 6
    · rw [if_pos c2] at h1
      match ns, h1 with
      | [a], _ =>
        have ha := inR_iff.1 (h2 a (by simp))
        exact .inr ⟨a, rfl, ha.1, ha.2, c2⟩
      | [], h1 => simp at h1
      | a :: b :: ts, h1 => simp at h1; omega
    · rw [if_neg c2] at h1
      omega

end Go.Proofs.Ytappakllopkfiaa

namespace Go.Proofs.Ytappakllopkfiaa
open Go.RowKit
set_option linter.unusedVariables false
theorem shapes_mem {g : Sig} : ∀ {ks : List Tr} {d : Int} {t : Tr}, shapes g ks d = true → t ∈ ks → shape g t d = true
  | x :: ks, d, t, h, hm => by
    simp only [shapes, Bool.and_eq_true] at h
    rcases List.mem_cons.1 hm with rfl | hm
    · exact h.1
    · exact shapes_mem h.2 hm
theorem shape_kids {g : Sig} {k n : Int} {ks : List Tr} {d : Int} (h : shape g (.mk k n ks) d = true) : g.ops k = (ks.length : Int) ∧ 0 ≤ n ∧ n ≤ g.most k ∧ ∀ t ∈ ks, shape g t (d - 1) = true := by
  simp only [shape, headOk, Bool.and_eq_true] at h
  have h1 := of_decide_eq_true h.2.1.1
  have h2 := inR_iff.1 h.2.1.2
  exact ⟨h1, h2.1, h2.2, fun t ht => shapes_mem h.2.2 ht⟩
theorem Ext.below {W a w : World} (h : Ext a w) (hW : W.heap.size ≤ a.heap.size) : Below W.heap.size a w := ⟨h.os, h.tape, h.output, h.size, fun b hb => h.heap b (Nat.lt_of_lt_of_le hb hW)⟩
theorem Ext.trans' {W a b c : World} (h : Ext a b) (k : Below W.heap.size b c) (hW : a.heap.size ≤ W.heap.size) : Ext a c := Below.trans h (Below.mono k hW)
theorem Made.three' {w w' : World} {e : TypeId} {t : Tr} {u : Value} (h : Made w w' e t u) : ∃ k n A l c, u = .agg #[.int .i64 k, .int .i64 n, .slice A l c] := by
  obtain ⟨k, n, ks⟩ := t
  obtain ⟨A, cap, rfl, _⟩ := Made.mk_iff.1 h
  exact ⟨k, n, A, _, cap, rfl⟩
attribute [local go_sem ↓] Go.wp_at_zero Go.wp_at_succ
end Go.Proofs.Ytappakllopkfiaa
namespace Go.Proofs.Ytappakllopkfiaa
set_option linter.unusedVariables false
mutual
/-- The places of the nodes that p holds of, each behind the place q of the tree. -/
def plc (p : Tr → Bool) : Tr → List Int → List (List Int)
  | .mk k n ks, q => (if p (.mk k n ks) = true then [q] else []) ++ plcs p 0 ks q
def plcs (p : Tr → Bool) : Nat → List Tr → List Int → List (List Int)
  | _, [], _ => []
  | i, t :: ts, q => plc p t (q ++ [(i : Int)]) ++ plcs p (i + 1) ts q
end
mutual
/-- How many nodes p holds of. -/
def cntP (p : Tr → Bool) : Tr → Nat
  | .mk k n ks => (if p (.mk k n ks) = true then 1 else 0) + cntsP p ks
def cntsP (p : Tr → Bool) : List Tr → Nat
  | [] => 0
  | t :: ts => cntP p t + cntsP p ts
end
mutual
theorem plc_len (p : Tr → Bool) : ∀ (t : Tr) (q : List Int), (plc p t q).length = cntP p t
  | .mk k n ks, q => by
    rw [plc, cntP, List.length_append, plcs_len p ks 0 q]
    split <;> simp
theorem plcs_len (p : Tr → Bool) : ∀ (ks : List Tr) (i : Nat) (q : List Int), (plcs p i ks q).length = cntsP p ks
  | [], i, q => by rw [plcs, cntsP]; rfl
  | t :: ts, i, q => by rw [plcs, cntsP, List.length_append, plc_len p t _, plcs_len p ts _ q]
end
mutual
theorem cntP_le (p : Tr → Bool) : ∀ t : Tr, cntP p t ≤ cnt t
  | .mk k n ks => by
    rw [cntP, cnt]
    have := cntsP_le p ks
    split <;> omega
theorem cntsP_le (p : Tr → Bool) : ∀ ks : List Tr, cntsP p ks ≤ cnts ks
  | [] => by rw [cntsP, cnts]; exact Nat.le_refl _
  | t :: ts => by
    rw [cntsP, cnts]
    have := cntP_le p t
    have := cntsP_le p ts
    omega
end
/-- Is this node a redex? -/
def isRdx (t : Tr) : Bool := rdxT t != 0
/-- The part of a tree at a place. -/
def atT : Tr → List Int → Option Tr
  | t, [] => some t
  | .mk _ _ ks, i :: r => if 0 ≤ i ∧ i < ks.length then atT (kd ks i.toNat) r else none
/-- The first operands of the binders above a place. -/
def bndT : Tr → List Int → List Tr
  | _, [] => []
  | .mk k _ ks, i :: r => if 0 ≤ i ∧ i < ks.length then (if 0 < und k i.toNat then [kd ks 0] else []) ++ bndT (kd ks i.toNat) r else []
theorem kd_mem {ks : List Tr} {i : Nat} (h : i < ks.length) : kd ks i ∈ ks := by
  unfold kd
  rw [List.getD_eq_getElem?_getD, List.getElem?_eq_getElem h]
  exact List.getElem_mem h
mutual
theorem plc_at (p : Tr → Bool) : ∀ (t : Tr) (q : List Int) (x : List Int), x ∈ plc p t q → ∃ r u, x = q ++ r ∧ atT t r = some u ∧ p u = true
  | .mk k n ks, q, x, h => by
    rw [plc] at h
    rcases List.mem_append.1 h with h | h
    · by_cases hp : p (.mk k n ks) = true
      · rw [if_pos hp] at h
        exact ⟨[], .mk k n ks, by simpa using h, rfl, hp⟩
      · rw [if_neg hp] at h
        cases h
    · obtain ⟨j, r, u, h1, h2, h3, h4⟩ := plcs_at p ks 0 q x h
      refine ⟨((j : Nat) : Int) :: r, u, by simpa using h2, ?_, h4⟩
      rw [atT, if_pos ⟨by omega, by omega⟩]
      simpa using h3
theorem plcs_at (p : Tr → Bool) : ∀ (ks : List Tr) (i : Nat) (q : List Int) (x : List Int), x ∈ plcs p i ks q → ∃ (j : Nat) (r : List Int) (u : Tr), j < ks.length ∧ x = q ++ ((i + j : Nat) : Int) :: r ∧ atT (kd ks j) r = some u ∧ p u = true
  | [], i, q, x, h => by rw [plcs] at h; cases h
  | t :: ts, i, q, x, h => by
    rw [plcs] at h
    rcases List.mem_append.1 h with h | h
    · obtain ⟨r, u, h1, h2, h3⟩ := plc_at p t _ x h
      exact ⟨0, r, u, by simp, by simpa using h1, h2, h3⟩
    · obtain ⟨j, r, u, h1, h2, h3, h4⟩ := plcs_at p ts (i + 1) q x h
      refine ⟨j + 1, r, u, by simpa using h1, ?_, h3, h4⟩
      rw [h2, show i + 1 + j = i + (j + 1) by omega]
end
/-- Each step keeps the shape. -/
theorem atT_shape {g : Sig} : ∀ (a : List Int) (t u : Tr) (d : Int), shape g t d = true → atT t a = some u → shape g u (d - a.length) = true
  | [], t, u, d, h, e => by
    have e : t = u := by cases t; simpa [atT] using e
    subst e
    simpa using h
  | i :: a, .mk k n ks, u, d, h, e => by
    rw [atT] at e
    split at e
    · rename_i hi
      have h1 := (shape_kids h).2.2.2 (kd ks i.toNat) (kd_mem (by omega))
      have := atT_shape a _ u (d - 1) h1 e
      rw [List.length_cons, show d - ((a.length + 1 : Nat) : Int) = d - 1 - a.length by omega]
      exact this
    · cases e
theorem shape_pos' {g : Sig} {t : Tr} {d : Int} (h : shape g t d = true) : 1 ≤ d := by
  obtain ⟨k, n, ks⟩ := t
  simp only [shape, Bool.and_eq_true, decide_eq_true_eq] at h
  exact h.1
end Go.Proofs.Ytappakllopkfiaa

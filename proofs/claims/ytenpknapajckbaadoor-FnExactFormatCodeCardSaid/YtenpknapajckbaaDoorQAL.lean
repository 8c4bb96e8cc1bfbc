/-
  Lemmas towards the law, 12: Parse2, Parse4, Parse5, Nums.
-/
import Derived.Test.YtenpknapajckbaaDoorQAB
import Derived.Test.YtenpknapajckbaaDoorQAF
import Derived.Test.YtenpknapajckbaaDoorQAG
import Derived.Test.YtenpknapajckbaaDoorQAJ
import Derived.Test.YtenpknapajckbaaDoorQAK
import Derived.Laws.Strings2
namespace Go.Proofs.YtenpknapajckbaaDoor
open Go.RowKit
set_option linter.unusedVariables false
/-- All rows are of block number B or newer. -/
def From (B : Nat) (w : World) (t : Tr) (v : Value) : Prop := InT w (fun b => B ≤ b ∧ b < w.heap.size) t v
theorem From.ext {B : Nat} {w w' : World} {t : Tr} {v : Value} (h : From B w t v) (he : Ext w w') : From B w' t v := h.mono (fun b hb => ⟨hb.1, Nat.lt_of_lt_of_le hb.2 he.size⟩) (fun b hb => he.heap b hb.2)
theorem From.since {B C : Nat} {w : World} {t : Tr} {v : Value} (h : From B w t v) (hc : C ≤ B) : From C w t v := h.mono (fun b hb => ⟨Nat.le_trans hc hb.1, hb.2⟩) (fun _ _ => rfl)
theorem From.lies {B : Nat} {w : World} {t : Tr} {v : Value} (h : From B w t v) : Lies w t v := h.mono (fun b hb => hb.2) (fun _ _ => rfl)
theorem From.three {B : Nat} {w : World} {t : Tr} {u : Value} (h : From B w t u) : ∃ k n A l c, u = .agg #[.int .i64 k, .int .i64 n, .slice A l c] := h.lies.three
theorem From.made {w w' : World} {e : TypeId} {t : Tr} {v : Value} (h : Made w w' e t v) : From w.heap.size w' t v := by
  obtain ⟨L, h, hf⟩ := h
  exact InT.mono (fun b hb => hf.2 b hb) (fun _ _ => rfl) h.inT
def FromK (B : Nat) (w : World) (A : Option Addr) (ks : List Tr) : Prop := InK w (fun b => B ≤ b ∧ b < w.heap.size) A ks
theorem FromK.one {B g : Nat} {w : World} {t : Tr} {v0 v1 v2 : Value} {e : TypeId} (h : From B w t (.agg #[v0, v1, v2])) (hB : B ≤ w.heap.size) (hg : g = w.heap.size) : FromK B (w.alloc (.cells #[v0, v1, v2] e)) (some ⟨g, 0, none⟩) [t] :=
  hg ▸ InK.one (h.ext ((Ext.refl w).alloc _)) (heap_alloc_new w _) ⟨hB, by simp⟩
theorem FromK.two {B g : Nat} {w : World} {t u : Tr} {v0 v1 v2 x0 x1 x2 : Value} {e : TypeId} (h : From B w t (.agg #[v0, v1, v2])) (h' : From B w u (.agg #[x0, x1, x2])) (hB : B ≤ w.heap.size) (hg : g = w.heap.size) : FromK B (w.alloc (.cells #[v0, v1, v2, x0, x1, x2] e)) (some ⟨g, 0, none⟩) [t, u] := by
  subst hg
  have hx := (Ext.refl w).alloc (.cells #[v0, v1, v2, x0, x1, x2] e)
  have hg := heap_alloc_new w (.cells #[v0, v1, v2, x0, x1, x2] e)
  have h1 := h.ext hx
  have h2 := h'.ext hx
  refine .inr ⟨w.heap.size, 0, rfl, ⟨hB, by simp⟩, ?_⟩
  unfold InL
  refine ⟨⟨v0, v1, v2, cell_of_blk hg 0, cell_of_blk hg 1, cell_of_blk hg 2, h1⟩, ?_⟩
  unfold InL
  refine ⟨⟨x0, x1, x2, cell_of_blk hg 3, cell_of_blk hg 4, cell_of_blk hg 5, h2⟩, ?_⟩
  unfold InL
  trivial
/-- What a parser hands back. -/
def ParseQ (B : Nat) (w : World) (size : Nat) (o : Option (Tr × Nat)) (e : Ending) (w' : World) : Prop :=
  ∃ (t : Tr) (u : Value) (nx : Int), e = .returned (.tuple #[u, .int .i64 nx]) ∧ From B w' t u ∧ Ext w w' ∧ (∀ x, o = some x → t = x.1 ∧ nx = x.2 ∧ x.2 ≤ size) ∧ (o = none → nx = -1)
end Go.Proofs.YtenpknapajckbaaDoor
namespace Go.Proofs.YtenpknapajckbaaDoor
open Go.RowKit
set_option linter.unusedVariables false
theorem From.mk {B : Nat} {w : World} {A : Option Addr} {ks : List Tr} {cap : Nat} (k n : Int) (h : FromK B w A ks) (hl : ks.length ≤ cap) (hc : cap ≤ maxLen) : From B w (.mk k n ks) (.agg #[.int .i64 k, .int .i64 n, .slice A ks.length cap]) := InT.mk_iff.2 ⟨A, cap, rfl, hl, hc, h⟩
end Go.Proofs.YtenpknapajckbaaDoor
namespace Go.Proofs.YtenpknapajckbaaDoor
open Go.RowKit
set_option linter.unusedVariables false
/-- A callee's answer is handed on. -/
theorem ParseQ.on {B : Nat} {w : World} {size : Nat} {o : Option (Tr × Nat)} {e : Ending} {w' : World} (h : ParseQ B w size o e w') : ∃ (t : Tr) (k n : Int) (A : Option Addr) (l c : Nat) (nx : Int), e = .returned (.tuple #[.agg #[.int .i64 k, .int .i64 n, .slice A l c], .int .i64 nx]) ∧ From B w' t (.agg #[.int .i64 k, .int .i64 n, .slice A l c]) ∧ Ext w w' ∧ Hid ((∀ x, o = some x → t = x.1 ∧ nx = x.2 ∧ x.2 ≤ size) ∧ (o = none → nx = -1)) := by
  obtain ⟨t, u, nx, rfl, hF, e1, q⟩ := h
  obtain ⟨k, n, A, l, c, rfl⟩ := hF.three
  exact ⟨t, k, n, A, l, c, nx, rfl, hF, e1, Lib.hid q⟩
end Go.Proofs.YtenpknapajckbaaDoor
namespace Go.Proofs.YtenpknapajckbaaDoor
open Go.RowKit Go.ChangeShapes Go.WideShapes Go.Deep
set_option linter.unusedVariables false

/-- The numbers lie in w from A on. -/
def Nums (w : World) (A : Option Addr) (ns : List Int) : Prop := ns = [] ∨ ∃ b o, A = some ⟨b, o, none⟩ ∧ b < w.heap.size ∧ ∀ j (h : j < ns.length), w.cell? ⟨b, o + j, none⟩ = some (.int .i64 ns[j])
theorem Nums.ext {w w' : World} {A : Option Addr} {ns : List Int} (h : Nums w A ns) (he : Ext w w') : Nums w' A ns := by
  rcases h with h | ⟨b, o, rfl, hb, hc⟩
  · exact .inl h
  · exact .inr ⟨b, o, rfl, Nat.lt_of_lt_of_le hb he.size, fun j hj => he.cell (hc j hj)⟩
theorem Nums.get {w w' : World} {A : Option Addr} {ns : List Int} (h : Nums w A ns) (he : Ext w w') {j : Nat} (hj : j < ns.length) : ∃ b o, A = some ⟨b, o, none⟩ ∧ w'.cell? ⟨b, o + j, none⟩ = some (.int .i64 ns[j]) := by
  rcases h with rfl | ⟨b, o, rfl, hb, hc⟩
  · exact absurd hj (by simp)
  · exact ⟨b, o, rfl, he.cell (hc j hj)⟩
theorem At.nums {w : World} {A : Option Addr} {ns : List Int} (h : Nums w A ns) : At w (fun w' => Nums w' A ns) := fun _ hx => h.ext hx

section
variable {H : Type} {enc : TypeId × Value → H} {P : Program} {w : World} {spare : Nat → Bool} {held : Bool}
/-- An argument that is a slice of ints. -/
theorem open_nums {s i : TypeId} (hs : P.underlying s = some (.slice i)) (hi : P.underlying i = some (.int .i64)) (ci : P.cellsOf i = 1) {r : Reach} {b0 : Nat} {v : Value} {d : DataW H} {p : List MemPlace} (hv : Value.okWide P w r b0 s v) (h : DataW.Trod enc P w 0 spare held s v d p) :
    ∃ (A : Option Addr) (cap : Nat) (ns : List Int), v = .slice A ns.length cap ∧ ns.length ≤ cap ∧ cap ≤ maxLen ∧ Nums w A ns := by
  obtain ⟨a0, len0, cap0, rfl⟩ := okWide_slice hs hv
  obtain ⟨fuel, hf⟩ := h
  rcases DataW.trod_slice hs hf with ⟨hcs, _⟩ | ⟨a, len, cap, elems, rest, n, rfl, hcs, _, _, hl, hm, hlen, hel, _, _⟩
  · simp only [Value.cells, List.cons.injEq, and_true] at hcs
    exact ⟨none, 0, [], hcs, Nat.le_refl _, Nat.zero_le _, .inl rfl⟩
  · have hel' : ∀ j, j < len → ∃ x : Int, w.cell? (a.add j) = some (.int .i64 x) := by
      intro j hj
      have hj' := hel j hj
      rw [List.getElem?_eq_getElem (by omega)] at hj'
      obtain ⟨cs', h1, h2⟩ := Option.bind_eq_some_iff.1 hj'
      obtain ⟨x, rfl, _, _⟩ := DataW.trod_int hi h2
      obtain ⟨_, _, hcell⟩ := World.cells?_some h1
      rw [ci] at hcell
      have q0 := hcell 0 (by omega)
      rw [Nat.mul_one] at q0
      have e0 : ∀ y : Addr, y.add 0 = y := fun y => by simp [Addr.add]
      rw [e0] at q0
      exact ⟨x, q0⟩
    obtain ⟨ns, hns, hp⟩ := choose_list len hel'
    subst hns
    simp only [Value.cells, List.cons.injEq, and_true] at hcs
    refine ⟨some a, cap, ns, hcs, hl, hm, ?_⟩
    cases ns with
    | nil => exact .inl rfl
    | cons t0 ts =>
      obtain ⟨b, o, spot⟩ := a
      have hlt : b < w.heap.size ∧ spot = none := by
        have q0 := hp 0 (by simp)
        have e0 : (⟨b, o, spot⟩ : Addr).add 0 = ⟨b, o, spot⟩ := by simp [Addr.add]
        rw [e0] at q0
        exact ⟨World.block_lt_of_cell? _ _ q0, by simpa using World.cell?_spot q0⟩
      obtain ⟨hlt, rfl⟩ := hlt
      refine .inr ⟨b, o, rfl, hlt, fun j hj => ?_⟩
      have q0 := hp j hj
      rw [add_plain'] at q0
      exact q0
end

def arity (f : Int) : Int := if f = 1 ∨ f = 2 ∨ f = 4 then 2 else if f = 3 ∨ f = 5 ∨ f = 6 then 1 else -1
def fits (f : Int) (ns : List Int) : Bool := decide (arity f = (ns.length : Int)) && ns.all (fun n => inR n 0 20)
/-- The value of a function of numbers. -/
def funVal (f : Int) (ns : List Int) : Int × Bool :=
  if fits f ns = true then
    match ns with
    | [a] => (if f = 3 then (if a = 0 then 0 else a - 1) else if f = 6 then 2 * a else if a = 0 then 1 else 0, true)
    | [a, b] => (if f = 1 then a + b else if f = 2 then a * b else if a < b then 0 else a - b, true)
    | _ => (0, false)
  else (0, false)



theorem fits_true {f : Int} {ns : List Int} (h : fits f ns = true) : (∃ a b, ns = [a, b] ∧ 0 ≤ a ∧ a ≤ 20 ∧ 0 ≤ b ∧ b ≤ 20 ∧ (f = 1 ∨ f = 2 ∨ f = 4)) ∨ (∃ a, ns = [a] ∧ 0 ≤ a ∧ a ≤ 20 ∧ (f = 3 ∨ f = 5 ∨ f = 6)) := by
  unfold fits at h
  rw [Bool.and_eq_true] at h
  have h1 := of_decide_eq_true h.1
  have h2 := h.2
  rw [List.all_eq_true] at h2
  unfold arity at h1
  by_cases c1 : f = 1 ∨ f = 2 ∨ f = 4
  · rw [if_pos c1] at h1
    match ns, h1 with
    | [a, b], _ =>
      have ha := inR_iff.1 (h2 a (by simp))
      have hb := inR_iff.1 (h2 b (by simp))
      exact .inl ⟨a, b, rfl, ha.1, ha.2, hb.1, hb.2, c1⟩
    | [], h1 => simp at h1
    | [a], h1 => simp at h1
    | a :: b :: c :: ts, h1 => simp at h1; omega
  · rw [if_neg c1] at h1
    by_cases c2 : f = 3 ∨ f = 5 ∨ f = 6
    · rw [if_pos c2] at h1
      match ns, h1 with
      | [a], _ =>
        have ha := inR_iff.1 (h2 a (by simp))
        exact .inr ⟨a, rfl, ha.1, ha.2, c2⟩
      | [], h1 => simp at h1
      | a :: b :: ts, h1 => simp at h1; omega
    · rw [if_neg c2] at h1
      omega

end Go.Proofs.YtenpknapajckbaaDoor


/-
  Lemmas towards the law, 2: Lift, Valid, Text.
-/
import Derived.Test.YtappakllopkfiaaZAA
import Derived.Carry
import Derived.Deep.Slices
import Derived.Deep.Strs
import Derived.OpenShut
namespace Go.Proofs.Ytappakllopkfiaa
open Go.RowKit Go.ChangeShapes Go.WideShapes Go.ChangeAt Go.Deep
set_option linter.unusedVariables false

section
variable {H : Type} {enc : TypeId × Value → H} {P : Program}

theorem trodAll_stays (hl : laidOutB P = true) {W W' : World} (hb : Ext W W') : ∀ {ts : List TypeId} {vs : List Value} {ds : List (DataW H)} {ps : List MemPlace},
    (ts.all fun t => P.readableRec t && decide (t < P.types.size)) = true → DataW.TrodAll enc P W 0 (fun _ => true) true ts vs ds ps → (∀ x ∈ ps, x.block < W.heap.size) →
    DataW.TrodAll enc P W' 0 (fun b => decide (b < W.heap.size)) true ts vs ds ps
  | [], vs, ds, ps, _, h, _ => by
    obtain ⟨rfl, rfl, rfl⟩ := trodAll_nil h
    exact trodAll_mk0
  | t :: ts, vs, ds, ps, hr, h, hlt => by
    obtain ⟨v, vs', d, ds', p, q, rfl, rfl, rfl, h0, r⟩ := trodAll_cons h
    simp only [List.all_cons, Bool.and_eq_true, decide_eq_true_eq] at hr
    exact trodAll_cons_mk (Below.trod hl hr.1.1 hr.1.2 h0 hb (fun x hx => hlt x (List.mem_append_left _ hx))) (trodAll_stays hl hb (by simpa using hr.2) r (fun x hx => hlt x (List.mem_append_right _ hx)))

/-- A law that answers true and leaves all that was there as1 it was. -/
theorem law_lift {C : Checked} {os : Os} {f : FuncId} {fn : Func} {s : ChangeSpec} {tb : TypeId} (own : ownKnob C.prog.godebug = none) (started : os.Started) (noInit : C.prog.inits.idxOf? f = none) (hfn : C.prog.funcs[f]? = some fn)
    (hl : laidOutB C.prog = true) (hread : (fn.params.toList.all fun t => C.prog.readableRec t && decide (t < C.prog.types.size)) = true) (hres : fn.resultTypes = #[tb]) (hbool : C.prog.underlying tb = some .bool)
    (hvars : s.vars = []) (hspec : ∀ ds : List (DataW H), ds.length = fn.params.size → (s.fn H ds).results = [.lit (.bool true)] ∧ (s.fn H ds).args = ds ∧ (s.fn H ds).vars = [])
    (witness : ∃ (w : World) (tape : Tape) (i : Input), w.os = os ∧ (w.forCall tape i).Shaped C.prog ∧ i.vars = [] ∧ Input.okWide C.prog (w.forCall tape i) .any w.heap.size f i ∧
      s.pre6 enc C.prog fn [] false (w.forCall tape i).memory i.args ∧ ({} : Assume).holds C.prog (lone (Frame.enter C.prog f i.args .normal) [] (w.forCall tape i)))
    (walk : ∀ (W : World) (base : Nat) (args : Array Value) (ds : List (DataW H)) (p : List MemPlace),
      (∀ (j : Nat) t v, fn.params[j]? = some t → args[j]? = some v → Value.okWide C.prog W .any base t v) → DataW.TrodAll enc C.prog W 0 (fun _ => true) true fn.params.toList args.toList ds p →
      (∀ x ∈ p, x.block < W.heap.size) → Calls C.prog f args W fun e W' => e = .returned (.bool true) ∧ Ext W W') :
    ReturnsInHanded {} C os f .any (s.pre6 enc C.prog fn [] false) (s.post enc C.prog fn false true false false) := by
  refine returnsInHanded_of_change own started noInit hfn witness ?_
  intro W base args ds gs before hval hW _ _
  have hlt : ∀ x ∈ before, x.block < W.heap.size := fun x hx => hW.lt x hx
  have hW' := hW
  obtain ⟨p, q, hA, hV, rfl, hfz, hnd⟩ := hW
  rw [hvars] at hV
  obtain ⟨rfl, rfl⟩ := trodVars_none hV
  simp only [List.append_nil] at hlt hW'
  refine (walk W base args ds p hval hA hlt).mono ?_
  rintro e W' ⟨rfl, hE⟩
  have hlen : ds.length = fn.params.size := by
    have h1 : ∀ {ts : List TypeId} {vs : List Value} {es : List (DataW H)} {ps : List MemPlace}, DataW.TrodAll enc C.prog W 0 (fun _ => true) true ts vs es ps → es.length = ts.length := by
      intro ts
      induction ts with
      | nil => intro vs es ps h; obtain ⟨_, rfl, _⟩ := trodAll_nil h; rfl
      | cons t ts ih => intro vs es ps h; obtain ⟨v, vs', d, ds', p, q, rfl, rfl, rfl, h0, r⟩ := trodAll_cons h; simp [ih r]
    rw [h1 hA, Array.length_toList]
  obtain ⟨e1, e2, e3⟩ := hspec ds hlen
  refine ⟨_, rfl, ds, [], p, [], p, [], by simpa using hW', ?_, ?_, ?_, Below.frame hE _ |> World.keptBut_mono (fun x hx => ⟨hx, .inr (.inl hx)⟩), fun h => by cases h⟩
  · rw [List.append_nil, e1, hres]
    exact trodAll_mk1 (shut_bool hbool _)
  · rw [List.append_nil, e2]
    exact trodAll_stays hl hE hread hA hlt
  · rw [List.append_nil, e3, hvars]
    exact rfl
end

/-! ### A tree that came in -/
section
variable {H : Type} {enc : TypeId × Value → H} {P : Program} {w : World} {spare : Nat → Bool} {held : Bool}

/-- The types of a tree: the struct, its slice, int. -/
structure TreeTy (P : Program) (t s i : TypeId) (f0 f1 f2 : Field) : Prop where
  ht : P.underlying t = some (.struct #[f0, f1, f2])
  hs : P.underlying s = some (.slice t)
  hi : P.underlying i = some (.int .i64)
  t0 : f0.type = i
  t1 : f1.type = i
  t2 : f2.type = s
  o0 : f0.offset = 0
  o1 : f1.offset = 1
  o2 : f2.offset = 2
  ci : P.cellsOf i = 1
  cs : P.cellsOf s = 1
  ct : P.cellsOf t = 3

abbrev fld (n : String) (t : TypeId) (o : Nat) (b : Nat) : Field := { name := n, type := t, offset := o, embedded := false, tag := "", pkgPath := "", byteOffset := b }

theorem choose_list {α : Type} {p : Nat → α → Prop} : ∀ n : Nat, (∀ i, i < n → ∃ x, p i x) → ∃ l : List α, l.length = n ∧ ∀ i (h : i < l.length), p i l[i]
  | 0, _ => ⟨[], rfl, fun i h => absurd h (by simp)⟩
  | n + 1, h => by
    obtain ⟨l, hl, hp⟩ := choose_list n (fun i hi => h i (by omega))
    obtain ⟨x, hx⟩ := h n (by omega)
    refine ⟨l ++ [x], by simp [hl], fun i hi => ?_⟩
    by_cases hin : i < l.length
    · rw [List.getElem_append_left hin]; exact hp i hin
    · have : i = n := by simp at hi; omega
      subst this
      rw [List.getElem_append_right (by omega)]
      simpa [hl] using hx

theorem InL.build {S : Nat → Prop} {b : Nat} : ∀ {ks : List Tr} {o : Nat}, (∀ j (h : j < ks.length), ∃ v0 v1 v2, w.cell? ⟨b, o + j * 3, none⟩ = some v0 ∧ w.cell? ⟨b, o + j * 3 + 1, none⟩ = some v1 ∧ w.cell? ⟨b, o + j * 3 + 2, none⟩ = some v2 ∧ InT w S ks[j] (.agg #[v0, v1, v2])) → InL w S b o ks
  | [], _, _ => by unfold InL; trivial
  | t :: ts, o, h => by
    unfold InL
    refine ⟨by have h0 := h 0 (by simp); simp only [List.getElem_cons_zero, Nat.zero_mul, Nat.add_zero] at h0; exact h0, InL.build fun j hj => ?_⟩
    have := h (j + 1) (by simpa using hj)
    have ea : o + (j + 1) * 3 = o + 3 + j * 3 := by omega
    rw [ea] at this
    simpa using this

theorem add_plain' (b o n : Nat) : (⟨b, o, none⟩ : Addr).add n = ⟨b, o + n, none⟩ := by
  unfold Addr.add
  split <;> simp_all

/-- A slice of trees as1 it reads, its trees by the hypothesis. -/
theorem open_row_of {t s i : TypeId} {f0 f1 f2 : Field} (T : TreeTy P t s i f0 f1 f2) (fuel : Nat)
    (ih : ∀ m, m < fuel → ∀ (cs : List Value) (x : DataW H × List MemPlace), DataW.trod enc P w 0 spare held m t cs = some x → ∃ (tr : Tr) (v0 v1 v2 : Value), cs = [v0, v1, v2] ∧ Lies w tr (.agg #[v0, v1, v2]))
    (cs : List Value) (x : DataW H × List MemPlace) (h : DataW.trod enc P w 0 spare held fuel s cs = some x) :
    ∃ (A : Option Addr) (cap : Nat) (ks : List Tr), cs = [.slice A ks.length cap] ∧ ks.length ≤ cap ∧ cap ≤ maxLen ∧ LiesK w A ks := by
  rcases DataW.trod_slice T.hs h with ⟨rfl, _⟩ | ⟨a, len, cap, elems, rest, n, rfl, rfl, _, _, hl, hm, hlen, hel, _, _⟩
  · exact ⟨none, 0, [], rfl, Nat.le_refl _, Nat.zero_le _, .inl rfl⟩
  · have hel' : ∀ j, j < len → ∃ tr : Tr, ∃ v0 v1 v2, w.cell? (a.add (j * 3)) = some v0 ∧ w.cell? ((a.add (j * 3)).add 1) = some v1 ∧ w.cell? ((a.add (j * 3)).add 2) = some v2 ∧ Lies w tr (.agg #[v0, v1, v2]) := by
      intro j hj
      have hj' := hel j hj
      rw [List.getElem?_eq_getElem (by omega)] at hj'
      obtain ⟨cs', h1, h2⟩ := Option.bind_eq_some_iff.1 hj'
      obtain ⟨tr, v0, v1, v2, rfl, hL⟩ := ih n (by omega) _ _ h2
      obtain ⟨_, _, hcell⟩ := World.cells?_some h1
      rw [T.ct] at hcell
      have q0 := hcell 0 (by omega)
      have q1 := hcell 1 (by omega)
      have q2 := hcell 2 (by omega)
      have e0 : ∀ y : Addr, y.add 0 = y := fun y => by simp [Addr.add]
      rw [e0] at q0
      exact ⟨tr, v0, v1, v2, q0, q1, q2, hL⟩
    obtain ⟨ks, hks, hp⟩ := choose_list len hel'
    subst hks
    refine ⟨some a, cap, ks, rfl, hl, hm, ?_⟩
    cases ks with
    | nil => exact .inl rfl
    | cons t0 ts =>
      obtain ⟨b, o, spot⟩ := a
      have hlt : b < w.heap.size ∧ spot = none := by
        obtain ⟨v0, v1, v2, q0, _⟩ := hp 0 (by simp)
        simp only [Nat.zero_mul] at q0
        have e0 : (⟨b, o, spot⟩ : Addr).add 0 = ⟨b, o, spot⟩ := by simp [Addr.add]
        rw [e0] at q0
        exact ⟨World.block_lt_of_cell? _ _ q0, by simpa using World.cell?_spot q0⟩
      obtain ⟨hlt, rfl⟩ := hlt
      refine .inr ⟨b, o, rfl, hlt, InL.build fun j hj => ?_⟩
      obtain ⟨v0, v1, v2, q0, q1, q2, hL⟩ := hp j hj
      rw [add_plain'] at q0 q1 q2
      rw [add_plain'] at q1 q2
      exact ⟨v0, v1, v2, q0, q1, q2, hL⟩

theorem open_tree_cells {t s i : TypeId} {f0 f1 f2 : Field} (T : TreeTy P t s i f0 f1 f2) : ∀ (fuel : Nat) (cs : List Value) (x : DataW H × List MemPlace), DataW.trod enc P w 0 spare held fuel t cs = some x →
    ∃ (tr : Tr) (v0 v1 v2 : Value), cs = [v0, v1, v2] ∧ Lies w tr (.agg #[v0, v1, v2]) := by
  intro fuel
  induction fuel using Nat.strongRecOn with
  | _ fuel ih =>
    intro cs x h
    obtain ⟨xs, n, rfl, _, hcl, hlen, hg⟩ := DataW.trod_struct T.ht h
    rw [T.ct] at hcl
    match cs, hcl, xs, hlen with
    | [v0, v1, v2], _, [y0, y1, y2], _ =>
      have g0 := hg 0 f0 rfl
      have g1 := hg 1 f1 rfl
      have g2 := hg 2 f2 rfl
      simp [T.o0, T.o1, T.o2, T.t0, T.t1, T.t2, T.ci, T.cs] at g0 g1 g2
      obtain ⟨k, hk, _, _⟩ := DataW.trod_int T.hi g0
      obtain ⟨m, hm, _, _⟩ := DataW.trod_int T.hi g1
      simp at hk hm
      obtain ⟨A, cap, ks, he, hl, hc, hK⟩ := open_row_of T n (fun m hm => ih m (by omega)) _ _ g2
      simp at he
      subst hk
      subst hm
      subst he
      exact ⟨.mk k m ks, _, _, _, rfl, Lies.mk hl hc hK⟩

/-- An argument that is a tree. -/
theorem open_tree {t s i : TypeId} {f0 f1 f2 : Field} (T : TreeTy P t s i f0 f1 f2) {r : Reach} {b0 : Nat} {v : Value} {d : DataW H} {p : List MemPlace} (hv : Value.okWide P w r b0 t v) (h : DataW.Trod enc P w 0 spare held t v d p) : ∃ tr : Tr, Lies w tr v := by
  obtain ⟨cs, rfl, hsz⟩ := okWide_struct T.ht hv
  obtain ⟨fuel, hf⟩ := h
  obtain ⟨tr, v0, v1, v2, hc, hL⟩ := open_tree_cells T fuel _ _ hf
  obtain ⟨l⟩ := cs
  simp only [Value.cells] at hc
  subst hc
  exact ⟨tr, hL⟩

/-- An argument that is a slice of trees. -/
theorem open_trees {t s i : TypeId} {f0 f1 f2 : Field} (T : TreeTy P t s i f0 f1 f2) {r : Reach} {b0 : Nat} {v : Value} {d : DataW H} {p : List MemPlace} (hv : Value.okWide P w r b0 s v) (h : DataW.Trod enc P w 0 spare held s v d p) :
    ∃ (A : Option Addr) (cap : Nat) (ks : List Tr), v = .slice A ks.length cap ∧ ks.length ≤ cap ∧ cap ≤ maxLen ∧ LiesK w A ks := by
  obtain ⟨a0, len, cap, rfl⟩ := okWide_slice T.hs hv
  obtain ⟨fuel, hf⟩ := h
  obtain ⟨A, cap', ks, he, r⟩ := open_row_of T fuel (fun m _ => open_tree_cells T m) _ _ hf
  simp only [Value.cells, List.cons.injEq, and_true] at he
  exact ⟨A, cap', ks, he, r⟩
end
end Go.Proofs.Ytappakllopkfiaa

namespace Go.Proofs.Ytappakllopkfiaa
set_option linter.unusedVariables false
def inR (n lo hi : Int) : Bool := decide (lo ≤ n) && decide (n ≤ hi)
theorem inR_iff {n lo hi : Int} : inR n lo hi = true ↔ lo ≤ n ∧ n ≤ hi := by simp [inR]
theorem inR_false {n lo hi : Int} : inR n lo hi = false ↔ n < lo ∨ hi < n := by
  rw [Bool.eq_false_iff, Ne, inR_iff]
  omega
/-- The operands and the greatest N of a kind, for terms and for programs. -/
structure Sig where
  ops : Int → Int
  most : Int → Int
def opsT (k : Int) : Int := if k = 1 then 0 else if k = 2 then 0 else if k = 3 then 2 else if k = 4 then 2 else if k = 5 then 2 else if k = 6 then 0 else if k = 7 then 0 else if k = 8 then 1 else if k = 9 then 4 else if k = 10 then 3 else if k = 11 then 1 else if k = 12 then 3 else if k = 13 then 2 else if k = 14 then 3 else if k = 15 then 1 else if k = 16 then 1 else -1
def mostT (k : Int) : Int := if k = 1 then 20 else if k = 2 then 3 else 0
def sigT : Sig := ⟨opsT, mostT⟩
/-- The node by itself is in order. -/
def headOk (g : Sig) (k n : Int) (len : Nat) : Bool := decide (g.ops k = (len : Int)) && inR n 0 (g.most k)
mutual
def shape (g : Sig) : Tr → Int → Bool
  | .mk k n ks, depth => decide (1 ≤ depth) && (headOk g k n ks.length && shapes g ks (depth - 1))
def shapes (g : Sig) : List Tr → Int → Bool
  | [], _ => true
  | t :: ts, depth => shape g t depth && shapes g ts depth
end
def valid (g : Sig) (t : Tr) : Bool := shape g t 30 && decide (cnt t ≤ 400)
mutual
/-- Counting up to a number. -/
def cntM : Tr → Int → Int
  | .mk _ _ ks, most => cntMs ks most 1
def cntMs : List Tr → Int → Int → Int
  | [], _, n => n
  | t :: ts, most, n => if n ≤ most then cntMs ts most (n + cntM t (most - n)) else n
end
mutual
theorem cntM_le : ∀ (t : Tr) (most : Int), 0 ≤ most → 1 ≤ cntM t most ∧ cntM t most ≤ most + 1 ∧ (cntM t most ≤ most ↔ (cnt t : Int) ≤ most) ∧ (cntM t most ≤ most → cntM t most = cnt t)
  | .mk _ _ ks, most, h => by
    have := cntMs_le ks most 1 (by omega) (by omega)
    simp only [cntM, cnt]
    omega
theorem cntMs_le : ∀ (ts : List Tr) (most n : Int), 1 ≤ n → n ≤ most + 1 → n ≤ cntMs ts most n ∧ cntMs ts most n ≤ most + 1 ∧ (cntMs ts most n ≤ most ↔ n + cnts ts ≤ most) ∧ (cntMs ts most n ≤ most → cntMs ts most n = n + cnts ts)
  | [], most, n, h, h' => by simp only [cntMs, cnts]; omega
  | t :: ts, most, n, h, h' => by
    simp only [cntMs, cnts]
    by_cases hn : n ≤ most
    · rw [if_pos hn]
      have h1 := cntM_le t (most - n) (by omega)
      have h2 := cntMs_le ts most (n + cntM t (most - n)) (by omega) (by omega)
      have h3 := cnt_pos t
      omega
    · rw [if_neg hn]
      have h3 := cnt_pos t
      omega
end
theorem valid_iff {g : Sig} {t : Tr} : valid g t = (shape g t 30 && decide (cntM t 400 ≤ 400)) := by
  have := (cntM_le t 400 (by omega)).2.2.1
  unfold valid
  congr 1
  rw [Bool.eq_iff_iff, decide_eq_true_iff, decide_eq_true_iff]
  omega
mutual
/-- The other way of looking: a count that goes up, and stops. -/
def scanR (g : Sig) : Tr → Int → Int → Bool × Int
  | .mk k n ks, deep, c => if 400 < c + 1 then (false, c + 1) else if 30 < deep then (false, c + 1) else if g.ops k = (ks.length : Int) then (if inR n 0 (g.most k) = true then scanRs g ks (deep + 1) (c + 1) else (false, c + 1)) else (false, c + 1)
def scanRs (g : Sig) : List Tr → Int → Int → Bool × Int
  | [], _, c => (true, c)
  | t :: ts, deep, c => if (scanR g t deep c).1 = true then scanRs g ts deep (scanR g t deep c).2 else (false, (scanR g t deep c).2)
end
mutual
theorem scanR_spec (g : Sig) : ∀ (t : Tr) (deep c : Int), 0 ≤ c → c ≤ 400 → (scanR g t deep c).1 = (shape g t (31 - deep) && decide (c + cnt t ≤ 400)) ∧ ((scanR g t deep c).1 = true → (scanR g t deep c).2 = c + cnt t) ∧ c ≤ (scanR g t deep c).2 ∧ (scanR g t deep c).2 ≤ 401 ∧ ((scanR g t deep c).1 = true → (scanR g t deep c).2 ≤ 400)
  | .mk k n ks, deep, c, h, h' => by
    have hc : (cnt (.mk k n ks) : Int) = cnts ks + 1 := by simp [cnt]
    simp only [scanR, shape, headOk]
    by_cases h1 : 400 < c + 1
    · rw [if_pos h1]
      refine ⟨?_, by simp, by simp; omega, by simp; omega, by simp⟩
      symm
      rw [Bool.and_eq_false_iff]
      exact .inr (decide_eq_false (by omega))
    · rw [if_neg h1]
      by_cases h2 : 30 < deep
      · rw [if_pos h2]
        refine ⟨?_, by simp, by simp; omega, by simp; omega, by simp⟩
        symm
        rw [Bool.and_eq_false_iff, Bool.and_eq_false_iff]
        exact .inl (.inl (decide_eq_false (by omega)))
      · rw [if_neg h2]
        by_cases h3 : g.ops k = (ks.length : Int)
        · rw [if_pos h3]
          by_cases h4 : inR n 0 (g.most k) = true
          · rw [if_pos h4]
            obtain ⟨e1, e2, e3, e4, e5⟩ := scanRs_spec g ks (deep + 1) (c + 1) (by omega) (by omega)
            refine ⟨?_, fun hh => by rw [e2 hh]; omega, by omega, e4, e5⟩
            rw [e1, decide_eq_true h3, h4]
            have ed : 31 - (deep + 1) = 31 - deep - 1 := by omega
            have d1 : decide (1 ≤ 31 - deep) = true := decide_eq_true (by omega)
            rw [ed, d1]
            simp only [Bool.true_and]
            congr 1
            exact decide_eq_decide.2 (by omega)
          · rw [if_neg h4]
            refine ⟨?_, by simp, by simp; omega, by simp; omega, by simp⟩
            simp [h4]
        · rw [if_neg h3]
          refine ⟨?_, by simp, by simp; omega, by simp; omega, by simp⟩
          simp [h3]
theorem scanRs_spec (g : Sig) : ∀ (ts : List Tr) (deep c : Int), 0 ≤ c → c ≤ 400 → (scanRs g ts deep c).1 = (shapes g ts (31 - deep) && decide (c + cnts ts ≤ 400)) ∧ ((scanRs g ts deep c).1 = true → (scanRs g ts deep c).2 = c + cnts ts) ∧ c ≤ (scanRs g ts deep c).2 ∧ (scanRs g ts deep c).2 ≤ 401 ∧ ((scanRs g ts deep c).1 = true → (scanRs g ts deep c).2 ≤ 400)
  | [], deep, c, h, h' => by
    have hc : (cnts [] : Int) = 0 := by simp [cnts]
    have hd : decide (c + (cnts [] : Int) ≤ 400) = true := decide_eq_true (by omega)
    simp only [scanRs, shapes]
    refine ⟨by rw [hd]; rfl, by omega, by omega, by omega, by omega⟩
  | t :: ts, deep, c, h, h' => by
    have hc : (cnts (t :: ts) : Int) = cnt t + cnts ts := by simp [cnts]
    simp only [scanRs, shapes]
    obtain ⟨e1, e2, e3, e4, e5⟩ := scanR_spec g t deep c h h'
    by_cases hs : (scanR g t deep c).1 = true
    · rw [if_pos hs]
      have e2' := e2 hs
      have e5' := e5 hs
      obtain ⟨d1, d2, d3, d4, d5⟩ := scanRs_spec g ts deep (scanR g t deep c).2 (by omega) e5'
      refine ⟨?_, fun hh => by rw [d2 hh, e2']; omega, by omega, d4, d5⟩
      rw [d1]
      rw [hs] at e1
      have e1' := e1.symm
      rw [Bool.and_eq_true] at e1'
      rw [e1'.1]
      simp only [Bool.true_and]
      congr 1
      exact decide_eq_decide.2 (by omega)
    · rw [if_neg hs]
      refine ⟨?_, by simp, e3, e4, by simp⟩
      have hf : (scanR g t deep c).1 = false := by simpa using hs
      rw [hf] at e1
      have e1' := e1.symm
      rw [Bool.and_eq_false_iff] at e1'
      symm
      rw [Bool.and_eq_false_iff, Bool.and_eq_false_iff]
      rcases e1' with e1' | e1'
      · exact .inl (.inl e1')
      · have := of_decide_eq_false e1'
        exact .inr (decide_eq_false (by omega))
end
theorem scanR_valid (g : Sig) (t : Tr) : (scanR g t 1 0).1 = valid g t ∧ (valid g t = true → (scanR g t 1 0).2 = cnt t) := by
  obtain ⟨e1, e2, _⟩ := scanR_spec g t 1 0 (by omega) (by omega)
  have h : (scanR g t 1 0).1 = valid g t := by
    rw [e1]
    unfold valid
    have e : (31 : Int) - 1 = 30 := rfl
    rw [e]
    congr 1
    exact decide_eq_decide.2 (by omega)
  exact ⟨h, fun hv => by rw [e2 (h.trans hv)]; omega⟩
end Go.Proofs.Ytappakllopkfiaa
namespace Go.Proofs.Ytappakllopkfiaa
set_option linter.unusedVariables false
/-- A string of these bytes. -/
def ofL (l : List UInt8) : ByteArray := ⟨l.toArray⟩
theorem ofL_append (a b : List UInt8) : ofL a ++ ofL b = ofL (a ++ b) := by
  apply ByteArray.ext
  simp [ofL]
theorem ofL_size (l : List UInt8) : (ofL l).size = l.length := by simp [ofL, ByteArray.size]
theorem ofL_list (l : List UInt8) : (ofL l).data.toList = l := by simp [ofL]
/-- Decimal digits of a number below 100. -/
def decL (n : Int) : List UInt8 := if n ≤ 9 then [UInt8.ofNat (48 + n.toNat)] else [UInt8.ofNat (48 + n.toNat / 10), UInt8.ofNat (48 + n.toNat % 10)]
def opn (k : Int) : List UInt8 :=
  if k = 3 then [40] else if k = 4 then [91] else if k = 5 then [40] else if k = 6 then [78] else if k = 7 then [48] else if k = 8 then [43] else if k = 9 then [60] else if k = 10 then [123] else if k = 11 then [33] else if k = 12 then [64, 60] else if k = 13 then [40] else if k = 14 then [124] else if k = 15 then [94] else if k = 16 then [95] else []
def sep (k : Int) : List UInt8 :=
  if k = 3 then [62] else if k = 4 then [93] else if k = 5 then [32] else if k = 13 then [42] else [44]
def cls (k : Int) : List UInt8 :=
  if k = 3 then [41] else if k = 5 then [41] else if k = 9 then [62] else if k = 10 then [125] else if k = 12 then [62] else if k = 13 then [41] else if k = 14 then [124] else []
mutual
/-- The text of a term. -/
def fmtL : Tr → List UInt8
  | .mk k n ks => if k = 1 then 35 :: decL n else if k = 2 then 42 :: decL n else opn k ++ fmtK (sep k) ks true ++ cls k
/-- The texts of operands, with a sign between them. -/
def fmtK : List UInt8 → List Tr → Bool → List UInt8
  | _, [], _ => []
  | s, t :: ts, f => (if f = true then [] else s) ++ fmtL t ++ fmtK s ts false
end
theorem decL_len (n : Int) : (decL n).length ≤ 2 := by unfold decL; split <;> simp
theorem opn_len (k : Int) : (opn k).length ≤ 2 := by
  unfold opn
  by_cases h3 : k = 3
  · rw [if_pos h3]; decide
  rw [if_neg h3]
  by_cases h4 : k = 4
  · rw [if_pos h4]; decide
  rw [if_neg h4]
  by_cases h5 : k = 5
  · rw [if_pos h5]; decide
  rw [if_neg h5]
  by_cases h6 : k = 6
  · rw [if_pos h6]; decide
  rw [if_neg h6]
  by_cases h7 : k = 7
  · rw [if_pos h7]; decide
  rw [if_neg h7]
  by_cases h8 : k = 8
  · rw [if_pos h8]; decide
  rw [if_neg h8]
  by_cases h9 : k = 9
  · rw [if_pos h9]; decide
  rw [if_neg h9]
  by_cases h10 : k = 10
  · rw [if_pos h10]; decide
  rw [if_neg h10]
  by_cases h11 : k = 11
  · rw [if_pos h11]; decide
  rw [if_neg h11]
  by_cases h12 : k = 12
  · rw [if_pos h12]; decide
  rw [if_neg h12]
  by_cases h13 : k = 13
  · rw [if_pos h13]; decide
  rw [if_neg h13]
  by_cases h14 : k = 14
  · rw [if_pos h14]; decide
  rw [if_neg h14]
  by_cases h15 : k = 15
  · rw [if_pos h15]; decide
  rw [if_neg h15]
  by_cases h16 : k = 16
  · rw [if_pos h16]; decide
  rw [if_neg h16]
  decide
theorem sep_len (k : Int) : (sep k).length = 1 := by
  unfold sep
  by_cases h3 : k = 3
  · rw [if_pos h3]; decide
  rw [if_neg h3]
  by_cases h4 : k = 4
  · rw [if_pos h4]; decide
  rw [if_neg h4]
  by_cases h5 : k = 5
  · rw [if_pos h5]; decide
  rw [if_neg h5]
  by_cases h13 : k = 13
  · rw [if_pos h13]; decide
  rw [if_neg h13]
  decide
theorem cls_len (k : Int) : (cls k).length ≤ 1 := by
  unfold cls
  by_cases h3 : k = 3
  · rw [if_pos h3]; decide
  rw [if_neg h3]
  by_cases h5 : k = 5
  · rw [if_pos h5]; decide
  rw [if_neg h5]
  by_cases h9 : k = 9
  · rw [if_pos h9]; decide
  rw [if_neg h9]
  by_cases h10 : k = 10
  · rw [if_pos h10]; decide
  rw [if_neg h10]
  by_cases h12 : k = 12
  · rw [if_pos h12]; decide
  rw [if_neg h12]
  by_cases h13 : k = 13
  · rw [if_pos h13]; decide
  rw [if_neg h13]
  by_cases h14 : k = 14
  · rw [if_pos h14]; decide
  rw [if_neg h14]
  decide
mutual
theorem fmtL_len : ∀ t : Tr, (fmtL t).length + 1 ≤ 5 * cnt t
  | .mk k n ks => by
    have h1 := decL_len n
    have h2 := opn_len k
    have h3 := cls_len k
    have h4 := fmtK_len (sep k) (by rw [sep_len k]; omega) ks true
    unfold fmtL
    simp only [cnt]
    split
    · simp; omega
    · split
      · simp; omega
      · simp; omega
theorem fmtK_len (s : List UInt8) (hs : s.length ≤ 1) : ∀ (ts : List Tr) (f : Bool), (fmtK s ts f).length ≤ 5 * cnts ts
  | [], _ => by simp [fmtK]
  | t :: ts, f => by
    have h1 := fmtL_len t
    have h2 := fmtK_len s hs ts false
    unfold fmtK
    simp only [cnts]
    cases f <;> simp <;> omega
end
/-- FormatTerm's answer. -/
def fmtV (t : Tr) : List UInt8 := if valid sigT t = true then fmtL t else []
def isDig (c : UInt8) : Bool := decide (48 ≤ c) && decide (c ≤ 57)
/-- One or two decimal digits from an offset on. -/
def numS (l : List UInt8) (a : Nat) (two : Bool) : Option (Int × Nat) :=
  match l[a]? with
  | none => none
  | some c => if isDig c = true then
      (if two = true then
        match l[a + 1]? with
        | none => some ((c.toNat : Int) - 48, a + 1)
        | some d => if isDig d = true then (if c = 48 then none else some (((c.toNat : Int) - 48) * 10 + ((d.toNat : Int) - 48), a + 2)) else some ((c.toNat : Int) - 48, a + 1)
      else some ((c.toNat : Int) - 48, a + 1))
    else none
/-- Some terms, separated by commas, and a closing sign. -/
def ser (p : Nat → Option (Tr × Nat)) (l : List UInt8) (last : UInt8) : Nat → Nat → Option (List Tr × Nat)
  | 0, a => some ([], a)
  | m + 1, a => match p a with
    | none => none
    | some (t, b) => if l[b]? = some (if m = 0 then last else 44) then (ser p l last m (b + 1)).map (fun x => (t :: x.1, x.2)) else none
def one (k : Int) (x : Option (Tr × Nat)) : Option (Tr × Nat) := x.map fun y => (.mk k 0 [y.1], y.2)
def rndK (c : Option UInt8) : Int := if c = some 62 then 3 else if c = some 42 then 13 else if c = some 32 then 5 else 0
/-- Behind a round bracket. -/
def rnd (p : Nat → Option (Tr × Nat)) (l : List UInt8) (a : Nat) : Option (Tr × Nat) :=
  match p a with
  | none => none
  | some (x, b) => if rndK l[b]? = 0 then none else
    match p (b + 1) with
    | none => none
    | some (y, c) => if l[c]? = some 41 then some (.mk (rndK l[b]?) 0 [x, y], c + 1) else none
/-- Behind a square bracket. -/
def sqr (p : Nat → Option (Tr × Nat)) (l : List UInt8) (a : Nat) : Option (Tr × Nat) :=
  match p a with
  | none => none
  | some (x, b) => if l[b]? = some 93 then (match p (b + 1) with | none => none | some (y, c) => some (.mk 4 0 [x, y], c)) else none
def blkK (c : UInt8) : Int := if c = 60 then 9 else if c = 123 then 10 else if c = 124 then 14 else if c = 64 then 12 else 0
def blkE (c : UInt8) : UInt8 := if c = 123 then 125 else if c = 124 then 124 else 62
/-- Three or four operands. -/
def blk (p : Nat → Option (Tr × Nat)) (l : List UInt8) (a : Nat) (c : UInt8) : Option (Tr × Nat) :=
  if blkK c = 0 then none
  else if c = 64 then (if l[a + 1]? = some 60 then (ser p l 62 3 (a + 2)).map (fun x => (.mk 12 0 x.1, x.2)) else none)
  else (ser p l (blkE c) (if c = 60 then 4 else 3) (a + 1)).map (fun x => (.mk (blkK c) 0 x.1, x.2))
/-- The term at an offset, and the offset behind it. -/
def prs : Nat → List UInt8 → Nat → Option (Tr × Nat)
  | 0, _, _ => none
  | d + 1, l, a =>
    match l[a]? with
    | none => none
    | some c =>
      if c = 35 then (numS l (a + 1) true).map (fun x => (.mk 1 x.1 [], x.2))
      else if c = 42 then (numS l (a + 1) false).map (fun x => (.mk 2 x.1 [], x.2))
      else if c = 78 then some (.mk 6 0 [], a + 1)
      else if c = 48 then some (.mk 7 0 [], a + 1)
      else if c = 43 then one 8 (prs d l (a + 1))
      else if c = 33 then one 11 (prs d l (a + 1))
      else if c = 94 then one 15 (prs d l (a + 1))
      else if c = 95 then one 16 (prs d l (a + 1))
      else if c = 40 then rnd (prs d l) l (a + 1)
      else if c = 91 then sqr (prs d l) l (a + 1)
      else blk (prs d l) l a c
/-- ParseTerm's answer. -/
def prsV (l : List UInt8) : Option Tr :=
  match prs 30 l 0 with
  | none => none
  | some (t, b) => if l ≠ [] ∧ b = l.length ∧ fmtV t = l then some t else none
theorem prsV_valid {l : List UInt8} {t : Tr} (h : prsV l = some t) : valid sigT t = true ∧ fmtL t = l := by
  unfold prsV at h
  split at h
  · cases h
  · rename_i t' b _
    split at h
    · rename_i hh
      cases h
      obtain ⟨h1, h2, h3⟩ := hh
      unfold fmtV at h3
      split at h3
      · rename_i hv
        exact ⟨hv, h3⟩
      · exact absurd h3.symm h1
    · cases h
end Go.Proofs.Ytappakllopkfiaa

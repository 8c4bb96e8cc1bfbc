/-
  Lemmas towards the law, 10: Lift, Mem.
-/
import Derived.Test.YtdkamgafpphdjaaEAH
import Derived.Carry
import Derived.Deep.Slices
import Derived.Deep.Strs
import Derived.Laws.MakeOwn
import Derived.Laws.OwnMore
import Derived.OpenShut
namespace Go.Proofs.Ytdkamgafpphdjaa
open Go.RowKit Go.ChangeShapes Go.WideShapes Go.ChangeAt Go.Deep
set_option linter.unusedVariables false

section
variable {H : Type} {enc : TypeId × Value → H} {P : Program}

theorem trodAll_stays (hl : laidOutB P = true) {W W' : World} (hb : Ext W W') : ∀ {ts : List TypeId} {vs : List Value} {ds : List (DataW H)} {ps : List MemPlace},
    (ts.all fun t => P.readableRec t && decide (t < P.types.size)) = true → DataW.TrodAll enc P W 0 (fun _ => true) true ts vs ds ps → (∀ x ∈ ps, x.block < W.heap.size) →
    DataW.TrodAll enc P W' 0 (fun b => decide (b < W.heap.size)) true ts vs ds ps
  | [], vs, ds, ps, _, h, _ => by
    obtain ⟨rfl, rfl, rfl⟩ := trodAll_nil h
    exact trodAll_mk0
  | t :: ts, vs, ds, ps, hr, h, hlt => by
    obtain ⟨v, vs', d, ds', p, q, rfl, rfl, rfl, h0, r⟩ := trodAll_cons h
    simp only [List.all_cons, Bool.and_eq_true, decide_eq_true_eq] at hr
    exact trodAll_cons_mk (Below.trod hl hr.1.1 hr.1.2 h0 hb (fun x hx => hlt x (List.mem_append_left _ hx))) (trodAll_stays hl hb (by simpa using hr.2) r (fun x hx => hlt x (List.mem_append_right _ hx)))

/-- A law that answers true and leaves all that was there as1 it was. -/
theorem law_lift {C : Checked} {os : Os} {f : FuncId} {fn : Func} {s : ChangeSpec} {tb : TypeId} (own : ownKnob C.prog.godebug = none) (started : os.Started) (noInit : C.prog.inits.idxOf? f = none) (hfn : C.prog.funcs[f]? = some fn)
    (hl : laidOutB C.prog = true) (hread : (fn.params.toList.all fun t => C.prog.readableRec t && decide (t < C.prog.types.size)) = true) (hres : fn.resultTypes = #[tb]) (hbool : C.prog.underlying tb = some .bool)
    (hvars : s.vars = []) (hspec : ∀ ds : List (DataW H), ds.length = fn.params.size → (s.fn H ds).results = [.lit (.bool true)] ∧ (s.fn H ds).args = ds ∧ (s.fn H ds).vars = [])
    (witness : ∃ (w : World) (tape : Tape) (i : Input), w.os = os ∧ (w.forCall tape i).Shaped C.prog ∧ i.vars = [] ∧ Input.okWide C.prog (w.forCall tape i) .any w.heap.size f i ∧
      s.pre6 enc C.prog fn [] false (w.forCall tape i).memory i.args ∧ ({} : Assume).holds C.prog (lone (Frame.enter C.prog f i.args .normal) [] (w.forCall tape i)))
    (walk : ∀ (W : World) (base : Nat) (args : Array Value) (ds : List (DataW H)) (p : List MemPlace),
      (∀ (j : Nat) t v, fn.params[j]? = some t → args[j]? = some v → Value.okWide C.prog W .any base t v) → DataW.TrodAll enc C.prog W 0 (fun _ => true) true fn.params.toList args.toList ds p →
      (∀ x ∈ p, x.block < W.heap.size) → Calls C.prog f args W fun e W' => e = .returned (.bool true) ∧ Ext W W') :
    ReturnsInHanded {} C os f .any (s.pre6 enc C.prog fn [] false) (s.post enc C.prog fn false true false false) := by
  refine returnsInHanded_of_change own started noInit hfn witness ?_
  intro W base args ds gs before hval hW _ _
  have hlt : ∀ x ∈ before, x.block < W.heap.size := fun x hx => hW.lt x hx
  have hW' := hW
  obtain ⟨p, q, hA, hV, rfl, hfz, hnd⟩ := hW
  rw [hvars] at hV
  obtain ⟨rfl, rfl⟩ := trodVars_none hV
  simp only [List.append_nil] at hlt hW'
  refine (walk W base args ds p hval hA hlt).mono ?_
  rintro e W' ⟨rfl, hE⟩
  have hlen : ds.length = fn.params.size := by
    have h1 : ∀ {ts : List TypeId} {vs : List Value} {es : List (DataW H)} {ps : List MemPlace}, DataW.TrodAll enc C.prog W 0 (fun _ => true) true ts vs es ps → es.length = ts.length := by
      intro ts
      induction ts with
      | nil => intro vs es ps h; obtain ⟨_, rfl, _⟩ := trodAll_nil h; rfl
      | cons t ts ih => intro vs es ps h; obtain ⟨v, vs', d, ds', p, q, rfl, rfl, rfl, h0, r⟩ := trodAll_cons h; simp [ih r]
    rw [h1 hA, Array.length_toList]
  obtain ⟨e1, e2, e3⟩ := hspec ds hlen
  refine ⟨_, rfl, ds, [], p, [], p, [], by simpa using hW', ?_, ?_, ?_, Below.frame hE _ |> World.keptBut_mono (fun x hx => ⟨hx, .inr (.inl hx)⟩), fun h => by cases h⟩
  · rw [List.append_nil, e1, hres]
    exact trodAll_mk1 (shut_bool hbool _)
  · rw [List.append_nil, e2]
    exact trodAll_stays hl hE hread hA hlt
  · rw [List.append_nil, e3, hvars]
    exact rfl
end

/-! ### A tree that came in -/
section
variable {H : Type} {enc : TypeId × Value → H} {P : Program} {w : World} {spare : Nat → Bool} {held : Bool}

/-- The types of a tree: the struct, its slice, int. -/
structure TreeTy (P : Program) (t s i : TypeId) (f0 f1 f2 : Field) : Prop where
  ht : P.underlying t = some (.struct #[f0, f1, f2])
  hs : P.underlying s = some (.slice t)
  hi : P.underlying i = some (.int .i64)
  t0 : f0.type = i
  t1 : f1.type = i
  t2 : f2.type = s
  o0 : f0.offset = 0
  o1 : f1.offset = 1
  o2 : f2.offset = 2
  ci : P.cellsOf i = 1
  cs : P.cellsOf s = 1
  ct : P.cellsOf t = 3

abbrev fld (n : String) (t : TypeId) (o : Nat) (b : Nat) : Field := { name := n, type := t, offset := o, embedded := false, tag := "", pkgPath := "", byteOffset := b }

theorem choose_list {α : Type} {p : Nat → α → Prop} : ∀ n : Nat, (∀ i, i < n → ∃ x, p i x) → ∃ l : List α, l.length = n ∧ ∀ i (h : i < l.length), p i l[i]
  | 0, _ => ⟨[], rfl, fun i h => absurd h (by simp)⟩
  | n + 1, h => by
    obtain ⟨l, hl, hp⟩ := choose_list n (fun i hi => h i (by omega))
    obtain ⟨x, hx⟩ := h n (by omega)
    refine ⟨l ++ [x], by simp [hl], fun i hi => ?_⟩
    by_cases hin : i < l.length
    · rw [List.getElem_append_left hin]; exact hp i hin
    · have : i = n := by simp at hi; omega
      subst this
      rw [List.getElem_append_right (by omega)]
      simpa [hl] using hx

theorem InL.build {S : Nat → Prop} {b : Nat} : ∀ {ks : List Tr} {o : Nat}, (∀ j (h : j < ks.length), ∃ v0 v1 v2, w.cell? ⟨b, o + j * 3, none⟩ = some v0 ∧ w.cell? ⟨b, o + j * 3 + 1, none⟩ = some v1 ∧ w.cell? ⟨b, o + j * 3 + 2, none⟩ = some v2 ∧ InT w S ks[j] (.agg #[v0, v1, v2])) → InL w S b o ks
  | [], _, _ => by unfold InL; trivial
  | t :: ts, o, h => by
    unfold InL
    refine ⟨by have h0 := h 0 (by simp); simp only [List.getElem_cons_zero, Nat.zero_mul, Nat.add_zero] at h0; exact h0, InL.build fun j hj => ?_⟩
    have := h (j + 1) (by simpa using hj)
    have ea : o + (j + 1) * 3 = o + 3 + j * 3 := by omega
    rw [ea] at this
    simpa using this

theorem add_plain' (b o n : Nat) : (⟨b, o, none⟩ : Addr).add n = ⟨b, o + n, none⟩ := by
  unfold Addr.add
  split <;> simp_all

/-- A slice of trees as1 it reads, its trees by the hypothesis. -/
theorem open_row_of {t s i : TypeId} {f0 f1 f2 : Field} (T : TreeTy P t s i f0 f1 f2) (fuel : Nat)
    (ih : ∀ m, m < fuel → ∀ (cs : List Value) (x : DataW H × List MemPlace), DataW.trod enc P w 0 spare held m t cs = some x → ∃ (tr : Tr) (v0 v1 v2 : Value), cs = [v0, v1, v2] ∧ Lies w tr (.agg #[v0, v1, v2]))
    (cs : List Value) (x : DataW H × List MemPlace) (h : DataW.trod enc P w 0 spare held fuel s cs = some x) :
    ∃ (A : Option Addr) (cap : Nat) (ks : List Tr), cs = [.slice A ks.length cap] ∧ ks.length ≤ cap ∧ cap ≤ maxLen ∧ LiesK w A ks := by
  rcases DataW.trod_slice T.hs h with ⟨rfl, _⟩ | ⟨a, len, cap, elems, rest, n, rfl, rfl, _, _, hl, hm, hlen, hel, _, _⟩
  · exact ⟨none, 0, [], rfl, Nat.le_refl _, Nat.zero_le _, .inl rfl⟩
  · have hel' : ∀ j, j < len → ∃ tr : Tr, ∃ v0 v1 v2, w.cell? (a.add (j * 3)) = some v0 ∧ w.cell? ((a.add (j * 3)).add 1) = some v1 ∧ w.cell? ((a.add (j * 3)).add 2) = some v2 ∧ Lies w tr (.agg #[v0, v1, v2]) := by
      intro j hj
      have hj' := hel j hj
      rw [List.getElem?_eq_getElem (by omega)] at hj'
      obtain ⟨cs', h1, h2⟩ := Option.bind_eq_some_iff.1 hj'
      obtain ⟨tr, v0, v1, v2, rfl, hL⟩ := ih n (by omega) _ _ h2
      obtain ⟨_, _, hcell⟩ := World.cells?_some h1
      rw [T.ct] at hcell
      have q0 := hcell 0 (by omega)
      have q1 := hcell 1 (by omega)
      have q2 := hcell 2 (by omega)
      have e0 : ∀ y : Addr, y.add 0 = y := fun y => by simp [Addr.add]
      rw [e0] at q0
      exact ⟨tr, v0, v1, v2, q0, q1, q2, hL⟩
    obtain ⟨ks, hks, hp⟩ := choose_list len hel'
    subst hks
    refine ⟨some a, cap, ks, rfl, hl, hm, ?_⟩
    cases ks with
    | nil => exact .inl rfl
    | cons t0 ts =>
      obtain ⟨b, o, spot⟩ := a
      have hlt : b < w.heap.size ∧ spot = none := by
        obtain ⟨v0, v1, v2, q0, _⟩ := hp 0 (by simp)
        simp only [Nat.zero_mul] at q0
        have e0 : (⟨b, o, spot⟩ : Addr).add 0 = ⟨b, o, spot⟩ := by simp [Addr.add]
        rw [e0] at q0
        exact ⟨World.block_lt_of_cell? _ _ q0, by simpa using World.cell?_spot q0⟩
      obtain ⟨hlt, rfl⟩ := hlt
      refine .inr ⟨b, o, rfl, hlt, InL.build fun j hj => ?_⟩
      obtain ⟨v0, v1, v2, q0, q1, q2, hL⟩ := hp j hj
      rw [add_plain'] at q0 q1 q2
      rw [add_plain'] at q1 q2
      exact ⟨v0, v1, v2, q0, q1, q2, hL⟩

theorem open_tree_cells {t s i : TypeId} {f0 f1 f2 : Field} (T : TreeTy P t s i f0 f1 f2) : ∀ (fuel : Nat) (cs : List Value) (x : DataW H × List MemPlace), DataW.trod enc P w 0 spare held fuel t cs = some x →
    ∃ (tr : Tr) (v0 v1 v2 : Value), cs = [v0, v1, v2] ∧ Lies w tr (.agg #[v0, v1, v2]) := by
  intro fuel
  induction fuel using Nat.strongRecOn with
  | _ fuel ih =>
    intro cs x h
    obtain ⟨xs, n, rfl, _, hcl, hlen, hg⟩ := DataW.trod_struct T.ht h
    rw [T.ct] at hcl
    match cs, hcl, xs, hlen with
    | [v0, v1, v2], _, [y0, y1, y2], _ =>
      have g0 := hg 0 f0 rfl
      have g1 := hg 1 f1 rfl
      have g2 := hg 2 f2 rfl
      simp [T.o0, T.o1, T.o2, T.t0, T.t1, T.t2, T.ci, T.cs] at g0 g1 g2
      obtain ⟨k, hk, _, _⟩ := DataW.trod_int T.hi g0
      obtain ⟨m, hm, _, _⟩ := DataW.trod_int T.hi g1
      simp at hk hm
      obtain ⟨A, cap, ks, he, hl, hc, hK⟩ := open_row_of T n (fun m hm => ih m (by omega)) _ _ g2
      simp at he
      subst hk
      subst hm
      subst he
      exact ⟨.mk k m ks, _, _, _, rfl, Lies.mk hl hc hK⟩

/-- An argument that is a tree. -/
theorem open_tree {t s i : TypeId} {f0 f1 f2 : Field} (T : TreeTy P t s i f0 f1 f2) {r : Reach} {b0 : Nat} {v : Value} {d : DataW H} {p : List MemPlace} (hv : Value.okWide P w r b0 t v) (h : DataW.Trod enc P w 0 spare held t v d p) : ∃ tr : Tr, Lies w tr v := by
  obtain ⟨cs, rfl, hsz⟩ := okWide_struct T.ht hv
  obtain ⟨fuel, hf⟩ := h
  obtain ⟨tr, v0, v1, v2, hc, hL⟩ := open_tree_cells T fuel _ _ hf
  obtain ⟨l⟩ := cs
  simp only [Value.cells] at hc
  subst hc
  exact ⟨tr, hL⟩

/-- An argument that is a slice of trees. -/
theorem open_trees {t s i : TypeId} {f0 f1 f2 : Field} (T : TreeTy P t s i f0 f1 f2) {r : Reach} {b0 : Nat} {v : Value} {d : DataW H} {p : List MemPlace} (hv : Value.okWide P w r b0 s v) (h : DataW.Trod enc P w 0 spare held s v d p) :
    ∃ (A : Option Addr) (cap : Nat) (ks : List Tr), v = .slice A ks.length cap ∧ ks.length ≤ cap ∧ cap ≤ maxLen ∧ LiesK w A ks := by
  obtain ⟨a0, len, cap, rfl⟩ := okWide_slice T.hs hv
  obtain ⟨fuel, hf⟩ := h
  obtain ⟨A, cap', ks, he, r⟩ := open_row_of T fuel (fun m _ => open_tree_cells T m) _ _ hf
  simp only [Value.cells, List.cons.injEq, and_true] at he
  exact ⟨A, cap', ks, he, r⟩
end
end Go.Proofs.Ytdkamgafpphdjaa

namespace Go.Proofs.Ytdkamgafpphdjaa
open Go.RowKit
set_option linter.unusedVariables false
theorem cells3 {w : World} {g i : Nat} {cs : Array Value} {e : TypeId} (hb : w.heap[g]? = some (.cells cs e (0, 0))) (h : i + 3 ≤ cs.size) :
    ∃ x0 x1 x2, w.cell? ⟨g, i, none⟩ = some x0 ∧ w.cell? ⟨g, i + 1, none⟩ = some x1 ∧ w.cell? ⟨g, i + 2, none⟩ = some x2 ∧ w.frozen? ⟨g, i, none⟩ = false ∧ w.frozen? ⟨g, i + 1, none⟩ = false ∧ w.frozen? ⟨g, i + 2, none⟩ = false := by
  refine ⟨cs[i]'(by omega), cs[i + 1]'(by omega), cs[i + 2]'(by omega), ?_, ?_, ?_, frozen_of_blk hb _, frozen_of_blk hb _, frozen_of_blk hb _⟩
  · rw [cell_of_blk hb]; exact Array.getElem?_eq_getElem _
  · rw [cell_of_blk hb]; exact Array.getElem?_eq_getElem _
  · rw [cell_of_blk hb]; exact Array.getElem?_eq_getElem _
theorem blk1 {w w1 : World} {a : Obj} (h : Ext (w.alloc a) w1) : w1.heap[w.heap.size]? = some a ∧ w.heap.size < w1.heap.size := ⟨h.newBlk, h.size_alloc⟩
theorem blk2 {w w1 : World} {a b : Obj} (h : Ext ((w.alloc a).alloc b) w1) : w1.heap[w.heap.size]? = some a ∧ w1.heap[w.heap.size + 1]? = some b ∧ w.heap.size + 1 < w1.heap.size := by
  have h1 := h.newBlk
  have h2 := h.size_alloc
  simp only [World.size_alloc] at h1 h2
  exact ⟨(blk1 h.pre).1, h1, h2⟩
theorem blk3 {w w1 : World} {a b c : Obj} (h : Ext (((w.alloc a).alloc b).alloc c) w1) : w1.heap[w.heap.size]? = some a ∧ w1.heap[w.heap.size + 1]? = some b ∧ w1.heap[w.heap.size + 1 + 1]? = some c ∧ w.heap.size + 1 + 1 < w1.heap.size := by
  have h1 := h.newBlk
  have h2 := h.size_alloc
  simp only [World.size_alloc] at h1 h2
  exact ⟨(blk2 h.pre).1, (blk2 h.pre).2.1, h1, h2⟩
theorem blk4 {w w1 : World} {a b c d : Obj} (h : Ext ((((w.alloc a).alloc b).alloc c).alloc d) w1) : w1.heap[w.heap.size]? = some a ∧ w1.heap[w.heap.size + 1]? = some b ∧ w1.heap[w.heap.size + 1 + 1]? = some c ∧ w1.heap[w.heap.size + 1 + 1 + 1]? = some d ∧ w.heap.size + 1 + 1 + 1 < w1.heap.size := by
  have h1 := h.newBlk
  have h2 := h.size_alloc
  simp only [World.size_alloc] at h1 h2
  exact ⟨(blk3 h.pre).1, (blk3 h.pre).2.1, (blk3 h.pre).2.2.1, h1, h2⟩
/-- The three cells of a struct of the call's own. -/
theorem own3 {w : World} {g : Nat} {x0 x1 x2 : Value} {e : TypeId} (hb : w.heap[g]? = some (.cells #[x0, x1, x2] e (0, 0))) :
    w.cell? ⟨g, 0, none⟩ = some x0 ∧ w.cell? ⟨g, 1, none⟩ = some x1 ∧ w.cell? ⟨g, 2, none⟩ = some x2 ∧ w.frozen? ⟨g, 0, none⟩ = false ∧ w.frozen? ⟨g, 1, none⟩ = false ∧ w.frozen? ⟨g, 2, none⟩ = false :=
  ⟨cell_of_blk hb 0, cell_of_blk hb 1, cell_of_blk hb 2, frozen_of_blk hb 0, frozen_of_blk hb 1, frozen_of_blk hb 2⟩
/-- From block number B on the world w' is as1 w. -/
def Above (B : Nat) (w w' : World) : Prop := (∀ b, B ≤ b → w'.heap[b]? = w.heap[b]?) ∧ w.heap.size ≤ w'.heap.size
theorem Above.refl (B : Nat) (w : World) : Above B w w := ⟨fun _ _ => rfl, Nat.le_refl _⟩
theorem Above.setCell {B : Nat} {a w : World} (h : Above B a w) {p : Addr} (hp : p.block < B) (u : Value) : Above B a (w.setCell p u) :=
  ⟨fun b hb => (Below.heap_setCell w p u b (by omega)).trans (h.1 b hb), by simpa using h.2⟩
theorem MadeK.after {W w1 w3 : World} {e : TypeId} {A : Option Addr} {ks : List Tr} (h : MadeK W w1 e A ks) (ha : Above W.heap.size w1 w3) : MadeK W w3 e A ks := by
  obtain ⟨L, h, hf⟩ := h
  exact ⟨L, h.mono fun b hb => ha.1 b (hf.2 b hb).1, hf.mono (Nat.le_refl _) ha.2⟩
theorem Made.after {W w1 w3 : World} {e : TypeId} {t : Tr} {v : Value} (h : Made W w1 e t v) (ha : Above W.heap.size w1 w3) : Made W w3 e t v := by
  obtain ⟨L, h, hf⟩ := h
  exact ⟨L, h.mono fun b hb => ha.1 b (hf.2 b hb).1, hf.mono (Nat.le_refl _) ha.2⟩
theorem OwnL.split {w : World} {e : TypeId} {t : Tr} {bs : List Tr} : ∀ {as1 : List Tr} {xs : List Value} {L : List Nat}, OwnL w e xs (as1 ++ t :: bs) L →
    ∃ pre v0 v1 v2 post La Lt Lb, xs = pre ++ v0 :: v1 :: v2 :: post ∧ pre.length = as1.length * 3 ∧ OwnL w e pre as1 La ∧ OwnT w e t (.agg #[v0, v1, v2]) Lt ∧ OwnL w e post bs Lb ∧ L = La ++ (Lt ++ Lb)
  | [], xs, L, h => by
    obtain ⟨v0, v1, v2, rest, L1, L2, rfl, h1, h2, rfl⟩ := OwnL.cons_iff.1 h
    exact ⟨[], v0, v1, v2, rest, [], L1, L2, rfl, rfl, OwnL.nil, h1, h2, rfl⟩
  | a :: as1, xs, L, h => by
    obtain ⟨u0, u1, u2, rest, L1, L2, rfl, h1, h2, rfl⟩ := OwnL.cons_iff.1 h
    obtain ⟨pre, v0, v1, v2, post, La, Lt, Lb, rfl, hp, ha, ht, hb, rfl⟩ := OwnL.split (as1 := as1) h2
    exact ⟨u0 :: u1 :: u2 :: pre, v0, v1, v2, post, L1 ++ La, Lt, Lb, rfl, by simp [hp]; omega, OwnL.cons_iff.2 ⟨u0, u1, u2, pre, L1, La, rfl, h1, ha, rfl⟩, ht, hb, by simp⟩
mutual
theorem OwnT.lt {w : World} {e : TypeId} : ∀ {t : Tr} {v : Value} {L : List Nat}, OwnT w e t v L → ∀ b, b ∈ L → b < w.heap.size
  | .mk k n ks, v, L, h, b, hb => by
    obtain ⟨A, cap, _, _, _, h3⟩ := OwnT.mk_iff.1 h
    rcases h3 with ⟨_, rfl⟩ | ⟨g, cs, L', _, hg, rfl, hl⟩
    · cases hb
    · rcases List.mem_cons.1 hb with rfl | hb
      · exact lt_of_blk hg
      · exact OwnL.lt hl b hb
theorem OwnL.lt {w : World} {e : TypeId} : ∀ {xs : List Value} {ks : List Tr} {L : List Nat}, OwnL w e xs ks L → ∀ b, b ∈ L → b < w.heap.size
  | _, [], L, h, b, hb => by
    unfold OwnL at h
    subst h
    cases hb
  | xs, t :: ts, L, h, b, hb => by
    obtain ⟨u0, u1, u2, rest, L1, L2, rfl, h1, h2, rfl⟩ := OwnL.cons_iff.1 h
    rcases List.mem_append.1 hb with hb | hb
    · exact OwnT.lt h1 b hb
    · exact OwnL.lt h2 b hb
end
/-- Only the blocks of L have turned. -/
structure Only (L : List Nat) (w w' : World) : Prop where
  os : w'.os = w.os
  tape : w'.tape = w.tape
  output : w'.output = w.output
  size : w.heap.size ≤ w'.heap.size
  block : ∀ b, b < w.heap.size → ¬ b ∈ L → w'.heap[b]? = w.heap[b]?
theorem Only.refl (L : List Nat) (w : World) : Only L w w := ⟨rfl, rfl, rfl, Nat.le_refl _, fun _ _ _ => rfl⟩
theorem Only.trans {L : List Nat} {a b c : World} (h : Only L a b) (k : Only L b c) : Only L a c :=
  ⟨k.os.trans h.os, k.tape.trans h.tape, k.output.trans h.output, Nat.le_trans h.size k.size, fun i hi hn => (k.block i (Nat.lt_of_lt_of_le hi h.size) hn).trans (h.block i hi hn)⟩
theorem Only.mono {L M : List Nat} {a b : World} (h : Only L a b) (hs : ∀ x, x ∈ L → x ∈ M) : Only M a b := ⟨h.os, h.tape, h.output, h.size, fun i hi hn => h.block i hi (fun hm => hn (hs i hm))⟩
theorem Only.setCell {L : List Nat} {a w : World} (h : Only L a w) {p : Addr} (hp : p.block ∈ L) (u : Value) : Only L a (w.setCell p u) :=
  ⟨h.os, h.tape, h.output, by simpa using h.size, fun i hi hn => (Below.heap_setCell w p u i (fun e => hn (e ▸ hp))).trans (h.block i hi hn)⟩
theorem Only.of_ext {L : List Nat} {a b : World} (h : Ext a b) : Only L a b := ⟨h.os, h.tape, h.output, h.size, fun i hi _ => h.heap i hi⟩
theorem Only.alloc {L : List Nat} {a b : World} (h : Only L a b) (o : Obj) : Only L a (b.alloc o) := h.trans (Only.of_ext ((Ext.refl b).alloc o))
/-- What was made behind a world stands outside of what that world knew. -/
theorem Only.ext {L : List Nat} {a w w' : World} (h : Only L w w') (he : Ext a w) (hL : ∀ b, b ∈ L → a.heap.size ≤ b) : Ext a w' :=
  ⟨h.os.trans he.os, h.tape.trans he.tape, h.output.trans he.output, Nat.le_trans he.size h.size, fun i hi => (h.block i (Nat.lt_of_lt_of_le hi he.size) (fun hm => absurd (hL i hm) (by omega))).trans (he.heap i hi)⟩
end Go.Proofs.Ytdkamgafpphdjaa

/-
  Lemmas towards the law, 3: Mem, Later.
-/
import Derived.Test.YtghmpdnlkldigaaGreatDoorFAA
import Derived.BigQuiet
import Derived.Laws.MakeOwn
import Derived.Laws.OwnMore
namespace Go.Proofs.YtghmpdnlkldigaaGreatDoor
open Go.RowKit
set_option linter.unusedVariables false
theorem blk1 {w w1 : World} {a : Obj} (h : Ext (w.alloc a) w1) : w1.heap[w.heap.size]? = some a ∧ w.heap.size < w1.heap.size := ⟨h.newBlk, h.size_alloc⟩
theorem blk2 {w w1 : World} {a b : Obj} (h : Ext ((w.alloc a).alloc b) w1) : w1.heap[w.heap.size]? = some a ∧ w1.heap[w.heap.size + 1]? = some b ∧ w.heap.size + 1 < w1.heap.size := by
  have h1 := h.newBlk
  have h2 := h.size_alloc
  simp only [World.size_alloc] at h1 h2
  exact ⟨(blk1 h.pre).1, h1, h2⟩
/-- The three cells of a struct of the call's own. -/
theorem own3 {w : World} {g : Nat} {x0 x1 x2 : Value} {e : TypeId} (hb : w.heap[g]? = some (.cells #[x0, x1, x2] e (0, 0))) :
    w.cell? ⟨g, 0, none⟩ = some x0 ∧ w.cell? ⟨g, 1, none⟩ = some x1 ∧ w.cell? ⟨g, 2, none⟩ = some x2 ∧ w.frozen? ⟨g, 0, none⟩ = false ∧ w.frozen? ⟨g, 1, none⟩ = false ∧ w.frozen? ⟨g, 2, none⟩ = false :=
  ⟨cell_of_blk hb 0, cell_of_blk hb 1, cell_of_blk hb 2, frozen_of_blk hb 0, frozen_of_blk hb 1, frozen_of_blk hb 2⟩
/-- From block number B on the world w' is as1 w. -/
def Above (B : Nat) (w w' : World) : Prop := (∀ b, B ≤ b → w'.heap[b]? = w.heap[b]?) ∧ w.heap.size ≤ w'.heap.size
theorem Above.refl (B : Nat) (w : World) : Above B w w := ⟨fun _ _ => rfl, Nat.le_refl _⟩
theorem Above.setCell {B : Nat} {a w : World} (h : Above B a w) {p : Addr} (hp : p.block < B) (u : Value) : Above B a (w.setCell p u) :=
  ⟨fun b hb => (Below.heap_setCell w p u b (by omega)).trans (h.1 b hb), by simpa using h.2⟩
theorem Above.drew {B : Nat} {a w : World} (h : Above B a w) : Above B a w.drew := h
theorem MadeK.after {W w1 w3 : World} {e : TypeId} {A : Option Addr} {ks : List Tr} (h : MadeK W w1 e A ks) (ha : Above W.heap.size w1 w3) : MadeK W w3 e A ks := by
  obtain ⟨L, h, hf⟩ := h
  exact ⟨L, h.mono fun b hb => ha.1 b (hf.2 b hb).1, hf.mono (Nat.le_refl _) ha.2⟩
theorem Made.after {W w1 w3 : World} {e : TypeId} {t : Tr} {v : Value} (h : Made W w1 e t v) (ha : Above W.heap.size w1 w3) : Made W w3 e t v := by
  obtain ⟨L, h, hf⟩ := h
  exact ⟨L, h.mono fun b hb => ha.1 b (hf.2 b hb).1, hf.mono (Nat.le_refl _) ha.2⟩
theorem OwnL.split {w : World} {e : TypeId} {t : Tr} {bs : List Tr} : ∀ {as1 : List Tr} {xs : List Value} {L : List Nat}, OwnL w e xs (as1 ++ t :: bs) L →
    ∃ pre v0 v1 v2 post La Lt Lb, xs = pre ++ v0 :: v1 :: v2 :: post ∧ pre.length = as1.length * 3 ∧ OwnL w e pre as1 La ∧ OwnT w e t (.agg #[v0, v1, v2]) Lt ∧ OwnL w e post bs Lb ∧ L = La ++ (Lt ++ Lb)
  | [], xs, L, h => by
    obtain ⟨v0, v1, v2, rest, L1, L2, rfl, h1, h2, rfl⟩ := OwnL.cons_iff.1 h
    exact ⟨[], v0, v1, v2, rest, [], L1, L2, rfl, rfl, OwnL.nil, h1, h2, rfl⟩
  | a :: as1, xs, L, h => by
    obtain ⟨u0, u1, u2, rest, L1, L2, rfl, h1, h2, rfl⟩ := OwnL.cons_iff.1 h
    obtain ⟨pre, v0, v1, v2, post, La, Lt, Lb, rfl, hp, ha, ht, hb, rfl⟩ := OwnL.split (as1 := as1) h2
    exact ⟨u0 :: u1 :: u2 :: pre, v0, v1, v2, post, L1 ++ La, Lt, Lb, rfl, by simp [hp]; omega, OwnL.cons_iff.2 ⟨u0, u1, u2, pre, L1, La, rfl, h1, ha, rfl⟩, ht, hb, by simp⟩
theorem OwnL.join {w : World} {e : TypeId} {t : Tr} {bs : List Tr} {v0 v1 v2 : Value} {post : List Value} {Lt Lb : List Nat} (ht : OwnT w e t (.agg #[v0, v1, v2]) Lt) (hb : OwnL w e post bs Lb) : ∀ {as1 : List Tr} {pre : List Value} {La : List Nat}, pre.length = as1.length * 3 → OwnL w e pre as1 La → OwnL w e (pre ++ v0 :: v1 :: v2 :: post) (as1 ++ t :: bs) (La ++ (Lt ++ Lb))
  | [], pre, La, hp, ha => by
    have hp0 : pre = [] := List.eq_nil_of_length_eq_zero (by simpa using hp)
    subst hp0
    unfold OwnL at ha
    subst ha
    exact OwnL.cons_iff.2 ⟨v0, v1, v2, post, Lt, Lb, rfl, ht, hb, rfl⟩
  | a :: as1, pre, La, hp, ha => by
    obtain ⟨u0, u1, u2, rest, L1, L2, rfl, h1, h2, rfl⟩ := OwnL.cons_iff.1 ha
    exact OwnL.cons_iff.2 ⟨u0, u1, u2, _, L1, L2 ++ (Lt ++ Lb), rfl, h1, OwnL.join ht hb (by simp only [List.length_cons] at hp; omega) h2, by simp⟩
mutual
theorem OwnT.lt {w : World} {e : TypeId} : ∀ {t : Tr} {v : Value} {L : List Nat}, OwnT w e t v L → ∀ b, b ∈ L → b < w.heap.size
  | .mk k n ks, v, L, h, b, hb => by
    obtain ⟨A, cap, _, _, _, h3⟩ := OwnT.mk_iff.1 h
    rcases h3 with ⟨_, rfl⟩ | ⟨g, cs, L', _, hg, rfl, hl⟩
    · cases hb
    · rcases List.mem_cons.1 hb with rfl | hb
      · exact lt_of_blk hg
      · exact OwnL.lt hl b hb
theorem OwnL.lt {w : World} {e : TypeId} : ∀ {xs : List Value} {ks : List Tr} {L : List Nat}, OwnL w e xs ks L → ∀ b, b ∈ L → b < w.heap.size
  | _, [], L, h, b, hb => by
    unfold OwnL at h
    subst h
    cases hb
  | xs, t :: ts, L, h, b, hb => by
    obtain ⟨u0, u1, u2, rest, L1, L2, rfl, h1, h2, rfl⟩ := OwnL.cons_iff.1 h
    rcases List.mem_append.1 hb with hb | hb
    · exact OwnT.lt h1 b hb
    · exact OwnL.lt h2 b hb
end
/-- Only the blocks of L have turned. -/
structure Only (L : List Nat) (w w' : World) : Prop where
  os : w'.os = w.os
  tape : w'.tape = w.tape
  output : w'.output = w.output
  size : w.heap.size ≤ w'.heap.size
  block : ∀ b, b < w.heap.size → ¬ b ∈ L → w'.heap[b]? = w.heap[b]?
theorem Only.refl (L : List Nat) (w : World) : Only L w w := ⟨rfl, rfl, rfl, Nat.le_refl _, fun _ _ _ => rfl⟩
theorem Only.trans {L : List Nat} {a b c : World} (h : Only L a b) (k : Only L b c) : Only L a c :=
  ⟨k.os.trans h.os, k.tape.trans h.tape, k.output.trans h.output, Nat.le_trans h.size k.size, fun i hi hn => (k.block i (Nat.lt_of_lt_of_le hi h.size) hn).trans (h.block i hi hn)⟩
theorem Only.mono {L M : List Nat} {a b : World} (h : Only L a b) (hs : ∀ x, x ∈ L → x ∈ M) : Only M a b := ⟨h.os, h.tape, h.output, h.size, fun i hi hn => h.block i hi (fun hm => hn (hs i hm))⟩
theorem Only.setCell {L : List Nat} {a w : World} (h : Only L a w) {p : Addr} (hp : p.block ∈ L) (u : Value) : Only L a (w.setCell p u) :=
  ⟨h.os, h.tape, h.output, by simpa using h.size, fun i hi hn => (Below.heap_setCell w p u i (fun e => hn (e ▸ hp))).trans (h.block i hi hn)⟩
theorem Only.of_ext {L : List Nat} {a b : World} (h : Ext a b) : Only L a b := ⟨h.os, h.tape, h.output, h.size, fun i hi _ => h.heap i hi⟩
theorem Only.drew {L : List Nat} {a b : World} (h : Only L a b) : Only L a b.drew := ⟨h.os, h.tape, h.output, h.size, h.block⟩
theorem Only.alloc {L : List Nat} {a b : World} (h : Only L a b) (o : Obj) : Only L a (b.alloc o) := h.trans (Only.of_ext ((Ext.refl b).alloc o))
/-- What was made behind a world stands outside of what that world knew. -/
theorem Only.ext {L : List Nat} {a w w' : World} (h : Only L w w') (he : Ext a w) (hL : ∀ b, b ∈ L → a.heap.size ≤ b) : Ext a w' :=
  ⟨h.os.trans he.os, h.tape.trans he.tape, h.output.trans he.output, Nat.le_trans he.size h.size, fun i hi => (h.block i (Nat.lt_of_lt_of_le hi he.size) (fun hm => absurd (hL i hm) (by omega))).trans (he.heap i hi)⟩
end Go.Proofs.YtghmpdnlkldigaaGreatDoor
namespace Go.Proofs.YtghmpdnlkldigaaGreatDoor
open Go.RowKit
set_option linter.unusedVariables false
/-- What holds in w and in every later world. -/
def At (w : World) (p : World → Prop) : Prop := ∀ w', Ext w w' → p w'
theorem At.step {w w' : World} {p : World → Prop} (h : At w p) (he : Ext w w') : At w' p := fun x hx => h x (he.trans hx)
theorem At.lies {w : World} {t : Tr} {v : Value} (h : Lies w t v) : At w (fun w' => Lies w' t v) := fun _ hx => h.ext hx
theorem At.and {w : World} {p q : World → Prop} (h : At w p) (k : At w q) : At w (fun w' => p w' ∧ q w') := fun x hx => ⟨h x hx, k x hx⟩
/-- A world that has what W had, and more. -/
structure Later (W : World) where
  world : World
  ext : Ext W world
instance (W : World) : Nonempty (Later W) := ⟨⟨W, Ext.refl W⟩⟩
theorem wp_region_later {P : Program} {id : Nat} {Q : Exit → Act → World → Prop} {a : Act} {W : World} {l : List Oper} (hm : P.follows .mixedOrders = true) (hB : Region.lexB .any l.toArray = true)
    (h : wpQuiet P l.toArray (fun w' => ∃ x : Later W, w' = x.world) (fun a' => ∀ w', (∃ x : Later W, w' = x.world) → Q .normal a' w') l a) : (Code.region id l.toArray true).wp P Q a W :=
  wp_region_quiet (C := fun w' => ∃ x : Later W, w' = x.world) hm hB ⟨⟨_, (Ext.refl W).drew⟩, rfl⟩ (by simpa using h)
theorem later_of {P : Program} {f : FuncId} {args : Array Value} {W : World} {x : Later W} {v : Value} (h : Calls P f args x.world fun e w' => e = .returned v ∧ Ext x.world w') :
    Calls P f args x.world fun e w'' => e = .returned v ∧ ∃ y : Later W, w'' = y.world :=
  h.mono fun e w' ⟨he, hw⟩ => ⟨he, ⟨w', x.ext.trans hw⟩, rfl⟩
theorem later_of_same {P : Program} {f : FuncId} {args : Array Value} {W : World} {x : Later W} {v : Value} (h : Calls P f args x.world fun e w' => e = .returned v ∧ x.world = w') :
    Calls P f args x.world fun e w'' => e = .returned v ∧ ∃ y : Later W, w'' = y.world :=
  h.mono fun e w' ⟨he, hw⟩ => ⟨he, x, hw.symm⟩
/-- A struct's three cells, in every later world. -/
theorem Later.own3 {W : World} {g : Nat} {x0 x1 x2 : Value} {e : TypeId} (hb : W.heap[g]? = some (.cells #[x0, x1, x2] e (0, 0))) :
    (∀ y : Later W, y.world.cell? ⟨g, 0, none⟩ = some x0) ∧ (∀ y : Later W, y.world.cell? ⟨g, 1, none⟩ = some x1) ∧ (∀ y : Later W, y.world.cell? ⟨g, 2, none⟩ = some x2) :=
  ⟨fun y => y.ext.cell (cell_of_blk hb 0), fun y => y.ext.cell (cell_of_blk hb 1), fun y => y.ext.cell (cell_of_blk hb 2)⟩
theorem Later.cell {W : World} {b o : Nat} {v : Value} (h : W.cell? ⟨b, o, none⟩ = some v) (y : Later W) : y.world.cell? ⟨b, o, none⟩ = some v := y.ext.cell h
end Go.Proofs.YtghmpdnlkldigaaGreatDoor

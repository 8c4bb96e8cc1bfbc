/-
  Lemmas towards the law, 3: Mem, Later, Valid.
-/
import Derived.Test.YtappakllopkfiaaCAA
import Derived.BigQuiet
import Derived.Laws.MakeOwn
import Derived.Laws.OwnMore
namespace Go.Proofs.Ytappakllopkfiaa
open Go.RowKit
set_option linter.unusedVariables false
theorem cells3 {w : World} {g i : Nat} {cs : Array Value} {e : TypeId} (hb : w.heap[g]? = some (.cells cs e (0, 0))) (h : i + 3 ≤ cs.size) :
    ∃ x0 x1 x2, w.cell? ⟨g, i, none⟩ = some x0 ∧ w.cell? ⟨g, i + 1, none⟩ = some x1 ∧ w.cell? ⟨g, i + 2, none⟩ = some x2 ∧ w.frozen? ⟨g, i, none⟩ = false ∧ w.frozen? ⟨g, i + 1, none⟩ = false ∧ w.frozen? ⟨g, i + 2, none⟩ = false := by
  refine ⟨cs[i]'(by omega), cs[i + 1]'(by omega), cs[i + 2]'(by omega), ?_, ?_, ?_, frozen_of_blk hb _, frozen_of_blk hb _, frozen_of_blk hb _⟩
  · rw [cell_of_blk hb]; exact Array.getElem?_eq_getElem _
  · rw [cell_of_blk hb]; exact Array.getElem?_eq_getElem _
  · rw [cell_of_blk hb]; exact Array.getElem?_eq_getElem _
theorem blk1 {w w1 : World} {a : Obj} (h : Ext (w.alloc a) w1) : w1.heap[w.heap.size]? = some a ∧ w.heap.size < w1.heap.size := ⟨h.newBlk, h.size_alloc⟩
theorem blk2 {w w1 : World} {a b : Obj} (h : Ext ((w.alloc a).alloc b) w1) : w1.heap[w.heap.size]? = some a ∧ w1.heap[w.heap.size + 1]? = some b ∧ w.heap.size + 1 < w1.heap.size := by
  have h1 := h.newBlk
  have h2 := h.size_alloc
  simp only [World.size_alloc] at h1 h2
  exact ⟨(blk1 h.pre).1, h1, h2⟩
theorem blk3 {w w1 : World} {a b c : Obj} (h : Ext (((w.alloc a).alloc b).alloc c) w1) : w1.heap[w.heap.size]? = some a ∧ w1.heap[w.heap.size + 1]? = some b ∧ w1.heap[w.heap.size + 1 + 1]? = some c ∧ w.heap.size + 1 + 1 < w1.heap.size := by
  have h1 := h.newBlk
  have h2 := h.size_alloc
  simp only [World.size_alloc] at h1 h2
  exact ⟨(blk2 h.pre).1, (blk2 h.pre).2.1, h1, h2⟩
/-- The three cells of a struct of the call's own. -/
theorem own3 {w : World} {g : Nat} {x0 x1 x2 : Value} {e : TypeId} (hb : w.heap[g]? = some (.cells #[x0, x1, x2] e (0, 0))) :
    w.cell? ⟨g, 0, none⟩ = some x0 ∧ w.cell? ⟨g, 1, none⟩ = some x1 ∧ w.cell? ⟨g, 2, none⟩ = some x2 ∧ w.frozen? ⟨g, 0, none⟩ = false ∧ w.frozen? ⟨g, 1, none⟩ = false ∧ w.frozen? ⟨g, 2, none⟩ = false :=
  ⟨cell_of_blk hb 0, cell_of_blk hb 1, cell_of_blk hb 2, frozen_of_blk hb 0, frozen_of_blk hb 1, frozen_of_blk hb 2⟩
/-- From block number B on the world w' is as1 w. -/
def Above (B : Nat) (w w' : World) : Prop := (∀ b, B ≤ b → w'.heap[b]? = w.heap[b]?) ∧ w.heap.size ≤ w'.heap.size
theorem Above.refl (B : Nat) (w : World) : Above B w w := ⟨fun _ _ => rfl, Nat.le_refl _⟩
theorem Above.setCell {B : Nat} {a w : World} (h : Above B a w) {p : Addr} (hp : p.block < B) (u : Value) : Above B a (w.setCell p u) :=
  ⟨fun b hb => (Below.heap_setCell w p u b (by omega)).trans (h.1 b hb), by simpa using h.2⟩
theorem Above.drew {B : Nat} {a w : World} (h : Above B a w) : Above B a w.drew := h
theorem MadeK.after {W w1 w3 : World} {e : TypeId} {A : Option Addr} {ks : List Tr} (h : MadeK W w1 e A ks) (ha : Above W.heap.size w1 w3) : MadeK W w3 e A ks := by
  obtain ⟨L, h, hf⟩ := h
  exact ⟨L, h.mono fun b hb => ha.1 b (hf.2 b hb).1, hf.mono (Nat.le_refl _) ha.2⟩
theorem Made.after {W w1 w3 : World} {e : TypeId} {t : Tr} {v : Value} (h : Made W w1 e t v) (ha : Above W.heap.size w1 w3) : Made W w3 e t v := by
  obtain ⟨L, h, hf⟩ := h
  exact ⟨L, h.mono fun b hb => ha.1 b (hf.2 b hb).1, hf.mono (Nat.le_refl _) ha.2⟩
theorem OwnL.split {w : World} {e : TypeId} {t : Tr} {bs : List Tr} : ∀ {as1 : List Tr} {xs : List Value} {L : List Nat}, OwnL w e xs (as1 ++ t :: bs) L →
    ∃ pre v0 v1 v2 post La Lt Lb, xs = pre ++ v0 :: v1 :: v2 :: post ∧ pre.length = as1.length * 3 ∧ OwnL w e pre as1 La ∧ OwnT w e t (.agg #[v0, v1, v2]) Lt ∧ OwnL w e post bs Lb ∧ L = La ++ (Lt ++ Lb)
  | [], xs, L, h => by
    obtain ⟨v0, v1, v2, rest, L1, L2, rfl, h1, h2, rfl⟩ := OwnL.cons_iff.1 h
    exact ⟨[], v0, v1, v2, rest, [], L1, L2, rfl, rfl, OwnL.nil, h1, h2, rfl⟩
  | a :: as1, xs, L, h => by
    obtain ⟨u0, u1, u2, rest, L1, L2, rfl, h1, h2, rfl⟩ := OwnL.cons_iff.1 h
    obtain ⟨pre, v0, v1, v2, post, La, Lt, Lb, rfl, hp, ha, ht, hb, rfl⟩ := OwnL.split (as1 := as1) h2
    exact ⟨u0 :: u1 :: u2 :: pre, v0, v1, v2, post, L1 ++ La, Lt, Lb, rfl, by simp [hp]; omega, OwnL.cons_iff.2 ⟨u0, u1, u2, pre, L1, La, rfl, h1, ha, rfl⟩, ht, hb, by simp⟩
mutual
theorem OwnT.lt {w : World} {e : TypeId} : ∀ {t : Tr} {v : Value} {L : List Nat}, OwnT w e t v L → ∀ b, b ∈ L → b < w.heap.size
  | .mk k n ks, v, L, h, b, hb => by
    obtain ⟨A, cap, _, _, _, h3⟩ := OwnT.mk_iff.1 h
    rcases h3 with ⟨_, rfl⟩ | ⟨g, cs, L', _, hg, rfl, hl⟩
    · cases hb
    · rcases List.mem_cons.1 hb with rfl | hb
      · exact lt_of_blk hg
      · exact OwnL.lt hl b hb
theorem OwnL.lt {w : World} {e : TypeId} : ∀ {xs : List Value} {ks : List Tr} {L : List Nat}, OwnL w e xs ks L → ∀ b, b ∈ L → b < w.heap.size
  | _, [], L, h, b, hb => by
    unfold OwnL at h
    subst h
    cases hb
  | xs, t :: ts, L, h, b, hb => by
    obtain ⟨u0, u1, u2, rest, L1, L2, rfl, h1, h2, rfl⟩ := OwnL.cons_iff.1 h
    rcases List.mem_append.1 hb with hb | hb
    · exact OwnT.lt h1 b hb
    · exact OwnL.lt h2 b hb
end
/-- Only the blocks of L have turned. -/
structure Only (L : List Nat) (w w' : World) : Prop where
  os : w'.os = w.os
  tape : w'.tape = w.tape
  output : w'.output = w.output
  size : w.heap.size ≤ w'.heap.size
  block : ∀ b, b < w.heap.size → ¬ b ∈ L → w'.heap[b]? = w.heap[b]?
theorem Only.refl (L : List Nat) (w : World) : Only L w w := ⟨rfl, rfl, rfl, Nat.le_refl _, fun _ _ _ => rfl⟩
theorem Only.trans {L : List Nat} {a b c : World} (h : Only L a b) (k : Only L b c) : Only L a c :=
  ⟨k.os.trans h.os, k.tape.trans h.tape, k.output.trans h.output, Nat.le_trans h.size k.size, fun i hi hn => (k.block i (Nat.lt_of_lt_of_le hi h.size) hn).trans (h.block i hi hn)⟩
theorem Only.mono {L M : List Nat} {a b : World} (h : Only L a b) (hs : ∀ x, x ∈ L → x ∈ M) : Only M a b := ⟨h.os, h.tape, h.output, h.size, fun i hi hn => h.block i hi (fun hm => hn (hs i hm))⟩
theorem Only.setCell {L : List Nat} {a w : World} (h : Only L a w) {p : Addr} (hp : p.block ∈ L) (u : Value) : Only L a (w.setCell p u) :=
  ⟨h.os, h.tape, h.output, by simpa using h.size, fun i hi hn => (Below.heap_setCell w p u i (fun e => hn (e ▸ hp))).trans (h.block i hi hn)⟩
theorem Only.of_ext {L : List Nat} {a b : World} (h : Ext a b) : Only L a b := ⟨h.os, h.tape, h.output, h.size, fun i hi _ => h.heap i hi⟩
theorem Only.drew {L : List Nat} {a b : World} (h : Only L a b) : Only L a b.drew := ⟨h.os, h.tape, h.output, h.size, h.block⟩
theorem Only.alloc {L : List Nat} {a b : World} (h : Only L a b) (o : Obj) : Only L a (b.alloc o) := h.trans (Only.of_ext ((Ext.refl b).alloc o))
/-- What was made behind a world stands outside of what that world knew. -/
theorem Only.ext {L : List Nat} {a w w' : World} (h : Only L w w') (he : Ext a w) (hL : ∀ b, b ∈ L → a.heap.size ≤ b) : Ext a w' :=
  ⟨h.os.trans he.os, h.tape.trans he.tape, h.output.trans he.output, Nat.le_trans he.size h.size, fun i hi => (h.block i (Nat.lt_of_lt_of_le hi he.size) (fun hm => absurd (hL i hm) (by omega))).trans (he.heap i hi)⟩
end Go.Proofs.Ytappakllopkfiaa
namespace Go.Proofs.Ytappakllopkfiaa
open Go.RowKit
set_option linter.unusedVariables false
/-- What holds in w and in every later world. -/
def At (w : World) (p : World → Prop) : Prop := ∀ w', Ext w w' → p w'
theorem At.step {w w' : World} {p : World → Prop} (h : At w p) (he : Ext w w') : At w' p := fun x hx => h x (he.trans hx)
theorem At.lies {w : World} {t : Tr} {v : Value} (h : Lies w t v) : At w (fun w' => Lies w' t v) := fun _ hx => h.ext hx
theorem At.and {w : World} {p q : World → Prop} (h : At w p) (k : At w q) : At w (fun w' => p w' ∧ q w') := fun x hx => ⟨h x hx, k x hx⟩
/-- A world that has what W had, and more. -/
structure Later (W : World) where
  world : World
  ext : Ext W world
instance (W : World) : Nonempty (Later W) := ⟨⟨W, Ext.refl W⟩⟩
theorem wp_region_later {P : Program} {id : Nat} {Q : Exit → Act → World → Prop} {a : Act} {W : World} {l : List Oper} (hm : P.follows .mixedOrders = true) (hB : Region.lexB .any l.toArray = true)
    (h : wpQuiet P l.toArray (fun w' => ∃ x : Later W, w' = x.world) (fun a' => ∀ w', (∃ x : Later W, w' = x.world) → Q .normal a' w') l a) : (Code.region id l.toArray true).wp P Q a W :=
  wp_region_quiet (C := fun w' => ∃ x : Later W, w' = x.world) hm hB ⟨⟨_, (Ext.refl W).drew⟩, rfl⟩ (by simpa using h)
theorem later_of {P : Program} {f : FuncId} {args : Array Value} {W : World} {x : Later W} {v : Value} (h : Calls P f args x.world fun e w' => e = .returned v ∧ Ext x.world w') :
    Calls P f args x.world fun e w'' => e = .returned v ∧ ∃ y : Later W, w'' = y.world :=
  h.mono fun e w' ⟨he, hw⟩ => ⟨he, ⟨w', x.ext.trans hw⟩, rfl⟩
theorem later_of_same {P : Program} {f : FuncId} {args : Array Value} {W : World} {x : Later W} {v : Value} (h : Calls P f args x.world fun e w' => e = .returned v ∧ x.world = w') :
    Calls P f args x.world fun e w'' => e = .returned v ∧ ∃ y : Later W, w'' = y.world :=
  h.mono fun e w' ⟨he, hw⟩ => ⟨he, x, hw.symm⟩
/-- A struct's three cells, in every later world. -/
theorem Later.own3 {W : World} {g : Nat} {x0 x1 x2 : Value} {e : TypeId} (hb : W.heap[g]? = some (.cells #[x0, x1, x2] e (0, 0))) :
    (∀ y : Later W, y.world.cell? ⟨g, 0, none⟩ = some x0) ∧ (∀ y : Later W, y.world.cell? ⟨g, 1, none⟩ = some x1) ∧ (∀ y : Later W, y.world.cell? ⟨g, 2, none⟩ = some x2) :=
  ⟨fun y => y.ext.cell (cell_of_blk hb 0), fun y => y.ext.cell (cell_of_blk hb 1), fun y => y.ext.cell (cell_of_blk hb 2)⟩
theorem Later.cell {W : World} {b o : Nat} {v : Value} (h : W.cell? ⟨b, o, none⟩ = some v) (y : Later W) : y.world.cell? ⟨b, o, none⟩ = some v := y.ext.cell h
end Go.Proofs.Ytappakllopkfiaa
namespace Go.Proofs.Ytappakllopkfiaa
set_option linter.unusedVariables false
def inR (n lo hi : Int) : Bool := decide (lo ≤ n) && decide (n ≤ hi)
theorem inR_iff {n lo hi : Int} : inR n lo hi = true ↔ lo ≤ n ∧ n ≤ hi := by simp [inR]
theorem inR_false {n lo hi : Int} : inR n lo hi = false ↔ n < lo ∨ hi < n := by
  rw [Bool.eq_false_iff, Ne, inR_iff]
  omega
/-- The operands and the greatest N of a kind, for terms and for programs. -/
structure Sig where
  ops : Int → Int
  most : Int → Int
def opsT (k : Int) : Int := if k = 1 then 0 else if k = 2 then 0 else if k = 3 then 2 else if k = 4 then 2 else if k = 5 then 2 else if k = 6 then 0 else if k = 7 then 0 else if k = 8 then 1 else if k = 9 then 4 else if k = 10 then 3 else if k = 11 then 1 else if k = 12 then 3 else if k = 13 then 2 else if k = 14 then 3 else if k = 15 then 1 else if k = 16 then 1 else -1
def mostT (k : Int) : Int := if k = 1 then 20 else if k = 2 then 3 else 0
def sigT : Sig := ⟨opsT, mostT⟩
/-- The node by itself is in order. -/
def headOk (g : Sig) (k n : Int) (len : Nat) : Bool := decide (g.ops k = (len : Int)) && inR n 0 (g.most k)
mutual
def shape (g : Sig) : Tr → Int → Bool
  | .mk k n ks, depth => decide (1 ≤ depth) && (headOk g k n ks.length && shapes g ks (depth - 1))
def shapes (g : Sig) : List Tr → Int → Bool
  | [], _ => true
  | t :: ts, depth => shape g t depth && shapes g ts depth
end
def valid (g : Sig) (t : Tr) : Bool := shape g t 30 && decide (cnt t ≤ 400)
mutual
/-- Counting up to a number. -/
def cntM : Tr → Int → Int
  | .mk _ _ ks, most => cntMs ks most 1
def cntMs : List Tr → Int → Int → Int
  | [], _, n => n
  | t :: ts, most, n => if n ≤ most then cntMs ts most (n + cntM t (most - n)) else n
end
mutual
theorem cntM_le : ∀ (t : Tr) (most : Int), 0 ≤ most → 1 ≤ cntM t most ∧ cntM t most ≤ most + 1 ∧ (cntM t most ≤ most ↔ (cnt t : Int) ≤ most) ∧ (cntM t most ≤ most → cntM t most = cnt t)
  | .mk _ _ ks, most, h => by
    have := cntMs_le ks most 1 (by omega) (by omega)
    simp only [cntM, cnt]
    omega
theorem cntMs_le : ∀ (ts : List Tr) (most n : Int), 1 ≤ n → n ≤ most + 1 → n ≤ cntMs ts most n ∧ cntMs ts most n ≤ most + 1 ∧ (cntMs ts most n ≤ most ↔ n + cnts ts ≤ most) ∧ (cntMs ts most n ≤ most → cntMs ts most n = n + cnts ts)
  | [], most, n, h, h' => by simp only [cntMs, cnts]; omega
  | t :: ts, most, n, h, h' => by
    simp only [cntMs, cnts]
    by_cases hn : n ≤ most
    · rw [if_pos hn]
      have h1 := cntM_le t (most - n) (by omega)
      have h2 := cntMs_le ts most (n + cntM t (most - n)) (by omega) (by omega)
      have h3 := cnt_pos t
      omega
    · rw [if_neg hn]
      have h3 := cnt_pos t
      omega
end
theorem valid_iff {g : Sig} {t : Tr} : valid g t = (shape g t 30 && decide (cntM t 400 ≤ 400)) := by
  have := (cntM_le t 400 (by omega)).2.2.1
  unfold valid
  congr 1
  rw [Bool.eq_iff_iff, decide_eq_true_iff, decide_eq_true_iff]
  omega
mutual
/-- The other way of looking: a count that goes up, and stops. -/
def scanR (g : Sig) : Tr → Int → Int → Bool × Int
  | .mk k n ks, deep, c => if 400 < c + 1 then (false, c + 1) else if 30 < deep then (false, c + 1) else if g.ops k = (ks.length : Int) then (if inR n 0 (g.most k) = true then scanRs g ks (deep + 1) (c + 1) else (false, c + 1)) else (false, c + 1)
def scanRs (g : Sig) : List Tr → Int → Int → Bool × Int
  | [], _, c => (true, c)
  | t :: ts, deep, c => if (scanR g t deep c).1 = true then scanRs g ts deep (scanR g t deep c).2 else (false, (scanR g t deep c).2)
end
mutual
theorem scanR_spec (g : Sig) : ∀ (t : Tr) (deep c : Int), 0 ≤ c → c ≤ 400 → (scanR g t deep c).1 = (shape g t (31 - deep) && decide (c + cnt t ≤ 400)) ∧ ((scanR g t deep c).1 = true → (scanR g t deep c).2 = c + cnt t) ∧ c ≤ (scanR g t deep c).2 ∧ (scanR g t deep c).2 ≤ 401 ∧ ((scanR g t deep c).1 = true → (scanR g t deep c).2 ≤ 400)
  | .mk k n ks, deep, c, h, h' => by
    have hc : (cnt (.mk k n ks) : Int) = cnts ks + 1 := by simp [cnt]
    simp only [scanR, shape, headOk]
    by_cases h1 : 400 < c + 1
    · rw [if_pos h1]
      refine ⟨?_, by simp, by simp; omega, by simp; omega, by simp⟩
      symm
      rw [Bool.and_eq_false_iff]
      exact .inr (decide_eq_false (by omega))
    · rw [if_neg h1]
      by_cases h2 : 30 < deep
      · rw [if_pos h2]
        refine ⟨?_, by simp, by simp; omega, by simp; omega, by simp⟩
        symm
        rw [Bool.and_eq_false_iff, Bool.and_eq_false_iff]
        exact .inl (.inl (decide_eq_false (by omega)))
      · rw [if_neg h2]
        by_cases h3 : g.ops k = (ks.length : Int)
        · rw [if_pos h3]
          by_cases h4 : inR n 0 (g.most k) = true
          · rw [if_pos h4]
            obtain ⟨e1, e2, e3, e4, e5⟩ := scanRs_spec g ks (deep + 1) (c + 1) (by omega) (by omega)
            refine ⟨?_, fun hh => by rw [e2 hh]; omega, by omega, e4, e5⟩
            rw [e1, decide_eq_true h3, h4]
            have ed : 31 - (deep + 1) = 31 - deep - 1 := by omega
            have d1 : decide (1 ≤ 31 - deep) = true := decide_eq_true (by omega)
            rw [ed, d1]
            simp only [Bool.true_and]
            congr 1
            exact decide_eq_decide.2 (by omega)
          · rw [if_neg h4]
            refine ⟨?_, by simp, by simp; omega, by simp; omega, by simp⟩
            simp [h4]
        · rw [if_neg h3]
          refine ⟨?_, by simp, by simp; omega, by simp; omega, by simp⟩
          simp [h3]
theorem scanRs_spec (g : Sig) : ∀ (ts : List Tr) (deep c : Int), 0 ≤ c → c ≤ 400 → (scanRs g ts deep c).1 = (shapes g ts (31 - deep) && decide (c + cnts ts ≤ 400)) ∧ ((scanRs g ts deep c).1 = true → (scanRs g ts deep c).2 = c + cnts ts) ∧ c ≤ (scanRs g ts deep c).2 ∧ (scanRs g ts deep c).2 ≤ 401 ∧ ((scanRs g ts deep c).1 = true → (scanRs g ts deep c).2 ≤ 400)
  | [], deep, c, h, h' => by
    have hc : (cnts [] : Int) = 0 := by simp [cnts]
    have hd : decide (c + (cnts [] : Int) ≤ 400) = true := decide_eq_true (by omega)
    simp only [scanRs, shapes]
    refine ⟨by rw [hd]; rfl, by omega, by omega, by omega, by omega⟩
  | t :: ts, deep, c, h, h' => by
    have hc : (cnts (t :: ts) : Int) = cnt t + cnts ts := by simp [cnts]
    simp only [scanRs, shapes]
    obtain ⟨e1, e2, e3, e4, e5⟩ := scanR_spec g t deep c h h'
    by_cases hs : (scanR g t deep c).1 = true
    · rw [if_pos hs]
      have e2' := e2 hs
      have e5' := e5 hs
      obtain ⟨d1, d2, d3, d4, d5⟩ := scanRs_spec g ts deep (scanR g t deep c).2 (by omega) e5'
      refine ⟨?_, fun hh => by rw [d2 hh, e2']; omega, by omega, d4, d5⟩
      rw [d1]
      rw [hs] at e1
      have e1' := e1.symm
      rw [Bool.and_eq_true] at e1'
      rw [e1'.1]
      simp only [Bool.true_and]
      congr 1
      exact decide_eq_decide.2 (by omega)
    · rw [if_neg hs]
      refine ⟨?_, by simp, e3, e4, by simp⟩
      have hf : (scanR g t deep c).1 = false := by simpa using hs
      rw [hf] at e1
      have e1' := e1.symm
      rw [Bool.and_eq_false_iff] at e1'
      symm
      rw [Bool.and_eq_false_iff, Bool.and_eq_false_iff]
      rcases e1' with e1' | e1'
      · exact .inl (.inl e1')
      · have := of_decide_eq_false e1'
        exact .inr (decide_eq_false (by omega))
end
theorem scanR_valid (g : Sig) (t : Tr) : (scanR g t 1 0).1 = valid g t ∧ (valid g t = true → (scanR g t 1 0).2 = cnt t) := by
  obtain ⟨e1, e2, _⟩ := scanR_spec g t 1 0 (by omega) (by omega)
  have h : (scanR g t 1 0).1 = valid g t := by
    rw [e1]
    unfold valid
    have e : (31 : Int) - 1 = 30 := rfl
    rw [e]
    congr 1
    exact decide_eq_decide.2 (by omega)
  exact ⟨h, fun hv => by rw [e2 (h.trans hv)]; omega⟩
end Go.Proofs.Ytappakllopkfiaa

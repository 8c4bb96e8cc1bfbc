/-
  Lemmas towards the law, 3: Mem, Later, WalkValid, Scan.
-/
import Derived.Test.YtappakllopkfiaaZAA
import Derived.Test.YtappakllopkfiaaZAB
import Derived.BigQuiet
import Derived.Deep.RegionHeld3
import Derived.Deep.RegionWith
import Derived.Laws.MakeOwn
import Derived.Laws.OwnMore
import Derived.Outline
import Derived.StillTailTactics
import Derived.Test.YtappakllopkfiaaProg
namespace Go.Proofs.Ytappakllopkfiaa
open Go.RowKit
set_option linter.unusedVariables false
theorem run_make_rowN {P : Program} (t e : TypeId) (i : TypeInfo) (z : Value) (ht : P.underlying t = some (.slice e)) (hi : P.info? e = some i) (hz : i.zero = some z)
    (kl kc : IntKind) (n c : Nat) (hnc : n ≤ c) (hbytes : i.bytes * c ≤ 281474976710656) (h63 : c ≤ 9223372036854775807) (w : World) :
    (Instr.makeSlice t (.int kl (n : Int)) (.int kc (c : Int))).run P w = .ok (.slice (some ⟨w.heap.size, 0, none⟩) n c) (w.alloc (.cells (madeCells z.cells (c * i.size)) e)) := by
  have hb : (i.bytes : Int) * (c : Int) ≤ 281474976710656 := by
    have h : ((i.bytes * c : Nat) : Int) ≤ 281474976710656 := by omega
    rwa [Int.natCast_mul] at h
  have hr := run_make (P := P) w t e i z ht hi hz kl kc n c (by omega) (by omega) hb (by omega)
  simp only [Int.toNat_natCast] at hr
  exact hr
theorem cells3 {w : World} {g i : Nat} {cs : Array Value} {e : TypeId} (hb : w.heap[g]? = some (.cells cs e (0, 0))) (h : i + 3 ≤ cs.size) :
    ∃ x0 x1 x2, w.cell? ⟨g, i, none⟩ = some x0 ∧ w.cell? ⟨g, i + 1, none⟩ = some x1 ∧ w.cell? ⟨g, i + 2, none⟩ = some x2 ∧ w.frozen? ⟨g, i, none⟩ = false ∧ w.frozen? ⟨g, i + 1, none⟩ = false ∧ w.frozen? ⟨g, i + 2, none⟩ = false := by
  refine ⟨cs[i]'(by omega), cs[i + 1]'(by omega), cs[i + 2]'(by omega), ?_, ?_, ?_, frozen_of_blk hb _, frozen_of_blk hb _, frozen_of_blk hb _⟩
  · rw [cell_of_blk hb]; exact Array.getElem?_eq_getElem _
  · rw [cell_of_blk hb]; exact Array.getElem?_eq_getElem _
  · rw [cell_of_blk hb]; exact Array.getElem?_eq_getElem _
theorem blk1 {w w1 : World} {a : Obj} (h : Ext (w.alloc a) w1) : w1.heap[w.heap.size]? = some a ∧ w.heap.size < w1.heap.size := ⟨h.newBlk, h.size_alloc⟩
theorem blk2 {w w1 : World} {a b : Obj} (h : Ext ((w.alloc a).alloc b) w1) : w1.heap[w.heap.size]? = some a ∧ w1.heap[w.heap.size + 1]? = some b ∧ w.heap.size + 1 < w1.heap.size := by
  have h1 := h.newBlk
  have h2 := h.size_alloc
  simp only [World.size_alloc] at h1 h2
  exact ⟨(blk1 h.pre).1, h1, h2⟩
theorem blk3 {w w1 : World} {a b c : Obj} (h : Ext (((w.alloc a).alloc b).alloc c) w1) : w1.heap[w.heap.size]? = some a ∧ w1.heap[w.heap.size + 1]? = some b ∧ w1.heap[w.heap.size + 1 + 1]? = some c ∧ w.heap.size + 1 + 1 < w1.heap.size := by
  have h1 := h.newBlk
  have h2 := h.size_alloc
  simp only [World.size_alloc] at h1 h2
  exact ⟨(blk2 h.pre).1, (blk2 h.pre).2.1, h1, h2⟩
theorem blk4 {w w1 : World} {a b c d : Obj} (h : Ext ((((w.alloc a).alloc b).alloc c).alloc d) w1) : w1.heap[w.heap.size]? = some a ∧ w1.heap[w.heap.size + 1]? = some b ∧ w1.heap[w.heap.size + 1 + 1]? = some c ∧ w1.heap[w.heap.size + 1 + 1 + 1]? = some d ∧ w.heap.size + 1 + 1 + 1 < w1.heap.size := by
  have h1 := h.newBlk
  have h2 := h.size_alloc
  simp only [World.size_alloc] at h1 h2
  exact ⟨(blk3 h.pre).1, (blk3 h.pre).2.1, (blk3 h.pre).2.2.1, h1, h2⟩
/-- The three cells of a struct of the call's own. -/
theorem own3 {w : World} {g : Nat} {x0 x1 x2 : Value} {e : TypeId} (hb : w.heap[g]? = some (.cells #[x0, x1, x2] e (0, 0))) :
    w.cell? ⟨g, 0, none⟩ = some x0 ∧ w.cell? ⟨g, 1, none⟩ = some x1 ∧ w.cell? ⟨g, 2, none⟩ = some x2 ∧ w.frozen? ⟨g, 0, none⟩ = false ∧ w.frozen? ⟨g, 1, none⟩ = false ∧ w.frozen? ⟨g, 2, none⟩ = false :=
  ⟨cell_of_blk hb 0, cell_of_blk hb 1, cell_of_blk hb 2, frozen_of_blk hb 0, frozen_of_blk hb 1, frozen_of_blk hb 2⟩
/-- From block number B on the world w' is as1 w. -/
def Above (B : Nat) (w w' : World) : Prop := (∀ b, B ≤ b → w'.heap[b]? = w.heap[b]?) ∧ w.heap.size ≤ w'.heap.size
theorem Above.refl (B : Nat) (w : World) : Above B w w := ⟨fun _ _ => rfl, Nat.le_refl _⟩
theorem Above.setCell {B : Nat} {a w : World} (h : Above B a w) {p : Addr} (hp : p.block < B) (u : Value) : Above B a (w.setCell p u) :=
  ⟨fun b hb => (Below.heap_setCell w p u b (by omega)).trans (h.1 b hb), by simpa using h.2⟩
theorem Above.drew {B : Nat} {a w : World} (h : Above B a w) : Above B a w.drew := h
theorem MadeK.after {W w1 w3 : World} {e : TypeId} {A : Option Addr} {ks : List Tr} (h : MadeK W w1 e A ks) (ha : Above W.heap.size w1 w3) : MadeK W w3 e A ks := by
  obtain ⟨L, h, hf⟩ := h
  exact ⟨L, h.mono fun b hb => ha.1 b (hf.2 b hb).1, hf.mono (Nat.le_refl _) ha.2⟩
theorem Made.after {W w1 w3 : World} {e : TypeId} {t : Tr} {v : Value} (h : Made W w1 e t v) (ha : Above W.heap.size w1 w3) : Made W w3 e t v := by
  obtain ⟨L, h, hf⟩ := h
  exact ⟨L, h.mono fun b hb => ha.1 b (hf.2 b hb).1, hf.mono (Nat.le_refl _) ha.2⟩
theorem OwnL.split {w : World} {e : TypeId} {t : Tr} {bs : List Tr} : ∀ {as1 : List Tr} {xs : List Value} {L : List Nat}, OwnL w e xs (as1 ++ t :: bs) L →
    ∃ pre v0 v1 v2 post La Lt Lb, xs = pre ++ v0 :: v1 :: v2 :: post ∧ pre.length = as1.length * 3 ∧ OwnL w e pre as1 La ∧ OwnT w e t (.agg #[v0, v1, v2]) Lt ∧ OwnL w e post bs Lb ∧ L = La ++ (Lt ++ Lb)
  | [], xs, L, h => by
    obtain ⟨v0, v1, v2, rest, L1, L2, rfl, h1, h2, rfl⟩ := OwnL.cons_iff.1 h
    exact ⟨[], v0, v1, v2, rest, [], L1, L2, rfl, rfl, OwnL.nil, h1, h2, rfl⟩
  | a :: as1, xs, L, h => by
    obtain ⟨u0, u1, u2, rest, L1, L2, rfl, h1, h2, rfl⟩ := OwnL.cons_iff.1 h
    obtain ⟨pre, v0, v1, v2, post, La, Lt, Lb, rfl, hp, ha, ht, hb, rfl⟩ := OwnL.split (as1 := as1) h2
    exact ⟨u0 :: u1 :: u2 :: pre, v0, v1, v2, post, L1 ++ La, Lt, Lb, rfl, by simp [hp]; omega, OwnL.cons_iff.2 ⟨u0, u1, u2, pre, L1, La, rfl, h1, ha, rfl⟩, ht, hb, by simp⟩
mutual
theorem OwnT.lt {w : World} {e : TypeId} : ∀ {t : Tr} {v : Value} {L : List Nat}, OwnT w e t v L → ∀ b, b ∈ L → b < w.heap.size
  | .mk k n ks, v, L, h, b, hb => by
    obtain ⟨A, cap, _, _, _, h3⟩ := OwnT.mk_iff.1 h
    rcases h3 with ⟨_, rfl⟩ | ⟨g, cs, L', _, hg, rfl, hl⟩
    · cases hb
    · rcases List.mem_cons.1 hb with rfl | hb
      · exact lt_of_blk hg
      · exact OwnL.lt hl b hb
theorem OwnL.lt {w : World} {e : TypeId} : ∀ {xs : List Value} {ks : List Tr} {L : List Nat}, OwnL w e xs ks L → ∀ b, b ∈ L → b < w.heap.size
  | _, [], L, h, b, hb => by
    unfold OwnL at h
    subst h
    cases hb
  | xs, t :: ts, L, h, b, hb => by
    obtain ⟨u0, u1, u2, rest, L1, L2, rfl, h1, h2, rfl⟩ := OwnL.cons_iff.1 h
    rcases List.mem_append.1 hb with hb | hb
    · exact OwnT.lt h1 b hb
    · exact OwnL.lt h2 b hb
end
/-- Only the blocks of L have turned. -/
structure Only (L : List Nat) (w w' : World) : Prop where
  os : w'.os = w.os
  tape : w'.tape = w.tape
  output : w'.output = w.output
  size : w.heap.size ≤ w'.heap.size
  block : ∀ b, b < w.heap.size → ¬ b ∈ L → w'.heap[b]? = w.heap[b]?
theorem Only.refl (L : List Nat) (w : World) : Only L w w := ⟨rfl, rfl, rfl, Nat.le_refl _, fun _ _ _ => rfl⟩
theorem Only.trans {L : List Nat} {a b c : World} (h : Only L a b) (k : Only L b c) : Only L a c :=
  ⟨k.os.trans h.os, k.tape.trans h.tape, k.output.trans h.output, Nat.le_trans h.size k.size, fun i hi hn => (k.block i (Nat.lt_of_lt_of_le hi h.size) hn).trans (h.block i hi hn)⟩
theorem Only.mono {L M : List Nat} {a b : World} (h : Only L a b) (hs : ∀ x, x ∈ L → x ∈ M) : Only M a b := ⟨h.os, h.tape, h.output, h.size, fun i hi hn => h.block i hi (fun hm => hn (hs i hm))⟩
theorem Only.setCell {L : List Nat} {a w : World} (h : Only L a w) {p : Addr} (hp : p.block ∈ L) (u : Value) : Only L a (w.setCell p u) :=
  ⟨h.os, h.tape, h.output, by simpa using h.size, fun i hi hn => (Below.heap_setCell w p u i (fun e => hn (e ▸ hp))).trans (h.block i hi hn)⟩
theorem Only.of_ext {L : List Nat} {a b : World} (h : Ext a b) : Only L a b := ⟨h.os, h.tape, h.output, h.size, fun i hi _ => h.heap i hi⟩
theorem Only.drew {L : List Nat} {a b : World} (h : Only L a b) : Only L a b.drew := ⟨h.os, h.tape, h.output, h.size, h.block⟩
theorem Only.alloc {L : List Nat} {a b : World} (h : Only L a b) (o : Obj) : Only L a (b.alloc o) := h.trans (Only.of_ext ((Ext.refl b).alloc o))
/-- What was made behind a world stands outside of what that world knew. -/
theorem Only.ext {L : List Nat} {a w w' : World} (h : Only L w w') (he : Ext a w) (hL : ∀ b, b ∈ L → a.heap.size ≤ b) : Ext a w' :=
  ⟨h.os.trans he.os, h.tape.trans he.tape, h.output.trans he.output, Nat.le_trans he.size h.size, fun i hi => (h.block i (Nat.lt_of_lt_of_le hi he.size) (fun hm => absurd (hL i hm) (by omega))).trans (he.heap i hi)⟩
end Go.Proofs.Ytappakllopkfiaa
namespace Go.Proofs.Ytappakllopkfiaa
open Go.RowKit
set_option linter.unusedVariables false
/-- What holds in w and in every later world. -/
def At (w : World) (p : World → Prop) : Prop := ∀ w', Ext w w' → p w'
theorem At.step {w w' : World} {p : World → Prop} (h : At w p) (he : Ext w w') : At w' p := fun x hx => h x (he.trans hx)
theorem At.lies {w : World} {t : Tr} {v : Value} (h : Lies w t v) : At w (fun w' => Lies w' t v) := fun _ hx => h.ext hx
theorem At.and {w : World} {p q : World → Prop} (h : At w p) (k : At w q) : At w (fun w' => p w' ∧ q w') := fun x hx => ⟨h x hx, k x hx⟩
/-- A world that has what W had, and more. -/
structure Later (W : World) where
  world : World
  ext : Ext W world
instance (W : World) : Nonempty (Later W) := ⟨⟨W, Ext.refl W⟩⟩
theorem wp_region_later {P : Program} {id : Nat} {Q : Exit → Act → World → Prop} {a : Act} {W : World} {l : List Oper} (hm : P.follows .mixedOrders = true) (hB : Region.lexB .any l.toArray = true)
    (h : wpQuiet P l.toArray (fun w' => ∃ x : Later W, w' = x.world) (fun a' => ∀ w', (∃ x : Later W, w' = x.world) → Q .normal a' w') l a) : (Code.region id l.toArray true).wp P Q a W :=
  wp_region_quiet (C := fun w' => ∃ x : Later W, w' = x.world) hm hB ⟨⟨_, (Ext.refl W).drew⟩, rfl⟩ (by simpa using h)
theorem later_of {P : Program} {f : FuncId} {args : Array Value} {W : World} {x : Later W} {v : Value} (h : Calls P f args x.world fun e w' => e = .returned v ∧ Ext x.world w') :
    Calls P f args x.world fun e w'' => e = .returned v ∧ ∃ y : Later W, w'' = y.world :=
  h.mono fun e w' ⟨he, hw⟩ => ⟨he, ⟨w', x.ext.trans hw⟩, rfl⟩
theorem later_of_same {P : Program} {f : FuncId} {args : Array Value} {W : World} {x : Later W} {v : Value} (h : Calls P f args x.world fun e w' => e = .returned v ∧ x.world = w') :
    Calls P f args x.world fun e w'' => e = .returned v ∧ ∃ y : Later W, w'' = y.world :=
  h.mono fun e w' ⟨he, hw⟩ => ⟨he, x, hw.symm⟩
/-- A struct's three cells, in every later world. -/
theorem Later.own3 {W : World} {g : Nat} {x0 x1 x2 : Value} {e : TypeId} (hb : W.heap[g]? = some (.cells #[x0, x1, x2] e (0, 0))) :
    (∀ y : Later W, y.world.cell? ⟨g, 0, none⟩ = some x0) ∧ (∀ y : Later W, y.world.cell? ⟨g, 1, none⟩ = some x1) ∧ (∀ y : Later W, y.world.cell? ⟨g, 2, none⟩ = some x2) :=
  ⟨fun y => y.ext.cell (cell_of_blk hb 0), fun y => y.ext.cell (cell_of_blk hb 1), fun y => y.ext.cell (cell_of_blk hb 2)⟩
theorem Later.cell {W : World} {b o : Nat} {v : Value} (h : W.cell? ⟨b, o, none⟩ = some v) (y : Later W) : y.world.cell? ⟨b, o, none⟩ = some v := y.ext.cell h
end Go.Proofs.Ytappakllopkfiaa
namespace Go.Proofs.Ytappakllopkfiaa
open Go.RowKit
set_option linter.unusedVariables false
theorem within_any (n lo hi : Int) (w : World) : Calls Try.prog 65 #[.int .i64 n, .int .i64 lo, .int .i64 hi] w fun e w' => e = .returned (.bool (inR n lo hi)) ∧ w = w' := by
  by_cases h1 : lo ≤ n
  · by_cases h2 : n ≤ hi
    · have e : inR n lo hi = true := inR_iff.2 ⟨h1, h2⟩
      have E := Lib.hid e
      have d1 : decide (lo ≤ n) = true := by simpa using h1
      have d2 : decide (n ≤ hi) = true := by simpa using h2
      clear e
      go_enter Try.func65, Try.ntmps65
      go_wp2_with fail
      go_ret
      exact ⟨by rw [E.out]; rfl, rfl⟩
    · have e : inR n lo hi = false := inR_false.2 (.inr (by omega))
      have E := Lib.hid e
      have d1 : decide (lo ≤ n) = true := by simpa using h1
      have d2 : decide (n ≤ hi) = false := by simpa using h2
      clear e
      go_enter Try.func65, Try.ntmps65
      go_wp2_with fail
      go_ret
      exact ⟨by rw [E.out]; rfl, rfl⟩
  · have e : inR n lo hi = false := inR_false.2 (.inl (by omega))
    have E := Lib.hid e
    have d1 : decide (lo ≤ n) = false := by simpa using h1
    clear e
    go_enter Try.func65, Try.ntmps65
    go_wp2_with fail
    go_ret
    exact ⟨by rw [E.out]; rfl, rfl⟩
theorem opsT_any (k : Int) (w : World) : Calls Try.prog 182 #[.int .i64 k] w fun e w' => e = .returned (.int .i64 (opsT k)) ∧ Ext w w' := by
  by_cases h1 : inR k 1 16 = true
  · have H1 := Lib.hid h1
    have h2 := inR_iff.1 h1
    clear h1
    have hcs : ∀ j : Nat, j < 16 → k = (j : Int) + 1 → Calls Try.prog 182 #[.int .i64 k] w fun e w' => e = .returned (.int .i64 (opsT k)) ∧ Ext w w' := by
      intro j hj hk
      subst hk
      have HX := H1
      go_enter Try.func182, Try.ntmps182
      go_wp2_with (go_at_call 65; refine (within_any _ _ _ _).mono ?_; rw [HX.out]; rintro e w1 ⟨rfl, rfl⟩)
      go_ret
      refine ⟨?_, (Ext.refl _).alloc _⟩
      rcases (by omega : j = 0 ∨ j = 1 ∨ j = 2 ∨ j = 3 ∨ j = 4 ∨ j = 5 ∨ j = 6 ∨ j = 7 ∨ j = 8 ∨ j = 9 ∨ j = 10 ∨ j = 11 ∨ j = 12 ∨ j = 13 ∨ j = 14 ∨ j = 15) with rfl | rfl | rfl | rfl | rfl | rfl | rfl | rfl | rfl | rfl | rfl | rfl | rfl | rfl | rfl | rfl <;> rfl
    exact hcs (k - 1).toNat (by omega) (by omega)
  · have h2 : inR k 1 16 = false := by simpa using h1
    have H2 := Lib.hid h2
    have h3 := inR_false.1 h2
    have e : opsT k = -1 := by
      unfold opsT
      repeat rw [if_neg (by omega)]
    have E := Lib.hid e
    clear h1 h2 e
    go_enter Try.func182, Try.ntmps182
    go_wp2_with (go_at_call 65; refine (within_any _ _ _ _).mono ?_; rw [H2.out]; rintro e w1 ⟨rfl, rfl⟩)
    go_ret
    exact ⟨by rw [E.out]; rfl, Ext.refl _⟩
theorem mostT_any (k : Int) (w : World) : Calls Try.prog 183 #[.int .i64 k] w fun e w' => e = .returned (.int .i64 (mostT k)) ∧ w = w' := by
  by_cases h1 : k = 1
  · have e : mostT k = 20 := by simp [mostT, h1]
    have E := Lib.hid e
    have d1 : (k == 1) = true := by simpa using h1
    clear e h1
    go_enter Try.func183, Try.ntmps183
    go_wp2_with fail
    go_ret
    exact ⟨by rw [E.out]; rfl, rfl⟩
  · have d1 : (k == 1) = false := by simpa using h1
    by_cases h2 : k = 2
    · have e : mostT k = 3 := by simp [mostT, h2]
      have E := Lib.hid e
      have d2 : (k == 2) = true := by simpa using h2
      clear e h1 h2
      go_enter Try.func183, Try.ntmps183
      go_wp2_with fail
      go_ret
      exact ⟨by rw [E.out]; rfl, rfl⟩
    · have e : mostT k = 0 := by simp [mostT, h1, h2]
      have E := Lib.hid e
      have d2 : (k == 2) = false := by simpa using h2
      clear e h1 h2
      go_enter Try.func183, Try.ntmps183
      go_wp2_with fail
      go_ret
      exact ⟨by rw [E.out]; rfl, rfl⟩
end Go.Proofs.Ytappakllopkfiaa
namespace Go.Proofs.Ytappakllopkfiaa
open Go.RowKit
set_option linter.unusedVariables false
def ScanTermC (t : Tr) : Prop := ∀ (w : World) (B g : Nat) (v : Value) (deep c : Int), InT w (fun b => b < B) t v → B ≤ g → w.heap[g]? = some (.cells #[.int .i64 c] 3 (0, 0)) → 0 ≤ c → c ≤ 400 → 0 ≤ deep → deep ≤ 40 →
  Calls Try.prog 145 #[v, .int .i64 deep, .pointer (some ⟨g, 0, none⟩)] w fun e w' => e = .returned (.bool (scanR sigT t deep c).1) ∧ w'.heap[g]? = some (.cells #[.int .i64 (scanR sigT t deep c).2] 3 (0, 0)) ∧ Below B w w'
set_option maxRecDepth 100000 in
set_option maxHeartbeats 1600000 in
theorem scanTerm_any : ∀ t : Tr, ScanTermC t := Tr.ind fun k n ks hk => by
  intro w B g v deep c hin hBg hblk hc0 hc1 hd0 hd1
  obtain ⟨A, cap, rfl, hl, hc, h⟩ := InT.mk_iff.1 hin
  clear hin
  have hc' := hc
  unfold maxLen at hc'
  have hgs := lt_of_blk hblk
  have q0 : w.cell? ⟨g, 0, none⟩ = some (.int .i64 c) := cell_of_blk hblk 0
  have q1 := frozen_of_blk hblk 0
  have e : scanR sigT (.mk k n ks) deep c = if 400 < c + 1 then (false, c + 1) else if 30 < deep then (false, c + 1) else if opsT k = (ks.length : Int) then (if inR n 0 (mostT k) = true then scanRs sigT ks (deep + 1) (c + 1) else (false, c + 1)) else (false, c + 1) := by
    unfold scanR; rfl
  have E := Lib.hid e
  have HB := Lib.hid hblk
  have hW : ∀ W, W = (w.setCell ⟨g, 0, none⟩ (.int .i64 (c + 1))).alloc (.cells #[.int .i64 k, .int .i64 n, .slice A ks.length cap] 44) → W.heap[g]? = some (.cells #[.int .i64 (c + 1)] 3 (0, 0)) ∧ W.heap[w.heap.size]? = some (.cells #[.int .i64 k, .int .i64 n, .slice A ks.length cap] 44 (0, 0)) ∧ Below B w W ∧ w.heap.size < W.heap.size := by
    rintro W rfl
    have e0 := heap_alloc_new (w.setCell ⟨g, 0, none⟩ (.int .i64 (c + 1))) (.cells #[.int .i64 k, .int .i64 n, .slice A ks.length cap] 44)
    rw [World.size_setCell] at e0
    exact ⟨blk_alloc (blk_setCell HB.out 0 _) _, e0, ((Below.refl B w).setCell hBg _).alloc (by simp; omega) _, by simp⟩
  have HW := Lib.hid hW
  clear hW e 
  by_cases a1 : 400 < c + 1
  · rw [if_pos a1] at E
    have d1 : decide (400 < c + 1) = true := decide_eq_true a1
    go_enter Try.func145, Try.ntmps145
    go_wp2_with fail
    have hb := HW.out _ rfl
    generalize (w.setCell _ _).alloc _ = W at hb
    obtain ⟨b1, b2, b3, b4⟩ := hb
    obtain ⟨y0, y1, y2⟩ := Later.own3 b2
    have y3 : ∀ y : Later W, y.world.cell? ⟨g, 0, none⟩ = some (.int .i64 (c + 1)) := fun y => Later.cell (cell_of_blk b1 0) y
    have B1 := Lib.hid b1
    have B2 := Lib.hid b2
    clear b2 b1 q0 q1 hblk
    refine wp_region_later (by kernel_rfl) (by kernel_rfl) ?_
    repeat (go_big_quiet_step (first | (go_at_call 182; exact later_of (opsT_any _ _)) | (go_at_call 65; exact later_of_same (within_any _ _ _ _)) | (go_at_call 183; exact later_of_same (mostT_any _ _))))
    refine wpQuiet_nil ?_
    intro w3 hw'
    obtain ⟨⟨_, h3⟩, rfl⟩ := hw'
    clear y0 y1 y2 y3
    go_wp2_with fail
    go_ret
    exact ⟨by rw [E.out]; rfl, by rw [E.out]; exact h3.blk B1.out, b3.trans (h3.mono (by omega))⟩
  rw [if_neg a1] at E
  have d1 : decide (400 < c + 1) = false := decide_eq_false a1
  by_cases a2 : 30 < deep
  · rw [if_pos a2] at E
    have d2 : decide (30 < deep) = true := decide_eq_true a2
    go_enter Try.func145, Try.ntmps145
    go_wp2_with fail
    have hb := HW.out _ rfl
    generalize (w.setCell _ _).alloc _ = W at hb
    obtain ⟨b1, b2, b3, b4⟩ := hb
    obtain ⟨y0, y1, y2⟩ := Later.own3 b2
    have y3 : ∀ y : Later W, y.world.cell? ⟨g, 0, none⟩ = some (.int .i64 (c + 1)) := fun y => Later.cell (cell_of_blk b1 0) y
    have B1 := Lib.hid b1
    have B2 := Lib.hid b2
    clear b2 b1 q0 q1 hblk
    refine wp_region_later (by kernel_rfl) (by kernel_rfl) ?_
    repeat (go_big_quiet_step (first | (go_at_call 182; exact later_of (opsT_any _ _)) | (go_at_call 65; exact later_of_same (within_any _ _ _ _)) | (go_at_call 183; exact later_of_same (mostT_any _ _))))
    refine wpQuiet_nil ?_
    intro w3 hw'
    obtain ⟨⟨_, h3⟩, rfl⟩ := hw'
    clear y0 y1 y2 y3
    go_wp2_with fail
    go_ret
    exact ⟨by rw [E.out]; rfl, by rw [E.out]; exact h3.blk B1.out, b3.trans (h3.mono (by omega))⟩
  rw [if_neg a2] at E
  have d2 : decide (30 < deep) = false := decide_eq_false a2
  by_cases a3 : opsT k = (ks.length : Int)
  · rw [if_pos a3] at E
    have d3 : (opsT k != (ks.length : Int)) = false := by rw [a3]; simp
    clear a3
    obtain ⟨z, hz⟩ : ∃ z, inR n 0 (mostT k) = z := ⟨_, rfl⟩
    cases z with
    | false =>
      rw [hz, if_neg (by decide)] at E
      go_enter Try.func145, Try.ntmps145
      go_wp2_with fail
      have hb := HW.out _ rfl
      generalize (w.setCell _ _).alloc _ = W at hb
      obtain ⟨b1, b2, b3, b4⟩ := hb
      obtain ⟨y0, y1, y2⟩ := Later.own3 b2
      have y3 : ∀ y : Later W, y.world.cell? ⟨g, 0, none⟩ = some (.int .i64 (c + 1)) := fun y => Later.cell (cell_of_blk b1 0) y
      have B1 := Lib.hid b1
      have B2 := Lib.hid b2
      clear b2 b1 q0 q1 hblk
      refine wp_region_later (by kernel_rfl) (by kernel_rfl) ?_
      repeat (go_big_quiet_step (first | (go_at_call 182; exact later_of (opsT_any _ _)) | (go_at_call 65; exact later_of_same (within_any _ _ _ _)) | (go_at_call 183; exact later_of_same (mostT_any _ _))))
      refine wpQuiet_nil ?_
      intro w3 hw'
      obtain ⟨⟨_, h3⟩, rfl⟩ := hw'
      clear y0 y1 y2 y3
      go_wp2_with fail
      go_ret
      exact ⟨by rw [E.out]; rfl, by rw [E.out]; exact h3.blk B1.out, b3.trans (h3.mono (by omega))⟩
    | true =>
      rw [hz, if_pos rfl] at E
      go_enter Try.func145, Try.ntmps145
      go_wp2_with fail
      have hb := HW.out _ rfl
      generalize (w.setCell _ _).alloc _ = W at hb
      obtain ⟨b1, b2, b3, b4⟩ := hb
      obtain ⟨y0, y1, y2⟩ := Later.own3 b2
      have y3 : ∀ y : Later W, y.world.cell? ⟨g, 0, none⟩ = some (.int .i64 (c + 1)) := fun y => Later.cell (cell_of_blk b1 0) y
      have B1 := Lib.hid b1
      have B2 := Lib.hid b2
      clear b2 b1 q0 q1 hblk
      refine wp_region_later (by kernel_rfl) (by kernel_rfl) ?_
      repeat (go_big_quiet_step (first | (go_at_call 182; exact later_of (opsT_any _ _)) | (go_at_call 65; exact later_of_same (within_any _ _ _ _)) | (go_at_call 183; exact later_of_same (mostT_any _ _))))
      refine wpQuiet_nil ?_
      intro w3 hw'
      obtain ⟨⟨_, h3⟩, rfl⟩ := hw'
      clear y0 y1 y2 y3
      clear hz
      obtain ⟨z0, z1, z2, -, -, -⟩ := own3 (h3.blk B2.out)
      have hg3 := h3.blk B1.out
      have hB3 : Below B w w3 := b3.trans (h3.mono (by omega))
      have B4 := Lib.hid hg3
      clear hg3
      go_wp2_with fail
      clear z0 z1 z2
      go_loopw [43] (fun i wr => ∃ (j : Nat) (q : Int), j ≤ ks.length ∧ i = .int .i64 j ∧ wr.heap[g]? = some (.cells #[.int .i64 q] 3 (0, 0)) ∧ 0 ≤ q ∧ q ≤ 400 ∧ Below B w wr ∧ scanRs sigT ks (deep + 1) (c + 1) = scanRs sigT (ks.drop j) (deep + 1) q) (fun i _ => ks.length - (intOf i).toNat)
      case atStart => exact ⟨0, c + 1, Nat.zero_le _, rfl, B4.out, by omega, by omega, hB3, rfl⟩
      case round =>
        obtain ⟨j, q, hj, rfl, hblk, hq0, hq1, hbel, heq⟩ := hrel
        have HE := Lib.hid heq
        clear heq
        by_cases hlt : j < ks.length
        · obtain ⟨b, o, k2, n2, A2, cap2, kids, rfl, HK, c0, c1, c2, hkl, hkc, hK, hin, hmem, hSb⟩ := h.get (fun x hx => hbel.block x hx) hlt
          have hks := List.drop_eq_getElem_cons hlt
          rw [HK.out] at hks
          have hst : scanRs sigT (ks.drop j) (deep + 1) q = if (scanR sigT (.mk k2 n2 kids) (deep + 1) q).1 = true then scanRs sigT (ks.drop (j + 1)) (deep + 1) (scanR sigT (.mk k2 n2 kids) (deep + 1) q).2 else (false, (scanR sigT (.mk k2 n2 kids) (deep + 1) q).2) := by rw [hks]; conv => lhs; unfold scanRs
          have hsp := scanR_spec sigT (.mk k2 n2 kids) (deep + 1) q hq0 hq1
          have HB2 := Lib.hid hblk
          have hgwr := lt_of_blk hblk
          clear hblk hks
          go_wp2_with fail
          have hE1 := (Ext.refl wr).alloc (.cells #[.int .i64 k2, .int .i64 n2, .slice A2 kids.length cap2] 44)
          have hbw : B ≤ wr.heap.size := by omega
          refine (hk _ hmem _ B g _ (deep + 1) q (hin.mono (fun _ h => h) (fun x hx => hE1.heap x (by omega))) hBg (hE1.blk HB2.out) hq0 hq1 (by omega) (by omega)).mono ?_
          rintro e w4 ⟨rfl, h4, h5⟩
          have hbel4 : Below B w w4 := hbel.trans ((Below.mono hE1 hbw).trans h5)
          generalize scanR sigT (.mk k2 n2 kids) (deep + 1) q = r at hst hsp h4
          obtain ⟨r1, r2⟩ := r
          dsimp only at hst hsp h4
          cases r1 with
          | false =>
            rw [if_neg (by decide)] at hst
            have HT := Lib.hid hst
            have H4 := Lib.hid h4
            clear hst h4 hsp
            go_wp2_with fail
            go_ret
            exact ⟨by rw [E.out, HE.out, HT.out]; rfl, by rw [E.out, HE.out, HT.out]; exact H4.out, hbel4⟩
          | true =>
            rw [if_pos rfl] at hst
            have HT := Lib.hid hst
            have H4 := Lib.hid h4
            have hr2 := hsp.2.2.2.2 rfl
            have hr3 := hsp.2.2.1
            clear hst h4 hsp
            go_wp2_with fail
            go_roundw
            case rel => exact ⟨j + 1, r2, by omega, by go_num, H4.out, by omega, hr2, hbel4, by rw [HE.out, HT.out]⟩
            case measure => simp [intOf]; omega
        · have HB2 := Lib.hid hblk
          clear hblk
          go_wp2_with fail
          go_ret
          have hjk : ks.drop j = [] := List.drop_of_length_le (by omega)
          exact ⟨by rw [E.out, HE.out, hjk]; rfl, by rw [E.out, HE.out, hjk]; exact HB2.out, hbel⟩
  · rw [if_neg a3] at E
    have d3 : (opsT k != (ks.length : Int)) = true := by rw [bne_iff_ne]; exact a3
    clear a3
    go_enter Try.func145, Try.ntmps145
    go_wp2_with fail
    have hb := HW.out _ rfl
    generalize (w.setCell _ _).alloc _ = W at hb
    obtain ⟨b1, b2, b3, b4⟩ := hb
    obtain ⟨y0, y1, y2⟩ := Later.own3 b2
    have y3 : ∀ y : Later W, y.world.cell? ⟨g, 0, none⟩ = some (.int .i64 (c + 1)) := fun y => Later.cell (cell_of_blk b1 0) y
    have B1 := Lib.hid b1
    have B2 := Lib.hid b2
    clear b2 b1 q0 q1 hblk
    refine wp_region_later (by kernel_rfl) (by kernel_rfl) ?_
    repeat (go_big_quiet_step (first | (go_at_call 182; exact later_of (opsT_any _ _)) | (go_at_call 65; exact later_of_same (within_any _ _ _ _)) | (go_at_call 183; exact later_of_same (mostT_any _ _))))
    refine wpQuiet_nil ?_
    intro w3 hw'
    obtain ⟨⟨_, h3⟩, rfl⟩ := hw'
    clear y0 y1 y2 y3
    go_wp2_with fail
    go_ret
    exact ⟨by rw [E.out]; rfl, by rw [E.out]; exact h3.blk B1.out, b3.trans (h3.mono (by omega))⟩
end Go.Proofs.Ytappakllopkfiaa

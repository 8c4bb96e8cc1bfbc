/-
  Lemmas towards the law, 35: Nat.
-/
import Derived.Test.YtappakllopkfiaaCBG
import Derived.Test.YtappakllopkfiaaCBH
namespace Go.Proofs.Ytappakllopkfiaa
open Go.RowKit
set_option linter.unusedVariables false
theorem FromK.build {B g : Nat} {w : World} {cs : Array Value} {e : TypeId} {ks : List Tr} (h : RowL (w.alloc (.cells cs e)) (fun b => B ≤ b ∧ b < (w.alloc (.cells cs e)).heap.size) cs.toList ks) (hB : B ≤ w.heap.size) (hg : g = w.heap.size) : FromK B (w.alloc (.cells cs e)) (some ⟨g, 0, none⟩) ks := by
  subst hg
  exact .inr ⟨_, 0, rfl, ⟨hB, by simp⟩, RowL.inL (heap_alloc_new w _) (pre := []) h (by simp)⟩
theorem FromK.three {B g : Nat} {w : World} {t u v : Tr} {a0 a1 a2 b0 b1 b2 c0 c1 c2 : Value} {e : TypeId} (h1 : From B w t (.agg #[a0, a1, a2])) (h2 : From B w u (.agg #[b0, b1, b2])) (h3 : From B w v (.agg #[c0, c1, c2])) (hB : B ≤ w.heap.size) (hg : g = w.heap.size) : FromK B (w.alloc (.cells #[a0, a1, a2, b0, b1, b2, c0, c1, c2] e)) (some ⟨g, 0, none⟩) [t, u, v] :=
  FromK.build (RowL.cons_iff.2 ⟨_, _, _, _, rfl, h1.ext ((Ext.refl w).alloc _), RowL.cons_iff.2 ⟨_, _, _, _, rfl, h2.ext ((Ext.refl w).alloc _), RowL.cons_iff.2 ⟨_, _, _, _, rfl, h3.ext ((Ext.refl w).alloc _), RowL.nil⟩⟩⟩) hB hg
theorem FromK.four {B g : Nat} {w : World} {t u v x : Tr} {a0 a1 a2 b0 b1 b2 c0 c1 c2 d0 d1 d2 : Value} {e : TypeId} (h1 : From B w t (.agg #[a0, a1, a2])) (h2 : From B w u (.agg #[b0, b1, b2])) (h3 : From B w v (.agg #[c0, c1, c2])) (h4 : From B w x (.agg #[d0, d1, d2])) (hB : B ≤ w.heap.size) (hg : g = w.heap.size) : FromK B (w.alloc (.cells #[a0, a1, a2, b0, b1, b2, c0, c1, c2, d0, d1, d2] e)) (some ⟨g, 0, none⟩) [t, u, v, x] :=
  FromK.build (RowL.cons_iff.2 ⟨_, _, _, _, rfl, h1.ext ((Ext.refl w).alloc _), RowL.cons_iff.2 ⟨_, _, _, _, rfl, h2.ext ((Ext.refl w).alloc _), RowL.cons_iff.2 ⟨_, _, _, _, rfl, h3.ext ((Ext.refl w).alloc _), RowL.cons_iff.2 ⟨_, _, _, _, rfl, h4.ext ((Ext.refl w).alloc _), RowL.nil⟩⟩⟩⟩) hB hg
theorem FromK.only {B : Nat} {w w' : World} {A : Option Addr} {ks : List Tr} {L : List Nat} (h : FromK B w A ks) (ho : Only L w w') (hL : ∀ b, b ∈ L → b < B) : FromK B w' A ks := InK.mono (fun b hb => ⟨hb.1, Nat.lt_of_lt_of_le hb.2 ho.size⟩) (fun b hb => ho.block b hb.2 (fun hm => by have := hL b hm; omega)) h
theorem FromK.ext {B : Nat} {w w' : World} {A : Option Addr} {ks : List Tr} (h : FromK B w A ks) (ho : Ext w w') : FromK B w' A ks := InK.mono (fun b hb => ⟨hb.1, Nat.lt_of_lt_of_le hb.2 ho.size⟩) (fun b hb => ho.heap b hb.2) h
/-- Rows of block number B or newer, but none in block X. -/
def Away (B X : Nat) (w : World) (t : Tr) (v : Value) : Prop := InT w (fun b => B ≤ b ∧ b < w.heap.size ∧ b ≠ X) t v
def AwayK (B X : Nat) (w : World) (A : Option Addr) (ks : List Tr) : Prop := InK w (fun b => B ≤ b ∧ b < w.heap.size ∧ b ≠ X) A ks
theorem From.away {B X : Nat} {w : World} {t : Tr} {v : Value} (h : From B w t v) (hX : w.heap.size ≤ X ∨ X < B) : Away B X w t v := InT.mono (fun b hb => ⟨hb.1, hb.2, by omega⟩) (fun _ _ => rfl) h
theorem Away.frm {B X : Nat} {w : World} {t : Tr} {v : Value} (h : Away B X w t v) : From B w t v := InT.mono (fun b hb => ⟨hb.1, hb.2.1⟩) (fun _ _ => rfl) h
theorem Away.since {B C X : Nat} {w : World} {t : Tr} {v : Value} (h : Away B X w t v) (hC : C ≤ B) : Away C X w t v := InT.mono (fun b hb => ⟨Nat.le_trans hC hb.1, hb.2⟩) (fun _ _ => rfl) h
theorem Away.ext {B X : Nat} {w w' : World} {t : Tr} {v : Value} (h : Away B X w t v) (he : Ext w w') : Away B X w' t v := InT.mono (fun b hb => ⟨hb.1, Nat.lt_of_lt_of_le hb.2.1 he.size, hb.2.2⟩) (fun b hb => he.heap b hb.2.1) h
theorem Away.set {B X : Nat} {w : World} {t : Tr} {v : Value} (h : Away B X w t v) {p : Addr} (hp : p.block = X) (u : Value) : Away B X (w.setCell p u) t v :=
  InT.mono (fun b hb => ⟨hb.1, by simpa using hb.2.1, hb.2.2⟩) (fun b hb => Below.heap_setCell w p u b (by rw [hp]; exact hb.2.2)) h
theorem AwayK.ext {B X : Nat} {w w' : World} {A : Option Addr} {ks : List Tr} (h : AwayK B X w A ks) (he : Ext w w') : AwayK B X w' A ks := InK.mono (fun b hb => ⟨hb.1, Nat.lt_of_lt_of_le hb.2.1 he.size, hb.2.2⟩) (fun b hb => he.heap b hb.2.1) h
theorem AwayK.two {B X : Nat} {w : World} {t : Tr} {v0 v1 v2 : Value} {e : TypeId} (h : Away B X w t (.agg #[v0, v1, v2])) (hB : B ≤ w.heap.size) (hX : X ≠ w.heap.size) : AwayK B X (w.alloc (.cells #[.int .i64 6, .int .i64 0, .slice none 0 0, v0, v1, v2] e)) (some ⟨w.heap.size, 0, none⟩) [.mk 6 0 [], t] := by
  have hx := (Ext.refl w).alloc (.cells #[.int .i64 6, .int .i64 0, .slice none 0 0, v0, v1, v2] e)
  have hg := heap_alloc_new w (.cells #[.int .i64 6, .int .i64 0, .slice none 0 0, v0, v1, v2] e)
  have hN : Away B X (w.alloc (.cells #[.int .i64 6, .int .i64 0, .slice none 0 0, v0, v1, v2] e)) (.mk 6 0 []) (.agg #[.int .i64 6, .int .i64 0, .slice none 0 0]) := InT.mk_iff.2 ⟨none, 0, rfl, Nat.le_refl _, Nat.zero_le _, .inl rfl⟩
  have h2 := h.ext hx
  refine .inr ⟨w.heap.size, 0, rfl, ⟨hB, by simp, fun h => hX h.symm⟩, ?_⟩
  unfold InL
  refine ⟨⟨_, _, _, cell_of_blk hg 0, cell_of_blk hg 1, cell_of_blk hg 2, hN⟩, ?_⟩
  unfold InL
  refine ⟨⟨v0, v1, v2, cell_of_blk hg 3, cell_of_blk hg 4, cell_of_blk hg 5, h2⟩, ?_⟩
  unfold InL
  trivial
/-- Where the box is made after the tree and ahead of its row. -/
theorem AwayK.mid {B : Nat} {w : World} {t : Tr} {v0 v1 v2 : Value} {e : TypeId} (Z : Obj) (h : From B w t (.agg #[v0, v1, v2])) (hB : B ≤ w.heap.size) : AwayK B w.heap.size ((w.alloc Z).alloc (.cells #[.int .i64 6, .int .i64 0, .slice none 0 0, v0, v1, v2] e)) (some ⟨w.heap.size + 1, 0, none⟩) [.mk 6 0 [], t] ∧ ((w.alloc Z).alloc (.cells #[.int .i64 6, .int .i64 0, .slice none 0 0, v0, v1, v2] e)).heap[w.heap.size]? = some Z := by
  have q := AwayK.two (e := e) ((h.away (.inl (Nat.le_refl _))).ext ((Ext.refl w).alloc Z)) (by simp; omega) (by simp)
  rw [World.size_alloc] at q
  exact ⟨q, ((Ext.refl _).alloc _).blk (heap_alloc_new w Z)⟩
/-- Where the box is made behind the row. -/
theorem AwayK.late {B : Nat} {w : World} {t : Tr} {v0 v1 v2 : Value} {e : TypeId} (Z : Obj) (h : From B w t (.agg #[v0, v1, v2])) (hB : B ≤ w.heap.size) : AwayK B (w.heap.size + 1) ((w.alloc (.cells #[.int .i64 6, .int .i64 0, .slice none 0 0, v0, v1, v2] e)).alloc Z) (some ⟨w.heap.size, 0, none⟩) [.mk 6 0 [], t] ∧ ((w.alloc (.cells #[.int .i64 6, .int .i64 0, .slice none 0 0, v0, v1, v2] e)).alloc Z).heap[w.heap.size + 1]? = some Z := by
  refine ⟨(AwayK.two (e := e) (h.away (.inl (by omega))) hB (by omega)).ext ((Ext.refl _).alloc Z), ?_⟩
  have q := heap_alloc_new (w.alloc (.cells #[.int .i64 6, .int .i64 0, .slice none 0 0, v0, v1, v2] e)) Z
  rwa [World.size_alloc] at q
theorem l1Node_away {B X : Nat} (w : World) (k : Int) (A : Option Addr) (cap : Nat) (ks : List Tr) (hA : A = none → cap = 0) (hK : AwayK B X w A ks) (hB : B ≤ w.heap.size) (hX : X < w.heap.size) (hn : ks.length ≤ 1099511627776) :
    Calls Try.prog 126 #[.int .i64 k, .slice A ks.length cap] w fun e w' => ∃ u, e = .returned u ∧ Away B X w' (.mk k 0 ks) u ∧ Ext w w' :=
  (l1Node_any w k A cap ks hA _ (fun b hb => hb.2.1) hK hn).mono fun e w' ⟨u, h1, h2, h3⟩ => ⟨u, h1, h2.mono (fun b hb => by
    have := h3.size
    rcases hb with hb | hb
    · exact ⟨hb.1, by omega, hb.2.2⟩
    · exact ⟨by omega, hb.2, by omega⟩) (fun _ _ => rfl), h3⟩
/-- A tree of some depth and some nodes. -/
def Sh (d : Int) (c : Nat) (t : Tr) : Prop := shape sigT t d = true ∧ cnt t ≤ c
theorem Sh.up {d e : Int} {c f : Nat} {t : Tr} (h : Sh d c t) (h1 : d ≤ e) (h2 : c ≤ f) : Sh e f t := ⟨shape_up h.1 h1, Nat.le_trans h.2 h2⟩
theorem Sh.leaf {k n : Int} {d : Int} {c : Nat} (hk : opsT k = 0) (h0 : 0 ≤ n) (h1 : n ≤ mostT k) (hd : 1 ≤ d) (hc : 1 ≤ c) : Sh d c (.mk k n []) := ⟨shape_mk hd hk h0 h1 (fun t ht => by cases ht), by simp only [cnt, cnts]; omega⟩
theorem mostT_nonneg (k : Int) : 0 ≤ mostT k := by unfold mostT; split <;> (try split) <;> omega
theorem Sh.n1 {k d : Int} {c1 : Nat} {t1 : Tr} (hk : opsT k = 1) (h1 : Sh d c1 t1) : Sh (d + 1) (c1 + 1) (.mk k 0 [t1]) :=
  ⟨shape_mk (by have := shape_pos h1.1; omega) hk (by omega) (mostT_nonneg k) (fun t ht => by simp at ht; subst ht; rw [Int.add_sub_cancel]; exact h1.1), by have := h1.2; simp only [cnt, cnts]; omega⟩
theorem Sh.n2 {k d : Int} {c1 c2 : Nat} {t1 t2 : Tr} (hk : opsT k = 2) (h1 : Sh d c1 t1) (h2 : Sh d c2 t2) : Sh (d + 1) (c1 + c2 + 1) (.mk k 0 [t1, t2]) :=
  ⟨shape_mk (by have := shape_pos h1.1; omega) hk (by omega) (mostT_nonneg k) (fun t ht => by simp at ht; rw [Int.add_sub_cancel]; rcases ht with rfl | rfl; exact h1.1; exact h2.1), by have := h1.2; have := h2.2; simp only [cnt, cnts]; omega⟩
theorem Sh.n3 {k d : Int} {c1 c2 c3 : Nat} {t1 t2 t3 : Tr} (hk : opsT k = 3) (h1 : Sh d c1 t1) (h2 : Sh d c2 t2) (h3 : Sh d c3 t3) : Sh (d + 1) (c1 + c2 + c3 + 1) (.mk k 0 [t1, t2, t3]) :=
  ⟨shape_mk (by have := shape_pos h1.1; omega) hk (by omega) (mostT_nonneg k) (fun t ht => by simp at ht; rw [Int.add_sub_cancel]; rcases ht with rfl | rfl | rfl; exact h1.1; exact h2.1; exact h3.1), by have := h1.2; have := h2.2; have := h3.2; simp only [cnt, cnts]; omega⟩
theorem Sh.n4 {k d : Int} {c1 c2 c3 c4 : Nat} {t1 t2 t3 t4 : Tr} (hk : opsT k = 4) (h1 : Sh d c1 t1) (h2 : Sh d c2 t2) (h3 : Sh d c3 t3) (h4 : Sh d c4 t4) : Sh (d + 1) (c1 + c2 + c3 + c4 + 1) (.mk k 0 [t1, t2, t3, t4]) :=
  ⟨shape_mk (by have := shape_pos h1.1; omega) hk (by omega) (mostT_nonneg k) (fun t ht => by simp at ht; rw [Int.add_sub_cancel]; rcases ht with rfl | rfl | rfl | rfl; exact h1.1; exact h2.1; exact h3.1; exact h4.1), by have := h1.2; have := h2.2; have := h3.2; have := h4.2; simp only [cnt, cnts]; omega⟩
def natc : Nat → Nat
  | 0 => 1
  | k + 1 => 8 + 3 * natc k
theorem natc_pos (k : Nat) : 1 ≤ natc k := by cases k <;> simp only [natc] <;> omega
def NatC (k : Nat) : Prop := ∀ (w : World) (g m : Nat) (sc sz : Int), Rd w g m → m + nd k < 900000 → 0 ≤ sc → sc + 2 * k ≤ 20 → -3 ≤ sz → sz ≤ k → Calls Try.prog 142 #[.pointer (some ⟨g, 0, none⟩), .int .i64 sc, .int .i64 sz] w fun e w' => ∃ t u, e = .returned u ∧ From w.heap.size w' t u ∧ Sh (3 * k + 1) (natc k) t ∧ Rd w' g (m + nd k) ∧ Only [g] w w'
set_option maxRecDepth 100000 in
set_option maxHeartbeats 40000000 in
theorem l5Nat_step (k : Nat) (hk4 : k ≤ 10) (ih : 1 ≤ k → NatC (k - 1)) : NatC k := by
  intro w g m sc sz hR hm hsc0 hsc1 hsz0 hsz1
  have hgl := hR.lt
  have hx0 := (Ext.refl w).alloc (.cells #[.int .i64 0, .int .i64 0, .slice none 0 0] 44)
  have b60 := heap_alloc_new w (.cells #[.int .i64 0, .int .i64 0, .slice none 0 0] 44)
  go_enter Try.func142, Try.ntmps142
  go_wp2_with fail
  generalize hw0 : w.alloc _ = w0 at hx0 b60 ⊢
  clear hw0
  refine (l1Leaf_any _ 7 0).mono ?_
  rintro e w1 ⟨rfl, e1⟩
  go_wp2_with fail
  refine (l1Leaf_any _ 6 0).mono ?_
  rintro e w2 ⟨rfl, e2⟩
  have b72 := e2.blk (heap_alloc_new w1 (.cells #[.int .i64 7, .int .i64 0, .slice none 0 0] 44))
  have hx2 := ((hx0.trans e1).trans ((Ext.refl w1).alloc (.cells #[.int .i64 7, .int .i64 0, .slice none 0 0] 44))).trans e2
  have b62 := (e1.trans (((Ext.refl w1).alloc (.cells #[.int .i64 7, .int .i64 0, .slice none 0 0] 44)).trans e2)).blk b60
  have hx3 := hx2.trans ((Ext.refl w2).alloc (.cells #[.int .i64 6, .int .i64 0, .slice none 0 0] 44))
  obtain ⟨w3, hw3⟩ : ∃ w3, w3 = w2.alloc (.cells #[.int .i64 6, .int .i64 0, .slice none 0 0] 44) := ⟨_, rfl⟩
  have e3 : Ext w2 w3 := hw3 ▸ (Ext.refl w2).alloc _
  have b83 : w3.heap[w2.heap.size]? = some (.cells #[.int .i64 6, .int .i64 0, .slice none 0 0] 44 (0, 0)) := hw3 ▸ heap_alloc_new w2 _
  have b63 := e3.blk b62
  have b73 := e3.blk b72
  rw [← hw3] at hx3
  obtain ⟨g7, hg7⟩ : ∃ g7, g7 = w1.heap.size := ⟨_, rfl⟩
  obtain ⟨g8, hg8⟩ : ∃ g8, g8 = w2.heap.size := ⟨_, rfl⟩
  have hl60 : w.heap.size < w0.heap.size := lt_of_blk b60
  have hl1 := e1.size
  have hl2 := lt_of_blk b72
  have hl3 := lt_of_blk b83
  by_cases hlow : sz < 1
  · have t0 : decide (sz < 1) = true := decide_eq_true hlow
    clear ih
    have hnd : 3 ≤ nd k := by cases k with
      | zero => decide
      | succ k => show 3 ≤ 3 + 4 * nd k; omega
    have hO3 := Only.of_ext (L := [g]) hx3
    have hR3 := hR.ext hx3
    by_cases hs : sc ≤ 0
    · have t1 : decide (0 < sc) = false := decide_eq_false (by omega)
      rw [hw3] at b63 b73 hx3 hR3 hO3
      obtain ⟨z0, z1, z2, -, -, -⟩ := own3 b73
      obtain ⟨y0, y1, y2, f0, f1, f2⟩ := own3 b63
      clear hw3 hx0 b60 e1 e2 hx2 b62 hx3 e3 b63 b73 b72 hg7 hg8 hl1 hl2 hl3 hl60 b83
      go_wp2_with fail
      refine bodyPost_ret (v := .agg #[.int .i64 7, .int .i64 0, .slice none 0 0]) (by simp [results, Try.results142, go_sem, y0, y1, y2]) rfl ⟨_, _, rfl, From.leaf _ _ 7 0, Sh.leaf rfl (by decide) (by decide) (by omega) (natc_pos k), ?_, ?_⟩
      · exact (((hR3.mono (by omega)).set (by show g < w.heap.size; omega) _).set (by show g < w.heap.size; omega) _).set (by show g < w.heap.size; omega) _
      · exact ((hO3.setNew (by simp) _).setNew (by simp) _).setNew (by simp) _
    · have t1 : decide (0 < sc) = true := decide_eq_true (by omega)
      go_wp2_with fail
      rw [← hw3]
      rw [← hg7] at b73 ⊢
      refine (pick_any _ g m 2 hR3 (by omega)).mono ?_
      rintro e w4 ⟨x, rfl, -, -, hR4, o4⟩
      have b64 := o4.keepBlk b63 (by simp; omega)
      have b74 := o4.keepBlk b73 (by simp; omega)
      have hO4 := hO3.trans o4
      clear hw3 hx0 b60 e1 e2 hx2 b62 hx3 e3 b63 b73 b72 hg7 hg8 hl1 hl2 hl3 hl60 b83 hR3 hO3 hR
      by_cases hx : x = 0
      · subst hx
        go_wp2_with fail
        refine (pick_any _ g _ sc hR4 (by omega)).mono ?_
        rintro e w5 ⟨y, rfl, hy0, hy1, hR5, o5⟩
        have b65 := o5.keepBlk b64 (by simp; omega)
        have hO5 := hO4.trans o5
        clear b64 b74 hR4 hO4
        go_wp2_with fail
        refine (l1Leaf_any _ 1 y).mono ?_
        rintro e w6 ⟨rfl, e6⟩
        obtain ⟨y0, y1, y2, f0, f1, f2⟩ := own3 (e6.blk b65)
        have hR6 := hR5.ext e6
        have hO6 := hO5.trans (Only.of_ext (L := [g]) e6)
        clear b65 hO5 hR5
        have hgx := hgl
        clear hgl
        go_wp2_with fail
        refine bodyPost_ret (v := .agg #[.int .i64 1, .int .i64 y, .slice none 0 0]) (by simp [results, Try.results142, go_sem, y0, y1, y2]) rfl ⟨_, _, rfl, From.leaf _ _ 1 y, Sh.leaf rfl hy0 (show y ≤ 20 by omega) (by omega) (natc_pos k), ?_, ?_⟩
        · exact (((hR6.mono (by omega)).set (by show g < w.heap.size; omega) _).set (by show g < w.heap.size; omega) _).set (by show g < w.heap.size; omega) _
        · exact ((hO6.setNew (by simp) _).setNew (by simp) _).setNew (by simp) _
      · have tx : (x == 0) = false := beq_eq_false_iff_ne.2 hx
        obtain ⟨z0, z1, z2, -, -, -⟩ := own3 b74
        obtain ⟨y0, y1, y2, f0, f1, f2⟩ := own3 b64
        clear b64 b74
        have hgx := hgl
        clear hgl
        go_wp2_with fail
        refine bodyPost_ret (v := .agg #[.int .i64 7, .int .i64 0, .slice none 0 0]) (by simp [results, Try.results142, go_sem, y0, y1, y2]) rfl ⟨_, _, rfl, From.leaf _ _ 7 0, Sh.leaf rfl (by decide) (by decide) (by omega) (natc_pos k), ?_, ?_⟩
        · exact (((hR4.mono (by omega)).set (by show g < w.heap.size; omega) _).set (by show g < w.heap.size; omega) _).set (by show g < w.heap.size; omega) _
        · exact ((hO4.setNew (by simp) _).setNew (by simp) _).setNew (by simp) _
  · have t0 : decide (sz < 1) = false := decide_eq_false hlow
    have hk1 : 1 ≤ k := by omega
    obtain ⟨q, hq⟩ : ∃ q, q = nd (k - 1) := ⟨_, rfl⟩
    have hnd : nd k = 3 + 4 * q := by
      rw [hq]
      cases k with
      | zero => omega
      | succ k => rfl
    obtain ⟨D, hD0⟩ : ∃ D : Int, D = 3 * ((k - 1 : Nat) : Int) + 1 := ⟨_, rfl⟩
    obtain ⟨C, hC0⟩ : ∃ C : Nat, C = natc (k - 1) := ⟨_, rfl⟩
    have hC : natc k = 8 + 3 * C := by
      rw [hC0]
      cases k with
      | zero => omega
      | succ k => rfl
    have hD : 3 * (k : Int) + 1 = D + 3 := by omega
    have hD1 : 1 ≤ D := by omega
    have HI := Lib.hid (fun W m' SC SZ (h1 : Rd W g m') (h2 : m' + q < 900000) (h3 : 0 ≤ SC) (h4 : SC + 2 * ((k - 1 : Nat) : Int) ≤ 20) (h5 : -3 ≤ SZ) (h6 : SZ ≤ ((k - 1 : Nat) : Int)) => (show Calls Try.prog 142 #[.pointer (some ⟨g, 0, none⟩), .int .i64 SC, .int .i64 SZ] W fun e w' => ∃ t u, e = .returned u ∧ From W.heap.size w' t u ∧ Sh D C t ∧ Rd w' g (m' + q) ∧ Only [g] W w' from by subst hq; subst hD0; subst hC0; exact ih hk1 W g m' SC SZ h1 (by omega) h3 h4 h5 h6))
    clear hq ih hD0 hC0
    go_wp2_with fail
    rw [← hw3]
    rw [← hg7] at b73 ⊢
    rw [← hg8] at b83 ⊢
    refine (pick_any _ g m 7 (hR.ext hx3) (by omega)).mono ?_
    rintro e wX ⟨x, rfl, -, -, hRX, oX⟩
    have hO0 : Only [g] w wX := (Only.of_ext hx3).trans oX
    have b6 := oX.keepBlk b63 (by simp; omega)
    have b7 := oX.keepBlk b73 (by simp; omega)
    have b8 := oX.keepBlk b83 (by simp; omega)
    obtain ⟨B0, hB0⟩ : ∃ B0, B0 = wX.heap.size := ⟨_, rfl⟩
    have hgB : ∀ b, b ∈ [g] → b < B0 := by intro b hb; rw [List.mem_singleton.1 hb, hB0]; have := hO0.size; omega
    have hwB : w.heap.size < B0 := by rw [hB0]; exact lt_of_blk b6
    have hBX : B0 ≤ wX.heap.size := by omega
    have h68 : w.heap.size < g8 := by omega
    have h8X : g8 < wX.heap.size := lt_of_blk b8
    clear hB0 hw3 hx0 b60 e1 e2 hx2 b62 hx3 e3 b63 b73 b83 oX hR b72 hg7 hg8 hl1 hl2 hl3 hl60
    by_cases h4 : x = 4
    · subst h4
      have OX := Only.refl [g] wX
      go_wp2_with fail
      refine (HI.out _ (m + 1) (sc) (0) hRX (by omega) (by omega) (by omega) (by omega) (by omega)).mono ?_
      rintro e w1 ⟨ta, u, rfl, hFa, hSa, hR1, o1⟩
      obtain ⟨ka, na, Aa, la, ca, rfl⟩ := hFa.three
      have s1 := OX.size
      have O1 := OX.trans o1
      have b61 := o1.keepBlk b6 (by simp; omega)
      have b81 := o1.keepBlk b8 (by simp; omega)
      have hFa1 := hFa.since (show B0 ≤ _ from by omega)
      obtain ⟨y0, y1, y2, f0, f1, f2⟩ := own3 b61
      have hgx := hgl
      clear hgl
      go_wp2_with fail
      refine bodyPost_ret (v := .agg #[.int .i64 ka, .int .i64 na, .slice Aa la ca]) (by simp [results, Try.results142, go_sem, y0, y1, y2]) rfl ⟨ta, _, rfl, ?_, hSa.up (by omega) (by omega), ?_, ?_⟩
      · exact ((hFa1.set (by show w.heap.size < B0; omega) _).set (by show w.heap.size < B0; omega) _).set (by show w.heap.size < B0; omega) _ |>.since (by omega)
      · exact (((hR1.mono (by omega)).set (by show g < w.heap.size; omega) _).set (by show g < w.heap.size; omega) _).set (by show g < w.heap.size; omega) _
      · exact (((hO0.trans O1).setNew (by simp) _).setNew (by simp) _).setNew (by simp) _

    by_cases hx0 : x = 0
    · subst hx0
      have OX := Only.refl [g] wX
      go_wp2_with fail
      have hD := (Ext.refl wX).drew
      have hsub : ∀ x, x ∈ [g] → x ∈ [g, w.heap.size] := by intro x hx; rw [List.mem_singleton.1 hx]; simp
      have hK8 := fun w' (ho : Only [g, w.heap.size] wX w') => own3 (ho.keepBlk b8 (by simp; omega))
      have HK := Lib.hid (show ∀ w', Only [g, w.heap.size] wX w' → w'.cell? ⟨g8, 0, none⟩ = some (.int .i64 6) ∧ w'.cell? ⟨g8, 1, none⟩ = some (.int .i64 0) ∧ w'.cell? ⟨g8, 2, none⟩ = some (.slice none 0 0) from fun w' ho => ⟨(hK8 w' ho).1, (hK8 w' ho).2.1, (hK8 w' ho).2.2.1⟩)
      clear hK8
      have HW0 := Lib.hid (IntWalk.i64_in (sc + 1) ⟨by omega, by omega⟩)
      have HW1 := Lib.hid (IntWalk.i64_in (sz - 1) ⟨by omega, by omega⟩)
      have ODl := Only.refl [g] wX
      have hgx := hgl
      clear hgl
      have hRD := hRX.ext hD
      have b6D := hD.blk b6
      have b8D := hD.blk b8
      go_region_held3 (fun w' => w'.cell? ⟨g8, 0, none⟩ = some (.int .i64 6) ∧ w'.cell? ⟨g8, 1, none⟩ = some (.int .i64 0) ∧ w'.cell? ⟨g8, 2, none⟩ = some (.slice none 0 0))
        (first | exact HK.out _ (by exact Only.mono (Only.of_ext hD) hsub) | exact HK.out _ (by exact (Only.mono (Only.of_ext hD) hsub).alloc _) | exact HK.out _ (by exact Only.mono O1 hsub) | exact HK.out _ (by exact (Only.mono O1 hsub).alloc _) | exact HK.out _ (by exact Only.mono O2 hsub) | exact HK.out _ (by exact (Only.mono O2 hsub).alloc _) | exact HK.out _ (by exact Only.mono O3 hsub) | exact HK.out _ (by exact (Only.mono O3 hsub).alloc _) | exact HK.out _ (by exact Only.mono O4 hsub) | exact HK.out _ (by exact (Only.mono O4 hsub).alloc _) | exact HK.out _ (by exact (((O4.mono hsub).setCell (by simp) _).setCell (by simp) _).setCell (by simp) _))
        (first | (go_at_call 142; (try rw [HW0.out]); (try rw [HW1.out]); (with_reducible show Calls _ _ #[_, .int .i64 (sc + 1), .int .i64 (sz - 1)] _ _); refine (HI.out _ (m + 1) (sc + 1) (sz - 1) hRD (by omega) (by omega) (by omega) (by omega) (by omega)).mono ?_; rintro e w1 ⟨ta, u, rfl, hFa, hSa, hR1, o1⟩; obtain ⟨ka, na, Aa, la, ca, rfl⟩ := hFa.three; have s1 := (Only.of_ext (L := [g]) hD).size; have O1 := (Only.of_ext (L := [g]) hD).trans o1; have b61 := o1.keepBlk b6D (by simp; omega); have b81 := o1.keepBlk b8D (by simp; omega); have hFa1 := hFa.since (show B0 ≤ _ from by omega)) | (go_at_call 126; (with_reducible show Calls _ _ #[.int .i64 4, _] _ _); have s2 := O1.size; refine (l1Node_from B0 _ (4) _ 2 [.mk 6 0 [], ta] (by intro h; cases h) (FromK.two (g := w1.heap.size) (e := 44) (From.leaf B0 _ 6 0) hFa1 (by omega) rfl) (by simp; omega) (by simp)).mono ?_; rintro e w2 ⟨u, rfl, hFb, e2'⟩; obtain ⟨kb, nb, Ab, lb, cb, rfl⟩ := hFb.three; have e2 : Ext w1 w2 := ((Ext.refl w1).alloc (.cells #[.int .i64 6, .int .i64 0, .slice none 0 0, .int .i64 ka, .int .i64 na, .slice Aa la ca] 44)).trans e2'; clear e2'; have O2 := O1.trans (Only.of_ext (L := [g]) e2); have hR2 := hR1.ext e2; have hFa2 := hFa1.ext e2; have b62 := e2.blk b61; have b82 := e2.blk b81; obtain ⟨tb, htb⟩ : ∃ t, t = Tr.mk (4) 0 [.mk 6 0 [], ta] := ⟨_, rfl⟩; rw [← htb] at hFb; have hSb : Sh (D + 1) (1 * C + 2) tb := (by rw [htb]; exact (Sh.n2 rfl ((Sh.leaf (k := 6) (n := 0) (d := 1) (c := 1) rfl (by decide) (by decide) (by decide) (by decide)).up (e := D + 0) (by omega) (Nat.le_refl _)) (hSa.up (e := D + 0) (by omega) (Nat.le_refl _))).up (e := D + 1) (f := 1 * C + 2) (by omega) (by omega)); clear htb) | (go_at_call 142; (try rw [HW0.out]); (try rw [HW1.out]); (with_reducible show Calls _ _ #[_, .int .i64 (sc), .int .i64 (sz - 1)] _ _); refine (HI.out _ (m + 1 + q) (sc) (sz - 1) hR2 (by omega) (by omega) (by omega) (by omega) (by omega)).mono ?_; rintro e w3 ⟨tc, u, rfl, hFc, hSc, hR3, o3⟩; obtain ⟨kc, nc, Ac, lc, cc, rfl⟩ := hFc.three; have s3 := O2.size; have O3 := O2.trans o3; have hFa3 := hFa2.only o3 hgB; have hFb3 := hFb.only o3 hgB; have b63 := o3.keepBlk b62 (by simp; omega); have b83 := o3.keepBlk b82 (by simp; omega); have hFc3 := hFc.since (show B0 ≤ _ from by omega)) | (go_at_call 126; (with_reducible show Calls _ _ #[.int .i64 5, _] _ _); have s4 := O3.size; refine (l1Node_from B0 _ (5) _ 2 [tb, tc] (by intro h; cases h) (FromK.two (g := w3.heap.size) (e := 44) hFb3 hFc3 (by omega) rfl) (by simp; omega) (by simp)).mono ?_; rintro e w4 ⟨u, rfl, hFd, e4'⟩; obtain ⟨kd, nd, Ad, ld, cd, rfl⟩ := hFd.three; have e4 : Ext w3 w4 := ((Ext.refl w3).alloc (.cells #[.int .i64 kb, .int .i64 nb, .slice Ab lb cb, .int .i64 kc, .int .i64 nc, .slice Ac lc cc] 44)).trans e4'; clear e4'; have O4 := O3.trans (Only.of_ext (L := [g]) e4); have hR4 := hR3.ext e4; have hFa4 := hFa3.ext e4; have hFb4 := hFb3.ext e4; have hFc4 := hFc3.ext e4; have b64 := e4.blk b63; have b84 := e4.blk b83; obtain ⟨td, htd⟩ : ∃ t, t = Tr.mk (5) 0 [tb, tc] := ⟨_, rfl⟩; rw [← htd] at hFd; have hSd : Sh (D + 2) (2 * C + 3) td := (by rw [htd]; exact (Sh.n2 rfl (hSb.up (e := D + 1) (by omega) (Nat.le_refl _)) (hSc.up (e := D + 1) (by omega) (Nat.le_refl _))).up (e := D + 2) (f := 2 * C + 3) (by omega) (by omega)); clear htd; obtain ⟨y0, y1, y2, f0, f1, f2⟩ := own3 b64))
      clear HK
      go_wp2_with fail
      refine bodyPost_ret (v := .agg #[.int .i64 kd, .int .i64 nd, .slice Ad ld cd]) (by simp [results, Try.results142, go_sem, y0, y1, y2]) rfl ⟨td, _, rfl, ?_, hSd.up (by omega) (by omega), ?_, ?_⟩
      · exact ((hFd.set (by show w.heap.size < B0; omega) _).set (by show w.heap.size < B0; omega) _).set (by show w.heap.size < B0; omega) _ |>.since (by omega)
      · exact (((hR4.mono (by omega)).set (by show g < w.heap.size; omega) _).set (by show g < w.heap.size; omega) _).set (by show g < w.heap.size; omega) _
      · exact (((hO0.trans (OX.trans O4)).setNew (by simp) _).setNew (by simp) _).setNew (by simp) _
    by_cases hx1 : x = 1
    · subst hx1
      have OX := Only.refl [g] wX
      go_wp2_with fail
      have hD := (Ext.refl wX).drew
      have hZ := ((Ext.refl wX).alloc (.cells #[.int .i64 0, .int .i64 0, .slice none 0 0] 44)).drew
      have zA : (wX.alloc (.cells #[.int .i64 0, .int .i64 0, .slice none 0 0] 44)).drew.heap[wX.heap.size]? = some (.cells #[.int .i64 0, .int .i64 0, .slice none 0 0] 44 (0, 0)) := heap_alloc_new wX _
      have hK8 := fun w' (ho : Only [g] wX w') => own3 (ho.keepBlk b8 (by simp; omega))
      have HK := Lib.hid (show ∀ w', Only [g] wX w' → w'.cell? ⟨g8, 0, none⟩ = some (.int .i64 6) ∧ w'.cell? ⟨g8, 1, none⟩ = some (.int .i64 0) ∧ w'.cell? ⟨g8, 2, none⟩ = some (.slice none 0 0) from fun w' ho => ⟨(hK8 w' ho).1, (hK8 w' ho).2.1, (hK8 w' ho).2.2.1⟩)
      clear hK8
      have HW0 := Lib.hid (IntWalk.i64_in (sc + 2) ⟨by omega, by omega⟩)
      have HW1 := Lib.hid (IntWalk.i64_in (sz - 2) ⟨by omega, by omega⟩)
      have hgx := hgl
      clear hgl
      go_region_held3 (fun w' => w'.cell? ⟨g8, 0, none⟩ = some (.int .i64 6) ∧ w'.cell? ⟨g8, 1, none⟩ = some (.int .i64 0) ∧ w'.cell? ⟨g8, 2, none⟩ = some (.slice none 0 0))
        (first | exact HK.out _ (by with_reducible exact (Only.of_ext hD)) | exact HK.out _ (by with_reducible exact (Only.of_ext hZ)) | exact HK.out _ (by with_reducible exact (Only.of_ext (((Ext.refl _).alloc _).drew))) | exact HK.out _ (by with_reducible exact O1) | exact HK.out _ (by with_reducible exact (O1.alloc _)) | exact HK.out _ (by with_reducible exact ((O1.alloc _).alloc _)) | exact HK.out _ (by with_reducible exact O2) | exact HK.out _ (by with_reducible exact (O2.alloc _)) | exact HK.out _ (by with_reducible exact ((O2.alloc _).alloc _)) | exact HK.out _ (by with_reducible exact O3) | exact HK.out _ (by with_reducible exact (O3.alloc _)) | exact HK.out _ (by with_reducible exact ((O3.alloc _).alloc _)) | exact HK.out _ (by exact (((Only.setNew (by first | exact O3 | exact O3.alloc _) (by first | (simp; done) | (simp; omega)) _).setNew (by first | (simp; done) | (simp; omega)) _).setNew (by first | (simp; done) | (simp; omega)) _)))
        (first | (go_at_call 142; (try rw [HW0.out]); (try rw [HW1.out]); (with_reducible show Calls _ _ #[_, .int .i64 (sc + 2), .int .i64 (sz - 2)] (World.drew (World.alloc wX _)) _); refine (HI.out _ (m + 1) (sc + 2) (sz - 2) (hRX.ext hZ) (by omega) (by omega) (by omega) (by omega) (by omega)).mono ?_; rintro e w1 ⟨ta, u, rfl, hFa, hSa, hR1, o1⟩; obtain ⟨ka, na, Aa, la, ca, rfl⟩ := hFa.three; have O1 : Only [g] wX w1 := (Only.of_ext hZ).trans o1; have s1 := O1.size; have q1 := o1.keepBlk zA (by simp; omega); have p1 : Away B0 wX.heap.size w1 ta _ := Away.since (hFa.away (.inr (by show wX.heap.size < (World.alloc _ _).heap.size; simp))) (by show B0 ≤ (World.alloc _ _).heap.size; simp; omega); have hFa1 := p1.frm; have hB1 : B0 ≤ w1.heap.size := by omega) | (go_at_call 142; (try rw [HW0.out]); (try rw [HW1.out]); (with_reducible show Calls _ _ #[_, .int .i64 (sc + 2), .int .i64 (sz - 2)] (World.drew wX) _); refine (HI.out _ (m + 1) (sc + 2) (sz - 2) (hRX.ext hD) (by omega) (by omega) (by omega) (by omega) (by omega)).mono ?_; rintro e w1 ⟨ta, u, rfl, hFa, hSa, hR1, o1⟩; obtain ⟨ka, na, Aa, la, ca, rfl⟩ := hFa.three; have O1 : Only [g] wX w1 := (Only.of_ext hD).trans o1; have s1 := O1.size; have q1 := trivial; have p1 := trivial; have hFa1 : From B0 w1 ta _ := hFa.since hBX; have hB1 : B0 ≤ w1.heap.size := by omega) | (go_at_call 126; (first | (with_reducible show Calls _ _ #[_, .slice (some ⟨w1.heap.size, 0, none⟩) _ _] _ _) | (with_reducible show Calls _ _ #[_, .slice (some ⟨w1.heap.size + 1, 0, none⟩) _ _] _ _)); (first | ((with_reducible change Away _ _ _ _ _ at p1); (with_reducible show Calls _ _ #[_, .slice (some ⟨w1.heap.size, 0, none⟩) _ _] (World.alloc w1 _) _); (refine (l1Node_away (B := B0) _ 4 _ 2 [.mk 6 0 [], ta] (by intro h; cases h) (AwayK.two (e := 44) p1 hB1 (by have := lt_of_blk q1; omega)) (by first | omega | (simp; omega) | (simp; done)) (by have := lt_of_blk q1; first | omega | (simp; omega) | (simp; done)) (by simp)).mono ?_); rintro e w2 ⟨u, rfl, hN2, e2'⟩; have e2 : Ext w1 w2 := ((Ext.refl w1).alloc _).trans e2'; have q2 := e2.blk q1; have p2 := hN2; have hF2 := hN2.frm) | ((with_reducible show Calls _ _ #[_, .slice (some ⟨w1.heap.size + 1, 0, none⟩) _ _] (World.alloc (World.alloc w1 _) _) _); (refine (l1Node_away (B := B0) (X := w1.heap.size) _ 4 _ 2 [.mk 6 0 [], ta] (by intro h; cases h) (AwayK.mid (e := 44) (.cells #[.int .i64 0, .int .i64 0, .slice none 0 0] 44 (0, 0)) hFa1 hB1).1 (by first | omega | (simp; omega) | (simp; done)) (by first | omega | (simp; omega) | (simp; done)) (by simp)).mono ?_); rintro e w2 ⟨u, rfl, hN2, e2'⟩; have e2 : Ext w1 w2 := (((Ext.refl w1).alloc _).alloc _).trans e2'; have q2 := e2'.blk (AwayK.mid (e := 44) (.cells #[.int .i64 0, .int .i64 0, .slice none 0 0] 44 (0, 0)) hFa1 hB1).2; have p2 := hN2; have hF2 := hN2.frm) | ((with_reducible show Calls _ _ #[_, .slice (some ⟨w1.heap.size, 0, none⟩) _ _] (World.alloc (World.alloc w1 _) _) _); (refine (l1Node_away (B := B0) (X := w1.heap.size + 1) _ 4 _ 2 [.mk 6 0 [], ta] (by intro h; cases h) (AwayK.late (e := 44) (.cells #[.int .i64 0, .int .i64 0, .slice none 0 0] 44 (0, 0)) hFa1 hB1).1 (by first | omega | (simp; omega) | (simp; done)) (by simp) (by simp)).mono ?_); rintro e w2 ⟨u, rfl, hN2, e2'⟩; have e2 : Ext w1 w2 := (((Ext.refl w1).alloc _).alloc _).trans e2'; have q2 := e2'.blk (AwayK.late (e := 44) (.cells #[.int .i64 0, .int .i64 0, .slice none 0 0] 44 (0, 0)) hFa1 hB1).2; have p2 := hN2; have hF2 := hN2.frm) | ((with_reducible change True at p1); (with_reducible show Calls _ _ #[_, .slice (some ⟨w1.heap.size, 0, none⟩) _ _] (World.alloc w1 _) _); (refine (l1Node_from B0 _ 4 _ 2 [.mk 6 0 [], ta] (by intro h; cases h) (FromK.two (g := w1.heap.size) (e := 44) (From.leaf B0 _ 6 0) hFa1 hB1 rfl) (by first | omega | (simp; omega) | (simp; done)) (by simp)).mono ?_); rintro e w2 ⟨u, rfl, hN2, e2'⟩; have e2 : Ext w1 w2 := ((Ext.refl w1).alloc _).trans e2'; have q2 := trivial; have p2 := trivial; have hF2 := hN2)); obtain ⟨k2, n2, A2, l2, c2, rfl⟩ := hF2.three; have O2 := O1.trans (Only.of_ext (L := [g]) e2); have hR2 := hR1.ext e2; have s2 := e2.size; have hB2 : B0 ≤ w2.heap.size := (by omega); obtain ⟨t2, ht2⟩ : ∃ t, t = Tr.mk 4 0 [.mk 6 0 [], ta] := ⟨_, rfl⟩; rw [← ht2] at hF2; (try rw [← ht2] at p2); have hS2 : Sh (D + 1) (1 * C + 2) t2 := (by rw [ht2]; exact (Sh.n2 rfl (Sh.leaf (k := 6) (n := 0) (d := D + 0) (c := 1) rfl (by decide) (by decide) (by omega) (by decide)) (hSa.up (e := D + 0) (by omega) (Nat.le_refl _))).up (by omega) (by omega)); clear ht2) | (go_at_call 126; (first | (with_reducible show Calls _ _ #[_, .slice (some ⟨w2.heap.size, 0, none⟩) _ _] _ _) | (with_reducible show Calls _ _ #[_, .slice (some ⟨w2.heap.size + 1, 0, none⟩) _ _] _ _)); (first | ((with_reducible change Away _ _ _ _ _ at p2); (with_reducible show Calls _ _ #[_, .slice (some ⟨w2.heap.size, 0, none⟩) _ _] (World.alloc w2 _) _); (refine (l1Node_away (B := B0) _ 4 _ 2 [.mk 6 0 [], t2] (by intro h; cases h) (AwayK.two (e := 44) p2 hB2 (by have := lt_of_blk q2; omega)) (by first | omega | (simp; omega) | (simp; done)) (by have := lt_of_blk q2; first | omega | (simp; omega) | (simp; done)) (by simp)).mono ?_); rintro e w3 ⟨u, rfl, hN3, e3'⟩; have e3 : Ext w2 w3 := ((Ext.refl w2).alloc _).trans e3'; have q3 := e3.blk q2; have p3 := hN3; have hF3 := hN3.frm; obtain ⟨sa, sb, sd, fa, fb, fc⟩ := own3 q3) | ((with_reducible show Calls _ _ #[_, .slice (some ⟨w2.heap.size + 1, 0, none⟩) _ _] (World.alloc (World.alloc w2 _) _) _); (refine (l1Node_away (B := B0) (X := w2.heap.size) _ 4 _ 2 [.mk 6 0 [], t2] (by intro h; cases h) (AwayK.mid (e := 44) (.cells #[.int .i64 0, .int .i64 0, .slice none 0 0] 44 (0, 0)) hF2 hB2).1 (by first | omega | (simp; omega) | (simp; done)) (by first | omega | (simp; omega) | (simp; done)) (by simp)).mono ?_); rintro e w3 ⟨u, rfl, hN3, e3'⟩; have e3 : Ext w2 w3 := (((Ext.refl w2).alloc _).alloc _).trans e3'; have q3 := e3'.blk (AwayK.mid (e := 44) (.cells #[.int .i64 0, .int .i64 0, .slice none 0 0] 44 (0, 0)) hF2 hB2).2; have p3 := hN3; have hF3 := hN3.frm; obtain ⟨sa, sb, sd, fa, fb, fc⟩ := own3 q3) | ((with_reducible show Calls _ _ #[_, .slice (some ⟨w2.heap.size, 0, none⟩) _ _] (World.alloc (World.alloc w2 _) _) _); (refine (l1Node_away (B := B0) (X := w2.heap.size + 1) _ 4 _ 2 [.mk 6 0 [], t2] (by intro h; cases h) (AwayK.late (e := 44) (.cells #[.int .i64 0, .int .i64 0, .slice none 0 0] 44 (0, 0)) hF2 hB2).1 (by first | omega | (simp; omega) | (simp; done)) (by simp) (by simp)).mono ?_); rintro e w3 ⟨u, rfl, hN3, e3'⟩; have e3 : Ext w2 w3 := (((Ext.refl w2).alloc _).alloc _).trans e3'; have q3 := e3'.blk (AwayK.late (e := 44) (.cells #[.int .i64 0, .int .i64 0, .slice none 0 0] 44 (0, 0)) hF2 hB2).2; have p3 := hN3; have hF3 := hN3.frm; obtain ⟨sa, sb, sd, fa, fb, fc⟩ := own3 q3) | ((with_reducible change True at p2); (with_reducible show Calls _ _ #[_, .slice (some ⟨w2.heap.size, 0, none⟩) _ _] (World.alloc w2 _) _); (refine (l1Node_from B0 _ 4 _ 2 [.mk 6 0 [], t2] (by intro h; cases h) (FromK.two (g := w2.heap.size) (e := 44) (From.leaf B0 _ 6 0) hF2 hB2 rfl) (by first | omega | (simp; omega) | (simp; done)) (by simp)).mono ?_); rintro e w3 ⟨u, rfl, hN3, e3'⟩; have e3 : Ext w2 w3 := ((Ext.refl w2).alloc _).trans e3'; have q3 := trivial; have p3 := trivial; have hF3 := hN3)); obtain ⟨k3, n3, A3, l3, c3, rfl⟩ := hF3.three; have O3 := O2.trans (Only.of_ext (L := [g]) e3); have hR3 := hR2.ext e3; have s3 := e3.size; have hB3 : B0 ≤ w3.heap.size := (by omega); obtain ⟨t3, ht3⟩ : ∃ t, t = Tr.mk 4 0 [.mk 6 0 [], t2] := ⟨_, rfl⟩; rw [← ht3] at hF3; (try rw [← ht3] at p3); have hS3 : Sh (D + 2) (1 * C + 4) t3 := (by rw [ht3]; exact (Sh.n2 rfl (Sh.leaf (k := 6) (n := 0) (d := D + 1) (c := 1) rfl (by decide) (by decide) (by omega) (by decide)) (hS2.up (e := D + 1) (by omega) (Nat.le_refl _))).up (by omega) (by omega)); clear ht3))
      all_goals (
        clear HK HW0 HW1
        first
        | (obtain ⟨wN, hwN⟩ : ∃ x, x = w3.alloc (.cells #[.int .i64 k3, .int .i64 n3, .slice A3 l3 c3] 44) := ⟨_, rfl⟩; rw [← hwN]; have bn := heap_alloc_new w3 (.cells #[.int .i64 k3, .int .i64 n3, .slice A3 l3 c3] 44); have On := O3.alloc (.cells #[.int .i64 k3, .int .i64 n3, .slice A3 l3 c3] 44); have fn := hF3.ext ((Ext.refl w3).alloc (.cells #[.int .i64 k3, .int .i64 n3, .slice A3 l3 c3] 44)); have hRn := hR3.ext ((Ext.refl w3).alloc (.cells #[.int .i64 k3, .int .i64 n3, .slice A3 l3 c3] 44)); rw [← hwN] at bn On fn hRn; clear hwN; obtain ⟨g9, hg9⟩ : ∃ x, x = w3.heap.size := ⟨_, rfl⟩; have hgs9 : wX.heap.size ≤ g9 := (by omega); rw [← hg9] at bn ⊢; clear hg9)
        | (obtain ⟨wN, hwN⟩ : ∃ x, x = ((w3.setCell ⟨wX.heap.size, 0, none⟩ (.int .i64 k3)).setCell ⟨wX.heap.size, 1, none⟩ (.int .i64 n3)).setCell ⟨wX.heap.size, 2, none⟩ (.slice A3 l3 c3) := ⟨_, rfl⟩; rw [← hwN]; have bn := blk_setCell (blk_setCell (blk_setCell q3 0 (.int .i64 k3)) 1 (.int .i64 n3)) 2 (.slice A3 l3 c3); have On := ((O3.setNew (p := ⟨wX.heap.size, 0, none⟩) (show wX.heap.size ≤ wX.heap.size from by omega) (.int .i64 k3)).setNew (p := ⟨wX.heap.size, 1, none⟩) (show wX.heap.size ≤ wX.heap.size from by omega) (.int .i64 n3)).setNew (p := ⟨wX.heap.size, 2, none⟩) (show wX.heap.size ≤ wX.heap.size from by omega) (.slice A3 l3 c3); have fn := Away.frm (((p3.set (p := ⟨wX.heap.size, 0, none⟩) rfl (.int .i64 k3)).set (p := ⟨wX.heap.size, 1, none⟩) rfl (.int .i64 n3)).set (p := ⟨wX.heap.size, 2, none⟩) rfl (.slice A3 l3 c3)); have hRn := ((hR3.set (p := ⟨wX.heap.size, 0, none⟩) (show g < wX.heap.size from by omega) (.int .i64 k3)).set (p := ⟨wX.heap.size, 1, none⟩) (show g < wX.heap.size from by omega) (.int .i64 n3)).set (p := ⟨wX.heap.size, 2, none⟩) (show g < wX.heap.size from by omega) (.slice A3 l3 c3); rw [← hwN] at bn On fn hRn; clear hwN; obtain ⟨g9, hg9⟩ : ∃ x, x = wX.heap.size := ⟨_, rfl⟩; have hgs9 : wX.heap.size ≤ g9 := (by omega); rw [← hg9] at bn ⊢; clear hg9)
        | (obtain ⟨wN, hwN⟩ : ∃ x, x = ((w3.setCell ⟨w1.heap.size, 0, none⟩ (.int .i64 k3)).setCell ⟨w1.heap.size, 1, none⟩ (.int .i64 n3)).setCell ⟨w1.heap.size, 2, none⟩ (.slice A3 l3 c3) := ⟨_, rfl⟩; rw [← hwN]; have bn := blk_setCell (blk_setCell (blk_setCell q3 0 (.int .i64 k3)) 1 (.int .i64 n3)) 2 (.slice A3 l3 c3); have On := ((O3.setNew (p := ⟨w1.heap.size, 0, none⟩) (show wX.heap.size ≤ w1.heap.size from by omega) (.int .i64 k3)).setNew (p := ⟨w1.heap.size, 1, none⟩) (show wX.heap.size ≤ w1.heap.size from by omega) (.int .i64 n3)).setNew (p := ⟨w1.heap.size, 2, none⟩) (show wX.heap.size ≤ w1.heap.size from by omega) (.slice A3 l3 c3); have fn := Away.frm (((p3.set (p := ⟨w1.heap.size, 0, none⟩) rfl (.int .i64 k3)).set (p := ⟨w1.heap.size, 1, none⟩) rfl (.int .i64 n3)).set (p := ⟨w1.heap.size, 2, none⟩) rfl (.slice A3 l3 c3)); have hRn := ((hR3.set (p := ⟨w1.heap.size, 0, none⟩) (show g < w1.heap.size from by omega) (.int .i64 k3)).set (p := ⟨w1.heap.size, 1, none⟩) (show g < w1.heap.size from by omega) (.int .i64 n3)).set (p := ⟨w1.heap.size, 2, none⟩) (show g < w1.heap.size from by omega) (.slice A3 l3 c3); rw [← hwN] at bn On fn hRn; clear hwN; obtain ⟨g9, hg9⟩ : ∃ x, x = w1.heap.size := ⟨_, rfl⟩; have hgs9 : wX.heap.size ≤ g9 := (by omega); rw [← hg9] at bn ⊢; clear hg9)
        | (obtain ⟨wN, hwN⟩ : ∃ x, x = ((w3.setCell ⟨(w1.heap.size + 1), 0, none⟩ (.int .i64 k3)).setCell ⟨(w1.heap.size + 1), 1, none⟩ (.int .i64 n3)).setCell ⟨(w1.heap.size + 1), 2, none⟩ (.slice A3 l3 c3) := ⟨_, rfl⟩; rw [← hwN]; have bn := blk_setCell (blk_setCell (blk_setCell q3 0 (.int .i64 k3)) 1 (.int .i64 n3)) 2 (.slice A3 l3 c3); have On := ((O3.setNew (p := ⟨(w1.heap.size + 1), 0, none⟩) (show wX.heap.size ≤ (w1.heap.size + 1) from by omega) (.int .i64 k3)).setNew (p := ⟨(w1.heap.size + 1), 1, none⟩) (show wX.heap.size ≤ (w1.heap.size + 1) from by omega) (.int .i64 n3)).setNew (p := ⟨(w1.heap.size + 1), 2, none⟩) (show wX.heap.size ≤ (w1.heap.size + 1) from by omega) (.slice A3 l3 c3); have fn := Away.frm (((p3.set (p := ⟨(w1.heap.size + 1), 0, none⟩) rfl (.int .i64 k3)).set (p := ⟨(w1.heap.size + 1), 1, none⟩) rfl (.int .i64 n3)).set (p := ⟨(w1.heap.size + 1), 2, none⟩) rfl (.slice A3 l3 c3)); have hRn := ((hR3.set (p := ⟨(w1.heap.size + 1), 0, none⟩) (show g < (w1.heap.size + 1) from by omega) (.int .i64 k3)).set (p := ⟨(w1.heap.size + 1), 1, none⟩) (show g < (w1.heap.size + 1) from by omega) (.int .i64 n3)).set (p := ⟨(w1.heap.size + 1), 2, none⟩) (show g < (w1.heap.size + 1) from by omega) (.slice A3 l3 c3); rw [← hwN] at bn On fn hRn; clear hwN; obtain ⟨g9, hg9⟩ : ∃ x, x = (w1.heap.size + 1) := ⟨_, rfl⟩; have hgs9 : wX.heap.size ≤ g9 := (by omega); rw [← hg9] at bn ⊢; clear hg9)
        | (obtain ⟨wN, hwN⟩ : ∃ x, x = ((w3.setCell ⟨w2.heap.size, 0, none⟩ (.int .i64 k3)).setCell ⟨w2.heap.size, 1, none⟩ (.int .i64 n3)).setCell ⟨w2.heap.size, 2, none⟩ (.slice A3 l3 c3) := ⟨_, rfl⟩; rw [← hwN]; have bn := blk_setCell (blk_setCell (blk_setCell q3 0 (.int .i64 k3)) 1 (.int .i64 n3)) 2 (.slice A3 l3 c3); have On := ((O3.setNew (p := ⟨w2.heap.size, 0, none⟩) (show wX.heap.size ≤ w2.heap.size from by omega) (.int .i64 k3)).setNew (p := ⟨w2.heap.size, 1, none⟩) (show wX.heap.size ≤ w2.heap.size from by omega) (.int .i64 n3)).setNew (p := ⟨w2.heap.size, 2, none⟩) (show wX.heap.size ≤ w2.heap.size from by omega) (.slice A3 l3 c3); have fn := Away.frm (((p3.set (p := ⟨w2.heap.size, 0, none⟩) rfl (.int .i64 k3)).set (p := ⟨w2.heap.size, 1, none⟩) rfl (.int .i64 n3)).set (p := ⟨w2.heap.size, 2, none⟩) rfl (.slice A3 l3 c3)); have hRn := ((hR3.set (p := ⟨w2.heap.size, 0, none⟩) (show g < w2.heap.size from by omega) (.int .i64 k3)).set (p := ⟨w2.heap.size, 1, none⟩) (show g < w2.heap.size from by omega) (.int .i64 n3)).set (p := ⟨w2.heap.size, 2, none⟩) (show g < w2.heap.size from by omega) (.slice A3 l3 c3); rw [← hwN] at bn On fn hRn; clear hwN; obtain ⟨g9, hg9⟩ : ∃ x, x = w2.heap.size := ⟨_, rfl⟩; have hgs9 : wX.heap.size ≤ g9 := (by omega); rw [← hg9] at bn ⊢; clear hg9)
        | (obtain ⟨wN, hwN⟩ : ∃ x, x = ((w3.setCell ⟨(w2.heap.size + 1), 0, none⟩ (.int .i64 k3)).setCell ⟨(w2.heap.size + 1), 1, none⟩ (.int .i64 n3)).setCell ⟨(w2.heap.size + 1), 2, none⟩ (.slice A3 l3 c3) := ⟨_, rfl⟩; rw [← hwN]; have bn := blk_setCell (blk_setCell (blk_setCell q3 0 (.int .i64 k3)) 1 (.int .i64 n3)) 2 (.slice A3 l3 c3); have On := ((O3.setNew (p := ⟨(w2.heap.size + 1), 0, none⟩) (show wX.heap.size ≤ (w2.heap.size + 1) from by omega) (.int .i64 k3)).setNew (p := ⟨(w2.heap.size + 1), 1, none⟩) (show wX.heap.size ≤ (w2.heap.size + 1) from by omega) (.int .i64 n3)).setNew (p := ⟨(w2.heap.size + 1), 2, none⟩) (show wX.heap.size ≤ (w2.heap.size + 1) from by omega) (.slice A3 l3 c3); have fn := Away.frm (((p3.set (p := ⟨(w2.heap.size + 1), 0, none⟩) rfl (.int .i64 k3)).set (p := ⟨(w2.heap.size + 1), 1, none⟩) rfl (.int .i64 n3)).set (p := ⟨(w2.heap.size + 1), 2, none⟩) rfl (.slice A3 l3 c3)); have hRn := ((hR3.set (p := ⟨(w2.heap.size + 1), 0, none⟩) (show g < (w2.heap.size + 1) from by omega) (.int .i64 k3)).set (p := ⟨(w2.heap.size + 1), 1, none⟩) (show g < (w2.heap.size + 1) from by omega) (.int .i64 n3)).set (p := ⟨(w2.heap.size + 1), 2, none⟩) (show g < (w2.heap.size + 1) from by omega) (.slice A3 l3 c3); rw [← hwN] at bn On fn hRn; clear hwN; obtain ⟨g9, hg9⟩ : ∃ x, x = (w2.heap.size + 1) := ⟨_, rfl⟩; have hgs9 : wX.heap.size ≤ g9 := (by omega); rw [← hg9] at bn ⊢; clear hg9)
        have hgl := hgx
        have sNX := On.size
        have b6n := On.keepBlk b6 (by simp; omega)
        have b8n := On.keepBlk b8 (by simp; omega)
        clear q3 p3 q2 p2 q1 p1 hF3 hF2 hR3 hR2 hR1 e3' e2' hN3 hN2 hFa1 hFa zA hD hZ
        go_wp2_with fail
        have hD := (Ext.refl wN).drew
        have hsub : ∀ x, x ∈ [g] → x ∈ [g, w.heap.size] := by intro x hx; rw [List.mem_singleton.1 hx]; simp
        have hK8 := fun w' (ho : Only [g, w.heap.size] wN w') => own3 (ho.keepBlk b8n (by simp; omega))
        have hK9 := fun w' (ho : Only [g, w.heap.size] wN w') => own3 (ho.keepBlk bn (by simp; omega))
        have HK := Lib.hid (show ∀ w', Only [g, w.heap.size] wN w' → w'.cell? ⟨g8, 0, none⟩ = some (.int .i64 6) ∧ w'.cell? ⟨g8, 1, none⟩ = some (.int .i64 0) ∧ w'.cell? ⟨g8, 2, none⟩ = some (.slice none 0 0) ∧ w'.cell? ⟨g9, 0, none⟩ = some (.int .i64 k3) ∧ w'.cell? ⟨g9, 1, none⟩ = some (.int .i64 n3) ∧ w'.cell? ⟨g9, 2, none⟩ = some (.slice A3 l3 c3) from fun w' ho => ⟨(hK8 w' ho).1, (hK8 w' ho).2.1, (hK8 w' ho).2.2.1, (hK9 w' ho).1, (hK9 w' ho).2.1, (hK9 w' ho).2.2.1⟩)
        clear hK8 hK9
        have HW0 := Lib.hid (IntWalk.i64_in (sz - 1) ⟨by omega, by omega⟩)
        have HW1 := Lib.hid (IntWalk.i64_in (sz - 2) ⟨by omega, by omega⟩)
        have ODl := Only.refl [g] wN
        have hgx := hgl
        clear hgl
        go_region_held3 (fun w' => w'.cell? ⟨g8, 0, none⟩ = some (.int .i64 6) ∧ w'.cell? ⟨g8, 1, none⟩ = some (.int .i64 0) ∧ w'.cell? ⟨g8, 2, none⟩ = some (.slice none 0 0) ∧ w'.cell? ⟨g9, 0, none⟩ = some (.int .i64 k3) ∧ w'.cell? ⟨g9, 1, none⟩ = some (.int .i64 n3) ∧ w'.cell? ⟨g9, 2, none⟩ = some (.slice A3 l3 c3))
          (first | exact HK.out _ (by exact Only.mono (Only.of_ext hD) hsub) | exact HK.out _ (by exact (Only.mono (Only.of_ext hD) hsub).alloc _) | exact HK.out _ (by exact Only.mono (Only.of_ext (((Ext.refl wN).alloc _).drew)) hsub) | exact HK.out _ (by exact (Only.mono (Only.of_ext (((Ext.refl wN).alloc _).drew)) hsub).alloc _) | exact HK.out _ (by exact Only.mono O21 hsub) | exact HK.out _ (by exact (Only.mono O21 hsub).alloc _) | exact HK.out _ (by exact Only.mono O22 hsub) | exact HK.out _ (by exact (Only.mono O22 hsub).alloc _) | exact HK.out _ (by exact Only.mono O23 hsub) | exact HK.out _ (by exact (Only.mono O23 hsub).alloc _) | exact HK.out _ (by exact Only.mono O24 hsub) | exact HK.out _ (by exact (Only.mono O24 hsub).alloc _) | exact HK.out _ (by exact (((O24.mono hsub).setCell (by simp) _).setCell (by simp) _).setCell (by simp) _))
          (first | (go_at_call 126; (with_reducible show Calls _ _ #[.int .i64 4, _] _ _); have s21 := ODl.size; refine (l1Node_from B0 _ (4) _ 2 [.mk 6 0 [], .mk 6 0 []] (by intro h; cases h) ((FromK.two (g := wN.heap.size) (e := 44) (From.leaf B0 _ 6 0) (From.leaf B0 _ 6 0) (by omega) rfl).ext (Ext.refl _).drew) (by show B0 ≤ (World.alloc _ _).heap.size; simp; omega) (by simp)).mono ?_; rintro e w21 ⟨u, rfl, hFa, e21'⟩; obtain ⟨ka, na, Aa, la, ca, rfl⟩ := hFa.three; have e21 : Ext wN w21 := ((Ext.refl wN).alloc (.cells #[.int .i64 6, .int .i64 0, .slice none 0 0, .int .i64 6, .int .i64 0, .slice none 0 0] 44)).drew.trans e21'; clear e21'; have O21 := ODl.trans (Only.of_ext (L := [g]) e21); have hR21 := hRn.ext e21; have hF321 := fn.ext e21; have b621 := e21.blk b6n; have b821 := e21.blk b8n; have b921 := e21.blk bn; obtain ⟨ta, hta⟩ : ∃ t, t = Tr.mk (4) 0 [.mk 6 0 [], .mk 6 0 []] := ⟨_, rfl⟩; rw [← hta] at hFa; have hSa : Sh (D + 1) (0 * C + 3) ta := (by rw [hta]; exact (Sh.n2 rfl ((Sh.leaf (k := 6) (n := 0) (d := 1) (c := 1) rfl (by decide) (by decide) (by decide) (by decide)).up (e := D + 0) (by omega) (Nat.le_refl _)) ((Sh.leaf (k := 6) (n := 0) (d := 1) (c := 1) rfl (by decide) (by decide) (by decide) (by decide)).up (e := D + 0) (by omega) (Nat.le_refl _))).up (e := D + 1) (f := 0 * C + 3) (by omega) (by omega)); clear hta) | (go_at_call 142; (try rw [HW0.out]); (try rw [HW1.out]); (with_reducible show Calls _ _ #[_, .int .i64 (sc), .int .i64 (sz - 2)] _ _); refine (HI.out _ (m + 1 + q) (sc) (sz - 2) hR21 (by omega) (by omega) (by omega) (by omega) (by omega)).mono ?_; rintro e w22 ⟨tb, u, rfl, hFb, hSb, hR22, o22⟩; obtain ⟨kb, nb, Ab, lb, cb, rfl⟩ := hFb.three; have s22 := O21.size; have O22 := O21.trans o22; have hF322 := hF321.only o22 hgB; have hFa22 := hFa.only o22 hgB; have b622 := o22.keepBlk b621 (by simp; omega); have b822 := o22.keepBlk b821 (by simp; omega); have b922 := o22.keepBlk b921 (by simp; omega); have hFb22 := hFb.since (show B0 ≤ _ from by omega)) | (go_at_call 142; (try rw [HW0.out]); (try rw [HW1.out]); (with_reducible show Calls _ _ #[_, .int .i64 (sc), .int .i64 (sz - 1)] _ _); refine (HI.out _ (m + 1 + q + q) (sc) (sz - 1) hR22 (by omega) (by omega) (by omega) (by omega) (by omega)).mono ?_; rintro e w23 ⟨td, u, rfl, hFd, hSd, hR23, o23⟩; obtain ⟨kd, nd, Ad, ld, cd, rfl⟩ := hFd.three; have s23 := O22.size; have O23 := O22.trans o23; have hF323 := hF322.only o23 hgB; have hFa23 := hFa22.only o23 hgB; have hFb23 := hFb22.only o23 hgB; have b623 := o23.keepBlk b622 (by simp; omega); have b823 := o23.keepBlk b822 (by simp; omega); have b923 := o23.keepBlk b922 (by simp; omega); have hFd23 := hFd.since (show B0 ≤ _ from by omega)) | (go_at_call 126; (with_reducible show Calls _ _ #[.int .i64 9, _] _ _); have s24 := O23.size; refine (l1Node_from B0 _ (9) _ 4 [ta, tb, t3, td] (by intro h; cases h) (FromK.four (g := w23.heap.size) (e := 44) hFa23 hFb23 hF323 hFd23 (by omega) rfl) (by simp; omega) (by simp)).mono ?_; rintro e w24 ⟨u, rfl, hFe, e24'⟩; obtain ⟨ke, ne, Ae, le, ce, rfl⟩ := hFe.three; have e24 : Ext w23 w24 := ((Ext.refl w23).alloc (.cells #[.int .i64 ka, .int .i64 na, .slice Aa la ca, .int .i64 kb, .int .i64 nb, .slice Ab lb cb, .int .i64 k3, .int .i64 n3, .slice A3 l3 c3, .int .i64 kd, .int .i64 nd, .slice Ad ld cd] 44)).trans e24'; clear e24'; have O24 := O23.trans (Only.of_ext (L := [g]) e24); have hR24 := hR23.ext e24; have hF324 := hF323.ext e24; have hFa24 := hFa23.ext e24; have hFb24 := hFb23.ext e24; have hFd24 := hFd23.ext e24; have b624 := e24.blk b623; have b824 := e24.blk b823; have b924 := e24.blk b923; obtain ⟨te, hte⟩ : ∃ t, t = Tr.mk (9) 0 [ta, tb, t3, td] := ⟨_, rfl⟩; rw [← hte] at hFe; have hSe : Sh (D + 3) (3 * C + 8) te := (by rw [hte]; exact (Sh.n4 rfl (hSa.up (e := D + 2) (by omega) (Nat.le_refl _)) (hSb.up (e := D + 2) (by omega) (Nat.le_refl _)) (hS3.up (e := D + 2) (by omega) (Nat.le_refl _)) (hSd.up (e := D + 2) (by omega) (Nat.le_refl _))).up (e := D + 3) (f := 3 * C + 8) (by omega) (by omega)); clear hte; obtain ⟨y0, y1, y2, f0, f1, f2⟩ := own3 b624))
        clear HK
        go_wp2_with fail
        refine bodyPost_ret (v := .agg #[.int .i64 ke, .int .i64 ne, .slice Ae le ce]) (by simp [results, Try.results142, go_sem, y0, y1, y2]) rfl ⟨te, _, rfl, ?_, hSe.up (by omega) (by omega), ?_, ?_⟩
        · exact ((hFe.set (by show w.heap.size < B0; omega) _).set (by show w.heap.size < B0; omega) _).set (by show w.heap.size < B0; omega) _ |>.since (by omega)
        · exact (((hR24.mono (by omega)).set (by show g < w.heap.size; omega) _).set (by show g < w.heap.size; omega) _).set (by show g < w.heap.size; omega) _
        · exact (((hO0.trans (On.trans O24)).setNew (by simp) _).setNew (by simp) _).setNew (by simp) _
      )
    by_cases hx2 : x = 2
    · subst hx2
      have OX := Only.refl [g] wX
      obtain ⟨z0, z1, z2, -, -, -⟩ := own3 b8
      go_wp2_with fail
      have s1 := OX.size
      refine (l1Node_from B0 _ (13) _ 2 [.mk 6 0 [], .mk 6 0 []] (by intro h; cases h) (FromK.two (g := wX.heap.size) (e := 44) (From.leaf B0 _ 6 0) (From.leaf B0 _ 6 0) (by omega) rfl) (by simp; omega) (by simp)).mono ?_
      rintro e w1 ⟨u, rfl, hFa, e1'⟩
      obtain ⟨ka, na, Aa, la, ca, rfl⟩ := hFa.three
      have e1 : Ext wX w1 := ((Ext.refl wX).alloc (.cells #[.int .i64 6, .int .i64 0, .slice none 0 0, .int .i64 6, .int .i64 0, .slice none 0 0] 44)).trans e1'
      clear e1'
      have O1 := OX.trans (Only.of_ext (L := [g]) e1)
      have hR1 := hRX.ext e1
      have b61 := e1.blk b6
      have b81 := e1.blk b8
      obtain ⟨ta, hta⟩ : ∃ t, t = Tr.mk (13) 0 [.mk 6 0 [], .mk 6 0 []] := ⟨_, rfl⟩
      rw [← hta] at hFa
      have hSa : Sh (D + 1) (0 * C + 3) ta := (by rw [hta]; exact (Sh.n2 rfl ((Sh.leaf (k := 6) (n := 0) (d := 1) (c := 1) rfl (by decide) (by decide) (by decide) (by decide)).up (e := D + 0) (by omega) (Nat.le_refl _)) ((Sh.leaf (k := 6) (n := 0) (d := 1) (c := 1) rfl (by decide) (by decide) (by decide) (by decide)).up (e := D + 0) (by omega) (Nat.le_refl _))).up (e := D + 1) (f := 0 * C + 3) (by omega) (by omega))
      clear hta
      clear z0 z1 z2
      go_wp2_with fail
      refine (HI.out _ (m + 1) (sc) (sz - 1) hR1 (by omega) (by omega) (by omega) (by omega) (by omega)).mono ?_
      rintro e w2 ⟨tb, u, rfl, hFb, hSb, hR2, o2⟩
      obtain ⟨kb, nb, Ab, lb, cb, rfl⟩ := hFb.three
      have s2 := O1.size
      have O2 := O1.trans o2
      have hFa2 := hFa.only o2 hgB
      have b62 := o2.keepBlk b61 (by simp; omega)
      have b82 := o2.keepBlk b81 (by simp; omega)
      have hFb2 := hFb.since (show B0 ≤ _ from by omega)
      go_wp2_with fail
      refine (HI.out _ (m + 1 + q) (sc) (sz - 2) hR2 (by omega) (by omega) (by omega) (by omega) (by omega)).mono ?_
      rintro e w3 ⟨tc, u, rfl, hFc, hSc, hR3, o3⟩
      obtain ⟨kc, nc, Ac, lc, cc, rfl⟩ := hFc.three
      have s3 := O2.size
      have O3 := O2.trans o3
      have hFa3 := hFa2.only o3 hgB
      have hFb3 := hFb2.only o3 hgB
      have b63 := o3.keepBlk b62 (by simp; omega)
      have b83 := o3.keepBlk b82 (by simp; omega)
      have hFc3 := hFc.since (show B0 ≤ _ from by omega)
      go_wp2_with fail
      have s4 := O3.size
      refine (l1Node_from B0 _ (14) _ 3 [ta, tb, tc] (by intro h; cases h) (FromK.three (g := w3.heap.size) (e := 44) hFa3 hFb3 hFc3 (by omega) rfl) (by simp; omega) (by simp)).mono ?_
      rintro e w4 ⟨u, rfl, hFd, e4'⟩
      obtain ⟨kd, nd, Ad, ld, cd, rfl⟩ := hFd.three
      have e4 : Ext w3 w4 := ((Ext.refl w3).alloc (.cells #[.int .i64 ka, .int .i64 na, .slice Aa la ca, .int .i64 kb, .int .i64 nb, .slice Ab lb cb, .int .i64 kc, .int .i64 nc, .slice Ac lc cc] 44)).trans e4'
      clear e4'
      have O4 := O3.trans (Only.of_ext (L := [g]) e4)
      have hR4 := hR3.ext e4
      have hFa4 := hFa3.ext e4
      have hFb4 := hFb3.ext e4
      have hFc4 := hFc3.ext e4
      have b64 := e4.blk b63
      have b84 := e4.blk b83
      obtain ⟨td, htd⟩ : ∃ t, t = Tr.mk (14) 0 [ta, tb, tc] := ⟨_, rfl⟩
      rw [← htd] at hFd
      have hSd : Sh (D + 2) (2 * C + 4) td := (by rw [htd]; exact (Sh.n3 rfl (hSa.up (e := D + 1) (by omega) (Nat.le_refl _)) (hSb.up (e := D + 1) (by omega) (Nat.le_refl _)) (hSc.up (e := D + 1) (by omega) (Nat.le_refl _))).up (e := D + 2) (f := 2 * C + 4) (by omega) (by omega))
      clear htd
      go_wp2_with fail
      obtain ⟨w5, hw5⟩ : ∃ w, w = w4.alloc (.cells #[.int .i64 kd, .int .i64 nd, .slice Ad ld cd] 44) := ⟨_, rfl⟩
      have e5 : Ext w4 w5 := hw5 ▸ (Ext.refl w4).alloc _
      have b10 := heap_alloc_new w4 (.cells #[.int .i64 kd, .int .i64 nd, .slice Ad ld cd] 44)
      rw [← hw5] at b10
      have q5 := O4.size
      have r5 := lt_of_blk b10
      obtain ⟨g10, hg10⟩ : ∃ x, x = w4.heap.size := ⟨_, rfl⟩
      rw [← hw5]
      rw [← hg10] at b10 r5 ⊢
      have hgs10 : wX.heap.size ≤ g10 := by omega
      clear hw5 hg10
      have O5 := O4.trans (Only.of_ext (L := [g]) e5)
      have hR5 := hR4.ext e5
      have hFa5 := hFa4.ext e5
      have hFb5 := hFb4.ext e5
      have hFc5 := hFc4.ext e5
      have hFd5 := hFd.ext e5
      have b65 := e5.blk b64
      have b85 := e5.blk b84
      go_wp2_with fail
      have sN := O5.size
      have hsub : ∀ x, x ∈ [g] → x ∈ [g, w.heap.size] := by intro x hx; rw [List.mem_singleton.1 hx]; simp
      have hK := fun w' (ho : Only [g, w.heap.size] w5 w') => own3 (ho.keepBlk b10 (by simp; omega))
      have HK := Lib.hid (show ∀ w', Only [g, w.heap.size] w5 w' → w'.cell? ⟨g10, 0, none⟩ = some (.int .i64 kd) ∧ w'.cell? ⟨g10, 1, none⟩ = some (.int .i64 nd) ∧ w'.cell? ⟨g10, 2, none⟩ = some (.slice Ad ld cd) from fun w' ho => ⟨(hK w' ho).1, (hK w' ho).2.1, (hK w' ho).2.2.1⟩)
      clear hK
      have n1 : Nums (w5.alloc (.cells #[.int .i64 15, .int .i64 16] 3)).drew (some ⟨w5.heap.size, 0, none⟩) [15, 16] := (nums_lit rfl).ext (Ext.refl _).drew
      have n2 : Nums ((w5.alloc (.cells #[.int .i64 15, .int .i64 16] 3)).alloc (.cells #[.int .i64 kd, .int .i64 nd, .slice Ad ld cd] 44)).drew (some ⟨w5.heap.size, 0, none⟩) [15, 16] := (nums_lit rfl).ext ((Ext.refl _).alloc _).drew
      have n3 : Nums ((w5.alloc (.cells #[.int .i64 kd, .int .i64 nd, .slice Ad ld cd] 44)).alloc (.cells #[.int .i64 15, .int .i64 16] 3)).drew (some ⟨w5.heap.size + 1, 0, none⟩) [15, 16] := by
        have q := nums_lit (w := w5.alloc (.cells #[.int .i64 kd, .int .i64 nd, .slice Ad ld cd] 44)) (cs := #[.int .i64 15, .int .i64 16]) (e := 3) (ns := [15, 16]) rfl
        rw [World.size_alloc] at q
        exact q.ext (Ext.refl _).drew
      have k2 : FromK B0 ((w5.alloc (.cells #[.int .i64 15, .int .i64 16] 3)).alloc (.cells #[.int .i64 kd, .int .i64 nd, .slice Ad ld cd] 44)).drew (some ⟨w5.heap.size + 1, 0, none⟩) [td] := by
        have q := FromK.one (e := 44) (hFd5.ext ((Ext.refl _).alloc (.cells #[.int .i64 15, .int .i64 16] 3))) (by simp; omega) rfl
        rw [World.size_alloc] at q
        exact q.ext (Ext.refl _).drew
      have k3 : FromK B0 ((w5.alloc (.cells #[.int .i64 kd, .int .i64 nd, .slice Ad ld cd] 44)).alloc (.cells #[.int .i64 15, .int .i64 16] 3)).drew (some ⟨w5.heap.size, 0, none⟩) [td] := (FromK.one (e := 44) hFd5 (by omega) rfl).ext (((Ext.refl _).alloc _).drew)
      have hgx := hgl
      clear hgl
      go_region_held3 (fun w' => w'.cell? ⟨g10, 0, none⟩ = some (.int .i64 kd) ∧ w'.cell? ⟨g10, 1, none⟩ = some (.int .i64 nd) ∧ w'.cell? ⟨g10, 2, none⟩ = some (.slice Ad ld cd))
        (first | exact HK.out _ (by exact Only.of_ext (Ext.refl w5).drew) | exact HK.out _ (by exact Only.of_ext ((Ext.refl w5).alloc _).drew) | exact HK.out _ (by exact Only.of_ext (((Ext.refl w5).alloc _).alloc _).drew) | exact HK.out _ (by exact oy.mono hsub) | exact HK.out _ (by exact (oy.mono hsub).alloc _) | exact HK.out _ (by exact oz.mono hsub) | exact HK.out _ (by exact (((oz.mono hsub).setCell (by simp) _).setCell (by simp) _).setCell (by simp) _))
        (first | (go_at_call 81; refine (num_any _ g _ (hR5.ext (by first | exact ((Ext.refl w5).alloc _).drew | exact (((Ext.refl w5).alloc _).alloc _).drew)) (by omega) _ 2 [15, 16] (by simp) (by decide) (by simp) (by first | exact n1 | exact n2 | exact n3) (by intro b o hb; simp at hb; omega)).mono ?_; rintro e wy ⟨y, rfl, hyy, hRy, oy'⟩; have oy : Only [g] w5 wy := (Only.of_ext (by first | exact ((Ext.refl w5).alloc _).drew | exact (((Ext.refl w5).alloc _).alloc _).drew)).trans oy'; (first | (have ky := k2.only oy' hgB) | (have ky := k3.only oy' hgB) | (have ky := FromK.one (e := 44) (hFd5.only oy hgB) (by have := oy.size; omega) rfl))) | (go_at_call 126; refine (l1Node_from B0 _ y _ _ [td] (by intro h; cases h) (by exact ky) (by have := oy.size; first | omega | (simp; omega) | simp) (by simp)).mono ?_; rintro e wz ⟨u, rfl, hFz, ez⟩; obtain ⟨kz, nz, Az, lz, cz, rfl⟩ := hFz.three; have oz : Only [g] w5 wz := (by first | exact oy.trans (Only.of_ext ez) | exact (oy.alloc _).trans (Only.of_ext ez)); have hRz : Rd wz g _ := (by first | exact hRy.ext ez | exact hRy.ext (((Ext.refl _).alloc _).trans ez)); obtain ⟨y0, y1, y2, f0, f1, f2⟩ := own3 (oz.keepBlk b65 (by simp; omega))))
      all_goals (
        clear HK
        go_wp2_with fail
        refine bodyPost_ret (v := .agg #[.int .i64 kz, .int .i64 nz, .slice Az lz cz]) (by simp [results, Try.results142, go_sem, y0, y1, y2]) rfl ⟨.mk y 0 [td], _, rfl, ?_, (Sh.n1 (show opsT y = 1 by have h9 := hyy; simp at h9; rcases h9 with h9 | h9 <;> (rw [h9]; rfl)) hSd).up (by omega) (by omega), ?_, ?_⟩
        · exact ((hFz.set (by show w.heap.size < B0; omega) _).set (by show w.heap.size < B0; omega) _).set (by show w.heap.size < B0; omega) _ |>.since (by omega)
        · exact (((hRz.mono (by omega)).set (by show g < w.heap.size; omega) _).set (by show g < w.heap.size; omega) _).set (by show g < w.heap.size; omega) _
        · exact (((hO0.trans (O5.trans oz)).setNew (by simp) _).setNew (by simp) _).setNew (by simp) _
      )
    by_cases hx3 : x = 3
    · subst hx3
      have OX := Only.refl [g] wX
      obtain ⟨z0, z1, z2, -, -, -⟩ := own3 b8
      go_wp2_with fail
      have s1 := OX.size
      refine (l1Node_from B0 _ (4) _ 2 [.mk 6 0 [], .mk 6 0 []] (by intro h; cases h) (FromK.two (g := wX.heap.size) (e := 44) (From.leaf B0 _ 6 0) (From.leaf B0 _ 6 0) (by omega) rfl) (by simp; omega) (by simp)).mono ?_
      rintro e w1 ⟨u, rfl, hFa, e1'⟩
      obtain ⟨ka, na, Aa, la, ca, rfl⟩ := hFa.three
      have e1 : Ext wX w1 := ((Ext.refl wX).alloc (.cells #[.int .i64 6, .int .i64 0, .slice none 0 0, .int .i64 6, .int .i64 0, .slice none 0 0] 44)).trans e1'
      clear e1'
      have O1 := OX.trans (Only.of_ext (L := [g]) e1)
      have hR1 := hRX.ext e1
      have b61 := e1.blk b6
      have b81 := e1.blk b8
      obtain ⟨ta, hta⟩ : ∃ t, t = Tr.mk (4) 0 [.mk 6 0 [], .mk 6 0 []] := ⟨_, rfl⟩
      rw [← hta] at hFa
      have hSa : Sh (D + 1) (0 * C + 3) ta := (by rw [hta]; exact (Sh.n2 rfl ((Sh.leaf (k := 6) (n := 0) (d := 1) (c := 1) rfl (by decide) (by decide) (by decide) (by decide)).up (e := D + 0) (by omega) (Nat.le_refl _)) ((Sh.leaf (k := 6) (n := 0) (d := 1) (c := 1) rfl (by decide) (by decide) (by decide) (by decide)).up (e := D + 0) (by omega) (Nat.le_refl _))).up (e := D + 1) (f := 0 * C + 3) (by omega) (by omega))
      clear hta
      clear z0 z1 z2
      go_wp2_with fail
      refine (HI.out _ (m + 1) (sc) (sz - 2) hR1 (by omega) (by omega) (by omega) (by omega) (by omega)).mono ?_
      rintro e w2 ⟨tb, u, rfl, hFb, hSb, hR2, o2⟩
      obtain ⟨kb, nb, Ab, lb, cb, rfl⟩ := hFb.three
      have s2 := O1.size
      have O2 := O1.trans o2
      have hFa2 := hFa.only o2 hgB
      have b62 := o2.keepBlk b61 (by simp; omega)
      have b82 := o2.keepBlk b81 (by simp; omega)
      have hFb2 := hFb.since (show B0 ≤ _ from by omega)
      go_wp2_with fail
      have s3 := O2.size
      refine (l1Node_from B0 _ (11) _ 1 [tb] (by intro h; cases h) (FromK.one (g := w2.heap.size) (e := 44) hFb2 (by omega) rfl) (by simp; omega) (by simp)).mono ?_
      rintro e w3 ⟨u, rfl, hFc, e3'⟩
      obtain ⟨kc, nc, Ac, lc, cc, rfl⟩ := hFc.three
      have e3 : Ext w2 w3 := ((Ext.refl w2).alloc (.cells #[.int .i64 kb, .int .i64 nb, .slice Ab lb cb] 44)).trans e3'
      clear e3'
      have O3 := O2.trans (Only.of_ext (L := [g]) e3)
      have hR3 := hR2.ext e3
      have hFa3 := hFa2.ext e3
      have hFb3 := hFb2.ext e3
      have b63 := e3.blk b62
      have b83 := e3.blk b82
      obtain ⟨tc, htc⟩ : ∃ t, t = Tr.mk (11) 0 [tb] := ⟨_, rfl⟩
      rw [← htc] at hFc
      have hSc : Sh (D + 1) (1 * C + 1) tc := (by rw [htc]; exact (Sh.n1 rfl (hSb.up (e := D + 0) (by omega) (Nat.le_refl _))).up (e := D + 1) (f := 1 * C + 1) (by omega) (by omega))
      clear htc
      go_wp2_with fail
      refine (HI.out _ (m + 1 + q) (sc) (sz - 1) hR3 (by omega) (by omega) (by omega) (by omega) (by omega)).mono ?_
      rintro e w4 ⟨td, u, rfl, hFd, hSd, hR4, o4⟩
      obtain ⟨kd, nd, Ad, ld, cd, rfl⟩ := hFd.three
      have s4 := O3.size
      have O4 := O3.trans o4
      have hFa4 := hFa3.only o4 hgB
      have hFb4 := hFb3.only o4 hgB
      have hFc4 := hFc.only o4 hgB
      have b64 := o4.keepBlk b63 (by simp; omega)
      have b84 := o4.keepBlk b83 (by simp; omega)
      have hFd4 := hFd.since (show B0 ≤ _ from by omega)
      go_wp2_with fail
      have s5 := O4.size
      refine (l1Node_from B0 _ (12) _ 3 [ta, tc, td] (by intro h; cases h) (FromK.three (g := w4.heap.size) (e := 44) hFa4 hFc4 hFd4 (by omega) rfl) (by simp; omega) (by simp)).mono ?_
      rintro e w5 ⟨u, rfl, hFe, e5'⟩
      obtain ⟨ke, ne, Ae, le, ce, rfl⟩ := hFe.three
      have e5 : Ext w4 w5 := ((Ext.refl w4).alloc (.cells #[.int .i64 ka, .int .i64 na, .slice Aa la ca, .int .i64 kc, .int .i64 nc, .slice Ac lc cc, .int .i64 kd, .int .i64 nd, .slice Ad ld cd] 44)).trans e5'
      clear e5'
      have O5 := O4.trans (Only.of_ext (L := [g]) e5)
      have hR5 := hR4.ext e5
      have hFa5 := hFa4.ext e5
      have hFb5 := hFb4.ext e5
      have hFc5 := hFc4.ext e5
      have hFd5 := hFd4.ext e5
      have b65 := e5.blk b64
      have b85 := e5.blk b84
      obtain ⟨te, hte⟩ : ∃ t, t = Tr.mk (12) 0 [ta, tc, td] := ⟨_, rfl⟩
      rw [← hte] at hFe
      have hSe : Sh (D + 2) (2 * C + 5) te := (by rw [hte]; exact (Sh.n3 rfl (hSa.up (e := D + 1) (by omega) (Nat.le_refl _)) (hSc.up (e := D + 1) (by omega) (Nat.le_refl _)) (hSd.up (e := D + 1) (by omega) (Nat.le_refl _))).up (e := D + 2) (f := 2 * C + 5) (by omega) (by omega))
      clear hte
      obtain ⟨y0, y1, y2, f0, f1, f2⟩ := own3 b65
      have hgx := hgl
      clear hgl
      go_wp2_with fail
      refine bodyPost_ret (v := .agg #[.int .i64 ke, .int .i64 ne, .slice Ae le ce]) (by simp [results, Try.results142, go_sem, y0, y1, y2]) rfl ⟨te, _, rfl, ?_, hSe.up (by omega) (by omega), ?_, ?_⟩
      · exact ((hFe.set (by show w.heap.size < B0; omega) _).set (by show w.heap.size < B0; omega) _).set (by show w.heap.size < B0; omega) _ |>.since (by omega)
      · exact (((hR5.mono (by omega)).set (by show g < w.heap.size; omega) _).set (by show g < w.heap.size; omega) _).set (by show g < w.heap.size; omega) _
      · exact (((hO0.trans O5).setNew (by simp) _).setNew (by simp) _).setNew (by simp) _
    have u0 : (x == 0) = false := beq_eq_false_iff_ne.2 hx0
    have u1 : (x == 1) = false := beq_eq_false_iff_ne.2 hx1
    have u2 : (x == 2) = false := beq_eq_false_iff_ne.2 hx2
    have u3 : (x == 3) = false := beq_eq_false_iff_ne.2 hx3
    have u4 : (x == 4) = false := beq_eq_false_iff_ne.2 h4
    clear hx0 hx1 hx2 hx3 h4
    have OX := Only.refl [g] wX
    go_wp2_with fail
    refine (HI.out _ (m + 1) (sc) (sz - 1) hRX (by omega) (by omega) (by omega) (by omega) (by omega)).mono ?_
    rintro e w1 ⟨ta, u, rfl, hFa, hSa, hR1, o1⟩
    obtain ⟨ka, na, Aa, la, ca, rfl⟩ := hFa.three
    have s1 := OX.size
    have O1 := OX.trans o1
    have b61 := o1.keepBlk b6 (by simp; omega)
    have b81 := o1.keepBlk b8 (by simp; omega)
    have hFa1 := hFa.since (show B0 ≤ _ from by omega)
    go_wp2_with fail
    have s2 := O1.size
    refine (l1Node_from B0 _ (8) _ 1 [ta] (by intro h; cases h) (FromK.one (g := w1.heap.size) (e := 44) hFa1 (by omega) rfl) (by simp; omega) (by simp)).mono ?_
    rintro e w2 ⟨u, rfl, hFb, e2'⟩
    obtain ⟨kb, nb, Ab, lb, cb, rfl⟩ := hFb.three
    have e2 : Ext w1 w2 := ((Ext.refl w1).alloc (.cells #[.int .i64 ka, .int .i64 na, .slice Aa la ca] 44)).trans e2'
    clear e2'
    have O2 := O1.trans (Only.of_ext (L := [g]) e2)
    have hR2 := hR1.ext e2
    have hFa2 := hFa1.ext e2
    have b62 := e2.blk b61
    have b82 := e2.blk b81
    obtain ⟨tb, htb⟩ : ∃ t, t = Tr.mk (8) 0 [ta] := ⟨_, rfl⟩
    rw [← htb] at hFb
    have hSb : Sh (D + 1) (1 * C + 1) tb := (by rw [htb]; exact (Sh.n1 rfl (hSa.up (e := D + 0) (by omega) (Nat.le_refl _))).up (e := D + 1) (f := 1 * C + 1) (by omega) (by omega))
    clear htb
    obtain ⟨y0, y1, y2, f0, f1, f2⟩ := own3 b62
    have hgx := hgl
    clear hgl
    go_wp2_with fail
    refine bodyPost_ret (v := .agg #[.int .i64 kb, .int .i64 nb, .slice Ab lb cb]) (by simp [results, Try.results142, go_sem, y0, y1, y2]) rfl ⟨tb, _, rfl, ?_, hSb.up (by omega) (by omega), ?_, ?_⟩
    · exact ((hFb.set (by show w.heap.size < B0; omega) _).set (by show w.heap.size < B0; omega) _).set (by show w.heap.size < B0; omega) _ |>.since (by omega)
    · exact (((hR2.mono (by omega)).set (by show g < w.heap.size; omega) _).set (by show g < w.heap.size; omega) _).set (by show g < w.heap.size; omega) _
    · exact (((hO0.trans O2).setNew (by simp) _).setNew (by simp) _).setNew (by simp) _
end Go.Proofs.Ytappakllopkfiaa

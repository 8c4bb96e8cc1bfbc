/-
  Lemmas towards the law, 9: Parse2, Keep, OrdT, Fvs.
-/
import Derived.Test.YtolkohncmidpeaaGreatDoorHAB
import Derived.Test.YtolkohncmidpeaaGreatDoorHAC
import Derived.Test.YtolkohncmidpeaaGreatDoorHAE
import Derived.Test.YtolkohncmidpeaaGreatDoorHAH
namespace Go.Proofs.YtolkohncmidpeaaGreatDoor
open Go.RowKit
set_option linter.unusedVariables false
/-- All rows are of block number B or newer. -/
def From (B : Nat) (w : World) (t : Tr) (v : Value) : Prop := InT w (fun b => B ≤ b ∧ b < w.heap.size) t v
theorem From.leaf (B : Nat) (w : World) (k n : Int) : From B w (.mk k n []) (.agg #[.int .i64 k, .int .i64 n, .slice none 0 0]) := InT.mk_iff.2 ⟨none, 0, rfl, Nat.le_refl _, Nat.zero_le _, .inl rfl⟩
theorem From.ext {B : Nat} {w w' : World} {t : Tr} {v : Value} (h : From B w t v) (he : Ext w w') : From B w' t v := h.mono (fun b hb => ⟨hb.1, Nat.lt_of_lt_of_le hb.2 he.size⟩) (fun b hb => he.heap b hb.2)
theorem From.since {B C : Nat} {w : World} {t : Tr} {v : Value} (h : From B w t v) (hc : C ≤ B) : From C w t v := h.mono (fun b hb => ⟨Nat.le_trans hc hb.1, hb.2⟩) (fun _ _ => rfl)
theorem From.lies {B : Nat} {w : World} {t : Tr} {v : Value} (h : From B w t v) : Lies w t v := h.mono (fun b hb => hb.2) (fun _ _ => rfl)
theorem From.three {B : Nat} {w : World} {t : Tr} {u : Value} (h : From B w t u) : ∃ k n A l c, u = .agg #[.int .i64 k, .int .i64 n, .slice A l c] := h.lies.three
theorem From.set {B : Nat} {w : World} {t : Tr} {v : Value} (h : From B w t v) {p : Addr} (hp : p.block < B) (u : Value) : From B (w.setCell p u) t v :=
  h.mono (fun b hb => ⟨hb.1, by simpa using hb.2⟩) (fun b hb => Below.heap_setCell w p u b (by omega))
theorem From.made {w w' : World} {e : TypeId} {t : Tr} {v : Value} (h : Made w w' e t v) : From w.heap.size w' t v := by
  obtain ⟨L, h, hf⟩ := h
  exact InT.mono (fun b hb => hf.2 b hb) (fun _ _ => rfl) h.inT
def FromK (B : Nat) (w : World) (A : Option Addr) (ks : List Tr) : Prop := InK w (fun b => B ≤ b ∧ b < w.heap.size) A ks
theorem FromK.one {B g : Nat} {w : World} {t : Tr} {v0 v1 v2 : Value} {e : TypeId} (h : From B w t (.agg #[v0, v1, v2])) (hB : B ≤ w.heap.size) (hg : g = w.heap.size) : FromK B (w.alloc (.cells #[v0, v1, v2] e)) (some ⟨g, 0, none⟩) [t] :=
  hg ▸ InK.one (h.ext ((Ext.refl w).alloc _)) (heap_alloc_new w _) ⟨hB, by simp⟩
theorem FromK.two {B g : Nat} {w : World} {t u : Tr} {v0 v1 v2 x0 x1 x2 : Value} {e : TypeId} (h : From B w t (.agg #[v0, v1, v2])) (h' : From B w u (.agg #[x0, x1, x2])) (hB : B ≤ w.heap.size) (hg : g = w.heap.size) : FromK B (w.alloc (.cells #[v0, v1, v2, x0, x1, x2] e)) (some ⟨g, 0, none⟩) [t, u] := by
  subst hg
  have hx := (Ext.refl w).alloc (.cells #[v0, v1, v2, x0, x1, x2] e)
  have hg := heap_alloc_new w (.cells #[v0, v1, v2, x0, x1, x2] e)
  have h1 := h.ext hx
  have h2 := h'.ext hx
  refine .inr ⟨w.heap.size, 0, rfl, ⟨hB, by simp⟩, ?_⟩
  unfold InL
  refine ⟨⟨v0, v1, v2, cell_of_blk hg 0, cell_of_blk hg 1, cell_of_blk hg 2, h1⟩, ?_⟩
  unfold InL
  refine ⟨⟨x0, x1, x2, cell_of_blk hg 3, cell_of_blk hg 4, cell_of_blk hg 5, h2⟩, ?_⟩
  unfold InL
  trivial
theorem l1Node_from (B : Nat) (w : World) (k : Int) (A : Option Addr) (cap : Nat) (ks : List Tr) (hA : A = none → cap = 0) (hK : FromK B w A ks) (hB : B ≤ w.heap.size) (hn : ks.length ≤ 1099511627776) :
    Calls Tryz.prog 94 #[.int .i64 k, .slice A ks.length cap] w fun e w' => ∃ u, e = .returned u ∧ From B w' (.mk k 0 ks) u ∧ Ext w w' :=
  (l1Node_any w k A cap ks hA _ (fun b hb => hb.2) hK hn).mono fun e w' ⟨u, h1, h2, h3⟩ => ⟨u, h1, h2.mono (fun b hb => by
    have := h3.size
    rcases hb with hb | hb
    · exact ⟨hb.1, by omega⟩
    · exact ⟨by omega, hb.2⟩) (fun _ _ => rfl), h3⟩
/-- What a parser hands back. -/
def ParseQ (B : Nat) (w : World) (size : Nat) (o : Option (Tr × Nat)) (e : Ending) (w' : World) : Prop :=
  ∃ (t : Tr) (u : Value) (nx : Int), e = .returned (.tuple #[u, .int .i64 nx]) ∧ From B w' t u ∧ Ext w w' ∧ (∀ x, o = some x → t = x.1 ∧ nx = x.2 ∧ x.2 ≤ size) ∧ (o = none → nx = -1)
def ParseC (d : Nat) : Prop := ∀ (s : ByteArray) (a : Nat) (w : World), s.size ≤ 1000000000 → a ≤ s.size + 2 → Calls Tryz.prog 93 #[.string s, .int .i64 a, .int .i64 d] w (ParseQ w.heap.size w s.size (prs d s.data.toList a))
set_option maxRecDepth 100000 in
set_option maxHeartbeats 1000000 in
theorem prefix_43 (d : Nat) (ih : ParseC d) (s : ByteArray) (a : Nat) (w : World) (hs : s.size ≤ 1000000000) (ha : a < s.size) (hc : s[a] = 43) (hd : d ≤ 30) :
    Calls Tryz.prog 130 #[.string s, .int .i64 a, .int .i64 ((d : Int) + 1)] w (ParseQ w.heap.size w s.size (one 8 (prs d s.data.toList (a + 1)))) := by
  have HI := Lib.hid (fun W => ih s (a + 1) W hs (by omega))
  obtain ⟨R, hR⟩ : ∃ R, R = prs d s.data.toList (a + 1) := ⟨_, rfl⟩
  rw [← hR] at HI ⊢
  clear hR ih
  go_enter Tryz.func130, Tryz.ntmps130
  go_wp2_with fail
  refine (HI.out _).mono ?_
  rintro e w1 ⟨t, u, nx, rfl, hF, e1, q1, q2⟩
  obtain ⟨k0, n0, A0, l0, c0, rfl⟩ := hF.three
  have hb := e1.newBlk
  have hsz := e1.size_alloc
  have HQ1 := Lib.hid q1
  have HQ2 := Lib.hid q2
  have hF1 := hF.ext ((Ext.refl w1).alloc (.cells #[.int .i64 k0, .int .i64 n0, .slice A0 l0 c0] 45))
  have hx0 := (Ext.refl w).alloc (.cells #[.int .i64 0, .int .i64 0, .slice none 0 0] 45)
  simp only [World.size_alloc] at hF1
  clear q1 q2 hF
  go_wp2_with fail
  refine (l1Node_from (w.heap.size + 1) _ 8 _ 1 [t] (by intro h; cases h) (FromK.one (g := w1.heap.size + 1) (e := 45) hF1 (by simp; omega) (by simp)) (by simp; omega) (by simp)).mono ?_
  rintro e w2 ⟨v, rfl, hN, e2⟩
  obtain ⟨k1, n1, A1, l1, c1, rfl⟩ := hN.three
  have hb2 := e2.blk (((Ext.refl w1).alloc _ |>.alloc _).blk hb)
  obtain ⟨s0, s1, s2, f0, f1, f2⟩ := own3 hb2
  have hx2 := (hx0.trans e1).trans (((Ext.refl w1).alloc _ |>.alloc _).trans e2)
  go_wp2_with fail
  refine bodyPost_ret (v := .tuple #[.agg #[.int .i64 k1, .int .i64 n1, .slice A1 l1 c1], .int .i64 nx]) (by simp [results, Tryz.results130, go_sem, s0, s1, s2]) rfl ⟨.mk 8 0 [t], _, nx, rfl, ?_, ?_, ?_, ?_⟩
  · exact (((hN.set (by simp) _).set (by simp) _).set (by simp) _).since (by omega)
  · exact ((hx2.setCell (by simp) _).setCell (by simp) _).setCell (by simp) _
  · intro x hx
    cases R with
    | none => cases hx
    | some y =>
      obtain ⟨h1, h2, h3⟩ := HQ1.out y rfl
      cases hx
      exact ⟨by rw [h1], h2, h3⟩
  · intro hx
    cases R with
    | none => exact HQ2.out rfl
    | some y => cases hx
set_option maxRecDepth 100000 in
set_option maxHeartbeats 1000000 in
theorem prefix_33 (d : Nat) (ih : ParseC d) (s : ByteArray) (a : Nat) (w : World) (hs : s.size ≤ 1000000000) (ha : a < s.size) (hc : s[a] = 33) (hd : d ≤ 30) :
    Calls Tryz.prog 130 #[.string s, .int .i64 a, .int .i64 ((d : Int) + 1)] w (ParseQ w.heap.size w s.size (one 11 (prs d s.data.toList (a + 1)))) := by
  have HI := Lib.hid (fun W => ih s (a + 1) W hs (by omega))
  obtain ⟨R, hR⟩ : ∃ R, R = prs d s.data.toList (a + 1) := ⟨_, rfl⟩
  rw [← hR] at HI ⊢
  clear hR ih
  go_enter Tryz.func130, Tryz.ntmps130
  go_wp2_with fail
  refine (HI.out _).mono ?_
  rintro e w1 ⟨t, u, nx, rfl, hF, e1, q1, q2⟩
  obtain ⟨k0, n0, A0, l0, c0, rfl⟩ := hF.three
  have hb := e1.newBlk
  have hsz := e1.size_alloc
  have HQ1 := Lib.hid q1
  have HQ2 := Lib.hid q2
  have hF1 := hF.ext ((Ext.refl w1).alloc (.cells #[.int .i64 k0, .int .i64 n0, .slice A0 l0 c0] 45))
  have hx0 := (Ext.refl w).alloc (.cells #[.int .i64 0, .int .i64 0, .slice none 0 0] 45)
  simp only [World.size_alloc] at hF1
  clear q1 q2 hF
  go_wp2_with fail
  refine (l1Node_from (w.heap.size + 1) _ 11 _ 1 [t] (by intro h; cases h) (FromK.one (g := w1.heap.size + 1) (e := 45) hF1 (by simp; omega) (by simp)) (by simp; omega) (by simp)).mono ?_
  rintro e w2 ⟨v, rfl, hN, e2⟩
  obtain ⟨k1, n1, A1, l1, c1, rfl⟩ := hN.three
  have hb2 := e2.blk (((Ext.refl w1).alloc _ |>.alloc _).blk hb)
  obtain ⟨s0, s1, s2, f0, f1, f2⟩ := own3 hb2
  have hx2 := (hx0.trans e1).trans (((Ext.refl w1).alloc _ |>.alloc _).trans e2)
  go_wp2_with fail
  refine bodyPost_ret (v := .tuple #[.agg #[.int .i64 k1, .int .i64 n1, .slice A1 l1 c1], .int .i64 nx]) (by simp [results, Tryz.results130, go_sem, s0, s1, s2]) rfl ⟨.mk 11 0 [t], _, nx, rfl, ?_, ?_, ?_, ?_⟩
  · exact (((hN.set (by simp) _).set (by simp) _).set (by simp) _).since (by omega)
  · exact ((hx2.setCell (by simp) _).setCell (by simp) _).setCell (by simp) _
  · intro x hx
    cases R with
    | none => cases hx
    | some y =>
      obtain ⟨h1, h2, h3⟩ := HQ1.out y rfl
      cases hx
      exact ⟨by rw [h1], h2, h3⟩
  · intro hx
    cases R with
    | none => exact HQ2.out rfl
    | some y => cases hx
set_option maxRecDepth 100000 in
set_option maxHeartbeats 1000000 in
theorem prefix_94 (d : Nat) (ih : ParseC d) (s : ByteArray) (a : Nat) (w : World) (hs : s.size ≤ 1000000000) (ha : a < s.size) (hc : s[a] = 94) (hd : d ≤ 30) :
    Calls Tryz.prog 130 #[.string s, .int .i64 a, .int .i64 ((d : Int) + 1)] w (ParseQ w.heap.size w s.size (one 15 (prs d s.data.toList (a + 1)))) := by
  have HI := Lib.hid (fun W => ih s (a + 1) W hs (by omega))
  obtain ⟨R, hR⟩ : ∃ R, R = prs d s.data.toList (a + 1) := ⟨_, rfl⟩
  rw [← hR] at HI ⊢
  clear hR ih
  go_enter Tryz.func130, Tryz.ntmps130
  go_wp2_with fail
  refine (HI.out _).mono ?_
  rintro e w1 ⟨t, u, nx, rfl, hF, e1, q1, q2⟩
  obtain ⟨k0, n0, A0, l0, c0, rfl⟩ := hF.three
  have hb := e1.newBlk
  have hsz := e1.size_alloc
  have HQ1 := Lib.hid q1
  have HQ2 := Lib.hid q2
  have hF1 := hF.ext ((Ext.refl w1).alloc (.cells #[.int .i64 k0, .int .i64 n0, .slice A0 l0 c0] 45))
  have hx0 := (Ext.refl w).alloc (.cells #[.int .i64 0, .int .i64 0, .slice none 0 0] 45)
  simp only [World.size_alloc] at hF1
  clear q1 q2 hF
  go_wp2_with fail
  refine (l1Node_from (w.heap.size + 1) _ 15 _ 1 [t] (by intro h; cases h) (FromK.one (g := w1.heap.size + 1) (e := 45) hF1 (by simp; omega) (by simp)) (by simp; omega) (by simp)).mono ?_
  rintro e w2 ⟨v, rfl, hN, e2⟩
  obtain ⟨k1, n1, A1, l1, c1, rfl⟩ := hN.three
  have hb2 := e2.blk (((Ext.refl w1).alloc _ |>.alloc _).blk hb)
  obtain ⟨s0, s1, s2, f0, f1, f2⟩ := own3 hb2
  have hx2 := (hx0.trans e1).trans (((Ext.refl w1).alloc _ |>.alloc _).trans e2)
  go_wp2_with fail
  refine bodyPost_ret (v := .tuple #[.agg #[.int .i64 k1, .int .i64 n1, .slice A1 l1 c1], .int .i64 nx]) (by simp [results, Tryz.results130, go_sem, s0, s1, s2]) rfl ⟨.mk 15 0 [t], _, nx, rfl, ?_, ?_, ?_, ?_⟩
  · exact (((hN.set (by simp) _).set (by simp) _).set (by simp) _).since (by omega)
  · exact ((hx2.setCell (by simp) _).setCell (by simp) _).setCell (by simp) _
  · intro x hx
    cases R with
    | none => cases hx
    | some y =>
      obtain ⟨h1, h2, h3⟩ := HQ1.out y rfl
      cases hx
      exact ⟨by rw [h1], h2, h3⟩
  · intro hx
    cases R with
    | none => exact HQ2.out rfl
    | some y => cases hx
set_option maxRecDepth 100000 in
set_option maxHeartbeats 1000000 in
theorem prefix_95 (d : Nat) (ih : ParseC d) (s : ByteArray) (a : Nat) (w : World) (hs : s.size ≤ 1000000000) (ha : a < s.size) (hc : s[a] = 95) (hd : d ≤ 30) :
    Calls Tryz.prog 130 #[.string s, .int .i64 a, .int .i64 ((d : Int) + 1)] w (ParseQ w.heap.size w s.size (one 16 (prs d s.data.toList (a + 1)))) := by
  have HI := Lib.hid (fun W => ih s (a + 1) W hs (by omega))
  obtain ⟨R, hR⟩ : ∃ R, R = prs d s.data.toList (a + 1) := ⟨_, rfl⟩
  rw [← hR] at HI ⊢
  clear hR ih
  go_enter Tryz.func130, Tryz.ntmps130
  go_wp2_with fail
  refine (HI.out _).mono ?_
  rintro e w1 ⟨t, u, nx, rfl, hF, e1, q1, q2⟩
  obtain ⟨k0, n0, A0, l0, c0, rfl⟩ := hF.three
  have hb := e1.newBlk
  have hsz := e1.size_alloc
  have HQ1 := Lib.hid q1
  have HQ2 := Lib.hid q2
  have hF1 := hF.ext ((Ext.refl w1).alloc (.cells #[.int .i64 k0, .int .i64 n0, .slice A0 l0 c0] 45))
  have hx0 := (Ext.refl w).alloc (.cells #[.int .i64 0, .int .i64 0, .slice none 0 0] 45)
  simp only [World.size_alloc] at hF1
  clear q1 q2 hF
  go_wp2_with fail
  refine (l1Node_from (w.heap.size + 1) _ 16 _ 1 [t] (by intro h; cases h) (FromK.one (g := w1.heap.size + 1) (e := 45) hF1 (by simp; omega) (by simp)) (by simp; omega) (by simp)).mono ?_
  rintro e w2 ⟨v, rfl, hN, e2⟩
  obtain ⟨k1, n1, A1, l1, c1, rfl⟩ := hN.three
  have hb2 := e2.blk (((Ext.refl w1).alloc _ |>.alloc _).blk hb)
  obtain ⟨s0, s1, s2, f0, f1, f2⟩ := own3 hb2
  have hx2 := (hx0.trans e1).trans (((Ext.refl w1).alloc _ |>.alloc _).trans e2)
  go_wp2_with fail
  refine bodyPost_ret (v := .tuple #[.agg #[.int .i64 k1, .int .i64 n1, .slice A1 l1 c1], .int .i64 nx]) (by simp [results, Tryz.results130, go_sem, s0, s1, s2]) rfl ⟨.mk 16 0 [t], _, nx, rfl, ?_, ?_, ?_, ?_⟩
  · exact (((hN.set (by simp) _).set (by simp) _).set (by simp) _).since (by omega)
  · exact ((hx2.setCell (by simp) _).setCell (by simp) _).setCell (by simp) _
  · intro x hx
    cases R with
    | none => cases hx
    | some y =>
      obtain ⟨h1, h2, h3⟩ := HQ1.out y rfl
      cases hx
      exact ⟨by rw [h1], h2, h3⟩
  · intro hx
    cases R with
    | none => exact HQ2.out rfl
    | some y => cases hx
theorem at_eq {s : ByteArray} {a : Nat} {c : UInt8} (h : a < s.size) (hc : s[a] = c) : s.data.toList[a]? = some c := by rw [at_list s h, hc]
set_option maxRecDepth 100000 in
set_option maxHeartbeats 2000000 in
theorem round_any (d : Nat) (ih : ParseC d) (s : ByteArray) (a : Nat) (w : World) (hs : s.size ≤ 1000000000) (ha : a ≤ s.size) :
    Calls Tryz.prog 131 #[.string s, .int .i64 a, .int .i64 d] w (ParseQ w.heap.size w s.size (rnd (prs d s.data.toList) s.data.toList a)) := by
  have HI := Lib.hid (fun a W (ha : a ≤ s.size + 2) => ih s a W hs ha)
  obtain ⟨F, hF⟩ : ∃ F, F = prs d s.data.toList := ⟨_, rfl⟩
  rw [← hF] at HI ⊢
  have hdef : rnd F s.data.toList a = match F a with
    | none => none
    | some (x, b) => if rndK s.data.toList[b]? = 0 then none else
      match F (b + 1) with
      | none => none
      | some (y, c) => if s.data.toList[c]? = some 41 then some (.mk (rndK s.data.toList[b]?) 0 [x, y], c + 1) else none := rfl
  obtain ⟨R, hR⟩ : ∃ R, R = rnd F s.data.toList a := ⟨_, rfl⟩
  rw [← hR] at hdef ⊢
  have HD := Lib.hid hdef
  clear hR ih hF hdef
  go_enter Tryz.func131, Tryz.ntmps131
  go_wp2_with fail
  refine (HI.out a _ (by omega)).mono ?_
  rintro e w1 ⟨t, u, nx, rfl, hF, e1, q1, q2⟩
  obtain ⟨k0, n0, A0, l0, c0, rfl⟩ := hF.three
  have hb := e1.newBlk
  have hsz := e1.size_alloc
  have hx0 := ((Ext.refl w).alloc (.cells #[.int .i64 0, .int .i64 0, .slice none 0 0] 45)).trans e1
  have hx1 := hx0.trans ((Ext.refl w1).alloc (.cells #[.int .i64 k0, .int .i64 n0, .slice A0 l0 c0] 45))
  have hF1 := hF.ext ((Ext.refl w1).alloc (.cells #[.int .i64 k0, .int .i64 n0, .slice A0 l0 c0] 45))
  simp only [World.size_alloc] at hF1
  have hb' := ((Ext.refl w1).alloc (.cells #[.int .i64 k0, .int .i64 n0, .slice A0 l0 c0] 45)).blk hb
  have hbA := heap_alloc_new w1 (.cells #[.int .i64 k0, .int .i64 n0, .slice A0 l0 c0] 45)
  cases hFa : F a with
  | none =>
    obtain rfl := q2 hFa
    have hRn := HD.out
    rw [hFa] at hRn
    have HR := Lib.hid hRn
    obtain ⟨s0, s1, s2, f0, f1, f2⟩ := own3 hb'
    clear q1 q2 hRn hFa hsz
    go_wp2_with fail
    exact bodyPost_ret (v := .tuple #[.agg #[.int .i64 0, .int .i64 0, .slice none 0 0], .int .i64 (-1)]) (by simp [results, Tryz.results131, go_sem, s0, s1, s2]) rfl ⟨.mk 0 0 [], _, -1, rfl, From.leaf _ _ _ _, ((hx1.setCell (by simp) _).setCell (by simp) _).setCell (by simp) _, (fun x hx => by rw [HR.out] at hx; cases hx), fun _ => rfl⟩
  | some y =>
    obtain ⟨x, b⟩ := y
    obtain ⟨h1, h2, h3⟩ := q1 _ hFa
    simp only at h1 h2 h3
    have hRs := HD.out
    rw [hFa] at hRs
    simp only at hRs
    subst h1 h2
    clear q1 q2 hFa
    have hcap := hF1
    by_cases hlt : b < s.size
    · obtain ⟨c, hc⟩ : ∃ c, s[b] = c := ⟨_, rfl⟩
      rw [at_eq hlt hc] at hRs
      have hbz : (b : Int) < (s.size : Int) := by omega
      have t0 : decide ((b : Int) < 0) = false := decide_eq_false (by omega)
      have t1 : decide ((s.size : Int) ≤ (b : Int)) = false := decide_eq_false (by omega)
      obtain ⟨m, hm⟩ : ∃ m, c.toNat = m := ⟨_, rfl⟩
      have hHI := HI.out (b + 1)
      rw [show ((b + 1 : Nat) : Int) = (b : Int) + 1 by omega] at hHI
      have HI2 := Lib.hid hHI
      clear hHI
      by_cases hk : rndK (some c) = 0
      · rw [if_pos hk] at hRs
        have HR := Lib.hid hRs
        have t2 : ((m : Int) == 62) = false := by rw [beq_eq_false_iff_ne]; intro h; have : c = 62 := UInt8.toNat_inj.1 (by rw [hm]; simp; omega); rw [this] at hk; exact absurd hk (by decide)
        have t3 : ((m : Int) == 42) = false := by rw [beq_eq_false_iff_ne]; intro h; have : c = 42 := UInt8.toNat_inj.1 (by rw [hm]; simp; omega); rw [this] at hk; exact absurd hk (by decide)
        have t4 : ((m : Int) == 32) = false := by rw [beq_eq_false_iff_ne]; intro h; have : c = 32 := UInt8.toNat_inj.1 (by rw [hm]; simp; omega); rw [this] at hk; exact absurd hk (by decide)
        clear hRs hk
        go_wp2_with fail
        refine (HI2.out _ (by omega)).mono ?_
        rintro e w2 ⟨t', u', nx', rfl, hF', e2, -, -⟩
        obtain ⟨k1, n1, A1, l1, c1, rfl⟩ := hF'.three
        have hb2 := (e2.trans ((Ext.refl w2).alloc (.cells #[.int .i64 k1, .int .i64 n1, .slice A1 l1 c1] 45))).blk hb'
        obtain ⟨s0, s1, s2, f0, f1, f2⟩ := own3 hb2
        have hx2 := hx1.trans (e2.trans ((Ext.refl w2).alloc (.cells #[.int .i64 k1, .int .i64 n1, .slice A1 l1 c1] 45)))
        go_wp2_with fail
        exact bodyPost_ret (v := .tuple #[.agg #[.int .i64 0, .int .i64 0, .slice none 0 0], .int .i64 (-1)]) (by simp [results, Tryz.results131, go_sem, s0, s1, s2]) rfl ⟨.mk 0 0 [], _, -1, rfl, From.leaf _ _ _ _, ((hx2.setCell (by simp) _).setCell (by simp) _).setCell (by simp) _, (fun x hx => by rw [HR.out] at hx; cases hx), fun _ => rfl⟩
      · rw [if_neg hk] at hRs
        obtain ⟨K, hK⟩ : ∃ K, rndK (some c) = K := ⟨_, rfl⟩
        rw [hK] at hRs hk
        have hcs : (m = 62 ∧ K = 3) ∨ (m = 42 ∧ K = 13) ∨ (m = 32 ∧ K = 5) := by
          unfold rndK at hK
          by_cases g1 : c = 62
          · subst g1; exact .inl ⟨hm.symm, by simpa using hK.symm⟩
          · by_cases g2 : c = 42
            · subst g2; exact .inr (.inl ⟨hm.symm, by simpa using hK.symm⟩)
            · by_cases g3 : c = 32
              · subst g3; exact .inr (.inr ⟨hm.symm, by simpa using hK.symm⟩)
              · simp [g1, g2, g3] at hK; exact absurd hK.symm hk
        have HRS := Lib.hid hRs
        clear hRs hK hk
        rcases hcs with ⟨rfl, rfl⟩ | ⟨rfl, rfl⟩ | ⟨rfl, rfl⟩
        all_goals (
          go_wp2_with fail
          refine (HI2.out _ (by omega)).mono ?_
          rintro e w2 ⟨t', u', nx', rfl, hF', e2, q1, q2⟩
          obtain ⟨k1, n1, A1, l1, c1, rfl⟩ := hF'.three
          have hs2 := e2.size_alloc
          have hxa := e2.trans ((Ext.refl w2).alloc (.cells #[.int .i64 k1, .int .i64 n1, .slice A1 l1 c1] 45))
          have hb2 := hxa.blk hb'
          have hbA2 := hxa.blk hbA
          have hbB := heap_alloc_new w2 (.cells #[.int .i64 k1, .int .i64 n1, .slice A1 l1 c1] 45)
          obtain ⟨s0, s1, s2, f0, f1, f2⟩ := own3 hb2
          obtain ⟨x0, x1, x2, -, -, -⟩ := own3 hbA2
          have hx2 := hx1.trans hxa
          have hF2 := hF1.ext hxa
          have hF2' := (hF'.ext ((Ext.refl w2).alloc (.cells #[.int .i64 k1, .int .i64 n1, .slice A1 l1 c1] 45))).since (show w.heap.size + 1 ≤ _ by simp; omega)
          cases hFb : F (b + 1) with
          | none =>
            obtain rfl := q2 hFb
            have hRn := HRS.out
            rw [hFb] at hRn
            have HR := Lib.hid hRn
            clear q1 q2 hRn hFb
            go_wp2_with fail
            exact bodyPost_ret (v := .tuple #[.agg #[.int .i64 0, .int .i64 0, .slice none 0 0], .int .i64 (-1)]) (by simp [results, Tryz.results131, go_sem, s0, s1, s2]) rfl ⟨.mk 0 0 [], _, -1, rfl, From.leaf _ _ _ _, ((hx2.setCell (by simp) _).setCell (by simp) _).setCell (by simp) _, (fun x hx => by rw [HR.out] at hx; cases hx), fun _ => rfl⟩
          | some y2 =>
            obtain ⟨x', b'⟩ := y2
            obtain ⟨h1, h2, h3'⟩ := q1 _ hFb
            simp only at h1 h2 h3'
            have hRs2 := HRS.out
            rw [hFb] at hRs2
            simp only at hRs2
            subst h1 h2
            clear q1 q2 hFb
            have t5 : decide ((b' : Int) < 0) = false := decide_eq_false (by omega)
            by_cases hlt' : b' < s.size
            · obtain ⟨c', hc'⟩ : ∃ c', s[b'] = c' := ⟨_, rfl⟩
              rw [at_eq hlt' hc'] at hRs2
              have hbz' : (b' : Int) < (s.size : Int) := by omega
              have t6 : decide ((s.size : Int) ≤ (b' : Int)) = false := decide_eq_false (by omega)
              by_cases h41 : c' = 41
              · subst h41
                rw [if_pos rfl] at hRs2
                have HR := Lib.hid hRs2
                clear hRs2
                go_wp2_with fail
                refine (l1Node_from (w.heap.size + 1) _ _ _ 2 [t, t'] (by intro h; cases h) (FromK.two (g := w2.heap.size + 1) (e := 45) hF2 hF2' (by simp; omega) (by simp)) (by simp; omega) (by simp)).mono ?_
                rintro e w3 ⟨v, rfl, hN, e3⟩
                obtain ⟨k3, n3, A3, l3, c3, rfl⟩ := hN.three
                obtain ⟨z0, z1, z2, g0, g1, g2⟩ := own3 (e3.blk (((Ext.refl _).alloc _).blk hb2))
                have hx3 := hx2.trans (((Ext.refl _).alloc _).trans e3)
                clear s0 s1 s2 x0 x1 x2
                go_wp2_with fail
                refine bodyPost_ret (v := .tuple #[.agg #[.int .i64 k3, .int .i64 n3, .slice A3 l3 c3], .int .i64 ((b' : Int) + 1)]) (by simp [results, Tryz.results131, go_sem, z0, z1, z2]) rfl ⟨_, _, _, rfl, (((hN.set (by simp) _).set (by simp) _).set (by simp) _).since (by omega), ((hx3.setCell (by simp) _).setCell (by simp) _).setCell (by simp) _, ?_, ?_⟩
                · intro x hx
                  rw [HR.out] at hx
                  cases hx
                  exact ⟨rfl, by simp, by show b' + 1 ≤ s.size; omega⟩
                · intro hx
                  rw [HR.out] at hx
                  cases hx
              · rw [if_neg (by intro h; cases h; exact h41 rfl)] at hRs2
                have HR := Lib.hid hRs2
                have t7 : ((c'.toNat : Int) != 41) = true := by rw [bne_iff_ne]; intro h; exact h41 (UInt8.toNat_inj.1 (by simp; omega))
                have t8 : ((c'.toNat : Int) == 41) = false := by rw [beq_eq_false_iff_ne]; intro h; exact h41 (UInt8.toNat_inj.1 (by simp; omega))
                clear hRs2 h41
                go_wp2_with fail
                exact bodyPost_ret (v := .tuple #[.agg #[.int .i64 0, .int .i64 0, .slice none 0 0], .int .i64 (-1)]) (by simp [results, Tryz.results131, go_sem, s0, s1, s2]) rfl ⟨.mk 0 0 [], _, -1, rfl, From.leaf _ _ _ _, ((hx2.setCell (by simp) _).setCell (by simp) _).setCell (by simp) _, (fun x hx => by rw [HR.out] at hx; cases hx), fun _ => rfl⟩
            · rw [at_none s (by omega), if_neg (by simp)] at hRs2
              have HR := Lib.hid hRs2
              have t6 : decide ((s.size : Int) ≤ (b' : Int)) = true := decide_eq_true (by omega)
              clear hRs2
              go_wp2_with fail
              exact bodyPost_ret (v := .tuple #[.agg #[.int .i64 0, .int .i64 0, .slice none 0 0], .int .i64 (-1)]) (by simp [results, Tryz.results131, go_sem, s0, s1, s2]) rfl ⟨.mk 0 0 [], _, -1, rfl, From.leaf _ _ _ _, ((hx2.setCell (by simp) _).setCell (by simp) _).setCell (by simp) _, (fun x hx => by rw [HR.out] at hx; cases hx), fun _ => rfl⟩)
    · rw [at_none s (by omega), if_pos (by rfl)] at hRs
      have HR := Lib.hid hRs
      have t0 : decide ((b : Int) < 0) = false := decide_eq_false (by omega)
      have t1 : decide ((s.size : Int) ≤ (b : Int)) = true := decide_eq_true (by omega)
      obtain ⟨s0, s1, s2, f0, f1, f2⟩ := own3 hb'
      clear hRs hsz hcap
      go_wp2_with fail
      exact bodyPost_ret (v := .tuple #[.agg #[.int .i64 0, .int .i64 0, .slice none 0 0], .int .i64 (-1)]) (by simp [results, Tryz.results131, go_sem, s0, s1, s2]) rfl ⟨.mk 0 0 [], _, -1, rfl, From.leaf _ _ _ _, ((hx1.setCell (by simp) _).setCell (by simp) _).setCell (by simp) _, (fun x hx => by rw [HR.out] at hx; cases hx), fun _ => rfl⟩
end Go.Proofs.YtolkohncmidpeaaGreatDoor
namespace Go.Proofs.YtolkohncmidpeaaGreatDoor
open Go.RowKit
set_option linter.unusedVariables false
theorem InK.bound {w : World} {S : Nat → Prop} {A : Option Addr} {ks : List Tr} (h : InK w S A ks) : InK w (fun b => S b ∧ b < w.heap.size) A ks := by
  rcases h with h | ⟨b, o, rfl, hb, hl⟩
  · exact .inl h
  · cases ks with
    | nil => exact .inl rfl
    | cons t ts =>
      refine .inr ⟨b, o, rfl, ⟨hb, ?_⟩, InL.bound hl⟩
      unfold InL at hl
      obtain ⟨⟨v0, v1, v2, h0, -⟩, -⟩ := hl
      exact World.block_lt_of_cell? _ _ h0
/-- Rows that were there do not lie in a later block. -/
theorem InT.keep {w W : World} {N : Nat → Prop} {t : Tr} {v : Value} {g : Nat} (h : InT w N t v) (he : Ext w W) (hg : w.heap.size ≤ g) : InT W (fun b => N b ∧ b ≠ g) t v :=
  InT.mono (fun b hb => ⟨hb.1, by omega⟩) (fun b hb => he.heap b hb.2) h.bound
theorem InK.keep {w W : World} {N : Nat → Prop} {A : Option Addr} {ks : List Tr} {g : Nat} (h : InK w N A ks) (he : Ext w W) (hg : w.heap.size ≤ g) : InK W (fun b => N b ∧ b ≠ g) A ks :=
  InK.mono (fun b hb => ⟨hb.1, by omega⟩) (fun b hb => he.heap b hb.2) h.bound
theorem InK.later {w w' : World} {S : Nat → Prop} {A : Option Addr} {ks : List Tr} (h : InK w S A ks) (he : Ext w w') : InK w' S A ks :=
  InK.mono (fun _ hb => hb.1) (fun b hb => he.heap b hb.2) h.bound
theorem InT.lies' {w : World} {N : Nat → Prop} {t : Tr} {v : Value} (h : InT w N t v) : Lies w t v := InT.mono (fun b hb => hb.2) (fun _ _ => rfl) h.bound
theorem InK.lies' {w : World} {N : Nat → Prop} {A : Option Addr} {ks : List Tr} (h : InK w N A ks) : LiesK w A ks := InK.mono (fun b hb => hb.2) (fun _ _ => rfl) h.bound
/-- Stores into a block of which the rows keep clear. -/
theorem InT.ret {W : World} {N : Nat → Prop} {t : Tr} {v : Value} {g : Nat} (h : InT W (fun b => N b ∧ b ≠ g) t v) (x y z : Value) : InT (((W.setCell ⟨g, 0, none⟩ x).setCell ⟨g, 1, none⟩ y).setCell ⟨g, 2, none⟩ z) N t v :=
  InT.mono (fun b hb => hb.1) (fun b hb => by rw [Below.heap_setCell _ _ _ _ hb.2, Below.heap_setCell _ _ _ _ hb.2, Below.heap_setCell _ _ _ _ hb.2]) h
theorem leafT (W : World) (N : Nat → Prop) (k n : Int) : InT W N (.mk k n []) (.agg #[.int .i64 k, .int .i64 n, .slice none 0 0]) := InT.mk_iff.2 ⟨none, 0, rfl, Nat.le_refl _, Nat.zero_le _, .inl rfl⟩
/-- A tree that was made anew. -/
theorem Made.at' {w w' : World} {N : Nat → Prop} {e : TypeId} {t : Tr} {v : Value} (h : Made w w' e t v) (hN : ∀ b, w.heap.size ≤ b → N b) : InT w' N t v := InT.mono (fun b hb => hN b hb.1) (fun _ _ => rfl) (From.made h)
theorem newN {w : World} {N : Nat → Prop} {g n : Nat} (hN : ∀ b, w.heap.size ≤ b → N b) (hw : w.heap.size ≤ n) (hg : g < n) : ∀ b, n ≤ b → N b ∧ b ≠ g := fun b hb => ⟨hN b (by omega), by omega⟩
/-- A type and a code are answered, the type's rows in blocks of N. -/
def AnQ (N : Nat → Prop) (w : World) (r : Tr × Int) (e : Ending) (w' : World) : Prop := ∃ u, e = .returned (.tuple #[u, .int .i64 r.2]) ∧ InT w' N r.1 u ∧ Ext w w'
end Go.Proofs.YtolkohncmidpeaaGreatDoor
namespace Go.Proofs.YtolkohncmidpeaaGreatDoor
open Go.RowKit
set_option linter.unusedVariables false
theorem slot_at {a : Act} {t : Nat} {v : Value} (h : a.eval (.tmp t) = v) : a.tmps[t]?.getD undef = v := by
  rw [← h]
  exact (Array.getD_eq_getD_getElem? ..).symm
/-- What is said of an operation's value. -/
inductive Sp where
  | any
  | val (u : Value)
  | tree (M : Nat → Prop) (t : Tr)
  | row (M : Nat → Prop) (ts : List Tr)
  | two (M : Nat → Prop) (t : Tr) (c : Value)
def Sp.holds : Sp → Value → World → Prop
  | .any, _, _ => True
  | .val u, v, _ => v = u
  | .tree M t, v, w => InT w M t v
  | .row M ts, v, w => ∃ A c, v = .slice A ts.length c ∧ ts.length ≤ c ∧ c ≤ maxLen ∧ InK w M A ts
  | .two M t c, v, w => ∃ u, v = .tuple #[u, c] ∧ InT w M t u
theorem Sp.ext : ∀ {s : Sp} {v : Value} {w w' : World}, s.holds v w → Ext w w' → s.holds v w'
  | .any, _, _, _, _, _ => trivial
  | .val u, _, _, _, h, _ => h
  | .tree M t, _, _, _, h, e => InT.later h e
  | .row M ts, _, _, _, h, e => by
    obtain ⟨A, c, h1, h2, h3, h4⟩ := h
    exact ⟨A, c, h1, h2, h3, h4.later e⟩
  | .two M t c, _, _, _, h, e => by
    obtain ⟨u, h1, h2⟩ := h
    exact ⟨u, h1, InT.later h2 e⟩
/-- What is said of all of them. -/
def spG (l : List Sp) (i : Nat) (v : Value) (w : World) : Prop := (l.getD i .any).holds v w
theorem spG_ext (l : List Sp) : ∀ i v w w', spG l i v w → Ext w w' → spG l i v w' := fun i v w w' h e => Sp.ext h e
theorem InK.news {w : World} {M : Nat → Prop} {e : TypeId} {t : Tr} {v0 v1 v2 : Value} (h : InT w M t (.agg #[v0, v1, v2])) (hM : M w.heap.size) : InK (w.alloc (.cells #[v0, v1, v2] e)) M (some ⟨w.heap.size, 0, none⟩) [t] :=
  .inr ⟨w.heap.size, 0, rfl, hM, ⟨⟨v0, v1, v2, cell_of_blk (heap_alloc_new w _) 0, cell_of_blk (heap_alloc_new w _) 1, cell_of_blk (heap_alloc_new w _) 2, h.later ((Ext.refl w).alloc _)⟩, trivial⟩⟩
theorem InK.news2 {w : World} {M : Nat → Prop} {e : TypeId} {t u : Tr} {v0 v1 v2 u0 u1 u2 : Value} (h : InT w M t (.agg #[v0, v1, v2])) (k : InT w M u (.agg #[u0, u1, u2])) (hM : M w.heap.size) : InK (w.alloc (.cells #[v0, v1, v2, u0, u1, u2] e)) M (some ⟨w.heap.size, 0, none⟩) [t, u] :=
  .inr ⟨w.heap.size, 0, rfl, hM, ⟨⟨v0, v1, v2, cell_of_blk (heap_alloc_new w _) 0, cell_of_blk (heap_alloc_new w _) 1, cell_of_blk (heap_alloc_new w _) 2, h.later ((Ext.refl w).alloc _)⟩, ⟨u0, u1, u2, cell_of_blk (heap_alloc_new w _) 3, cell_of_blk (heap_alloc_new w _) 4, cell_of_blk (heap_alloc_new w _) 5, k.later ((Ext.refl w).alloc _)⟩, trivial⟩⟩
end Go.Proofs.YtolkohncmidpeaaGreatDoor
namespace Go.Proofs.YtolkohncmidpeaaGreatDoor
open Go.RowKit
set_option linter.unusedVariables false
theorem most_le (k : Int) : sigT.most k ≤ 20 := by
  show mostT k ≤ 20
  unfold mostT
  split
  · omega
  · split <;> omega
end Go.Proofs.YtolkohncmidpeaaGreatDoor

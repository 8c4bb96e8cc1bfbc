/-
  Lemmas towards the law, 16: Parse5.
-/
import Derived.Test.YtolkohncmidpeaaGreatDoorHAO
namespace Go.Proofs.YtolkohncmidpeaaGreatDoor
open Go.RowKit
set_option linter.unusedVariables false
theorem prs_at {d : Nat} {l : List UInt8} {a : Nat} {c : UInt8} (h : l[a]? = some c) : prs (d + 1) l a =
      (if c = 35 then (numS l (a + 1) true).map (fun x => (.mk 1 x.1 [], x.2))
      else if c = 42 then (numS l (a + 1) false).map (fun x => (.mk 2 x.1 [], x.2))
      else if c = 78 then some (.mk 6 0 [], a + 1)
      else if c = 48 then some (.mk 7 0 [], a + 1)
      else if c = 43 then one 8 (prs d l (a + 1))
      else if c = 33 then one 11 (prs d l (a + 1))
      else if c = 94 then one 15 (prs d l (a + 1))
      else if c = 95 then one 16 (prs d l (a + 1))
      else if c = 40 then rnd (prs d l) l (a + 1)
      else if c = 91 then sqr (prs d l) l (a + 1)
      else blk (prs d l) l a c) := by
  conv => lhs; unfold prs
  rw [h]
theorem prs_none {d : Nat} {l : List UInt8} {a : Nat} (h : l[a]? = none) : prs d l a = none := by
  cases d with
  | zero => rfl
  | succ d =>
    unfold prs
    rw [h]
theorem numS_le {l : List UInt8} {a : Nat} {two : Bool} {x : Int × Nat} (h : numS l a two = some x) : x.2 ≤ l.length := by
  unfold numS at h
  cases h0 : l[a]? with
  | none => rw [h0] at h; cases h
  | some c =>
    have ha : a < l.length := by
      rcases Nat.lt_or_ge a l.length with g | g
      · exact g
      · rw [List.getElem?_eq_none g] at h0; cases h0
    rw [h0] at h
    simp only at h
    split at h
    · split at h
      · cases h1 : l[a + 1]? with
        | none => rw [h1] at h; cases h; exact ha
        | some d =>
          have hb : a + 1 < l.length := by
            rcases Nat.lt_or_ge (a + 1) l.length with g | g
            · exact g
            · rw [List.getElem?_eq_none g] at h1; cases h1
          rw [h1] at h
          simp only at h
          split at h
          · split at h
            · cases h
            · cases h; exact hb
          · cases h; exact ha
      · cases h; exact ha
    · cases h
set_option maxRecDepth 100000 in
set_option maxHeartbeats 1000000 in
theorem parse_35 (d : Nat) (hd : d ≤ 30) (s : ByteArray) (a : Nat) (w : World) (hs : s.size ≤ 1000000000) (ha : a < s.size) (hc : s[a] = 35) :
    Calls Tryz.prog 93 #[.string s, .int .i64 a, .int .i64 ((d : Int) + 1)] w (ParseQ w.heap.size w s.size (prs (d + 1) s.data.toList a)) := by
  have hR : prs (d + 1) s.data.toList a = (numS s.data.toList (a + 1) true).map (fun x => (.mk 1 x.1 [], x.2)) := by rw [prs_at (at_eq ha hc)]; rfl
  rw [hR]
  have hN := fun W => number_true s (a + 1) W hs (by omega)
  have hle : ∀ x, numS s.data.toList (a + 1) true = some x → x.2 ≤ s.size := fun x h => by have := numS_le h; simpa using this
  obtain ⟨S, hS⟩ : ∃ S, S = numS s.data.toList (a + 1) true := ⟨_, rfl⟩
  rw [← hS] at hN hle ⊢
  rw [show ((a + 1 : Nat) : Int) = (a : Int) + 1 by omega] at hN
  have HN := Lib.hid hN
  have HL := Lib.hid hle
  clear hR hN hle hS
  go_enter Tryz.func93, Tryz.ntmps93
  go_wp2_with fail
  refine (HN.out _).mono ?_
  rintro e w1 ⟨rfl, rfl⟩
  obtain ⟨x, hx⟩ : ∃ x, x = (resN S).1 := ⟨_, rfl⟩
  obtain ⟨nx, hnx⟩ : ∃ nx, nx = (resN S).2 := ⟨_, rfl⟩
  rw [← hx, ← hnx]
  have HX := Lib.hid hx
  have HNX := Lib.hid hnx
  clear hx hnx
  go_wp2_with fail
  refine (l1Leaf_any _ 1 x).mono ?_
  rintro e w2 ⟨rfl, e2⟩
  obtain ⟨s0, s1, s2, f0, f1, f2⟩ := own3 e2.newBlk
  have hsz := e2.size_alloc
  have hE := ((Ext.refl w).alloc (.cells #[.int .i64 0, .int .i64 0, .slice none 0 0] 45)).trans e2
  go_wp2_with fail
  refine bodyPost_ret (v := .tuple #[.agg #[.int .i64 1, .int .i64 x, .slice none 0 0], .int .i64 nx]) (by simp [results, Tryz.results93, go_sem, s0, s1, s2]) rfl ⟨.mk 1 x [], _, nx, rfl, From.leaf _ _ _ _, ((hE.setCell (by simp) _).setCell (by simp) _).setCell (by simp) _, ?_, ?_⟩
  · intro z hz
    cases S with
    | none => cases hz
    | some y =>
      cases hz
      exact ⟨by rw [HX.out]; rfl, by rw [HNX.out]; rfl, HL.out y rfl⟩
  · intro hz
    cases S with
    | none => rw [HNX.out]; rfl
    | some y => cases hz
set_option maxRecDepth 100000 in
set_option maxHeartbeats 1000000 in
theorem parse_42 (d : Nat) (hd : d ≤ 30) (s : ByteArray) (a : Nat) (w : World) (hs : s.size ≤ 1000000000) (ha : a < s.size) (hc : s[a] = 42) :
    Calls Tryz.prog 93 #[.string s, .int .i64 a, .int .i64 ((d : Int) + 1)] w (ParseQ w.heap.size w s.size (prs (d + 1) s.data.toList a)) := by
  have hR : prs (d + 1) s.data.toList a = (numS s.data.toList (a + 1) false).map (fun x => (.mk 2 x.1 [], x.2)) := by rw [prs_at (at_eq ha hc)]; rfl
  rw [hR]
  have hN := fun W => number_false s (a + 1) W hs (by omega)
  have hle : ∀ x, numS s.data.toList (a + 1) false = some x → x.2 ≤ s.size := fun x h => by have := numS_le h; simpa using this
  obtain ⟨S, hS⟩ : ∃ S, S = numS s.data.toList (a + 1) false := ⟨_, rfl⟩
  rw [← hS] at hN hle ⊢
  rw [show ((a + 1 : Nat) : Int) = (a : Int) + 1 by omega] at hN
  have HN := Lib.hid hN
  have HL := Lib.hid hle
  clear hR hN hle hS
  go_enter Tryz.func93, Tryz.ntmps93
  go_wp2_with fail
  refine (HN.out _).mono ?_
  rintro e w1 ⟨rfl, rfl⟩
  obtain ⟨x, hx⟩ : ∃ x, x = (resN S).1 := ⟨_, rfl⟩
  obtain ⟨nx, hnx⟩ : ∃ nx, nx = (resN S).2 := ⟨_, rfl⟩
  rw [← hx, ← hnx]
  have HX := Lib.hid hx
  have HNX := Lib.hid hnx
  clear hx hnx
  go_wp2_with fail
  refine (l1Leaf_any _ 2 x).mono ?_
  rintro e w2 ⟨rfl, e2⟩
  obtain ⟨s0, s1, s2, f0, f1, f2⟩ := own3 e2.newBlk
  have hsz := e2.size_alloc
  have hE := ((Ext.refl w).alloc (.cells #[.int .i64 0, .int .i64 0, .slice none 0 0] 45)).trans e2
  go_wp2_with fail
  refine bodyPost_ret (v := .tuple #[.agg #[.int .i64 2, .int .i64 x, .slice none 0 0], .int .i64 nx]) (by simp [results, Tryz.results93, go_sem, s0, s1, s2]) rfl ⟨.mk 2 x [], _, nx, rfl, From.leaf _ _ _ _, ((hE.setCell (by simp) _).setCell (by simp) _).setCell (by simp) _, ?_, ?_⟩
  · intro z hz
    cases S with
    | none => cases hz
    | some y =>
      cases hz
      exact ⟨by rw [HX.out]; rfl, by rw [HNX.out]; rfl, HL.out y rfl⟩
  · intro hz
    cases S with
    | none => rw [HNX.out]; rfl
    | some y => cases hz
set_option maxRecDepth 100000 in
theorem parse_78 (d : Nat) (hd : d ≤ 30) (s : ByteArray) (a : Nat) (w : World) (hs : s.size ≤ 1000000000) (ha : a < s.size) (hc : s[a] = 78) :
    Calls Tryz.prog 93 #[.string s, .int .i64 a, .int .i64 ((d : Int) + 1)] w (ParseQ w.heap.size w s.size (prs (d + 1) s.data.toList a)) := by
  have HR := Lib.hid (show prs (d + 1) s.data.toList a = some (.mk 6 0 [], a + 1) from by rw [prs_at (at_eq ha hc)]; rfl)
  generalize prs (d + 1) s.data.toList a = R at HR ⊢
  go_enter Tryz.func93, Tryz.ntmps93
  go_wp2_with fail
  refine (l1Leaf_any _ 6 0).mono ?_
  rintro e w2 ⟨rfl, e2⟩
  obtain ⟨s0, s1, s2, f0, f1, f2⟩ := own3 e2.newBlk
  have hsz := e2.size_alloc
  have hE := ((Ext.refl w).alloc (.cells #[.int .i64 0, .int .i64 0, .slice none 0 0] 45)).trans e2
  go_wp2_with fail
  refine bodyPost_ret (v := .tuple #[.agg #[.int .i64 6, .int .i64 0, .slice none 0 0], .int .i64 ((a : Int) + 1)]) (by simp [results, Tryz.results93, go_sem, s0, s1, s2]) rfl ⟨.mk 6 0 [], _, _, rfl, From.leaf _ _ _ _, ((hE.setCell (by simp) _).setCell (by simp) _).setCell (by simp) _, ?_, ?_⟩
  · intro z hz
    rw [HR.out] at hz
    cases hz
    exact ⟨rfl, by simp, ha⟩
  · intro hz
    rw [HR.out] at hz
    cases hz
set_option maxRecDepth 100000 in
theorem parse_48 (d : Nat) (hd : d ≤ 30) (s : ByteArray) (a : Nat) (w : World) (hs : s.size ≤ 1000000000) (ha : a < s.size) (hc : s[a] = 48) :
    Calls Tryz.prog 93 #[.string s, .int .i64 a, .int .i64 ((d : Int) + 1)] w (ParseQ w.heap.size w s.size (prs (d + 1) s.data.toList a)) := by
  have HR := Lib.hid (show prs (d + 1) s.data.toList a = some (.mk 7 0 [], a + 1) from by rw [prs_at (at_eq ha hc)]; rfl)
  generalize prs (d + 1) s.data.toList a = R at HR ⊢
  go_enter Tryz.func93, Tryz.ntmps93
  go_wp2_with fail
  refine (l1Leaf_any _ 7 0).mono ?_
  rintro e w2 ⟨rfl, e2⟩
  obtain ⟨s0, s1, s2, f0, f1, f2⟩ := own3 e2.newBlk
  have hsz := e2.size_alloc
  have hE := ((Ext.refl w).alloc (.cells #[.int .i64 0, .int .i64 0, .slice none 0 0] 45)).trans e2
  go_wp2_with fail
  refine bodyPost_ret (v := .tuple #[.agg #[.int .i64 7, .int .i64 0, .slice none 0 0], .int .i64 ((a : Int) + 1)]) (by simp [results, Tryz.results93, go_sem, s0, s1, s2]) rfl ⟨.mk 7 0 [], _, _, rfl, From.leaf _ _ _ _, ((hE.setCell (by simp) _).setCell (by simp) _).setCell (by simp) _, ?_, ?_⟩
  · intro z hz
    rw [HR.out] at hz
    cases hz
    exact ⟨rfl, by simp, ha⟩
  · intro hz
    rw [HR.out] at hz
    cases hz
/-- A callee's answer is handed on. -/
theorem ParseQ.on {B : Nat} {w : World} {size : Nat} {o : Option (Tr × Nat)} {e : Ending} {w' : World} (h : ParseQ B w size o e w') : ∃ (t : Tr) (k n : Int) (A : Option Addr) (l c : Nat) (nx : Int), e = .returned (.tuple #[.agg #[.int .i64 k, .int .i64 n, .slice A l c], .int .i64 nx]) ∧ From B w' t (.agg #[.int .i64 k, .int .i64 n, .slice A l c]) ∧ Ext w w' ∧ Hid ((∀ x, o = some x → t = x.1 ∧ nx = x.2 ∧ x.2 ≤ size) ∧ (o = none → nx = -1)) := by
  obtain ⟨t, u, nx, rfl, hF, e1, q⟩ := h
  obtain ⟨k, n, A, l, c, rfl⟩ := hF.three
  exact ⟨t, k, n, A, l, c, nx, rfl, hF, e1, Lib.hid q⟩
theorem rnd40 (d : Nat) (ih : ParseC d) (s : ByteArray) (a : Nat) (w : World) (hs : s.size ≤ 1000000000) (ha : a < s.size) :
    Calls Tryz.prog 131 #[.string s, .int .i64 ((a : Int) + 1), .int .i64 d] w (ParseQ w.heap.size w s.size (rnd (prs d s.data.toList) s.data.toList (a + 1))) := by
  have := round_any d ih s (a + 1) w hs ha
  rwa [show ((a + 1 : Nat) : Int) = (a : Int) + 1 by omega] at this
set_option maxRecDepth 100000 in
set_option maxHeartbeats 1000000 in
theorem parse_43 (d : Nat) (hd : d ≤ 30) (ih : ParseC d) (s : ByteArray) (a : Nat) (w : World) (hs : s.size ≤ 1000000000) (ha : a < s.size) (hc : s[a] = 43) :
    Calls Tryz.prog 93 #[.string s, .int .i64 a, .int .i64 ((d : Int) + 1)] w (ParseQ w.heap.size w s.size (prs (d + 1) s.data.toList a)) := by
  have HI := Lib.hid (fun W => prefix_43 d ih s a W hs ha hc hd)
  have hR := prs_at (d := d) (at_eq ha hc)
  rw [hR]
  clear hR
  repeat rw [if_neg (by decide)]
  try rw [if_pos rfl]
  clear ih
  go_enter Tryz.func93, Tryz.ntmps93
  go_wp2_with fail
  refine (HI.out _).mono ?_
  intro e w1 hq
  obtain ⟨t, k1, n1, A1, l1, c1, nx, rfl, hF, e1, HQ⟩ := hq.on
  obtain ⟨s0, s1, s2, f0, f1, f2⟩ := own3 e1.newBlk
  have hsz := e1.size_alloc
  have hE := ((Ext.refl w).alloc (.cells #[.int .i64 0, .int .i64 0, .slice none 0 0] 45)).trans e1
  have hF' : From (w.heap.size + 1) w1 t (.agg #[.int .i64 k1, .int .i64 n1, .slice A1 l1 c1]) := by simpa using hF
  clear hq hF
  go_wp2_with fail
  exact bodyPost_ret (v := .tuple #[.agg #[.int .i64 k1, .int .i64 n1, .slice A1 l1 c1], .int .i64 nx]) (by simp [results, Tryz.results93, go_sem, s0, s1, s2]) rfl ⟨t, _, nx, rfl, (((hF'.set (by simp) _).set (by simp) _).set (by simp) _).since (by omega), ((hE.setCell (by simp) _).setCell (by simp) _).setCell (by simp) _, HQ.out.1, HQ.out.2⟩
set_option maxRecDepth 100000 in
set_option maxHeartbeats 1000000 in
theorem parse_33 (d : Nat) (hd : d ≤ 30) (ih : ParseC d) (s : ByteArray) (a : Nat) (w : World) (hs : s.size ≤ 1000000000) (ha : a < s.size) (hc : s[a] = 33) :
    Calls Tryz.prog 93 #[.string s, .int .i64 a, .int .i64 ((d : Int) + 1)] w (ParseQ w.heap.size w s.size (prs (d + 1) s.data.toList a)) := by
  have HI := Lib.hid (fun W => prefix_33 d ih s a W hs ha hc hd)
  have hR := prs_at (d := d) (at_eq ha hc)
  rw [hR]
  clear hR
  repeat rw [if_neg (by decide)]
  try rw [if_pos rfl]
  clear ih
  go_enter Tryz.func93, Tryz.ntmps93
  go_wp2_with fail
  refine (HI.out _).mono ?_
  intro e w1 hq
  obtain ⟨t, k1, n1, A1, l1, c1, nx, rfl, hF, e1, HQ⟩ := hq.on
  obtain ⟨s0, s1, s2, f0, f1, f2⟩ := own3 e1.newBlk
  have hsz := e1.size_alloc
  have hE := ((Ext.refl w).alloc (.cells #[.int .i64 0, .int .i64 0, .slice none 0 0] 45)).trans e1
  have hF' : From (w.heap.size + 1) w1 t (.agg #[.int .i64 k1, .int .i64 n1, .slice A1 l1 c1]) := by simpa using hF
  clear hq hF
  go_wp2_with fail
  exact bodyPost_ret (v := .tuple #[.agg #[.int .i64 k1, .int .i64 n1, .slice A1 l1 c1], .int .i64 nx]) (by simp [results, Tryz.results93, go_sem, s0, s1, s2]) rfl ⟨t, _, nx, rfl, (((hF'.set (by simp) _).set (by simp) _).set (by simp) _).since (by omega), ((hE.setCell (by simp) _).setCell (by simp) _).setCell (by simp) _, HQ.out.1, HQ.out.2⟩
set_option maxRecDepth 100000 in
set_option maxHeartbeats 1000000 in
theorem parse_94 (d : Nat) (hd : d ≤ 30) (ih : ParseC d) (s : ByteArray) (a : Nat) (w : World) (hs : s.size ≤ 1000000000) (ha : a < s.size) (hc : s[a] = 94) :
    Calls Tryz.prog 93 #[.string s, .int .i64 a, .int .i64 ((d : Int) + 1)] w (ParseQ w.heap.size w s.size (prs (d + 1) s.data.toList a)) := by
  have HI := Lib.hid (fun W => prefix_94 d ih s a W hs ha hc hd)
  have hR := prs_at (d := d) (at_eq ha hc)
  rw [hR]
  clear hR
  repeat rw [if_neg (by decide)]
  try rw [if_pos rfl]
  clear ih
  go_enter Tryz.func93, Tryz.ntmps93
  go_wp2_with fail
  refine (HI.out _).mono ?_
  intro e w1 hq
  obtain ⟨t, k1, n1, A1, l1, c1, nx, rfl, hF, e1, HQ⟩ := hq.on
  obtain ⟨s0, s1, s2, f0, f1, f2⟩ := own3 e1.newBlk
  have hsz := e1.size_alloc
  have hE := ((Ext.refl w).alloc (.cells #[.int .i64 0, .int .i64 0, .slice none 0 0] 45)).trans e1
  have hF' : From (w.heap.size + 1) w1 t (.agg #[.int .i64 k1, .int .i64 n1, .slice A1 l1 c1]) := by simpa using hF
  clear hq hF
  go_wp2_with fail
  exact bodyPost_ret (v := .tuple #[.agg #[.int .i64 k1, .int .i64 n1, .slice A1 l1 c1], .int .i64 nx]) (by simp [results, Tryz.results93, go_sem, s0, s1, s2]) rfl ⟨t, _, nx, rfl, (((hF'.set (by simp) _).set (by simp) _).set (by simp) _).since (by omega), ((hE.setCell (by simp) _).setCell (by simp) _).setCell (by simp) _, HQ.out.1, HQ.out.2⟩
set_option maxRecDepth 100000 in
set_option maxHeartbeats 1000000 in
theorem parse_95 (d : Nat) (hd : d ≤ 30) (ih : ParseC d) (s : ByteArray) (a : Nat) (w : World) (hs : s.size ≤ 1000000000) (ha : a < s.size) (hc : s[a] = 95) :
    Calls Tryz.prog 93 #[.string s, .int .i64 a, .int .i64 ((d : Int) + 1)] w (ParseQ w.heap.size w s.size (prs (d + 1) s.data.toList a)) := by
  have HI := Lib.hid (fun W => prefix_95 d ih s a W hs ha hc hd)
  have hR := prs_at (d := d) (at_eq ha hc)
  rw [hR]
  clear hR
  repeat rw [if_neg (by decide)]
  try rw [if_pos rfl]
  clear ih
  go_enter Tryz.func93, Tryz.ntmps93
  go_wp2_with fail
  refine (HI.out _).mono ?_
  intro e w1 hq
  obtain ⟨t, k1, n1, A1, l1, c1, nx, rfl, hF, e1, HQ⟩ := hq.on
  obtain ⟨s0, s1, s2, f0, f1, f2⟩ := own3 e1.newBlk
  have hsz := e1.size_alloc
  have hE := ((Ext.refl w).alloc (.cells #[.int .i64 0, .int .i64 0, .slice none 0 0] 45)).trans e1
  have hF' : From (w.heap.size + 1) w1 t (.agg #[.int .i64 k1, .int .i64 n1, .slice A1 l1 c1]) := by simpa using hF
  clear hq hF
  go_wp2_with fail
  exact bodyPost_ret (v := .tuple #[.agg #[.int .i64 k1, .int .i64 n1, .slice A1 l1 c1], .int .i64 nx]) (by simp [results, Tryz.results93, go_sem, s0, s1, s2]) rfl ⟨t, _, nx, rfl, (((hF'.set (by simp) _).set (by simp) _).set (by simp) _).since (by omega), ((hE.setCell (by simp) _).setCell (by simp) _).setCell (by simp) _, HQ.out.1, HQ.out.2⟩
set_option maxRecDepth 100000 in
set_option maxHeartbeats 1000000 in
theorem parse_60 (d : Nat) (hd : d ≤ 30) (ih : ParseC d) (s : ByteArray) (a : Nat) (w : World) (hs : s.size ≤ 1000000000) (ha : a < s.size) (hc : s[a] = 60) :
    Calls Tryz.prog 93 #[.string s, .int .i64 a, .int .i64 ((d : Int) + 1)] w (ParseQ w.heap.size w s.size (prs (d + 1) s.data.toList a)) := by
  have HI := Lib.hid (fun W => block_60 d hd ih s a W hs ha hc)
  have hR := prs_at (d := d) (at_eq ha hc)
  rw [hR]
  clear hR
  repeat rw [if_neg (by decide)]
  try rw [if_pos rfl]
  clear ih
  go_enter Tryz.func93, Tryz.ntmps93
  go_wp2_with fail
  refine (HI.out _).mono ?_
  intro e w1 hq
  obtain ⟨t, k1, n1, A1, l1, c1, nx, rfl, hF, e1, HQ⟩ := hq.on
  obtain ⟨s0, s1, s2, f0, f1, f2⟩ := own3 e1.newBlk
  have hsz := e1.size_alloc
  have hE := ((Ext.refl w).alloc (.cells #[.int .i64 0, .int .i64 0, .slice none 0 0] 45)).trans e1
  have hF' : From (w.heap.size + 1) w1 t (.agg #[.int .i64 k1, .int .i64 n1, .slice A1 l1 c1]) := by simpa using hF
  clear hq hF
  go_wp2_with fail
  exact bodyPost_ret (v := .tuple #[.agg #[.int .i64 k1, .int .i64 n1, .slice A1 l1 c1], .int .i64 nx]) (by simp [results, Tryz.results93, go_sem, s0, s1, s2]) rfl ⟨t, _, nx, rfl, (((hF'.set (by simp) _).set (by simp) _).set (by simp) _).since (by omega), ((hE.setCell (by simp) _).setCell (by simp) _).setCell (by simp) _, HQ.out.1, HQ.out.2⟩
set_option maxRecDepth 100000 in
set_option maxHeartbeats 1000000 in
theorem parse_123 (d : Nat) (hd : d ≤ 30) (ih : ParseC d) (s : ByteArray) (a : Nat) (w : World) (hs : s.size ≤ 1000000000) (ha : a < s.size) (hc : s[a] = 123) :
    Calls Tryz.prog 93 #[.string s, .int .i64 a, .int .i64 ((d : Int) + 1)] w (ParseQ w.heap.size w s.size (prs (d + 1) s.data.toList a)) := by
  have HI := Lib.hid (fun W => block_123 d hd ih s a W hs ha hc)
  have hR := prs_at (d := d) (at_eq ha hc)
  rw [hR]
  clear hR
  repeat rw [if_neg (by decide)]
  try rw [if_pos rfl]
  clear ih
  go_enter Tryz.func93, Tryz.ntmps93
  go_wp2_with fail
  refine (HI.out _).mono ?_
  intro e w1 hq
  obtain ⟨t, k1, n1, A1, l1, c1, nx, rfl, hF, e1, HQ⟩ := hq.on
  obtain ⟨s0, s1, s2, f0, f1, f2⟩ := own3 e1.newBlk
  have hsz := e1.size_alloc
  have hE := ((Ext.refl w).alloc (.cells #[.int .i64 0, .int .i64 0, .slice none 0 0] 45)).trans e1
  have hF' : From (w.heap.size + 1) w1 t (.agg #[.int .i64 k1, .int .i64 n1, .slice A1 l1 c1]) := by simpa using hF
  clear hq hF
  go_wp2_with fail
  exact bodyPost_ret (v := .tuple #[.agg #[.int .i64 k1, .int .i64 n1, .slice A1 l1 c1], .int .i64 nx]) (by simp [results, Tryz.results93, go_sem, s0, s1, s2]) rfl ⟨t, _, nx, rfl, (((hF'.set (by simp) _).set (by simp) _).set (by simp) _).since (by omega), ((hE.setCell (by simp) _).setCell (by simp) _).setCell (by simp) _, HQ.out.1, HQ.out.2⟩
set_option maxRecDepth 100000 in
set_option maxHeartbeats 1000000 in
theorem parse_124 (d : Nat) (hd : d ≤ 30) (ih : ParseC d) (s : ByteArray) (a : Nat) (w : World) (hs : s.size ≤ 1000000000) (ha : a < s.size) (hc : s[a] = 124) :
    Calls Tryz.prog 93 #[.string s, .int .i64 a, .int .i64 ((d : Int) + 1)] w (ParseQ w.heap.size w s.size (prs (d + 1) s.data.toList a)) := by
  have HI := Lib.hid (fun W => block_124 d hd ih s a W hs ha hc)
  have hR := prs_at (d := d) (at_eq ha hc)
  rw [hR]
  clear hR
  repeat rw [if_neg (by decide)]
  try rw [if_pos rfl]
  clear ih
  go_enter Tryz.func93, Tryz.ntmps93
  go_wp2_with fail
  refine (HI.out _).mono ?_
  intro e w1 hq
  obtain ⟨t, k1, n1, A1, l1, c1, nx, rfl, hF, e1, HQ⟩ := hq.on
  obtain ⟨s0, s1, s2, f0, f1, f2⟩ := own3 e1.newBlk
  have hsz := e1.size_alloc
  have hE := ((Ext.refl w).alloc (.cells #[.int .i64 0, .int .i64 0, .slice none 0 0] 45)).trans e1
  have hF' : From (w.heap.size + 1) w1 t (.agg #[.int .i64 k1, .int .i64 n1, .slice A1 l1 c1]) := by simpa using hF
  clear hq hF
  go_wp2_with fail
  exact bodyPost_ret (v := .tuple #[.agg #[.int .i64 k1, .int .i64 n1, .slice A1 l1 c1], .int .i64 nx]) (by simp [results, Tryz.results93, go_sem, s0, s1, s2]) rfl ⟨t, _, nx, rfl, (((hF'.set (by simp) _).set (by simp) _).set (by simp) _).since (by omega), ((hE.setCell (by simp) _).setCell (by simp) _).setCell (by simp) _, HQ.out.1, HQ.out.2⟩
set_option maxRecDepth 100000 in
set_option maxHeartbeats 1000000 in
theorem parse_64 (d : Nat) (hd : d ≤ 30) (ih : ParseC d) (s : ByteArray) (a : Nat) (w : World) (hs : s.size ≤ 1000000000) (ha : a < s.size) (hc : s[a] = 64) :
    Calls Tryz.prog 93 #[.string s, .int .i64 a, .int .i64 ((d : Int) + 1)] w (ParseQ w.heap.size w s.size (prs (d + 1) s.data.toList a)) := by
  have HI := Lib.hid (fun W => block_64 d hd ih s a W hs ha hc)
  have hR := prs_at (d := d) (at_eq ha hc)
  rw [hR]
  clear hR
  repeat rw [if_neg (by decide)]
  try rw [if_pos rfl]
  clear ih
  go_enter Tryz.func93, Tryz.ntmps93
  go_wp2_with fail
  refine (HI.out _).mono ?_
  intro e w1 hq
  obtain ⟨t, k1, n1, A1, l1, c1, nx, rfl, hF, e1, HQ⟩ := hq.on
  obtain ⟨s0, s1, s2, f0, f1, f2⟩ := own3 e1.newBlk
  have hsz := e1.size_alloc
  have hE := ((Ext.refl w).alloc (.cells #[.int .i64 0, .int .i64 0, .slice none 0 0] 45)).trans e1
  have hF' : From (w.heap.size + 1) w1 t (.agg #[.int .i64 k1, .int .i64 n1, .slice A1 l1 c1]) := by simpa using hF
  clear hq hF
  go_wp2_with fail
  exact bodyPost_ret (v := .tuple #[.agg #[.int .i64 k1, .int .i64 n1, .slice A1 l1 c1], .int .i64 nx]) (by simp [results, Tryz.results93, go_sem, s0, s1, s2]) rfl ⟨t, _, nx, rfl, (((hF'.set (by simp) _).set (by simp) _).set (by simp) _).since (by omega), ((hE.setCell (by simp) _).setCell (by simp) _).setCell (by simp) _, HQ.out.1, HQ.out.2⟩
set_option maxRecDepth 100000 in
set_option maxHeartbeats 1000000 in
theorem parse_40 (d : Nat) (hd : d ≤ 30) (ih : ParseC d) (s : ByteArray) (a : Nat) (w : World) (hs : s.size ≤ 1000000000) (ha : a < s.size) (hc : s[a] = 40) :
    Calls Tryz.prog 93 #[.string s, .int .i64 a, .int .i64 ((d : Int) + 1)] w (ParseQ w.heap.size w s.size (prs (d + 1) s.data.toList a)) := by
  have HI := Lib.hid (fun W => rnd40 d ih s a W hs ha)
  have hR := prs_at (d := d) (at_eq ha hc)
  rw [hR]
  clear hR
  repeat rw [if_neg (by decide)]
  try rw [if_pos rfl]
  clear ih
  go_enter Tryz.func93, Tryz.ntmps93
  go_wp2_with fail
  refine (HI.out _).mono ?_
  intro e w1 hq
  obtain ⟨t, k1, n1, A1, l1, c1, nx, rfl, hF, e1, HQ⟩ := hq.on
  obtain ⟨s0, s1, s2, f0, f1, f2⟩ := own3 e1.newBlk
  have hsz := e1.size_alloc
  have hE := ((Ext.refl w).alloc (.cells #[.int .i64 0, .int .i64 0, .slice none 0 0] 45)).trans e1
  have hF' : From (w.heap.size + 1) w1 t (.agg #[.int .i64 k1, .int .i64 n1, .slice A1 l1 c1]) := by simpa using hF
  clear hq hF
  go_wp2_with fail
  exact bodyPost_ret (v := .tuple #[.agg #[.int .i64 k1, .int .i64 n1, .slice A1 l1 c1], .int .i64 nx]) (by simp [results, Tryz.results93, go_sem, s0, s1, s2]) rfl ⟨t, _, nx, rfl, (((hF'.set (by simp) _).set (by simp) _).set (by simp) _).since (by omega), ((hE.setCell (by simp) _).setCell (by simp) _).setCell (by simp) _, HQ.out.1, HQ.out.2⟩
end Go.Proofs.YtolkohncmidpeaaGreatDoor

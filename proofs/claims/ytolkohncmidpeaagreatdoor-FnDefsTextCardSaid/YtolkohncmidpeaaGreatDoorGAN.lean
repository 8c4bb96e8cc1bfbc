/-
  Lemmas towards the law, 14: Parse4.
-/
import Derived.Test.YtolkohncmidpeaaGreatDoorGAM
namespace Go.Proofs.YtolkohncmidpeaaGreatDoor
open Go.RowKit
set_option linter.unusedVariables false
theorem series_at (d : Nat) (ih : ParseC d) (s : ByteArray) (a many : Nat) (last : UInt8) (A M L : Int) (hA : A = a) (hM : M = many) (hL : L = (last.toNat : Int)) (w : World) (hs : s.size ≤ 1000000000) (ha : a ≤ s.size + 2) (hm : many ≤ 4) (hm1 : 1 ≤ many) :
    Calls Tryz.prog 160 #[.string s, .int .i64 A, .int .i64 d, .int .i64 M, .int .u8 L] w (SerQ w.heap.size w s.size (ser (prs d s.data.toList) s.data.toList last many a)) := by
  subst hA hM hL
  exact series_any d ih s a many last w hs ha hm hm1
theorem bodyBad (B : Nat) (w w' : World) (size : Nat) (o : Option (Tr × Nat)) (ho : o = none) (hx : Ext w w') : ParseQ B w size o (.returned (.tuple #[.agg #[.int .i64 0, .int .i64 0, .slice none 0 0], .int .i64 (-1)])) w' :=
  ⟨.mk 0 0 [], _, -1, rfl, From.leaf _ _ _ _, hx, (fun x hx => by rw [ho] at hx; cases hx), fun _ => rfl⟩
theorem FromK.set {B : Nat} {w : World} {A : Option Addr} {ks : List Tr} (h : FromK B w A ks) {p : Addr} (hp : p.block < B) (u : Value) : FromK B (w.setCell p u) A ks :=
  h.mono (fun b hb => ⟨hb.1, by simpa using hb.2⟩) (fun b hb => Below.heap_setCell w p u b (by omega))
theorem From.mk {B : Nat} {w : World} {A : Option Addr} {ks : List Tr} {cap : Nat} (k n : Int) (h : FromK B w A ks) (hl : ks.length ≤ cap) (hc : cap ≤ maxLen) : From B w (.mk k n ks) (.agg #[.int .i64 k, .int .i64 n, .slice A ks.length cap]) := InT.mk_iff.2 ⟨A, cap, rfl, hl, hc, h⟩
set_option maxRecDepth 100000 in
set_option maxHeartbeats 1000000 in
theorem block_60 (d : Nat) (hd : d ≤ 30) (ih : ParseC d) (s : ByteArray) (a : Nat) (w : World) (hs : s.size ≤ 1000000000) (ha : a < s.size) (hc : s[a] = 60) :
    Calls Tryz.prog 132 #[.string s, .int .i64 a, .int .i64 ((d : Int) + 1)] w (ParseQ w.heap.size w s.size (blk (prs d s.data.toList) s.data.toList a 60)) := by
  have HI := Lib.hid (fun W => series_at d ih s (a + 1) 4 62 ((a : Int) + 1) 4 62 (by omega) (by omega) (by decide) W hs (by omega) (by omega) (by omega))
  obtain ⟨F, hF⟩ : ∃ F, F = prs d s.data.toList := ⟨_, rfl⟩
  rw [← hF] at HI ⊢
  obtain ⟨S, hS⟩ : ∃ S, S = ser F s.data.toList 62 4 (a + 1) := ⟨_, rfl⟩
  rw [← hS] at HI
  have hR : blk F s.data.toList a 60 = S.map (fun x => (.mk 9 0 x.1, x.2)) := by rw [hS]; rfl
  rw [hR]
  have HK := Lib.hid (fun W => specopsT 9 W)
  have hop : opsT 9 = 4 := rfl
  rw [hop] at HK
  clear hR ih hF hS hop
  go_enter Tryz.func132, Tryz.ntmps132
  go_wp2_with fail
  refine (HK.out _).mono ?_
  rintro e w0 ⟨rfl, rfl⟩
  go_wp2_with fail
  refine (HI.out _).mono ?_
  rintro e w1 ⟨ts, A, cap, nx, rfl, h1, h2, hK, e1, q1, q2⟩
  obtain ⟨s0, s1, s2, f0, f1, f2⟩ := own3 e1.newBlk
  have hsz := e1.size_alloc
  have hx := ((Ext.refl w).alloc (.cells #[.int .i64 0, .int .i64 0, .slice none 0 0] 45)).trans e1
  have HQ1 := Lib.hid q1
  have HQ2 := Lib.hid q2
  have hK' : FromK (w.heap.size + 1) w1 A ts := by simpa using hK
  clear q1 q2 hK
  go_wp2_with fail
  refine bodyPost_ret (v := .tuple #[.agg #[.int .i64 9, .int .i64 0, .slice A ts.length cap], .int .i64 nx]) (by simp [results, Tryz.results132, go_sem, s0, s1, s2]) rfl ⟨.mk 9 0 ts, _, nx, rfl, ?_, ?_, ?_, ?_⟩
  · exact (From.mk 9 0 (((hK'.set (by simp) _).set (by simp) _).set (by simp) _) h1 h2).since (by omega)
  · exact ((hx.setCell (by simp) _).setCell (by simp) _).setCell (by simp) _
  · intro x hx
    cases S with
    | none => cases hx
    | some y =>
      obtain ⟨g1, g2, g3⟩ := HQ1.out y rfl
      cases hx
      exact ⟨by rw [g1], g2, g3⟩
  · intro hx
    cases S with
    | none => exact HQ2.out rfl
    | some y => cases hx
set_option maxRecDepth 100000 in
set_option maxHeartbeats 1000000 in
theorem block_123 (d : Nat) (hd : d ≤ 30) (ih : ParseC d) (s : ByteArray) (a : Nat) (w : World) (hs : s.size ≤ 1000000000) (ha : a < s.size) (hc : s[a] = 123) :
    Calls Tryz.prog 132 #[.string s, .int .i64 a, .int .i64 ((d : Int) + 1)] w (ParseQ w.heap.size w s.size (blk (prs d s.data.toList) s.data.toList a 123)) := by
  have HI := Lib.hid (fun W => series_at d ih s (a + 1) 3 125 ((a : Int) + 1) 3 125 (by omega) (by omega) (by decide) W hs (by omega) (by omega) (by omega))
  obtain ⟨F, hF⟩ : ∃ F, F = prs d s.data.toList := ⟨_, rfl⟩
  rw [← hF] at HI ⊢
  obtain ⟨S, hS⟩ : ∃ S, S = ser F s.data.toList 125 3 (a + 1) := ⟨_, rfl⟩
  rw [← hS] at HI
  have hR : blk F s.data.toList a 123 = S.map (fun x => (.mk 10 0 x.1, x.2)) := by rw [hS]; rfl
  rw [hR]
  have HK := Lib.hid (fun W => specopsT 10 W)
  have hop : opsT 10 = 3 := rfl
  rw [hop] at HK
  clear hR ih hF hS hop
  go_enter Tryz.func132, Tryz.ntmps132
  go_wp2_with fail
  refine (HK.out _).mono ?_
  rintro e w0 ⟨rfl, rfl⟩
  go_wp2_with fail
  refine (HI.out _).mono ?_
  rintro e w1 ⟨ts, A, cap, nx, rfl, h1, h2, hK, e1, q1, q2⟩
  obtain ⟨s0, s1, s2, f0, f1, f2⟩ := own3 e1.newBlk
  have hsz := e1.size_alloc
  have hx := ((Ext.refl w).alloc (.cells #[.int .i64 0, .int .i64 0, .slice none 0 0] 45)).trans e1
  have HQ1 := Lib.hid q1
  have HQ2 := Lib.hid q2
  have hK' : FromK (w.heap.size + 1) w1 A ts := by simpa using hK
  clear q1 q2 hK
  go_wp2_with fail
  refine bodyPost_ret (v := .tuple #[.agg #[.int .i64 10, .int .i64 0, .slice A ts.length cap], .int .i64 nx]) (by simp [results, Tryz.results132, go_sem, s0, s1, s2]) rfl ⟨.mk 10 0 ts, _, nx, rfl, ?_, ?_, ?_, ?_⟩
  · exact (From.mk 10 0 (((hK'.set (by simp) _).set (by simp) _).set (by simp) _) h1 h2).since (by omega)
  · exact ((hx.setCell (by simp) _).setCell (by simp) _).setCell (by simp) _
  · intro x hx
    cases S with
    | none => cases hx
    | some y =>
      obtain ⟨g1, g2, g3⟩ := HQ1.out y rfl
      cases hx
      exact ⟨by rw [g1], g2, g3⟩
  · intro hx
    cases S with
    | none => exact HQ2.out rfl
    | some y => cases hx
set_option maxRecDepth 100000 in
set_option maxHeartbeats 1000000 in
theorem block_124 (d : Nat) (hd : d ≤ 30) (ih : ParseC d) (s : ByteArray) (a : Nat) (w : World) (hs : s.size ≤ 1000000000) (ha : a < s.size) (hc : s[a] = 124) :
    Calls Tryz.prog 132 #[.string s, .int .i64 a, .int .i64 ((d : Int) + 1)] w (ParseQ w.heap.size w s.size (blk (prs d s.data.toList) s.data.toList a 124)) := by
  have HI := Lib.hid (fun W => series_at d ih s (a + 1) 3 124 ((a : Int) + 1) 3 124 (by omega) (by omega) (by decide) W hs (by omega) (by omega) (by omega))
  obtain ⟨F, hF⟩ : ∃ F, F = prs d s.data.toList := ⟨_, rfl⟩
  rw [← hF] at HI ⊢
  obtain ⟨S, hS⟩ : ∃ S, S = ser F s.data.toList 124 3 (a + 1) := ⟨_, rfl⟩
  rw [← hS] at HI
  have hR : blk F s.data.toList a 124 = S.map (fun x => (.mk 14 0 x.1, x.2)) := by rw [hS]; rfl
  rw [hR]
  have HK := Lib.hid (fun W => specopsT 14 W)
  have hop : opsT 14 = 3 := rfl
  rw [hop] at HK
  clear hR ih hF hS hop
  go_enter Tryz.func132, Tryz.ntmps132
  go_wp2_with fail
  refine (HK.out _).mono ?_
  rintro e w0 ⟨rfl, rfl⟩
  go_wp2_with fail
  refine (HI.out _).mono ?_
  rintro e w1 ⟨ts, A, cap, nx, rfl, h1, h2, hK, e1, q1, q2⟩
  obtain ⟨s0, s1, s2, f0, f1, f2⟩ := own3 e1.newBlk
  have hsz := e1.size_alloc
  have hx := ((Ext.refl w).alloc (.cells #[.int .i64 0, .int .i64 0, .slice none 0 0] 45)).trans e1
  have HQ1 := Lib.hid q1
  have HQ2 := Lib.hid q2
  have hK' : FromK (w.heap.size + 1) w1 A ts := by simpa using hK
  clear q1 q2 hK
  go_wp2_with fail
  refine bodyPost_ret (v := .tuple #[.agg #[.int .i64 14, .int .i64 0, .slice A ts.length cap], .int .i64 nx]) (by simp [results, Tryz.results132, go_sem, s0, s1, s2]) rfl ⟨.mk 14 0 ts, _, nx, rfl, ?_, ?_, ?_, ?_⟩
  · exact (From.mk 14 0 (((hK'.set (by simp) _).set (by simp) _).set (by simp) _) h1 h2).since (by omega)
  · exact ((hx.setCell (by simp) _).setCell (by simp) _).setCell (by simp) _
  · intro x hx
    cases S with
    | none => cases hx
    | some y =>
      obtain ⟨g1, g2, g3⟩ := HQ1.out y rfl
      cases hx
      exact ⟨by rw [g1], g2, g3⟩
  · intro hx
    cases S with
    | none => exact HQ2.out rfl
    | some y => cases hx
set_option maxRecDepth 100000 in
set_option maxHeartbeats 1000000 in
theorem block_64 (d : Nat) (hd : d ≤ 30) (ih : ParseC d) (s : ByteArray) (a : Nat) (w : World) (hs : s.size ≤ 1000000000) (ha : a < s.size) (hc : s[a] = 64) :
    Calls Tryz.prog 132 #[.string s, .int .i64 a, .int .i64 ((d : Int) + 1)] w (ParseQ w.heap.size w s.size (blk (prs d s.data.toList) s.data.toList a 64)) := by
  have HI := Lib.hid (fun W => series_at d ih s (a + 2) 3 62 ((a : Int) + 2) 3 62 (by omega) (by omega) (by decide) W hs (by omega) (by omega) (by omega))
  obtain ⟨F, hF⟩ : ∃ F, F = prs d s.data.toList := ⟨_, rfl⟩
  rw [← hF] at HI ⊢
  obtain ⟨S, hS⟩ : ∃ S, S = ser F s.data.toList 62 3 (a + 2) := ⟨_, rfl⟩
  rw [← hS] at HI
  have hR : blk F s.data.toList a 64 = if s.data.toList[a + 1]? = some 60 then S.map (fun x => (.mk 12 0 x.1, x.2)) else none := by rw [hS]; rfl
  obtain ⟨R, hRR⟩ : ∃ R, R = blk F s.data.toList a 64 := ⟨_, rfl⟩
  rw [← hRR] at hR ⊢
  have HK := Lib.hid (fun W => specopsT 12 W)
  have hop : opsT 12 = 3 := rfl
  rw [hop] at HK
  clear hRR ih hF hS hop
  by_cases h1 : a + 1 < s.size
  · obtain ⟨c, hcc⟩ : ∃ c, s[a + 1] = c := ⟨_, rfl⟩
    rw [at_eq h1 hcc] at hR
    have t1 : decide ((s.size : Int) < (a : Int) + 2) = false := decide_eq_false (by omega)
    have hz1 : (a : Int) + 1 < (s.size : Int) := by omega
    obtain ⟨p, hp⟩ : ∃ p, c.toNat = p := ⟨_, rfl⟩
    by_cases h60 : c = 60
    · rw [if_pos (by rw [h60])] at hR
      have hp60 : p = 60 := by rw [← hp, h60]; rfl
      have HR := Lib.hid hR
      subst hp60
      clear hR h60
      go_enter Tryz.func132, Tryz.ntmps132
      go_wp2_with fail
      refine (HK.out _).mono ?_
      rintro e w0 ⟨rfl, rfl⟩
      go_wp2_with fail
      refine (HI.out _).mono ?_
      rintro e w1 ⟨ts, A, cap, nx, rfl, h1', h2, hK, e1, q1, q2⟩
      obtain ⟨s0, s1, s2, f0, f1, f2⟩ := own3 e1.newBlk
      have hsz := e1.size_alloc
      have hx := ((Ext.refl w).alloc (.cells #[.int .i64 0, .int .i64 0, .slice none 0 0] 45)).trans e1
      have HQ1 := Lib.hid q1
      have HQ2 := Lib.hid q2
      have hK' : FromK (w.heap.size + 1) w1 A ts := by simpa using hK
      clear q1 q2 hK
      go_wp2_with fail
      refine bodyPost_ret (v := .tuple #[.agg #[.int .i64 12, .int .i64 0, .slice A ts.length cap], .int .i64 nx]) (by simp [results, Tryz.results132, go_sem, s0, s1, s2]) rfl ⟨.mk 12 0 ts, _, nx, rfl, ?_, ?_, ?_, ?_⟩
      · exact (From.mk 12 0 (((hK'.set (by simp) _).set (by simp) _).set (by simp) _) h1' h2).since (by omega)
      · exact ((hx.setCell (by simp) _).setCell (by simp) _).setCell (by simp) _
      · intro x hx
        rw [HR.out] at hx
        cases S with
        | none => cases hx
        | some y =>
          obtain ⟨g1, g2, g3⟩ := HQ1.out y rfl
          cases hx
          exact ⟨by rw [g1], g2, g3⟩
      · intro hx
        rw [HR.out] at hx
        cases S with
        | none => exact HQ2.out rfl
        | some y => cases hx
    · rw [if_neg (by intro h; cases h; exact h60 rfl)] at hR
      have t2 : ((p : Int) != 60) = true := by rw [bne_iff_ne]; intro h; exact h60 (UInt8.toNat_inj.1 (by rw [hp]; simp; omega))
      have HR := Lib.hid hR
      clear hR h60
      go_enter Tryz.func132, Tryz.ntmps132
      go_wp2_with fail
      exact bodyPost_ret (v := .tuple #[.agg #[.int .i64 0, .int .i64 0, .slice none 0 0], .int .i64 (-1)]) (by simp [results, Tryz.results132, go_sem]) rfl (bodyBad _ _ _ _ _ HR.out ((Ext.refl w).alloc _))
  · rw [at_none s (by omega), if_neg (by simp)] at hR
    have t1 : decide ((s.size : Int) < (a : Int) + 2) = true := decide_eq_true (by omega)
    have HR := Lib.hid hR
    clear hR
    go_enter Tryz.func132, Tryz.ntmps132
    go_wp2_with fail
    exact bodyPost_ret (v := .tuple #[.agg #[.int .i64 0, .int .i64 0, .slice none 0 0], .int .i64 (-1)]) (by simp [results, Tryz.results132, go_sem]) rfl (bodyBad _ _ _ _ _ HR.out ((Ext.refl w).alloc _))
set_option maxRecDepth 100000 in
set_option maxHeartbeats 1000000 in
theorem block_no (d : Nat) (hd : d ≤ 30) (s : ByteArray) (a : Nat) (w : World) (hs : s.size ≤ 1000000000) (ha : a < s.size) (c : UInt8) (hc : s[a] = c) (hk : blkK c = 0) :
    Calls Tryz.prog 132 #[.string s, .int .i64 a, .int .i64 ((d : Int) + 1)] w (ParseQ w.heap.size w s.size (blk (prs d s.data.toList) s.data.toList a c)) := by
  have HR := Lib.hid (show blk (prs d s.data.toList) s.data.toList a c = none from by unfold blk; rw [if_pos hk])
  generalize blk (prs d s.data.toList) s.data.toList a c = R at HR ⊢
  obtain ⟨p, hp⟩ : ∃ p, c.toNat = p := ⟨_, rfl⟩
  have g1 : c ≠ 60 := fun h => by rw [h] at hk; exact absurd hk (by decide)
  have g2 : c ≠ 123 := fun h => by rw [h] at hk; exact absurd hk (by decide)
  have g3 : c ≠ 124 := fun h => by rw [h] at hk; exact absurd hk (by decide)
  have g4 : c ≠ 64 := fun h => by rw [h] at hk; exact absurd hk (by decide)
  have t1 : ((p : Int) == 60) = false := by rw [beq_eq_false_iff_ne]; intro h; exact g1 (UInt8.toNat_inj.1 (by rw [hp]; simp; omega))
  have t2 : ((p : Int) == 123) = false := by rw [beq_eq_false_iff_ne]; intro h; exact g2 (UInt8.toNat_inj.1 (by rw [hp]; simp; omega))
  have t3 : ((p : Int) == 124) = false := by rw [beq_eq_false_iff_ne]; intro h; exact g3 (UInt8.toNat_inj.1 (by rw [hp]; simp; omega))
  have t4 : ((p : Int) == 64) = false := by rw [beq_eq_false_iff_ne]; intro h; exact g4 (UInt8.toNat_inj.1 (by rw [hp]; simp; omega))
  clear g1 g2 g3 g4 hk
  go_enter Tryz.func132, Tryz.ntmps132
  go_wp2_with fail
  exact bodyPost_ret (v := .tuple #[.agg #[.int .i64 0, .int .i64 0, .slice none 0 0], .int .i64 (-1)]) (by simp [results, Tryz.results132, go_sem]) rfl (bodyBad _ _ _ _ _ HR.out ((Ext.refl w).alloc _))
end Go.Proofs.YtolkohncmidpeaaGreatDoor

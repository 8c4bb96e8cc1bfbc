/-
  Lemmas towards the law, 27: PsD, Sub.
-/
import Derived.Test.YtolkohncmidpeaaGreatDoorGAT
import Derived.Test.YtolkohncmidpeaaGreatDoorGAZ
namespace Go.Proofs.YtolkohncmidpeaaGreatDoor
open Go.RowKit
set_option linter.unusedVariables false
/-- The definitions of all lines but the last. -/
def linesP : List (List UInt8) → Option (List Tr)
  | [] => some []
  | [_] => some []
  | x :: y :: r => match lineP x with
    | none => none
    | some (t, b) => (linesP (y :: r)).map fun ds => t :: b :: ds
def psO (l : List UInt8) : Option (List Tr) → Option (List Tr)
  | none => none
  | some ks => if fmtDV ks (ks.length / 2) = l ∧ dfV ks (ks.length / 2) = true then some ks else none
/-- ParseDefs' answer. -/
def psD (l : List UInt8) : Option (List Tr) := if 9 < (cutL 10 l).length then none else psO l (linesP (cutL 10 l))
theorem cutS_ne (c : UInt8) : ∀ (r pre : List UInt8), cutS c pre r ≠ []
  | [], pre => by simp [cutS]
  | x :: r, pre => by
    unfold cutS
    split
    · simp
    · exact cutS_ne c r _
theorem linesP_step {xs : List (List UInt8)} {j : Nat} (h : j + 1 < xs.length) : linesP (xs.drop j) = match lineP (xs[j]'(by omega)) with
    | none => none
    | some (t, b) => (linesP (xs.drop (j + 1))).map fun ds => t :: b :: ds := by
  rw [List.drop_eq_getElem_cons (i := j) (by omega), List.drop_eq_getElem_cons (i := j + 1) h]
  rfl
theorem linesP_last {xs : List (List UInt8)} {j : Nat} (h : j + 1 = xs.length) : linesP (xs.drop j) = some [] := by
  rw [List.drop_eq_getElem_cons (i := j) (by omega), List.drop_of_length_le (by omega)]
  rfl
theorem strs_slice {w : World} {base : Nat} {e : TypeId} {v : Value} {xs : List (List UInt8)} (h : w.ownsRow base e 1 v xs.length (strs xs)) : ∃ A cap, v = .slice A xs.length cap ∧ xs.length ≤ cap ∧ cap ≤ maxLen ∧ ∀ j (hj : j < xs.length), ∃ g, A = some ⟨g, 0, none⟩ ∧ base ≤ g ∧ g < w.heap.size ∧ w.cell? ⟨g, j, none⟩ = some (.string (ofL xs[j])) := by
  have hcl := fun g hg => h.cells (g := g) hg
  rcases h.2 with ⟨rfl, h0⟩ | ⟨g, c, cur, rfl, hb, hg, hn, hm, hcs, ht⟩
  · exact ⟨none, 0, by rw [h0], by omega, Nat.zero_le _, fun j hj => by omega⟩
  · refine ⟨_, c, rfl, hn, hm, fun j hj => ⟨g, rfl, hb, lt_of_blk hg, ?_⟩⟩
    have h3 := hcl g rfl j (.string (ofL xs[j])) (by unfold strs; rw [List.getElem?_map, List.getElem?_eq_getElem hj]; rfl)
    rwa [Addr.add_lit, Nat.zero_add] at h3
theorem infoDefP : (Tryz.prog.info? 61).map (fun i => (i.zero, i.size, i.bytes)) = some (some (.agg #[.int .i64 0, .int .i64 0, .slice none 0 0, .int .i64 0, .int .i64 0, .slice none 0 0]), 6, 80) := by kernel_rfl
set_option maxRecDepth 100000 in
set_option maxHeartbeats 2000000 in
theorem specParseDefs_any (s : ByteArray) (w : World) (hs : s.size ≤ 1000000000) : Calls Tryz.prog 17 #[.string s] w fun e w' => ∃ A n cap, e = .returned (.tuple #[.slice A n cap, .bool (psD s.data.toList).isSome]) ∧ n ≤ cap ∧ cap ≤ maxLen ∧ ((psD s.data.toList).getD []).length = n * 2 ∧ FromK w.heap.size w' A ((psD s.data.toList).getD []) ∧ Ext w w' := by
  obtain ⟨i0, hi, hz0, hz1, hz2⟩ := info_parts infoDefP
  have hln : s.data.toList.length = s.size := by rw [Array.length_toList]; rfl
  have htl := ByteArray.toList_eq s
  have HCUT := Lib.hid (l19Cut_any s 10 10 rfl w hs)
  have hsz : ∀ x ∈ cutL 10 s.data.toList, x.length ≤ 1000000000 := fun x hx => by
    have := cutS_size 10 s.data.toList [] x hx
    simp only [List.length_nil] at this
    omega
  obtain ⟨l, hl⟩ : ∃ l, s.data.toList = l := ⟨_, rfl⟩
  rw [hl] at HCUT hsz hln htl ⊢
  obtain ⟨P, hP⟩ : ∃ P, psD l = P := ⟨_, rfl⟩
  rw [hP]
  obtain ⟨xs, hxs⟩ : ∃ xs, cutL 10 l = xs := ⟨_, rfl⟩
  have hne : xs ≠ [] := hxs ▸ cutS_ne 10 l []
  have hpos : 0 < xs.length := List.length_pos_iff.2 hne
  have hps : P = if 9 < xs.length then none else psO l (linesP xs) := by rw [← hP, ← hxs]; rfl
  rw [hxs] at HCUT hsz
  have HPS := Lib.hid hps
  have HSZ := Lib.hid hsz
  have HTL := Lib.hid htl
  clear hl hP hxs hps hsz hne htl hln
  go_enter Tryz.func17, Tryz.ntmps17
  go_wp2_with fail
  refine HCUT.out.mono ?_
  rintro e w1 ⟨v, rfl, hO, e1⟩
  obtain ⟨A1, c1, rfl, hl1, hc1, hcell⟩ := strs_slice hO
  obtain ⟨g, rfl, hgw, hgl, -⟩ := hcell 0 hpos
  have hcell2 : ∀ w', Ext w1 w' → ∀ j (hj : j < xs.length), w'.cell? ⟨g, j, none⟩ = some (.string (ofL xs[j])) := fun w' hw j hj => by
    obtain ⟨g', hg', -, -, h4⟩ := hcell j hj
    simp only [Option.some.injEq, Addr.mk.injEq, and_true] at hg'
    subst hg'
    exact hw.cell h4
  have HC := Lib.hid hcell2
  obtain ⟨N, hN⟩ : ∃ N, xs.length = N := ⟨_, rfl⟩
  have HN := Lib.hid hN
  rw [hN] at hpos hl1 ⊢
  have HRET := Lib.hid (show ∀ w' B c, P = none → c ≤ maxLen → Ext w w' → ∃ A n cap, Ending.returned (.tuple #[.slice (some B) 0 c, .bool false]) = .returned (.tuple #[.slice A n cap, .bool P.isSome]) ∧ n ≤ cap ∧ cap ≤ maxLen ∧ (P.getD []).length = n * 2 ∧ FromK w.heap.size w' A (P.getD []) ∧ Ext w w' from fun w' B c hp hc hx => by subst hp; exact ⟨_, 0, c, rfl, Nat.zero_le _, hc, rfl, .inl rfl, hx⟩)
  clear hcell hcell2 hN hO
  by_cases hn9 : 9 < N
  · have hp0 : P = none := by rw [HPS.out, HN.out, if_pos hn9]
    have d9 : decide ((9 : Int) < (N : Int)) = true := decide_eq_true (by omega)
    have HP0 := Lib.hid hp0
    clear hp0
    go_wp2_with fail
    go_ret2
    exact HRET.out _ _ _ HP0.out (Nat.zero_le _) (e1.alloc _)
  · have d9 : decide ((9 : Int) < (N : Int)) = false := decide_eq_false (by omega)
    have hp1 : P = psO l (linesP xs) := by rw [HPS.out, HN.out, if_neg hn9]
    have HP1 := Lib.hid hp1
    have hx2 := e1.alloc (.cells #[] 61)
    have hx12 := (Ext.refl w1).alloc (.cells #[] 61)
    have hb2 := heap_alloc_new w1 (.cells #[] 61)
    have hs1 := e1.size
    clear hp1 HPS
    go_wp2_with fail
    generalize hw2 : w1.alloc _ = w2 at hx2 hb2 hx12 ⊢
    clear hw2
    go_loopw [5, 6] (fun o i wr => ∃ (j : Nat) (ks : List Tr), j + 1 ≤ N ∧ i = .int .i64 j ∧ GrowD w1 wr 61 o ks j ∧ (linesP (xs.drop j)).map (ks ++ ·) = linesP xs ∧ Ext w1 wr) (fun _ i _ => N - (intOf i).toNat)
    case atStart => exact ⟨0, [], by omega, rfl, GrowD.lit hb2 (Nat.le_refl _), by simp, hx12⟩
    case round =>
      obtain ⟨j, ks, hj, rfl, hG, hjl, hxw1⟩ := hrel
      have hx := e1.trans hxw1
      have HJ := Lib.hid hjl
      clear hjl
      have hsz := hxw1.size
      have hj9 : j ≤ 8 := by omega
      by_cases hlt : j + 1 < N
      · have hjz : decide ((j : Int) + 1 < (N : Int)) = true := decide_eq_true (by omega)
        have hjz2 : (j : Int) + 1 < (N : Int) := by omega
        have hjz3 : (j : Int) < (N : Int) := by omega
        have hjx : j + 1 < xs.length := by rw [HN.out]; exact hlt
        have hst := linesP_step hjx
        obtain ⟨x, hxj⟩ : ∃ x, x = xs[j]'(by omega) := ⟨_, rfl⟩
        have hcx := HC.out wr hxw1 j (by omega)
        have hxl : (ofL x).size ≤ 1000000000 := by rw [ofL_size]; rw [hxj]; exact HSZ.out _ (List.getElem_mem (by omega))
        rw [← hxj] at hst hcx
        have HLN := Lib.hid (fun W => l9Line_any (ofL x) W hxl)
        rw [ofL_list] at HLN
        obtain ⟨L, hL⟩ : ∃ L, lineP x = L := ⟨_, rfl⟩
        rw [hL] at HLN hst
        have HST := Lib.hid hst
        clear hst hL hxj hjx
        go_wp2_with fail
        refine (HLN.out _).mono ?_
        rintro e w3 ⟨k1, n1, k2, n2, B1, B2, l1, p1, l2, p2, rfl, hFF, e3⟩
        have e34 := (Ext.refl w3).alloc (.cells #[.int .i64 k1, .int .i64 n1, .slice B1 l1 p1, .int .i64 k2, .int .i64 n2, .slice B2 l2 p2] 61)
        have hb4 := heap_alloc_new w3 (.cells #[.int .i64 k1, .int .i64 n1, .slice B1 l1 p1, .int .i64 k2, .int .i64 n2, .slice B2 l2 p2] 61)
        have hx4 := (hx.trans e3).trans e34
        have hx14 := (hxw1.trans e3).trans e34
        have hs3 := e3.size
        obtain ⟨⟨s0, s1, s2, s3, s4, s5⟩, -⟩ := own6 hb4
        cases L with
        | none =>
          have hpn : P = none := by
            rw [HP1.out, ← HJ.out, HST.out]
            rfl
          have HPN := Lib.hid hpn
          have hx5 := hx4.alloc (.cells #[] 61)
          clear hpn
          go_wp2_with fail
          go_ret2
          exact HRET.out _ _ _ HPN.out (Nat.zero_le _) hx5
        | some y =>
          obtain ⟨t, b⟩ := y
          obtain ⟨hT, hB⟩ := hFF _ rfl
          dsimp only at hT hB
          have hG3 := (hG.ext e3).ext e34
          have hO1 := InT.mono (S' := fun b => w1.heap.size ≤ b ∧ b < (w3.alloc (.cells #[.int .i64 k1, .int .i64 n1, .slice B1 l1 p1, .int .i64 k2, .int .i64 n2, .slice B2 l2 p2] 61)).heap.size ∧ _ ≠ some b) (w' := w3.alloc (.cells #[.int .i64 k1, .int .i64 n1, .slice B1 l1 p1, .int .i64 k2, .int .i64 n2, .slice B2 l2 p2] 61)) (fun b hb => ⟨hb.1, by have := hb.2.1; simp; omega, hb.2.2⟩) (fun b hb => e34.heap b hb.2.1) (hG.off hsz hT)
          have hO2 := InT.mono (S' := fun b => w1.heap.size ≤ b ∧ b < (w3.alloc (.cells #[.int .i64 k1, .int .i64 n1, .slice B1 l1 p1, .int .i64 k2, .int .i64 n2, .slice B2 l2 p2] 61)).heap.size ∧ _ ≠ some b) (w' := w3.alloc (.cells #[.int .i64 k1, .int .i64 n1, .slice B1 l1 p1, .int .i64 k2, .int .i64 n2, .slice B2 l2 p2] 61)) (fun b hb => ⟨hb.1, by have := hb.2.1; simp; omega, hb.2.2⟩) (fun b hb => e34.heap b hb.2.1) (hG.off hsz hB)
          have e45 := (Ext.refl (w3.alloc (.cells #[.int .i64 k1, .int .i64 n1, .slice B1 l1 p1, .int .i64 k2, .int .i64 n2, .slice B2 l2 p2] 61))).alloc (.cells #[.int .i64 k1, .int .i64 n1, .slice B1 l1 p1, .int .i64 k2, .int .i64 n2, .slice B2 l2 p2] 61)
          have hG5 := hG3.ext e45
          have hb5 : ((w3.alloc (.cells #[.int .i64 k1, .int .i64 n1, .slice B1 l1 p1, .int .i64 k2, .int .i64 n2, .slice B2 l2 p2] 61)).alloc (.cells #[.int .i64 k1, .int .i64 n1, .slice B1 l1 p1, .int .i64 k2, .int .i64 n2, .slice B2 l2 p2] 61)).heap[w3.heap.size + 1]? = some (.cells #[.int .i64 k1, .int .i64 n1, .slice B1 l1 p1, .int .i64 k2, .int .i64 n2, .slice B2 l2 p2] 61 (0, 0)) := by simpa using heap_alloc_new (w3.alloc (.cells #[.int .i64 k1, .int .i64 n1, .slice B1 l1 p1, .int .i64 k2, .int .i64 n2, .slice B2 l2 p2] 61)) (.cells #[.int .i64 k1, .int .i64 n1, .slice B1 l1 p1, .int .i64 k2, .int .i64 n2, .slice B2 l2 p2] 61)
          have hO15 := InT.mono (S' := fun b => w1.heap.size ≤ b ∧ b < ((w3.alloc (.cells #[.int .i64 k1, .int .i64 n1, .slice B1 l1 p1, .int .i64 k2, .int .i64 n2, .slice B2 l2 p2] 61)).alloc (.cells #[.int .i64 k1, .int .i64 n1, .slice B1 l1 p1, .int .i64 k2, .int .i64 n2, .slice B2 l2 p2] 61)).heap.size ∧ _ ≠ some b) (w' := (w3.alloc (.cells #[.int .i64 k1, .int .i64 n1, .slice B1 l1 p1, .int .i64 k2, .int .i64 n2, .slice B2 l2 p2] 61)).alloc (.cells #[.int .i64 k1, .int .i64 n1, .slice B1 l1 p1, .int .i64 k2, .int .i64 n2, .slice B2 l2 p2] 61)) (fun b hb => ⟨hb.1, Nat.lt_of_lt_of_le hb.2.1 e45.size, hb.2.2⟩) (fun b hb => e45.heap b hb.2.1) hO1
          have hO25 := InT.mono (S' := fun b => w1.heap.size ≤ b ∧ b < ((w3.alloc (.cells #[.int .i64 k1, .int .i64 n1, .slice B1 l1 p1, .int .i64 k2, .int .i64 n2, .slice B2 l2 p2] 61)).alloc (.cells #[.int .i64 k1, .int .i64 n1, .slice B1 l1 p1, .int .i64 k2, .int .i64 n2, .slice B2 l2 p2] 61)).heap.size ∧ _ ≠ some b) (w' := (w3.alloc (.cells #[.int .i64 k1, .int .i64 n1, .slice B1 l1 p1, .int .i64 k2, .int .i64 n2, .slice B2 l2 p2] 61)).alloc (.cells #[.int .i64 k1, .int .i64 n1, .slice B1 l1 p1, .int .i64 k2, .int .i64 n2, .slice B2 l2 p2] 61)) (fun b hb => ⟨hb.1, Nat.lt_of_lt_of_le hb.2.1 e45.size, hb.2.2⟩) (fun b hb => e45.heap b hb.2.1) hO2
          have hjl2 : (linesP (xs.drop (j + 1))).map ((ks ++ [t, b]) ++ ·) = linesP xs := by
            rw [← HJ.out, HST.out]
            cases linesP (xs.drop (j + 1)) <;> simp
          have HJ2 := Lib.hid hjl2
          have hx45 := hx4.trans e45
          have hx145 := hx14.trans e45
          clear hO1 hO2 hT hB hFF hjl2 hb4
          go_wp2_with (at_builtin; refine wpList_append_def _ rfl (.tmp 34) (.tmp 36) 23 rfl 61 i0 _ Tryz.underlying23 hi hz0 hz1 hz2 rfl rfl hG5 (by simp; omega) hO15 hO25 rfl hb5 (by omega) ?_)
          intro v' w6 hG6 hB6 hgr6 hL6
          have hx6 : Ext w1 w6 := Below.trans hx145 hB6
          go_wp2_with fail
          go_roundw
          case rel => exact ⟨j + 1, ks ++ [t, b], by omega, by go_num, hG6, HJ2.out, hx6⟩
          case measure => simp [intOf]; omega
      · have hjN : j + 1 = N := by omega
        have hjz : decide ((j : Int) + 1 < (N : Int)) = false := decide_eq_false (by omega)
        have hjz2 : ¬ ((j : Int) + 1 < (N : Int)) := by omega
        have hlp : linesP xs = some ks := by
          rw [← HJ.out, linesP_last (by rw [HN.out]; exact hjN)]
          simp
        obtain ⟨A, cap, rfl, q1, q2, hK⟩ := hG.slice
        have hkl : ks.length = j * 2 := hG.1
        have hKL : LiesK wr A ks := InK.mono (fun b hb => hb.2) (fun _ _ => rfl) hK
        have hp2 : P = if fmtDV ks j = l ∧ dfV ks j = true then some ks else none := by
          rw [HP1.out, hlp]
          simp only [psO]
          rw [show ks.length / 2 = j by omega]
        have HFD := Lib.hid (specFormatDefs_any ks j cap wr A hKL hkl q1 q2)
        have HDV := Lib.hid (fun W (hW : Ext wr W) => specDefsValid_any ks j cap W A (hKL.ext hW) hkl q1 q2)
        obtain ⟨fv, hfv⟩ : ∃ fv, fmtDV ks j = fv := ⟨_, rfl⟩
        obtain ⟨dv, hdv⟩ : ∃ dv, dfV ks j = dv := ⟨_, rfl⟩
        obtain ⟨bq, hbq⟩ : ∃ bq, ((ofL fv).toList == s.toList) = bq := ⟨_, rfl⟩
        have hpb : P = if (bq && dv) = true then some ks else none := by
          rw [hp2, hfv, hdv, ← hbq, ofL_tl, HTL.out]
          by_cases hq : fv = l
          · simp [hq]
          · simp [hq]
        rw [hfv] at HFD
        rw [hdv] at HDV
        have HPB := Lib.hid hpb
        clear hp2 hpb hfv hdv hlp
        go_wp2_with fail
        refine HFD.out.mono ?_
        rintro e w3 ⟨rfl, e3⟩
        cases bq with
        | false =>
          have hpn : P = none := by rw [HPB.out]; rfl
          have HPN := Lib.hid hpn
          clear hpn
          go_wp2_with fail
          go_ret2
          exact HRET.out _ _ _ HPN.out (Nat.zero_le _) ((hx.trans e3).alloc _)
        | true =>
          go_wp2_with fail
          refine (HDV.out _ e3).mono ?_
          rintro e w4 ⟨rfl, e4⟩
          cases dv with
          | false =>
            have hpn : P = none := by rw [HPB.out]; rfl
            have HPN := Lib.hid hpn
            clear hpn
            go_wp2_with fail
            go_ret2
            exact HRET.out _ _ _ HPN.out (Nat.zero_le _) (((hx.trans e3).trans e4).alloc _)
          | true =>
            have hpn : P = some ks := by rw [HPB.out]; rfl
            have HPN := Lib.hid hpn
            clear hpn
            go_wp2_with fail
            go_ret2
            exact ⟨A, j, cap, by rw [HPN.out]; rfl, q1, q2, by rw [HPN.out]; exact hkl, by rw [HPN.out]; exact InK.mono (fun b hb => ⟨Nat.le_trans hs1 hb.1, Nat.lt_of_lt_of_le hb.2 (e3.trans e4).size⟩) (fun b hb => (e3.trans e4).heap b hb.2) hK, (hx.trans e3).trans e4⟩
end Go.Proofs.YtolkohncmidpeaaGreatDoor
namespace Go.Proofs.YtolkohncmidpeaaGreatDoor
open Go.RowKit
set_option linter.unusedVariables false
/-- The zero term. -/
def dflt0 : Tr := .mk 0 0 []
def hsh (y c : Int) (n b : Int) : Bool := if c ≤ n - b then decide (c ≤ n + y - b) && decide (n + y ≤ 20) else true
end Go.Proofs.YtolkohncmidpeaaGreatDoor

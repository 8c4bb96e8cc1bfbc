/-
  Lemmas towards the law, 17: Parse7, Nums.
-/
import Derived.Test.YtolkohncmidpeaaGreatDoorGAB
import Derived.Test.YtolkohncmidpeaaGreatDoorGAE
import Derived.Test.YtolkohncmidpeaaGreatDoorGAF
import Derived.Test.YtolkohncmidpeaaGreatDoorGAP
namespace Go.Proofs.YtolkohncmidpeaaGreatDoor
open Go.RowKit
set_option linter.unusedVariables false
theorem ofL_tl (l : List UInt8) : (ofL l).toList = l := by rw [ByteArray.toList_eq, ofL_list]
theorem prsV_some {l : List UInt8} {t : Tr} {b : Nat} (h : prs 30 l 0 = some (t, b)) : prsV l = if l ≠ [] ∧ b = l.length ∧ fmtV t = l then some t else none := by
  unfold prsV
  rw [h]
theorem prsV_none {l : List UInt8} (h : prs 30 l 0 = none) : prsV l = none := by
  unfold prsV
  rw [h]
set_option maxRecDepth 100000 in
set_option maxHeartbeats 1000000 in
theorem parseTerm_any (s : ByteArray) (w : World) (hs : s.size ≤ 1000000000) : Calls Tryz.prog 70 #[.string s] w fun e w' => ∃ u, e = .returned (.tuple #[u, .bool (prsV s.data.toList).isSome]) ∧ From w.heap.size w' ((prsV s.data.toList).getD (.mk 0 0 [])) u ∧ Ext w w' := by
  have HP := Lib.hid (fun W => (show Calls Tryz.prog 93 #[.string s, .int .i64 0, .int .i64 30] W (ParseQ W.heap.size W s.size (prs 30 s.data.toList 0)) from parse_any 30 (by omega) s 0 W hs (by omega)))
  have hlen : s.data.toList.length = s.size := by rw [Array.length_toList]; rfl
  have htl := ByteArray.toList_eq s
  obtain ⟨R, hR⟩ : ∃ R, R = prsV s.data.toList := ⟨_, rfl⟩
  rw [← hR]
  obtain ⟨F, hF0⟩ : ∃ F, F = prs 30 s.data.toList 0 := ⟨_, rfl⟩
  rw [← hF0] at HP
  cases F with
  | none =>
    have hRn : R = none := by rw [hR]; exact prsV_none hF0.symm
    have HR := Lib.hid hRn
    obtain ⟨be, hbe⟩ : ∃ be, s.toList.isEmpty = be := ⟨_, rfl⟩
    have hbe2 : (s.toList == []) = be := by rw [← hbe]; cases s.toList <;> rfl
    have t1 : ((-1 : Int) != (s.size : Int)) = true := by rw [bne_iff_ne]; omega
    clear hR hF0 hlen htl hRn
    cases be
    all_goals (
      go_enter Tryz.func70, Tryz.ntmps70
      go_wp2_with fail
      refine (HP.out _).mono ?_
      rintro e w1 ⟨t, u, nx, rfl, hF, e1, -, q2⟩
      obtain rfl := q2 rfl
      obtain ⟨k0, n0, A0, l0, c0, rfl⟩ := hF.three
      have hx1 := (((Ext.refl w).alloc (.cells #[.int .i64 0, .int .i64 0, .slice none 0 0] 45)).trans e1).trans ((Ext.refl w1).alloc (.cells #[.int .i64 k0, .int .i64 n0, .slice A0 l0 c0] 45))
      have hb' := ((Ext.refl w1).alloc (.cells #[.int .i64 k0, .int .i64 n0, .slice A0 l0 c0] 45)).blk e1.newBlk
      obtain ⟨s0, s1, s2, f0, f1, f2⟩ := own3 hb'
      clear hb' q2
      go_wp2_with fail
      exact bodyPost_ret (v := .tuple #[.agg #[.int .i64 0, .int .i64 0, .slice none 0 0], .bool false]) (by simp [results, Tryz.results70, go_sem, s0, s1, s2]) rfl ⟨_, by rw [HR.out]; rfl, by rw [HR.out]; exact From.leaf _ _ _ _, ((hx1.setCell (by simp) _).setCell (by simp) _).setCell (by simp) _⟩)
  | some y =>
    obtain ⟨t, b⟩ := y
    have hRs : R = if s.data.toList ≠ [] ∧ b = s.data.toList.length ∧ fmtV t = s.data.toList then some t else none := by rw [hR]; exact prsV_some hF0.symm
    have hne : s.data.toList ≠ [] := by
      intro h
      rw [h] at hF0
      rw [prs_none (by simp)] at hF0
      cases hF0
    have hbe : s.toList.isEmpty = false := by rw [htl]; cases hq : s.data.toList with | nil => exact absurd hq hne | cons => rfl
    have hbe2 : (s.toList == []) = false := by rw [htl]; cases hq : s.data.toList with | nil => exact absurd hq hne | cons => rfl
    have hbe3 : ¬ (s.toList = []) := by rw [htl]; exact hne
    rw [hlen] at hRs
    by_cases hb : b = s.size
    · obtain ⟨fv, hfv⟩ : ∃ fv, fv = fmtV t := ⟨_, rfl⟩
      rw [← hfv] at hRs
      have HF := Lib.hid (fun W v (h : Lies W t v) => formatTerm_any t W v h)
      rw [← hfv] at HF
      have t1 : ((b : Int) != (s.size : Int)) = false := by simp [hb]
      obtain ⟨bq, hbq⟩ : ∃ bq, ((ofL fv).toList == s.toList) = bq := ⟨_, rfl⟩
      have hRb : R = if bq = true then some t else none := by
        rw [hRs, ← hbq, ofL_tl, htl]
        by_cases hq : fv = s.data.toList
        · rw [if_pos ⟨hne, hb, hq⟩, if_pos (by rw [hq]; simp)]
        · rw [if_neg (fun h => hq h.2.2), if_neg (by simpa using hq)]
      have HR := Lib.hid hRb
      have HFV := Lib.hid hbq
      clear hR hF0 hRs hne htl hfv hRb hlen hb
      go_enter Tryz.func70, Tryz.ntmps70
      go_wp2_with fail
      refine (HP.out _).mono ?_
      rintro e w1 ⟨t', u, nx, rfl, hF, e1, q1, -⟩
      obtain ⟨h1, h2, h3⟩ := q1 _ rfl
      simp only at h1 h2 h3
      subst h1 h2
      obtain ⟨k0, n0, A0, l0, c0, rfl⟩ := hF.three
      have hsz := e1.size_alloc
      have hx1 := (((Ext.refl w).alloc (.cells #[.int .i64 0, .int .i64 0, .slice none 0 0] 45)).trans e1).trans ((Ext.refl w1).alloc (.cells #[.int .i64 k0, .int .i64 n0, .slice A0 l0 c0] 45))
      have hb' := ((Ext.refl w1).alloc (.cells #[.int .i64 k0, .int .i64 n0, .slice A0 l0 c0] 45)).blk e1.newBlk
      have hbT := heap_alloc_new w1 (.cells #[.int .i64 k0, .int .i64 n0, .slice A0 l0 c0] 45)
      have hFT : From (w.heap.size + 1) (w1.alloc (.cells #[.int .i64 k0, .int .i64 n0, .slice A0 l0 c0] 45)) t' (.agg #[.int .i64 k0, .int .i64 n0, .slice A0 l0 c0]) := by simpa using hF.ext ((Ext.refl w1).alloc (.cells #[.int .i64 k0, .int .i64 n0, .slice A0 l0 c0] 45))
      clear hF hsz q1
      go_wp2_with fail
      refine (HF.out _ _ hFT.lies).mono ?_
      rintro e w2 ⟨rfl, e2⟩
      have hx2 := hx1.trans e2
      have hF2 := hFT.ext e2
      obtain ⟨s0, s1, s2, f0, f1, f2⟩ := own3 (e2.blk hb')
      obtain ⟨x0, x1, x2, -, -, -⟩ := own3 (e2.blk hbT)
      have hq := HFV.out
      clear hb' hbT
      cases bq with
      | false =>
        go_wp2_with fail
        exact bodyPost_ret (v := .tuple #[.agg #[.int .i64 0, .int .i64 0, .slice none 0 0], .bool false]) (by simp [results, Tryz.results70, go_sem, s0, s1, s2]) rfl ⟨_, by rw [HR.out]; rfl, by rw [HR.out]; exact From.leaf _ _ _ _, ((hx2.setCell (by simp) _).setCell (by simp) _).setCell (by simp) _⟩
      | true =>
        go_wp2_with fail
        exact bodyPost_ret (v := .tuple #[.agg #[.int .i64 k0, .int .i64 n0, .slice A0 l0 c0], .bool true]) (by simp [results, Tryz.results70, go_sem, s0, s1, s2]) rfl ⟨_, by rw [HR.out]; rfl, by rw [HR.out]; exact (((hF2.set (by simp) _).set (by simp) _).set (by simp) _).since (by omega), ((hx2.setCell (by simp) _).setCell (by simp) _).setCell (by simp) _⟩
    · have hRn : R = none := by rw [hRs, if_neg (fun h => hb h.2.1)]
      have HR := Lib.hid hRn
      have t1 : ((b : Int) != (s.size : Int)) = true := by rw [bne_iff_ne]; omega
      clear hR hF0 hRs hne htl hRn hlen hb
      go_enter Tryz.func70, Tryz.ntmps70
      go_wp2_with fail
      refine (HP.out _).mono ?_
      rintro e w1 ⟨t', u, nx, rfl, hF, e1, q1, -⟩
      obtain ⟨h1, h2, h3⟩ := q1 _ rfl
      simp only at h1 h2 h3
      subst h1 h2
      obtain ⟨k0, n0, A0, l0, c0, rfl⟩ := hF.three
      have hx1 := (((Ext.refl w).alloc (.cells #[.int .i64 0, .int .i64 0, .slice none 0 0] 45)).trans e1).trans ((Ext.refl w1).alloc (.cells #[.int .i64 k0, .int .i64 n0, .slice A0 l0 c0] 45))
      have hb' := ((Ext.refl w1).alloc (.cells #[.int .i64 k0, .int .i64 n0, .slice A0 l0 c0] 45)).blk e1.newBlk
      obtain ⟨s0, s1, s2, f0, f1, f2⟩ := own3 hb'
      clear hb' q1
      go_wp2_with fail
      exact bodyPost_ret (v := .tuple #[.agg #[.int .i64 0, .int .i64 0, .slice none 0 0], .bool false]) (by simp [results, Tryz.results70, go_sem, s0, s1, s2]) rfl ⟨_, by rw [HR.out]; rfl, by rw [HR.out]; exact From.leaf _ _ _ _, ((hx1.setCell (by simp) _).setCell (by simp) _).setCell (by simp) _⟩
end Go.Proofs.YtolkohncmidpeaaGreatDoor
namespace Go.Proofs.YtolkohncmidpeaaGreatDoor
open Go.RowKit Go.ChangeShapes Go.WideShapes Go.Deep
set_option linter.unusedVariables false

/-- The numbers lie in w from A on. -/
def Nums (w : World) (A : Option Addr) (ns : List Int) : Prop := ns = [] ∨ ∃ b o, A = some ⟨b, o, none⟩ ∧ b < w.heap.size ∧ ∀ j (h : j < ns.length), w.cell? ⟨b, o + j, none⟩ = some (.int .i64 ns[j])
theorem Nums.ext {w w' : World} {A : Option Addr} {ns : List Int} (h : Nums w A ns) (he : Ext w w') : Nums w' A ns := by
  rcases h with h | ⟨b, o, rfl, hb, hc⟩
  · exact .inl h
  · exact .inr ⟨b, o, rfl, Nat.lt_of_lt_of_le hb he.size, fun j hj => he.cell (hc j hj)⟩
theorem Nums.get {w w' : World} {A : Option Addr} {ns : List Int} (h : Nums w A ns) (he : Ext w w') {j : Nat} (hj : j < ns.length) : ∃ b o, A = some ⟨b, o, none⟩ ∧ w'.cell? ⟨b, o + j, none⟩ = some (.int .i64 ns[j]) := by
  rcases h with rfl | ⟨b, o, rfl, hb, hc⟩
  · exact absurd hj (by simp)
  · exact ⟨b, o, rfl, he.cell (hc j hj)⟩
theorem At.nums {w : World} {A : Option Addr} {ns : List Int} (h : Nums w A ns) : At w (fun w' => Nums w' A ns) := fun _ hx => h.ext hx

section
variable {H : Type} {enc : TypeId × Value → H} {P : Program} {w : World} {spare : Nat → Bool} {held : Bool}
/-- An argument that is a slice of ints. -/
theorem open_nums {s i : TypeId} (hs : P.underlying s = some (.slice i)) (hi : P.underlying i = some (.int .i64)) (ci : P.cellsOf i = 1) {r : Reach} {b0 : Nat} {v : Value} {d : DataW H} {p : List MemPlace} (hv : Value.okWide P w r b0 s v) (h : DataW.Trod enc P w 0 spare held s v d p) :
    ∃ (A : Option Addr) (cap : Nat) (ns : List Int), v = .slice A ns.length cap ∧ ns.length ≤ cap ∧ cap ≤ maxLen ∧ Nums w A ns := by
  obtain ⟨a0, len0, cap0, rfl⟩ := okWide_slice hs hv
  obtain ⟨fuel, hf⟩ := h
  rcases DataW.trod_slice hs hf with ⟨hcs, _⟩ | ⟨a, len, cap, elems, rest, n, rfl, hcs, _, _, hl, hm, hlen, hel, _, _⟩
  · simp only [Value.cells, List.cons.injEq, and_true] at hcs
    exact ⟨none, 0, [], hcs, Nat.le_refl _, Nat.zero_le _, .inl rfl⟩
  · have hel' : ∀ j, j < len → ∃ x : Int, w.cell? (a.add j) = some (.int .i64 x) := by
      intro j hj
      have hj' := hel j hj
      rw [List.getElem?_eq_getElem (by omega)] at hj'
      obtain ⟨cs', h1, h2⟩ := Option.bind_eq_some_iff.1 hj'
      obtain ⟨x, rfl, _, _⟩ := DataW.trod_int hi h2
      obtain ⟨_, _, hcell⟩ := World.cells?_some h1
      rw [ci] at hcell
      have q0 := hcell 0 (by omega)
      rw [Nat.mul_one] at q0
      have e0 : ∀ y : Addr, y.add 0 = y := fun y => by simp [Addr.add]
      rw [e0] at q0
      exact ⟨x, q0⟩
    obtain ⟨ns, hns, hp⟩ := choose_list len hel'
    subst hns
    simp only [Value.cells, List.cons.injEq, and_true] at hcs
    refine ⟨some a, cap, ns, hcs, hl, hm, ?_⟩
    cases ns with
    | nil => exact .inl rfl
    | cons t0 ts =>
      obtain ⟨b, o, spot⟩ := a
      have hlt : b < w.heap.size ∧ spot = none := by
        have q0 := hp 0 (by simp)
        have e0 : (⟨b, o, spot⟩ : Addr).add 0 = ⟨b, o, spot⟩ := by simp [Addr.add]
        rw [e0] at q0
        exact ⟨World.block_lt_of_cell? _ _ q0, by simpa using World.cell?_spot q0⟩
      obtain ⟨hlt, rfl⟩ := hlt
      refine .inr ⟨b, o, rfl, hlt, fun j hj => ?_⟩
      have q0 := hp j hj
      rw [add_plain'] at q0
      exact q0
end

def arity (f : Int) : Int := if f = 1 ∨ f = 2 ∨ f = 4 then 2 else if f = 3 ∨ f = 5 ∨ f = 6 then 1 else -1
def fits (f : Int) (ns : List Int) : Bool := decide (arity f = (ns.length : Int)) && ns.all (fun n => inR n 0 20)
/-- The value of a function of numbers. -/
def funVal (f : Int) (ns : List Int) : Int × Bool :=
  if fits f ns = true then
    match ns with
    | [a] => (if f = 3 then (if a = 0 then 0 else a - 1) else if f = 6 then 2 * a else if a = 0 then 1 else 0, true)
    | [a, b] => (if f = 1 then a + b else if f = 2 then a * b else if a < b then 0 else a - b, true)
    | _ => (0, false)
  else (0, false)

set_option maxHeartbeats 1000000 in
theorem arity_any (k : Int) (w : World) : Calls Tryz.prog 32 #[.int .i64 k] w fun e w' => e = .returned (.int .i64 (arity k)) ∧ w = w' := by
  by_cases h : 1 ≤ k ∧ k ≤ 6
  · rcases (by omega : k = 1 ∨ k = 2 ∨ k = 3 ∨ k = 4 ∨ k = 5 ∨ k = 6) with rfl | rfl | rfl | rfl | rfl | rfl
    all_goals
      go_enter Tryz.func32, Tryz.ntmps32
      go_wp2_with fail
      go_ret
      exact ⟨rfl, rfl⟩
  · have e : arity k = -1 := by
      unfold arity
      repeat rw [if_neg (by omega)]
    have f1 : (k == 1) = false := by simp; omega
    have f2 : (k == 2) = false := by simp; omega
    have f3 : (k == 3) = false := by simp; omega
    have f4 : (k == 4) = false := by simp; omega
    have f5 : (k == 5) = false := by simp; omega
    have f6 : (k == 6) = false := by simp; omega
    have E := Lib.hid e
    clear e h
    go_enter Tryz.func32, Tryz.ntmps32
    go_wp2_with fail
    go_ret
    exact ⟨by rw [E.out]; rfl, rfl⟩
set_option maxHeartbeats 1000000 in
theorem specArity (k : Int) (w : World) : Calls Tryz.prog 62 #[.int .i64 k] w fun e w' => e = .returned (.int .i64 (arity k)) ∧ w = w' := by
  by_cases h : 1 ≤ k ∧ k ≤ 6
  · rcases (by omega : k = 1 ∨ k = 2 ∨ k = 3 ∨ k = 4 ∨ k = 5 ∨ k = 6) with rfl | rfl | rfl | rfl | rfl | rfl
    all_goals
      go_enter Tryz.func62, Tryz.ntmps62
      go_wp2_with fail
      go_ret
      exact ⟨rfl, rfl⟩
  · have e : arity k = -1 := by
      unfold arity
      repeat rw [if_neg (by omega)]
    have f1 : (k == 1) = false := by simp; omega
    have f2 : (k == 2) = false := by simp; omega
    have f3 : (k == 3) = false := by simp; omega
    have f4 : (k == 4) = false := by simp; omega
    have f5 : (k == 5) = false := by simp; omega
    have f6 : (k == 6) = false := by simp; omega
    have E := Lib.hid e
    clear e h
    go_enter Tryz.func62, Tryz.ntmps62
    go_wp2_with fail
    go_ret
    exact ⟨by rw [E.out]; rfl, rfl⟩

theorem isNumber_any (n : Int) (w : World) : Calls Tryz.prog 101 #[.int .i64 n] w fun e w' => e = .returned (.bool (inR n 0 20)) ∧ w = w' := by
  go_enter Tryz.func101, Tryz.ntmps101
  go_wp2_with fail
  refine (within_any _ _ _ _).mono ?_
  rintro e w1 ⟨rfl, rfl⟩
  go_wp2_with fail
  go_ret
  exact ⟨rfl, rfl⟩
theorem areArgs1_any (n : Int) (w : World) : Calls Tryz.prog 100 #[.int .i64 n] w fun e w' => e = .returned (.bool (!inR n 0 20)) ∧ w = w' := by
  go_enter Tryz.func100, Tryz.ntmps100
  go_wp2_with fail
  refine (isNumber_any _ _).mono ?_
  rintro e w1 ⟨rfl, rfl⟩
  go_wp2_with fail
  go_ret
  exact ⟨rfl, rfl⟩

/-- The index of the first number outside of 0 to 20, or -1. -/
def firstBad : List Int → Nat → Int
  | [], _ => -1
  | n :: ns, j => if inR n 0 20 = true then firstBad ns (j + 1) else (j : Int)
theorem firstBad_spec : ∀ (ns : List Int) (j : Nat), decide (0 ≤ firstBad ns j) = !ns.all (fun n => inR n 0 20)
  | [], j => by simp [firstBad]
  | n :: ns, j => by
    unfold firstBad
    cases h : inR n 0 20
    · simp [h]
    · simp [h, firstBad_spec ns (j + 1)]

set_option maxHeartbeats 400000 in
theorem indexBad (ns : List Int) (w : World) (A : Option Addr) (cap : Nat) (hl : ns.length ≤ cap) (hc : cap ≤ maxLen) (h : Nums w A ns) :
    Calls Tryz.prog 134 #[.slice A ns.length cap, .func (.func 100) #[] #[]] w fun e w' => e = .returned (.int .i64 (firstBad ns 0)) ∧ Ext w w' := by
  unfold maxLen at hc
  go_enter Tryz.func134, Tryz.ntmps134
  go_wp2_with fail
  go_loopw [8] (fun i wr => ∃ j : Nat, j ≤ ns.length ∧ i = .int .i64 j ∧ firstBad ns 0 = firstBad (ns.drop j) j ∧ Ext w wr) (fun i _ => ns.length - (intOf i).toNat)
  case atStart => exact ⟨0, Nat.zero_le _, rfl, rfl, Ext.refl _⟩
  case round =>
    obtain ⟨j, hj, rfl, heq, hx⟩ := hrel
    have HE := Lib.hid heq
    clear heq
    by_cases hlt : j < ns.length
    · obtain ⟨b, o, rfl, c0⟩ := h.get hx hlt
      have hst : firstBad (ns.drop j) j = if inR ns[j] 0 20 = true then firstBad (ns.drop (j + 1)) (j + 1) else (j : Int) := by
        rw [List.drop_eq_getElem_cons hlt]; conv => lhs; unfold firstBad
      generalize ns[j] = q at hst c0
      go_wp2_with fail
      refine (areArgs1_any _ _).mono ?_
      rintro e w1 ⟨rfl, rfl⟩
      generalize inR q 0 20 = r at hst
      cases r with
      | false =>
        rw [if_neg (by decide)] at hst
        have HT := Lib.hid hst
        clear hst
        go_wp2_with fail
        go_ret
        exact ⟨by rw [HE.out, HT.out]; rfl, hx⟩
      | true =>
        rw [if_pos rfl] at hst
        have HT := Lib.hid hst
        clear hst
        go_wp2_with fail
        go_roundw
        case rel => exact ⟨j + 1, by omega, by go_num, by rw [HE.out, HT.out], hx⟩
        case measure => simp [intOf]; omega
    · go_wp2_with fail
      go_ret
      exact ⟨by rw [HE.out, List.drop_of_length_le (by omega)]; rfl, hx⟩

theorem areArgs_any (f : Int) (ns : List Int) (w : World) (A : Option Addr) (cap : Nat) (hl : ns.length ≤ cap) (hc : cap ≤ maxLen) (h : Nums w A ns) :
    Calls Tryz.prog 56 #[.int .i64 f, .slice A ns.length cap] w fun e w' => e = .returned (.bool (fits f ns)) ∧ Ext w w' := by
  have hI := fun W (hW : Ext w W) => indexBad ns W A cap hl hc (h.ext hW)
  have HI := Lib.hid hI
  have hb := firstBad_spec ns 0
  have hc' : Calls Tryz.prog 99 #[.slice A ns.length cap, .func (.func 100) #[] #[]] w fun e w' => e = .returned (.bool (!ns.all (fun n => inR n 0 20))) ∧ Ext w w' := by
    have HB := Lib.hid hb
    clear hb hI
    go_enter Tryz.func99, Tryz.ntmps99
    go_wp2_with fail
    refine (HI.out _ (Ext.refl _)).mono ?_
    rintro e w1 ⟨rfl, h1⟩
    go_wp2_with fail
    go_ret
    exact ⟨by rw [← HB.out]; rfl, h1⟩
  have HC := Lib.hid hc'
  clear hc' hI hb
  by_cases ha : arity f = (ns.length : Int)
  · have e : fits f ns = ns.all (fun n => inR n 0 20) := by unfold fits; rw [decide_eq_true ha]; rfl
    have E := Lib.hid e
    have d1 : ((ns.length : Int) == arity f) = true := by rw [ha]; simp
    clear e ha
    go_enter Tryz.func56, Tryz.ntmps56
    go_wp2_with fail
    refine (arity_any _ _).mono ?_
    rintro e w1 ⟨rfl, rfl⟩
    go_wp2_with fail
    refine HC.out.mono ?_
    rintro e w1 ⟨rfl, h1⟩
    generalize ns.all (fun n => inR n 0 20) = r at E
    go_wp2_with fail
    go_ret
    exact ⟨by rw [E.out]; simp, h1⟩
  · have e : fits f ns = false := by unfold fits; rw [decide_eq_false ha]; rfl
    have E := Lib.hid e
    have d1 : ((ns.length : Int) == arity f) = false := by rw [beq_eq_false_iff_ne]; omega
    clear e ha
    go_enter Tryz.func56, Tryz.ntmps56
    go_wp2_with fail
    refine (arity_any _ _).mono ?_
    rintro e w1 ⟨rfl, rfl⟩
    go_wp2_with fail
    go_ret
    exact ⟨by rw [E.out]; rfl, Ext.refl _⟩

theorem fits_true {f : Int} {ns : List Int} (h : fits f ns = true) : (∃ a b, ns = [a, b] ∧ 0 ≤ a ∧ a ≤ 20 ∧ 0 ≤ b ∧ b ≤ 20 ∧ (f = 1 ∨ f = 2 ∨ f = 4)) ∨ (∃ a, ns = [a] ∧ 0 ≤ a ∧ a ≤ 20 ∧ (f = 3 ∨ f = 5 ∨ f = 6)) := by
  unfold fits at h
  rw [Bool.and_eq_true] at h
  have h1 := of_decide_eq_true h.1
  have h2 := h.2
  rw [List.all_eq_true] at h2
  unfold arity at h1
  by_cases c1 : f = 1 ∨ f = 2 ∨ f = 4
  · rw [if_pos c1] at h1
    match ns, h1 with
    | [a, b], _ =>
      have ha := inR_iff.1 (h2 a (by simp))
      have hb := inR_iff.1 (h2 b (by simp))
      exact .inl ⟨a, b, rfl, ha.1, ha.2, hb.1, hb.2, c1⟩
    | [], h1 => simp at h1
    | [a], h1 => simp at h1
    | a :: b :: c :: ts, h1 => simp at h1; omega
  · rw [if_neg c1] at h1
    by_cases c2 : f = 3 ∨ f = 5 ∨ f = 6
    · rw [if_pos c2] at h1
      match ns, h1 with
      | [a], _ =>
        have ha := inR_iff.1 (h2 a (by simp))
        exact .inr ⟨a, rfl, ha.1, ha.2, c2⟩
      | [], h1 => simp at h1
      | a :: b :: ts, h1 => simp at h1; omega
    · rw [if_neg c2] at h1
      omega

end Go.Proofs.YtolkohncmidpeaaGreatDoor


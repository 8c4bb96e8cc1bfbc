/-
  Lemmas towards the law, 17: Draw, Extract, NumA, Free, DrawFun.
-/
import Derived.Test.YtdkamgafpphdjaaEAP
import Derived.Deep.DrawnRows
import Derived.Deep.LoopGhost
import Derived.Deep.RegionLaw
import Derived.Laws.BitsAllLaws
namespace Go.Proofs.Ytdkamgafpphdjaa
open Go.RowKit Go.ChangeShapes Go.WideShapes Go.Deep
set_option linter.unusedVariables false

/-- The bytes lie in w from A on, in a block below B. -/
def Bytes (w : World) (B : Nat) (A : Option Addr) (ns : List Int) : Prop := ns = [] ∨ ∃ b o, A = some ⟨b, o, none⟩ ∧ b < B ∧ b < w.heap.size ∧ ∀ j (h : j < ns.length), w.cell? ⟨b, o + j, none⟩ = some (.int .u8 ns[j]) ∧ 0 ≤ ns[j] ∧ ns[j] < 256
theorem Bytes.below {w w' : World} {B : Nat} {A : Option Addr} {ns : List Int} (h : Bytes w B A ns) (hs : w.heap.size ≤ w'.heap.size) (he : ∀ b, b < B → b < w.heap.size → w'.heap[b]? = w.heap[b]?) : Bytes w' B A ns := by
  rcases h with h | ⟨b, o, rfl, hb, hs', hc⟩
  · exact .inl h
  · exact .inr ⟨b, o, rfl, hb, by omega, fun j hj => ⟨(World.cell?_of_block (w := w) (a := ⟨b, o + j, none⟩) (he b hb hs')).trans (hc j hj).1, (hc j hj).2⟩⟩
theorem Bytes.ext {w w' : World} {B : Nat} {A : Option Addr} {ns : List Int} (h : Bytes w B A ns) (he : Ext w w') : Bytes w' B A ns := h.below he.size (fun b _ hb => he.heap b hb)
theorem Bytes.mono {w : World} {B B' : Nat} {A : Option Addr} {ns : List Int} (h : Bytes w B A ns) (hB : B ≤ B') : Bytes w B' A ns := by
  rcases h with h | ⟨b, o, rfl, hb, r⟩
  · exact .inl h
  · exact .inr ⟨b, o, rfl, by omega, r⟩
theorem Bytes.take {w : World} {B : Nat} {A : Option Addr} {ns : List Int} (h : Bytes w B A ns) (n : Nat) : Bytes w B A (ns.take n) := by
  rcases h with rfl | ⟨b, o, rfl, hb, hs, hc⟩
  · exact .inl (by simp)
  · refine .inr ⟨b, o, rfl, hb, hs, fun j hj => ?_⟩
    rw [List.length_take] at hj
    rw [List.getElem_take]
    exact hc j (by omega)

section
variable {H : Type} {enc : TypeId × Value → H} {P : Program} {w : World} {spare : Nat → Bool} {held : Bool}
/-- An argument that is a slice of bytes. -/
theorem open_bytes {s i : TypeId} (hs : P.underlying s = some (.slice i)) (hi : P.underlying i = some (.int .u8)) (ci : P.cellsOf i = 1) {r : Reach} {b0 : Nat} {v : Value} {d : DataW H} {p : List MemPlace} (hv : Value.okWide P w r b0 s v) (h : DataW.Trod enc P w 0 spare held s v d p) :
    ∃ (A : Option Addr) (cap : Nat) (ns : List Int), v = .slice A ns.length cap ∧ ns.length ≤ cap ∧ cap ≤ maxLen ∧ Bytes w w.heap.size A ns ∧ (A = none → cap = 0) := by
  obtain ⟨a0, len0, cap0, rfl⟩ := okWide_slice hs hv
  obtain ⟨fuel, hf⟩ := h
  rcases DataW.trod_slice hs hf with ⟨hcs, _⟩ | ⟨a, len, cap, elems, rest, n, rfl, hcs, _, _, hl, hm, hlen, hel, _, _⟩
  · simp only [Value.cells, List.cons.injEq, and_true] at hcs
    exact ⟨none, 0, [], hcs, Nat.le_refl _, Nat.zero_le _, .inl rfl, fun _ => rfl⟩
  · have hel' : ∀ j, j < len → ∃ x : Int, w.cell? (a.add j) = some (.int .u8 x) ∧ 0 ≤ x ∧ x < 256 := by
      intro j hj
      have hj' := hel j hj
      rw [List.getElem?_eq_getElem (by omega)] at hj'
      obtain ⟨cs', h1, h2⟩ := Option.bind_eq_some_iff.1 hj'
      obtain ⟨x, rfl, _, hwf⟩ := DataW.trod_int hi h2
      obtain ⟨_, _, hcell⟩ := World.cells?_some h1
      rw [ci] at hcell
      have q0 := hcell 0 (by omega)
      rw [Nat.mul_one] at q0
      have e0 : ∀ y : Addr, y.add 0 = y := fun y => by simp [Addr.add]
      rw [e0] at q0
      simp [Lit.wf, IntKind.min, IntKind.max, IntKind.signed, IntKind.bits] at hwf
      exact ⟨x, q0, by omega, by omega⟩
    obtain ⟨ns, hns, hp⟩ := choose_list len hel'
    subst hns
    simp only [Value.cells, List.cons.injEq, and_true] at hcs
    refine ⟨some a, cap, ns, hcs, hl, hm, ?_, fun h => by cases h⟩
    cases ns with
    | nil => exact .inl rfl
    | cons t0 ts =>
      obtain ⟨b, o, spot⟩ := a
      have hlt : b < w.heap.size ∧ spot = none := by
        have q0 := (hp 0 (by simp)).1
        have e0 : (⟨b, o, spot⟩ : Addr).add 0 = ⟨b, o, spot⟩ := by simp [Addr.add]
        rw [e0] at q0
        exact ⟨World.block_lt_of_cell? _ _ q0, by simpa using World.cell?_spot q0⟩
      obtain ⟨hlt, rfl⟩ := hlt
      refine .inr ⟨b, o, rfl, hlt, hlt, fun j hj => ?_⟩
      have q0 := hp j hj
      rw [add_plain'] at q0
      exact q0
end

theorem i64_xor_range (a b : Int) (h1 : 0 ≤ a) (h2 : a < 4611686018427387904) (h3 : 0 ≤ b) (h4 : b < 4611686018427387904) : 0 ≤ bits .xor .i64 a b ∧ bits .xor .i64 a b < 4611686018427387904 := by
  obtain ⟨x, rfl⟩ := Int.eq_ofNat_of_zero_le h1
  obtain ⟨y, rfl⟩ := Int.eq_ofNat_of_zero_le h3
  have hx : x ^^^ y < 2 ^ 62 := Nat.xor_lt_two_pow (by omega) (by omega)
  have e : bits .xor .i64 (x : Int) (y : Int) = ((x ^^^ y : Nat) : Int) := by
    show IntKind.i64.wrap ((BitVec.ofInt 64 (x : Int) ^^^ BitVec.ofInt 64 (y : Int)).toNat : Int) = _
    rw [BitVec.toNat_xor, ofInt_u64 x (by omega), ofInt_u64 y (by omega)]
    simp only [IntKind.wrap, IntKind.bits, IntKind.signed]
    simp
    omega
  rw [e]
  omega

/-- The source of draws lies in block g; it has been asked at most m times. -/
def Rd (w : World) (g : Nat) (m : Nat) : Prop := ∃ (A : Option Addr) (cap : Nat) (bs : List Int) (p : Nat), w.heap[g]? = some (.cells #[.slice A bs.length cap, .int .i64 p] 47 (0, 0)) ∧ bs.length ≤ cap ∧ cap ≤ maxLen ∧ bs.length ≤ 2000 ∧ p ≤ m ∧ Bytes w g A bs

theorem Rd.drewN {w : World} {g m : Nat} (h : Rd w g m) (n : Nat) : Rd (w.drewN n) g m := by
  obtain ⟨A, cap, bs, p, hb, h1, h2, h3, h4, hB⟩ := h
  exact ⟨A, cap, bs, p, hb, h1, h2, h3, h4, hB.below (Nat.le_refl _) (fun _ _ _ => rfl)⟩
theorem Only.drewN {L : List Nat} {a b : World} (h : Only L a b) (n : Nat) : Only L a (b.drewN n) := ⟨h.os, h.tape, h.output, h.size, h.block⟩
theorem own2 {w : World} {g : Nat} {x0 x1 : Value} {e : TypeId} (hb : w.heap[g]? = some (.cells #[x0, x1] e (0, 0))) :
    w.cell? ⟨g, 0, none⟩ = some x0 ∧ w.cell? ⟨g, 1, none⟩ = some x1 ∧ w.frozen? ⟨g, 0, none⟩ = false ∧ w.frozen? ⟨g, 1, none⟩ = false :=
  ⟨cell_of_blk hb 0, cell_of_blk hb 1, frozen_of_blk hb 0, frozen_of_blk hb 1⟩

theorem pick_any (w : World) (g m : Nat) (n : Int) (h : Rd w g m) (hm : m < 1125899906842624) : Calls Try.prog 23 #[.pointer (some ⟨g, 0, none⟩), .int .i64 n] w fun e w' =>
    ∃ x : Int, e = .returned (.int .i64 x) ∧ 0 ≤ x ∧ (x = 0 ∨ x < n) ∧ Rd w' g (m + 1) ∧ Only [g] w w' := by
  obtain ⟨A, cap, bs, p, hb, hl, hc, h2, hp, hB⟩ := h
  have hlt := lt_of_blk hb
  obtain ⟨w1, hw1⟩ : ∃ w1, w1 = w.setCell ⟨g, 1, none⟩ (.int .i64 ((p : Int) + 1)) := ⟨_, rfl⟩
  have hb1 : w1.heap[g]? = some (.cells #[.slice A bs.length cap, .int .i64 ((p : Int) + 1)] 47 (0, 0)) := hw1 ▸ blk_setCell hb 1 _
  have hon : Only [g] w w1 := hw1 ▸ (Only.refl _ _).setCell (by simp) _
  have hB1 : Bytes w1 g A bs := hB.below hon.size (fun b hb hs => hon.block b hs (by simp; omega))
  have hR : Rd w1 g (m + 1) := ⟨A, cap, bs, p + 1, by simpa using hb1, hl, hc, h2, by omega, hB1⟩
  obtain ⟨c0, c1, f0, f1⟩ := own2 hb
  obtain ⟨d0, d1, -, -⟩ := own2 hb1
  have HB := Lib.hid hb
  have HB1 := Lib.hid hb1
  have HR := Lib.hid hR
  clear hb hb1 hR
  by_cases hn : n < 1
  · have b1 : decide (n < 1) = true := decide_eq_true hn
    go_enter Try.func23, Try.ntmps23
    go_wp2_with fail
    rw [← hw1]
    go_ret
    exact ⟨0, rfl, Int.le_refl _, .inl rfl, HR.out, hon⟩
  have b1 : decide (n < 1) = false := decide_eq_false hn
  by_cases hz : bs = []
  · subst hz
    go_enter Try.func23, Try.ntmps23
    go_wp2_with fail
    rw [← hw1]
    go_ret
    exact ⟨0, rfl, Int.le_refl _, .inl rfl, HR.out, hon⟩
  have hlen : 0 < bs.length := List.length_pos_iff.2 hz
  rcases hB with hB | ⟨bb, o, rfl, hbg, hbs', hcell⟩
  · exact absurd hB hz
  have b2 : ((bs.length : Int) == 0) = false := by rw [beq_eq_false_iff_ne]; omega
  by_cases hk : p < bs.length
  · have b3 : decide ((p : Int) < (bs.length : Int)) = true := decide_eq_true (by omega)
    obtain ⟨cp, cp0, cp1⟩ := hcell p hk
    generalize bs[p] = x at cp cp0 cp1
    clear hcell
    go_enter Try.func23, Try.ntmps23
    go_wp2_with fail
    rw [← hw1]
    go_ret
    exact ⟨_, rfl, Int.emod_nonneg _ (by omega), .inr (Int.emod_lt_of_pos _ (by omega)), HR.out, hon⟩
  · have b3 : decide ((p : Int) < (bs.length : Int)) = false := decide_eq_false (by omega)
    obtain ⟨r1, hr1⟩ : ∃ r1 : Nat, r1 = p % bs.length := ⟨_, rfl⟩
    obtain ⟨r2, hr2⟩ : ∃ r2 : Nat, r2 = (p * 7 + 3) % bs.length := ⟨_, rfl⟩
    have h1 : r1 < bs.length := hr1 ▸ Nat.mod_lt _ hlen
    have h2 : r2 < bs.length := hr2 ▸ Nat.mod_lt _ hlen
    have e1 : ((p : Int) % (bs.length : Int)) = (r1 : Int) := by rw [hr1]; exact (Int.natCast_emod p bs.length).symm
    have e2 : (((p : Int) * 7 + 3) % (bs.length : Int)) = (r2 : Int) := by rw [hr2]; rw [Int.natCast_emod]; rfl
    obtain ⟨d, hd⟩ : ∃ d : Nat, d = p / bs.length := ⟨_, rfl⟩
    have h3 : d ≤ p := hd ▸ Nat.div_le_self _ _
    have e3 : ((p : Int) / (bs.length : Int)) = (d : Int) := by rw [hd]; exact (Int.natCast_ediv p bs.length).symm
    obtain ⟨cp, cp0, cp1⟩ := hcell r1 h1
    obtain ⟨cq, cq0, cq1⟩ := hcell r2 h2
    generalize bs[r1] = x at cp cp0 cp1
    generalize bs[r2] = y at cq cq0 cq1
    clear hcell hr1 hr2 hd
    go_enter Try.func23, Try.ntmps23
    go_wp2_with fail
    rw [← hw1]
    go_quiet (fail)
    obtain ⟨z, hz⟩ : ∃ z : Int, z = x * 131 + y * 1117 + (p : Int) * 29 + (d : Int) * 53 := ⟨_, rfl⟩
    rw [← hz]
    have hz0 : 0 ≤ z := by omega
    have hz1 : z < 4611686018427387904 := by omega
    have hx := i64_xor_range z (z / 64) hz0 hz1 (by omega) (by omega)
    clear hz
    generalize hq : bits .xor .i64 z (z / 64) = q at hx
    go_wp2_with fail
    rw [← hw1]
    go_ret
    exact ⟨_, rfl, Int.emod_nonneg _ (by omega), .inr (Int.emod_lt_of_pos _ (by omega)), HR.out.drewN _, hon.drewN _⟩

theorem num_any (w : World) (g m : Nat) (h : Rd w g m) (hm : m < 1125899906842624) (A : Option Addr) (cap : Nat) (ns : List Int) (hl : ns.length ≤ cap) (hc : cap ≤ maxLen) (hns : 0 < ns.length) (hN : Nums w A ns) (hA : ∀ b o, A = some ⟨b, o, none⟩ → b ≠ g) : Calls Try.prog 12 #[.pointer (some ⟨g, 0, none⟩), .slice A ns.length cap] w fun e w' =>
    ∃ x : Int, e = .returned (.int .i64 x) ∧ x ∈ ns ∧ Rd w' g (m + 1) ∧ Only [g] w w' := by
  unfold maxLen at hc
  rcases hN with hN | ⟨b, o, rfl, hb, hcell⟩
  · subst hN
    cases hns
  go_enter Try.func12, Try.ntmps12
  go_wp2_with fail
  refine (pick_any w g m ns.length h hm).mono ?_
  rintro e w1 ⟨i, rfl, h0, h1, hR, hon⟩
  obtain ⟨j, rfl⟩ := Int.eq_ofNat_of_zero_le h0
  have hj : j < ns.length := by omega
  have hcj : w1.cell? ⟨b, o + j, none⟩ = some (.int .i64 ns[j]) := (World.cell?_of_block (w := w) (a := ⟨b, o + j, none⟩) (hon.block b hb (by have := hA b o rfl; simpa using this))).trans (hcell j hj)
  have hmem := List.getElem_mem hj
  generalize ns[j] = x at hcj hmem
  clear hcell
  go_wp2_with fail
  go_ret
  exact ⟨x, rfl, hmem, hR, hon⟩

theorem l19Open_any (w : World) (A : Option Addr) (cap : Nat) (bs : List Int) (hl : bs.length ≤ cap) (hc : cap ≤ maxLen) (hB : Bytes w w.heap.size A bs) : Calls Try.prog 11 #[.slice A bs.length cap] w fun e w' =>
    e = .returned (.pointer (some ⟨w.heap.size, 0, none⟩)) ∧ Rd w' w.heap.size 0 ∧ Ext w w' := by
  have hc' := hc
  unfold maxLen at hc
  have hR : ∀ (k : Nat) (c : Nat), k ≤ bs.length → k ≤ c → c ≤ maxLen → k ≤ 2000 → Rd (w.alloc (.cells #[.slice A k c, .int .i64 0] 47)) w.heap.size 0 := by
    intro k c h1 h2 h3 h4
    have hk : (bs.take k).length = k := by rw [List.length_take]; omega
    refine ⟨A, c, bs.take k, 0, ?_, by omega, h3, by omega, Nat.le_refl _, (hB.take k).ext ((Ext.refl w).alloc _)⟩
    rw [hk]
    exact heap_alloc_new w _
  by_cases h2 : 2000 < bs.length
  · have d : decide ((2000 : Int) < (bs.length : Int)) = true := decide_eq_true (by omega)
    have R := hR 2000 cap (by omega) (by omega) hc' (Nat.le_refl _)
    go_enter Try.func11, Try.ntmps11
    go_wp2_with fail
    go_ret
    exact ⟨rfl, R, (Ext.refl w).alloc _⟩
  · have d : decide ((2000 : Int) < (bs.length : Int)) = false := decide_eq_false (by omega)
    have R := hR bs.length cap (Nat.le_refl _) hl hc' (by omega)
    go_enter Try.func11, Try.ntmps11
    go_wp2_with fail
    go_ret
    exact ⟨rfl, R, (Ext.refl w).alloc _⟩
end Go.Proofs.Ytdkamgafpphdjaa

namespace Go.Proofs.Ytdkamgafpphdjaa
open Go.RowKit
set_option linter.unusedVariables false
theorem shapes_mem {g : Sig} : ∀ {ks : List Tr} {d : Int} {t : Tr}, shapes g ks d = true → t ∈ ks → shape g t d = true
  | x :: ks, d, t, h, hm => by
    simp only [shapes, Bool.and_eq_true] at h
    rcases List.mem_cons.1 hm with rfl | hm
    · exact h.1
    · exact shapes_mem h.2 hm
theorem shape_kids {g : Sig} {k n : Int} {ks : List Tr} {d : Int} (h : shape g (.mk k n ks) d = true) : g.ops k = (ks.length : Int) ∧ 0 ≤ n ∧ n ≤ g.most k ∧ ∀ t ∈ ks, shape g t (d - 1) = true := by
  simp only [shape, headOk, Bool.and_eq_true] at h
  have h1 := of_decide_eq_true h.2.1.1
  have h2 := inR_iff.1 h.2.1.2
  exact ⟨h1, h2.1, h2.2, fun t ht => shapes_mem h.2.2 ht⟩
theorem Ext.below {W a w : World} (h : Ext a w) (hW : W.heap.size ≤ a.heap.size) : Below W.heap.size a w := ⟨h.os, h.tape, h.output, h.size, fun b hb => h.heap b (Nat.lt_of_lt_of_le hb hW)⟩
theorem Ext.trans' {W a b c : World} (h : Ext a b) (k : Below W.heap.size b c) (hW : a.heap.size ≤ W.heap.size) : Ext a c := Below.trans h (Below.mono k hW)
theorem Made.three' {w w' : World} {e : TypeId} {t : Tr} {u : Value} (h : Made w w' e t u) : ∃ k n A l c, u = .agg #[.int .i64 k, .int .i64 n, .slice A l c] := by
  obtain ⟨k, n, ks⟩ := t
  obtain ⟨A, cap, rfl, _⟩ := Made.mk_iff.1 h
  exact ⟨k, n, A, _, cap, rfl⟩
attribute [local go_sem ↓] Go.wp_at_zero Go.wp_at_succ
end Go.Proofs.Ytdkamgafpphdjaa
namespace Go.Proofs.Ytdkamgafpphdjaa
open Go.RowKit
set_option linter.unusedVariables false
/-- What Numeral answers. -/
def numAns (n : Int) : Tr × Bool := if 0 ≤ n ∧ n ≤ 20 then (numTr n.toNat, true) else (.mk 0 0 [], false)
theorem numAns_bad {n : Int} (h : ¬ (0 ≤ n ∧ n ≤ 20)) : numAns n = (.mk 0 0 [], false) := if_neg h
theorem numAns_good {n : Nat} (h : n ≤ 20) : numAns n = (numTr n, true) := by
  unfold numAns
  rw [if_pos ⟨by omega, by omega⟩]
  simp
theorem numeralAns_any (n : Int) (w : World) : Calls Try.prog 8 #[.int .i64 n] w fun e w' => ∃ u, e = .returned (.tuple #[u, .bool (numAns n).2]) ∧ Made w w' 27 (numAns n).1 u ∧ Ext w w' := by
  by_cases hg : 0 ≤ n ∧ n ≤ 20
  · obtain ⟨m, rfl⟩ := Int.eq_ofNat_of_zero_le hg.1
    have hm : m ≤ 20 := by omega
    rw [numAns_good hm]
    have d : inR (m : Int) 0 20 = true := by unfold inR; simp; omega
    go_enter Try.func8, Try.ntmps8
    go_wp2_with (go_at_call 19; refine (within_any _ _ _ _).mono ?_; rw [d]; rintro e w3 ⟨rfl, rfl⟩)
    refine (numeral_any m (by omega) _).mono ?_
    rintro e w1 ⟨u, rfl, hM, hE⟩
    obtain ⟨a1, a2, a3, a4, a5, rfl⟩ := hM.three
    obtain ⟨s0, s1, s2, f0, f1, f2⟩ := own3 (blk1 hE).1
    go_wp2_with fail
    refine bodyPost_ret (v := .tuple #[.agg #[.int .i64 a1, .int .i64 a2, .slice a3 a4 a5], .bool true]) (by simp [results, Try.results8, go_sem, s0, s1, s2]) rfl ⟨_, rfl, ?_, ?_⟩
    · exact Made.since (hM.after ((((Above.refl _ _).setCell (by simp) _).setCell (by simp) _).setCell (by simp) _)) (by simp)
    · exact ((((hE.pre).setCell (by simp) _).setCell (by simp) _).setCell (by simp) _)
  · rw [numAns_bad hg]
    have d : inR n 0 20 = false := by unfold inR; simp; omega
    go_enter Try.func8, Try.ntmps8
    go_wp2_with (go_at_call 19; refine (within_any _ _ _ _).mono ?_; rw [d]; rintro e w3 ⟨rfl, rfl⟩)
    exact bodyPost_ret (v := .tuple #[.agg #[.int .i64 0, .int .i64 0, .slice none 0 0], .bool false]) (by simp [results, Try.results8, go_sem]) rfl ⟨_, rfl, Made.leaf _ _ _ _ _, (Ext.refl w).alloc _⟩
end Go.Proofs.Ytdkamgafpphdjaa
namespace Go.Proofs.Ytdkamgafpphdjaa
open Go.RowKit
set_option linter.unusedVariables false
/-- The binders that an operand stands under. -/
def und (k : Int) (i : Nat) : Int := if i = 1 ∧ (k = 3 ∨ k = 4 ∨ k = 13) then 1 else 0
theorem und_le (k : Int) (i : Nat) : 0 ≤ und k i ∧ und k i ≤ 1 := by unfold und; split <;> omega
def isB (k : Int) : Bool := k == 3 || k == 4 || k == 13
theorem und_eq (k : Int) (i : Nat) : und k i = if ((i : Int) == 1 && isB k) = true then 1 else 0 := by
  unfold und isB
  by_cases h : i = 1
  · subst h
    by_cases h3 : k = 3
    · subst h3; rfl
    · by_cases h4 : k = 4
      · subst h4; rfl
      · by_cases h13 : k = 13
        · subst h13; rfl
        · rw [if_neg (by omega), if_neg (by simp [h3, h4, h13])]
  · rw [if_neg (by omega), if_neg (by rw [beq_eq_false_iff_ne.2 (by omega : (i : Int) ≠ 1)]; simp)]
theorem shape_kids' {g : Sig} {k n : Int} {ks : List Tr} {d : Int} (h : shape g (.mk k n ks) d = true) : g.ops k = (ks.length : Int) ∧ 0 ≤ n ∧ n ≤ g.most k ∧ ∀ t ∈ ks, shape g t (d - 1) = true := by
  have mem : ∀ {ks : List Tr} {d : Int} {t : Tr}, shapes g ks d = true → t ∈ ks → shape g t d = true := by
    intro ks
    induction ks with
    | nil => intro d t _ hm; cases hm
    | cons x ks ih =>
      intro d t h hm
      simp only [shapes, Bool.and_eq_true] at h
      rcases List.mem_cons.1 hm with rfl | hm
      · exact h.1
      · exact ih h.2 hm
  simp only [shape, headOk, Bool.and_eq_true] at h
  have h1 := of_decide_eq_true h.2.1.1
  have h2 := inR_iff.1 h.2.1.2
  exact ⟨h1, h2.1, h2.2, fun t ht => mem h.2.2 ht⟩
theorem isBinder_any (k : Int) (w : World) : Calls Try.prog 62 #[.int .i64 k] w fun e w' => e = .returned (.bool (isB k)) ∧ w = w' := by
  obtain ⟨b3, h3⟩ : ∃ b, (k == 3) = b := ⟨_, rfl⟩
  obtain ⟨b4, h4⟩ : ∃ b, (k == 4) = b := ⟨_, rfl⟩
  obtain ⟨b13, h13⟩ : ∃ b, (k == 13) = b := ⟨_, rfl⟩
  have e : isB k = (b3 || b4 || b13) := by unfold isB; rw [h3, h4, h13]
  have E := Lib.hid e
  clear e
  cases b3 <;> cases b4 <;> cases b13
  all_goals go_enter Try.func62, Try.ntmps62
  all_goals go_wp2_with fail
  all_goals go_ret
  all_goals exact ⟨by rw [E.out]; rfl, rfl⟩
theorem under_any (k : Int) (i : Nat) (w : World) : Calls Try.prog 42 #[.int .i64 k, .int .i64 i] w fun e w' => e = .returned (.int .i64 (und k i)) ∧ w = w' := by
  obtain ⟨b1, h1⟩ : ∃ b, ((i : Int) == 1) = b := ⟨_, rfl⟩
  have HB := Lib.hid (isBinder_any k)
  obtain ⟨b2, h2⟩ : ∃ b, isB k = b := ⟨_, rfl⟩
  have E := Lib.hid (und_eq k i)
  rw [h1, h2] at E
  rw [h2] at HB
  clear h2
  cases b1 <;> cases b2
  all_goals go_enter Try.func42, Try.ntmps42
  all_goals go_wp2_with (go_at_call 62; refine (HB.out _).mono ?_; rintro e w1 ⟨rfl, rfl⟩)
  all_goals go_ret
  all_goals exact ⟨by rw [E.out]; rfl, rfl⟩
theorem valid_parts {g : Sig} {t : Tr} (h : valid g t = true) : shape g t 30 = true ∧ cnt t ≤ 400 := by
  unfold valid at h
  rw [Bool.and_eq_true] at h
  exact ⟨h.1, of_decide_eq_true h.2⟩
end Go.Proofs.Ytdkamgafpphdjaa
namespace Go.Proofs.Ytdkamgafpphdjaa
open Go.RowKit
set_option linter.unusedVariables false
theorem nums_of_row {w : World} {g : Nat} {cs : Array Value} {e : TypeId} {ns : List Int} (hb : w.heap[g]? = some (.cells cs e (0, 0))) (hc : cs.toList = ns.map (Value.int .i64)) : Nums w (some ⟨g, 0, none⟩) ns := by
  refine .inr ⟨g, 0, rfl, lt_of_blk hb, fun j hj => ?_⟩
  rw [cell_of_blk hb, ← Array.getElem?_toList, hc, Nat.zero_add, List.getElem?_map, List.getElem?_eq_getElem hj]
  rfl
theorem Rd.ext {w w' : World} {g m : Nat} (h : Rd w g m) (he : Ext w w') : Rd w' g m := by
  obtain ⟨A, cap, bs, p, hb, h1, h2, h3, h4, hB⟩ := h
  exact ⟨A, cap, bs, p, he.blk hb, h1, h2, h3, h4, hB.ext he⟩
theorem Rd.lt {w : World} {g m : Nat} (h : Rd w g m) : g < w.heap.size := by
  obtain ⟨A, cap, bs, p, hb, _⟩ := h
  exact lt_of_blk hb
theorem Rd.mono {w : World} {g m m' : Nat} (h : Rd w g m) (hm : m ≤ m') : Rd w g m' := by
  obtain ⟨A, cap, bs, p, hb, h1, h2, h3, h4, hB⟩ := h
  exact ⟨A, cap, bs, p, hb, h1, h2, h3, by omega, hB⟩
/-- A slice of ints that was built by append since W. -/
def GrowN (W w : World) (e : TypeId) (v : Value) (ns : List Int) : Prop := w.ownsRow W.heap.size e 1 v ns.length (ns.map (Value.int .i64))
theorem GrowN.only {W w w' : World} {e : TypeId} {v : Value} {ns : List Int} {L : List Nat} (h : GrowN W w e v ns) (ho : Only L w w') (hL : ∀ b, b ∈ L → b < W.heap.size) : GrowN W w' e v ns := by
  refine ⟨h.1, ?_⟩
  rcases h.2 with h | ⟨g, cap, cur, rfl, h1, h2, r⟩
  · exact .inl h
  · exact .inr ⟨g, cap, cur, rfl, h1, (ho.block g (lt_of_blk h2) (fun hm => by have := hL g hm; omega)).trans h2, r⟩
end Go.Proofs.Ytdkamgafpphdjaa

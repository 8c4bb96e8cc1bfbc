/-
  Lemmas towards the law, 13: ToInt, Draw, DrawFun, Ints, Ints2.
-/
import Derived.Test.YtolkohncmidpeaaGreatDoorHAC
import Derived.Test.YtolkohncmidpeaaGreatDoorHAL
import Derived.Laws.BitsAllLaws
import Derived.StillTailTactics
namespace Go.Proofs.YtolkohncmidpeaaGreatDoor
open Go.RowKit
set_option linter.unusedVariables false
theorem infoInt : (Tryz.prog.info? 3).map (fun i => (i.zero, i.size, i.bytes)) = some (some (.int .i64 0), 1, 8) := by kernel_rfl
theorem take_set1 (cs : Array Value) (j : Nat) (h : j < cs.size) (v : Value) : (cs.setIfInBounds j v).toList.take (j + 1) = cs.toList.take j ++ [v] := by
  simp only [Array.toList_setIfInBounds]
  rw [List.take_succ_eq_append_getElem (by simpa using h)]
  congr 1
  · rw [List.take_set_of_le (Nat.le_refl _)]
  · simp
set_option maxHeartbeats 400000 in
theorem toIntS_any (ns : List Int) (w : World) (A : Option Addr) (cap : Nat) (h : Nums w A ns) (hl : ns.length ≤ cap) (hc : cap ≤ maxLen) (hn : ns.length ≤ 1048576) :
    Calls Tryz.prog 19 #[.slice A ns.length cap] w fun e w' => ∃ cs, e = .returned (.slice (some ⟨w.heap.size, 0, none⟩) ns.length ns.length) ∧ w'.heap[w.heap.size]? = some (.cells cs 3 (0, 0)) ∧ cs.toList = ns.map (Value.int .i64) ∧ Ext w w' := by
  have hc' := hc
  unfold maxLen at hc'
  obtain ⟨i0, hi, hz0, hz1, hz2⟩ := info_parts infoInt
  have hmk := fun W => run_make_rowN (P := Tryz.prog) 32 3 i0 _ Tryz.underlying32 hi hz0 .i64 .i64 ns.length ns.length (Nat.le_refl _) (by rw [hz2]; omega) (by omega) W
  rw [hz1, Nat.mul_one] at hmk
  go_enter Tryz.func19, Tryz.ntmps19
  go_wp2_with fail
  generalize hw2 : w.alloc _ = w2
  have he0 : Ext w w2 := hw2 ▸ (Ext.refl w).alloc _
  have hblk : w2.heap[w.heap.size]? = some (.cells (madeCells (Value.cells (.int .i64 0)) ns.length) 3 (0, 0)) := hw2 ▸ heap_alloc_new w _
  have hsz0 := size_madeCells (Value.cells (.int .i64 0)) ns.length
  generalize madeCells _ ns.length = cs0 at hblk hsz0
  have HB := Lib.hid hblk
  have HS := Lib.hid hsz0
  clear hblk hsz0 hmk hw2 hi hz0 hz1 hz2
  go_loopw [4] (fun i wr => ∃ (j : Nat) (cs : Array Value), j ≤ ns.length ∧ i = .int .i64 j ∧ wr.heap[w.heap.size]? = some (.cells cs 3 (0, 0)) ∧ cs.size = ns.length ∧ cs.toList.take j = (ns.take j).map (Value.int .i64) ∧ Ext w wr) (fun i _ => ns.length - (intOf i).toNat)
  case atStart => exact ⟨0, cs0, Nat.zero_le _, rfl, HB.out, HS.out, by simp, he0⟩
  case round =>
    obtain ⟨j, cs, hj, rfl, hblk, hsz, hO, he⟩ := hrel
    by_cases hlt : j < ns.length
    · obtain ⟨b, o, rfl, c0⟩ := h.get he hlt
      have hns : ns.take (j + 1) = ns.take j ++ [ns[j]] := (List.take_append_getElem hlt).symm
      generalize ns[j] = q at c0 hns
      have hts := take_set1 cs j (by omega) (.int .i64 q)
      have g0 : wr.cell? ⟨w.heap.size, j, none⟩ = some (cs[j]'(by omega)) := by rw [cell_of_blk hblk]; exact Array.getElem?_eq_getElem _
      have f0 := frozen_of_blk hblk j
      generalize cs[j]'_ = old at g0
      have HB := Lib.hid hblk
      have HS := Lib.hid hsz
      have HO := Lib.hid hO
      have HN := Lib.hid hns
      have HT := Lib.hid hts
      clear hblk hsz hO hns hts
      go_wp2_with fail
      go_roundw
      case rel => exact ⟨j + 1, cs.setIfInBounds j (.int .i64 q), by omega, by go_num, blk_setCell HB.out j _, by rw [Array.size_setIfInBounds]; exact HS.out, by rw [HT.out, HO.out, HN.out, List.map_append]; rfl, he.setCell (Nat.le_refl _) _⟩
      case measure => simp [intOf]; omega
    · go_wp2_with fail
      go_ret
      have hjk : j = ns.length := by omega
      subst hjk
      rw [List.take_of_length_le (by rw [Array.length_toList]; omega), List.take_of_length_le (Nat.le_refl _)] at hO
      exact ⟨cs, rfl, hblk, hO, he⟩
theorem nums_of_blk {w : World} {g : Nat} {cs : Array Value} {e : TypeId} {ns : List Int} (hb : w.heap[g]? = some (.cells cs e (0, 0))) (hc : cs.toList = ns.map (Value.int .i64)) : Nums w (some ⟨g, 0, none⟩) ns := by
  refine .inr ⟨g, 0, rfl, lt_of_blk hb, fun j hj => ?_⟩
  rw [cell_of_blk hb, ← Array.getElem?_toList, hc, Nat.zero_add, List.getElem?_map, List.getElem?_eq_getElem hj]
  rfl
set_option maxRecDepth 100000 in
set_option maxHeartbeats 400000 in
theorem eqIntS_any (ns ms : List Int) (w : World) (A A' : Option Addr) (cap cap' : Nat) (h : Nums w A ns) (hl : ns.length ≤ cap) (hc : cap ≤ maxLen) (h' : Nums w A' ms) (hl' : ms.length ≤ cap') (hc' : cap' ≤ maxLen) :
    Calls Tryz.prog 21 #[.slice A ns.length cap, .slice A' ms.length cap'] w fun e w' => e = .returned (.bool (decide (ns = ms))) ∧ Ext w w' := by
  unfold maxLen at hc hc'
  by_cases h0 : ns.length = ms.length
  · have hd : ((ns.length : Int) != (ms.length : Int)) = false := by rw [h0]; simp
    have H0 := Lib.hid h0
    clear h0
    go_enter Tryz.func21, Tryz.ntmps21
    go_wp2_with fail
    go_loopw [5] (fun i wr => ∃ j : Nat, j ≤ ns.length ∧ i = .int .i64 j ∧ (ns = ms ↔ ns.drop j = ms.drop j) ∧ Ext w wr) (fun i _ => ns.length - (intOf i).toNat)
    case atStart => exact ⟨0, Nat.zero_le _, rfl, Iff.rfl, Ext.refl _⟩
    case round =>
      obtain ⟨j, hj, rfl, heq, he⟩ := hrel
      by_cases hlt : j < ns.length
      · have hlt' : j < ms.length := by rw [← H0.out]; exact hlt
        obtain ⟨b, o, rfl, c0⟩ := h.get he hlt
        obtain ⟨b', o', rfl, c0'⟩ := h'.get he hlt'
        have hst : ns.drop j = ms.drop j ↔ ns[j] = ms[j] ∧ ns.drop (j + 1) = ms.drop (j + 1) := by
          rw [List.drop_eq_getElem_cons hlt, List.drop_eq_getElem_cons hlt', List.cons.injEq]
        generalize ns[j] = p at c0 hst
        generalize ms[j] = q at c0' hst
        have hj0 : (0 : Int) ≤ (j : Int) := Int.natCast_nonneg _
        have hj1 : (j : Int) < (ns.length : Int) := by omega
        have hj2 : (j : Int) < (ms.length : Int) := by omega
        by_cases hpq : p = q
        · have d1 : (p != q) = false := by simp [hpq]
          have hn := heq.trans (hst.trans ⟨fun x => x.2, fun x => ⟨hpq, x⟩⟩)
          have HN := Lib.hid hn
          clear heq hst hn hpq
          go_wp2_with fail
          go_quiet (fail)
          go_wp2_with fail
          go_roundw
          case rel => exact ⟨j + 1, by omega, by go_num, HN.out, he.drewN _⟩
          case measure => simp [intOf]; omega
        · have d1 : (p != q) = true := by rw [bne_iff_ne]; exact hpq
          have hn : decide (ns = ms) = false := decide_eq_false fun x => hpq (hst.1 (heq.1 x)).1
          have HN := Lib.hid hn
          clear heq hst hn hpq
          go_wp2_with fail
          go_quiet (fail)
          go_wp2_with fail
          go_ret
          exact ⟨by rw [HN.out]; rfl, he.drewN _⟩
      · have hn : decide (ns = ms) = true := decide_eq_true (heq.2 (by rw [List.drop_of_length_le (by omega), List.drop_of_length_le (by rw [← H0.out]; omega)]))
        have HN := Lib.hid hn
        clear heq hn
        go_wp2_with fail
        go_ret
        exact ⟨by rw [HN.out]; rfl, he⟩
  · have hd : ((ns.length : Int) != (ms.length : Int)) = true := by rw [bne_iff_ne]; omega
    have hn : decide (ns = ms) = false := decide_eq_false fun x => h0 (by rw [x])
    have HN := Lib.hid hn
    clear hn h0
    go_enter Tryz.func21, Tryz.ntmps21
    go_wp2_with fail
    go_ret
    exact ⟨by rw [HN.out]; rfl, Ext.refl _⟩
end Go.Proofs.YtolkohncmidpeaaGreatDoor
namespace Go.Proofs.YtolkohncmidpeaaGreatDoor
open Go.RowKit Go.ChangeShapes Go.WideShapes Go.Deep
set_option linter.unusedVariables false

/-- The bytes lie in w from A on, in a block below B. -/
def Bytes (w : World) (B : Nat) (A : Option Addr) (ns : List Int) : Prop := ns = [] ∨ ∃ b o, A = some ⟨b, o, none⟩ ∧ b < B ∧ b < w.heap.size ∧ ∀ j (h : j < ns.length), w.cell? ⟨b, o + j, none⟩ = some (.int .u8 ns[j]) ∧ 0 ≤ ns[j] ∧ ns[j] < 256
theorem Bytes.below {w w' : World} {B : Nat} {A : Option Addr} {ns : List Int} (h : Bytes w B A ns) (hs : w.heap.size ≤ w'.heap.size) (he : ∀ b, b < B → b < w.heap.size → w'.heap[b]? = w.heap[b]?) : Bytes w' B A ns := by
  rcases h with h | ⟨b, o, rfl, hb, hs', hc⟩
  · exact .inl h
  · exact .inr ⟨b, o, rfl, hb, by omega, fun j hj => ⟨(World.cell?_of_block (w := w) (a := ⟨b, o + j, none⟩) (he b hb hs')).trans (hc j hj).1, (hc j hj).2⟩⟩
theorem Bytes.ext {w w' : World} {B : Nat} {A : Option Addr} {ns : List Int} (h : Bytes w B A ns) (he : Ext w w') : Bytes w' B A ns := h.below he.size (fun b _ hb => he.heap b hb)
theorem Bytes.mono {w : World} {B B' : Nat} {A : Option Addr} {ns : List Int} (h : Bytes w B A ns) (hB : B ≤ B') : Bytes w B' A ns := by
  rcases h with h | ⟨b, o, rfl, hb, r⟩
  · exact .inl h
  · exact .inr ⟨b, o, rfl, by omega, r⟩
theorem Bytes.take {w : World} {B : Nat} {A : Option Addr} {ns : List Int} (h : Bytes w B A ns) (n : Nat) : Bytes w B A (ns.take n) := by
  rcases h with rfl | ⟨b, o, rfl, hb, hs, hc⟩
  · exact .inl (by simp)
  · refine .inr ⟨b, o, rfl, hb, hs, fun j hj => ?_⟩
    rw [List.length_take] at hj
    rw [List.getElem_take]
    exact hc j (by omega)

section
variable {H : Type} {enc : TypeId × Value → H} {P : Program} {w : World} {spare : Nat → Bool} {held : Bool}
/-- An argument that is a slice of bytes. -/
theorem open_bytes {s i : TypeId} (hs : P.underlying s = some (.slice i)) (hi : P.underlying i = some (.int .u8)) (ci : P.cellsOf i = 1) {r : Reach} {b0 : Nat} {v : Value} {d : DataW H} {p : List MemPlace} (hv : Value.okWide P w r b0 s v) (h : DataW.Trod enc P w 0 spare held s v d p) :
    ∃ (A : Option Addr) (cap : Nat) (ns : List Int), v = .slice A ns.length cap ∧ ns.length ≤ cap ∧ cap ≤ maxLen ∧ Bytes w w.heap.size A ns ∧ (A = none → cap = 0) := by
  obtain ⟨a0, len0, cap0, rfl⟩ := okWide_slice hs hv
  obtain ⟨fuel, hf⟩ := h
  rcases DataW.trod_slice hs hf with ⟨hcs, _⟩ | ⟨a, len, cap, elems, rest, n, rfl, hcs, _, _, hl, hm, hlen, hel, _, _⟩
  · simp only [Value.cells, List.cons.injEq, and_true] at hcs
    exact ⟨none, 0, [], hcs, Nat.le_refl _, Nat.zero_le _, .inl rfl, fun _ => rfl⟩
  · have hel' : ∀ j, j < len → ∃ x : Int, w.cell? (a.add j) = some (.int .u8 x) ∧ 0 ≤ x ∧ x < 256 := by
      intro j hj
      have hj' := hel j hj
      rw [List.getElem?_eq_getElem (by omega)] at hj'
      obtain ⟨cs', h1, h2⟩ := Option.bind_eq_some_iff.1 hj'
      obtain ⟨x, rfl, _, hwf⟩ := DataW.trod_int hi h2
      obtain ⟨_, _, hcell⟩ := World.cells?_some h1
      rw [ci] at hcell
      have q0 := hcell 0 (by omega)
      rw [Nat.mul_one] at q0
      have e0 : ∀ y : Addr, y.add 0 = y := fun y => by simp [Addr.add]
      rw [e0] at q0
      simp [Lit.wf, IntKind.min, IntKind.max, IntKind.signed, IntKind.bits] at hwf
      exact ⟨x, q0, by omega, by omega⟩
    obtain ⟨ns, hns, hp⟩ := choose_list len hel'
    subst hns
    simp only [Value.cells, List.cons.injEq, and_true] at hcs
    refine ⟨some a, cap, ns, hcs, hl, hm, ?_, fun h => by cases h⟩
    cases ns with
    | nil => exact .inl rfl
    | cons t0 ts =>
      obtain ⟨b, o, spot⟩ := a
      have hlt : b < w.heap.size ∧ spot = none := by
        have q0 := (hp 0 (by simp)).1
        have e0 : (⟨b, o, spot⟩ : Addr).add 0 = ⟨b, o, spot⟩ := by simp [Addr.add]
        rw [e0] at q0
        exact ⟨World.block_lt_of_cell? _ _ q0, by simpa using World.cell?_spot q0⟩
      obtain ⟨hlt, rfl⟩ := hlt
      refine .inr ⟨b, o, rfl, hlt, hlt, fun j hj => ?_⟩
      have q0 := hp j hj
      rw [add_plain'] at q0
      exact q0
end

theorem i64_xor_range (a b : Int) (h1 : 0 ≤ a) (h2 : a < 4611686018427387904) (h3 : 0 ≤ b) (h4 : b < 4611686018427387904) : 0 ≤ bits .xor .i64 a b ∧ bits .xor .i64 a b < 4611686018427387904 := by
  obtain ⟨x, rfl⟩ := Int.eq_ofNat_of_zero_le h1
  obtain ⟨y, rfl⟩ := Int.eq_ofNat_of_zero_le h3
  have hx : x ^^^ y < 2 ^ 62 := Nat.xor_lt_two_pow (by omega) (by omega)
  have e : bits .xor .i64 (x : Int) (y : Int) = ((x ^^^ y : Nat) : Int) := by
    show IntKind.i64.wrap ((BitVec.ofInt 64 (x : Int) ^^^ BitVec.ofInt 64 (y : Int)).toNat : Int) = _
    rw [BitVec.toNat_xor, ofInt_u64 x (by omega), ofInt_u64 y (by omega)]
    simp only [IntKind.wrap, IntKind.bits, IntKind.signed]
    simp
    omega
  rw [e]
  omega

/-- The source of draws lies in block g; it has been asked at most m times. -/
def Rd (w : World) (g : Nat) (m : Nat) : Prop := ∃ (A : Option Addr) (cap : Nat) (bs : List Int) (p : Nat), w.heap[g]? = some (.cells #[.slice A bs.length cap, .int .i64 p] 111 (0, 0)) ∧ bs.length ≤ cap ∧ cap ≤ maxLen ∧ bs.length ≤ 2000 ∧ p ≤ m ∧ Bytes w g A bs

theorem Rd.drewN {w : World} {g m : Nat} (h : Rd w g m) (n : Nat) : Rd (w.drewN n) g m := by
  obtain ⟨A, cap, bs, p, hb, h1, h2, h3, h4, hB⟩ := h
  exact ⟨A, cap, bs, p, hb, h1, h2, h3, h4, hB.below (Nat.le_refl _) (fun _ _ _ => rfl)⟩
theorem Only.drewN {L : List Nat} {a b : World} (h : Only L a b) (n : Nat) : Only L a (b.drewN n) := ⟨h.os, h.tape, h.output, h.size, h.block⟩
theorem own2 {w : World} {g : Nat} {x0 x1 : Value} {e : TypeId} (hb : w.heap[g]? = some (.cells #[x0, x1] e (0, 0))) :
    w.cell? ⟨g, 0, none⟩ = some x0 ∧ w.cell? ⟨g, 1, none⟩ = some x1 ∧ w.frozen? ⟨g, 0, none⟩ = false ∧ w.frozen? ⟨g, 1, none⟩ = false :=
  ⟨cell_of_blk hb 0, cell_of_blk hb 1, frozen_of_blk hb 0, frozen_of_blk hb 1⟩

theorem pick_any (w : World) (g m : Nat) (n : Int) (h : Rd w g m) (hm : m < 1125899906842624) : Calls Tryz.prog 90 #[.pointer (some ⟨g, 0, none⟩), .int .i64 n] w fun e w' =>
    ∃ x : Int, e = .returned (.int .i64 x) ∧ 0 ≤ x ∧ (x = 0 ∨ x < n) ∧ Rd w' g (m + 1) ∧ Only [g] w w' := by
  obtain ⟨A, cap, bs, p, hb, hl, hc, h2, hp, hB⟩ := h
  have hlt := lt_of_blk hb
  obtain ⟨w1, hw1⟩ : ∃ w1, w1 = w.setCell ⟨g, 1, none⟩ (.int .i64 ((p : Int) + 1)) := ⟨_, rfl⟩
  have hb1 : w1.heap[g]? = some (.cells #[.slice A bs.length cap, .int .i64 ((p : Int) + 1)] 111 (0, 0)) := hw1 ▸ blk_setCell hb 1 _
  have hon : Only [g] w w1 := hw1 ▸ (Only.refl _ _).setCell (by simp) _
  have hB1 : Bytes w1 g A bs := hB.below hon.size (fun b hb hs => hon.block b hs (by simp; omega))
  have hR : Rd w1 g (m + 1) := ⟨A, cap, bs, p + 1, by simpa using hb1, hl, hc, h2, by omega, hB1⟩
  obtain ⟨c0, c1, f0, f1⟩ := own2 hb
  obtain ⟨d0, d1, -, -⟩ := own2 hb1
  have HB := Lib.hid hb
  have HB1 := Lib.hid hb1
  have HR := Lib.hid hR
  clear hb hb1 hR
  by_cases hn : n < 1
  · have b1 : decide (n < 1) = true := decide_eq_true hn
    go_enter Tryz.func90, Tryz.ntmps90
    go_wp2_with fail
    rw [← hw1]
    go_ret
    exact ⟨0, rfl, Int.le_refl _, .inl rfl, HR.out, hon⟩
  have b1 : decide (n < 1) = false := decide_eq_false hn
  by_cases hz : bs = []
  · subst hz
    go_enter Tryz.func90, Tryz.ntmps90
    go_wp2_with fail
    rw [← hw1]
    go_ret
    exact ⟨0, rfl, Int.le_refl _, .inl rfl, HR.out, hon⟩
  have hlen : 0 < bs.length := List.length_pos_iff.2 hz
  rcases hB with hB | ⟨bb, o, rfl, hbg, hbs', hcell⟩
  · exact absurd hB hz
  have b2 : ((bs.length : Int) == 0) = false := by rw [beq_eq_false_iff_ne]; omega
  by_cases hk : p < bs.length
  · have b3 : decide ((p : Int) < (bs.length : Int)) = true := decide_eq_true (by omega)
    obtain ⟨cp, cp0, cp1⟩ := hcell p hk
    generalize bs[p] = x at cp cp0 cp1
    clear hcell
    go_enter Tryz.func90, Tryz.ntmps90
    go_wp2_with fail
    rw [← hw1]
    go_ret
    exact ⟨_, rfl, Int.emod_nonneg _ (by omega), .inr (Int.emod_lt_of_pos _ (by omega)), HR.out, hon⟩
  · have b3 : decide ((p : Int) < (bs.length : Int)) = false := decide_eq_false (by omega)
    obtain ⟨r1, hr1⟩ : ∃ r1 : Nat, r1 = p % bs.length := ⟨_, rfl⟩
    obtain ⟨r2, hr2⟩ : ∃ r2 : Nat, r2 = (p * 7 + 3) % bs.length := ⟨_, rfl⟩
    have h1 : r1 < bs.length := hr1 ▸ Nat.mod_lt _ hlen
    have h2 : r2 < bs.length := hr2 ▸ Nat.mod_lt _ hlen
    have e1 : ((p : Int) % (bs.length : Int)) = (r1 : Int) := by rw [hr1]; exact (Int.natCast_emod p bs.length).symm
    have e2 : (((p : Int) * 7 + 3) % (bs.length : Int)) = (r2 : Int) := by rw [hr2]; rw [Int.natCast_emod]; rfl
    obtain ⟨d, hd⟩ : ∃ d : Nat, d = p / bs.length := ⟨_, rfl⟩
    have h3 : d ≤ p := hd ▸ Nat.div_le_self _ _
    have e3 : ((p : Int) / (bs.length : Int)) = (d : Int) := by rw [hd]; exact (Int.natCast_ediv p bs.length).symm
    obtain ⟨cp, cp0, cp1⟩ := hcell r1 h1
    obtain ⟨cq, cq0, cq1⟩ := hcell r2 h2
    generalize bs[r1] = x at cp cp0 cp1
    generalize bs[r2] = y at cq cq0 cq1
    clear hcell hr1 hr2 hd
    go_enter Tryz.func90, Tryz.ntmps90
    go_wp2_with fail
    rw [← hw1]
    go_quiet (fail)
    obtain ⟨z, hz⟩ : ∃ z : Int, z = x * 131 + y * 1117 + (p : Int) * 29 + (d : Int) * 53 := ⟨_, rfl⟩
    rw [← hz]
    have hz0 : 0 ≤ z := by omega
    have hz1 : z < 4611686018427387904 := by omega
    have hx := i64_xor_range z (z / 64) hz0 hz1 (by omega) (by omega)
    clear hz
    generalize hq : bits .xor .i64 z (z / 64) = q at hx
    go_wp2_with fail
    rw [← hw1]
    go_ret
    exact ⟨_, rfl, Int.emod_nonneg _ (by omega), .inr (Int.emod_lt_of_pos _ (by omega)), HR.out.drewN _, hon.drewN _⟩

theorem num_any (w : World) (g m : Nat) (h : Rd w g m) (hm : m < 1125899906842624) (A : Option Addr) (cap : Nat) (ns : List Int) (hl : ns.length ≤ cap) (hc : cap ≤ maxLen) (hns : 0 < ns.length) (hN : Nums w A ns) (hA : ∀ b o, A = some ⟨b, o, none⟩ → b ≠ g) : Calls Tryz.prog 63 #[.pointer (some ⟨g, 0, none⟩), .slice A ns.length cap] w fun e w' =>
    ∃ x : Int, e = .returned (.int .i64 x) ∧ x ∈ ns ∧ Rd w' g (m + 1) ∧ Only [g] w w' := by
  unfold maxLen at hc
  rcases hN with hN | ⟨b, o, rfl, hb, hcell⟩
  · subst hN
    cases hns
  go_enter Tryz.func63, Tryz.ntmps63
  go_wp2_with fail
  refine (pick_any w g m ns.length h hm).mono ?_
  rintro e w1 ⟨i, rfl, h0, h1, hR, hon⟩
  obtain ⟨j, rfl⟩ := Int.eq_ofNat_of_zero_le h0
  have hj : j < ns.length := by omega
  have hcj : w1.cell? ⟨b, o + j, none⟩ = some (.int .i64 ns[j]) := (World.cell?_of_block (w := w) (a := ⟨b, o + j, none⟩) (hon.block b hb (by have := hA b o rfl; simpa using this))).trans (hcell j hj)
  have hmem := List.getElem_mem hj
  generalize ns[j] = x at hcj hmem
  clear hcell
  go_wp2_with fail
  go_ret
  exact ⟨x, rfl, hmem, hR, hon⟩

theorem l19Open_any (w : World) (A : Option Addr) (cap : Nat) (bs : List Int) (hl : bs.length ≤ cap) (hc : cap ≤ maxLen) (hB : Bytes w w.heap.size A bs) : Calls Tryz.prog 46 #[.slice A bs.length cap] w fun e w' =>
    e = .returned (.pointer (some ⟨w.heap.size, 0, none⟩)) ∧ Rd w' w.heap.size 0 ∧ Ext w w' := by
  have hc' := hc
  unfold maxLen at hc
  have hR : ∀ (k : Nat) (c : Nat), k ≤ bs.length → k ≤ c → c ≤ maxLen → k ≤ 2000 → Rd (w.alloc (.cells #[.slice A k c, .int .i64 0] 111)) w.heap.size 0 := by
    intro k c h1 h2 h3 h4
    have hk : (bs.take k).length = k := by rw [List.length_take]; omega
    refine ⟨A, c, bs.take k, 0, ?_, by omega, h3, by omega, Nat.le_refl _, (hB.take k).ext ((Ext.refl w).alloc _)⟩
    rw [hk]
    exact heap_alloc_new w _
  by_cases h2 : 2000 < bs.length
  · have d : decide ((2000 : Int) < (bs.length : Int)) = true := decide_eq_true (by omega)
    have R := hR 2000 cap (by omega) (by omega) hc' (Nat.le_refl _)
    go_enter Tryz.func46, Tryz.ntmps46
    go_wp2_with fail
    go_ret
    exact ⟨rfl, R, (Ext.refl w).alloc _⟩
  · have d : decide ((2000 : Int) < (bs.length : Int)) = false := decide_eq_false (by omega)
    have R := hR bs.length cap (Nat.le_refl _) hl hc' (by omega)
    go_enter Tryz.func46, Tryz.ntmps46
    go_wp2_with fail
    go_ret
    exact ⟨rfl, R, (Ext.refl w).alloc _⟩
end Go.Proofs.YtolkohncmidpeaaGreatDoor

namespace Go.Proofs.YtolkohncmidpeaaGreatDoor
open Go.RowKit
set_option linter.unusedVariables false
theorem nums_of_row {w : World} {g : Nat} {cs : Array Value} {e : TypeId} {ns : List Int} (hb : w.heap[g]? = some (.cells cs e (0, 0))) (hc : cs.toList = ns.map (Value.int .i64)) : Nums w (some ⟨g, 0, none⟩) ns := by
  refine .inr ⟨g, 0, rfl, lt_of_blk hb, fun j hj => ?_⟩
  rw [cell_of_blk hb, ← Array.getElem?_toList, hc, Nat.zero_add, List.getElem?_map, List.getElem?_eq_getElem hj]
  rfl
theorem Rd.ext {w w' : World} {g m : Nat} (h : Rd w g m) (he : Ext w w') : Rd w' g m := by
  obtain ⟨A, cap, bs, p, hb, h1, h2, h3, h4, hB⟩ := h
  exact ⟨A, cap, bs, p, he.blk hb, h1, h2, h3, h4, hB.ext he⟩
theorem Rd.lt {w : World} {g m : Nat} (h : Rd w g m) : g < w.heap.size := by
  obtain ⟨A, cap, bs, p, hb, _⟩ := h
  exact lt_of_blk hb
theorem Rd.mono {w : World} {g m m' : Nat} (h : Rd w g m) (hm : m ≤ m') : Rd w g m' := by
  obtain ⟨A, cap, bs, p, hb, h1, h2, h3, h4, hB⟩ := h
  exact ⟨A, cap, bs, p, hb, h1, h2, h3, by omega, hB⟩
/-- A slice of ints that was built by append since W. -/
def GrowN (W w : World) (e : TypeId) (v : Value) (ns : List Int) : Prop := w.ownsRow W.heap.size e 1 v ns.length (ns.map (Value.int .i64))
theorem GrowN.nums {W w : World} {e : TypeId} {v : Value} {ns : List Int} (h : GrowN W w e v ns) : ∃ A cap, v = .slice A ns.length cap ∧ ns.length ≤ cap ∧ cap ≤ maxLen ∧ Nums w A ns := by
  have hc := fun g hg => h.cells (g := g) hg
  have hlt := h.lt
  rcases h.2 with ⟨rfl, h0⟩ | ⟨g, cap, cur, rfl, hb, hg, hn, hm, _⟩
  · obtain rfl : ns = [] := List.eq_nil_of_length_eq_zero h0
    exact ⟨none, 0, rfl, Nat.le_refl _, Nat.zero_le _, .inl rfl⟩
  · refine ⟨_, cap, rfl, hn, hm, .inr ⟨g, 0, rfl, lt_of_blk hg, fun j hj => ?_⟩⟩
    have := hc g rfl j (.int .i64 ns[j]) (by rw [List.getElem?_map, List.getElem?_eq_getElem hj]; rfl)
    rwa [Addr.add_lit] at this
theorem GrowN.only {W w w' : World} {e : TypeId} {v : Value} {ns : List Int} {L : List Nat} (h : GrowN W w e v ns) (ho : Only L w w') (hL : ∀ b, b ∈ L → b < W.heap.size) : GrowN W w' e v ns := by
  refine ⟨h.1, ?_⟩
  rcases h.2 with h | ⟨g, cap, cur, rfl, h1, h2, r⟩
  · exact .inl h
  · exact .inr ⟨g, cap, cur, rfl, h1, (ho.block g (lt_of_blk h2) (fun hm => by have := hL g hm; omega)).trans h2, r⟩
theorem Rd.grown {w w' : World} {g m : Nat} {row : Option Nat} (h : Rd w g m) (hg : w.grownBy w' row) (hr : ∀ k, row = some k → g < k) : Rd w' g m := by
  obtain ⟨A, cap, bs, p, hb, h1, h2, h3, h4, hB⟩ := h
  have hne : ∀ b, b ≤ g → some b ≠ row := fun b hb he => by have := hr b he.symm; omega
  exact ⟨A, cap, bs, p, (hg.block g (lt_of_blk hb) (hne g (Nat.le_refl _))).trans hb, h1, h2, h3, h4, hB.below hg.size (fun b hb hs => hg.block b hs (hne b (by omega)))⟩
theorem Only.grown {L : List Nat} {a w w' : World} {row : Option Nat} (h : Only L a w) (hg : w.grownBy w' row) (hr : ∀ k, row = some k → a.heap.size ≤ k) : Only L a w' :=
  ⟨hg.os.trans h.os, hg.tape.trans h.tape, hg.output.trans h.output, Nat.le_trans h.size hg.size, fun i hi hn => (hg.block i (Nat.lt_of_lt_of_le hi h.size) (fun he => by have := hr i he.symm; omega)).trans (h.block i hi hn)⟩
theorem l10Fun_any (w : World) (g m : Nat) (h : Rd w g m) (hm : m < 1125899906842624) : Calls Tryz.prog 61 #[.pointer (some ⟨g, 0, none⟩)] w fun e w' =>
    ∃ x : Int, e = .returned (.int .i64 x) ∧ Rd w' g (m + 1) ∧ Only [g] w w' := by
  have hlt := h.lt
  go_enter Tryz.func61, Tryz.ntmps61
  go_wp2_with fail
  refine (num_any _ g m (h.ext ((Ext.refl w).alloc _)) hm _ 10 [1, 2, 3, 4, 5, 6, 7, 0, 8, -1] (by simp) (by decide) (by simp) (nums_of_row (heap_alloc_new w _) rfl) (by intro b o hb; simp at hb; omega)).mono ?_
  rintro e w1 ⟨x, rfl, hx, hR, ho⟩
  go_wp2_with fail
  go_ret
  exact ⟨x, rfl, hR, ((Only.refl _ _).alloc _).trans ho⟩
end Go.Proofs.YtolkohncmidpeaaGreatDoor
namespace Go.Proofs.YtolkohncmidpeaaGreatDoor
open Go.RowKit
set_option linter.unusedVariables false
/-- Numbers in a block of the call's own. -/
def OwnI (w : World) (e : TypeId) (A : Option Addr) (ns : List Int) (L : List Nat) : Prop :=
  (ns = [] ∧ L = []) ∨ ∃ b cs, A = some ⟨b, 0, none⟩ ∧ w.heap[b]? = some (.cells cs e (0, 0)) ∧ ns.length ≤ cs.size ∧ cs.toList.take ns.length = ns.map (Value.int .i64) ∧ L = [b]
theorem OwnI.mono {w w' : World} {e : TypeId} {A : Option Addr} {ns : List Int} {L : List Nat} (h : OwnI w e A ns L) (hw : ∀ b, b ∈ L → w'.heap[b]? = w.heap[b]?) : OwnI w' e A ns L := by
  rcases h with h | ⟨b, cs, rfl, hb, h1, h2, rfl⟩
  · exact .inl h
  · exact .inr ⟨b, cs, rfl, (hw b (by simp)).trans hb, h1, h2, rfl⟩
theorem OwnI.nums {w : World} {e : TypeId} {A : Option Addr} {ns : List Int} {L : List Nat} (h : OwnI w e A ns L) : Nums w A ns := by
  rcases h with ⟨h, _⟩ | ⟨b, cs, rfl, hb, h1, h2, rfl⟩
  · exact .inl h
  · refine .inr ⟨b, 0, rfl, lt_of_blk hb, fun j hj => ?_⟩
    have h3 : (cs.toList.take ns.length)[j]? = some (.int .i64 ns[j]) := by rw [h2, List.getElem?_map, List.getElem?_eq_getElem hj]; rfl
    rw [List.getElem?_take, if_pos hj] at h3
    rw [cell_of_blk hb, ← Array.getElem?_toList, Nat.zero_add]
    exact h3
theorem GrowN.own {W w : World} {e : TypeId} {v : Value} {ns : List Int} (h : GrowN W w e v ns) : ∃ A cap L, v = .slice A ns.length cap ∧ ns.length ≤ cap ∧ cap ≤ maxLen ∧ OwnI w e A ns L ∧ Fresh W w L := by
  rcases h.2 with ⟨rfl, h0⟩ | ⟨g, cap, cur, rfl, hb, hg, hn, hm, hcs, ht⟩
  · obtain rfl : ns = [] := List.eq_nil_of_length_eq_zero h0
    exact ⟨none, 0, [], rfl, Nat.le_refl _, Nat.zero_le _, .inl ⟨rfl, rfl⟩, Fresh.nil _ _⟩
  · refine ⟨_, cap, [g], rfl, hn, hm, .inr ⟨g, cur, rfl, hg, by omega, by simpa using ht, rfl⟩, by simp, fun b hb' => ?_⟩
    obtain rfl := List.mem_singleton.1 hb'
    exact ⟨hb, lt_of_blk hg⟩
end Go.Proofs.YtolkohncmidpeaaGreatDoor
namespace Go.Proofs.YtolkohncmidpeaaGreatDoor
open Go.RowKit
set_option linter.unusedVariables false
theorem ownsRow_nums {w : World} {base : Nat} {e : TypeId} {v : Value} {ns : List Int} (hG : w.ownsRow base e 1 v ns.length (ns.map (Value.int .i64))) : ∃ B c, v = .slice B ns.length c ∧ ns.length ≤ c ∧ c ≤ maxLen ∧ Nums w B ns := by
  have hcl := fun g' hg' => hG.cells (g := g') hg'
  rcases hG.2 with ⟨rfl, h0⟩ | ⟨g', c', cur, rfl, hb', hg', hn', hm', _⟩
  · obtain rfl : ns = [] := List.eq_nil_of_length_eq_zero h0
    exact ⟨none, 0, rfl, Nat.le_refl _, Nat.zero_le _, .inl rfl⟩
  · refine ⟨_, c', rfl, hn', hm', .inr ⟨g', 0, rfl, lt_of_blk hg', fun jj hjj => ?_⟩⟩
    have := hcl g' rfl jj (.int .i64 ns[jj]) (by rw [List.getElem?_map, List.getElem?_eq_getElem hjj]; rfl)
    rwa [Addr.add_lit] at this
end Go.Proofs.YtolkohncmidpeaaGreatDoor

/-
  l10Fun, DrawFunValue: some function, some numbers.
-/
import Derived.Test.YtohmpjpjpgonpaaDraw
import Derived.Test.YtohmpjpjpgonpaaGrow
namespace Go.Proofs.Ytohmpjpjpgonpaa
open Go.RowKit
set_option linter.unusedVariables false

theorem nums_of_row {w : World} {g : Nat} {cs : Array Value} {e : TypeId} {ns : List Int} (hb : w.heap[g]? = some (.cells cs e (0, 0))) (hc : cs.toList = ns.map (Value.int .i64)) : Nums w (some ⟨g, 0, none⟩) ns := by
  refine .inr ⟨g, 0, rfl, lt_of_blk hb, fun j hj => ?_⟩
  rw [cell_of_blk hb, ← Array.getElem?_toList, hc, Nat.zero_add, List.getElem?_map, List.getElem?_eq_getElem hj]
  rfl
theorem Rd.ext {w w' : World} {g m : Nat} (h : Rd w g m) (he : Ext w w') : Rd w' g m := by
  obtain ⟨A, cap, bs, p, hb, h1, h2, h3, h4, hB⟩ := h
  exact ⟨A, cap, bs, p, he.blk hb, h1, h2, h3, h4, hB.ext he⟩
theorem Rd.lt {w : World} {g m : Nat} (h : Rd w g m) : g < w.heap.size := by
  obtain ⟨A, cap, bs, p, hb, _⟩ := h
  exact lt_of_blk hb
theorem Rd.mono {w : World} {g m m' : Nat} (h : Rd w g m) (hm : m ≤ m') : Rd w g m' := by
  obtain ⟨A, cap, bs, p, hb, h1, h2, h3, h4, hB⟩ := h
  exact ⟨A, cap, bs, p, hb, h1, h2, h3, by omega, hB⟩

/-- A slice of ints that was built by append since W. -/
def GrowN (W w : World) (e : TypeId) (v : Value) (ns : List Int) : Prop := w.ownsRow W.heap.size e 1 v ns.length (ns.map (Value.int .i64))
theorem GrowN.nums {W w : World} {e : TypeId} {v : Value} {ns : List Int} (h : GrowN W w e v ns) : ∃ A cap, v = .slice A ns.length cap ∧ ns.length ≤ cap ∧ cap ≤ maxLen ∧ Nums w A ns := by
  have hc := fun g hg => h.cells (g := g) hg
  have hlt := h.lt
  rcases h.2 with ⟨rfl, h0⟩ | ⟨g, cap, cur, rfl, hb, hg, hn, hm, _⟩
  · obtain rfl : ns = [] := List.eq_nil_of_length_eq_zero h0
    exact ⟨none, 0, rfl, Nat.le_refl _, Nat.zero_le _, .inl rfl⟩
  · refine ⟨_, cap, rfl, hn, hm, .inr ⟨g, 0, rfl, lt_of_blk hg, fun j hj => ?_⟩⟩
    have := hc g rfl j (.int .i64 ns[j]) (by rw [List.getElem?_map, List.getElem?_eq_getElem hj]; rfl)
    rwa [Addr.add_lit] at this
theorem GrowN.only {W w w' : World} {e : TypeId} {v : Value} {ns : List Int} {L : List Nat} (h : GrowN W w e v ns) (ho : Only L w w') (hL : ∀ b, b ∈ L → b < W.heap.size) : GrowN W w' e v ns := by
  refine ⟨h.1, ?_⟩
  rcases h.2 with h | ⟨g, cap, cur, rfl, h1, h2, r⟩
  · exact .inl h
  · exact .inr ⟨g, cap, cur, rfl, h1, (ho.block g (lt_of_blk h2) (fun hm => by have := hL g hm; omega)).trans h2, r⟩

theorem Rd.grown {w w' : World} {g m : Nat} {row : Option Nat} (h : Rd w g m) (hg : w.grownBy w' row) (hr : ∀ k, row = some k → g < k) : Rd w' g m := by
  obtain ⟨A, cap, bs, p, hb, h1, h2, h3, h4, hB⟩ := h
  have hne : ∀ b, b ≤ g → some b ≠ row := fun b hb he => by have := hr b he.symm; omega
  exact ⟨A, cap, bs, p, (hg.block g (lt_of_blk hb) (hne g (Nat.le_refl _))).trans hb, h1, h2, h3, h4, hB.below hg.size (fun b hb hs => hg.block b hs (hne b (by omega)))⟩
theorem Only.grown {L : List Nat} {a w w' : World} {row : Option Nat} (h : Only L a w) (hg : w.grownBy w' row) (hr : ∀ k, row = some k → a.heap.size ≤ k) : Only L a w' :=
  ⟨hg.os.trans h.os, hg.tape.trans h.tape, hg.output.trans h.output, Nat.le_trans h.size hg.size, fun i hi hn => (hg.block i (Nat.lt_of_lt_of_le hi h.size) (fun he => by have := hr i he.symm; omega)).trans (h.block i hi hn)⟩

theorem fits2 {f a b : Int} (hf : f = 1 ∨ f = 2 ∨ f = 4) (ha0 : 0 ≤ a) (ha1 : a ≤ 20) (hb0 : 0 ≤ b) (hb1 : b ≤ 20) : fits f [a, b] = true := by
  unfold fits arity
  rw [if_pos hf]
  simp [inR, ha0, ha1, hb0, hb1]
theorem fits1 {f a : Int} (hf : f = 3 ∨ f = 5 ∨ f = 6) (ha0 : 0 ≤ a) (ha1 : a ≤ 20) : fits f [a] = true := by
  unfold fits arity
  rw [if_neg (by omega), if_pos hf]
  simp [inR, ha0, ha1]
theorem funVal_plus {a b : Int} (ha0 : 0 ≤ a) (ha1 : a ≤ 20) (hb0 : 0 ≤ b) (hb1 : b ≤ 20) : funVal 1 [a, b] = (a + b, true) := by
  unfold funVal; rw [fits2 (.inl rfl) ha0 ha1 hb0 hb1]; rfl
theorem funVal_times {a b : Int} (ha0 : 0 ≤ a) (ha1 : a ≤ 20) (hb0 : 0 ≤ b) (hb1 : b ≤ 20) : funVal 2 [a, b] = (a * b, true) := by
  unfold funVal; rw [fits2 (.inr (.inl rfl)) ha0 ha1 hb0 hb1]; rfl
theorem funVal_minus {a b : Int} (ha0 : 0 ≤ a) (ha1 : a ≤ 20) (hb0 : 0 ≤ b) (hb1 : b ≤ 20) : funVal 4 [a, b] = (if a < b then 0 else a - b, true) := by
  unfold funVal; rw [fits2 (.inr (.inr rfl)) ha0 ha1 hb0 hb1]; rfl
theorem funVal_double {a : Int} (ha0 : 0 ≤ a) (ha1 : a ≤ 20) : funVal 6 [a] = (2 * a, true) := by
  unfold funVal; rw [fits1 (.inr (.inr rfl)) ha0 ha1]; rfl
theorem funVal_zero {a : Int} (ha0 : 0 ≤ a) (ha1 : a ≤ 20) : funVal 5 [a] = (if a = 0 then 1 else 0, true) := by
  unfold funVal; rw [fits1 (.inr (.inl rfl)) ha0 ha1]; rfl

theorem l10Fun_any (w : World) (g m : Nat) (h : Rd w g m) (hm : m < 1125899906842624) : Calls Try.prog 72 #[.pointer (some ⟨g, 0, none⟩)] w fun e w' =>
    ∃ x : Int, e = .returned (.int .i64 x) ∧ Rd w' g (m + 1) ∧ Only [g] w w' := by
  have hlt := h.lt
  go_enter Try.func72, Try.ntmps72
  go_wp2_with fail
  refine (num_any _ g m (h.ext ((Ext.refl w).alloc _)) hm _ 10 [1, 2, 3, 4, 5, 6, 7, 0, 8, -1] (by simp) (by decide) (by simp) (nums_of_row (heap_alloc_new w _) rfl) (by intro b o hb; simp at hb; omega)).mono ?_
  rintro e w1 ⟨x, rfl, hx, hR, ho⟩
  go_wp2_with fail
  go_ret
  exact ⟨x, rfl, hR, ((Only.refl _ _).alloc _).trans ho⟩

theorem infoInt : (Try.prog.info? 3).map (fun i => (i.zero, i.size, i.bytes)) = some (some (.int .i64 0), 1, 8) := by kernel_rfl

theorem drawFunValue_any (w : World) (A : Option Addr) (cap : Nat) (bs : List Int) (hl : bs.length ≤ cap) (hc : cap ≤ maxLen) (hB : Bytes w w.heap.size A bs) : Calls Try.prog 35 #[.slice A bs.length cap] w fun e w' =>
    ∃ (f : Int) (B : Option Addr) (c : Nat) (ns : List Int), e = .returned (.tuple #[.int .i64 f, .slice B ns.length c]) ∧ ns.length ≤ c ∧ c ≤ maxLen ∧ Nums w' B ns ∧ Ext w w' := by
  go_enter Try.func35, Try.ntmps35
  go_wp2_with fail
  refine (l19Open_any w A cap bs hl hc hB).mono ?_
  rintro e w1 ⟨rfl, hR, h1⟩
  go_wp2_with fail
  refine (l10Fun_any _ _ _ hR (by omega)).mono ?_
  rintro e w2 ⟨f, rfl, hR2, ho2⟩
  go_wp2_with fail
  refine (specArity f _).mono ?_
  rintro e w3 ⟨rfl, rfl⟩
  have har : arity f ≤ 2 ∧ -1 ≤ arity f := by unfold arity; split; · omega
                                              · split <;> omega
  have h3 : Ext w2 (w2.alloc (.cells #[] 3)) := (Ext.refl w2).alloc _
  have hO : GrowN w1 (w2.alloc (.cells #[] 3)) 3 (.slice (some ⟨w2.heap.size, 0, none⟩) 0 0) [] := World.ownsRow_lit (size := 1) w2 #[] 0 (by have := ho2.size; omega) (Nat.zero_le _) rfl
  have hR3 := hR2.ext h3
  have ho3 := ho2.trans (Only.of_ext (L := [w.heap.size]) h3)
  have hsz : w2.heap.size < (w2.alloc (.cells #[] 3)).heap.size := by simp
  have hlt0 := hR.lt
  generalize w2.alloc _ = w3 at hO hR3 ho3 h3 hsz
  go_wp2_with fail
  refine (pick_any _ _ _ 12 hR3 (by omega)).mono ?_
  rintro e w4 ⟨x, rfl, hx0, hx1, hR4, ho4⟩
  replace hO := hO.only ho4 (by intro b hb; simp at hb; omega)
  replace ho4 := ho3.trans ho4
  clear hR2 hR3 ho3 h3
  generalize arity f = a at har
  have hc1 := hO.nums
  obtain ⟨i0, hi, hz0, hz1, hz2⟩ := info_parts infoInt
  rcases (show (x == 0) = true ∨ (x == 0) = false from by cases (x == 0) <;> simp) with hd | hd
  all_goals go_wp2_with fail
  all_goals go_loopw [6, 8] (fun o i wr => ∃ ns : List Int, GrowN w1 wr 3 o ns ∧ i = .int .i64 ns.length ∧ ns.length ≤ 3 ∧ Rd wr w.heap.size (2 + ns.length) ∧ Only [w.heap.size] w1 wr) (fun _ i _ => 3 - (intOf i).toNat)
  case atStart => exact ⟨[], hO, rfl, by simp, hR4, ho4⟩
  case atStart => exact ⟨[], hO, rfl, by simp, hR4, ho4⟩
  case round =>
    obtain ⟨ns, hO, rfl, h3, hR, ho⟩ := hrel
    obtain ⟨B, c, rfl, hl1, hc1', hN⟩ := hO.nums
    have hs1 := ho.size
    by_cases hlt : (ns.length : Int) < a + 1
    · have d2 : decide ((ns.length : Int) < a + 1) = true := decide_eq_true hlt
      go_wp2_with fail
      have hx := (Ext.refl wr).alloc (.cells #[.int .i64 0, .int .i64 1, .int .i64 2, .int .i64 3, .int .i64 4, .int .i64 5, .int .i64 20, .int .i64 21, .int .i64 (-1), .int .i64 9223372036854775807] 3)
      refine (num_any _ w.heap.size (2 + ns.length) (hR.ext hx) (by omega) _ 10 [0, 1, 2, 3, 4, 5, 20, 21, -1, 9223372036854775807] (by simp) (by decide) (by simp) (nums_of_row (heap_alloc_new wr _) rfl) (by intro b o hb; simp at hb; omega)).mono ?_
      rintro e w5 ⟨y, rfl, hy, hR5, ho5⟩
      have ho6 := (Only.of_ext (L := [w.heap.size]) hx).trans ho5
      have hO5 := hO.only ho6 (by intro b hb; simp at hb; omega)
      have hs6 := ho6.size
      have hy : ∀ u ∈ [Value.int .i64 y], u.oneCell' = true := by intro u hu; simp at hu; subst hu; rfl
      have hcell : ∀ j u, [Value.int .i64 y][j]? = some u → (w5.alloc (.cells #[.int .i64 y] 3)).cell? ((⟨w5.heap.size, 0, none⟩ : Addr).add j) = some u := by
        intro j u hu
        rw [Addr.add_lit, Nat.zero_add, cell_of_blk (heap_alloc_new w5 _)]
        simpa using hu
      have hGa : (w5.alloc (.cells #[.int .i64 y] 3)).ownsRow w1.heap.size 3 1 (.slice B ns.length c) ns.length (ns.map (Value.int .i64)) := World.ownsRow.alloc hO5 _
      go_wp2_with (at_builtin; refine wpList_append_own _ rfl (.tmp 26) (.tmp 30) 42 rfl w1.heap.size 3 i0 (.int .i64 0) 1 8 Try.underlying42 hi hz0 hz1 hz2 rfl (by decide) (.slice B ns.length c) ns.length (ns.map (Value.int .i64)) rfl hGa ⟨w5.heap.size, 0, none⟩ 1 1 [.int .i64 y] rfl rfl hcell hy (by unfold maxLen; omega) (by omega) (by simp; omega) ?_)
      intro v' w6 hO6 hg6 _
      have hlt6 := fun k hk => (hGa.lt k hk).1
      have hg1 := hR.lt
      have hR6 : Rd w6 w.heap.size (2 + (ns.length + 1)) := (hR5.ext ((Ext.refl _).alloc _)).grown hg6 (fun k hk => by have := hlt6 k hk; omega)
      have ho7 := ((ho.trans ho6).alloc (.cells #[.int .i64 y] 3)).grown hg6 hlt6
      have hO7 : GrowN w1 w6 3 v' (ns ++ [y]) := by unfold GrowN; simpa using hO6
      clear hGa hcell hy hO6
      go_wp2_with fail
      go_roundw
      case rel => exact ⟨ns ++ [y], hO7, by simp, by simp; omega, by simpa using hR6, ho7⟩
      case measure => simp [intOf]; omega
    · have d2 : decide ((ns.length : Int) < a + 1) = false := decide_eq_false hlt
      go_wp2_with fail
      go_ret2
      exact ⟨f, B, c, ns, rfl, hl1, hc1', hN, ho.ext h1 (by intro b hb; simp at hb; omega)⟩
  case round =>
    obtain ⟨ns, hO, rfl, h3, hR, ho⟩ := hrel
    obtain ⟨B, c, rfl, hl1, hc1', hN⟩ := hO.nums
    have hs1 := ho.size
    by_cases hlt : (ns.length : Int) < a
    · have d2 : decide ((ns.length : Int) < a) = true := decide_eq_true hlt
      go_wp2_with fail
      have hx := (Ext.refl wr).alloc (.cells #[.int .i64 0, .int .i64 1, .int .i64 2, .int .i64 3, .int .i64 4, .int .i64 5, .int .i64 20, .int .i64 21, .int .i64 (-1), .int .i64 9223372036854775807] 3)
      refine (num_any _ w.heap.size (2 + ns.length) (hR.ext hx) (by omega) _ 10 [0, 1, 2, 3, 4, 5, 20, 21, -1, 9223372036854775807] (by simp) (by decide) (by simp) (nums_of_row (heap_alloc_new wr _) rfl) (by intro b o hb; simp at hb; omega)).mono ?_
      rintro e w5 ⟨y, rfl, hy, hR5, ho5⟩
      have ho6 := (Only.of_ext (L := [w.heap.size]) hx).trans ho5
      have hO5 := hO.only ho6 (by intro b hb; simp at hb; omega)
      have hs6 := ho6.size
      have hy : ∀ u ∈ [Value.int .i64 y], u.oneCell' = true := by intro u hu; simp at hu; subst hu; rfl
      have hcell : ∀ j u, [Value.int .i64 y][j]? = some u → (w5.alloc (.cells #[.int .i64 y] 3)).cell? ((⟨w5.heap.size, 0, none⟩ : Addr).add j) = some u := by
        intro j u hu
        rw [Addr.add_lit, Nat.zero_add, cell_of_blk (heap_alloc_new w5 _)]
        simpa using hu
      have hGa : (w5.alloc (.cells #[.int .i64 y] 3)).ownsRow w1.heap.size 3 1 (.slice B ns.length c) ns.length (ns.map (Value.int .i64)) := World.ownsRow.alloc hO5 _
      go_wp2_with (at_builtin; refine wpList_append_own _ rfl (.tmp 26) (.tmp 30) 42 rfl w1.heap.size 3 i0 (.int .i64 0) 1 8 Try.underlying42 hi hz0 hz1 hz2 rfl (by decide) (.slice B ns.length c) ns.length (ns.map (Value.int .i64)) rfl hGa ⟨w5.heap.size, 0, none⟩ 1 1 [.int .i64 y] rfl rfl hcell hy (by unfold maxLen; omega) (by omega) (by simp; omega) ?_)
      intro v' w6 hO6 hg6 _
      have hlt6 := fun k hk => (hGa.lt k hk).1
      have hg1 := hR.lt
      have hR6 : Rd w6 w.heap.size (2 + (ns.length + 1)) := (hR5.ext ((Ext.refl _).alloc _)).grown hg6 (fun k hk => by have := hlt6 k hk; omega)
      have ho7 := ((ho.trans ho6).alloc (.cells #[.int .i64 y] 3)).grown hg6 hlt6
      have hO7 : GrowN w1 w6 3 v' (ns ++ [y]) := by unfold GrowN; simpa using hO6
      clear hGa hcell hy hO6
      go_wp2_with fail
      go_roundw
      case rel => exact ⟨ns ++ [y], hO7, by simp, by simp; omega, by simpa using hR6, ho7⟩
      case measure => simp [intOf]; omega
    · have d2 : decide ((ns.length : Int) < a) = false := decide_eq_false hlt
      go_wp2_with fail
      go_ret2
      exact ⟨f, B, c, ns, rfl, hl1, hc1', hN, ho.ext h1 (by intro b hb; simp at hb; omega)⟩
end Go.Proofs.Ytohmpjpjpgonpaa

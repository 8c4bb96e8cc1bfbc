/-
  Lemmas towards the law, 17: Walked, Node, SpExtract.
-/
import Derived.Test.YtappakllopkfiaaKAB
import Derived.Test.YtappakllopkfiaaKAD
import Derived.Test.YtappakllopkfiaaKAG
import Derived.Test.YtappakllopkfiaaKAI
import Derived.Test.YtappakllopkfiaaKAL
import Derived.Test.YtappakllopkfiaaKAN
import Derived.Test.YtappakllopkfiaaKAP
import Derived.Deep.RegionHeld3
import Derived.Outline
import Derived.Test.YtappakllopkfiaaProg
namespace Go.Proofs.Ytappakllopkfiaa
open Go.RowKit
set_option linter.unusedVariables false
attribute [local go_sem ↓] Go.wp_at_zero Go.wp_at_succ
/-- v is a slice of trees that was built by append since W; the trees' rows are older than W. -/
def GrowO (W w : World) (e : TypeId) (v : Value) (ks : List Tr) : Prop := ∃ xs, w.ownsRow W.heap.size e 3 v ks.length xs ∧ RowL w (fun b => b < W.heap.size) xs ks
theorem GrowO.nil (W w : World) (e : TypeId) : GrowO W w e (.slice none 0 0) [] := ⟨[], World.ownsRow_nil _ _ _ _, RowL.nil⟩
theorem GrowO.ext {W w w' : World} {e : TypeId} {v : Value} {ks : List Tr} (h : GrowO W w e v ks) (hW : W.heap.size ≤ w.heap.size) (he : Ext w w') : GrowO W w' e v ks := by
  obtain ⟨xs, h1, h2⟩ := h
  exact ⟨xs, ownsRow_same h1 (fun g hg => he.heap g (h1.lt g hg).2), h2.mono (fun _ h => h) (fun b hb => he.heap b (Nat.lt_of_lt_of_le hb hW))⟩
theorem GrowO.set {W w : World} {e : TypeId} {v : Value} {ks : List Tr} (h : GrowO W w e v ks) {p : Addr} (hp : v.ownBlock ≠ some p.block) (hW : W.heap.size ≤ p.block) (u : Value) : GrowO W (w.setCell p u) e v ks := by
  obtain ⟨xs, h1, h2⟩ := h
  exact ⟨xs, ownsRow_same h1 (fun g hg => Below.heap_setCell w p u g (fun e => hp (by rw [← e]; exact hg))), h2.mono (fun _ h => h) (fun b hb => Below.heap_setCell w p u b (by omega))⟩
theorem GrowO.form {W w : World} {e : TypeId} {v : Value} {ks : List Tr} (h : GrowO W w e v ks) : ∃ B c, v = .slice B ks.length c := by
  obtain ⟨xs, h1, h2⟩ := h
  rcases h1.2 with ⟨rfl, h0⟩ | ⟨g, cap, cur, rfl, _⟩
  · exact ⟨none, 0, by rw [h0]⟩
  · exact ⟨_, cap, rfl⟩
theorem GrowO.lt {W w : World} {e : TypeId} {v : Value} {ks : List Tr} (h : GrowO W w e v ks) {g : Nat} (hg : v.ownBlock = some g) : W.heap.size ≤ g ∧ g < w.heap.size := by
  obtain ⟨xs, h1, h2⟩ := h
  exact h1.lt g hg
theorem wpList_append_old {P : Program} (w : World) {ops : Array Oper} {rest : List Oper} {o : Oper} {a : Act} {Q : Exit → Act → World → Prop} (hgd : o.guard = none) (s x : Operand) (t : TypeId)
    (ho : o.op = .call { callee := .builtin .append, args := #[s, x], argTypes := #[t, t] })
    (e : TypeId) (i : TypeInfo) (z : Value) (ht : P.underlying t = some (.slice e)) (hi : P.info? e = some i) (hz : i.zero = some z) (hsize : i.size = 3) (hby : i.bytes = 40) (hzs : z.cells.size = 3)
    {W : World} {v : Value} {ks : List Tr} {tr : Tr} {v0 v1 v2 : Value} {gx : Nat} (hs : a.eval s = v) (hG : GrowO W w e v ks) (hW : W.heap.size ≤ w.heap.size)
    (hT : InT w (fun b => b < W.heap.size) tr (.agg #[v0, v1, v2]))
    (hx : a.eval x = .slice (some ⟨gx, 0, none⟩) 1 1) (hgx : w.heap[gx]? = some (.cells #[v0, v1, v2] e (0, 0))) (hn : ks.length < 1099511627776)
    (h : ∀ v' w', GrowO W w' e v' (ks ++ [tr]) → w.grownBy w' v.ownBlock → (∀ g, v'.ownBlock = some g → v.ownBlock = some g ∨ w.heap.size ≤ g) → wpList P ops Q rest (a.put o.dst v') w') : wpList P ops Q (o :: rest) a w := by
  refine wpList_plain hgd fun K hK => ?_
  obtain ⟨xs, h1, h2⟩ := hG
  obtain ⟨v', w', hr, r1, r2, r3⟩ := run_append_own' (P := P) w W.heap.size t o.type e i z 3 40 ht hi hz hsize hby hzs (by decide) v ks.length xs h1 ⟨gx, 0, none⟩ 1 1 [v0, v1, v2] rfl (row3_cells hgx) (inT_oneCell hT) (by unfold maxLen; omega) (by omega) hW
  have hw : ∀ b, b < W.heap.size → w'.heap[b]? = w.heap[b]? := fun b hb => r2.block b (Nat.lt_of_lt_of_le hb hW) (fun he => by have := (h1.lt b he.symm).1; omega)
  have hG' : GrowO W w' e v' (ks ++ [tr]) := ⟨_, by simpa using r1, RowL.snoc (hT.mono (fun _ h => h) hw) [] h1.1 (h2.mono (fun _ h => h) hw)⟩
  unfold Oper.wp execOp
  simp only [ho, resolve, invoke, builtin, Sem.run_bind, Sem.run_pure, Result.andThen_ok, List.map_toArray, List.map_cons, List.map_nil, hs, hx, hr]
  exact hK _ _ (h v' w' hG' r2 r3)
theorem infoTermW : (Try.prog.info? 44).map (fun i => (i.zero, i.size, i.bytes)) = some (some (.agg #[.int .i64 0, .int .i64 0, .slice none 0 0]), 3, 40) := by kernel_rfl
/-- A tree whose rows are older than block B, stored into a box of its own. -/
theorem atT_step {k n i : Int} {ks : List Tr} {q : List Int} : atT (.mk k n ks) (i :: q) = if 0 ≤ i ∧ i < ks.length then atT (kd ks i.toNat) q else none := by rw [atT]
theorem bndT_step {k n i : Int} {ks : List Tr} {q : List Int} : bndT (.mk k n ks) (i :: q) = if 0 ≤ i ∧ i < ks.length then (if 0 < und k i.toNat then [kd ks 0] else []) ++ bndT (kd ks i.toNat) q else [] := by rw [bndT]
set_option maxRecDepth 100000 in
set_option maxHeartbeats 4000000 in
theorem walked_any (t : Tr) (d : Int) (hsh : shape sigT t d = true) (hd : d ≤ 1000) (path : List Int) (w : World) (v : Value) (hin : Lies w t v) (A : Option Addr) (cap : Nat) (hl : path.length ≤ cap) (hc : cap ≤ maxLen) (hP : Nums w A path) :
    Calls Try.prog 93 #[v, .slice A path.length cap] w fun e w' => ∃ x ar, e = .returned (.tuple #[x, ar, .bool (atT t path).isSome]) ∧ Lies w' ((atT t path).getD dflt0) x ∧ ((atT t path).isSome = true → GrowO w w' 44 ar (bndT t path)) ∧ ((atT t path).isSome = false → ar = .slice none 0 0) ∧ Ext w w' := by
  obtain ⟨k, n, ks⟩ := t
  obtain ⟨At, ct, rfl, hlt, hct, hKt⟩ := Lies.mk_iff.1 hin
  obtain ⟨i0, hi, hz0, hz1, hz2⟩ := info_parts infoTermW
  have hcc := hc
  unfold maxLen at hcc
  have hct' := hct
  unfold maxLen at hct'
  have hx0 := ((Ext.refl w).alloc (.cells #[.int .i64 k, .int .i64 n, .slice At ks.length ct] 44)).alloc (.cells #[.int .i64 0, .int .i64 0, .slice none 0 0] 44)
  obtain ⟨hb0, hb1, hs0⟩ := blk2 (Ext.refl ((w.alloc (.cells #[.int .i64 k, .int .i64 n, .slice At ks.length ct] 44)).alloc (.cells #[.int .i64 0, .int .i64 0, .slice none 0 0] 44)))
  clear hin
  go_enter Try.func93, Try.ntmps93
  go_wp2_with fail
  generalize World.alloc (World.alloc w _) _ = wS at hx0 hb0 hb1 hs0 ⊢
  go_loopw [7, 12] (fun a i wr => ∃ (j : Nat) (k' n' : Int) (kids : List Tr) (A' : Option Addr) (c' : Nat) (d' : Int) (acc : List Tr) (B : Option Addr) (l c : Nat), j ≤ path.length ∧ i = .int .i64 j ∧ a = .slice B l c ∧ GrowO w wr 44 (.slice B l c) acc ∧ acc.length ≤ j ∧ (Value.slice B l c).ownBlock ≠ some w.heap.size ∧ (Value.slice B l c).ownBlock ≠ some (w.heap.size + 1) ∧
    Hid (atT (.mk k n ks) path = atT (.mk k' n' kids) (path.drop j)) ∧ Hid (bndT (.mk k n ks) path = acc ++ bndT (.mk k' n' kids) (path.drop j)) ∧ shape sigT (.mk k' n' kids) d' = true ∧ d' + j ≤ 1000 ∧ kids.length ≤ c' ∧ c' ≤ maxLen ∧ LiesK w A' kids ∧
    wr.heap[w.heap.size]? = some (.cells #[.int .i64 k', .int .i64 n', .slice A' kids.length c'] 44 (0, 0)) ∧ wr.heap[w.heap.size + 1]? = some (.cells #[.int .i64 0, .int .i64 0, .slice none 0 0] 44 (0, 0)) ∧ Ext w wr) (fun _ i _ => path.length - (intOf i).toNat)
  case atStart => exact ⟨0, k, n, ks, At, ct, d, [], none, 0, 0, Nat.zero_le _, rfl, rfl, GrowO.nil _ _ _, Nat.zero_le _, by simp [Value.ownBlock], by simp [Value.ownBlock], Lib.hid rfl, Lib.hid rfl, hsh, by simpa using hd, hlt, hct, hKt, hb0, hb1, hx0⟩
  case round =>
    obtain ⟨j, k', n', kids, A', c', d', acc, B, l, c, hj, rfl, rfl, hG, hal, ho0, ho1, HA, HB, hsh', hd', hkl, hkc, hK, hb, hbR, hx⟩ := hrel
    have hsz : w.heap.size + 1 < wr.heap.size := lt_of_blk hbR
    have hdp := shape_pos' hsh'
    by_cases hlj : j < path.length
    · obtain ⟨bp, op, rfl, cp⟩ := hP.get hx hlj
      have hdr : path.drop j = path[j] :: path.drop (j + 1) := List.drop_eq_getElem_cons hlj
      have HA1 := Lib.hid (HA.out.trans (by rw [hdr, atT_step]))
      have HB1 := Lib.hid (HB.out.trans (by rw [hdr, bndT_step]))
      clear HA HB hdr
      generalize path[j] = i at cp HA1 HB1
      have hj2 : (j : Int) < (path.length : Int) := by omega
      obtain ⟨hops, -, -, hsk⟩ := shape_kids hsh'
      obtain ⟨z0, z1, z2, f0, f1, f2⟩ := own3 hb
      obtain ⟨y0, y1, y2, g0, g1, g2⟩ := own3 hbR
      have hkc' := hkc
      unfold maxLen at hkc'
      have HWI := Lib.hid (within_any i 0 ((kids.length : Int) - 1))
      have hir : inR i 0 ((kids.length : Int) - 1) = decide (0 ≤ i ∧ i < (kids.length : Int)) := by
        unfold inR
        rw [← Bool.decide_and]
        exact decide_eq_decide.2 (by omega)
      by_cases hi2 : 0 ≤ i ∧ i < (kids.length : Int)
      · rw [decide_eq_true hi2] at hir
        rw [hir] at HWI
        rw [if_pos hi2] at HA1 HB1
        clear hir
        obtain ⟨m, rfl⟩ := Int.eq_ofNat_of_zero_le hi2.1
        have hm : m < kids.length := by omega
        have e0 : ((m : Int)).toNat = m := by omega
        have HA2 := Lib.hid (show atT (.mk k n ks) path = atT (kd kids m) (path.drop (j + 1)) by have := HA1.out; rwa [e0] at this)
        have HB2 := Lib.hid (show bndT (.mk k n ks) path = acc ++ ((if 0 < und k' m then [kd kids 0] else []) ++ bndT (kd kids m) (path.drop (j + 1))) by have := HB1.out; rwa [e0] at this)
        clear HA1 HB1 e0
        obtain ⟨b, o, k2, n2, A2, c2, kids2, rfl, HK, e0, e1, e2, hkl2, hkc2, hK2, hin2, hmem⟩ := hK.get (Ext.refl w) hm
        have hkd : kd kids m = .mk k2 n2 kids2 := kd_of hm HK.out
        have hsk2 := hsk _ hmem
        rw [hkd] at HA2 HB2
        have hm2 : (m : Int) < (kids.length : Int) := hi2.2
        have d0 := hx.cell e0
        have d1 := hx.cell e1
        have d2 := hx.cell e2
        have hwl : w.heap.size < wr.heap.size := by omega
        obtain ⟨uu, hu⟩ : ∃ u, und k' m = u := ⟨_, rfl⟩
        have HU := Lib.hid (fun W => under_any k' m W)
        rw [hu] at HU HB2
        have E0 := Lib.hid e0
        have E1 := Lib.hid e1
        have E2 := Lib.hid e2
        clear hkd hu HK hmem hi2 e0 e1 e2
        by_cases hu0 : 0 < uu
        · have hdu : decide (0 < uu) = true := decide_eq_true hu0
          rw [if_pos hu0] at HB2
          have h0k : 0 < kids.length := by omega
          obtain ⟨b3, o3, k3, n3, A3, c3, kids3, hbo, HK3, p0, p1, p2, -, -, -, hin3, -⟩ := hK.get (Ext.refl w) h0k
          simp only [Option.some.injEq, Addr.mk.injEq, and_true] at hbo
          obtain ⟨rfl, rfl⟩ := hbo
          simp only [Nat.zero_mul, Nat.add_zero] at p0 p1 p2
          have q0 := hx.cell p0
          have q1 := hx.cell p1
          have q2 := hx.cell p2
          have hkd3 : kd kids 0 = .mk k3 n3 kids3 := kd_of h0k HK3.out
          rw [hkd3] at HB2
          have h0i : (0 : Int) < (kids.length : Int) := by omega
          have hT3 : InT wr (fun b => b < w.heap.size) (.mk k3 n3 kids3) (.agg #[.int .i64 k3, .int .i64 n3, .slice A3 kids3.length c3]) := InT.mono (fun _ h => h) (fun x hx' => hx.heap x hx') hin3
          have hx7 := (Ext.refl wr).alloc (.cells #[.int .i64 k3, .int .i64 n3, .slice A3 kids3.length c3] 44)
          have hT7 : InT (wr.alloc (.cells #[.int .i64 k3, .int .i64 n3, .slice A3 kids3.length c3] 44)) (fun b => b < w.heap.size) (.mk k3 n3 kids3) (.agg #[.int .i64 k3, .int .i64 n3, .slice A3 kids3.length c3]) := InT.mono (fun _ h => h) (fun x hx' => hx7.heap x (by omega)) hT3
          have hG7 := hG.ext hx.size hx7
          clear p0 p1 p2 HK3 hkd3 hin3 hT3
          go_wp2_with (first | (go_at_call 65; refine (HWI.out _).mono ?_; rintro e w1 ⟨rfl, rfl⟩) | (go_at_call 151; refine (HU.out _).mono ?_; rintro e w1 ⟨rfl, rfl⟩) | (at_builtin; refine wpList_append_old _ rfl (.tmp 29) (.tmp 34) 42 rfl 44 i0 _ Try.underlying42 hi hz0 hz1 hz2 rfl rfl hG7 (by simp; omega) hT7 rfl (heap_alloc_new _ _) (by omega) ?_))
          intro v6 w6 hG6 hg6 ho6
          have ho60 : v6.ownBlock ≠ some w.heap.size := fun h => by
            rcases ho6 _ h with h | h
            · exact ho0 h
            · first | omega | (simp at h; omega)
          have ho61 : v6.ownBlock ≠ some (w.heap.size + 1) := fun h => by
            rcases ho6 _ h with h | h
            · exact ho1 h
            · first | omega | (simp at h; omega)
          have hbx := (hg6.block w.heap.size (by simp; omega) (fun h => ho0 h.symm)).trans (hx7.blk hb)
          have hbRx := (hg6.block (w.heap.size + 1) (by simp; omega) (fun h => ho1 h.symm)).trans (hx7.blk hbR)
          have hx6 : Ext w w6 := (hx.trans hx7).grown hg6 (fun g hg => (hG.lt hg).1)
          obtain ⟨B6, c6, rfl⟩ := hG6.form
          obtain ⟨l6, hl6⟩ : ∃ l, (acc ++ [Tr.mk k3 n3 kids3]).length = l := ⟨_, rfl⟩
          have hal6 : (acc ++ [Tr.mk k3 n3 kids3]).length ≤ j + 1 := by simp; omega
          rw [hl6] at hG6 ho60 ho61 ⊢
          have hsz6 : w.heap.size + 1 < w6.heap.size := lt_of_blk hbRx
          have HG6 := Lib.hid hG6
          clear hG6 hg6 ho6 hG7 hT7 hx7 z0 z1 z2 f0 f1 f2 y0 y1 y2 g0 g1 g2 d0 d1 d2 q0 q1 q2 hG hb hbR cp hl6
          obtain ⟨z0, z1, z2, f0, f1, f2⟩ := own3 hbx
          have d0 := hx6.cell E0.out
          have d1 := hx6.cell E1.out
          have d2 := hx6.cell E2.out
          have hwl6 : w.heap.size < w6.heap.size := by omega
          go_wp2_with fail
          go_roundw
          case rel => exact ⟨j + 1, k2, n2, kids2, A2, c2, d' - 1, _, B6, l6, c6, by omega, by go_num, rfl, ((HG6.out.set ho60 (by simp) _).set ho60 (by simp) _).set ho60 (by simp) _, hal6, ho60, ho61, HA2, Lib.hid (by rw [HB2.out, List.append_assoc]), hsk2, by omega, hkl2, hkc2, hK2, blk_setCell (blk_setCell (blk_setCell hbx 0 _) 1 _) 2 _, blk_setCell_ne (blk_setCell_ne (blk_setCell_ne hbRx (by simp) _) (by simp) _) (by simp) _, ((hx6.setCell (by simp) _).setCell (by simp) _).setCell (by simp) _⟩
          case measure => simp [intOf]; omega
        · have hdu : decide (0 < uu) = false := decide_eq_false hu0
          rw [if_neg hu0, List.nil_append] at HB2
          have HG6 := Lib.hid hG
          clear hG
          go_wp2_with (first | (go_at_call 65; refine (HWI.out _).mono ?_; rintro e w1 ⟨rfl, rfl⟩) | (go_at_call 151; refine (HU.out _).mono ?_; rintro e w1 ⟨rfl, rfl⟩))
          go_roundw
          case rel => exact ⟨j + 1, k2, n2, kids2, A2, c2, d' - 1, acc, B, l, c, by omega, by go_num, rfl, ((HG6.out.set ho0 (by simp) _).set ho0 (by simp) _).set ho0 (by simp) _, by omega, ho0, ho1, HA2, HB2, hsk2, by omega, hkl2, hkc2, hK2, blk_setCell (blk_setCell (blk_setCell hb 0 _) 1 _) 2 _, blk_setCell_ne (blk_setCell_ne (blk_setCell_ne hbR (by simp) _) (by simp) _) (by simp) _, ((hx.setCell (by simp) _).setCell (by simp) _).setCell (by simp) _⟩
          case measure => simp [intOf]; omega
      · rw [decide_eq_false hi2] at hir
        rw [hir] at HWI
        rw [if_neg hi2] at HA1
        clear hir HB1
        go_wp2_with (go_at_call 65; refine (HWI.out _).mono ?_; rintro e w1 ⟨rfl, rfl⟩)
        refine bodyPost_ret (v := .tuple #[.agg #[.int .i64 0, .int .i64 0, .slice none 0 0], .slice none 0 0, .bool false]) (by simp [results, Try.results93, go_sem, y0, y1, y2]) rfl ⟨_, _, by rw [HA1.out]; rfl, ?_, ?_, ?_, ?_⟩
        · rw [HA1.out]; exact Lies.leaf _ _ _
        · rw [HA1.out]; intro h; cases h
        · intro _; rfl
        · exact ((hx.setCell (by simp) _).setCell (by simp) _).setCell (by simp) _
    · have hd0 : path.drop j = [] := List.drop_of_length_le (by omega)
      have HA1 := Lib.hid (show atT (.mk k n ks) path = some (.mk k' n' kids) by rw [HA.out, hd0]; rfl)
      have HB1 := Lib.hid (show bndT (.mk k n ks) path = acc by rw [HB.out, hd0]; simp [bndT])
      obtain ⟨z0, z1, z2, f0, f1, f2⟩ := own3 hb
      obtain ⟨y0, y1, y2, g0, g1, g2⟩ := own3 hbR
      have HG6 := Lib.hid hG
      have hwl : w.heap.size < wr.heap.size := by omega
      clear HA HB hG hd0
      go_wp2_with fail
      refine bodyPost_ret (v := .tuple #[.agg #[.int .i64 k', .int .i64 n', .slice A' kids.length c'], .slice B l c, .bool true]) (by simp [results, Try.results93, go_sem, y0, y1, y2]) rfl ⟨_, _, by rw [HA1.out]; rfl, ?_, ?_, ?_, ?_⟩
      · rw [HA1.out]
        exact Lies.mk hkl hkc (hK.ext (((hx.setCell (by simp) _).setCell (by simp) _).setCell (by simp) _))
      · intro _
        rw [HB1.out]
        exact ((HG6.out.set ho1 (by simp) _).set ho1 (by simp) _).set ho1 (by simp) _
      · rw [HA1.out]; intro h; cases h
      · exact ((hx.setCell (by simp) _).setCell (by simp) _).setCell (by simp) _
end Go.Proofs.Ytappakllopkfiaa
namespace Go.Proofs.Ytappakllopkfiaa
open Go.RowKit
set_option linter.unusedVariables false
/-- The blocks of S, and those that came into being between w and w'. -/
def Plus (S : Nat → Prop) (w w' : World) (b : Nat) : Prop := S b ∨ w.heap.size ≤ b ∧ b < w'.heap.size
/-- A tree all whose rows came into being between w and w'. -/
def New (w w' : World) (t : Tr) (v : Value) : Prop := InT w' (fun b => w.heap.size ≤ b ∧ b < w'.heap.size) t v
theorem New.lies {w w' : World} {t : Tr} {v : Value} (h : New w w' t v) : Lies w' t v := h.mono (fun _ hb => hb.2) (fun _ _ => rfl)
theorem New.ext {w w' w2 : World} {t : Tr} {v : Value} (h : New w w' t v) (he : Ext w' w2) : New w w2 t v := h.mono (fun b hb => ⟨hb.1, Nat.lt_of_lt_of_le hb.2 he.size⟩) (fun b hb => he.heap b hb.2)
theorem New.since {a w w' : World} {t : Tr} {v : Value} (h : New w w' t v) (ha : a.heap.size ≤ w.heap.size) : New a w' t v := h.mono (fun b hb => ⟨Nat.le_trans ha hb.1, hb.2⟩) (fun _ _ => rfl)
theorem New.after {w w1 w2 : World} {t : Tr} {v : Value} (h : New w w1 t v) (ha : Above w.heap.size w1 w2) : New w w2 t v := h.mono (fun b hb => ⟨hb.1, Nat.lt_of_lt_of_le hb.2 ha.2⟩) (fun b hb => ha.1 b hb.1)
theorem New.leaf (w w' : World) (k n : Int) : New w w' (.mk k n []) (.agg #[.int .i64 k, .int .i64 n, .slice none 0 0]) := InT.mk_iff.2 ⟨none, 0, rfl, Nat.le_refl _, Nat.zero_le _, .inl rfl⟩
theorem InK.one {w : World} {S : Nat → Prop} {e : TypeId} {t : Tr} {v0 v1 v2 : Value} {g : Nat} (h : InT w S t (.agg #[v0, v1, v2])) (hg : w.heap[g]? = some (.cells #[v0, v1, v2] e (0, 0))) (hS : S g) : InK w S (some ⟨g, 0, none⟩) [t] := by
  refine .inr ⟨g, 0, rfl, hS, ?_⟩
  unfold InL
  refine ⟨⟨v0, v1, v2, cell_of_blk hg 0, cell_of_blk hg 1, cell_of_blk hg 2, h⟩, ?_⟩
  unfold InL
  trivial
/-- One tree made: a row of its own. -/
theorem MadeK.one {W wr w1 w : World} {e : TypeId} {t : Tr} {v0 v1 v2 : Value} {g : Nat} (hM : Made wr w1 e t (.agg #[v0, v1, v2])) (hE1 : wr.heap.size ≤ w1.heap.size) (hE : Ext w1 w) (hg : w.heap[g]? = some (.cells #[v0, v1, v2] e (0, 0))) (hgs : w1.heap.size ≤ g) (hW : W.heap.size ≤ wr.heap.size) : MadeK W w e (some ⟨g, 0, none⟩) [t] := by
  obtain ⟨L, h, hf⟩ := hM
  refine ⟨g :: L, .inr ⟨g, _, L, rfl, hg, rfl, OwnL.cons_iff.2 ⟨v0, v1, v2, [], L, [], rfl, h.mono fun b hb => hE.heap b (hf.2 b hb).2, OwnL.nil, by simp⟩⟩, List.nodup_cons.2 ⟨fun hm => ?_, hf.1⟩, fun b hm => ?_⟩
  · have := (hf.2 g hm).2
    omega
  · have := hE.size
    rcases List.mem_cons.1 hm with rfl | hm
    · exact ⟨by omega, lt_of_blk hg⟩
    · have := hf.2 b hm
      omega
theorem node_any (w : World) (k : Int) (A : Option Addr) (len cap : Nat) : Calls Try.prog 125 #[.int .i64 k, .slice A len cap] w fun e w' => e = .returned (.agg #[.int .i64 k, .int .i64 0, .slice A len cap]) ∧ Ext w w' := by
  go_enter Try.func125, Try.ntmps125
  go_wp2_with fail
  exact bodyPost_ret (v := .agg #[.int .i64 k, .int .i64 0, .slice A len cap]) (by simp [results, Try.results125, go_sem]) rfl ⟨rfl, (Ext.refl w).alloc _⟩
theorem l1Leaf_any (w : World) (k n : Int) : Calls Try.prog 144 #[.int .i64 k, .int .i64 n] w fun e w' => e = .returned (.agg #[.int .i64 k, .int .i64 n, .slice none 0 0]) ∧ Ext w w' := by
  go_enter Try.func144, Try.ntmps144
  go_wp2_with fail
  exact bodyPost_ret (v := .agg #[.int .i64 k, .int .i64 n, .slice none 0 0]) (by simp [results, Try.results144, go_sem]) rfl ⟨rfl, (Ext.refl w).alloc _⟩
theorem infoNTerm : (Try.prog.info? 44).map (fun i => (i.zero, i.size, i.bytes)) = some (some (.agg #[.int .i64 0, .int .i64 0, .slice none 0 0]), 3, 40) := by kernel_rfl
theorem l1Node_any (w : World) (k : Int) (A : Option Addr) (cap : Nat) (ks : List Tr) (hA : A = none → cap = 0) (S : Nat → Prop) (hS : ∀ b, S b → b < w.heap.size) (hK : InK w S A ks) (hn : ks.length ≤ 1099511627776) :
    Calls Try.prog 126 #[.int .i64 k, .slice A ks.length cap] w fun e w' => ∃ u, e = .returned u ∧ InT w' (Plus S w w') (.mk k 0 ks) u ∧ Ext w w' := by
  obtain ⟨i0, hi, hz0, hz1, hz2⟩ := info_parts infoNTerm
  have hK' : InK (w.alloc (.cells #[.int .i64 0, .int .i64 0, .slice none 0 0] 44)) S A ks := InK.mono (fun _ h => h) (fun b hb => Below.heap_alloc w _ b (hS b hb)) hK
  go_enter Try.func126, Try.ntmps126
  go_wp2_with (at_builtin; refine wpList_append_copy _ rfl (.tmp 6) (.tmp 7) 42 rfl 44 i0 _ Try.underlying42 hi hz0 hz1 hz2 rfl (W := w.alloc (.cells #[.int .i64 0, .int .i64 0, .slice none 0 0] 44)) (v := .slice (some ⟨w.heap.size + 1, 0, none⟩) 0 0) (A := A) (cap := cap) (ks := ks) rfl ?ow ((Ext.refl _).alloc _) rfl hA ?hS hK' hn ?_)
  case ow => simpa using World.ownsRow_lit (base := w.heap.size + 1) (e := 44) (size := 3) (w.alloc (.cells #[.int .i64 0, .int .i64 0, .slice none 0 0] 44)) #[] 0 (by simp) (Nat.zero_le _) rfl
  case hS => intro b hb; have := hS b hb; simp; omega
  intro B c' w2 hB hc1 hc2 hE _
  have hb := blk1 hE
  obtain ⟨r0, r1, r2, p0, p1, p2⟩ := own3 hb.1
  have hEs := hE.pre
  have hlt := hb.2
  clear hi hz0 hz1 hz2 hK' hb
  go_wp2_with fail
  refine bodyPost_ret (v := .agg #[.int .i64 k, .int .i64 0, .slice B ks.length c']) (by simp [results, Try.results126, go_sem, r0, r1, r2]) rfl ⟨_, rfl, InT.mk_iff.2 ⟨_, _, rfl, hc1, hc2, hB.mono ?_ ?_⟩, ?_⟩
  · intro b hb
    unfold Plus
    rw [World.size_setCell, World.size_setCell, World.size_setCell]
    rcases hb with hb | hb
    · exact .inl hb
    · have := hb.1
      exact .inr ⟨by omega, hb.2⟩
  · intro b hb
    have hne : b ≠ w.heap.size := by
      rcases hb with hb | hb
      · have := hS b hb
        omega
      · have := hb.1
        omega
    rw [Below.heap_setCell _ _ _ _ hne, Below.heap_setCell _ _ _ _ hne, Below.heap_setCell _ _ _ _ hne]
  · exact ((hEs.setCell (Nat.le_refl _) _).setCell (Nat.le_refl _) _).setCell (Nat.le_refl _) _
/-- The three cells of a made tree. -/
theorem Made.three {w w' : World} {e : TypeId} {t : Tr} {u : Value} (h : Made w w' e t u) : ∃ k n A l c, u = .agg #[.int .i64 k, .int .i64 n, .slice A l c] := by
  obtain ⟨k, n, ks⟩ := t
  obtain ⟨A, cap, rfl, _⟩ := Made.mk_iff.1 h
  exact ⟨k, n, A, _, cap, rfl⟩
theorem Lies.three {w : World} {t : Tr} {u : Value} (h : Lies w t u) : ∃ k n A l c, u = .agg #[.int .i64 k, .int .i64 n, .slice A l c] := by
  obtain ⟨k, n, ks⟩ := t
  obtain ⟨A, cap, rfl, _⟩ := Lies.mk_iff.1 h
  exact ⟨k, n, A, _, cap, rfl⟩
end Go.Proofs.Ytappakllopkfiaa
namespace Go.Proofs.Ytappakllopkfiaa
open Go.RowKit
set_option linter.unusedVariables false
theorem InK.two {w : World} {S : Nat → Prop} {e : TypeId} {t t' : Tr} {v0 v1 v2 u0 u1 u2 : Value} {g : Nat} (h : InT w S t (.agg #[v0, v1, v2])) (h' : InT w S t' (.agg #[u0, u1, u2])) (hg : w.heap[g]? = some (.cells #[v0, v1, v2, u0, u1, u2] e (0, 0))) (hS : S g) : InK w S (some ⟨g, 0, none⟩) [t, t'] := by
  refine .inr ⟨g, 0, rfl, hS, ?_⟩
  unfold InL
  refine ⟨⟨v0, v1, v2, cell_of_blk hg 0, cell_of_blk hg 1, cell_of_blk hg 2, h⟩, ?_⟩
  unfold InL
  refine ⟨⟨u0, u1, u2, cell_of_blk hg 3, cell_of_blk hg 4, cell_of_blk hg 5, h'⟩, ?_⟩
  unfold InL
  trivial
theorem InK.three {w : World} {S : Nat → Prop} {e : TypeId} {t t' t2 : Tr} {v0 v1 v2 u0 u1 u2 x0 x1 x2 : Value} {g : Nat} (h : InT w S t (.agg #[v0, v1, v2])) (h' : InT w S t' (.agg #[u0, u1, u2])) (h2 : InT w S t2 (.agg #[x0, x1, x2])) (hg : w.heap[g]? = some (.cells #[v0, v1, v2, u0, u1, u2, x0, x1, x2] e (0, 0))) (hS : S g) : InK w S (some ⟨g, 0, none⟩) [t, t', t2] := by
  refine .inr ⟨g, 0, rfl, hS, ?_⟩
  unfold InL
  refine ⟨⟨v0, v1, v2, cell_of_blk hg 0, cell_of_blk hg 1, cell_of_blk hg 2, h⟩, ?_⟩
  unfold InL
  refine ⟨⟨u0, u1, u2, cell_of_blk hg 3, cell_of_blk hg 4, cell_of_blk hg 5, h'⟩, ?_⟩
  unfold InL
  refine ⟨⟨x0, x1, x2, cell_of_blk hg 6, cell_of_blk hg 7, cell_of_blk hg 8, h2⟩, ?_⟩
  unfold InL
  trivial
theorem InT.three {w : World} {S : Nat → Prop} {t : Tr} {u : Value} (h : InT w S t u) : ∃ k n A l c, u = .agg #[.int .i64 k, .int .i64 n, .slice A l c] := by
  obtain ⟨k, n, ks⟩ := t
  obtain ⟨A, cap, rfl, _⟩ := InT.mk_iff.1 h
  exact ⟨k, n, A, _, cap, rfl⟩
/-- What came into being since W, in a later world. -/
theorem New.to {W w w1 w2 : World} {t : Tr} {v : Value} (h : New w w1 t v) (he : Ext w1 w2) (hW : W.heap.size ≤ w.heap.size) {S : Nat → Prop} (hS : ∀ b, W.heap.size ≤ b → b < w1.heap.size → S b) : InT w2 S t v :=
  h.mono (fun b hb => hS b (Nat.le_trans hW hb.1) hb.2) (fun b hb => he.heap b hb.2)
end Go.Proofs.Ytappakllopkfiaa

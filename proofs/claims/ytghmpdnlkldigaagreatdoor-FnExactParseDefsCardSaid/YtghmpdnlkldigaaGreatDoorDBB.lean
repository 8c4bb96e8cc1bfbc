/-
  Lemmas towards the law, 28: DefKit.
-/
import Derived.Test.YtghmpdnlkldigaaGreatDoorDAC
import Derived.Test.YtghmpdnlkldigaaGreatDoorDAY
import Derived.Test.YtghmpdnlkldigaaGreatDoorDAZ
import Derived.Test.YtghmpdnlkldigaaGreatDoorDBA
import Derived.Outline
import Derived.StillTailTactics
import Derived.Test.YtghmpdnlkldigaaGreatDoorProg
namespace Go.Proofs.YtghmpdnlkldigaaGreatDoor
open Go.RowKit
set_option linter.unusedVariables false
theorem OwnL.append {w : World} {e : TypeId} {ys : List Value} {ts : List Tr} {M : List Nat} (ht : OwnL w e ys ts M) : ∀ {xs : List Value} {ks : List Tr} {L : List Nat}, xs.length = ks.length * 3 → OwnL w e xs ks L → OwnL w e (xs ++ ys) (ks ++ ts) (L ++ M)
  | xs, [], L, hx, h => by
    have hx0 : xs = [] := List.eq_nil_of_length_eq_zero (by simpa using hx)
    subst hx0
    unfold OwnL at h
    subst h
    simpa using ht
  | xs, x :: ks, L, hx, h => by
    obtain ⟨u0, u1, u2, rest, L1, L2, rfl, h1, h2, rfl⟩ := OwnL.cons_iff.1 h
    exact OwnL.cons_iff.2 ⟨u0, u1, u2, _, L1, L2 ++ M, rfl, h1, OwnL.append ht (by simp only [List.length_cons] at hx; omega) h2, by simp⟩
/-- The cells of some trees, in a row or not, made between two worlds. -/
def MadeL (w w' : World) (e : TypeId) (xs : List Value) (ks : List Tr) : Prop := ∃ L, OwnL w' e xs ks L ∧ Fresh w w' L
theorem MadeL.two {a b c d : World} {e : TypeId} {t1 t2 : Tr} {x0 x1 x2 y0 y1 y2 : Value} (h1 : Made a b e t1 (.agg #[x0, x1, x2])) (h2 : Made c d e t2 (.agg #[y0, y1, y2])) (hbc : Ext b c) (hab : a.heap.size ≤ b.heap.size) (hcd : Ext c d) : MadeL a d e [x0, x1, x2, y0, y1, y2] [t1, t2] := by
  obtain ⟨L, h1, f1⟩ := h1
  obtain ⟨M, h2, f2⟩ := h2
  exact ⟨L ++ (M ++ []), OwnL.cons_iff.2 ⟨x0, x1, x2, [y0, y1, y2], L, M ++ [], rfl, h1.mono (fun b hb => (hbc.trans hcd).heap b (f1.2 b hb).2), OwnL.cons_iff.2 ⟨y0, y1, y2, [], M, [], rfl, h2, OwnL.nil, rfl⟩, rfl⟩, by simpa using f1.append f2 hbc.size hab hcd.size⟩
theorem MadeL.after {W w1 w3 : World} {e : TypeId} {xs : List Value} {ks : List Tr} (h : MadeL W w1 e xs ks) (ha : Above W.heap.size w1 w3) : MadeL W w3 e xs ks := by
  obtain ⟨L, h, hf⟩ := h
  exact ⟨L, h.mono fun b hb => ha.1 b (hf.2 b hb).1, hf.mono (Nat.le_refl _) ha.2⟩
theorem MadeL.since {a w w' : World} {e : TypeId} {xs : List Value} {ks : List Tr} (h : MadeL w w' e xs ks) (ha : a.heap.size ≤ w.heap.size) : MadeL a w' e xs ks := by
  obtain ⟨L, h, hf⟩ := h
  exact ⟨L, h, hf.mono ha (Nat.le_refl _)⟩
def OwnD (w : World) (e eT : TypeId) (A : Option Addr) (ks : List Tr) (L : List Nat) : Prop :=
  (ks = [] ∧ L = []) ∨ ∃ b cs L', A = some ⟨b, 0, none⟩ ∧ w.heap[b]? = some (.cells cs e (0, 0)) ∧ L = b :: L' ∧ OwnL w eT cs.toList ks L'
/-- A slice of definitions that was made between w and w'. -/
def MadeD (w w' : World) (e eT : TypeId) (A : Option Addr) (ks : List Tr) : Prop := ∃ L, OwnD w' e eT A ks L ∧ Fresh w w' L
theorem OwnL.inL' {w : World} {e e' : TypeId} {b : Nat} {cs : Array Value} {S : Nat → Prop} (hb : w.heap[b]? = some (.cells cs e' (0, 0))) : ∀ {xs pre : List Value} {ks : List Tr} {L : List Nat}, OwnL w e xs ks L → cs.toList = pre ++ xs → (∀ x, x ∈ L → S x) → InL w S b pre.length ks
  | _, _, [], _, _, _, _ => by unfold InL; trivial
  | xs, pre, t :: ts, L, h, he, hS => by
    obtain ⟨v0, v1, v2, rest, L1, L2, rfl, h1, h2, rfl⟩ := OwnL.cons_iff.1 h
    unfold InL
    have hc : ∀ i, w.cell? ⟨b, i, none⟩ = cs.toList[i]? := fun i => by rw [cell_of_blk hb]; simp
    refine ⟨⟨v0, v1, v2, ?_, ?_, ?_, InT.mono (fun x hx => hS x (by simp [hx])) (fun _ _ => rfl) (OwnT.inT h1)⟩, ?_⟩
    · rw [hc, he, List.getElem?_append_right (Nat.le_refl _)]; simp
    · rw [hc, he, List.getElem?_append_right (by omega)]; simp
    · rw [hc, he, List.getElem?_append_right (by omega)]; simp
    · have := OwnL.inL' hb (pre := pre ++ [v0, v1, v2]) h2 (by simp [he]) (fun x hx => hS x (by simp [hx]))
      simpa using this
theorem MadeD.lies {w w' : World} {e eT : TypeId} {A : Option Addr} {ks : List Tr} (h : MadeD w w' e eT A ks) : LiesK w' A ks := by
  obtain ⟨L, h, hf⟩ := h
  rcases h with ⟨rfl, _⟩ | ⟨b, cs, L', rfl, hb, rfl, hl⟩
  · exact .inl rfl
  · exact .inr ⟨b, 0, rfl, (hf.2 b (by simp)).2, OwnL.inL' hb (pre := []) hl rfl (fun x hx => (hf.2 x (by simp [hx])).2)⟩
theorem OwnD.mono {w w' : World} {e eT : TypeId} {A : Option Addr} {ks : List Tr} {L : List Nat} (h : OwnD w e eT A ks L) (hw : ∀ b, b ∈ L → w'.heap[b]? = w.heap[b]?) : OwnD w' e eT A ks L := by
  rcases h with h | ⟨b, cs, L', rfl, hb, rfl, hl⟩
  · exact .inl h
  · exact .inr ⟨b, cs, L', rfl, (hw b (by simp)).trans hb, rfl, hl.mono (fun x hx => hw x (by simp [hx]))⟩
theorem MadeD.ext {w w' w2 : World} {e eT : TypeId} {A : Option Addr} {ks : List Tr} (h : MadeD w w' e eT A ks) (he : Ext w' w2) : MadeD w w2 e eT A ks := by
  obtain ⟨L, h, hf⟩ := h
  refine ⟨L, ?_, hf.mono (Nat.le_refl _) he.size⟩
  rcases h with h | ⟨b, cs, L', rfl, hb, rfl, hl⟩
  · exact .inl h
  · exact .inr ⟨b, cs, L', rfl, he.blk hb, rfl, hl.mono (fun x hx => he.heap x (hf.2 x (by simp [hx])).2)⟩
theorem MadeD.row {w w1 w' : World} {e eT : TypeId} {g : Nat} {cs : Array Value} {ks : List Tr} {L : List Nat} (hb : w'.heap[g]? = some (.cells cs e (0, 0))) (hl : OwnL w' eT cs.toList ks L) (hf : Fresh w1 w' L) (hg : w.heap.size ≤ g) (hg1 : g < w1.heap.size) : MadeD w w' e eT (some ⟨g, 0, none⟩) ks := by
  refine ⟨g :: L, .inr ⟨g, cs, L, rfl, hb, rfl, hl⟩, List.nodup_cons.2 ⟨fun hm => ?_, hf.1⟩, fun b hm => ?_⟩
  · have := hf.2 g hm
    omega
  · rcases List.mem_cons.1 hm with rfl | hm
    · exact ⟨hg, lt_of_blk hb⟩
    · have := hf.2 b hm
      omega
theorem own6 {w : World} {g : Nat} {x0 x1 x2 x3 x4 x5 : Value} {e : TypeId} (hb : w.heap[g]? = some (.cells #[x0, x1, x2, x3, x4, x5] e (0, 0))) :
    (w.cell? ⟨g, 0, none⟩ = some x0 ∧ w.cell? ⟨g, 1, none⟩ = some x1 ∧ w.cell? ⟨g, 2, none⟩ = some x2 ∧ w.cell? ⟨g, 3, none⟩ = some x3 ∧ w.cell? ⟨g, 4, none⟩ = some x4 ∧ w.cell? ⟨g, 5, none⟩ = some x5) ∧
    w.frozen? ⟨g, 0, none⟩ = false ∧ w.frozen? ⟨g, 1, none⟩ = false ∧ w.frozen? ⟨g, 2, none⟩ = false ∧ w.frozen? ⟨g, 3, none⟩ = false ∧ w.frozen? ⟨g, 4, none⟩ = false ∧ w.frozen? ⟨g, 5, none⟩ = false :=
  ⟨⟨cell_of_blk hb 0, cell_of_blk hb 1, cell_of_blk hb 2, cell_of_blk hb 3, cell_of_blk hb 4, cell_of_blk hb 5⟩, frozen_of_blk hb 0, frozen_of_blk hb 1, frozen_of_blk hb 2, frozen_of_blk hb 3, frozen_of_blk hb 4, frozen_of_blk hb 5⟩
theorem eqDef_any (t1 t2 t3 t4 : Tr) (a1 a2 a3 b1 b2 b3 c1 c2 c3 d1 d2 d3 : Value) (w : World) (h1 : Lies w t1 (.agg #[a1, a2, a3])) (h2 : Lies w t2 (.agg #[b1, b2, b3])) (h3 : Lies w t3 (.agg #[c1, c2, c3])) (h4 : Lies w t4 (.agg #[d1, d2, d3])) :
    Calls Tryz.prog 48 #[.agg #[a1, a2, a3, b1, b2, b3], .agg #[c1, c2, c3, d1, d2, d3]] w fun e w' => e = .returned (.bool (eqTr t1 t3 && eqTr t2 t4)) ∧ Ext w w' := by
  have H1 := Lib.hid (fun W (hW : Ext w W) => eqTerm_any t1 W t3 _ _ (h1.ext hW) (h3.ext hW))
  have H2 := Lib.hid (fun W (hW : Ext w W) => eqTerm_any t2 W t4 _ _ (h2.ext hW) (h4.ext hW))
  obtain ⟨s1, hs1⟩ : ∃ s, eqTr t1 t3 = s := ⟨_, rfl⟩
  obtain ⟨s2, hs2⟩ : ∃ s, eqTr t2 t4 = s := ⟨_, rfl⟩
  rw [hs1] at H1 ⊢
  rw [hs2] at H2 ⊢
  clear hs1 hs2
  obtain ⟨k1, n1, ks1⟩ := t1
  obtain ⟨A1, p1, e1, -⟩ := Lies.mk_iff.1 h1
  obtain ⟨k2, n2, ks2⟩ := t2
  obtain ⟨A2, p2, e2, -⟩ := Lies.mk_iff.1 h2
  obtain ⟨k3, n3, ks3⟩ := t3
  obtain ⟨A3, p3, e3, -⟩ := Lies.mk_iff.1 h3
  obtain ⟨k4, n4, ks4⟩ := t4
  obtain ⟨A4, p4, e4, -⟩ := Lies.mk_iff.1 h4
  simp only [Value.agg.injEq, Array.mk.injEq, List.cons.injEq, and_true] at e1 e2 e3 e4
  obtain ⟨rfl, rfl, rfl⟩ := e1
  obtain ⟨rfl, rfl, rfl⟩ := e2
  obtain ⟨rfl, rfl, rfl⟩ := e3
  obtain ⟨rfl, rfl, rfl⟩ := e4
  clear h1 h2 h3 h4
  go_enter Tryz.func48, Tryz.ntmps48
  go_wp2_with fail
  have hx := ((Ext.refl w).alloc (.cells #[.int .i64 k1, .int .i64 n1, .slice A1 ks1.length p1, .int .i64 k2, .int .i64 n2, .slice A2 ks2.length p2] 64)).alloc (.cells #[.int .i64 k3, .int .i64 n3, .slice A3 ks3.length p3, .int .i64 k4, .int .i64 n4, .slice A4 ks4.length p4] 64)
  obtain ⟨b0, b1, hsz⟩ := blk2 (Ext.refl ((w.alloc (.cells #[.int .i64 k1, .int .i64 n1, .slice A1 ks1.length p1, .int .i64 k2, .int .i64 n2, .slice A2 ks2.length p2] 64)).alloc (.cells #[.int .i64 k3, .int .i64 n3, .slice A3 ks3.length p3, .int .i64 k4, .int .i64 n4, .slice A4 ks4.length p4] 64)))
  refine (H1.out _ hx).mono ?_
  rintro e w1 ⟨rfl, q1⟩
  obtain ⟨⟨r0, r1, r2, r3, r4, r5⟩, -⟩ := own6 (q1.blk b0)
  obtain ⟨⟨i0, i1, i2, i3, i4, i5⟩, -⟩ := own6 (q1.blk b1)
  cases s1 with
  | false =>
    go_wp2_with fail
    go_ret
    exact ⟨rfl, hx.trans q1⟩
  | true =>
    go_wp2_with fail
    refine (H2.out _ (hx.trans q1)).mono ?_
    rintro e w2 ⟨rfl, q2⟩
    cases s2 with
    | false =>
      go_wp2_with fail
      go_ret
      exact ⟨rfl, (hx.trans q1).trans q2⟩
    | true =>
      go_wp2_with fail
      go_ret
      exact ⟨rfl, (hx.trans q1).trans q2⟩
set_option maxRecDepth 100000 in
set_option maxHeartbeats 400000 in
theorem eqDefS_any (ks ks' : List Tr) (n n' : Nat) (w : World) (A A' : Option Addr) (cap cap' : Nat) (h : LiesK w A ks) (hn : ks.length = n * 2) (hl : n ≤ cap) (hc : cap ≤ maxLen) (h' : LiesK w A' ks') (hn' : ks'.length = n' * 2) (hl' : n' ≤ cap') (hc' : cap' ≤ maxLen) :
    Calls Tryz.prog 13 #[.slice A n cap, .slice A' n' cap'] w fun e w' => e = .returned (.bool (eqTs ks ks')) ∧ Ext w w' := by
  unfold maxLen at hc hc'
  by_cases h0 : n = n'
  · subst h0
    have hd : ((n : Int) != (n : Int)) = false := by simp
    go_enter Tryz.func13, Tryz.ntmps13
    go_wp2_with fail
    go_loopw [5] (fun i wr => ∃ j : Nat, j ≤ n ∧ i = .int .i64 j ∧ eqTs ks ks' = eqTs (ks.drop (j * 2)) (ks'.drop (j * 2)) ∧ Ext w wr) (fun i _ => n - (intOf i).toNat)
    case atStart => exact ⟨0, Nat.zero_le _, rfl, rfl, Ext.refl _⟩
    case round =>
      obtain ⟨j, hj, rfl, hsz, hb⟩ := hrel
      have HS := Lib.hid hsz
      clear hsz
      by_cases hlt : j < n
      · obtain ⟨b, o, k1, n1, A1, p1, kids1, k2, n2, A2, p2, kids2, rfl, hbw, HK1, HK2, ⟨c0, c1, c2, c3, c4, c5⟩, ⟨l1, m1, hK1, hin1, hmem1⟩, ⟨l2, m2, hK2, hin2, hmem2⟩⟩ := h.getD (j := j) hb (by omega)
        obtain ⟨b', o', k3, n3, A3, p3, kids3, k4, n4, A4, p4, kids4, rfl, hbw', HK3, HK4, ⟨d0, d1, d2, d3, d4, d5⟩, ⟨l3, m3, hK3, hin3, hmem3⟩, ⟨l4, m4, hK4, hin4, hmem4⟩⟩ := h'.getD (j := j) hb (by omega)
        have hj' : (j : Int) < (n : Int) := by omega
        have hstep : eqTs (ks.drop (j * 2)) (ks'.drop (j * 2)) = (eqTr (.mk k1 n1 kids1) (.mk k3 n3 kids3) && eqTr (.mk k2 n2 kids2) (.mk k4 n4 kids4) && eqTs (ks.drop ((j + 1) * 2)) (ks'.drop ((j + 1) * 2))) := by
          rw [List.drop_eq_getElem_cons (i := j * 2) (by omega), List.drop_eq_getElem_cons (i := j * 2 + 1) (by omega), List.drop_eq_getElem_cons (l := ks') (i := j * 2) (by omega), List.drop_eq_getElem_cons (l := ks') (i := j * 2 + 1) (by omega), HK1.out, HK2.out, HK3.out, HK4.out, show j * 2 + 1 + 1 = (j + 1) * 2 by omega]
          conv => lhs; unfold eqTs; rw [show ∀ a b : List Tr, ∀ s t : Tr, eqTs (s :: a) (t :: b) = (eqTr s t && eqTs a b) from fun _ _ _ _ => by conv => lhs; unfold eqTs]
          rw [Bool.and_assoc]
        have HST := Lib.hid hstep
        clear hstep
        go_wp2_with fail
        go_still_tail 8, (by kernel_rfl)
        change wpList _ _ _ _ _ wr.drew
        have HEQ := Lib.hid (eqDef_any _ _ _ _ _ _ _ _ _ _ _ _ _ _ _ _ wr.drew (hin1.ext (Ext.refl _).drew) (hin2.ext (Ext.refl _).drew) (hin3.ext (Ext.refl _).drew) (hin4.ext (Ext.refl _).drew))
        have hbd := hb.drew
        generalize wr.drew = w2 at HEQ hbd
        clear c0 c1 c2 c3 c4 c5 d0 d1 d2 d3 d4 d5
        generalize (eqTr (.mk k1 n1 kids1) (.mk k3 n3 kids3) && eqTr (.mk k2 n2 kids2) (.mk k4 n4 kids4)) = q at HST HEQ
        go_wp2_with fail
        refine HEQ.out.mono ?_
        rintro e w1 ⟨rfl, hb1⟩
        have hb2 := hbd.trans hb1
        cases q with
        | false =>
          go_wp2_with fail
          go_ret
          exact ⟨by rw [HS.out, HST.out]; rfl, hb2⟩
        | true =>
          go_wp2_with fail
          go_roundw
          case rel => exact ⟨j + 1, by omega, by go_num, by rw [HS.out, HST.out]; rfl, hb2⟩
          case measure => simp [intOf]; omega
      · go_wp2_with fail
        go_ret
        exact ⟨by rw [HS.out, List.drop_of_length_le (by omega), List.drop_of_length_le (by omega)]; rfl, hb⟩
  · have hd : ((n : Int) != (n' : Int)) = true := by rw [bne_iff_ne]; omega
    have e : eqTs ks ks' = false := by
      rw [Bool.eq_false_iff]
      intro he
      have := eqTs_len he
      omega
    have E := Lib.hid e
    clear e
    go_enter Tryz.func13, Tryz.ntmps13
    go_wp2_with fail
    go_ret
    exact ⟨by rw [E.out]; rfl, Ext.refl _⟩
theorem mark_one {wr w3 : World} {eD e : TypeId} {g i : Nat} {cs : Array Value} {pre post : List Value} {ps bs kids : List Tr} {a b m : Int} {A' : Option Addr} {cap' : Nat} {La Lt Lb L' : List Nat}
    (hblk : wr.heap[g]? = some (.cells cs eD (0, 0))) (hcs : cs.toList = pre ++ .int .i64 a :: .int .i64 b :: .slice A' kids.length cap' :: post) (hp : pre.length = i) (hpa : pre.length = ps.length * 3)
    (ha : OwnL wr e pre ps La) (hbb : OwnL wr e post bs Lb) (hl' : kids.length ≤ cap') (hcp' : cap' ≤ maxLen) (hK : OwnK wr e A' kids Lt) (hL : L' = La ++ (Lt ++ Lb)) (hnd : (g :: L').Nodup)
    (hK3 : OwnK w3 e A' (mkS kids (m + 2)) Lt) (hon3 : Only Lt ((wr.setCell ⟨g, i, none⟩ (.int .i64 m)).setCell ⟨g, i + 1, none⟩ (.int .i64 (m + 1))) w3) :
    ∃ cs2, w3.heap[g]? = some (.cells cs2 eD (0, 0)) ∧ OwnL w3 e cs2.toList (ps ++ mkT (.mk a b kids) m :: bs) L' ∧ Only (g :: L') wr w3 ∧ cs2.size = cs.size := by
  have hnd' := (List.nodup_cons.1 hnd)
  have hw2 : ((wr.setCell ⟨g, i, none⟩ (.int .i64 m)).setCell ⟨g, i + 1, none⟩ (.int .i64 (m + 1))).heap[g]? = some (.cells ((cs.setIfInBounds i (.int .i64 m)).setIfInBounds (i + 1) (.int .i64 (m + 1))) eD (0, 0)) := blk_setCell (blk_setCell hblk _ _) _ _
  have hon2 : Only (g :: L') wr ((wr.setCell ⟨g, i, none⟩ (.int .i64 m)).setCell ⟨g, i + 1, none⟩ (.int .i64 (m + 1))) := ((Only.refl _ _).setCell (by simp) _).setCell (by simp) _
  have hne2 : ∀ x, x ≠ g → ((wr.setCell ⟨g, i, none⟩ (.int .i64 m)).setCell ⟨g, i + 1, none⟩ (.int .i64 (m + 1))).heap[x]? = wr.heap[x]? := fun x hx => by rw [Below.heap_setCell _ _ _ _ hx, Below.heap_setCell _ _ _ _ hx]
  have hs2 : ((wr.setCell ⟨g, i, none⟩ (.int .i64 m)).setCell ⟨g, i + 1, none⟩ (.int .i64 (m + 1))).heap.size = wr.heap.size := by simp
  have hcl := set2_list cs i (.int .i64 m) (.int .i64 (m + 1)) _ _ pre _ hcs hp
  have hgl : ∀ x, x ∈ L' → x ≠ g := fun x hx e => hnd'.1 (e ▸ hx)
  have hsub : ∀ x, x ∈ Lt → x ∈ L' := fun x hx => by rw [hL]; simp [hx]
  have hndL := hL ▸ hnd'.2
  obtain ⟨hnda, hndr, hdab⟩ := List.nodup_append.1 hndL
  obtain ⟨hndt, hndb, hdtb⟩ := List.nodup_append.1 hndr
  refine ⟨_, (hon3.block g (lt_of_blk hw2) (fun hm => hgl g (hsub g hm) rfl)).trans hw2, ?_, hon2.trans (hon3.mono fun x hx => by simp [hsub x hx]), by simp⟩
  rw [hcl, hL]
  have hLa : ∀ x, x ∈ La → w3.heap[x]? = wr.heap[x]? := fun x hx =>
    (hon3.block x (by rw [hs2]; exact ha.lt x hx) (fun hm => hdab x hx x (by simp [hm]) rfl)).trans (hne2 x (hgl x (by rw [hL]; simp [hx])))
  have hLb : ∀ x, x ∈ Lb → w3.heap[x]? = wr.heap[x]? := fun x hx =>
    (hon3.block x (by rw [hs2]; exact hbb.lt x hx) (fun hm => hdtb x hm x hx rfl)).trans (hne2 x (hgl x (by rw [hL]; simp [hx])))
  have hjn := OwnL.join (t := mkT (.mk a b kids) m) (OwnT.mk_iff.2 ⟨A', cap', by rw [mkS_len], by rw [mkS_len]; exact hl', hcp', hK3⟩) (hbb.mono hLb) hpa (ha.mono hLa)
  simp only [mkT] at hjn ⊢
  exact hjn
set_option maxRecDepth 100000 in
set_option maxHeartbeats 1000000 in
theorem markDefS2_any (ks : List Tr) (n cap : Nat) (w : World) (A : Option Addr) (L : List Nat) (k : Int) (hO : OwnD w 64 36 A ks L) (hnd : L.Nodup) (hn : ks.length = n * 2) (hl : n ≤ cap) (hc : cap ≤ maxLen) (hk0 : 0 ≤ k) (hk1 : k + 2 * cnts ks ≤ 4611686018427387904) :
    Calls Tryz.prog 14 #[.slice A n cap, .int .i64 k] w fun e w' => e = .returned (.int .i64 (k + 2 * cnts ks)) ∧ Only L w w' ∧ OwnD w' 64 36 A (mkS ks k) L := by
  have hc' := hc
  unfold maxLen at hc'
  have hlen := len_le_cnts ks
  rcases hO with ⟨rfl, rfl⟩ | ⟨g, cs0, L', rfl, hb0, rfl, hO⟩
  · obtain rfl : n = 0 := by simp at hn; omega
    go_enter Tryz.func14, Tryz.ntmps14
    go_wp2_with fail
    refine wp_loop_rounds 1 ?_
    rw [rounds_succ]
    go_wp2_with fail
    go_ret
    exact ⟨by simp [cnts], Only.refl _ _, .inl ⟨by simp [mkS], rfl⟩⟩
  · have HB := Lib.hid hb0
    clear hb0
    go_enter Tryz.func14, Tryz.ntmps14
    go_wp2_with fail
    go_loopw [1, 5] (fun q i wr => ∃ (j : Nat) (cs : Array Value), j ≤ n ∧ i = .int .i64 j ∧ q = .int .i64 (k + 2 * cnts (ks.take (j * 2))) ∧ wr.heap[g]? = some (.cells cs 64 (0, 0)) ∧ OwnL wr 36 cs.toList (mkS (ks.take (j * 2)) k ++ ks.drop (j * 2)) L' ∧ Only (g :: L') w wr) (fun _ i _ => n - (intOf i).toNat)
    case atStart => exact ⟨0, cs0, Nat.zero_le _, rfl, by simp [cnts], HB.out, by simpa [mkS] using hO, Only.refl _ _⟩
    case round =>
      obtain ⟨j, cs, hj, rfl, rfl, hblk, hO, hon⟩ := hrel
      by_cases hlt : j < n
      · have hks := List.drop_eq_getElem_cons (show j * 2 < ks.length by omega)
        have hks2 := List.drop_eq_getElem_cons (show j * 2 + 1 < ks.length by omega)
        have hj' : (j : Int) < (n : Int) := by omega
        obtain ⟨t1, ht1⟩ : ∃ t, t = ks[j * 2] := ⟨_, rfl⟩
        obtain ⟨t2, ht2⟩ : ∃ t, t = ks[j * 2 + 1] := ⟨_, rfl⟩
        have htk : ks.take ((j + 1) * 2) = ks.take (j * 2) ++ [t1, t2] := by
          rw [ht1, ht2, show (j + 1) * 2 = j * 2 + 1 + 1 by omega, ← List.take_append_getElem (show j * 2 + 1 < ks.length by omega), ← List.take_append_getElem (show j * 2 < ks.length by omega), List.append_assoc]
          rfl
        rw [← ht1] at hks
        rw [← ht2] at hks2
        have hcn : cnts ks = cnts (ks.take (j * 2)) + (cnt t1 + (cnt t2 + cnts (ks.drop (j * 2 + 1 + 1)))) := by
          conv => lhs; rw [← List.take_append_drop (j * 2) ks, cnts_append, hks, hks2]
          simp only [cnts]
        rw [hks, hks2] at hO
        clear hks hks2 ht1 ht2
        obtain ⟨k1, n1, kids1⟩ := t1
        obtain ⟨k2, n2, kids2⟩ := t2
        obtain ⟨pre, v0, v1, v2, post, La, Lt, Lb, hcs, hpl, ha, ht, hbb, hL⟩ := hO.split
        have hpa := hpl
        rw [mkS_len, List.length_take, Nat.min_eq_left (by omega)] at hpl
        obtain ⟨A1, p1, hv, hl1, hcp1, hK1⟩ := OwnT.mk_iff.1 ht
        simp only [Value.agg.injEq, Array.mk.injEq, List.cons.injEq, and_true] at hv
        obtain ⟨rfl, rfl, rfl⟩ := hv
        have hce : ∀ x v, (Value.int .i64 k1 :: Value.int .i64 n1 :: Value.slice A1 kids1.length p1 :: post)[x]? = some v → wr.cell? ⟨g, j * 6 + x, none⟩ = some v := fun x v hv => by
          rw [cell_of_blk hblk, ← Array.getElem?_toList, hcs, List.getElem?_append_right (by omega), ← hv]
          congr 1
          omega
        have c0 := hce 0 _ rfl
        have c1 := hce 1 _ rfl
        have c2 := hce 2 _ rfl
        have f0 := frozen_of_blk hblk (j * 6)
        have f1 := frozen_of_blk hblk (j * 6 + 1)
        clear hce
        simp only [Nat.add_zero] at c0
        generalize hq : cnts (ks.take (j * 2)) = q at *
        have hkb : k + 2 * (q : Int) + 2 + 2 * cnts kids1 + 2 + 2 * cnts kids2 ≤ 4611686018427387904 := by simp only [cnt] at hcn; omega
        have HO1 := Lib.hid (fun (w3 : World) => mark_one (w3 := w3) (i := j * 6) (m := k + 2 * (q : Int)) hblk hcs (by omega) hpa ha hbb hl1 hcp1 hK1 hL hnd)
        have hgl : ∀ x, x ∈ L' → x ≠ g := fun x hx e => (List.nodup_cons.1 hnd).1 (e ▸ hx)
        have hsub : ∀ x, x ∈ Lt → x ∈ L' := fun x hx => by rw [hL]; simp [hx]
        have hndt := (List.nodup_append.1 (List.nodup_append.1 (hL ▸ (List.nodup_cons.1 hnd).2)).2.1).1
        have hKs := OwnK.mono (w' := ((wr.setCell ⟨g, j * 6, none⟩ (.int .i64 (k + 2 * (q : Int)))).setCell ⟨g, j * 6 + 1, none⟩ (.int .i64 (k + 2 * (q : Int) + 1)))) hK1 fun x hx => by rw [Below.heap_setCell _ _ _ _ (hgl x (hsub x hx)), Below.heap_setCell _ _ _ _ (hgl x (hsub x hx))]
        have HQ := Lib.hid hq
        have HN := Lib.hid hcn
        have HT := Lib.hid htk
        clear hblk hL hcs hpl hcn htk hpa hlen hq hO ht hbb ha hK1
        go_wp2_with fail
        refine (markTermS_any (.mk k1 n1 kids1) _ A1 p1 Lt (k + 2 * (q : Int) + 1 + 1) hKs hndt hl1 hcp1 (by omega) (by simp only [Tr.kids]; omega)).mono ?_
        rintro e w3 ⟨rfl, hK3, hon3⟩
        simp only [Tr.kids] at hK3
        rw [show k + 2 * (q : Int) + 1 + 1 = k + 2 * (q : Int) + 2 by omega] at hK3
        obtain ⟨cs2, hblk2, hO2, hon2, -⟩ := HO1.out w3 hK3 hon3
        have hassoc : mkS (ks.take (j * 2)) k ++ mkT (.mk k1 n1 kids1) (k + 2 * (q : Int)) :: .mk k2 n2 kids2 :: ks.drop (j * 2 + 1 + 1) = (mkS (ks.take (j * 2)) k ++ [mkT (.mk k1 n1 kids1) (k + 2 * (q : Int))]) ++ .mk k2 n2 kids2 :: ks.drop (j * 2 + 1 + 1) := by simp
        rw [hassoc] at hO2
        clear hassoc HO1 hK3 hon3 hKs c0 c1 c2 f0 f1 hndt hsub
        obtain ⟨pre2, v0, v1, v2, post2, La2, Lt2, Lb2, hcs, hpl, ha, ht, hbb, hL⟩ := hO2.split
        have hpa := hpl
        rw [List.length_append, mkS_len, List.length_take, Nat.min_eq_left (by omega), List.length_singleton] at hpl
        obtain ⟨A2, p2, hv, hl2, hcp2, hK2⟩ := OwnT.mk_iff.1 ht
        simp only [Value.agg.injEq, Array.mk.injEq, List.cons.injEq, and_true] at hv
        obtain ⟨rfl, rfl, rfl⟩ := hv
        have hce : ∀ x v, (Value.int .i64 k2 :: Value.int .i64 n2 :: Value.slice A2 kids2.length p2 :: post2)[x]? = some v → w3.cell? ⟨g, j * 6 + 3 + x, none⟩ = some v := fun x v hv => by
          rw [cell_of_blk hblk2, ← Array.getElem?_toList, hcs, List.getElem?_append_right (by omega), ← hv]
          congr 1
          omega
        have c3 := hce 0 _ rfl
        have c4 := hce 1 _ rfl
        have c5 := hce 2 _ rfl
        simp only [Nat.add_zero, Nat.add_assoc, Nat.reduceAdd] at c3 c4 c5
        have f3 := frozen_of_blk hblk2 (j * 6 + 3)
        have f4 := frozen_of_blk hblk2 (j * 6 + 4)
        clear hce
        have HO2 := Lib.hid (fun (w4 : World) => mark_one (w3 := w4) (i := j * 6 + 3) (m := k + 2 * (q : Int) + 2 + 2 * (cnts kids1 : Int)) hblk2 hcs (by omega) hpa ha hbb hl2 hcp2 hK2 hL hnd)
        have hsub : ∀ x, x ∈ Lt2 → x ∈ L' := fun x hx => by rw [hL]; simp [hx]
        have hndt := (List.nodup_append.1 (List.nodup_append.1 (hL ▸ (List.nodup_cons.1 hnd).2)).2.1).1
        have hKs := fun (u v : Value) => OwnK.mono (w' := ((w3.setCell ⟨g, j * 6 + 3, none⟩ u).setCell ⟨g, j * 6 + 3 + 1, none⟩ v)) hK2 fun x hx => by rw [Below.heap_setCell _ _ _ _ (hgl x (hsub x hx)), Below.heap_setCell _ _ _ _ (hgl x (hsub x hx))]
        clear hblk2 hL hcs hpl hpa hO2 ht hbb ha hK2 hsub
        simp only [Tr.kids]
        go_wp2_with fail
        refine (markTermS_any (.mk k2 n2 kids2) _ A2 p2 Lt2 (k + 2 * (q : Int) + 1 + 1 + 2 * (cnts kids1 : Int) + 1 + 1) (hKs _ _) hndt hl2 hcp2 (by omega) (by simp only [Tr.kids]; omega)).mono ?_
        rintro e w4 ⟨rfl, hK3, hon3⟩
        simp only [Tr.kids] at hK3
        have ea : k + 2 * (q : Int) + 1 + 1 + 2 * (cnts kids1 : Int) = k + 2 * (q : Int) + 2 + 2 * (cnts kids1 : Int) := by omega
        rw [ea] at hon3 hK3
        rw [show k + 2 * (q : Int) + 2 + 2 * (cnts kids1 : Int) + 1 + 1 = k + 2 * (q : Int) + 2 + 2 * (cnts kids1 : Int) + 2 by omega] at hK3
        obtain ⟨cs3, hblk3, hO3, hon4, -⟩ := HO2.out w4 hK3 hon3
        clear hon3 hK3 hKs c3 c4 c5 f3 f4 ea
        simp only [Tr.kids]
        go_wp2_with fail
        go_roundw
        case rel =>
          refine ⟨j + 1, cs3, by omega, by go_num, ?_, hblk3, ?_, (hon.trans hon2).trans hon4⟩
          · rw [HT.out, cnts_append, HQ.out]
            simp only [cnts, cnt]
            congr 1
            omega
          · rw [HT.out, mkS_append, HQ.out, show (j + 1) * 2 = j * 2 + 1 + 1 by omega]
            simp only [mkS, cnt]
            rw [show k + 2 * (q : Int) + 2 * ((cnts kids1 + 1 : Nat) : Int) = k + 2 * (q : Int) + 2 + 2 * (cnts kids1 : Int) by omega]
            rw [List.append_assoc] at hO3 ⊢
            exact hO3
        case measure => simp [intOf]; omega
      · go_wp2_with fail
        go_ret
        have hjk : j = n := by omega
        subst hjk
        rw [List.take_of_length_le (by omega)]
        rw [List.take_of_length_le (by omega), List.drop_of_length_le (by omega), List.append_nil] at hO
        exact ⟨rfl, hon, .inr ⟨g, cs, L', rfl, hblk, rfl, hO⟩⟩
end Go.Proofs.YtghmpdnlkldigaaGreatDoor

/-
  Lemmas towards the law, 18: Own, Fvs, Ints, SpExtract, Parse2, ExShape, Sub, Ints2.
-/
import Derived.Test.YtdkamgafpphdjaaEAQ
import Derived.Laws.Concat
import Derived.Laws.IdiomStrings
import Derived.Laws.Strings2
namespace Go.Proofs.Ytdkamgafpphdjaa
open Go.RowKit
set_option linter.unusedVariables false
attribute [local go_sem ↓] Go.wp_at_zero Go.wp_at_succ
def ownC (t : Tr) : Prop := ∀ (w : World) (v : Value), Lies w t v → cnt t ≤ 1000000 →
  Calls Try.prog 73 #[v] w fun e w' => ∃ u, e = .returned u ∧ Made w w' 27 t u ∧ Ext w w'
theorem infoOTerm : (Try.prog.info? 27).map (fun i => (i.zero, i.size, i.bytes)) = some (some (.agg #[.int .i64 0, .int .i64 0, .slice none 0 0]), 3, 40) := by kernel_rfl
set_option maxRecDepth 100000 in
set_option maxHeartbeats 2000000 in
theorem own_any : ∀ t : Tr, ownC t := Tr.ind fun k n ks hk => by
  intro w v hin hcnt
  obtain ⟨A, cap, rfl, hl, hc, hK⟩ := Lies.mk_iff.1 hin
  obtain ⟨i0, hi, hz0, hz1, hz2⟩ := info_parts infoOTerm
  have hcc := hc
  unfold maxLen at hcc
  simp only [cnt] at hcnt
  have hlc := len_le_cnts ks
  go_enter Try.func73, Try.ntmps73
  go_wp2_with fail
  obtain ⟨w1, hw1⟩ : ∃ w1, w1 = (w.alloc (.cells #[.int .i64 k, .int .i64 n, .slice A ks.length cap] 27)).alloc (.cells #[.int .i64 0, .int .i64 0, .slice none 0 0] 27) := ⟨_, rfl⟩
  obtain ⟨W, hW⟩ : ∃ W, W = w1.alloc (.cells #[.int .i64 k, .int .i64 n, .slice none 0 0] 27) := ⟨_, rfl⟩
  have hs1 : w1.heap.size = w.heap.size + 1 + 1 := by rw [hw1]; simp
  have hsW : W.heap.size = w.heap.size + 3 := by rw [hW]; simp; omega
  have hE1 : Ext w w1 := hw1 ▸ ((Ext.refl w).alloc _).alloc _
  have hEW : Ext w1 W := hW ▸ (Ext.refl w1).alloc _
  have hbR : w1.heap[w.heap.size + 1]? = some (.cells #[.int .i64 0, .int .i64 0, .slice none 0 0] 27 (0, 0)) := by
    rw [hw1]; exact (blk2 (Ext.refl _)).2.1
  have hbO : W.heap[w.heap.size + 1 + 1]? = some (.cells #[.int .i64 k, .int .i64 n, .slice none 0 0] 27 (0, 0)) := by
    have := heap_alloc_new w1 (.cells #[.int .i64 k, .int .i64 n, .slice none 0 0] 27)
    rw [hs1] at this
    rw [hW]
    exact this
  rw [← hw1, ← hW]
  clear hW hw1
  go_loopw [14] (fun i wr => ∃ (j : Nat) (v : Value), j ≤ ks.length ∧ i = .int .i64 j ∧ wr.heap[w.heap.size + 1 + 1]? = some (.cells #[.int .i64 k, .int .i64 n, v] 27 (0, 0)) ∧ Grow W wr 27 v (ks.take j) ∧ Ext w1 wr ∧ W.heap.size ≤ wr.heap.size) (fun i _ => ks.length - (intOf i).toNat)
  case atStart => exact ⟨0, _, Nat.zero_le _, rfl, hbO, Grow.nil _ _ _, hEW, Nat.le_refl _⟩
  case round =>
    obtain ⟨j, v, hj, rfl, hbv, hG, he, hle⟩ := hrel
    by_cases hlt : j < ks.length
    · obtain ⟨b, o, k', n', A', cap', kids, rfl, HK, c0, c1, c2, hkl, hkc, hK', hin', hmem⟩ := hK.get (hE1.trans he) hlt
      have htk := List.take_append_getElem hlt
      rw [HK.out] at htk
      have hcm := cnt_mem hmem
      have hlen : (ks.take j).length < 1099511627776 := by rw [List.length_take]; omega
      have hlj : (ks.take j).length = j := by rw [List.length_take]; omega
      have HL := Lib.hid hlj
      go_wp2_with fail
      have hx := (Ext.refl wr).alloc (.cells #[.int .i64 k', .int .i64 n', .slice A' kids.length cap'] 27)
      have hb5 := heap_alloc_new wr (.cells #[.int .i64 k', .int .i64 n', .slice A' kids.length cap'] 27)
      generalize wr.alloc _ = w2 at hx hb5
      have hle2 : W.heap.size ≤ w2.heap.size := by have := hx.size; omega
      have hG2 := hG.ext hx
      have hbv2 := hx.blk hbv
      have hv := cell_of_blk hbv2 2
      have hcells : ∀ w', Below W.heap.size w2 w' → w'.heap[w.heap.size + 1 + 1]? = some (.cells #[.int .i64 k, .int .i64 n, v] 27 (0, 0)) := fun w' hB => (hB.block (w.heap.size + 1 + 1) (by omega)).trans hbv2
      have HCells := Lib.hid hcells
      obtain ⟨d0, d1, d2, -, -, -⟩ := own3 hb5
      have hEd : Ext w2 w2.drew := (Ext.refl w2).drew
      have hinD := (hin'.ext hx).ext hEd
      have he2 := he.trans hx
      clear hcells hlj c0 c1 c2 hbv hG he hle hcc
      go_region_law (first | (go_simp; go_at_call 73; refine (hk _ hmem _ _ hinD (by omega)).mono ?_; rintro e w4 ⟨u, rfl, hM, h4⟩; obtain ⟨a1, a2, a3, a4, a5, rfl⟩ := hM.three'; have hv4 := cell_of_blk (HCells.out _ ((hEd.trans h4).below hle2)) 2; have hs4 := World.block_lt_of_cell? _ _ hv4) | (refine step_append_tree _ (by rfl) (.tmp 19) (.tmp 22) _ (by rfl) 27 i0 _ Try.underlying25 hi hz0 hz1 hz2 rfl (by rfl) hG2 hle2 (hEd.trans h4) (hM.since (Nat.le_refl _)) ((Ext.refl _).alloc _) (by rfl) (heap_alloc_new _ _) hlen ?_; intro v' w5 hG5 hB5; obtain ⟨B5, c5, rfl, q1, q2, -⟩ := hG5.made; have hv5 := cell_of_blk (HCells.out _ hB5) 2; have hf5 := frozen_of_blk (HCells.out _ hB5) 2))
      all_goals (
        have hE5 : Ext w1 w5 := he2.trans' hB5 (by omega)
        have hs5 := hB5.size
        have hb6 := HCells.out _ hB5
        rw [List.length_append, List.length_singleton, htk, show (ks.take j).length + 1 = min (j + 1) ks.length from by rw [List.length_take]; omega] at hG5
        have hGs := fun u => hG5.after ((Above.refl W.heap.size w5).setCell (p := ⟨w.heap.size + 1 + 1, 2, none⟩) (by show w.heap.size + 1 + 1 < W.heap.size; omega) u)
        clear hv4 hs4 hv HCells hM h4 d0 d1 d2 hb5
        go_wp2_with fail
        go_roundw
        case rel => exact ⟨j + 1, _, by omega, by go_num, blk_setCell hb6 2 _, hGs _, hE5.setCell (by show _ ≤ w.heap.size + 1 + 1; omega) _, by simp; omega⟩
        case measure => simp [intOf]; omega)
    · obtain ⟨B5, c5, rfl, q1, q2, hMK⟩ := hG.made
      have hjl : j = ks.length := by omega
      have hln : (ks.take j).length = ks.length := by rw [hjl, List.take_length]
      obtain ⟨r0, r1, r2, -, -, -⟩ := own3 hbv
      have hbR' := he.blk hbR
      obtain ⟨s0, s1, s2, f0, f1, f2⟩ := own3 hbR'
      rw [hln] at q1 r2
      rw [show ks.take j = ks from by rw [hjl, List.take_length]] at hMK
      clear hln hbv
      go_wp2_with fail
      refine bodyPost_ret (v := .agg #[.int .i64 k, .int .i64 n, .slice B5 ks.length c5]) (by simp [results, Try.results73, go_sem, s0, s1, s2]) rfl ⟨_, rfl, ?_, ?_⟩
      · exact Made.since (Made.after (Made.mk q1 q2 hMK) ((((Above.refl _ _).setCell (by show w.heap.size + 1 < _; omega) _).setCell (by show w.heap.size + 1 < _; omega) _).setCell (by show w.heap.size + 1 < _; omega) _)) (by omega)
      · exact ((((hE1.trans he).setCell (by simp) _).setCell (by simp) _).setCell (by simp) _)
end Go.Proofs.Ytdkamgafpphdjaa
namespace Go.Proofs.Ytdkamgafpphdjaa
open Go.RowKit
set_option linter.unusedVariables false
theorem most_le (k : Int) : sigT.most k ≤ 20 := by
  show mostT k ≤ 20
  unfold mostT
  split
  · omega
  · split <;> omega
end Go.Proofs.Ytdkamgafpphdjaa
namespace Go.Proofs.Ytdkamgafpphdjaa
open Go.RowKit
set_option linter.unusedVariables false
/-- Numbers in a block of the call's own. -/
def OwnI (w : World) (e : TypeId) (A : Option Addr) (ns : List Int) (L : List Nat) : Prop :=
  (ns = [] ∧ L = []) ∨ ∃ b cs, A = some ⟨b, 0, none⟩ ∧ w.heap[b]? = some (.cells cs e (0, 0)) ∧ ns.length ≤ cs.size ∧ cs.toList.take ns.length = ns.map (Value.int .i64) ∧ L = [b]
theorem OwnI.mono {w w' : World} {e : TypeId} {A : Option Addr} {ns : List Int} {L : List Nat} (h : OwnI w e A ns L) (hw : ∀ b, b ∈ L → w'.heap[b]? = w.heap[b]?) : OwnI w' e A ns L := by
  rcases h with h | ⟨b, cs, rfl, hb, h1, h2, rfl⟩
  · exact .inl h
  · exact .inr ⟨b, cs, rfl, (hw b (by simp)).trans hb, h1, h2, rfl⟩
theorem GrowN.own {W w : World} {e : TypeId} {v : Value} {ns : List Int} (h : GrowN W w e v ns) : ∃ A cap L, v = .slice A ns.length cap ∧ ns.length ≤ cap ∧ cap ≤ maxLen ∧ OwnI w e A ns L ∧ Fresh W w L := by
  rcases h.2 with ⟨rfl, h0⟩ | ⟨g, cap, cur, rfl, hb, hg, hn, hm, hcs, ht⟩
  · obtain rfl : ns = [] := List.eq_nil_of_length_eq_zero h0
    exact ⟨none, 0, [], rfl, Nat.le_refl _, Nat.zero_le _, .inl ⟨rfl, rfl⟩, Fresh.nil _ _⟩
  · refine ⟨_, cap, [g], rfl, hn, hm, .inr ⟨g, cur, rfl, hg, by omega, by simpa using ht, rfl⟩, by simp, fun b hb' => ?_⟩
    obtain rfl := List.mem_singleton.1 hb'
    exact ⟨hb, lt_of_blk hg⟩
end Go.Proofs.Ytdkamgafpphdjaa
namespace Go.Proofs.Ytdkamgafpphdjaa
open Go.RowKit
set_option linter.unusedVariables false
theorem InK.two {w : World} {S : Nat → Prop} {e : TypeId} {t t' : Tr} {v0 v1 v2 u0 u1 u2 : Value} {g : Nat} (h : InT w S t (.agg #[v0, v1, v2])) (h' : InT w S t' (.agg #[u0, u1, u2])) (hg : w.heap[g]? = some (.cells #[v0, v1, v2, u0, u1, u2] e (0, 0))) (hS : S g) : InK w S (some ⟨g, 0, none⟩) [t, t'] := by
  refine .inr ⟨g, 0, rfl, hS, ?_⟩
  unfold InL
  refine ⟨⟨v0, v1, v2, cell_of_blk hg 0, cell_of_blk hg 1, cell_of_blk hg 2, h⟩, ?_⟩
  unfold InL
  refine ⟨⟨u0, u1, u2, cell_of_blk hg 3, cell_of_blk hg 4, cell_of_blk hg 5, h'⟩, ?_⟩
  unfold InL
  trivial
theorem InT.three {w : World} {S : Nat → Prop} {t : Tr} {u : Value} (h : InT w S t u) : ∃ k n A l c, u = .agg #[.int .i64 k, .int .i64 n, .slice A l c] := by
  obtain ⟨k, n, ks⟩ := t
  obtain ⟨A, cap, rfl, _⟩ := InT.mk_iff.1 h
  exact ⟨k, n, A, _, cap, rfl⟩
/-- What came into being since W, in a later world. -/
theorem New.to {W w w1 w2 : World} {t : Tr} {v : Value} (h : New w w1 t v) (he : Ext w1 w2) (hW : W.heap.size ≤ w.heap.size) {S : Nat → Prop} (hS : ∀ b, W.heap.size ≤ b → b < w1.heap.size → S b) : InT w2 S t v :=
  h.mono (fun b hb => hS b (Nat.le_trans hW hb.1) hb.2) (fun b hb => he.heap b hb.2)
end Go.Proofs.Ytdkamgafpphdjaa
namespace Go.Proofs.Ytdkamgafpphdjaa
open Go.RowKit
set_option linter.unusedVariables false
/-- All rows are of block number B or newer. -/
def From (B : Nat) (w : World) (t : Tr) (v : Value) : Prop := InT w (fun b => B ≤ b ∧ b < w.heap.size) t v
theorem From.leaf (B : Nat) (w : World) (k n : Int) : From B w (.mk k n []) (.agg #[.int .i64 k, .int .i64 n, .slice none 0 0]) := InT.mk_iff.2 ⟨none, 0, rfl, Nat.le_refl _, Nat.zero_le _, .inl rfl⟩
theorem From.ext {B : Nat} {w w' : World} {t : Tr} {v : Value} (h : From B w t v) (he : Ext w w') : From B w' t v := h.mono (fun b hb => ⟨hb.1, Nat.lt_of_lt_of_le hb.2 he.size⟩) (fun b hb => he.heap b hb.2)
theorem From.since {B C : Nat} {w : World} {t : Tr} {v : Value} (h : From B w t v) (hc : C ≤ B) : From C w t v := h.mono (fun b hb => ⟨Nat.le_trans hc hb.1, hb.2⟩) (fun _ _ => rfl)
theorem From.set {B : Nat} {w : World} {t : Tr} {v : Value} (h : From B w t v) {p : Addr} (hp : p.block < B) (u : Value) : From B (w.setCell p u) t v :=
  h.mono (fun b hb => ⟨hb.1, by simpa using hb.2⟩) (fun b hb => Below.heap_setCell w p u b (by omega))
theorem From.made {w w' : World} {e : TypeId} {t : Tr} {v : Value} (h : Made w w' e t v) : From w.heap.size w' t v := by
  obtain ⟨L, h, hf⟩ := h
  exact InT.mono (fun b hb => hf.2 b hb) (fun _ _ => rfl) h.inT
def FromK (B : Nat) (w : World) (A : Option Addr) (ks : List Tr) : Prop := InK w (fun b => B ≤ b ∧ b < w.heap.size) A ks
theorem FromK.one {B g : Nat} {w : World} {t : Tr} {v0 v1 v2 : Value} {e : TypeId} (h : From B w t (.agg #[v0, v1, v2])) (hB : B ≤ w.heap.size) (hg : g = w.heap.size) : FromK B (w.alloc (.cells #[v0, v1, v2] e)) (some ⟨g, 0, none⟩) [t] :=
  hg ▸ InK.one (h.ext ((Ext.refl w).alloc _)) (heap_alloc_new w _) ⟨hB, by simp⟩
theorem FromK.two {B g : Nat} {w : World} {t u : Tr} {v0 v1 v2 x0 x1 x2 : Value} {e : TypeId} (h : From B w t (.agg #[v0, v1, v2])) (h' : From B w u (.agg #[x0, x1, x2])) (hB : B ≤ w.heap.size) (hg : g = w.heap.size) : FromK B (w.alloc (.cells #[v0, v1, v2, x0, x1, x2] e)) (some ⟨g, 0, none⟩) [t, u] := by
  subst hg
  have hx := (Ext.refl w).alloc (.cells #[v0, v1, v2, x0, x1, x2] e)
  have hg := heap_alloc_new w (.cells #[v0, v1, v2, x0, x1, x2] e)
  have h1 := h.ext hx
  have h2 := h'.ext hx
  refine .inr ⟨w.heap.size, 0, rfl, ⟨hB, by simp⟩, ?_⟩
  unfold InL
  refine ⟨⟨v0, v1, v2, cell_of_blk hg 0, cell_of_blk hg 1, cell_of_blk hg 2, h1⟩, ?_⟩
  unfold InL
  refine ⟨⟨x0, x1, x2, cell_of_blk hg 3, cell_of_blk hg 4, cell_of_blk hg 5, h2⟩, ?_⟩
  unfold InL
  trivial
end Go.Proofs.Ytdkamgafpphdjaa
namespace Go.Proofs.Ytdkamgafpphdjaa
open Go.RowKit
set_option linter.unusedVariables false
theorem shapes_of {g : Sig} : ∀ {ts : List Tr} {d : Int}, (∀ t ∈ ts, shape g t d = true) → shapes g ts d = true
  | [], _, _ => rfl
  | t :: ts, d, h => by
    simp only [shapes, Bool.and_eq_true]
    exact ⟨h t (by simp), shapes_of (fun x hx => h x (by simp [hx]))⟩
theorem shape_mk {g : Sig} {k n : Int} {ks : List Tr} {d : Int} (h1 : 1 ≤ d) (h2 : g.ops k = (ks.length : Int)) (h3 : 0 ≤ n) (h4 : n ≤ g.most k) (h5 : ∀ t ∈ ks, shape g t (d - 1) = true) : shape g (.mk k n ks) d = true := by
  simp only [shape, headOk, Bool.and_eq_true, decide_eq_true_eq]
  exact ⟨h1, ⟨h2, inR_iff.2 ⟨h3, h4⟩⟩, shapes_of h5⟩
theorem shape_pos {g : Sig} {t : Tr} {d : Int} (h : shape g t d = true) : 1 ≤ d := by
  obtain ⟨k, n, ks⟩ := t
  simp only [shape, Bool.and_eq_true, decide_eq_true_eq] at h
  exact h.1
theorem shape_up {g : Sig} : ∀ {t : Tr} {d e : Int}, shape g t d = true → d ≤ e → shape g t e = true := by
  intro t
  refine Tr.ind (P := fun t => ∀ {d e : Int}, shape g t d = true → d ≤ e → shape g t e = true) (fun k n ks ih => ?_) t
  intro d e h hd
  obtain ⟨h1, h2, h3, h4⟩ := shape_kids' h
  have := shape_pos h
  exact shape_mk (by omega) h1 h2 h3 (fun t ht => ih t ht (h4 t ht) (by omega))
end Go.Proofs.Ytdkamgafpphdjaa
namespace Go.Proofs.Ytdkamgafpphdjaa
open Go.RowKit
set_option linter.unusedVariables false
/-- The zero term. -/
def dflt0 : Tr := .mk 0 0 []
mutual
/-- The reference's shift. -/
def shfT (y : Int) : Tr → Int → Tr
  | .mk k n ks, c => .mk k (if k = 1 ∧ c ≤ n then n + y else n) (shfTs y k ks 0 c)
def shfTs (y : Int) : Int → List Tr → Nat → Int → List Tr
  | _, [], _, _ => []
  | k, t :: ts, i, c => shfT y t (c + und k i) :: shfTs y k ts (i + 1) c
end
mutual
/-- The reference's substitution. -/
def sbsT (u : Tr) : Tr → Int → Int → Tr
  | .mk k n ks, x, d => if k = 1 ∧ n = x then shfT d u 0 else .mk k (if k = 1 ∧ x < n then n - 1 else n) (sbsTs u k ks 0 x d)
def sbsTs (u : Tr) : Int → List Tr → Nat → Int → Int → List Tr
  | _, [], _, _, _ => []
  | k, t :: ts, i, x, d => sbsT u t (x + und k i) (d + und k i) :: sbsTs u k ts (i + 1) x d
end
mutual
/-- A term whose variables are changed. -/
def chgT (g : Int → Int → Tr) : Tr → Int → Tr
  | .mk k n ks, b => if k = 1 then g n b else .mk k n (chgTs g k ks 0 b)
def chgTs (g : Int → Int → Tr) : Int → List Tr → Nat → Int → List Tr
  | _, [], _, _ => []
  | k, t :: ts, i, b => chgT g t (b + und k i) :: chgTs g k ts (i + 1) b
end
mutual
/-- Each variable meets h. -/
def allT (h : Int → Int → Bool) : Tr → Int → Bool
  | .mk k n ks, b => if k = 1 then h n b else allTs h k ks 0 b
def allTs (h : Int → Int → Bool) : Int → List Tr → Nat → Int → Bool
  | _, [], _, _ => true
  | k, t :: ts, i, b => allT h t (b + und k i) && allTs h k ts (i + 1) b
end
theorem shfTs_len (y : Int) : ∀ (k : Int) (ts : List Tr) (i : Nat) (c : Int), (shfTs y k ts i c).length = ts.length
  | _, [], _, _ => rfl
  | k, t :: ts, i, c => by simp [shfTs, shfTs_len y k ts (i + 1) c]
theorem sbsTs_len (u : Tr) : ∀ (k : Int) (ts : List Tr) (i : Nat) (x d : Int), (sbsTs u k ts i x d).length = ts.length
  | _, [], _, _, _ => rfl
  | k, t :: ts, i, x, d => by simp [sbsTs, sbsTs_len u k ts (i + 1) x d]
mutual
theorem shfT_cnt (y : Int) : ∀ (t : Tr) (c : Int), cnt (shfT y t c) = cnt t
  | .mk k n ks, c => by
    unfold shfT
    simp only [cnt, shfTs_cnt y k ks 0 c]
theorem shfTs_cnt (y : Int) : ∀ (k : Int) (ts : List Tr) (i : Nat) (c : Int), cnts (shfTs y k ts i c) = cnts ts
  | _, [], _, _ => rfl
  | k, t :: ts, i, c => by
    unfold shfTs
    simp only [cnts, shfT_cnt y t _, shfTs_cnt y k ts (i + 1) c]
end
mutual
theorem shape_mono {g : Sig} : ∀ {t : Tr} {d e : Int}, shape g t d = true → d ≤ e → shape g t e = true
  | .mk k n ks, d, e, h, hd => by
    simp only [shape, Bool.and_eq_true, decide_eq_true_eq] at h ⊢
    exact ⟨by omega, h.2.1, shapes_mono h.2.2 (by omega)⟩
theorem shapes_mono {g : Sig} : ∀ {ts : List Tr} {d e : Int}, shapes g ts d = true → d ≤ e → shapes g ts e = true
  | [], _, _, _, _ => rfl
  | t :: ts, d, e, h, hd => by
    simp only [shapes, Bool.and_eq_true] at h ⊢
    exact ⟨shape_mono h.1 hd, shapes_mono h.2 hd⟩
end
theorem var_leaf {n : Int} {ks : List Tr} {d : Int} (h : shape sigT (.mk 1 n ks) d = true) : ks = [] ∧ 0 ≤ n ∧ n ≤ 20 := by
  obtain ⟨h0, h1, h2, -⟩ := shape_kids' h
  have h3 := most_le 1
  have : (0 : Int) = (ks.length : Int) := h0
  exact ⟨List.eq_nil_of_length_eq_zero (by omega), h1, by omega⟩
/-- shift's closure: the variable, and the flag. -/
def gsh (y c : Int) (n b : Int) : Tr := .mk 1 (if c ≤ n - b then n + y else n) []
def hsh (y c : Int) (n b : Int) : Bool := if c ≤ n - b then decide (c ≤ n + y - b) && decide (n + y ≤ 20) else true
mutual
theorem shift_eq (y c : Int) : ∀ (t : Tr) (b d : Int), shape sigT t d = true → chgT (gsh y c) t b = shfT y t (c + b)
  | .mk k n ks, b, d, h => by
    unfold chgT shfT
    by_cases hk : k = 1
    · subst hk
      obtain ⟨rfl, -, -⟩ := var_leaf h
      rw [if_pos rfl]
      unfold gsh
      by_cases h2 : c ≤ n - b
      · rw [if_pos h2, if_pos ⟨rfl, by omega⟩]; rfl
      · rw [if_neg h2, if_neg (by omega)]; rfl
    · rw [if_neg hk, if_neg (fun h => hk h.1), shifts_eq y c k ks 0 b (d - 1) (shape_kids' h).2.2.2]
theorem shifts_eq (y c : Int) : ∀ (k : Int) (ts : List Tr) (i : Nat) (b d : Int), (∀ t ∈ ts, shape sigT t d = true) → chgTs (gsh y c) k ts i b = shfTs y k ts i (c + b)
  | _, [], _, _, _, _ => rfl
  | k, t :: ts, i, b, d, h => by
    unfold chgTs shfTs
    rw [shift_eq y c t _ d (h t (by simp)), shifts_eq y c k ts (i + 1) b d (fun t ht => h t (by simp [ht])), Int.add_assoc]
end
theorem headOk_len {g : Sig} {k n : Int} {a b : Nat} (h : a = b) : headOk g k n a = headOk g k n b := by rw [h]
mutual
theorem shift_ok (y c : Int) (hy : 0 ≤ y) : ∀ (t : Tr) (b d : Int), shape sigT t d = true → allT (hsh y c) t b = shape sigT (shfT y t (c + b)) d
  | .mk k n ks, b, d, h => by
    have hh := h
    simp only [shape, Bool.and_eq_true] at hh
    unfold allT shfT
    by_cases hk : k = 1
    · subst hk
      obtain ⟨rfl, h0, h1⟩ := var_leaf h
      have hd := of_decide_eq_true hh.1
      rw [if_pos rfl]
      have hs : ∀ x : Int, 0 ≤ x → shape sigT (.mk 1 x []) d = decide (x ≤ 20) := fun x hx => by
        simp only [shape, shapes, headOk, List.length_nil, Bool.and_true]
        rw [decide_eq_true hd, decide_eq_true (show sigT.ops 1 = ((0 : Nat) : Int) from rfl), Bool.true_and, Bool.true_and]
        show inR x 0 20 = _
        unfold inR
        rw [decide_eq_true hx, Bool.true_and]
      unfold hsh
      by_cases h2 : c ≤ n - b
      · rw [if_pos h2, if_pos ⟨rfl, by omega⟩, show shfTs y 1 [] 0 (c + b) = [] from rfl, hs _ (by omega), decide_eq_true (by omega), Bool.true_and]
      · rw [if_neg h2, if_neg (by omega), show shfTs y 1 [] 0 (c + b) = [] from rfl, hs _ h0, decide_eq_true h1]
    · rw [if_neg hk, if_neg (fun h => hk h.1), shifts_ok y c hy k ks 0 b (d - 1) hh.2.2]
      simp only [shape]
      rw [hh.1, headOk_len (shfTs_len y k ks 0 (c + b)), hh.2.1]
      rfl
theorem shifts_ok (y c : Int) (hy : 0 ≤ y) : ∀ (k : Int) (ts : List Tr) (i : Nat) (b d : Int), shapes sigT ts d = true → allTs (hsh y c) k ts i b = shapes sigT (shfTs y k ts i (c + b)) d
  | _, [], _, _, _, _ => rfl
  | k, t :: ts, i, b, d, h => by
    simp only [shapes, Bool.and_eq_true] at h
    unfold allTs shfTs
    simp only [shapes]
    rw [shift_ok y c hy t _ d h.1, shifts_ok y c hy k ts (i + 1) b d h.2, Int.add_assoc]
end
/-- shift's way and the reference's. -/
theorem shift_way {y c : Int} (hy : 0 ≤ y) {t : Tr} (h : valid sigT t = true) : (allT (hsh y c) t 0 && valid sigT (chgT (gsh y c) t 0)) = valid sigT (shfT y t c) ∧ chgT (gsh y c) t 0 = shfT y t c := by
  obtain ⟨h1, h2⟩ := valid_parts h
  have e1 := shift_eq y c t 0 30 h1
  have e2 := shift_ok y c hy t 0 30 h1
  rw [Int.add_zero] at e1 e2
  refine ⟨?_, e1⟩
  rw [e1, e2]
  unfold valid
  cases shape sigT (shfT y t c) 30 <;> simp
/-- subst's closure: what stands for the variable, and the flag. -/
def gsb (u : Tr) (x : Int) (n b : Int) : Tr := if n - b = x then (if valid sigT (shfT b u 0) = true then shfT b u 0 else dflt0) else .mk 1 (if x < n - b then n - 1 else n) []
def hsb (u : Tr) (x : Int) (n b : Int) : Bool := if n - b = x then valid sigT (shfT b u 0) else true
mutual
theorem subst_eq (u : Tr) (x : Int) : ∀ (t : Tr) (b d : Int), shape sigT t d = true → allT (hsb u x) t b = true → chgT (gsb u x) t b = sbsT u t (x + b) b
  | .mk k n ks, b, d, h, ho => by
    unfold allT at ho
    unfold chgT sbsT
    by_cases hk : k = 1
    · subst hk
      obtain ⟨rfl, -, -⟩ := var_leaf h
      rw [if_pos rfl] at ho ⊢
      unfold hsb at ho
      unfold gsb
      by_cases h2 : n - b = x
      · rw [if_pos h2] at ho ⊢
        rw [if_pos ho, if_pos (show (1 : Int) = 1 ∧ n = x + b from ⟨rfl, by omega⟩)]
      · rw [if_neg h2, if_neg (show ¬((1 : Int) = 1 ∧ n = x + b) from by omega)]
        by_cases h3 : x < n - b
        · rw [if_pos h3, if_pos (show (1 : Int) = 1 ∧ x + b < n from ⟨rfl, by omega⟩)]; rfl
        · rw [if_neg h3, if_neg (show ¬((1 : Int) = 1 ∧ x + b < n) from by omega)]; rfl
    · rw [if_neg hk] at ho ⊢
      rw [if_neg (fun h => hk h.1), if_neg (fun h => hk h.1), substs_eq u x k ks 0 b (d - 1) (shape_kids' h).2.2.2 ho]
theorem substs_eq (u : Tr) (x : Int) : ∀ (k : Int) (ts : List Tr) (i : Nat) (b d : Int), (∀ t ∈ ts, shape sigT t d = true) → allTs (hsb u x) k ts i b = true → chgTs (gsb u x) k ts i b = sbsTs u k ts i (x + b) b
  | _, [], _, _, _, _, _ => rfl
  | k, t :: ts, i, b, d, h, ho => by
    unfold allTs at ho
    rw [Bool.and_eq_true] at ho
    unfold chgTs sbsTs
    rw [subst_eq u x t _ d (h t (by simp)) ho.1, substs_eq u x k ts (i + 1) b d (fun t ht => h t (by simp [ht])) ho.2, Int.add_assoc]
end
mutual
theorem subst_bad (u : Tr) (x : Int) (hu : cnt u ≤ 400) : ∀ (t : Tr) (b d : Int), shape sigT t d = true → allT (hsb u x) t b = false → ∀ e : Int, e ≤ 30 → shape sigT (sbsT u t (x + b) b) e = false
  | .mk k n ks, b, d, h, ho, e, he => by
    unfold allT at ho
    unfold sbsT
    by_cases hk : k = 1
    · subst hk
      rw [if_pos rfl] at ho
      unfold hsb at ho
      by_cases h2 : n - b = x
      · rw [if_pos h2] at ho
        rw [if_pos (show (1 : Int) = 1 ∧ n = x + b from ⟨rfl, by omega⟩), Bool.eq_false_iff]
        intro hs
        have h3 := shape_mono hs he
        unfold valid at ho
        rw [h3, shfT_cnt, decide_eq_true hu] at ho
        cases ho
      · rw [if_neg h2] at ho
        cases ho
    · rw [if_neg hk] at ho
      rw [if_neg (fun h => hk h.1)]
      simp only [shape]
      rw [substs_bad u x hu k ks 0 b (d - 1) (shape_kids' h).2.2.2 ho (e - 1) (by omega)]
      simp
theorem substs_bad (u : Tr) (x : Int) (hu : cnt u ≤ 400) : ∀ (k : Int) (ts : List Tr) (i : Nat) (b d : Int), (∀ t ∈ ts, shape sigT t d = true) → allTs (hsb u x) k ts i b = false → ∀ e : Int, e ≤ 30 → shapes sigT (sbsTs u k ts i (x + b) b) e = false
  | _, [], _, _, _, _, ho, _, _ => by unfold allTs at ho; cases ho
  | k, t :: ts, i, b, d, h, ho, e, he => by
    unfold allTs at ho
    unfold sbsTs
    simp only [shapes]
    rw [Bool.and_eq_false_iff] at ho ⊢
    rw [Int.add_assoc]
    rcases ho with ho | ho
    · exact .inl (subst_bad u x hu t _ d (h t (by simp)) ho e he)
    · exact .inr (substs_bad u x hu k ts (i + 1) b d (fun t ht => h t (by simp [ht])) ho e he)
end
/-- subst's way and the reference's. -/
theorem subst_way {u : Tr} {x : Int} (hu : cnt u ≤ 400) {t : Tr} (h : valid sigT t = true) : (allT (hsb u x) t 0 && valid sigT (chgT (gsb u x) t 0)) = valid sigT (sbsT u t x 0) ∧ (allT (hsb u x) t 0 = true → chgT (gsb u x) t 0 = sbsT u t x 0) := by
  obtain ⟨h1, h2⟩ := valid_parts h
  have e1 := subst_eq u x t 0 30 h1
  have e2 := subst_bad u x hu t 0 30 h1
  rw [Int.add_zero] at e1 e2
  refine ⟨?_, e1⟩
  cases ha : allT (hsb u x) t 0 with
  | true => rw [e1 ha, Bool.true_and]
  | false =>
    unfold valid
    rw [e2 ha 30 (Int.le_refl _)]
    rfl
end Go.Proofs.Ytdkamgafpphdjaa
namespace Go.Proofs.Ytdkamgafpphdjaa
open Go.RowKit
set_option linter.unusedVariables false
theorem ownsRow_nums {w : World} {base : Nat} {e : TypeId} {v : Value} {ns : List Int} (hG : w.ownsRow base e 1 v ns.length (ns.map (Value.int .i64))) : ∃ B c, v = .slice B ns.length c ∧ ns.length ≤ c ∧ c ≤ maxLen ∧ Nums w B ns := by
  have hcl := fun g' hg' => hG.cells (g := g') hg'
  rcases hG.2 with ⟨rfl, h0⟩ | ⟨g', c', cur, rfl, hb', hg', hn', hm', _⟩
  · obtain rfl : ns = [] := List.eq_nil_of_length_eq_zero h0
    exact ⟨none, 0, rfl, Nat.le_refl _, Nat.zero_le _, .inl rfl⟩
  · refine ⟨_, c', rfl, hn', hm', .inr ⟨g', 0, rfl, lt_of_blk hg', fun jj hjj => ?_⟩⟩
    have := hcl g' rfl jj (.int .i64 ns[jj]) (by rw [List.getElem?_map, List.getElem?_eq_getElem hjj]; rfl)
    rwa [Addr.add_lit] at this
end Go.Proofs.Ytdkamgafpphdjaa

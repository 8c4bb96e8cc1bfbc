/-
  Lemmas towards the law, 10: Node.
-/
import Derived.Test.YtolkohncmidpeaaGreatDoorGAB
import Derived.Test.YtolkohncmidpeaaGreatDoorGAC
import Derived.Outline
import Derived.Test.YtolkohncmidpeaaGreatDoorProg
namespace Go.Proofs.YtolkohncmidpeaaGreatDoor
open Go.RowKit
set_option linter.unusedVariables false
/-- The blocks of S, and those that came into being between w and w'. -/
def Plus (S : Nat → Prop) (w w' : World) (b : Nat) : Prop := S b ∨ w.heap.size ≤ b ∧ b < w'.heap.size
/-- A tree all whose rows came into being between w and w'. -/
def New (w w' : World) (t : Tr) (v : Value) : Prop := InT w' (fun b => w.heap.size ≤ b ∧ b < w'.heap.size) t v
theorem New.lies {w w' : World} {t : Tr} {v : Value} (h : New w w' t v) : Lies w' t v := h.mono (fun _ hb => hb.2) (fun _ _ => rfl)
theorem New.ext {w w' w2 : World} {t : Tr} {v : Value} (h : New w w' t v) (he : Ext w' w2) : New w w2 t v := h.mono (fun b hb => ⟨hb.1, Nat.lt_of_lt_of_le hb.2 he.size⟩) (fun b hb => he.heap b hb.2)
theorem New.since {a w w' : World} {t : Tr} {v : Value} (h : New w w' t v) (ha : a.heap.size ≤ w.heap.size) : New a w' t v := h.mono (fun b hb => ⟨Nat.le_trans ha hb.1, hb.2⟩) (fun _ _ => rfl)
theorem New.after {w w1 w2 : World} {t : Tr} {v : Value} (h : New w w1 t v) (ha : Above w.heap.size w1 w2) : New w w2 t v := h.mono (fun b hb => ⟨hb.1, Nat.lt_of_lt_of_le hb.2 ha.2⟩) (fun b hb => ha.1 b hb.1)
theorem New.leaf (w w' : World) (k n : Int) : New w w' (.mk k n []) (.agg #[.int .i64 k, .int .i64 n, .slice none 0 0]) := InT.mk_iff.2 ⟨none, 0, rfl, Nat.le_refl _, Nat.zero_le _, .inl rfl⟩
theorem InK.one {w : World} {S : Nat → Prop} {e : TypeId} {t : Tr} {v0 v1 v2 : Value} {g : Nat} (h : InT w S t (.agg #[v0, v1, v2])) (hg : w.heap[g]? = some (.cells #[v0, v1, v2] e (0, 0))) (hS : S g) : InK w S (some ⟨g, 0, none⟩) [t] := by
  refine .inr ⟨g, 0, rfl, hS, ?_⟩
  unfold InL
  refine ⟨⟨v0, v1, v2, cell_of_blk hg 0, cell_of_blk hg 1, cell_of_blk hg 2, h⟩, ?_⟩
  unfold InL
  trivial
/-- One tree made: a row of its own. -/
theorem MadeK.one {W wr w1 w : World} {e : TypeId} {t : Tr} {v0 v1 v2 : Value} {g : Nat} (hM : Made wr w1 e t (.agg #[v0, v1, v2])) (hE1 : wr.heap.size ≤ w1.heap.size) (hE : Ext w1 w) (hg : w.heap[g]? = some (.cells #[v0, v1, v2] e (0, 0))) (hgs : w1.heap.size ≤ g) (hW : W.heap.size ≤ wr.heap.size) : MadeK W w e (some ⟨g, 0, none⟩) [t] := by
  obtain ⟨L, h, hf⟩ := hM
  refine ⟨g :: L, .inr ⟨g, _, L, rfl, hg, rfl, OwnL.cons_iff.2 ⟨v0, v1, v2, [], L, [], rfl, h.mono fun b hb => hE.heap b (hf.2 b hb).2, OwnL.nil, by simp⟩⟩, List.nodup_cons.2 ⟨fun hm => ?_, hf.1⟩, fun b hm => ?_⟩
  · have := (hf.2 g hm).2
    omega
  · have := hE.size
    rcases List.mem_cons.1 hm with rfl | hm
    · exact ⟨by omega, lt_of_blk hg⟩
    · have := hf.2 b hm
      omega
theorem l1Leaf_any (w : World) (k n : Int) : Calls Tryz.prog 91 #[.int .i64 k, .int .i64 n] w fun e w' => e = .returned (.agg #[.int .i64 k, .int .i64 n, .slice none 0 0]) ∧ Ext w w' := by
  go_enter Tryz.func91, Tryz.ntmps91
  go_wp2_with fail
  exact bodyPost_ret (v := .agg #[.int .i64 k, .int .i64 n, .slice none 0 0]) (by simp [results, Tryz.results91, go_sem]) rfl ⟨rfl, (Ext.refl w).alloc _⟩
theorem infoNTerm : (Tryz.prog.info? 45).map (fun i => (i.zero, i.size, i.bytes)) = some (some (.agg #[.int .i64 0, .int .i64 0, .slice none 0 0]), 3, 40) := by kernel_rfl
theorem l1Node_any (w : World) (k : Int) (A : Option Addr) (cap : Nat) (ks : List Tr) (hA : A = none → cap = 0) (S : Nat → Prop) (hS : ∀ b, S b → b < w.heap.size) (hK : InK w S A ks) (hn : ks.length ≤ 1099511627776) :
    Calls Tryz.prog 94 #[.int .i64 k, .slice A ks.length cap] w fun e w' => ∃ u, e = .returned u ∧ InT w' (Plus S w w') (.mk k 0 ks) u ∧ Ext w w' := by
  obtain ⟨i0, hi, hz0, hz1, hz2⟩ := info_parts infoNTerm
  have hK' : InK (w.alloc (.cells #[.int .i64 0, .int .i64 0, .slice none 0 0] 45)) S A ks := InK.mono (fun _ h => h) (fun b hb => Below.heap_alloc w _ b (hS b hb)) hK
  go_enter Tryz.func94, Tryz.ntmps94
  go_wp2_with (at_builtin; refine wpList_append_copy _ rfl (.tmp 6) (.tmp 7) 43 rfl 45 i0 _ Tryz.underlying43 hi hz0 hz1 hz2 rfl (W := w.alloc (.cells #[.int .i64 0, .int .i64 0, .slice none 0 0] 45)) (v := .slice (some ⟨w.heap.size + 1, 0, none⟩) 0 0) (A := A) (cap := cap) (ks := ks) rfl ?ow ((Ext.refl _).alloc _) rfl hA ?hS hK' hn ?_)
  case ow => simpa using World.ownsRow_lit (base := w.heap.size + 1) (e := 45) (size := 3) (w.alloc (.cells #[.int .i64 0, .int .i64 0, .slice none 0 0] 45)) #[] 0 (by simp) (Nat.zero_le _) rfl
  case hS => intro b hb; have := hS b hb; simp; omega
  intro B c' w2 hB hc1 hc2 hE _
  have hb := blk1 hE
  obtain ⟨r0, r1, r2, p0, p1, p2⟩ := own3 hb.1
  have hEs := hE.pre
  have hlt := hb.2
  clear hi hz0 hz1 hz2 hK' hb
  go_wp2_with fail
  refine bodyPost_ret (v := .agg #[.int .i64 k, .int .i64 0, .slice B ks.length c']) (by simp [results, Tryz.results94, go_sem, r0, r1, r2]) rfl ⟨_, rfl, InT.mk_iff.2 ⟨_, _, rfl, hc1, hc2, hB.mono ?_ ?_⟩, ?_⟩
  · intro b hb
    unfold Plus
    rw [World.size_setCell, World.size_setCell, World.size_setCell]
    rcases hb with hb | hb
    · exact .inl hb
    · have := hb.1
      exact .inr ⟨by omega, hb.2⟩
  · intro b hb
    have hne : b ≠ w.heap.size := by
      rcases hb with hb | hb
      · have := hS b hb
        omega
      · have := hb.1
        omega
    rw [Below.heap_setCell _ _ _ _ hne, Below.heap_setCell _ _ _ _ hne, Below.heap_setCell _ _ _ _ hne]
  · exact ((hEs.setCell (Nat.le_refl _) _).setCell (Nat.le_refl _) _).setCell (Nat.le_refl _) _
/-- The three cells of a made tree. -/
theorem Made.three {w w' : World} {e : TypeId} {t : Tr} {u : Value} (h : Made w w' e t u) : ∃ k n A l c, u = .agg #[.int .i64 k, .int .i64 n, .slice A l c] := by
  obtain ⟨k, n, ks⟩ := t
  obtain ⟨A, cap, rfl, _⟩ := Made.mk_iff.1 h
  exact ⟨k, n, A, _, cap, rfl⟩
theorem Lies.three {w : World} {t : Tr} {u : Value} (h : Lies w t u) : ∃ k n A l c, u = .agg #[.int .i64 k, .int .i64 n, .slice A l c] := by
  obtain ⟨k, n, ks⟩ := t
  obtain ⟨A, cap, rfl, _⟩ := Lies.mk_iff.1 h
  exact ⟨k, n, A, _, cap, rfl⟩
end Go.Proofs.YtolkohncmidpeaaGreatDoor

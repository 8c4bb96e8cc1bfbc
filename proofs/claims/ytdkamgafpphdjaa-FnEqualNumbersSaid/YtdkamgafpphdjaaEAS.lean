/-
  Lemmas towards the law, 19: Keep.
-/
import Derived.Test.YtdkamgafpphdjaaEAR
namespace Go.Proofs.Ytdkamgafpphdjaa
open Go.RowKit
set_option linter.unusedVariables false
theorem InK.bound {w : World} {S : Nat → Prop} {A : Option Addr} {ks : List Tr} (h : InK w S A ks) : InK w (fun b => S b ∧ b < w.heap.size) A ks := by
  rcases h with h | ⟨b, o, rfl, hb, hl⟩
  · exact .inl h
  · cases ks with
    | nil => exact .inl rfl
    | cons t ts =>
      refine .inr ⟨b, o, rfl, ⟨hb, ?_⟩, InL.bound hl⟩
      unfold InL at hl
      obtain ⟨⟨v0, v1, v2, h0, -⟩, -⟩ := hl
      exact World.block_lt_of_cell? _ _ h0
/-- Rows that were there do not lie in a later block. -/
theorem InT.keep {w W : World} {N : Nat → Prop} {t : Tr} {v : Value} {g : Nat} (h : InT w N t v) (he : Ext w W) (hg : w.heap.size ≤ g) : InT W (fun b => N b ∧ b ≠ g) t v :=
  InT.mono (fun b hb => ⟨hb.1, by omega⟩) (fun b hb => he.heap b hb.2) h.bound
theorem InK.keep {w W : World} {N : Nat → Prop} {A : Option Addr} {ks : List Tr} {g : Nat} (h : InK w N A ks) (he : Ext w W) (hg : w.heap.size ≤ g) : InK W (fun b => N b ∧ b ≠ g) A ks :=
  InK.mono (fun b hb => ⟨hb.1, by omega⟩) (fun b hb => he.heap b hb.2) h.bound
theorem InK.later {w w' : World} {S : Nat → Prop} {A : Option Addr} {ks : List Tr} (h : InK w S A ks) (he : Ext w w') : InK w' S A ks :=
  InK.mono (fun _ hb => hb.1) (fun b hb => he.heap b hb.2) h.bound
theorem InT.lies' {w : World} {N : Nat → Prop} {t : Tr} {v : Value} (h : InT w N t v) : Lies w t v := InT.mono (fun b hb => hb.2) (fun _ _ => rfl) h.bound
/-- Stores into a block of which the rows keep clear. -/
theorem InT.ret {W : World} {N : Nat → Prop} {t : Tr} {v : Value} {g : Nat} (h : InT W (fun b => N b ∧ b ≠ g) t v) (x y z : Value) : InT (((W.setCell ⟨g, 0, none⟩ x).setCell ⟨g, 1, none⟩ y).setCell ⟨g, 2, none⟩ z) N t v :=
  InT.mono (fun b hb => hb.1) (fun b hb => by rw [Below.heap_setCell _ _ _ _ hb.2, Below.heap_setCell _ _ _ _ hb.2, Below.heap_setCell _ _ _ _ hb.2]) h
theorem leafT (W : World) (N : Nat → Prop) (k n : Int) : InT W N (.mk k n []) (.agg #[.int .i64 k, .int .i64 n, .slice none 0 0]) := InT.mk_iff.2 ⟨none, 0, rfl, Nat.le_refl _, Nat.zero_le _, .inl rfl⟩
/-- A tree that was made anew. -/
theorem Made.at' {w w' : World} {N : Nat → Prop} {e : TypeId} {t : Tr} {v : Value} (h : Made w w' e t v) (hN : ∀ b, w.heap.size ≤ b → N b) : InT w' N t v := InT.mono (fun b hb => hN b hb.1) (fun _ _ => rfl) (From.made h)
theorem newN {w : World} {N : Nat → Prop} {g n : Nat} (hN : ∀ b, w.heap.size ≤ b → N b) (hw : w.heap.size ≤ n) (hg : g < n) : ∀ b, n ≤ b → N b ∧ b ≠ g := fun b hb => ⟨hN b (by omega), by omega⟩
/-- A type and a code are answered, the type's rows in blocks of N. -/
def AnQ (N : Nat → Prop) (w : World) (r : Tr × Int) (e : Ending) (w' : World) : Prop := ∃ u, e = .returned (.tuple #[u, .int .i64 r.2]) ∧ InT w' N r.1 u ∧ Ext w w'
end Go.Proofs.Ytdkamgafpphdjaa

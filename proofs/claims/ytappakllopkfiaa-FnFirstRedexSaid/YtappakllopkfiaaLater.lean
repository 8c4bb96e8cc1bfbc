/-
  A region that draws its order and whose calls hand back one value in every later world: one walk, in the order of the text (Derived/Deep/Quiet's theorem at the class of all later worlds).
-/
import Derived.Test.YtappakllopkfiaaMem
import Derived.BigQuiet
namespace Go.Proofs.Ytappakllopkfiaa
open Go.RowKit
set_option linter.unusedVariables false

/-- What holds in w and in every later world. -/
def At (w : World) (p : World → Prop) : Prop := ∀ w', Ext w w' → p w'
theorem At.now {w : World} {p : World → Prop} (h : At w p) : p w := h w (Ext.refl w)
theorem At.step {w w' : World} {p : World → Prop} (h : At w p) (he : Ext w w') : At w' p := fun x hx => h x (he.trans hx)
theorem At.lies {w : World} {t : Tr} {v : Value} (h : Lies w t v) : At w (fun w' => Lies w' t v) := fun _ hx => h.ext hx
theorem At.liesK {w : World} {A : Option Addr} {ks : List Tr} (h : LiesK w A ks) : At w (fun w' => LiesK w' A ks) := fun _ hx => h.ext hx
theorem At.of_blk3 {w : World} {g : Nat} {x0 x1 x2 : Value} {e : TypeId} (hb : w.heap[g]? = some (.cells #[x0, x1, x2] e (0, 0))) :
    At w (fun w' => w'.cell? ⟨g, 0, none⟩ = some x0 ∧ w'.cell? ⟨g, 1, none⟩ = some x1 ∧ w'.cell? ⟨g, 2, none⟩ = some x2) := fun _ hx =>
  ⟨hx.cell (cell_of_blk hb 0), hx.cell (cell_of_blk hb 1), hx.cell (cell_of_blk hb 2)⟩
theorem At.and {w : World} {p q : World → Prop} (h : At w p) (k : At w q) : At w (fun w' => p w' ∧ q w') := fun x hx => ⟨h x hx, k x hx⟩

/-- A world that has what W had, and more. -/
structure Later (W : World) where
  world : World
  ext : Ext W world

instance (W : World) : Nonempty (Later W) := ⟨⟨W, Ext.refl W⟩⟩

theorem wp_region_later {P : Program} {id : Nat} {Q : Exit → Act → World → Prop} {a : Act} {W : World} {l : List Oper} (hm : P.follows .mixedOrders = true) (hB : Region.lexB .any l.toArray = true)
    (h : wpQuiet P l.toArray (fun w' => ∃ x : Later W, w' = x.world) (fun a' => ∀ w', (∃ x : Later W, w' = x.world) → Q .normal a' w') l a) : (Code.region id l.toArray true).wp P Q a W :=
  wp_region_quiet (C := fun w' => ∃ x : Later W, w' = x.world) hm hB ⟨⟨_, (Ext.refl W).drew⟩, rfl⟩ (by simpa using h)

theorem later_of {P : Program} {f : FuncId} {args : Array Value} {W : World} {x : Later W} {v : Value} (h : Calls P f args x.world fun e w' => e = .returned v ∧ Ext x.world w') :
    Calls P f args x.world fun e w'' => e = .returned v ∧ ∃ y : Later W, w'' = y.world :=
  h.mono fun e w' ⟨he, hw⟩ => ⟨he, ⟨w', x.ext.trans hw⟩, rfl⟩
theorem later_of_same {P : Program} {f : FuncId} {args : Array Value} {W : World} {x : Later W} {v : Value} (h : Calls P f args x.world fun e w' => e = .returned v ∧ x.world = w') :
    Calls P f args x.world fun e w'' => e = .returned v ∧ ∃ y : Later W, w'' = y.world :=
  h.mono fun e w' ⟨he, hw⟩ => ⟨he, x, hw.symm⟩
/-- A struct's three cells, in every later world. -/
theorem Later.own3 {W : World} {g : Nat} {x0 x1 x2 : Value} {e : TypeId} (hb : W.heap[g]? = some (.cells #[x0, x1, x2] e (0, 0))) :
    (∀ y : Later W, y.world.cell? ⟨g, 0, none⟩ = some x0) ∧ (∀ y : Later W, y.world.cell? ⟨g, 1, none⟩ = some x1) ∧ (∀ y : Later W, y.world.cell? ⟨g, 2, none⟩ = some x2) :=
  ⟨fun y => y.ext.cell (cell_of_blk hb 0), fun y => y.ext.cell (cell_of_blk hb 1), fun y => y.ext.cell (cell_of_blk hb 2)⟩
theorem Later.cell {W : World} {b o : Nat} {v : Value} (h : W.cell? ⟨b, o, none⟩ = some v) (y : Later W) : y.world.cell? ⟨b, o, none⟩ = some v := y.ext.cell h
end Go.Proofs.Ytappakllopkfiaa

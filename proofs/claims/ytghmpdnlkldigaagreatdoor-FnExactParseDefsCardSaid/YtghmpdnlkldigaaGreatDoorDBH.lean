/-
  Lemmas towards the law, 34: Sub.
-/
import Derived.Test.YtghmpdnlkldigaaGreatDoorDAW
namespace Go.Proofs.YtghmpdnlkldigaaGreatDoor
open Go.RowKit
set_option linter.unusedVariables false
/-- The zero term. -/
def dflt0 : Tr := .mk 0 0 []
def hsh (y c : Int) (n b : Int) : Bool := if c ≤ n - b then decide (c ≤ n + y - b) && decide (n + y ≤ 20) else true
end Go.Proofs.YtghmpdnlkldigaaGreatDoor

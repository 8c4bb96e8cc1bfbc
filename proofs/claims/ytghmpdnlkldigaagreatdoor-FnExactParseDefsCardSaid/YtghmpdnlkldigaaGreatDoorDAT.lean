/-
  Lemmas towards the law, 20: Parse7.
-/
import Derived.Test.YtghmpdnlkldigaaGreatDoorDAS
namespace Go.Proofs.YtghmpdnlkldigaaGreatDoor
open Go.RowKit
set_option linter.unusedVariables false
theorem ofL_tl (l : List UInt8) : (ofL l).toList = l := by rw [ByteArray.toList_eq, ofL_list]
end Go.Proofs.YtghmpdnlkldigaaGreatDoor

/-
  laws.toIntS, laws.eqIntS.
-/
import Derived.Test.YtjgdckkeojehoaaNums
import Derived.StillTailTactics
namespace Go.Proofs.Ytjgdckkeojehoaa
open Go.RowKit
set_option linter.unusedVariables false

end Go.Proofs.Ytjgdckkeojehoaa

/-
  laws.toIntS, laws.eqIntS.
-/
import Derived.Test.YtappakllopkfiaaNums
import Derived.StillTailTactics
namespace Go.Proofs.Ytappakllopkfiaa
open Go.RowKit
set_option linter.unusedVariables false

end Go.Proofs.Ytappakllopkfiaa

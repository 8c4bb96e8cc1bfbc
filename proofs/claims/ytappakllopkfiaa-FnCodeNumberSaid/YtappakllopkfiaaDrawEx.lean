/-
  Drawing the argument of ExtractTerm.
-/
import Derived.Test.YtappakllopkfiaaDrawRe
import Derived.Test.YtappakllopkfiaaNat2
namespace Go.Proofs.Ytappakllopkfiaa
open Go.RowKit
set_option linter.unusedVariables false
attribute [local go_sem ↓] Go.wp_at_zero Go.wp_at_succ

end Go.Proofs.Ytappakllopkfiaa

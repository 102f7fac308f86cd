/-
  Transfers and data that may be come back. (Printed by gen.py out of w_dealb.py.)
-/
import Derived.Test.YtancdgbclbkpkaaFApp
import Derived.Test.YtancdgbclbkpkaaDeal2
namespace Go.Proofs.Ytancdgbclbkpkaa
open Go
set_option maxRecDepth 20000
set_option linter.unusedVariables false
set_option linter.unusedSimpArgs false
end Go.Proofs.Ytancdgbclbkpkaa


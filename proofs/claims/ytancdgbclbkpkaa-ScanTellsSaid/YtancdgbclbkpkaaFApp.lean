/-
  Fields that can be put, and come back. (Printed by gen.py out of w_fapp.py.)
-/
import Derived.Test.YtancdgbclbkpkaaFObj
namespace Go.Proofs.Ytancdgbclbkpkaa
open Go
set_option maxRecDepth 20000
set_option linter.unusedVariables false
set_option linter.unusedSimpArgs false
end Go.Proofs.Ytancdgbclbkpkaa


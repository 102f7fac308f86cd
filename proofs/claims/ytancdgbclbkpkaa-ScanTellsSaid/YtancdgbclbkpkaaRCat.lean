/-
  WALKS: the reference's two as one. (Printed by gen.py out of w_rcat.py.)
-/
import Derived.Test.YtancdgbclbkpkaaTy
import Derived.Test.YtancdgbclbkpkaaMB
namespace Go.Proofs.Ytancdgbclbkpkaa
open Go
set_option linter.unusedVariables false
set_option linter.unusedSimpArgs false
end Go.Proofs.Ytancdgbclbkpkaa


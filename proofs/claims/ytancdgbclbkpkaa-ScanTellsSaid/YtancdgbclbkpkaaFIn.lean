/-
  WALKS: field.In. (Printed by gen.py out of w_fin.py.)
-/
import Derived.Test.YtancdgbclbkpkaaFOut
import Derived.Test.YtancdgbclbkpkaaMB
namespace Go.Proofs.Ytancdgbclbkpkaa
open Go
set_option maxRecDepth 20000
set_option linter.unusedVariables false
set_option linter.unusedSimpArgs false
end Go.Proofs.Ytancdgbclbkpkaa


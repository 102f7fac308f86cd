/-
  WALKS: fields read, by the reference. (Printed by gen.py out of w_frd.py.)
-/
import Derived.Test.YtancdgbclbkpkaaFWr
import Derived.Test.YtancdgbclbkpkaaMB
namespace Go.Proofs.Ytancdgbclbkpkaa
open Go
set_option maxRecDepth 20000
set_option linter.unusedVariables false
set_option linter.unusedSimpArgs false
end Go.Proofs.Ytancdgbclbkpkaa


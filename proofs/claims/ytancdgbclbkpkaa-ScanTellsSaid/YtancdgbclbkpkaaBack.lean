/-
  WALKS: the laws of layer 2. (Printed by gen.py out of w_lblob.py.)
-/
import Derived.Test.YtancdgbclbkpkaaRUnw
import Derived.Test.YtancdgbclbkpkaaNBk
namespace Go.Proofs.Ytancdgbclbkpkaa
open Go
set_option linter.unusedVariables false
set_option linter.unusedSimpArgs false
end Go.Proofs.Ytancdgbclbkpkaa


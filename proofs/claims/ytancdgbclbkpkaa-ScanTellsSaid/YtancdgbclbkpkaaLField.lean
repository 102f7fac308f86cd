/-
  WALKS: the laws over field: alive, FieldNobody. (Printed by gen.py out of w_lfield.py.)
-/
import Derived.Test.YtancdgbclbkpkaaFIn
namespace Go.Proofs.Ytancdgbclbkpkaa
open Go
set_option maxRecDepth 20000
set_option linter.unusedVariables false
set_option linter.unusedSimpArgs false
end Go.Proofs.Ytancdgbclbkpkaa


/-
  WALKS: wide numbers' octets, the other one. (Printed by gen.py out of w_bwide2.py.)
-/
import Derived.Test.YtancdgbclbkpkaaBWide
namespace Go.Proofs.Ytancdgbclbkpkaa
open Go
set_option maxRecDepth 20000
set_option linter.unusedVariables false
set_option linter.unusedSimpArgs false
end Go.Proofs.Ytancdgbclbkpkaa


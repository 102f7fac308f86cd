/-
  WALKS: transfers read, keys, digests, payloads. (Printed by gen.py out of w_deal2.py.)
-/
import Derived.Test.YtancdgbclbkpkaaDeal
namespace Go.Proofs.Ytancdgbclbkpkaa
open Go
set_option maxRecDepth 20000
set_option linter.unusedVariables false
set_option linter.unusedSimpArgs false
end Go.Proofs.Ytancdgbclbkpkaa


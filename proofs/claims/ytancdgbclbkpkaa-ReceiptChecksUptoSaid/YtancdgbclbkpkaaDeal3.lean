/-
  WALKS: keys, digests and payloads of transfers. (Printed by gen.py out of w_deal3.py.)
-/
import Derived.Test.YtancdgbclbkpkaaDeal2
import Derived.Test.YtancdgbclbkpkaaHTxt
namespace Go.Proofs.Ytancdgbclbkpkaa
open Go
set_option maxRecDepth 20000
set_option linter.unusedVariables false
set_option linter.unusedSimpArgs false
end Go.Proofs.Ytancdgbclbkpkaa


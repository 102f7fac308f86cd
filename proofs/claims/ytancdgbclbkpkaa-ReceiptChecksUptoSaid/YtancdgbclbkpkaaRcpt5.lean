/-
  WALKS: the law ReceiptTells. (Printed by gen.py out of w_rcpt5.py.)
-/
import Derived.Test.YtancdgbclbkpkaaRcpt4
namespace Go.Proofs.Ytancdgbclbkpkaa
open Go
set_option maxRecDepth 20000
set_option linter.unusedVariables false
set_option linter.unusedSimpArgs false
end Go.Proofs.Ytancdgbclbkpkaa


/-
  WALKS: the reference's Cmp. (Printed by gen.py out of w_rcmp.py.)
-/
import Derived.Test.YtnodpljgcdkbkaaCmp
namespace Go.Proofs.Ytnodpljgcdkbkaa
open Go
set_option maxRecDepth 20000
set_option linter.unusedVariables false
set_option linter.unusedSimpArgs false
end Go.Proofs.Ytnodpljgcdkbkaa


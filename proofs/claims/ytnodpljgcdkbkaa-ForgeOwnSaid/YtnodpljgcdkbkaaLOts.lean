/-
  WALKS: the laws OtsTells, OtsOpens, OtsBack. (Printed by gen.py out of w_lots.py.)
-/
import Derived.Test.YtnodpljgcdkbkaaOOpen
namespace Go.Proofs.Ytnodpljgcdkbkaa
open Go
set_option maxRecDepth 20000
set_option linter.unusedVariables false
set_option linter.unusedSimpArgs false
end Go.Proofs.Ytnodpljgcdkbkaa


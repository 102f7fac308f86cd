/-
  WALKS: fields read, by the reference. (Printed by gen.py out of w_frd.py.)
-/
import Derived.Test.YtnodpljgcdkbkaaFWr
import Derived.Test.YtnodpljgcdkbkaaMB
namespace Go.Proofs.Ytnodpljgcdkbkaa
open Go
set_option maxRecDepth 20000
set_option linter.unusedVariables false
set_option linter.unusedSimpArgs false
end Go.Proofs.Ytnodpljgcdkbkaa


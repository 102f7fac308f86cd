/-
  WALKS: the reference's sums. (Printed by gen.py out of w_href.py.)
-/
import Derived.Test.YtnodpljgcdkbkaaHSum
namespace Go.Proofs.Ytnodpljgcdkbkaa
open Go
set_option maxRecDepth 20000
set_option linter.unusedVariables false
set_option linter.unusedSimpArgs false
def hO (h : Q8) (K : Nat → Int) : Hp := ⟨2, [(0, some (.plain h.cells)), (1, some (.plain (u64L K)))], false⟩
end Go.Proofs.Ytnodpljgcdkbkaa


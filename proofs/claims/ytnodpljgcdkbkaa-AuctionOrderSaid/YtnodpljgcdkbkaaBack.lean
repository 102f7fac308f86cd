/-
  WALKS: the laws of layer 2. (Printed by gen.py out of w_lblob.py.)
-/
import Derived.Test.YtnodpljgcdkbkaaRUnw
import Derived.Test.YtnodpljgcdkbkaaNBk
namespace Go.Proofs.Ytnodpljgcdkbkaa
open Go
set_option linter.unusedVariables false
set_option linter.unusedSimpArgs false
theorem wideL_length (x0 x1 x2 x3 : Int) : (wideL x0 x1 x2 x3).length = 32 := by simp [wideL, numL_length]
end Go.Proofs.Ytnodpljgcdkbkaa


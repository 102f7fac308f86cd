/-
  NUMBERS back from their octets. (Printed by gen.py out of w_nbk.py.)
-/
import Derived.Test.YtopfpkmdkcjjlaaBInt
namespace Go.Proofs.Ytopfpkmdkcjjlaa
open Go
set_option linter.unusedVariables false
set_option linter.unusedSimpArgs false
theorem eqB {a b : Bool} (h : a = b) : AVal.r (.bool a) = AVal.r (.bool b) := by rw [h]
end Go.Proofs.Ytopfpkmdkcjjlaa


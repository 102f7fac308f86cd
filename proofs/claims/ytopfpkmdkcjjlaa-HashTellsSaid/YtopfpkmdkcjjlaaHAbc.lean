/-
  A sum, reckoned. (Printed by gen.py out of w_habc.py.)
-/
import Derived.Test.YtopfpkmdkcjjlaaHRef
namespace Go.Proofs.Ytopfpkmdkcjjlaa
open Go
set_option maxRecDepth 20000
set_option linter.unusedVariables false
set_option linter.unusedSimpArgs false
theorem sha_abc : (sha [97, 98, 99]).take 4 = [186, 120, 22, 191] := by decide +kernel
end Go.Proofs.Ytopfpkmdkcjjlaa


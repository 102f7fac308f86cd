/-
  WALKS: slices.Clone of octets. (Printed by gen.py out of w_clone.py.)
-/
import Derived.Test.YtopfpkmdkcjjlaaTy
import Derived.Test.YtopfpkmdkcjjlaaMB
namespace Go.Proofs.Ytopfpkmdkcjjlaa
open Go
set_option maxRecDepth 20000
set_option linter.unusedVariables false
set_option linter.unusedSimpArgs false
def hB1 (s : List UInt8) : Hp := ⟨1, [(0, some (.bytes s))], false⟩
end Go.Proofs.Ytopfpkmdkcjjlaa


/-
  WALKS: octets. (Printed by gen.py out of w_blob.py.)
-/
import Derived.Test.YtopfpkmdkcjjlaaTy
namespace Go.Proofs.Ytopfpkmdkcjjlaa
open Go
set_option linter.unusedVariables false
set_option linter.unusedSimpArgs false
end Go.Proofs.Ytopfpkmdkcjjlaa


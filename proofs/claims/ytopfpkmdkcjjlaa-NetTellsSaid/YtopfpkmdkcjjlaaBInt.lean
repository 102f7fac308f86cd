/-
  WALKS: numbers of octets. (Printed by gen.py out of w_bint.py.)
-/
import Derived.Test.YtopfpkmdkcjjlaaBlob
namespace Go.Proofs.Ytopfpkmdkcjjlaa
open Go
set_option linter.unusedVariables false
set_option linter.unusedSimpArgs false
end Go.Proofs.Ytopfpkmdkcjjlaa


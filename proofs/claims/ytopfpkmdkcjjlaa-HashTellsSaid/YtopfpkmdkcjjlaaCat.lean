/-
  WALKS: slices.Grow, slices.Concat, blob.Cat, of octets. (Printed by gen.py out of w_cat.py.)
-/
import Derived.Test.YtopfpkmdkcjjlaaClone
import Derived.Test.YtopfpkmdkcjjlaaMB
namespace Go.Proofs.Ytopfpkmdkcjjlaa
open Go
set_option maxRecDepth 20000
set_option linter.unusedVariables false
set_option linter.unusedSimpArgs false
def hS (n : Nat) (s : List UInt8) : Hp := ⟨2, [(0, some (.mixed [.sl 1 0 n 1])), (1, some (.bytes s))], false⟩
end Go.Proofs.Ytopfpkmdkcjjlaa


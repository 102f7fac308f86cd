/-
  WALKS: wide numbers back from their octets, the reference's. (Printed by gen.py out of w_runw.py.)
-/
import Derived.Test.YtnodpljgcdkbkaaUnw
namespace Go.Proofs.Ytnodpljgcdkbkaa
open Go
set_option linter.unusedVariables false
set_option linter.unusedSimpArgs false
def d2 (b : List UInt8) (k : Nat) : Int := fB b (2 * (15 - k)) 2
end Go.Proofs.Ytnodpljgcdkbkaa


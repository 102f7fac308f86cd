/-
  WALKS: wide numbers back from their octets. (Printed by gen.py out of w_unw.py.)
-/
import Derived.Test.YtnodpljgcdkbkaaBWide2
namespace Go.Proofs.Ytnodpljgcdkbkaa
open Go
set_option linter.unusedVariables false
set_option linter.unusedSimpArgs false
def fB (b : List UInt8) (s n : Nat) : Int := intF ((b.drop s).take n)
end Go.Proofs.Ytnodpljgcdkbkaa


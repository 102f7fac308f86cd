/-
  WALKS: wide numbers' octets. (Printed by gen.py out of w_bwide.py.)
-/
import Derived.Test.YtnodpljgcdkbkaaBInt
namespace Go.Proofs.Ytnodpljgcdkbkaa
open Go
set_option linter.unusedVariables false
set_option linter.unusedSimpArgs false
def U64 (x : Int) : Prop := 0 ≤ x ∧ x < 18446744073709551616
def wideL (x0 x1 x2 x3 : Int) : List UInt8 := numL 8 x3 ++ (numL 8 x2 ++ (numL 8 x1 ++ numL 8 x0))
end Go.Proofs.Ytnodpljgcdkbkaa


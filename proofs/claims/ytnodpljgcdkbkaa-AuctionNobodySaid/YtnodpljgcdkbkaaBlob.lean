/-
  WALKS: octets. (Printed by gen.py out of w_blob.py.)
-/
import Derived.Test.YtnodpljgcdkbkaaTy
namespace Go.Proofs.Ytnodpljgcdkbkaa
open Go
set_option linter.unusedVariables false
set_option linter.unusedSimpArgs false
/-- So many octets of a number, the last one first reckoned. -/
def numL : Nat → Int → List UInt8
  | 0, _ => []
  | k + 1, u => numL k (u / 256) ++ [UInt8.ofNat (u % 256).toNat]
end Go.Proofs.Ytnodpljgcdkbkaa


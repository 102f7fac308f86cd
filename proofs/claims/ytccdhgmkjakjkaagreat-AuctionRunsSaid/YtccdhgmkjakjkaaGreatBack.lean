/-
  WALKS: wide numbers back from their octets. (Printed by gen.py out of w_unw.py.)
  WALKS: wide numbers back from their octets, the reference's. (Printed by gen.py out of w_runw.py.)
  WALKS: the laws of layer 2. (Printed by gen.py out of w_lblob.py.)
-/
import Derived.Test.YtccdhgmkjakjkaaGreatBWide2
import Derived.Test.YtccdhgmkjakjkaaGreatNBk
namespace Go.Proofs.YtccdhgmkjakjkaaGreat
open Go
set_option linter.unusedVariables false
set_option linter.unusedSimpArgs false
def fB (b : List UInt8) (s n : Nat) : Int := intF ((b.drop s).take n)
end Go.Proofs.YtccdhgmkjakjkaaGreat
namespace Go.Proofs.YtccdhgmkjakjkaaGreat
open Go
set_option linter.unusedVariables false
set_option linter.unusedSimpArgs false
def d2 (b : List UInt8) (k : Nat) : Int := fB b (2 * (15 - k)) 2
end Go.Proofs.YtccdhgmkjakjkaaGreat
namespace Go.Proofs.YtccdhgmkjakjkaaGreat
open Go
set_option linter.unusedVariables false
set_option linter.unusedSimpArgs false
theorem wideL_length (x0 x1 x2 x3 : Int) : (wideL x0 x1 x2 x3).length = 32 := by simp [wideL, numL_length]
end Go.Proofs.YtccdhgmkjakjkaaGreat

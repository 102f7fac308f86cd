/-
  WALKS: numbers of octets. (Printed by gen.py out of w_bint.py.)
-/
import Derived.Test.YtnodpljgcdkbkaaBlob
namespace Go.Proofs.Ytnodpljgcdkbkaa
open Go
set_option linter.unusedVariables false
set_option linter.unusedSimpArgs false
def intF (l : List UInt8) : Int := l.foldl (fun n c => n * 256 + (c.toNat : Int)) 0
def intB (b : List UInt8) : Int := intF (b.take 7)
end Go.Proofs.Ytnodpljgcdkbkaa


/-
  WALKS: lists held against each other, plainly. (Printed by gen.py out of w_plain.py.)
-/
import Derived.Test.YtnodpljgcdkbkaaODig
namespace Go.Proofs.Ytnodpljgcdkbkaa
open Go
set_option maxRecDepth 20000
set_option linter.unusedVariables false
set_option linter.unusedSimpArgs false
def sL (l : List (List UInt8)) : List RVal := l.map .str
def roS (l : List (List UInt8)) : AVal := .r (.ro l.length (sL l))
end Go.Proofs.Ytnodpljgcdkbkaa


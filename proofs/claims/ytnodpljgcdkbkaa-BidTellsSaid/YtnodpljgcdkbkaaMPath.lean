/-
  WALKS: paths, signatures and their leaves (mss.Path, Sign, Leaf, and the reference's). (Printed by gen.py out of w_mpath.py.)
-/
import Derived.Test.YtnodpljgcdkbkaaMRow
import Derived.Test.YtnodpljgcdkbkaaLOts
namespace Go.Proofs.Ytnodpljgcdkbkaa
open Go
set_option maxRecDepth 20000
set_option linter.unusedVariables false
set_option linter.unusedSimpArgs false
end Go.Proofs.Ytnodpljgcdkbkaa


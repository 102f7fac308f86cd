/-
  WALKS: wide.Cmp. (Printed by gen.py out of w_cmp.py.)
-/
import Derived.Test.YtnodpljgcdkbkaaBWide
namespace Go.Proofs.Ytnodpljgcdkbkaa
open Go
set_option maxRecDepth 20000
set_option linter.unusedVariables false
set_option linter.unusedSimpArgs false
def hG (X : AVal) (B : List AVal) (r : Int) : Hp := ⟨3, [(0, some (.mixed B)), (1, some (.mixed [.r (.int .i64 r)])), (2, some (.mixed [X]))], !decide (r = 0)⟩
end Go.Proofs.Ytnodpljgcdkbkaa


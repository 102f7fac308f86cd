/-
  WALKS: field.Out. (Printed by gen.py out of w_fout.py.)
-/
import Derived.Test.YtnodpljgcdkbkaaTy
import Derived.Test.YtnodpljgcdkbkaaMB
import Derived.Test.YtnodpljgcdkbkaaBWide
import Derived.Test.YtnodpljgcdkbkaaNBk
namespace Go.Proofs.Ytnodpljgcdkbkaa
open Go
set_option maxRecDepth 20000
set_option linter.unusedVariables false
set_option linter.unusedSimpArgs false
/-- Fields that are written: no octets yet; some; some in a new block. -/
def oN (e : Int) (m : Bool) : Hp := ⟨1, [(0, some (.mixed [.r .nil, .r (.int .i64 e), .r (.bool m)]))], false⟩
def oB (s : List UInt8) (e : Int) (m : Bool) : Hp := ⟨2, [(0, some (.mixed [.sl 1 0 s.length 1, .r (.int .i64 e), .r (.bool m)])), (1, some (.bytes s))], false⟩
def txt (t : List UInt8) : List UInt8 := numL 2 (t.length : Int) ++ t
end Go.Proofs.Ytnodpljgcdkbkaa


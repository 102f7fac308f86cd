/-
  WALKS: blob.Cut of read-only octets. (Printed by gen.py out of w_cut.py.)
-/
import Derived.Test.YtnodpljgcdkbkaaTy
import Derived.Test.YtnodpljgcdkbkaaMB
namespace Go.Proofs.Ytnodpljgcdkbkaa
open Go
set_option maxRecDepth 20000
set_option linter.unusedVariables false
set_option linter.unusedSimpArgs false
def hK (b : List UInt8) (sz : Int) (acc : List (List UInt8)) : Hp :=
  match acc with
  | [] => ⟨3, [(0, some (.mixed [.r .nil])), (1, some (.mixed [.r (.bs b)])), (2, some (.mixed [.r (.int .i64 sz)]))], false⟩
  | c :: l => ⟨4, [(0, some (.mixed [.sl 3 0 (c :: l).length 1])), (1, some (.mixed [.r (.bs b)])), (2, some (.mixed [.r (.int .i64 sz)])), (3, some (.plain ((c :: l).map .bs)))], false⟩
end Go.Proofs.Ytnodpljgcdkbkaa


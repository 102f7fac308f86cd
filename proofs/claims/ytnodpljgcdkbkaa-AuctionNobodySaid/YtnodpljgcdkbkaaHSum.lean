/-
  WALKS: hash.Sum. (Printed by gen.py out of w_hsum.py.)
-/
import Derived.Test.YtnodpljgcdkbkaaHKey
import Derived.Test.YtnodpljgcdkbkaaTy
import Derived.Test.YtnodpljgcdkbkaaMB
import Derived.Test.YtnodpljgcdkbkaaNBk
namespace Go.Proofs.Ytnodpljgcdkbkaa
open Go
set_option maxRecDepth 20000
set_option linter.unusedVariables false
set_option linter.unusedSimpArgs false
def Q8.ok (s : Q8) : Prop := U32 s.a ∧ U32 s.b ∧ U32 s.c ∧ U32 s.d ∧ U32 s.e ∧ U32 s.f ∧ U32 s.g ∧ U32 s.h
def hH (p : List UInt8) (s : Q8) : Hp := ⟨4, [(0, some (.plain s.cells)), (1, some (.plain (u64L keyF))), (2, some (.mixed [.r (.bs p)])), (3, some (.mixed [.r (.int .i64 64)]))], false⟩
def hV (p : List UInt8) (s v : Q8) : Hp := ⟨5, [(0, some (.plain s.cells)), (1, some (.plain (u64L keyF))), (2, some (.mixed [.r (.bs p)])), (3, some (.mixed [.r (.int .i64 64)])), (4, some (.plain v.cells))], false⟩
end Go.Proofs.Ytnodpljgcdkbkaa


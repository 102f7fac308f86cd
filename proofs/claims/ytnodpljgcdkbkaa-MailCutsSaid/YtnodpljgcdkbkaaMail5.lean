/-
  WALKS: messages of octets, by the reference. (Printed by gen.py out of w_mail5.py.)
-/
import Derived.Test.YtnodpljgcdkbkaaMail4
namespace Go.Proofs.Ytnodpljgcdkbkaa
open Go
set_option maxRecDepth 20000
set_option linter.unusedVariables false
set_option linter.unusedSimpArgs false
theorem w_mRead (b : List UInt8) : Pur Try.prog 12 [.r (.bs b)] (.tuple [msgA (rdM b).1, .r (.int .i64 (rdM b).2)]) := by
  rcases mcase (gNu (opR b) M40).1 with h | h | h | h
  · exact w_mRead1 b _ rfl h
  · exact w_mRead2 b _ rfl h
  · exact w_mRead3 b _ rfl h
  · exact w_mRead0 b _ rfl h
end Go.Proofs.Ytnodpljgcdkbkaa


/-
  WALKS: messages told by the reference, and put. (Printed by gen.py out of w_mail2.py.)
-/
import Derived.Test.YtnodpljgcdkbkaaMail
namespace Go.Proofs.Ytnodpljgcdkbkaa
open Go
set_option maxRecDepth 20000
set_option linter.unusedVariables false
set_option linter.unusedSimpArgs false
section
variable {P : Program} {T : TTab} {N : Nat} {ops : Array Oper} {o : Oper} {rest : List Oper} {g : Regs} {ld : List Nat} {K ix : Nat} {F : Regs → Prop}
end
end Go.Proofs.Ytnodpljgcdkbkaa


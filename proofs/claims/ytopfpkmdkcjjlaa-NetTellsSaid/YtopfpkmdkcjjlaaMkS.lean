/-
  ABSTRACT MACHINE, beside the others: 'make' of a slice of structs, read-only.
-/
import Derived.Test.YtopfpkmdkcjjlaaMB
namespace Go.Proofs.Ytopfpkmdkcjjlaa
open Go
set_option linter.unusedVariables false
section
variable {P : Program} {T : TTab} {N : Nat} {o : Oper} {g g' : Regs} {h : Hp}
end
end Go.Proofs.Ytopfpkmdkcjjlaa


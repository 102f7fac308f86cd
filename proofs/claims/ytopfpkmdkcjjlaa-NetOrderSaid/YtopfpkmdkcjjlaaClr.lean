/-
  ABSTRACT MACHINE, beside the others: 'clear(s)', s a slice of an owned block: what lies ahead of it stays told.
-/
import Derived.Test.YtopfpkmdkcjjlaaMB
namespace Go.Proofs.Ytopfpkmdkcjjlaa
open Go
set_option linter.unusedVariables false
section
variable {P : Program} {T : TTab} {f N : Nat} {m : Md} {ops : Array Oper} {o : Oper} {rest : List Oper} {k : List Item} {g g' : Regs} {h h' : Hp} {Post : AVal → Hp → Prop}
theorem zeroCells_rep (z : Array Value) (n : Nat) : (Builtin.zeroCells z n).toList = (List.replicate n z.toList).flatten := by
  rw [Builtin.zeroCells]; exact range_mod z n
end
end Go.Proofs.Ytopfpkmdkcjjlaa


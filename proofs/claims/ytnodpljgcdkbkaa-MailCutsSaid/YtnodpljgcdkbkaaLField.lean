/-
  WALKS: the laws over field: alive, FieldNobody. (Printed by gen.py out of w_lfield.py.)
-/
import Derived.Test.YtnodpljgcdkbkaaFIn
namespace Go.Proofs.Ytnodpljgcdkbkaa
open Go
set_option maxRecDepth 20000
set_option linter.unusedVariables false
set_option linter.unusedSimpArgs false

theorem w_NumXA (n e : Int) : Spec Try.prog 42 [.ptr 0 0, .r (.int .i64 n)] (oN e false) (fun v h' => v = .tuple [] ∧ h' = oN e false) := by
  by_cases hn : n < 0 ∨ n > 1099511627776
  · exact w_NumXr n e hn
  · exact w_NumX n e hn
theorem w_Num0A (n : Int) : Pur Try.prog 42 [.r .nilp, .r (.int .i64 n)] (.tuple []) := by
  by_cases hn : n < 0 ∨ n > 1099511627776
  · exact w_Num0r n hn
  · exact w_Num0 n hn
theorem w_TextXA (t : List UInt8) (ht : t.length ≤ 140737488351232) (e : Int) : Spec Try.prog 45 [.ptr 0 0, .r (.str t)] (oN e false) (fun v h' => v = .tuple [] ∧ h' = oN e false) := by
  by_cases hn : t.length > 1024
  · exact w_TextXr t ht e hn
  · exact w_TextX t ht e hn
theorem w_Text0A (t : List UInt8) (ht : t.length ≤ 140737488351232) : Pur Try.prog 45 [.r .nilp, .r (.str t)] (.tuple []) := by
  by_cases hn : t.length > 1024
  · exact w_Text0r t ht hn
  · exact w_Text0 t ht hn

end Go.Proofs.Ytnodpljgcdkbkaa

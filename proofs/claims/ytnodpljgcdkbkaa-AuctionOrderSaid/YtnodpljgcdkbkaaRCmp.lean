/-
  WALKS: the reference's Cmp. (Printed by gen.py out of w_rcmp.py.)
-/
import Derived.Test.YtnodpljgcdkbkaaCmp
namespace Go.Proofs.Ytnodpljgcdkbkaa
open Go
set_option maxRecDepth 20000
set_option linter.unusedVariables false
set_option linter.unusedSimpArgs false
theorem cmpL_eq {x y : Int} {l : List (Int × Int)} (h : x = y) : cmpL ((x, y) :: l) = cmpL l := by subst h; simp [cmpL]
theorem cmpL_lt {x y : Int} {l : List (Int × Int)} (h : x < y) : cmpL ((x, y) :: l) = -1 := by
  rw [cmpL, decide_eq_false (by omega), cond_false, sgn, if_pos h]
theorem cmpL_gt {x y : Int} {l : List (Int × Int)} (h : y < x) : cmpL ((x, y) :: l) = 1 := by
  rw [cmpL, decide_eq_false (by omega), cond_false, sgn, if_neg (by omega), if_pos h]
end Go.Proofs.Ytnodpljgcdkbkaa


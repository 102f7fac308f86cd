/-
  WALKS: wide.Cmp. (Printed by gen.py out of w_cmp.py.)
-/
import Derived.Test.YtopfpkmdkcjjlaaBWide
namespace Go.Proofs.Ytopfpkmdkcjjlaa
open Go
set_option maxRecDepth 20000
set_option linter.unusedVariables false
set_option linter.unusedSimpArgs false
def sgn (x y : Int) : Int := if x < y then -1 else if y < x then 1 else 0
/-- Which of two lists is greater, at the first place where they are unlike. -/
def cmpL : List (Int × Int) → Int
  | [] => 0
  | (x, y) :: l => bif decide (x = y) then cmpL l else sgn x y
def cmpW (x0 x1 x2 x3 b0 b1 b2 b3 : Int) : Int := cmpL [(x3, b3), (x2, b2), (x1, b1), (x0, b0)]
def hG (X : AVal) (B : List AVal) (r : Int) : Hp := ⟨3, [(0, some (.mixed B)), (1, some (.mixed [.r (.int .i64 r)])), (2, some (.mixed [X]))], !decide (r = 0)⟩
end Go.Proofs.Ytopfpkmdkcjjlaa


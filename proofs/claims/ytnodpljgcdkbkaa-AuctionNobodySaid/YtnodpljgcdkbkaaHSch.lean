/-
  WALKS: a block's words, the program's. (Printed by gen.py out of w_hsch.py.)
-/
import Derived.Test.YtnodpljgcdkbkaaTy
import Derived.Test.YtnodpljgcdkbkaaMB
import Derived.Test.YtnodpljgcdkbkaaBInt
namespace Go.Proofs.Ytnodpljgcdkbkaa
open Go
set_option maxRecDepth 20000
set_option linter.unusedVariables false
set_option linter.unusedSimpArgs false
/-- A word of a block; the words of a block, the first i of them. -/
def w4 (p : List UInt8) (i : Nat) : Int := IntKind.u32.wrap (intB ((p.drop (4 * i)).take 4))
def Wst (p : List UInt8) : Nat → Nat → Int
  | 0 => fun _ => 0
  | i + 1 => fun k => if k = i then (if i < 16 then w4 p i else ad (ad (ad (sg1 (Wst p i (i - 2))) (Wst p i (i - 7))) (sg0 (Wst p i (i - 15)))) (Wst p i (i - 16))) else Wst p i k
def hF (F : Nat → Int) : Hp := ⟨2, [(0, some (.plain (u64L fun _ => 0))), (1, some (.plain (u64L F)))], false⟩
def hW (p : List UInt8) (i : Nat) : Hp := hF (Wst p i)
end Go.Proofs.Ytnodpljgcdkbkaa


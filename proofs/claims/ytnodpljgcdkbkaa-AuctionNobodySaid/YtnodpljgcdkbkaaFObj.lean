/-
  WALKS: fields on their way, as one object, and the reference's, by the same functions. (Printed by gen.py out of w_fobj.py.)
-/
import Derived.Test.YtnodpljgcdkbkaaFWr
import Derived.Test.YtnodpljgcdkbkaaMB
namespace Go.Proofs.Ytnodpljgcdkbkaa
open Go
set_option maxRecDepth 20000
set_option linter.unusedVariables false
set_option linter.unusedSimpArgs false
abbrev W := List UInt8 × Int
def wok (w : W) : Prop := w.1.length ≤ 8192 ∧ (w.2 ≠ 0 → w.1 = [])
/-- The object's cells for a state. -/
def oRel (w : W) (sl : Option (List UInt8)) (tl : List RVal) : Prop := tl = [.int .i64 w.2, .bool true] ∧ wok w ∧ (w.2 = 0 → match sl with | none => w.1 = [] | some s => w.1 = s)
theorem oRel.ok {w : W} {sl : Option (List UInt8)} {tl : List RVal} (h : oRel w sl tl) : wok w := h.2.1
end Go.Proofs.Ytnodpljgcdkbkaa


/-
  WALKS: the reference's fields, as they are written. (Printed by gen.py out of w_fref.py.)
-/
import Derived.Test.YtnodpljgcdkbkaaFOut
import Derived.Test.YtnodpljgcdkbkaaMB
import Derived.Test.YtnodpljgcdkbkaaTy
namespace Go.Proofs.Ytnodpljgcdkbkaa
open Go
set_option maxRecDepth 20000
set_option linter.unusedVariables false
set_option linter.unusedSimpArgs false
def wput (w : List UInt8 × Int) (b : List UInt8) (e : Int) : List UInt8 × Int :=
  if w.2 ≠ 0 then w else if e ≠ 0 then ([], e) else if w.1.length + b.length > 8192 then ([], 5) else (w.1 ++ b, 0)
def badN (n : Int) : Prop := n < 0 ∨ n > 1099511627776
instance (n : Int) : Decidable (badN n) := by unfold badN; infer_instance
/-- A field: its kind, a number, a text, a wide number. -/
structure Fd where
  k : Int
  n : Int
  t : List UInt8
  x0 : Int
  x1 : Int
  x2 : Int
  x3 : Int
def Fd.cells (f : Fd) : List RVal := [.int .i64 f.k, .int .i64 f.n, .str f.t, .int .u64 f.x0, .int .u64 f.x1, .int .u64 f.x2, .int .u64 f.x3]
def Fd.ok (f : Fd) : Prop := f.t.length ≤ 140737488351232 ∧ U64 f.x0 ∧ U64 f.x1 ∧ U64 f.x2 ∧ U64 f.x3
def Fd.kd (f : Fd) : Int := (f.k.tmod 3 + 3).tmod 3
end Go.Proofs.Ytnodpljgcdkbkaa


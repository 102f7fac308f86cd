/-
  WALKS: fields written, by the program and by the reference: the law FieldWrites. (Printed by gen.py out of w_fwr.py.)
-/
import Derived.Test.YtnodpljgcdkbkaaFRef
namespace Go.Proofs.Ytnodpljgcdkbkaa
open Go
set_option maxRecDepth 20000
set_option linter.unusedVariables false
set_option linter.unusedSimpArgs false
def fbytes (f : Fd) : List UInt8 := if f.kd = 0 then numL 6 f.n else if f.kd = 1 then txt f.t else wideL f.x0 f.x1 f.x2 f.x3
def fcode (f : Fd) : Int := if f.kd = 0 then (if badN f.n then 4 else 0) else if f.kd = 1 then (if f.t.length > 1024 then 5 else 0) else 0
def wstep (w : List UInt8 × Int) (f : Fd) : List UInt8 × Int := wput w (if fcode f ≠ 0 then [] else fbytes f) (fcode f)
def wf (L : List Fd) (i : Nat) : List UInt8 × Int := (L.take i).foldl wstep ([], 0)
/-- Fields on their way: no octets; some; an error. -/
inductive OR where
  | nil : OR
  | buf (s : List UInt8) : OR
  | errN (e : Int) : OR
  | errB (s : List UInt8) (e : Int) : OR
def OR.hp : OR → Hp
  | .nil => oN 0 true
  | .buf s => oB s 0 true
  | .errN e => oN e true
  | .errB s e => oB s e true
def rel : OR → List UInt8 × Int → Prop
  | .nil, w => w = ([], 0)
  | .buf s, w => w = (s, 0) ∧ s.length ≤ 8192
  | .errN e, w => w = ([], e) ∧ e ≠ 0
  | .errB _ e, w => w = ([], e) ∧ e ≠ 0
section
variable {w : List UInt8 × Int} {f : Fd} {s b : List UInt8} {e : Int}
end
end Go.Proofs.Ytnodpljgcdkbkaa


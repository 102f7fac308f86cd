/-
  WALKS: fields written, by the program and by the reference: the law FieldWrites. (Printed by gen.py out of w_fwr.py.)
-/
import Derived.Test.YtnodpljgcdkbkaaFRef
namespace Go.Proofs.Ytnodpljgcdkbkaa
open Go
set_option maxRecDepth 20000
set_option linter.unusedVariables false
set_option linter.unusedSimpArgs false
def fbytes (f : Fd) : List UInt8 := if f.kd = 0 then numL 6 f.n else if f.kd = 1 then txt f.t else wideL f.x0 f.x1 f.x2 f.x3
def fcode (f : Fd) : Int := if f.kd = 0 then (if badN f.n then 4 else 0) else if f.kd = 1 then (if f.t.length > 1024 then 5 else 0) else 0
def wstep (w : List UInt8 × Int) (f : Fd) : List UInt8 × Int := wput w (if fcode f ≠ 0 then [] else fbytes f) (fcode f)
def wf (L : List Fd) (i : Nat) : List UInt8 × Int := (L.take i).foldl wstep ([], 0)
theorem w_NumEAN (n e : Int) (he : e ≠ 0) : Spec Try.prog 42 [.ptr 0 0, .r (.int .i64 n)] (oN e true) (fun v h' => v = .tuple [] ∧ h' = oN e true) := by
  by_cases hn : n < 0 ∨ n > 1099511627776
  · exact w_NumENr n e he hn
  · exact w_NumEN n e he hn
theorem w_NumEAB (s : List UInt8) (n e : Int) (he : e ≠ 0) : Spec Try.prog 42 [.ptr 0 0, .r (.int .i64 n)] (oB s e true) (fun v h' => v = .tuple [] ∧ h' = oB s e true) := by
  by_cases hn : n < 0 ∨ n > 1099511627776
  · exact w_NumEBr s n e he hn
  · exact w_NumEB s n e he hn
theorem w_TextEAN (t : List UInt8) (ht : t.length ≤ 140737488351232) (e : Int) (he : e ≠ 0) : Spec Try.prog 45 [.ptr 0 0, .r (.str t)] (oN e true) (fun v h' => v = .tuple [] ∧ h' = oN e true) := by
  by_cases hn : t.length > 1024
  · exact w_TextENr t ht e he hn
  · exact w_TextEN t ht e he hn
theorem w_TextEAB (s t : List UInt8) (ht : t.length ≤ 140737488351232) (e : Int) (he : e ≠ 0) : Spec Try.prog 45 [.ptr 0 0, .r (.str t)] (oB s e true) (fun v h' => v = .tuple [] ∧ h' = oB s e true) := by
  by_cases hn : t.length > 1024
  · exact w_TextEBr s t ht e he hn
  · exact w_TextEB s t ht e he hn
/-- Fields on their way: no octets; some; an error. -/
inductive OR where
  | nil : OR
  | buf (s : List UInt8) : OR
  | errN (e : Int) : OR
  | errB (s : List UInt8) (e : Int) : OR
def OR.hp : OR → Hp
  | .nil => oN 0 true
  | .buf s => oB s 0 true
  | .errN e => oN e true
  | .errB s e => oB s e true
def rel : OR → List UInt8 × Int → Prop
  | .nil, w => w = ([], 0)
  | .buf s, w => w = (s, 0) ∧ s.length ≤ 8192
  | .errN e, w => w = ([], e) ∧ e ≠ 0
  | .errB _ e, w => w = ([], e) ∧ e ≠ 0
section
variable {w : List UInt8 × Int} {f : Fd} {s b : List UInt8} {e : Int}
end
end Go.Proofs.Ytnodpljgcdkbkaa


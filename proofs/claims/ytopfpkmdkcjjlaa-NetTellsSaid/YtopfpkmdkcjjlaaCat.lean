/-
  WALKS: slices.Grow, slices.Concat, blob.Cat, of octets. (Printed by gen.py out of w_cat.py.)
-/
import Derived.Test.YtopfpkmdkcjjlaaClone
import Derived.Test.YtopfpkmdkcjjlaaMB
namespace Go.Proofs.Ytopfpkmdkcjjlaa
open Go
set_option maxRecDepth 20000
set_option linter.unusedVariables false
set_option linter.unusedSimpArgs false
def roL (L : List (List UInt8)) : AVal := .r (.ro L.length (L.map .bs))
theorem get_of {L : List (List UInt8)} {i : Nat} (h : i < L.length) : ∃ s, L[i]? = some s := ⟨L[i], by simp [h]⟩
theorem ne_of {L : List (List UInt8)} {i : Nat} {s : List UInt8} (hs : L[i]? = some s) : L.map RVal.bs ≠ [] := by
  cases L with
  | nil => simp at hs
  | cons a l => simp
def hS (n : Nat) (s : List UInt8) : Hp := ⟨2, [(0, some (.mixed [.sl 1 0 n 1])), (1, some (.bytes s))], false⟩
end Go.Proofs.Ytopfpkmdkcjjlaa


/-
  WALKS: the law OtsDigits. (Printed by gen.py out of w_lodig.py.)
-/
import Derived.Test.YtnodpljgcdkbkaaPlain
namespace Go.Proofs.Ytnodpljgcdkbkaa
open Go
set_option maxRecDepth 20000
set_option linter.unusedVariables false
set_option linter.unusedSimpArgs false
theorem roI_of {n : Nat} {l : List Int} (h : l.length = n) : AVal.r (.ro n (cutA (iL l) 0 (n * 1))) = roI l := by
  subst h
  rw [cutA_eq, List.drop_zero, Nat.mul_one, List.take_of_length_le (by simp [iL])]
  rfl
theorem roS_of {n : Nat} {l : List (List UInt8)} (h : l.length = n) : AVal.r (.ro n (cutA (sL l) 0 (n * 1))) = roS l := by
  subst h
  rw [cutA_eq, List.drop_zero, Nat.mul_one, List.take_of_length_le (by simp [sL])]
  rfl
theorem w_DigitsR (text : List UInt8) (hb : text.length ≤ 140737488355000) : Pur Try.prog 77 [.r (.bs text)] (roI (digs text)) := (own_to_ro (w_oDigits text hb) rfl trivial).mono_r (roI_of (digs_length text))
end Go.Proofs.Ytnodpljgcdkbkaa


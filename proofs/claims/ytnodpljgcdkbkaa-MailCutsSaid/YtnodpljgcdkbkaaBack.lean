/-
  WALKS: the laws of layer 2. (Printed by gen.py out of w_lblob.py.)
-/
import Derived.Test.YtnodpljgcdkbkaaRUnw
import Derived.Test.YtnodpljgcdkbkaaNBk
namespace Go.Proofs.Ytnodpljgcdkbkaa
open Go
set_option linter.unusedVariables false
set_option linter.unusedSimpArgs false
theorem numL8_back {x : Int} (h : U64 x) : intF (numL 8 x) = x := by
  rw [intF_numL]; exact Int.emod_eq_of_lt h.1 h.2
theorem fB_wide (x0 x1 x2 x3 : Int) (h0 : U64 x0) (h1 : U64 x1) (h2 : U64 x2) (h3 : U64 x3) :
    wA (fB (wideL x0 x1 x2 x3) 24 8) (fB (wideL x0 x1 x2 x3) 16 8) (fB (wideL x0 x1 x2 x3) 8 8) (fB (wideL x0 x1 x2 x3) 0 8) = wA x0 x1 x2 x3 := by
  have l0 := numL_length 8 x0
  have l1 := numL_length 8 x1
  have l2 := numL_length 8 x2
  have l3 := numL_length 8 x3
  have e0 : fB (wideL x0 x1 x2 x3) 24 8 = x0 := by
    unfold fB wideL
    rw [List.drop_append, List.drop_append, List.drop_append, List.drop_of_length_le (by omega), List.drop_of_length_le (by omega), List.drop_of_length_le (by omega), l3, l2, l1]
    simp only [List.nil_append, Nat.reduceSub, List.drop_zero]
    rw [List.take_of_length_le (by omega), numL8_back h0]
  have e1 : fB (wideL x0 x1 x2 x3) 16 8 = x1 := by
    unfold fB wideL
    rw [List.drop_append, List.drop_append, List.drop_of_length_le (by omega), List.drop_of_length_le (by omega), l3, l2]
    simp only [List.nil_append, Nat.reduceSub, List.drop_zero]
    rw [List.take_append_of_le_length (by omega), List.take_of_length_le (by omega), numL8_back h1]
  have e2 : fB (wideL x0 x1 x2 x3) 8 8 = x2 := by
    unfold fB wideL
    rw [List.drop_append, List.drop_of_length_le (by omega), l3]
    simp only [List.nil_append, Nat.reduceSub, List.drop_zero]
    rw [List.take_append_of_le_length (by omega), List.take_of_length_le (by omega), numL8_back h2]
  have e3 : fB (wideL x0 x1 x2 x3) 0 8 = x3 := by
    unfold fB wideL
    rw [List.drop_zero, List.take_append_of_le_length (by omega), List.take_of_length_le (by omega), numL8_back h3]
  rw [e0, e1, e2, e3]
theorem wideL_length (x0 x1 x2 x3 : Int) : (wideL x0 x1 x2 x3).length = 32 := by simp [wideL, numL_length]
end Go.Proofs.Ytnodpljgcdkbkaa


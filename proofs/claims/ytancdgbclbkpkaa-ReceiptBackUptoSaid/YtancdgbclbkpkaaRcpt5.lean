/-
  WALKS: the law ReceiptTells. (Printed by gen.py out of w_rcpt5.py.)
-/
import Derived.Test.YtancdgbclbkpkaaRcpt4
namespace Go.Proofs.Ytancdgbclbkpkaa
open Go
set_option maxRecDepth 20000
set_option linter.unusedVariables false
set_option linter.unusedSimpArgs false
theorem evsC_len5 (L : List EvV) : (evsC L).length = L.length * 27 := by
  induction L with
  | nil => rfl
  | cons x l ih => simp only [evsC, List.flatMap_cons, List.length_append, List.length_cons] at *; rw [ih, evC_len]; omega
theorem roE_take {L : List EvV} {k : Nat} (h : k ≤ L.length) : AVal.r (.ro (Int.toNat (k : Int)) (List.take (mulz (k : Int) 27) (evsC L))) = roE (L.take k) := by
  have e : evsC L = evsC (L.take k) ++ evsC (L.drop k) := by
    have h1 : evsC (L.take k ++ L.drop k) = evsC (L.take k) ++ evsC (L.drop k) := List.flatMap_append
    rw [List.take_append_drop] at h1
    exact h1
  have hl : (L.take k).length = k := by rw [List.length_take]; omega
  rw [roE, hl, mulz_eq, Int.toNat_natCast, e, List.take_append_of_le_length (by rw [evsC_len5, hl]; exact Nat.le_refl _), List.take_of_length_le (by rw [evsC_len5, hl]; exact Nat.le_refl _)]
end Go.Proofs.Ytancdgbclbkpkaa


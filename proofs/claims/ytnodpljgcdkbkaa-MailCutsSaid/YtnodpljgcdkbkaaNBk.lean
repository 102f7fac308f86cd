/-
  NUMBERS back from their octets. (Printed by gen.py out of w_nbk.py.)
-/
import Derived.Test.YtnodpljgcdkbkaaBInt
namespace Go.Proofs.Ytnodpljgcdkbkaa
open Go
set_option linter.unusedVariables false
set_option linter.unusedSimpArgs false
theorem eqB {a b : Bool} (h : a = b) : AVal.r (.bool a) = AVal.r (.bool b) := by rw [h]
theorem intF_snoc (l : List UInt8) (c : UInt8) : intF (l ++ [c]) = intF l * 256 + (c.toNat : Int) := by simp [intF, List.foldl_append]
theorem emod_mul256 (u : Int) {m : Int} (hm : 0 < m) : u % (256 * m) = (u / 256 % m) * 256 + u % 256 := by
  have h1 := Int.emod_add_mul_ediv u 256
  have h2 := Int.emod_add_mul_ediv (u / 256) m
  have h3 : u = ((u / 256 % m) * 256 + u % 256) + 256 * m * ((u / 256) / m) := by
    have : 256 * m * ((u / 256) / m) = 256 * (m * ((u / 256) / m)) := Int.mul_assoc _ _ _
    rw [this]; omega
  have h4 := Int.emod_nonneg (u / 256) (show m ≠ 0 by omega)
  have h5 := Int.emod_lt_of_pos (u / 256) hm
  have h6 : (((u / 256 % m) * 256 + u % 256) + 256 * m * ((u / 256) / m)) % (256 * m) = (u / 256 % m) * 256 + u % 256 := by
    rw [Int.add_mul_emod_self_left]
    exact Int.emod_eq_of_lt (by omega) (by omega)
  rw [← h3] at h6
  exact h6
theorem intF_numL : ∀ (k : Nat) (u : Int), intF (numL k u) = u % 256 ^ k
  | 0, u => by simp [numL, intF]
  | k + 1, u => by
    rw [numL, intF_snoc, intF_numL k]
    have e : (256 : Int) ^ (k + 1) = 256 * 256 ^ k := by rw [Int.pow_succ, Int.mul_comm]
    have h1 : ((UInt8.ofNat (u % 256).toNat).toNat : Int) = u % 256 := by
      have : (UInt8.ofNat (u % 256).toNat).toNat = (u % 256).toNat := by simp; omega
      rw [this]; omega
    rw [h1, e, emod_mul256 _ (Int.pow_pos (by decide))]
end Go.Proofs.Ytnodpljgcdkbkaa


/-
  WALKS: the laws of layer 2. (Printed by gen.py out of w_lblob.py.)
-/
import Derived.Test.YtplfajhaehkhnaaRUnw
namespace Go.Proofs.Ytplfajhaehkhnaa
open Go
set_option linter.unusedVariables false
set_option linter.unusedSimpArgs false

theorem eqB {a b : Bool} (h : a = b) : AVal.r (.bool a) = AVal.r (.bool b) := by rw [h]

theorem intF_snoc (l : List UInt8) (c : UInt8) : intF (l ++ [c]) = intF l * 256 + (c.toNat : Int) := by simp [intF, List.foldl_append]

theorem emod_mul256 (u : Int) {m : Int} (hm : 0 < m) : u % (256 * m) = (u / 256 % m) * 256 + u % 256 := by
  have h1 := Int.emod_add_mul_ediv u 256
  have h2 := Int.emod_add_mul_ediv (u / 256) m
  have h3 : u = ((u / 256 % m) * 256 + u % 256) + 256 * m * ((u / 256) / m) := by
    have : 256 * m * ((u / 256) / m) = 256 * (m * ((u / 256) / m)) := Int.mul_assoc _ _ _
    rw [this]; omega
  have h4 := Int.emod_nonneg (u / 256) (show m ≠ 0 by omega)
  have h5 := Int.emod_lt_of_pos (u / 256) hm
  have h6 : (((u / 256 % m) * 256 + u % 256) + 256 * m * ((u / 256) / m)) % (256 * m) = (u / 256 % m) * 256 + u % 256 := by
    rw [Int.add_mul_emod_self_left]
    exact Int.emod_eq_of_lt (by omega) (by omega)
  rw [← h3] at h6
  exact h6

theorem intF_numL : ∀ (k : Nat) (u : Int), intF (numL k u) = u % 256 ^ k
  | 0, u => by simp [numL, intF]
  | k + 1, u => by
    rw [numL, intF_snoc, intF_numL k]
    have e : (256 : Int) ^ (k + 1) = 256 * 256 ^ k := by rw [Int.pow_succ, Int.mul_comm]
    have h1 : ((UInt8.ofNat (u % 256).toNat).toNat : Int) = u % 256 := by
      have : (UInt8.ofNat (u % 256).toNat).toNat = (u % 256).toNat := by simp; omega
      rw [this]; omega
    rw [h1, e, emod_mul256 _ (Int.pow_pos (by decide))]

theorem numL8_back {x : Int} (h : U64 x) : intF (numL 8 x) = x := by
  rw [intF_numL]; exact Int.emod_eq_of_lt h.1 h.2

theorem fB_wide (x0 x1 x2 x3 : Int) (h0 : U64 x0) (h1 : U64 x1) (h2 : U64 x2) (h3 : U64 x3) :
    wA (fB (wideL x0 x1 x2 x3) 24 8) (fB (wideL x0 x1 x2 x3) 16 8) (fB (wideL x0 x1 x2 x3) 8 8) (fB (wideL x0 x1 x2 x3) 0 8) = wA x0 x1 x2 x3 := by
  have l0 := numL_length 8 x0
  have l1 := numL_length 8 x1
  have l2 := numL_length 8 x2
  have l3 := numL_length 8 x3
  have e0 : fB (wideL x0 x1 x2 x3) 24 8 = x0 := by
    unfold fB wideL
    rw [List.drop_append, List.drop_append, List.drop_append, List.drop_of_length_le (by omega), List.drop_of_length_le (by omega), List.drop_of_length_le (by omega), l3, l2, l1]
    simp only [List.nil_append, Nat.reduceSub, List.drop_zero]
    rw [List.take_of_length_le (by omega), numL8_back h0]
  have e1 : fB (wideL x0 x1 x2 x3) 16 8 = x1 := by
    unfold fB wideL
    rw [List.drop_append, List.drop_append, List.drop_of_length_le (by omega), List.drop_of_length_le (by omega), l3, l2]
    simp only [List.nil_append, Nat.reduceSub, List.drop_zero]
    rw [List.take_append_of_le_length (by omega), List.take_of_length_le (by omega), numL8_back h1]
  have e2 : fB (wideL x0 x1 x2 x3) 8 8 = x2 := by
    unfold fB wideL
    rw [List.drop_append, List.drop_of_length_le (by omega), l3]
    simp only [List.nil_append, Nat.reduceSub, List.drop_zero]
    rw [List.take_append_of_le_length (by omega), List.take_of_length_le (by omega), numL8_back h2]
  have e3 : fB (wideL x0 x1 x2 x3) 0 8 = x3 := by
    unfold fB wideL
    rw [List.drop_zero, List.take_append_of_le_length (by omega), List.take_of_length_le (by omega), numL8_back h3]
  rw [e0, e1, e2, e3]

theorem wideL_length (x0 x1 x2 x3 : Int) : (wideL x0 x1 x2 x3).length = 32 := by simp [wideL, numL_length]

theorem w_UnwideWide (x0 x1 x2 x3 : Int) (h0 : U64 x0) (h1 : U64 x1) (h2 : U64 x2) (h3 : U64 x3) : Pur Try.prog 53 [.r (.bs (wideL x0 x1 x2 x3))] (.tuple [wA x0 x1 x2 x3, .r (.bool true)]) :=
  (w_Unwide _ (wideL_length x0 x1 x2 x3)).mono_r (by rw [fB_wide x0 x1 x2 x3 h0 h1 h2 h3])

theorem intB_num7 {n : Int} (h : 0 ≤ n ∧ n < 72057594037927936) : intB (numL 7 n) = n := by
  rw [intB, List.take_of_length_le (by rw [numL_length]; omega), intF_numL]
  exact Int.emod_eq_of_lt h.1 h.2

end Go.Proofs.Ytplfajhaehkhnaa

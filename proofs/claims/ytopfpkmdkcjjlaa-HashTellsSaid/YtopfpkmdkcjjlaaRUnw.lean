/-
  WALKS: wide numbers back from their octets, the reference's. (Printed by gen.py out of w_runw.py.)
-/
import Derived.Test.YtopfpkmdkcjjlaaBWide
namespace Go.Proofs.Ytopfpkmdkcjjlaa
open Go
set_option linter.unusedVariables false
set_option linter.unusedSimpArgs false
def pm (D : Nat → Int) (s : Nat) : Nat → Int
  | 0 => 0
  | n + 1 => pm D s n + D (s + n) * 65536 ^ n
theorem pm_bound {D : Nat → Int} (hD : ∀ k, 0 ≤ D k ∧ D k < 65536) (s : Nat) : ∀ n, 0 ≤ pm D s n ∧ pm D s n < 65536 ^ n
  | 0 => by simp [pm]
  | n + 1 => by
    obtain ⟨h1, h2⟩ := pm_bound hD s n
    obtain ⟨h3, h4⟩ := hD (s + n)
    have hp : (0 : Int) < 65536 ^ n := Int.pow_pos (by decide)
    have e : (65536 : Int) ^ (n + 1) = 65536 ^ n * 65536 := Int.pow_succ _ _
    have h5 : D (s + n) * 65536 ^ n ≤ 65535 * 65536 ^ n := Int.mul_le_mul_of_nonneg_right (by omega) (Int.le_of_lt hp)
    have h6 : 0 ≤ D (s + n) * 65536 ^ n := Int.mul_nonneg h3 (Int.le_of_lt hp)
    simp only [pm]
    rw [e]
    generalize D (s + n) * 65536 ^ n = z at h5 h6
    omega
theorem p64 {n : Nat} (hn : n ≤ 4) : (65536 : Int) ^ n ≤ 18446744073709551616 := by
  rcases n with _ | _ | _ | _ | _ | n <;> first | decide | omega
theorem dk_bound {D : Nat → Int} (hD : ∀ k, 0 ≤ D k ∧ D k < 65536) (i : Nat) {k : Nat} (hk : k ≤ 3) : U64 (D i * 65536 ^ k) := by
  obtain ⟨h3, h4⟩ := hD i
  unfold U64
  rcases k with _ | _ | _ | _ | k <;> first | omega | (simp; omega)
def mD (D : Nat → Int) (j i : Nat) : Int := pm D (4 * j) (min 4 (i - 4 * j))
theorem mD_step {D : Nat → Int} (hD : ∀ k, 0 ≤ D k ∧ D k < 65536) (i : Nat) : mD D (i / 4) (i + 1) = mD D (i / 4) i + D i * 65536 ^ (i % 4) ∧ U64 (mD D (i / 4) i + D i * 65536 ^ (i % 4)) := by
  have e2 : min 4 (i - 4 * (i / 4)) = i % 4 := by omega
  have e3 : min 4 (i + 1 - 4 * (i / 4)) = i % 4 + 1 := by omega
  have h1 : mD D (i / 4) (i + 1) = mD D (i / 4) i + D i * 65536 ^ (i % 4) := by
    unfold mD
    rw [e2, e3, pm, show 4 * (i / 4) + i % 4 = i by omega]
  refine ⟨h1, ?_⟩
  rw [← h1]
  unfold mD U64
  rw [e3]
  obtain ⟨h2, h3⟩ := pm_bound hD (4 * (i / 4)) (i % 4 + 1)
  have := p64 (n := i % 4 + 1) (by omega)
  omega
theorem mD_keep {D : Nat → Int} {i j : Nat} (hne : j ≠ i / 4) : mD D j (i + 1) = mD D j i := by
  unfold mD
  rw [show min 4 (i + 1 - 4 * j) = min 4 (i - 4 * j) by omega]
end Go.Proofs.Ytopfpkmdkcjjlaa


/-
  PLAIN LAW: products by digits, powers, roots (for HashTells). (Printed by gen.py out of w_hroot.py.)
-/
import Derived.Test.YtopfpkmdkcjjlaaRUnw
import Derived.Test.YtopfpkmdkcjjlaaBWide
namespace Go.Proofs.Ytopfpkmdkcjjlaa
open Go
set_option maxRecDepth 20000
set_option linter.unusedVariables false
set_option linter.unusedSimpArgs false
def updF (D : Nat → Int) (j : Nat) (v : Int) : Nat → Int := fun k => if k = j then v else D k
theorem pm_upd (D : Nat → Int) (j : Nat) (v : Int) : ∀ n, pm (updF D j v) 0 n = pm D 0 n + if j < n then (v - D j) * 65536 ^ j else 0
  | 0 => by simp [pm]
  | n + 1 => by
    have ih := pm_upd D j v n
    simp only [pm, Nat.zero_add]
    rw [ih]
    by_cases h : n = j
    · subst h
      rw [if_neg (Nat.lt_irrefl _), if_pos (Nat.lt_succ_self _)]
      simp only [updF, if_true]
      rw [Int.sub_mul]; omega
    · have e : updF D j v n = D n := by simp [updF, h]
      rw [e]
      by_cases h2 : j < n
      · rw [if_pos h2, if_pos (by omega)]; omega
      · rw [if_neg h2, if_neg (by omega)]; omega
theorem upd_bound {D : Nat → Int} (hD : ∀ k, 0 ≤ D k ∧ D k < 65536) {j : Nat} {v : Int} (hv : 0 ≤ v ∧ v < 65536) : ∀ k, 0 ≤ updF D j v k ∧ updF D j v k < 65536 := by
  intro k
  unfold updF
  split
  · exact hv
  · exact hD k
/-- A step of the inner loop. -/
theorem mul_step {D : Nat → Int} (hD : ∀ k, 0 ≤ D k ∧ D k < 65536) {c x d V Y : Int} {i k : Nat} (hk : i + k < 21) (hc : 0 ≤ c ∧ c < 65536) (hx : 0 ≤ x ∧ x < 65536) (hd : 0 ≤ d ∧ d < 65536)
    (h : pm D 0 21 + c * 65536 ^ (i + k) = V + x * 65536 ^ i * Y) :
    let s := c + D (i + k) + x * d
    (0 ≤ s ∧ s < 4294967296) ∧ (0 ≤ s / 65536 ∧ s / 65536 < 65536) ∧ pm (updF D (i + k) (s % 65536)) 0 21 + s / 65536 * 65536 ^ (i + (k + 1)) = V + x * 65536 ^ i * (Y + d * 65536 ^ k) := by
  intro s
  have hxd : 0 ≤ x * d := Int.mul_nonneg hx.1 hd.1
  have hxd2 : x * d ≤ 65535 * 65535 := Int.mul_le_mul (by omega) (by omega) hd.1 (by decide)
  obtain ⟨h1, h2⟩ := hD (i + k)
  have hs : s = c + D (i + k) + x * d := rfl
  refine ⟨by omega, by omega, ?_⟩
  rw [pm_upd, if_pos hk]
  have e1 : (65536 : Int) ^ (i + (k + 1)) = 65536 * 65536 ^ (i + k) := by rw [← Nat.add_assoc, Int.pow_succ, Int.mul_comm]
  have e2 : (65536 : Int) ^ (i + k) = 65536 ^ i * 65536 ^ k := Int.pow_add _ _ _
  rw [e1, Int.mul_add, ← Int.add_assoc, ← h]
  have e3 : s % 65536 = s - 65536 * (s / 65536) := by omega
  have e4 : s / 65536 * (65536 * 65536 ^ (i + k)) = (65536 * (s / 65536)) * 65536 ^ (i + k) := by rw [← Int.mul_assoc, Int.mul_comm (s / 65536)]
  have e5 : x * 65536 ^ i * (d * 65536 ^ k) = x * d * 65536 ^ (i + k) := by rw [e2]; simp only [Int.mul_assoc, Int.mul_left_comm, Int.mul_comm]
  rw [e3, e4, e5]
  generalize (65536 : Int) ^ (i + k) = q
  generalize 65536 * (s / 65536) = z
  rw [Int.sub_mul, Int.sub_mul, hs, Int.add_mul, Int.add_mul]
  omega
theorem p4v : (65536 : Int) ^ 4 = 18446744073709551616 := by rfl
/-- Behind the inner loop nothing is carried. -/
theorem mul_carry {D : Nat → Int} (hD : ∀ k, 0 ≤ D k ∧ D k < 65536) {c V n : Int} {i : Nat} (hc : 0 ≤ c) (h : pm D 0 21 + c * 65536 ^ (i + 5) = V * n) (hV : 0 ≤ V ∧ V < 65536 ^ (i + 1)) (hn : 0 ≤ n ∧ n < 18446744073709551616) : c = 0 := by
  have h0 := (pm_bound hD 0 21).1
  have hp : (0 : Int) < 65536 ^ (i + 1) := Int.pow_pos (by decide)
  have e : (65536 : Int) ^ (i + 5) = 65536 ^ (i + 1) * 18446744073709551616 := by rw [show i + 5 = (i + 1) + 4 by omega, Int.pow_add, p4v]
  have h1 : V * n < 65536 ^ (i + 1) * 18446744073709551616 := by
    rcases Int.lt_or_le 0 n with q | q
    · exact Int.lt_of_lt_of_le (Int.mul_lt_mul_of_pos_right hV.2 q) (Int.mul_le_mul_of_nonneg_left (by omega) (Int.le_of_lt hp))
    · have : n = 0 := by omega
      rw [this, Int.mul_zero]; exact Int.mul_pos hp (by decide)
  rw [e] at h
  by_cases hc0 : c = 0
  · exact hc0
  · have h2 : 1 * (65536 ^ (i + 1) * 18446744073709551616) ≤ c * (65536 ^ (i + 1) * 18446744073709551616 : Int) := Int.mul_le_mul_of_nonneg_right (by omega) (by omega)
    omega
end Go.Proofs.Ytopfpkmdkcjjlaa


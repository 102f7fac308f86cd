/-
  WALKS: wide numbers back from their octets, the reference's. (Printed by gen.py out of w_runw.py.)
-/
import Derived.Test.YtnodpljgcdkbkaaUnw
namespace Go.Proofs.Ytnodpljgcdkbkaa
open Go
set_option linter.unusedVariables false
set_option linter.unusedSimpArgs false

def pm (D : Nat → Int) (s : Nat) : Nat → Int
  | 0 => 0
  | n + 1 => pm D s n + D (s + n) * 65536 ^ n

theorem pm_bound {D : Nat → Int} (hD : ∀ k, 0 ≤ D k ∧ D k < 65536) (s : Nat) : ∀ n, 0 ≤ pm D s n ∧ pm D s n < 65536 ^ n
  | 0 => by simp [pm]
  | n + 1 => by
    obtain ⟨h1, h2⟩ := pm_bound hD s n
    obtain ⟨h3, h4⟩ := hD (s + n)
    have hp : (0 : Int) < 65536 ^ n := Int.pow_pos (by decide)
    have e : (65536 : Int) ^ (n + 1) = 65536 ^ n * 65536 := Int.pow_succ _ _
    have h5 : D (s + n) * 65536 ^ n ≤ 65535 * 65536 ^ n := Int.mul_le_mul_of_nonneg_right (by omega) (Int.le_of_lt hp)
    have h6 : 0 ≤ D (s + n) * 65536 ^ n := Int.mul_nonneg h3 (Int.le_of_lt hp)
    simp only [pm]
    rw [e]
    generalize D (s + n) * 65536 ^ n = z at h5 h6
    omega

theorem p64 {n : Nat} (hn : n ≤ 4) : (65536 : Int) ^ n ≤ 18446744073709551616 := by
  rcases n with _ | _ | _ | _ | _ | n <;> first | decide | omega

theorem dk_bound {D : Nat → Int} (hD : ∀ k, 0 ≤ D k ∧ D k < 65536) (i : Nat) {k : Nat} (hk : k ≤ 3) : U64 (D i * 65536 ^ k) := by
  obtain ⟨h3, h4⟩ := hD i
  unfold U64
  rcases k with _ | _ | _ | _ | k <;> first | omega | (simp; omega)

def mD (D : Nat → Int) (j i : Nat) : Int := pm D (4 * j) (min 4 (i - 4 * j))

theorem mD_step {D : Nat → Int} (hD : ∀ k, 0 ≤ D k ∧ D k < 65536) (i : Nat) : mD D (i / 4) (i + 1) = mD D (i / 4) i + D i * 65536 ^ (i % 4) ∧ U64 (mD D (i / 4) i + D i * 65536 ^ (i % 4)) := by
  have e2 : min 4 (i - 4 * (i / 4)) = i % 4 := by omega
  have e3 : min 4 (i + 1 - 4 * (i / 4)) = i % 4 + 1 := by omega
  have h1 : mD D (i / 4) (i + 1) = mD D (i / 4) i + D i * 65536 ^ (i % 4) := by
    unfold mD
    rw [e2, e3, pm, show 4 * (i / 4) + i % 4 = i by omega]
  refine ⟨h1, ?_⟩
  rw [← h1]
  unfold mD U64
  rw [e3]
  obtain ⟨h2, h3⟩ := pm_bound hD (4 * (i / 4)) (i % 4 + 1)
  have := p64 (n := i % 4 + 1) (by omega)
  omega

theorem mD_keep {D : Nat → Int} {i j : Nat} (hne : j ≠ i / 4) : mD D j (i + 1) = mD D j i := by
  unfold mD
  rw [show min 4 (i + 1 - 4 * j) = min 4 (i - 4 * j) by omega]

def d2 (b : List UInt8) (k : Nat) : Int := fB b (2 * (15 - k)) 2
def lk (b : List UInt8) (k i : Nat) : Int := fB b (2 * (15 - k)) (min 2 (i - 2 * (15 - k)))

theorem fB2 {b : List UInt8} {s n : Nat} (h : s + n ≤ b.length) (hn : n ≤ 2) : 0 ≤ fB b s n ∧ fB b s n < 65536 := by
  obtain ⟨h1, h2⟩ := fB_bound b s n h
  refine ⟨h1, ?_⟩
  generalize fB b s n = x at h2
  rcases n with _ | _ | _ | n <;> first | (simp at h2; omega) | omega

theorem lk_step {b : List UInt8} {i : Nat} (hb : b.length = 32) (hi : i < 32) : lk b (15 - i / 2) (i + 1) = lk b (15 - i / 2) i * 256 + ((b.getD i 0).toNat : Int) ∧ (0 ≤ lk b (15 - i / 2) i ∧ lk b (15 - i / 2) i < 65536) := by
  have e1 : 2 * (15 - (15 - i / 2)) = 2 * (i / 2) := by omega
  have e2 : min 2 (i - 2 * (i / 2)) = i % 2 := by omega
  have e3 : min 2 (i + 1 - 2 * (i / 2)) = i % 2 + 1 := by omega
  unfold lk
  rw [e1, e2, e3, fB_succ (by omega), show 2 * (i / 2) + i % 2 = i by omega]
  exact ⟨rfl, fB2 (by omega) (by omega)⟩

theorem lk_keep {b : List UInt8} {i k : Nat} (hk : k < 16) (hne : k ≠ 15 - i / 2) (hi : i < 32) : lk b k (i + 1) = lk b k i := by
  unfold lk
  rw [show min 2 (i + 1 - 2 * (15 - k)) = min 2 (i - 2 * (15 - k)) by omega]

theorem fB_two {b : List UInt8} {s n : Nat} (h : s + n + 2 ≤ b.length) : fB b s (n + 2) = fB b s n * 65536 + fB b (s + n) 2 := by
  have z : fB b (s + n) 0 = 0 := rfl
  rw [fB_succ (by omega), fB_succ (by omega), fB_succ (n := 1) (by omega), fB_succ (n := 0) (by omega), z, show s + (n + 1) = s + n + 1 by omega]
  simp only [Nat.add_zero]
  omega

theorem fB8_split {b : List UInt8} {s : Nat} (h : s + 8 ≤ b.length) : fB b s 8 = ((fB b s 2 * 65536 + fB b (s + 2) 2) * 65536 + fB b (s + 4) 2) * 65536 + fB b (s + 6) 2 := by
  have h1 := fB_two (b := b) (s := s) (n := 6) (by omega)
  have h2 := fB_two (b := b) (s := s) (n := 4) (by omega)
  have h3 := fB_two (b := b) (s := s) (n := 2) (by omega)
  simp only [Nat.reduceAdd] at h1 h2 h3
  rw [h1, h2, h3]

theorem pm_fB {b : List UInt8} (hb : b.length = 32) (j : Nat) (hj : j < 4) : pm (d2 b) (4 * j) 4 = fB b (8 * (3 - j)) 8 := by
  rw [fB8_split (by omega)]
  simp only [pm, d2]
  rw [show 2 * (15 - (4 * j + 0)) = 8 * (3 - j) + 6 by omega, show 2 * (15 - (4 * j + 1)) = 8 * (3 - j) + 4 by omega, show 2 * (15 - (4 * j + 2)) = 8 * (3 - j) + 2 by omega, show 2 * (15 - (4 * j + 3)) = 8 * (3 - j) by omega]
  generalize fB b (8 * (3 - j) + 6) 2 = a0
  generalize fB b (8 * (3 - j) + 4) 2 = a1
  generalize fB b (8 * (3 - j) + 2) 2 = a2
  generalize fB b (8 * (3 - j)) 2 = a3
  omega

theorem lk_all (b : List UInt8) : AVal.r (.ro 16 (cutA (fnL 16 fun k => .int .i64 (lk b k 32)) 0 (16 * 1))) = AVal.r (.ro 16 (fnL 16 fun k => .int .i64 (d2 b k))) := by
  rw [cutA_eq, List.drop_zero, List.take_of_length_le (by simp [fnL])]
  rw [fnL_congr (fun k hk => eqIr (show lk b k 32 = d2 b k by unfold lk d2; rw [show min 2 (32 - 2 * (15 - k)) = 2 by omega]))]

theorem d2_bound {b : List UInt8} (hb : b.length = 32) (k : Nat) : 0 ≤ d2 b k ∧ d2 b k < 65536 := fB2 (by omega) (by omega)

end Go.Proofs.Ytnodpljgcdkbkaa

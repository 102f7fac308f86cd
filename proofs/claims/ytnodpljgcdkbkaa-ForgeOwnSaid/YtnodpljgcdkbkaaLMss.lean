/-
  WALKS: the laws MssTells, MssVerifies, MssBack. (Printed by gen.py out of w_lmss.py.)
-/
import Derived.Test.YtnodpljgcdkbkaaMVer
namespace Go.Proofs.Ytnodpljgcdkbkaa
open Go
set_option maxRecDepth 20000
set_option linter.unusedVariables false
set_option linter.unusedSimpArgs false
theorem pcs_flat : ∀ (A : List (List UInt8)), (∀ p ∈ A, p.length = 8) → pcs A.flatten A.length = A
  | [], _ => rfl
  | a :: A, h => by
    have ha := h a (by simp)
    have ih := pcs_flat A (fun p hp => h p (by simp [hp]))
    rw [pcs, List.length_cons, List.range_succ_eq_map, List.map_cons, List.map_map, List.flatten_cons, Nat.mul_zero, List.drop_zero, List.take_append_of_le_length (by omega), List.take_of_length_le (by omega)]
    congr 1
    rw [pcs] at ih
    refine Eq.trans (List.map_congr_left (fun i _ => ?_)) ih
    simp only [Function.comp]
    rw [show 8 * (i + 1) = a.length + 8 * i by omega, ← List.drop_drop, List.drop_left]
theorem lev_step (seed : List UInt8) {k q : Nat} (h : q < 8 / 2 ^ k) (he : 2 ∣ 8 / 2 ^ k) : (lev seed (k + 1)).getD (q / 2) [] = if q % 2 = 0 then nod ((lev seed k).getD q []) ((lev seed k).getD (sibN q) []) else nod ((lev seed k).getD (sibN q) []) ((lev seed k).getD q []) := by
  obtain ⟨m, hm⟩ := he
  have h1 := lev_get seed (k := k) (j := 2 * (q / 2)) (by omega)
  have h2 := lev_get seed (k := k) (j := 2 * (q / 2) + 1) (by omega)
  rw [show lev seed (k + 1) = abv (lev seed k) from rfl, getDI (abv_get h1 h2)]
  by_cases e : q % 2 = 0
  · rw [if_pos e, sibN, if_pos e, show 2 * (q / 2) = q by omega]
  · rw [if_neg e, sibN, if_neg e, show 2 * (q / 2) = q - 1 by omega, show q - 1 + 1 = q by omega]
theorem clm_path (seed : List UInt8) {n : Nat} (hn : n < 8) : clm (pubL seed (n : Int)) n (pthL seed n 3) = rootL seed := by
  have e0 : pubL seed (n : Int) = (lev seed 0).getD n [] := by
    have := lev_row seed 0 n (by simpa using hn)
    rw [this, rowT]; simp
  have s0 := lev_step seed (k := 0) (q := n) (by simpa using hn) (by decide)
  have s1 := lev_step seed (k := 1) (q := n / 2) (by omega) (by decide)
  have s2 := lev_step seed (k := 2) (q := n / 2 / 2) (by omega) (by decide)
  have p : pthL seed n 3 = [(lev seed 0).getD (sibN n) [], (lev seed 1).getD (sibN (n / 2)) [], (lev seed 2).getD (sibN (n / 2 / 2)) []] := by
    simp [pthL, pthE, pat, qn, List.range_succ, Nat.div_div_eq_div_mul]
  rw [p, e0]
  simp only [clm]
  rw [← s0, ← s1, ← s2, show n / 2 / 2 / 2 = 0 by omega]
  rfl
theorem vres_sig (seed : List UInt8) {n : Nat} (hn : n < 8) (text : List UInt8) : vres (rootL seed) text (sigL seed n text) = .tuple [.r (.int .i64 (n : Int)), .r (.bool true)] := by
  have hl : leafN (sigL seed n text) = (n : Int) := by
    show (((UInt8.ofNat n).toNat : Nat) : Int) = (n : Int)
    simp; omega
  have hp : pcs ((sigL seed n text).drop 1) 18 = sgp seed n text := by
    have := pcs_flat (sgp seed n text) (sgp_8 seed hn text)
    rw [sgp_length] at this
    exact this
  have h1 : (sgp seed n text).take 15 = sgnL seed (n : Int) text := by
    rw [sgp, List.take_append_of_le_length (by rw [sgn_length]; omega), List.take_of_length_le (by rw [sgn_length]; omega)]
  have h2 : (sgp seed n text).drop 15 = pthL seed n 3 := by
    rw [sgp, List.drop_append_of_le_length (by rw [sgn_length]; omega), List.drop_of_length_le (by rw [sgn_length]; omega), List.nil_append]
  rw [vres_eq (sigL_length seed hn text) hl hn, hp, h1, h2, opn_sgn, clm_path seed hn, if_pos rfl]
end Go.Proofs.Ytnodpljgcdkbkaa


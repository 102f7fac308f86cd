/-
  WALKS: the reference's power, root. (Printed by gen.py out of w_hpow.py.)
-/
import Derived.Test.YtopfpkmdkcjjlaaHMul2
import Derived.Test.YtopfpkmdkcjjlaaRCmp
namespace Go.Proofs.Ytopfpkmdkcjjlaa
open Go
set_option maxRecDepth 20000
set_option linter.unusedVariables false
set_option linter.unusedSimpArgs false
theorem cmp_le {x0 x1 x2 x3 y0 y1 y2 y3 : Int} (h0 : U64 x0) (h1 : U64 x1) (h2 : U64 x2) (h3 : U64 x3) (g0 : U64 y0) (g1 : U64 y1) (g2 : U64 y2) (g3 : U64 y3) : decide (cmpW x0 x1 x2 x3 y0 y1 y2 y3 ≤ 0) = decide (valW x0 x1 x2 x3 ≤ valW y0 y1 y2 y3) := by
  unfold cmpW valW
  unfold U64 at *
  rcases Int.lt_trichotomy x3 y3 with q | q | q
  · rw [cmpL_lt q, decide_eq_true (by omega), decide_eq_true (by omega)]
  · rw [cmpL_eq q]
    rcases Int.lt_trichotomy x2 y2 with r | r | r
    · rw [cmpL_lt r, decide_eq_true (by omega), decide_eq_true (by omega)]
    · rw [cmpL_eq r]
      rcases Int.lt_trichotomy x1 y1 with s | s | s
      · rw [cmpL_lt s, decide_eq_true (by omega), decide_eq_true (by omega)]
      · rw [cmpL_eq s]
        rcases Int.lt_trichotomy x0 y0 with t | t | t
        · rw [cmpL_lt t, decide_eq_true (by omega), decide_eq_true (by omega)]
        · rw [cmpL_eq t, cmpL, decide_eq_true (by omega), decide_eq_true (by omega)]
        · rw [cmpL_gt t, decide_eq_false (by omega), decide_eq_false (by omega)]
      · rw [cmpL_gt s, decide_eq_false (by omega), decide_eq_false (by omega)]
    · rw [cmpL_gt r, decide_eq_false (by omega), decide_eq_false (by omega)]
  · rw [cmpL_gt q, decide_eq_false (by omega), decide_eq_false (by omega)]
theorem wd_u {V : Int} (k : Int) : U64 (V / k % 18446744073709551616) := ⟨by omega, by omega⟩
theorem wd_u0 {V : Int} : U64 (V % 18446744073709551616) := ⟨by omega, by omega⟩
theorem wd_val {V : Int} (h : 0 ≤ V) (h2 : V < 115792089237316195423570985008687907853269984665640564039457584007913129639936) : valW (V % 18446744073709551616) (V / 18446744073709551616 % 18446744073709551616) (V / 340282366920938463463374607431768211456 % 18446744073709551616) (V / 6277101735386680763835789423207666416102355444464034512896 % 18446744073709551616) = V := by
  unfold valW; omega
theorem val1 (x : Int) : valW x 0 0 0 = x := by unfold valW; omega
theorem val2 (n : Int) : valW 0 n 0 0 = n * 18446744073709551616 := by unfold valW; omega
theorem w_pow2 (x n : Int) (hx : 0 ≤ x ∧ x < 137438953472) (hn : 0 ≤ n ∧ n < 65536) : Pur Try.prog 65 [.r (.int .u64 x), .r (.int .i64 2), .r (.int .u64 n)] (.r (.bool (decide (x * x ≤ n * 18446744073709551616)))) := by
  have ux : U64 x := ⟨hx.1, by omega⟩
  have un : U64 n := ⟨hn.1, by omega⟩
  have u0 : U64 0 := ⟨by decide, by decide⟩
  have hxx0 : 0 ≤ x * x := Int.mul_nonneg hx.1 hx.1
  have hxx : x * x ≤ 137438953471 * 137438953471 := Int.mul_le_mul (by omega) (by omega) hx.1 (by decide)
  have cM := w_MulXY x 0 0 0 x ux u0 u0 u0 ux (by rw [val1]; omega)
  rw [val1] at cM
  have cC := w_rCmp (x * x % 18446744073709551616) (x * x / 18446744073709551616 % 18446744073709551616) (x * x / 340282366920938463463374607431768211456 % 18446744073709551616) (x * x / 6277101735386680763835789423207666416102355444464034512896 % 18446744073709551616) 0 n 0 0 wd_u0 (wd_u _) (wd_u _) (wd_u _) u0 un u0 u0
  have cL := fun (V : Int) => cmp_le (wd_u0 (V := V)) (wd_u (V := V) 18446744073709551616) (wd_u (V := V) 340282366920938463463374607431768211456) (wd_u (V := V) 6277101735386680763835789423207666416102355444464034512896) u0 un u0 u0
  have cL := cL (x * x)
  rw [wd_val hxx0 (by omega), val2] at cL
  rw [← cL]
  refine spec_of_go (N := 37) Try.func65 rfl (by decide) rfl rfl ?_
  refine zB ?_
  refine pA ?_
  refine zC ?_
  refine pA ?_
  refine ar_pure tOk rfl rfl rfl ?_ ?_
  · simp
  refine pA ?_
  refine ar_pur (cM) rfl rfl rfl rfl rfl rfl rfl ?_
  iterate 3 refine pA ?_
  refine ar_new tOk rfl rfl rfl ?_ ?_
  · simp
  refine ar_store tOk rfl rfl rfl trivial ?_
  refine pA ?_
  refine zC ?_
  refine pA ?_
  refine ar_pure tOk rfl rfl rfl ?_ ?_
  · simp
  refine ar_new tOk rfl rfl rfl ?_ ?_
  · simp
  refine ar_store tOk rfl rfl rfl trivial ?_
  refine zA ?_
  refine zB ?_
  iterate 2 refine pA ?_
  refine ar_nil ?_
  refine ag_false rfl (by decide) ?_
  refine ag_skip ?_
  refine zB ?_
  iterate 2 refine pB ?_
  refine ar_pur (cC) rfl rfl rfl rfl rfl rfl rfl ?_
  iterate 2 refine pA ?_
  refine ar_nil ?_
  refine ag_ret tOk Try.func65 rfl rfl (by simp) ?_
  rfl
theorem w_pow3 (x n : Int) (hx : 0 ≤ x ∧ x < 137438953472) (hn : 0 ≤ n ∧ n < 65536) : Pur Try.prog 65 [.r (.int .u64 x), .r (.int .i64 3), .r (.int .u64 n)] (.r (.bool (decide (x * x * x ≤ n * 79228162514264337593543950336)))) := by
  have ux : U64 x := ⟨hx.1, by omega⟩
  have un : U64 n := ⟨hn.1, by omega⟩
  have u0 : U64 0 := ⟨by decide, by decide⟩
  have hxx0 : 0 ≤ x * x := Int.mul_nonneg hx.1 hx.1
  have hxx : x * x ≤ 137438953471 * 137438953471 := Int.mul_le_mul (by omega) (by omega) hx.1 (by decide)
  have cM := w_MulXY x 0 0 0 x ux u0 u0 u0 ux (by rw [val1]; omega)
  rw [val1] at cM
  have hx3 : x * x * x ≤ 137438953471 * 137438953471 * 137438953471 := Int.mul_le_mul hxx (by omega) hx.1 (by decide)
  have hx30 : 0 ≤ x * x * x := Int.mul_nonneg hxx0 hx.1
  have cM2 := w_MulXY (x * x % 18446744073709551616) (x * x / 18446744073709551616 % 18446744073709551616) (x * x / 340282366920938463463374607431768211456 % 18446744073709551616) (x * x / 6277101735386680763835789423207666416102355444464034512896 % 18446744073709551616) x wd_u0 (wd_u _) (wd_u _) (wd_u _) ux (by rw [wd_val hxx0 (by omega)]; omega)
  rw [wd_val hxx0 (by omega)] at cM2
  have cM3 := w_MulXY 0 n 0 0 4294967296 u0 un u0 u0 ⟨by decide, by decide⟩ (by rw [val2]; omega)
  rw [val2] at cM3
  have e96 : n * 18446744073709551616 * 4294967296 = n * 79228162514264337593543950336 := by omega
  rw [e96] at cM3
  generalize x * x * x = A at *
  have hB0 : 0 ≤ n * 79228162514264337593543950336 := by omega
  have hB1 : n * 79228162514264337593543950336 < 115792089237316195423570985008687907853269984665640564039457584007913129639936 := by omega
  generalize n * 79228162514264337593543950336 = B at *
  have cC := w_rCmp (A % 18446744073709551616) (A / 18446744073709551616 % 18446744073709551616) (A / 340282366920938463463374607431768211456 % 18446744073709551616) (A / 6277101735386680763835789423207666416102355444464034512896 % 18446744073709551616) (B % 18446744073709551616) (B / 18446744073709551616 % 18446744073709551616) (B / 340282366920938463463374607431768211456 % 18446744073709551616) (B / 6277101735386680763835789423207666416102355444464034512896 % 18446744073709551616) wd_u0 (wd_u _) (wd_u _) (wd_u _) wd_u0 (wd_u _) (wd_u _) (wd_u _)
  have cL := cmp_le (wd_u0 (V := A)) (wd_u (V := A) 18446744073709551616) (wd_u (V := A) 340282366920938463463374607431768211456) (wd_u (V := A) 6277101735386680763835789423207666416102355444464034512896) (wd_u0 (V := B)) (wd_u (V := B) 18446744073709551616) (wd_u (V := B) 340282366920938463463374607431768211456) (wd_u (V := B) 6277101735386680763835789423207666416102355444464034512896)
  rw [wd_val hx30 (by omega), wd_val hB0 hB1] at cL
  rw [← cL]
  refine spec_of_go (N := 37) Try.func65 rfl (by decide) rfl rfl ?_
  refine zB ?_
  refine pA ?_
  refine zC ?_
  refine pA ?_
  refine ar_pure tOk rfl rfl rfl ?_ ?_
  · simp
  refine pA ?_
  refine ar_pur (cM) rfl rfl rfl rfl rfl rfl rfl ?_
  iterate 3 refine pA ?_
  refine ar_new tOk rfl rfl rfl ?_ ?_
  · simp
  refine ar_store tOk rfl rfl rfl trivial ?_
  refine pA ?_
  refine zC ?_
  refine pA ?_
  refine ar_pure tOk rfl rfl rfl ?_ ?_
  · simp
  refine ar_new tOk rfl rfl rfl ?_ ?_
  · simp
  refine ar_store tOk rfl rfl rfl trivial ?_
  refine zA ?_
  refine zB ?_
  iterate 2 refine pA ?_
  refine ar_nil ?_
  refine ag_true rfl (by decide) ?_
  refine zB ?_
  refine pB ?_
  refine pA ?_
  refine ar_pur (cM2) rfl rfl rfl rfl rfl rfl rfl ?_
  iterate 3 refine pA ?_
  refine ar_store tOk rfl rfl rfl trivial ?_
  refine ar_nil ?_
  refine ag_reg ?_
  refine pA ?_
  refine ar_pure tOk rfl rfl rfl ?_ ?_
  · simp
  refine ar_pur (cM3) rfl rfl rfl rfl rfl rfl rfl ?_
  iterate 3 refine pA ?_
  refine ar_store tOk rfl rfl rfl trivial ?_
  refine zC ?_
  iterate 2 refine pB ?_
  refine ar_pur (cC) rfl rfl rfl rfl rfl rfl rfl ?_
  iterate 2 refine pA ?_
  refine ar_nil ?_
  refine ag_ret tOk Try.func65 rfl rfl (by simp) ?_
  rfl
end Go.Proofs.Ytopfpkmdkcjjlaa


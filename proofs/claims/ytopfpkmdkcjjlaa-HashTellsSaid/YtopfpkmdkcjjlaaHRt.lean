/-
  WALKS: the reference's root, prime. (Printed by gen.py out of w_hrt.py.)
-/
import Derived.Test.YtopfpkmdkcjjlaaHPow
namespace Go.Proofs.Ytopfpkmdkcjjlaa
open Go
set_option maxRecDepth 20000
set_option linter.unusedVariables false
set_option linter.unusedSimpArgs false
def powB (e : Nat) (x n : Int) : Bool := if e = 3 then decide (x * x * x ≤ n * 79228162514264337593543950336) else decide (x * x ≤ n * 18446744073709551616)
/-- The bits from 2^j down. -/
def rtF (e : Nat) (n : Int) : Nat → Int → Int
  | 0, x => x
  | j + 1, x => rtF e n j (if powB e (x + 2 ^ j) n then x + 2 ^ j else x)
theorem w_power (e : Nat) (he : e = 2 ∨ e = 3) (x n : Int) (hx : 0 ≤ x ∧ x < 137438953472) (hn : 0 ≤ n ∧ n < 65536) : Pur Try.prog 65 [.r (.int .u64 x), .r (.int .i64 (e : Int)), .r (.int .u64 n)] (.r (.bool (powB e x n))) := by
  rcases he with rfl | rfl
  · exact w_pow2 x n hx hn
  · exact w_pow3 x n hx hn
def rootV (e : Nat) (n : Int) : Int := rtF e n 37 0 % 4294967296
def bitV (j : Nat) : Int := match j with
  | 0 => 0
  | j + 1 => 2 ^ j
theorem p2_pos (j : Nat) : (0 : Int) < 2 ^ j := Int.pow_pos (by decide)
theorem p2_half (j : Nat) : (2 : Int) ^ (j + 1) / 2 = 2 ^ j := by rw [Int.pow_succ]; omega
theorem bit_half {j : Nat} (h : (2 : Int) ^ j ≤ 137438953472) : bitV j = IntKind.u64.wrap (Int.tdiv (2 ^ j) 2) := by
  rw [wu64, Int.tdiv_eq_ediv_of_nonneg (Int.le_of_lt (p2_pos j))]
  rcases j with _ | j
  · rfl
  · rw [p2_half j, bitV]
    have := p2_pos j
    rw [Int.pow_succ] at h
    omega
def strRo_0 (e : Nat) (n : Int) : Nat × Int → Regs × Hp := fun ⟨j, x⟩ => ([(0, .r (.int .i64 n)), (1, .r (.int .i64 (e : Int))), (5, .r (.int .u64 x)), (6, .r (.int .u64 (bitV j)))], ⟨0, [], false⟩)
def prrRo_0 (e : Nat) (n : Int) : Nat × Int → Prop := fun ⟨j, x⟩ => j ≤ 37 ∧ (0 ≤ x ∧ x + 2 ^ j ≤ 137438953472) ∧ rtF e n j x = rtF e n 37 0
theorem w_root (e : Nat) (he : e = 2 ∨ e = 3) (n : Int) (hn : 0 ≤ n ∧ n < 65536) : Pur Try.prog 46 [.r (.int .i64 n), .r (.int .i64 (e : Int))] (.r (.int .u32 (rootV e n))) := by
  refine spec_of_go (N := 24) Try.func46 rfl (by decide) rfl rfl ?_
  refine zB ?_
  refine pA ?_
  refine zC ?_
  refine pA ?_
  refine zA ?_
  refine zB ?_
  refine pA ?_
  refine ar_nil ?_
  refine ag_block ?_
  refine ag_loopS (strRo_0 e n) (prrRo_0 e n) (fun ⟨j, x⟩ => j) (37, 0) (ent_weak [] rfl rfl rfl rfl ?_ ?_ rfl) (show prrRo_0 e n (37, 0) from ?_) ?_
  · exact ⟨⟨rfl, rfl⟩, ⟨rfl, rfl⟩, ⟨rfl, rfl⟩, ⟨rfl, rfl⟩, trivial⟩
  · trivial
  · exact ⟨Nat.le_refl _, ⟨by decide, by decide⟩, rfl⟩
  rintro ⟨j, x⟩ hp hrec
  obtain ⟨hj, hxj, hrt⟩ : _ := hp
  refine ag_seq ?_
  refine zB ?_
  iterate 2 refine pA ?_
  refine ar_nil ?_
  refine ag_if rfl ?_ ?_
  · intro h8
    have hj0 : 0 < j := by
      rcases j with _ | j
      · simp [bitV] at h8
      · omega
    obtain ⟨j, rfl⟩ : ∃ m, j = m + 1 := ⟨j - 1, by omega⟩
    have hpj := p2_pos j
    have hj2 := hj
    have hpe : (2 : Int) ^ (j + 1) = 2 * 2 ^ j := by rw [Int.pow_succ, Int.mul_comm]
    refine ag_skip ?_
    refine ag_seq ?_
    refine ag_block ?_
    refine zB ?_
    iterate 3 refine pA ?_
    refine ar_ent (ent_reg 13 (.r (.int .u64 (x + 2 ^ j))) (by show AVal.r (.int _ _) = _; exact eqI (by show IntKind.u64.wrap (x + 2 ^ j) = _; rw [wu64]; omega))) ?_
    iterate 3 refine pA ?_
    refine ar_ent (ent_reg 16 (.r (.int .u64 n)) (by show AVal.r (.int _ _) = _; exact eqI (by rw [wu64]; omega))) ?_
    refine ar_pur (w_power e he (x + 2 ^ j) n ⟨by omega, by omega⟩ hn) rfl rfl rfl rfl rfl rfl rfl ?_
    refine ar_nil ?_
    refine ag_cond rfl ?_ ?_
    · intro h17
      refine ag_reg ?_
      iterate 4 refine pA ?_
      refine ar_nil ?_
      refine ag_inBlock ?_
      refine ag_reg ?_
      refine pA ?_
      refine ar_pure tOk rfl rfl rfl ?_ ?_
      · first | trivial | omega | (unfold inI64; omega) | (refine ⟨?_, ?_⟩ <;> first | trivial | rfl | omega | simp) | decide
      refine pA ?_
      refine ar_nil ?_
      refine ag_ent (ent_weak (g' := (strRo_0 e n (j, x + 2 ^ j)).1) (h' := (strRo_0 e n (j, x + 2 ^ j)).2) [] rfl rfl rfl rfl ?_ ?_ rfl) ?_
      · exact ⟨⟨rfl, rfl⟩, ⟨rfl, rfl⟩, ⟨rfl, by exact eqI (by show x + 2 ^ j = IntKind.u64.wrap (x + 2 ^ j); rw [wu64]; omega)⟩, ⟨rfl, by exact eqI (bit_half (by omega))⟩, trivial⟩
      · trivial
      have hnx := hrec (j, x + 2 ^ j)
      refine hnx ?_ ?_
      · exact ⟨by omega, ⟨by omega, by omega⟩, by rw [← hrt, rtF, if_pos h17]⟩
      · show j < j + 1; omega
    · intro h17
      refine ag_skip ?_
      refine ag_inBlock ?_
      refine ag_reg ?_
      refine pA ?_
      refine ar_pure tOk rfl rfl rfl ?_ ?_
      · first | trivial | omega | (unfold inI64; omega) | (refine ⟨?_, ?_⟩ <;> first | trivial | rfl | omega | simp) | decide
      refine pA ?_
      refine ar_nil ?_
      refine ag_ent (ent_weak (g' := (strRo_0 e n (j, x)).1) (h' := (strRo_0 e n (j, x)).2) [] rfl rfl rfl rfl ?_ ?_ rfl) ?_
      · exact ⟨⟨rfl, rfl⟩, ⟨rfl, rfl⟩, ⟨rfl, rfl⟩, ⟨rfl, by exact eqI (bit_half (by omega))⟩, trivial⟩
      · trivial
      have hnx := hrec (j, x)
      refine hnx ?_ ?_
      · exact ⟨by omega, ⟨by omega, by omega⟩, by rw [← hrt, rtF, if_neg (by rw [h17]; decide)]⟩
      · show j < j + 1; omega
  · intro h8
    have hj0 : j = 0 := by
      rcases j with _ | j
      · rfl
      · exact absurd (show (2 : Int) ^ j > 0 from p2_pos j) h8
    subst hj0
    refine ag_exit rfl ?_
    refine zB ?_
    refine pA ?_
    refine ar_pure tOk rfl rfl rfl ?_ ?_
    · decide
    iterate 2 refine pA ?_
    refine ar_nil ?_
    refine ag_ret tOk Try.func46 rfl rfl (by simp) ?_
    show AVal.r (.int .u32 _) = _
    exact eqI (by rw [rootV, ← hrt, rtF, Int.tmod_eq_emod_of_nonneg hxj.1, wu32]; omega)
end Go.Proofs.Ytopfpkmdkcjjlaa


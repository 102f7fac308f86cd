/-
  WALKS: the reference's Made of 21 digits, Mul. (Printed by gen.py out of w_hmul.py.)
-/
import Derived.Test.YtopfpkmdkcjjlaaHRoot
namespace Go.Proofs.Ytopfpkmdkcjjlaa
open Go
set_option maxRecDepth 20000
set_option linter.unusedVariables false
set_option linter.unusedSimpArgs false
theorem mD_end {D : Nat → Int} {i j : Nat} (hj : j < 4) (hi : 16 ≤ i) : mD D j (i + 1) = mD D j i := mD_keep (by omega)
def valW (x0 x1 x2 x3 : Int) : Int := x0 + x1 * 18446744073709551616 + x2 * 340282366920938463463374607431768211456 + x3 * 6277101735386680763835789423207666416102355444464034512896
def wdV (V : Int) : AVal := wA (V % 18446744073709551616) (V / 18446744073709551616 % 18446744073709551616) (V / 340282366920938463463374607431768211456 % 18446744073709551616) (V / 6277101735386680763835789423207666416102355444464034512896 % 18446744073709551616)
def dgl (x : Int) : List Int := [x % 65536, x / 65536 % 65536, x / 65536 / 65536 % 65536, x / 65536 / 65536 / 65536 % 65536]
def dgF (x0 x1 x2 x3 : Int) (k : Nat) : Int := ((dgl x0 ++ dgl x1 ++ dgl x2 ++ dgl x3)[k]?).getD 0
theorem digW_fn (x0 x1 x2 x3 : Int) : digW x0 x1 x2 x3 = fnL 16 fun k => .int .i64 (dgF x0 x1 x2 x3 k) := rfl
theorem dgl_mem {x v : Int} (h : v ∈ dgl x) : 0 ≤ v ∧ v < 65536 := by
  simp only [dgl, List.mem_cons, List.not_mem_nil, or_false] at h
  omega
theorem dgF_bound (x0 x1 x2 x3 : Int) (k : Nat) : 0 ≤ dgF x0 x1 x2 x3 k ∧ dgF x0 x1 x2 x3 k < 65536 := by
  unfold dgF
  cases h : (dgl x0 ++ dgl x1 ++ dgl x2 ++ dgl x3)[k]? with
  | none => exact ⟨by decide, by decide⟩
  | some v =>
    have hm := List.mem_of_getElem? h
    simp only [List.mem_append] at hm
    rcases hm with ((hm | hm) | hm) | hm <;> exact dgl_mem hm
theorem pm_four (D : Nat → Int) (s : Nat) : pm D s 4 = D s + D (s + 1) * 65536 + D (s + 2) * 4294967296 + D (s + 3) * 281474976710656 := by
  simp only [pm]; simp
theorem pm_sixteen (D : Nat → Int) : pm D 0 16 = valW (pm D 0 4) (pm D 4 4) (pm D 8 4) (pm D 12 4) := by
  simp only [pm_four, valW]
  simp only [pm]; simp; omega
theorem dgl_sum {x : Int} (h : U64 x) : x % 65536 + x / 65536 % 65536 * 65536 + x / 65536 / 65536 % 65536 * 4294967296 + x / 65536 / 65536 / 65536 % 65536 * 281474976710656 = x := by
  unfold U64 at h; omega
theorem pm_dgF {x0 x1 x2 x3 : Int} (h0 : U64 x0) (h1 : U64 x1) (h2 : U64 x2) (h3 : U64 x3) : pm (dgF x0 x1 x2 x3) 0 16 = valW x0 x1 x2 x3 := by
  rw [pm_sixteen]
  simp only [pm_four]
  rw [show dgF x0 x1 x2 x3 0 + dgF x0 x1 x2 x3 (0 + 1) * 65536 + dgF x0 x1 x2 x3 (0 + 2) * 4294967296 + dgF x0 x1 x2 x3 (0 + 3) * 281474976710656 = x0 from dgl_sum h0,
    show dgF x0 x1 x2 x3 4 + dgF x0 x1 x2 x3 (4 + 1) * 65536 + dgF x0 x1 x2 x3 (4 + 2) * 4294967296 + dgF x0 x1 x2 x3 (4 + 3) * 281474976710656 = x1 from dgl_sum h1,
    show dgF x0 x1 x2 x3 8 + dgF x0 x1 x2 x3 (8 + 1) * 65536 + dgF x0 x1 x2 x3 (8 + 2) * 4294967296 + dgF x0 x1 x2 x3 (8 + 3) * 281474976710656 = x2 from dgl_sum h2,
    show dgF x0 x1 x2 x3 12 + dgF x0 x1 x2 x3 (12 + 1) * 65536 + dgF x0 x1 x2 x3 (12 + 2) * 4294967296 + dgF x0 x1 x2 x3 (12 + 3) * 281474976710656 = x3 from dgl_sum h3]
theorem pm_dgn {n : Int} (h : U64 n) : pm (dgF n 0 0 0) 0 5 = n := by
  have : pm (dgF n 0 0 0) 0 5 = pm (dgF n 0 0 0) 0 4 + dgF n 0 0 0 4 * 65536 ^ 4 := rfl
  rw [this, pm_four, show dgF n 0 0 0 4 = 0 from rfl, Int.zero_mul, Int.add_zero]
  exact dgl_sum h
theorem pm_top {D : Nat → Int} (hD : ∀ k, 0 ≤ D k ∧ D k < 65536) {V : Int} (h : pm D 0 21 = V) (hV : V < 115792089237316195423570985008687907853269984665640564039457584007913129639936) : pm D 0 16 = V ∧ ∀ k, 16 ≤ k → k < 21 → D k = 0 := by
  have h16 := (pm_bound hD 0 16).1
  have e : pm D 0 21 = pm D 0 16 + D 16 * 65536 ^ 16 + D 17 * 65536 ^ 17 + D 18 * 65536 ^ 18 + D 19 * 65536 ^ 19 + D 20 * 65536 ^ 20 := by simp only [pm, Nat.zero_add]
  rw [e] at h
  have a16 := (hD 16).1; have a17 := (hD 17).1; have a18 := (hD 18).1; have a19 := (hD 19).1; have a20 := (hD 20).1
  have p16 : (65536 : Int) ^ 16 = 115792089237316195423570985008687907853269984665640564039457584007913129639936 := rfl
  have p17 : (65536 : Int) ^ 17 = 65536 * 115792089237316195423570985008687907853269984665640564039457584007913129639936 := rfl
  have p18 : (65536 : Int) ^ 18 = 4294967296 * 115792089237316195423570985008687907853269984665640564039457584007913129639936 := rfl
  have p19 : (65536 : Int) ^ 19 = 281474976710656 * 115792089237316195423570985008687907853269984665640564039457584007913129639936 := rfl
  have p20 : (65536 : Int) ^ 20 = 18446744073709551616 * 115792089237316195423570985008687907853269984665640564039457584007913129639936 := rfl
  rw [p16, p17, p18, p19, p20] at h
  generalize pm D 0 16 = p at h h16 ⊢
  have z16 : D 16 = 0 := by omega
  have z17 : D 17 = 0 := by omega
  have z18 : D 18 = 0 := by omega
  have z19 : D 19 = 0 := by omega
  have z20 : D 20 = 0 := by omega
  refine ⟨by omega, fun k h1 h2 => ?_⟩
  rcases (show k = 16 ∨ k = 17 ∨ k = 18 ∨ k = 19 ∨ k = 20 by omega) with rfl | rfl | rfl | rfl | rfl <;> assumption
theorem wd_of {D : Nat → Int} (hD : ∀ k, 0 ≤ D k ∧ D k < 65536) {V : Int} (h : pm D 0 16 = V) : wA (pm D 0 4) (pm D 4 4) (pm D 8 4) (pm D 12 4) = wdV V := by
  rw [pm_sixteen] at h
  have b0 := pm_bound hD 0 4; have b1 := pm_bound hD 4 4; have b2 := pm_bound hD 8 4; have b3 := pm_bound hD 12 4
  rw [p4v] at b0 b1 b2 b3
  unfold valW at h
  generalize pm D 0 4 = p0 at *; generalize pm D 4 4 = p1 at *; generalize pm D 8 4 = p2 at *; generalize pm D 12 4 = p3 at *
  unfold wdV
  rw [show V % 18446744073709551616 = p0 by omega, show V / 18446744073709551616 % 18446744073709551616 = p1 by omega, show V / 340282366920938463463374607431768211456 % 18446744073709551616 = p2 by omega, show V / 6277101735386680763835789423207666416102355444464034512896 % 18446744073709551616 = p3 by omega]
def stMd21_0 (D : Nat → Int) : Nat → Regs × Hp := fun i => ([(5, .r (.int .i64 (i : Int))), (0, .r (.ro 21 (fnL 21 fun k => .int .i64 (D k)))), (4, .ptr 1 0), (2, .ptr 0 0)], ⟨2, [(0, some (.plain [.int .u64 0, .int .u64 0, .int .u64 0, .int .u64 0])), (1, some (.plain (fnL 4 fun j => .int .u64 (mD D j i))))], false⟩)
def prMd21_0 (D : Nat → Int) : Nat → Prop := fun i => i ≤ 21
def stMd21_2 (D : Nat → Int) (i : Nat) : Nat → Regs × Hp := fun k => ([(7, .r (.int .i64 (k : Int))), (6, .r (.int .u64 (D i * 65536 ^ k))), (5, .r (.int .i64 (i : Int))), (0, .r (.ro 21 (fnL 21 fun k => .int .i64 (D k)))), (4, .ptr 1 0), (2, .ptr 0 0)], ⟨2, [(0, some (.plain [.int .u64 0, .int .u64 0, .int .u64 0, .int .u64 0])), (1, some (.plain (fnL 4 fun j => .int .u64 (mD D j i))))], false⟩)
def prMd21_2 (D : Nat → Int) (i : Nat) : Nat → Prop := fun k => k ≤ i % 4
theorem w_Made21 (D : Nat → Int) (hD : ∀ k, 0 ≤ D k ∧ D k < 65536) (hz : ∀ k, 16 ≤ k → k < 21 → D k = 0) : Pur Try.prog 78 [.r (.ro 21 (fnL 21 fun k => .int .i64 (D k)))] (.tuple [wA (pm D 0 4) (pm D 4 4) (pm D 8 4) (pm D 12 4), .r (.bool true)]) := by
  refine spec_of_go (N := 45) Try.func78 rfl (by decide) rfl rfl ?_
  refine zB ?_
  refine ar_new tOk rfl rfl rfl ?_ ?_
  · simp
  refine pA ?_
  refine zC ?_
  refine ar_new tOk rfl rfl rfl ?_ ?_
  · simp
  refine zA ?_
  refine zB ?_
  refine pA ?_
  refine ar_nil ?_
  refine ag_block ?_
  refine ag_loopS (stMd21_0 D) (prMd21_0 D) (fun (i : Nat) => 21 - i) 0 (ent_weak [0, 1] rfl rfl rfl rfl ?_ ?_ rfl) (show prMd21_0 D 0 from ?_) ?_
  · exact ⟨⟨rfl, rfl⟩, ⟨rfl, rfl⟩, ⟨rfl, rfl⟩, ⟨rfl, rfl⟩, trivial⟩
  · exact ⟨⟨rfl, rfl, rfl⟩, ⟨rfl, rfl, rfl⟩, trivial⟩
  · exact Nat.zero_le _
  rintro i hp hrec
  have hp : i ≤ 21 := hp
  refine ag_seq ?_
  refine zB ?_
  iterate 4 refine pA ?_
  refine ar_nil ?_
  refine ag_if rfl ?_ ?_
  · intro h11
    have h11 : (i : Int) < 21 := h11
    refine ag_skip ?_
    refine ag_seq ?_
    refine ag_block ?_
    refine ag_seq ?_
    refine zB ?_
    iterate 2 refine pA ?_
    refine ar_nil ?_
    refine ag_if rfl ?_ ?_
    · intro h15
      have hz0 := hz i (by omega) (by omega)
      refine ag_seq ?_
      refine zB ?_
      iterate 2 refine pA ?_
      refine ar_pure tOk rfl rfl rfl ?_ ?_
      · exact ⟨⟨by omega, by omega⟩, by simp [fnL]⟩
      refine ar_loadAs tOk (.r (.int .i64 (D i))) rfl rfl rfl rfl rfl rfl rfl (loadsTo_fnL rfl (by simp only [mulz_eq, Nat.mul_one]; omega) (by simp only [mulz_eq, Nat.mul_one, Int.toNat_natCast])) ?_
      refine pA ?_
      refine ar_nil ?_
      refine ag_false rfl (by rw [hz0]; decide) ?_
      refine ag_skip ?_
      refine ag_exit rfl ?_
      refine ag_reg ?_
      refine pA ?_
      refine ar_pure tOk rfl rfl rfl ?_ ?_
      · unfold inI64; omega
      refine pA ?_
      refine ar_nil ?_
      refine ag_ent (ent_weak (g' := (stMd21_0 D (i + 1)).1) (h' := (stMd21_0 D (i + 1)).2) [0, 1] rfl rfl rfl rfl ?_ ?_ rfl) ?_
      · exact ⟨⟨rfl, by exact eqI (by omega)⟩, ⟨rfl, rfl⟩, ⟨rfl, rfl⟩, ⟨rfl, rfl⟩, trivial⟩
      · exact ⟨⟨rfl, rfl, rfl⟩, ⟨rfl, rfl, by refine eqPl ?_; exact fnL_congr (fun j hj => by rw [mD_end hj (by omega)])⟩, trivial⟩
      have hnx := hrec (i + 1)
      refine hnx ?_ ?_
      · show i + 1 ≤ 21; omega
      · show 21 - (i + 1) < 21 - i; omega
    · intro h15
      have hi16 : i < 16 := by omega
      refine ag_skip ?_
      refine zB ?_
      iterate 2 refine pA ?_
      refine ar_pure tOk rfl rfl rfl ?_ ?_
      · exact ⟨⟨by omega, by omega⟩, by simp [fnL]⟩
      refine ar_loadAs tOk (.r (.int .i64 (D i))) rfl rfl rfl rfl rfl rfl rfl (loadsTo_fnL rfl (by simp only [mulz_eq, Nat.mul_one]; omega) (by simp only [mulz_eq, Nat.mul_one, Int.toNat_natCast])) ?_
      refine pA ?_
      refine ar_ent (ent_reg 26 (.r (.int .u64 (D i))) (eqI (by rw [wu64]; have := hD i; omega))) ?_
      refine pA ?_
      refine zA ?_
      refine zB ?_
      refine pA ?_
      refine ar_nil ?_
      refine ag_block ?_
      refine ag_loopS (stMd21_2 D i) (prMd21_2 D i) (fun (k : Nat) => 4 - k) 0 (ent_weak [0, 1] rfl rfl rfl rfl ?_ ?_ rfl) (show prMd21_2 D i 0 from ?_) ?_
      · exact ⟨⟨rfl, rfl⟩, ⟨rfl, by exact eqI (by simp)⟩, ⟨rfl, rfl⟩, ⟨rfl, rfl⟩, ⟨rfl, rfl⟩, ⟨rfl, rfl⟩, trivial⟩
      · exact ⟨⟨rfl, rfl, rfl⟩, ⟨rfl, rfl, rfl⟩, trivial⟩
      · exact Nat.zero_le _
      rintro k hp2 hrec2
      have hk : k ≤ i % 4 := hp2
      refine ag_seq ?_
      refine zB ?_
      iterate 2 refine pA ?_
      refine ar_pure tOk rfl rfl rfl ?_ ?_
      · decide
      refine pA ?_
      refine ar_nil ?_
      refine ag_if rfl ?_ ?_
      · intro h30
        rw [Int.tmod_eq_emod_of_nonneg (by omega)] at h30
        refine ag_skip ?_
        refine ag_seq ?_
        refine ag_block ?_
        refine ag_reg ?_
        iterate 3 refine pA ?_
        refine ar_nil ?_
        refine ag_inBlock ?_
        refine ag_reg ?_
        refine pA ?_
        refine ar_pure tOk rfl rfl rfl ?_ ?_
        · unfold inI64; omega
        refine pA ?_
        refine ar_nil ?_
        refine ag_ent (ent_weak (g' := (stMd21_2 D i (k + 1)).1) (h' := (stMd21_2 D i (k + 1)).2) [0, 1] rfl rfl rfl rfl ?_ ?_ rfl) ?_
        · exact ⟨⟨rfl, by exact eqI (by omega)⟩, ⟨rfl, by refine eqI ?_; have hb := dk_bound hD i (k := k + 1) (by omega); rw [Int.pow_succ, ← Int.mul_assoc] at hb ⊢; rw [wu64]; exact (Int.emod_eq_of_lt hb.1 hb.2).symm⟩, ⟨rfl, rfl⟩, ⟨rfl, rfl⟩, ⟨rfl, rfl⟩, ⟨rfl, rfl⟩, trivial⟩
        · exact ⟨⟨rfl, rfl, rfl⟩, ⟨rfl, rfl, rfl⟩, trivial⟩
        have hnx := hrec2 (k + 1)
        refine hnx ?_ ?_
        · show k + 1 ≤ i % 4; omega
        · show 4 - (k + 1) < 4 - k; omega
      · intro h30
        rw [Int.tmod_eq_emod_of_nonneg (by omega)] at h30
        obtain rfl : k = i % 4 := by omega
        refine ag_exit rfl ?_
        refine ag_reg ?_
        refine pA ?_
        refine ar_pure tOk rfl rfl rfl ?_ ?_
        · refine ⟨?_, by decide⟩
          show inI64 _
          rw [Int.tdiv_eq_ediv_of_nonneg (by omega)]; unfold inI64; omega
        refine ar_ent (ent_reg 36 (.r (.int .i64 ((i / 4 : Nat) : Int))) (eqI (by rw [Int.tdiv_eq_ediv_of_nonneg (by omega)]; omega))) ?_
        refine pA ?_
        refine ar_pure tOk rfl rfl rfl ?_ ?_
        · refine ⟨?_, by decide⟩
          show inI64 _
          rw [Int.tdiv_eq_ediv_of_nonneg (by omega)]; unfold inI64; omega
        refine ar_ent (ent_reg 38 (.r (.int .i64 ((i / 4 : Nat) : Int))) (eqI (by rw [Int.tdiv_eq_ediv_of_nonneg (by omega)]; omega))) ?_
        refine ar_pure tOk rfl rfl rfl ?_ ?_
        · exact ⟨by omega, by omega⟩
        refine ar_loadAs tOk (.r (.int .u64 (mD D (i / 4) i))) rfl rfl rfl rfl rfl rfl rfl (loadsTo_fnL rfl (by simp only [addo_eq, mulz_eq, Nat.mul_one]; omega) (by simp only [addo_eq, mulz_eq, Nat.mul_one, Int.toNat_natCast, Nat.zero_add])) ?_
        iterate 2 refine pA ?_
        refine ar_pure tOk rfl rfl rfl ?_ ?_
        · exact ⟨by omega, by omega⟩
        refine ar_store tOk rfl rfl rfl ?_ ?_
        · simp only [fnL_length, addo_eq, mulz_eq, Nat.mul_one]; omega
        refine ar_nil ?_
        refine ag_inBlock ?_
        refine ag_reg ?_
        refine pA ?_
        refine ar_pure tOk rfl rfl rfl ?_ ?_
        · unfold inI64; omega
        refine pA ?_
        refine ar_nil ?_
        refine ag_ent (ent_weak (g' := (stMd21_0 D (i + 1)).1) (h' := (stMd21_0 D (i + 1)).2) [0, 1] rfl rfl rfl rfl ?_ ?_ rfl) ?_
        · exact ⟨⟨rfl, by exact eqI (by omega)⟩, ⟨rfl, rfl⟩, ⟨rfl, rfl⟩, ⟨rfl, rfl⟩, trivial⟩
        · exact ⟨⟨rfl, rfl, rfl⟩, ⟨rfl, rfl, by refine eqPl ?_; simp only [addo_eq, mulz_eq, Nat.mul_one, Int.toNat_natCast, Nat.zero_add]; have hs := mD_step hD i; exact fnL_set (eqIr (by rw [hs.1, wu64]; exact (Int.emod_eq_of_lt hs.2.1 hs.2.2).symm)) (fun j _ hne => eqIr (mD_keep hne))⟩, trivial⟩
        have hnx := hrec (i + 1)
        refine hnx ?_ ?_
        · show i + 1 ≤ 21; omega
        · show 21 - (i + 1) < 21 - i; omega
  · intro h11
    have h11 : ¬ (i : Int) < 21 := h11
    refine ag_exit rfl ?_
    refine zB ?_
    refine pB ?_
    refine ar_store tOk rfl rfl rfl trivial ?_
    refine pA ?_
    refine ar_nil ?_
    obtain rfl : i = 21 := by omega
    refine ag_ret tOk Try.func78 rfl rfl (by simp) ?_
    rfl
end Go.Proofs.Ytopfpkmdkcjjlaa


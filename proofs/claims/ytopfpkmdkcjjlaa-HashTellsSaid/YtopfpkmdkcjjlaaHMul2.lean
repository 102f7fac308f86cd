/-
  WALKS: the reference's Mul. (Printed by gen.py out of w_hmul2.py.)
-/
import Derived.Test.YtopfpkmdkcjjlaaHMul
namespace Go.Proofs.Ytopfpkmdkcjjlaa
open Go
set_option maxRecDepth 20000
set_option linter.unusedVariables false
set_option linter.unusedSimpArgs false
theorem pm_zero : ∀ n, pm (fun _ => 0) 0 n = 0
  | 0 => rfl
  | n + 1 => by rw [pm, pm_zero n]; simp
def strMul_0 (X Y : Nat → Int) (n : Int) : Nat × (Nat → Int) → Regs × Hp := fun ⟨i, D⟩ => ([(4, .ptr 0 0), (6, .r (.ro 16 (fnL 16 fun k => .int .i64 (X k)))), (7, .r (.ro 16 (fnL 16 fun k => .int .i64 (Y k)))), (8, .sl 1 0 21 1), (9, .r (.int .i64 (i : Int)))], ⟨2, [(0, some (.plain [.int .u64 0, .int .u64 0, .int .u64 0, .int .u64 0])), (1, some (.plain (fnL 21 fun k => .int .i64 (D k))))], false⟩)
def prrMul_0 (X Y : Nat → Int) (n : Int) : Nat × (Nat → Int) → Prop := fun ⟨i, D⟩ => i ≤ 16 ∧ (∀ k, 0 ≤ D k ∧ D k < 65536) ∧ pm D 0 21 = pm X 0 i * n
def strMul_2 (X Y : Nat → Int) (n : Int) (i : Nat) : Nat × Int × (Nat → Int) → Regs × Hp := fun ⟨k, c, D⟩ => ([(4, .ptr 0 0), (6, .r (.ro 16 (fnL 16 fun k => .int .i64 (X k)))), (7, .r (.ro 16 (fnL 16 fun k => .int .i64 (Y k)))), (8, .sl 1 0 21 1), (9, .r (.int .i64 (i : Int))), (10, .r (.int .i64 c)), (11, .r (.int .i64 (k : Int)))], ⟨2, [(0, some (.plain [.int .u64 0, .int .u64 0, .int .u64 0, .int .u64 0])), (1, some (.plain (fnL 21 fun k => .int .i64 (D k))))], false⟩)
def prrMul_2 (X Y : Nat → Int) (n : Int) (i : Nat) : Nat × Int × (Nat → Int) → Prop := fun ⟨k, c, D⟩ => k ≤ 5 ∧ (0 ≤ c ∧ c < 65536) ∧ (∀ k, 0 ≤ D k ∧ D k < 65536) ∧ pm D 0 21 + c * 65536 ^ (i + k) = pm X 0 i * n + X i * 65536 ^ i * pm Y 0 k
set_option maxHeartbeats 1000000 in
theorem w_MulXY (x0 x1 x2 x3 n : Int) (h0 : U64 x0) (h1 : U64 x1) (h2 : U64 x2) (h3 : U64 x3) (hn : U64 n) (hV : valW x0 x1 x2 x3 * n < 115792089237316195423570985008687907853269984665640564039457584007913129639936) : Pur Try.prog 72 [wA x0 x1 x2 x3, .r (.int .u64 n)] (.tuple [wdV (valW x0 x1 x2 x3 * n), .r (.bool true)]) := by
  have cX := own_ro_plain (w_Digits x0 x1 x2 x3 h0 h1 h2 h3) rfl
  have cY := own_ro_plain (w_Digits n 0 0 0 hn ⟨by decide, by decide⟩ ⟨by decide, by decide⟩ ⟨by decide, by decide⟩) rfl
  rw [digW_fn] at cX cY
  have hX := dgF_bound x0 x1 x2 x3
  have hY := dgF_bound n 0 0 0
  have eX := pm_dgF h0 h1 h2 h3
  have eY := pm_dgn hn
  have eY4 : dgF n 0 0 0 4 = 0 := rfl
  rw [← eX] at hV ⊢
  generalize dgF x0 x1 x2 x3 = X at cX hX eX hV ⊢
  generalize dgF n 0 0 0 = Y at cY hY eY eY4
  refine spec_of_go (N := 61) Try.func72 rfl (by decide) rfl rfl ?_
  refine zB ?_
  refine ar_new tOk rfl rfl rfl trivial ?_
  refine ar_new tOk rfl rfl rfl ?_ ?_
  · simp
  refine pA ?_
  refine zC ?_
  refine pB ?_
  refine ar_pur (cX) rfl rfl rfl rfl rfl rfl rfl ?_
  refine pA ?_
  refine ar_pure tOk rfl rfl rfl ?_ ?_
  · simp
  refine ar_pur (cY) rfl rfl rfl rfl rfl rfl rfl ?_
  iterate 2 refine pA ?_
  refine zC ?_
  refine ar_make tOk rfl rfl rfl ?_ ?_
  · first | trivial | omega | (unfold inI64; omega) | (refine ⟨?_, ?_⟩ <;> first | trivial | rfl | omega | simp) | decide
  refine ar_ent (ent_body 2 (.plain (List.replicate (21 : Int).toNat (RVal.int .i64 0))) (.plain (fnL 21 fun k => .int .i64 ((fun _ => 0 : Nat → Int) k))) rfl rfl) ?_
  refine pA ?_
  refine zA ?_
  refine zB ?_
  refine pA ?_
  refine ar_nil ?_
  refine ag_block ?_
  refine ag_loopS (strMul_0 X Y n) (prrMul_0 X Y n) (fun ⟨i, D⟩ => 16 - i) (0, fun _ => 0) (ent_weak [1, 2] rfl rfl rfl rfl ?_ ?_ rfl) (show prrMul_0 X Y n (0, fun _ => 0) from ?_) ?_
  · exact ⟨⟨rfl, rfl⟩, ⟨rfl, rfl⟩, ⟨rfl, rfl⟩, ⟨rfl, rfl⟩, ⟨rfl, rfl⟩, trivial⟩
  · exact ⟨⟨rfl, rfl, rfl⟩, ⟨rfl, rfl, rfl⟩, trivial⟩
  · exact ⟨Nat.zero_le _, fun _ => ⟨Int.le_refl 0, by show (0 : Int) < 65536; decide⟩, by rw [pm_zero, pm, Int.zero_mul]⟩
  rintro ⟨i, D⟩ hp hrec
  obtain ⟨hi, hD0, hsum⟩ : _ := hp
  refine ag_seq ?_
  refine zB ?_
  iterate 2 refine pA ?_
  refine ar_nil ?_
  refine ag_if rfl ?_ ?_
  · intro h20
    refine ag_skip ?_
    refine ag_seq ?_
    refine ag_block ?_
    refine zB ?_
    refine pA ?_
    refine zC ?_
    refine pA ?_
    refine ar_nil ?_
    refine ag_block ?_
    refine ag_loopS (strMul_2 X Y n i) (prrMul_2 X Y n i) (fun ⟨k, c, D⟩ => 5 - k) (0, 0, D) (ent_weak [0, 1] rfl rfl rfl rfl ?_ ?_ rfl) (show prrMul_2 X Y n i (0, 0, D) from ?_) ?_
    · exact ⟨⟨rfl, rfl⟩, ⟨rfl, rfl⟩, ⟨rfl, rfl⟩, ⟨rfl, rfl⟩, ⟨rfl, rfl⟩, ⟨rfl, rfl⟩, ⟨rfl, rfl⟩, trivial⟩
    · exact ⟨⟨rfl, rfl, rfl⟩, ⟨rfl, rfl, rfl⟩, trivial⟩
    · refine ⟨Nat.zero_le _, ⟨by decide, by decide⟩, hD0, ?_⟩
      rw [hsum, pm, Int.zero_mul, Int.mul_zero]
    rintro ⟨k, c, D⟩ hp2 hrec2
    obtain ⟨hk, hc, hD, hin⟩ : _ := hp2
    refine ag_seq ?_
    refine zB ?_
    iterate 2 refine pA ?_
    refine ar_nil ?_
    refine ag_if rfl ?_ ?_
    · intro h24
      refine ag_skip ?_
      refine ag_seq ?_
      refine ag_block ?_
      refine zB ?_
      refine pA ?_
      refine zA ?_
      refine zB ?_
      iterate 2 refine pA ?_
      refine ar_nil ?_
      refine ag_if rfl ?_ ?_
      · intro h28
        have hk4 : k < 4 := by omega
        refine ag_reg ?_
        iterate 2 refine pA ?_
        refine ar_pure tOk rfl rfl rfl ?_ ?_
        · exact ⟨⟨by omega, by omega⟩, by simp [fnL]⟩
        refine ar_loadAs tOk (.r (.int .i64 (Y k))) rfl rfl rfl rfl rfl rfl rfl (loadsTo_fnL rfl (by simp only [mulz_eq, Nat.mul_one]; omega) (by simp only [mulz_eq, Nat.mul_one, Int.toNat_natCast])) ?_
        refine pA ?_
        refine zA ?_
        have hb1 := hD (i + k)
        have hb2 := hX i
        have hb3 := hY k
        have hxy : 0 ≤ X i * Y k := Int.mul_nonneg hb2.1 hb3.1
        have hxy2 : X i * Y k ≤ 65535 * 65535 := Int.mul_le_mul (by omega) (by omega) hb3.1 (by decide)
        have hs0 := mul_step hD (i := i) (k := k) (by omega) hc hb2 hb3 hin
        obtain ⟨s, hsd⟩ : ∃ s, s = (c + D (i + k) + X i * Y k) := ⟨_, rfl⟩
        simp only [← hsd] at hs0
        refine ag_draw0 (by kernel_rfl) (by kernel_rfl) ?_
        iterate 4 refine aq_pure tOk rfl rfl rfl trivial ?_
        refine aq_pure tOk rfl rfl rfl ?_ ?_
        · unfold inI64; omega
        refine aq_pure tOk rfl rfl rfl ?_ ?_
        · refine ⟨?_, ?_⟩ <;> omega
        refine aq_loadAs0 tOk (.r (.int .i64 (D (i + k)))) rfl rfl rfl rfl rfl (by kernel_rfl) rfl rfl (loadsTo_fnL rfl (by simp only [addo_eq, mulz_eq, Nat.mul_one]; omega) (by simp only [addo_eq, mulz_eq, Nat.mul_one, Nat.zero_add]; rw [show ((i : Int) + (k : Int)).toNat = i + k by omega])) ?_
        refine aq_pure tOk rfl rfl rfl ?_ ?_
        · unfold inI64; omega
        iterate 2 refine aq_pure tOk rfl rfl rfl trivial ?_
        refine aq_pure tOk rfl rfl rfl ?_ ?_
        · exact ⟨⟨by omega, by omega⟩, by simp [fnL]⟩
        refine aq_loadAs tOk (.r (.int .i64 (X i))) rfl rfl rfl rfl (fun _ => rfl) rfl rfl (loadsTo_fnL rfl (by simp only [mulz_eq, Nat.mul_one]; omega) (by simp only [mulz_eq, Nat.mul_one, Int.toNat_natCast])) ?_
        refine aq_pure tOk rfl rfl rfl trivial ?_
        refine aq_pure tOk rfl rfl rfl ?_ ?_
        · unfold inI64; omega
        refine aq_pure tOk rfl rfl rfl ?_ ?_
        · unfold inI64; omega
        refine aq_pure tOk rfl rfl rfl trivial ?_
        refine aq_nil rfl ?_
        refine ag_seq ?_
        refine ag_ent (ent_reg 10 (.r (.int .i64 s)) (by show AVal.r (.int _ _) = _; exact eqI hsd.symm)) ?_
        refine ag_reg ?_
        iterate 3 refine pA ?_
        refine ar_pure tOk rfl rfl rfl ?_ ?_
        · unfold inI64; omega
        refine pA ?_
        refine ar_pure tOk rfl rfl rfl ?_ ?_
        · decide
        refine ar_ent (ent_reg 53 (.r (.int .i64 (s % 65536))) (by show AVal.r (.int _ _) = _; exact eqI (Int.tmod_eq_emod_of_nonneg hs0.1.1))) ?_
        refine ar_pure tOk rfl rfl rfl ?_ ?_
        · refine ⟨?_, ?_⟩ <;> omega
        refine ar_store tOk rfl rfl rfl ?_ ?_
        · simp only [fnL_length, addo_eq, mulz_eq, Nat.mul_one]; omega
        refine ar_nil ?_
        refine ag_reg ?_
        refine pA ?_
        refine ar_pure tOk rfl rfl rfl ?_ ?_
        · refine ⟨?_, by decide⟩
          show inI64 _
          rw [Int.tdiv_eq_ediv_of_nonneg (by omega)]; unfold inI64; omega
        refine ar_ent (ent_reg 56 (.r (.int .i64 (s / 65536))) (by show AVal.r (.int _ _) = _; exact eqI (Int.tdiv_eq_ediv_of_nonneg hs0.1.1))) ?_
        refine pA ?_
        refine ar_nil ?_
        refine ag_inBlock ?_
        refine ag_reg ?_
        refine pA ?_
        refine ar_pure tOk rfl rfl rfl ?_ ?_
        · unfold inI64; omega
        refine pA ?_
        refine ar_nil ?_
        refine ag_ent (ent_weak (g' := (strMul_2 X Y n i (k + 1, s / 65536, updF D (i + k) (s % 65536))).1) (h' := (strMul_2 X Y n i (k + 1, s / 65536, updF D (i + k) (s % 65536))).2) [0, 1] rfl rfl rfl rfl ?_ ?_ rfl) ?_
        · exact ⟨⟨rfl, rfl⟩, ⟨rfl, rfl⟩, ⟨rfl, rfl⟩, ⟨rfl, rfl⟩, ⟨rfl, rfl⟩, ⟨rfl, rfl⟩, ⟨rfl, by exact eqI (by omega)⟩, trivial⟩
        · exact ⟨⟨rfl, rfl, rfl⟩, ⟨rfl, rfl, by refine eqPl ?_; simp only [addo_eq, mulz_eq, Nat.mul_one, Nat.zero_add]; rw [show ((i : Int) + (k : Int)).toNat = i + k by omega]; exact fnL_set (eqIr (by simp [updF])) (fun j _ hne => eqIr (by simp [updF, hne]))⟩, trivial⟩
        have hnx := hrec2 (k + 1, s / 65536, updF D (i + k) (s % 65536))
        refine hnx ?_ ?_
        · refine ⟨by omega, hs0.2.1, upd_bound hD ⟨by omega, by omega⟩, ?_⟩
          rw [show pm Y 0 (k + 1) = pm Y 0 k + Y k * 65536 ^ k by rw [pm, Nat.zero_add]]; exact hs0.2.2
        · show 5 - (k + 1) < 5 - k; omega
      · intro h28
        have hk4 : k = 4 := by omega
        refine ag_ent (ent_reg 12 (.r (.int .i64 (Y k))) (by show AVal.r (.int _ _) = _; exact eqI (by rw [hk4]; exact eY4.symm))) ?_
        refine ag_skip ?_
        refine ag_seq ?_
        have hb1 := hD (i + k)
        have hb2 := hX i
        have hb3 := hY k
        have hxy : 0 ≤ X i * Y k := Int.mul_nonneg hb2.1 hb3.1
        have hxy2 : X i * Y k ≤ 65535 * 65535 := Int.mul_le_mul (by omega) (by omega) hb3.1 (by decide)
        have hs0 := mul_step hD (i := i) (k := k) (by omega) hc hb2 hb3 hin
        obtain ⟨s, hsd⟩ : ∃ s, s = (c + D (i + k) + X i * Y k) := ⟨_, rfl⟩
        simp only [← hsd] at hs0
        refine ag_draw0 (by kernel_rfl) (by kernel_rfl) ?_
        iterate 4 refine aq_pure tOk rfl rfl rfl trivial ?_
        refine aq_pure tOk rfl rfl rfl ?_ ?_
        · unfold inI64; omega
        refine aq_pure tOk rfl rfl rfl ?_ ?_
        · refine ⟨?_, ?_⟩ <;> omega
        refine aq_loadAs0 tOk (.r (.int .i64 (D (i + k)))) rfl rfl rfl rfl rfl (by kernel_rfl) rfl rfl (loadsTo_fnL rfl (by simp only [addo_eq, mulz_eq, Nat.mul_one]; omega) (by simp only [addo_eq, mulz_eq, Nat.mul_one, Nat.zero_add]; rw [show ((i : Int) + (k : Int)).toNat = i + k by omega])) ?_
        refine aq_pure tOk rfl rfl rfl ?_ ?_
        · unfold inI64; omega
        iterate 2 refine aq_pure tOk rfl rfl rfl trivial ?_
        refine aq_pure tOk rfl rfl rfl ?_ ?_
        · exact ⟨⟨by omega, by omega⟩, by simp [fnL]⟩
        refine aq_loadAs tOk (.r (.int .i64 (X i))) rfl rfl rfl rfl (fun _ => rfl) rfl rfl (loadsTo_fnL rfl (by simp only [mulz_eq, Nat.mul_one]; omega) (by simp only [mulz_eq, Nat.mul_one, Int.toNat_natCast])) ?_
        refine aq_pure tOk rfl rfl rfl trivial ?_
        refine aq_pure tOk rfl rfl rfl ?_ ?_
        · unfold inI64; omega
        refine aq_pure tOk rfl rfl rfl ?_ ?_
        · unfold inI64; omega
        refine aq_pure tOk rfl rfl rfl trivial ?_
        refine aq_nil rfl ?_
        refine ag_seq ?_
        refine ag_ent (ent_reg 10 (.r (.int .i64 s)) (by show AVal.r (.int _ _) = _; exact eqI hsd.symm)) ?_
        refine ag_reg ?_
        iterate 3 refine pA ?_
        refine ar_pure tOk rfl rfl rfl ?_ ?_
        · unfold inI64; omega
        refine pA ?_
        refine ar_pure tOk rfl rfl rfl ?_ ?_
        · decide
        refine ar_ent (ent_reg 53 (.r (.int .i64 (s % 65536))) (by show AVal.r (.int _ _) = _; exact eqI (Int.tmod_eq_emod_of_nonneg hs0.1.1))) ?_
        refine ar_pure tOk rfl rfl rfl ?_ ?_
        · refine ⟨?_, ?_⟩ <;> omega
        refine ar_store tOk rfl rfl rfl ?_ ?_
        · simp only [fnL_length, addo_eq, mulz_eq, Nat.mul_one]; omega
        refine ar_nil ?_
        refine ag_reg ?_
        refine pA ?_
        refine ar_pure tOk rfl rfl rfl ?_ ?_
        · refine ⟨?_, by decide⟩
          show inI64 _
          rw [Int.tdiv_eq_ediv_of_nonneg (by omega)]; unfold inI64; omega
        refine ar_ent (ent_reg 56 (.r (.int .i64 (s / 65536))) (by show AVal.r (.int _ _) = _; exact eqI (Int.tdiv_eq_ediv_of_nonneg hs0.1.1))) ?_
        refine pA ?_
        refine ar_nil ?_
        refine ag_inBlock ?_
        refine ag_reg ?_
        refine pA ?_
        refine ar_pure tOk rfl rfl rfl ?_ ?_
        · unfold inI64; omega
        refine pA ?_
        refine ar_nil ?_
        refine ag_ent (ent_weak (g' := (strMul_2 X Y n i (k + 1, s / 65536, updF D (i + k) (s % 65536))).1) (h' := (strMul_2 X Y n i (k + 1, s / 65536, updF D (i + k) (s % 65536))).2) [0, 1] rfl rfl rfl rfl ?_ ?_ rfl) ?_
        · exact ⟨⟨rfl, rfl⟩, ⟨rfl, rfl⟩, ⟨rfl, rfl⟩, ⟨rfl, rfl⟩, ⟨rfl, rfl⟩, ⟨rfl, rfl⟩, ⟨rfl, by exact eqI (by omega)⟩, trivial⟩
        · exact ⟨⟨rfl, rfl, rfl⟩, ⟨rfl, rfl, by refine eqPl ?_; simp only [addo_eq, mulz_eq, Nat.mul_one, Nat.zero_add]; rw [show ((i : Int) + (k : Int)).toNat = i + k by omega]; exact fnL_set (eqIr (by simp [updF])) (fun j _ hne => eqIr (by simp [updF, hne]))⟩, trivial⟩
        have hnx := hrec2 (k + 1, s / 65536, updF D (i + k) (s % 65536))
        refine hnx ?_ ?_
        · refine ⟨by omega, hs0.2.1, upd_bound hD ⟨by omega, by omega⟩, ?_⟩
          rw [show pm Y 0 (k + 1) = pm Y 0 k + Y k * 65536 ^ k by rw [pm, Nat.zero_add]]; exact hs0.2.2
        · show 5 - (k + 1) < 5 - k; omega
    · intro h24
      obtain rfl : k = 5 := by omega
      rw [eY] at hin
      have hin2 : pm D 0 21 + c * 65536 ^ (i + 5) = pm X 0 (i + 1) * n := by rw [hin, pm, Nat.zero_add, Int.add_mul]
      have hpx := pm_bound hX 0 (i + 1)
      obtain rfl := mul_carry hD hc.1 hin2 hpx hn
      rw [Int.zero_mul, Int.add_zero] at hin2
      refine ag_exit rfl ?_
      refine ag_inBlock ?_
      refine ag_reg ?_
      refine pA ?_
      refine ar_pure tOk rfl rfl rfl ?_ ?_
      · unfold inI64; omega
      refine pA ?_
      refine ar_nil ?_
      refine ag_ent (ent_weak (g' := (strMul_0 X Y n (i + 1, D)).1) (h' := (strMul_0 X Y n (i + 1, D)).2) [0, 1] rfl rfl rfl rfl ?_ ?_ rfl) ?_
      · exact ⟨⟨rfl, rfl⟩, ⟨rfl, rfl⟩, ⟨rfl, rfl⟩, ⟨rfl, rfl⟩, ⟨rfl, by exact eqI (by omega)⟩, trivial⟩
      · exact ⟨⟨rfl, rfl, rfl⟩, ⟨rfl, rfl, rfl⟩, trivial⟩
      have hnx := hrec (i + 1, D)
      refine hnx ?_ ?_
      · exact ⟨by omega, hD, hin2⟩
      · show 16 - (i + 1) < 16 - i; omega
  · intro h20
    obtain rfl : i = 16 := by omega
    refine ag_exit rfl ?_
    refine zB ?_
    refine pA ?_
    refine ar_ent (ent_freeze 57 rfl rfl rfl trivial) ?_
    refine ar_ent (ent_reg 57 (.r (.ro 21 (fnL 21 fun k => .int .i64 (D k)))) (by show AVal.r (.ro 21 (cutA _ 0 (21 * 1))) = _; rw [cutA_eq, List.drop_zero, List.take_of_length_le (by rw [fnL_length]; exact Nat.le_refl _)])) ?_
    refine ar_pur (w_Made21 D hD0 (pm_top hD0 hsum hV).2) rfl rfl rfl rfl rfl rfl rfl ?_
    iterate 2 refine pA ?_
    refine ar_store tOk rfl rfl rfl trivial ?_
    refine pA ?_
    refine ar_nil ?_
    refine ag_ret tOk Try.func72 rfl rfl (by first | trivial | exact ⟨trivial, trivial⟩ | simp) ?_
    have ht := pm_top hD0 hsum hV
    rw [← wd_of hD0 ht.1]; rfl
end Go.Proofs.Ytopfpkmdkcjjlaa


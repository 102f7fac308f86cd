/-
  WALKS: wide numbers' octets. (Printed by gen.py out of w_bwide.py.)
-/
import Derived.Test.YtopfpkmdkcjjlaaBInt
namespace Go.Proofs.Ytopfpkmdkcjjlaa
open Go
set_option linter.unusedVariables false
set_option linter.unusedSimpArgs false
def wA (x0 x1 x2 x3 : Int) : AVal := .agg [.r (.int .u64 x0), .r (.int .u64 x1), .r (.int .u64 x2), .r (.int .u64 x3)]
def U64 (x : Int) : Prop := 0 ≤ x ∧ x < 18446744073709551616
def digL : Nat → Int → List RVal
  | 0, _ => []
  | k + 1, x => .int .i64 (x % 65536) :: digL k (x / 65536)
def digW (x0 x1 x2 x3 : Int) : List RVal := digL 4 x0 ++ (digL 4 x1 ++ (digL 4 x2 ++ digL 4 x3))
theorem u8r (n : Int) : 0 ≤ IntKind.u8.wrap n ∧ IntKind.u8.wrap n < 256 := by rw [wu8]; omega
theorem w_Digits (x0 x1 x2 x3 : Int) (h0 : U64 x0) (h1 : U64 x1) (h2 : U64 x2) (h3 : U64 x3) : Own Try.prog 77 [wA x0 x1 x2 x3] 16 1 (.plain (digW x0 x1 x2 x3)) := by
  unfold U64 at h0 h1 h2 h3
  refine spec_of_go (N := 27) Try.func77 rfl (by decide) rfl rfl ?_
  refine zB ?_
  refine ar_new tOk rfl rfl rfl trivial ?_
  refine pA ?_
  refine zC ?_
  refine pA ?_
  refine zA ?_
  refine zB ?_
  refine pA ?_
  refine ar_nil ?_
  refine ag_block ?_
  refine ag_unroll ?_
  refine ag_seq ?_
  refine zB ?_
  iterate 2 refine pA ?_
  refine ar_nil ?_
  refine ag_true rfl (by decide) ?_
  refine ag_skip ?_
  refine ag_seq ?_
  refine ag_block ?_
  refine zB ?_
  refine pA ?_
  refine ar_pure tOk rfl rfl rfl ?_ ?_
  · decide
  refine pB ?_
  refine pA ?_
  refine zC ?_
  refine pA ?_
  refine ar_nil ?_
  refine ag_block ?_
  refine ag_unroll ?_
  refine ag_seq ?_
  refine zB ?_
  iterate 2 refine pA ?_
  refine ar_nil ?_
  refine ag_true rfl (by decide) ?_
  refine ag_skip ?_
  refine ag_seq ?_
  refine ag_block ?_
  refine zB ?_
  iterate 2 refine pA ?_
  refine ar_pure tOk rfl rfl rfl ?_ ?_
  · decide
  refine ar_ent (ent_reg 20 (.r (.int .u64 ((x0) % 65536))) (eqI (Int.tmod_eq_emod_of_nonneg (by omega)))) ?_
  refine ar_pure tOk rfl rfl rfl ?_ ?_
  · unfold inI64; omega
  refine ar_new tOk rfl rfl rfl ?_ ?_
  · simp
  refine ar_app tOk rfl rfl rfl ?_ ?_
  · refine ⟨⟨?_, ?_, ?_⟩, ⟨?_, ?_⟩, ⟨?_, ?_⟩, ?_⟩ <;> first | trivial | decide | exact ⟨u8r _, u8r _, trivial⟩ | exact ⟨u8r _, trivial⟩ | omega | (simp; done) | (simp [cutA_eq]; done) | (simp [cutA_eq, digL]; done)
  refine pA ?_
  refine ar_nil ?_
  refine ag_reg ?_
  refine pA ?_
  refine ar_pure tOk rfl rfl rfl ?_ ?_
  · exact ⟨trivial, by decide⟩
  refine ar_ent (ent_reg 25 (.r (.int .u64 ((x0) / 65536))) (eqI (by rw [wu64, Int.tdiv_eq_ediv_of_nonneg (by omega)]; omega))) ?_
  refine pA ?_
  refine ar_nil ?_
  refine ag_inBlock ?_
  refine ag_reg ?_
  refine pA ?_
  refine ar_pure tOk rfl rfl rfl ?_ ?_
  · unfold inI64; decide
  refine pA ?_
  refine ar_nil ?_
  refine ag_again ?_
  refine ag_seq ?_
  refine zB ?_
  iterate 2 refine pA ?_
  refine ar_nil ?_
  refine ag_true rfl (by decide) ?_
  refine ag_skip ?_
  refine ag_seq ?_
  refine ag_block ?_
  refine zB ?_
  iterate 2 refine pA ?_
  refine ar_pure tOk rfl rfl rfl ?_ ?_
  · decide
  refine ar_ent (ent_reg 20 (.r (.int .u64 ((x0 / 65536) % 65536))) (eqI (Int.tmod_eq_emod_of_nonneg (by omega)))) ?_
  refine ar_pure tOk rfl rfl rfl ?_ ?_
  · unfold inI64; omega
  refine ar_new tOk rfl rfl rfl ?_ ?_
  · simp
  refine ar_app tOk rfl rfl rfl ?_ ?_
  · refine ⟨⟨?_, ?_, ?_⟩, ⟨?_, ?_⟩, ⟨?_, ?_⟩, ?_⟩ <;> first | trivial | decide | exact ⟨u8r _, u8r _, trivial⟩ | exact ⟨u8r _, trivial⟩ | omega | (simp; done) | (simp [cutA_eq]; done) | (simp [cutA_eq, digL]; done)
  refine pA ?_
  refine ar_nil ?_
  refine ag_reg ?_
  refine pA ?_
  refine ar_pure tOk rfl rfl rfl ?_ ?_
  · exact ⟨trivial, by decide⟩
  refine ar_ent (ent_reg 25 (.r (.int .u64 ((x0 / 65536) / 65536))) (eqI (by rw [wu64, Int.tdiv_eq_ediv_of_nonneg (by omega)]; omega))) ?_
  refine pA ?_
  refine ar_nil ?_
  refine ag_inBlock ?_
  refine ag_reg ?_
  refine pA ?_
  refine ar_pure tOk rfl rfl rfl ?_ ?_
  · unfold inI64; decide
  refine pA ?_
  refine ar_nil ?_
  refine ag_again ?_
  refine ag_seq ?_
  refine zB ?_
  iterate 2 refine pA ?_
  refine ar_nil ?_
  refine ag_true rfl (by decide) ?_
  refine ag_skip ?_
  refine ag_seq ?_
  refine ag_block ?_
  refine zB ?_
  iterate 2 refine pA ?_
  refine ar_pure tOk rfl rfl rfl ?_ ?_
  · decide
  refine ar_ent (ent_reg 20 (.r (.int .u64 ((x0 / 65536 / 65536) % 65536))) (eqI (Int.tmod_eq_emod_of_nonneg (by omega)))) ?_
  refine ar_pure tOk rfl rfl rfl ?_ ?_
  · unfold inI64; omega
  refine ar_new tOk rfl rfl rfl ?_ ?_
  · simp
  refine ar_app tOk rfl rfl rfl ?_ ?_
  · refine ⟨⟨?_, ?_, ?_⟩, ⟨?_, ?_⟩, ⟨?_, ?_⟩, ?_⟩ <;> first | trivial | decide | exact ⟨u8r _, u8r _, trivial⟩ | exact ⟨u8r _, trivial⟩ | omega | (simp; done) | (simp [cutA_eq]; done) | (simp [cutA_eq, digL]; done)
  refine pA ?_
  refine ar_nil ?_
  refine ag_reg ?_
  refine pA ?_
  refine ar_pure tOk rfl rfl rfl ?_ ?_
  · exact ⟨trivial, by decide⟩
  refine ar_ent (ent_reg 25 (.r (.int .u64 ((x0 / 65536 / 65536) / 65536))) (eqI (by rw [wu64, Int.tdiv_eq_ediv_of_nonneg (by omega)]; omega))) ?_
  refine pA ?_
  refine ar_nil ?_
  refine ag_inBlock ?_
  refine ag_reg ?_
  refine pA ?_
  refine ar_pure tOk rfl rfl rfl ?_ ?_
  · unfold inI64; decide
  refine pA ?_
  refine ar_nil ?_
  refine ag_again ?_
  refine ag_seq ?_
  refine zB ?_
  iterate 2 refine pA ?_
  refine ar_nil ?_
  refine ag_true rfl (by decide) ?_
  refine ag_skip ?_
  refine ag_seq ?_
  refine ag_block ?_
  refine zB ?_
  iterate 2 refine pA ?_
  refine ar_pure tOk rfl rfl rfl ?_ ?_
  · decide
  refine ar_ent (ent_reg 20 (.r (.int .u64 ((x0 / 65536 / 65536 / 65536) % 65536))) (eqI (Int.tmod_eq_emod_of_nonneg (by omega)))) ?_
  refine ar_pure tOk rfl rfl rfl ?_ ?_
  · unfold inI64; omega
  refine ar_new tOk rfl rfl rfl ?_ ?_
  · simp
  refine ar_app tOk rfl rfl rfl ?_ ?_
  · refine ⟨⟨?_, ?_, ?_⟩, ⟨?_, ?_⟩, ⟨?_, ?_⟩, ?_⟩ <;> first | trivial | decide | exact ⟨u8r _, u8r _, trivial⟩ | exact ⟨u8r _, trivial⟩ | omega | (simp; done) | (simp [cutA_eq]; done) | (simp [cutA_eq, digL]; done)
  refine pA ?_
  refine ar_nil ?_
  refine ag_reg ?_
  refine pA ?_
  refine ar_pure tOk rfl rfl rfl ?_ ?_
  · exact ⟨trivial, by decide⟩
  refine ar_ent (ent_reg 25 (.r (.int .u64 ((x0 / 65536 / 65536 / 65536) / 65536))) (eqI (by rw [wu64, Int.tdiv_eq_ediv_of_nonneg (by omega)]; omega))) ?_
  refine pA ?_
  refine ar_nil ?_
  refine ag_inBlock ?_
  refine ag_reg ?_
  refine pA ?_
  refine ar_pure tOk rfl rfl rfl ?_ ?_
  · unfold inI64; decide
  refine pA ?_
  refine ar_nil ?_
  refine ag_again ?_
  refine ag_seq ?_
  refine zB ?_
  iterate 2 refine pA ?_
  refine ar_nil ?_
  refine ag_false rfl (by decide) ?_
  refine ag_exit rfl ?_
  refine ag_inBlock ?_
  refine ag_ent (ent_weak (g' := [(4, .r (.int .i64 0)), (3, .sl 1 0 4 1), (1, .ptr 0 0)]) (h' := ⟨2, [(0, some (.mixed [.r (.int .u64 x0), .r (.int .u64 x1), .r (.int .u64 x2), .r (.int .u64 x3)])), (1, some (.plain (digL 4 x0)))], false⟩) [0, 8] rfl rfl rfl rfl ?_ ?_ rfl) ?_
  · exact ⟨⟨rfl, rfl⟩, ⟨rfl, rfl⟩, ⟨rfl, rfl⟩, trivial⟩
  · exact ⟨⟨rfl, rfl, rfl⟩, ⟨rfl, rfl, rfl⟩, trivial⟩
  refine ag_reg ?_
  refine pA ?_
  refine ar_pure tOk rfl rfl rfl ?_ ?_
  · unfold inI64; decide
  refine pA ?_
  refine ar_nil ?_
  refine ag_again ?_
  refine ag_seq ?_
  refine zB ?_
  iterate 2 refine pA ?_
  refine ar_nil ?_
  refine ag_true rfl (by decide) ?_
  refine ag_skip ?_
  refine ag_seq ?_
  refine ag_block ?_
  refine zB ?_
  refine pA ?_
  refine ar_pure tOk rfl rfl rfl ?_ ?_
  · decide
  refine pB ?_
  refine pA ?_
  refine zC ?_
  refine pA ?_
  refine ar_nil ?_
  refine ag_block ?_
  refine ag_unroll ?_
  refine ag_seq ?_
  refine zB ?_
  iterate 2 refine pA ?_
  refine ar_nil ?_
  refine ag_true rfl (by decide) ?_
  refine ag_skip ?_
  refine ag_seq ?_
  refine ag_block ?_
  refine zB ?_
  iterate 2 refine pA ?_
  refine ar_pure tOk rfl rfl rfl ?_ ?_
  · decide
  refine ar_ent (ent_reg 20 (.r (.int .u64 ((x1) % 65536))) (eqI (Int.tmod_eq_emod_of_nonneg (by omega)))) ?_
  refine ar_pure tOk rfl rfl rfl ?_ ?_
  · unfold inI64; omega
  refine ar_new tOk rfl rfl rfl ?_ ?_
  · simp
  refine ar_app tOk rfl rfl rfl ?_ ?_
  · refine ⟨⟨?_, ?_, ?_⟩, ⟨?_, ?_⟩, ⟨?_, ?_⟩, ?_⟩ <;> first | trivial | decide | exact ⟨u8r _, u8r _, trivial⟩ | exact ⟨u8r _, trivial⟩ | omega | (simp; done) | (simp [cutA_eq]; done) | (simp [cutA_eq, digL]; done)
  refine pA ?_
  refine ar_nil ?_
  refine ag_reg ?_
  refine pA ?_
  refine ar_pure tOk rfl rfl rfl ?_ ?_
  · exact ⟨trivial, by decide⟩
  refine ar_ent (ent_reg 25 (.r (.int .u64 ((x1) / 65536))) (eqI (by rw [wu64, Int.tdiv_eq_ediv_of_nonneg (by omega)]; omega))) ?_
  refine pA ?_
  refine ar_nil ?_
  refine ag_inBlock ?_
  refine ag_reg ?_
  refine pA ?_
  refine ar_pure tOk rfl rfl rfl ?_ ?_
  · unfold inI64; decide
  refine pA ?_
  refine ar_nil ?_
  refine ag_again ?_
  refine ag_seq ?_
  refine zB ?_
  iterate 2 refine pA ?_
  refine ar_nil ?_
  refine ag_true rfl (by decide) ?_
  refine ag_skip ?_
  refine ag_seq ?_
  refine ag_block ?_
  refine zB ?_
  iterate 2 refine pA ?_
  refine ar_pure tOk rfl rfl rfl ?_ ?_
  · decide
  refine ar_ent (ent_reg 20 (.r (.int .u64 ((x1 / 65536) % 65536))) (eqI (Int.tmod_eq_emod_of_nonneg (by omega)))) ?_
  refine ar_pure tOk rfl rfl rfl ?_ ?_
  · unfold inI64; omega
  refine ar_new tOk rfl rfl rfl ?_ ?_
  · simp
  refine ar_app tOk rfl rfl rfl ?_ ?_
  · refine ⟨⟨?_, ?_, ?_⟩, ⟨?_, ?_⟩, ⟨?_, ?_⟩, ?_⟩ <;> first | trivial | decide | exact ⟨u8r _, u8r _, trivial⟩ | exact ⟨u8r _, trivial⟩ | omega | (simp; done) | (simp [cutA_eq]; done) | (simp [cutA_eq, digL]; done)
  refine pA ?_
  refine ar_nil ?_
  refine ag_reg ?_
  refine pA ?_
  refine ar_pure tOk rfl rfl rfl ?_ ?_
  · exact ⟨trivial, by decide⟩
  refine ar_ent (ent_reg 25 (.r (.int .u64 ((x1 / 65536) / 65536))) (eqI (by rw [wu64, Int.tdiv_eq_ediv_of_nonneg (by omega)]; omega))) ?_
  refine pA ?_
  refine ar_nil ?_
  refine ag_inBlock ?_
  refine ag_reg ?_
  refine pA ?_
  refine ar_pure tOk rfl rfl rfl ?_ ?_
  · unfold inI64; decide
  refine pA ?_
  refine ar_nil ?_
  refine ag_again ?_
  refine ag_seq ?_
  refine zB ?_
  iterate 2 refine pA ?_
  refine ar_nil ?_
  refine ag_true rfl (by decide) ?_
  refine ag_skip ?_
  refine ag_seq ?_
  refine ag_block ?_
  refine zB ?_
  iterate 2 refine pA ?_
  refine ar_pure tOk rfl rfl rfl ?_ ?_
  · decide
  refine ar_ent (ent_reg 20 (.r (.int .u64 ((x1 / 65536 / 65536) % 65536))) (eqI (Int.tmod_eq_emod_of_nonneg (by omega)))) ?_
  refine ar_pure tOk rfl rfl rfl ?_ ?_
  · unfold inI64; omega
  refine ar_new tOk rfl rfl rfl ?_ ?_
  · simp
  refine ar_app tOk rfl rfl rfl ?_ ?_
  · refine ⟨⟨?_, ?_, ?_⟩, ⟨?_, ?_⟩, ⟨?_, ?_⟩, ?_⟩ <;> first | trivial | decide | exact ⟨u8r _, u8r _, trivial⟩ | exact ⟨u8r _, trivial⟩ | omega | (simp; done) | (simp [cutA_eq]; done) | (simp [cutA_eq, digL]; done)
  refine pA ?_
  refine ar_nil ?_
  refine ag_reg ?_
  refine pA ?_
  refine ar_pure tOk rfl rfl rfl ?_ ?_
  · exact ⟨trivial, by decide⟩
  refine ar_ent (ent_reg 25 (.r (.int .u64 ((x1 / 65536 / 65536) / 65536))) (eqI (by rw [wu64, Int.tdiv_eq_ediv_of_nonneg (by omega)]; omega))) ?_
  refine pA ?_
  refine ar_nil ?_
  refine ag_inBlock ?_
  refine ag_reg ?_
  refine pA ?_
  refine ar_pure tOk rfl rfl rfl ?_ ?_
  · unfold inI64; decide
  refine pA ?_
  refine ar_nil ?_
  refine ag_again ?_
  refine ag_seq ?_
  refine zB ?_
  iterate 2 refine pA ?_
  refine ar_nil ?_
  refine ag_true rfl (by decide) ?_
  refine ag_skip ?_
  refine ag_seq ?_
  refine ag_block ?_
  refine zB ?_
  iterate 2 refine pA ?_
  refine ar_pure tOk rfl rfl rfl ?_ ?_
  · decide
  refine ar_ent (ent_reg 20 (.r (.int .u64 ((x1 / 65536 / 65536 / 65536) % 65536))) (eqI (Int.tmod_eq_emod_of_nonneg (by omega)))) ?_
  refine ar_pure tOk rfl rfl rfl ?_ ?_
  · unfold inI64; omega
  refine ar_new tOk rfl rfl rfl ?_ ?_
  · simp
  refine ar_app tOk rfl rfl rfl ?_ ?_
  · refine ⟨⟨?_, ?_, ?_⟩, ⟨?_, ?_⟩, ⟨?_, ?_⟩, ?_⟩ <;> first | trivial | decide | exact ⟨u8r _, u8r _, trivial⟩ | exact ⟨u8r _, trivial⟩ | omega | (simp; done) | (simp [cutA_eq]; done) | (simp [cutA_eq, digL]; done)
  refine pA ?_
  refine ar_nil ?_
  refine ag_reg ?_
  refine pA ?_
  refine ar_pure tOk rfl rfl rfl ?_ ?_
  · exact ⟨trivial, by decide⟩
  refine ar_ent (ent_reg 25 (.r (.int .u64 ((x1 / 65536 / 65536 / 65536) / 65536))) (eqI (by rw [wu64, Int.tdiv_eq_ediv_of_nonneg (by omega)]; omega))) ?_
  refine pA ?_
  refine ar_nil ?_
  refine ag_inBlock ?_
  refine ag_reg ?_
  refine pA ?_
  refine ar_pure tOk rfl rfl rfl ?_ ?_
  · unfold inI64; decide
  refine pA ?_
  refine ar_nil ?_
  refine ag_again ?_
  refine ag_seq ?_
  refine zB ?_
  iterate 2 refine pA ?_
  refine ar_nil ?_
  refine ag_false rfl (by decide) ?_
  refine ag_exit rfl ?_
  refine ag_inBlock ?_
  refine ag_ent (ent_weak (g' := [(4, .r (.int .i64 1)), (3, .sl 1 0 8 1), (1, .ptr 0 0)]) (h' := ⟨2, [(0, some (.mixed [.r (.int .u64 x0), .r (.int .u64 x1), .r (.int .u64 x2), .r (.int .u64 x3)])), (1, some (.plain (digL 4 x0 ++ digL 4 x1)))], false⟩) [0, 9] rfl rfl rfl rfl ?_ ?_ rfl) ?_
  · exact ⟨⟨rfl, rfl⟩, ⟨rfl, rfl⟩, ⟨rfl, rfl⟩, trivial⟩
  · exact ⟨⟨rfl, rfl, rfl⟩, ⟨rfl, rfl, rfl⟩, trivial⟩
  refine ag_reg ?_
  refine pA ?_
  refine ar_pure tOk rfl rfl rfl ?_ ?_
  · unfold inI64; decide
  refine pA ?_
  refine ar_nil ?_
  refine ag_again ?_
  refine ag_seq ?_
  refine zB ?_
  iterate 2 refine pA ?_
  refine ar_nil ?_
  refine ag_true rfl (by decide) ?_
  refine ag_skip ?_
  refine ag_seq ?_
  refine ag_block ?_
  refine zB ?_
  refine pA ?_
  refine ar_pure tOk rfl rfl rfl ?_ ?_
  · decide
  refine pB ?_
  refine pA ?_
  refine zC ?_
  refine pA ?_
  refine ar_nil ?_
  refine ag_block ?_
  refine ag_unroll ?_
  refine ag_seq ?_
  refine zB ?_
  iterate 2 refine pA ?_
  refine ar_nil ?_
  refine ag_true rfl (by decide) ?_
  refine ag_skip ?_
  refine ag_seq ?_
  refine ag_block ?_
  refine zB ?_
  iterate 2 refine pA ?_
  refine ar_pure tOk rfl rfl rfl ?_ ?_
  · decide
  refine ar_ent (ent_reg 20 (.r (.int .u64 ((x2) % 65536))) (eqI (Int.tmod_eq_emod_of_nonneg (by omega)))) ?_
  refine ar_pure tOk rfl rfl rfl ?_ ?_
  · unfold inI64; omega
  refine ar_new tOk rfl rfl rfl ?_ ?_
  · simp
  refine ar_app tOk rfl rfl rfl ?_ ?_
  · refine ⟨⟨?_, ?_, ?_⟩, ⟨?_, ?_⟩, ⟨?_, ?_⟩, ?_⟩ <;> first | trivial | decide | exact ⟨u8r _, u8r _, trivial⟩ | exact ⟨u8r _, trivial⟩ | omega | (simp; done) | (simp [cutA_eq]; done) | (simp [cutA_eq, digL]; done)
  refine pA ?_
  refine ar_nil ?_
  refine ag_reg ?_
  refine pA ?_
  refine ar_pure tOk rfl rfl rfl ?_ ?_
  · exact ⟨trivial, by decide⟩
  refine ar_ent (ent_reg 25 (.r (.int .u64 ((x2) / 65536))) (eqI (by rw [wu64, Int.tdiv_eq_ediv_of_nonneg (by omega)]; omega))) ?_
  refine pA ?_
  refine ar_nil ?_
  refine ag_inBlock ?_
  refine ag_reg ?_
  refine pA ?_
  refine ar_pure tOk rfl rfl rfl ?_ ?_
  · unfold inI64; decide
  refine pA ?_
  refine ar_nil ?_
  refine ag_again ?_
  refine ag_seq ?_
  refine zB ?_
  iterate 2 refine pA ?_
  refine ar_nil ?_
  refine ag_true rfl (by decide) ?_
  refine ag_skip ?_
  refine ag_seq ?_
  refine ag_block ?_
  refine zB ?_
  iterate 2 refine pA ?_
  refine ar_pure tOk rfl rfl rfl ?_ ?_
  · decide
  refine ar_ent (ent_reg 20 (.r (.int .u64 ((x2 / 65536) % 65536))) (eqI (Int.tmod_eq_emod_of_nonneg (by omega)))) ?_
  refine ar_pure tOk rfl rfl rfl ?_ ?_
  · unfold inI64; omega
  refine ar_new tOk rfl rfl rfl ?_ ?_
  · simp
  refine ar_app tOk rfl rfl rfl ?_ ?_
  · refine ⟨⟨?_, ?_, ?_⟩, ⟨?_, ?_⟩, ⟨?_, ?_⟩, ?_⟩ <;> first | trivial | decide | exact ⟨u8r _, u8r _, trivial⟩ | exact ⟨u8r _, trivial⟩ | omega | (simp; done) | (simp [cutA_eq]; done) | (simp [cutA_eq, digL]; done)
  refine pA ?_
  refine ar_nil ?_
  refine ag_reg ?_
  refine pA ?_
  refine ar_pure tOk rfl rfl rfl ?_ ?_
  · exact ⟨trivial, by decide⟩
  refine ar_ent (ent_reg 25 (.r (.int .u64 ((x2 / 65536) / 65536))) (eqI (by rw [wu64, Int.tdiv_eq_ediv_of_nonneg (by omega)]; omega))) ?_
  refine pA ?_
  refine ar_nil ?_
  refine ag_inBlock ?_
  refine ag_reg ?_
  refine pA ?_
  refine ar_pure tOk rfl rfl rfl ?_ ?_
  · unfold inI64; decide
  refine pA ?_
  refine ar_nil ?_
  refine ag_again ?_
  refine ag_seq ?_
  refine zB ?_
  iterate 2 refine pA ?_
  refine ar_nil ?_
  refine ag_true rfl (by decide) ?_
  refine ag_skip ?_
  refine ag_seq ?_
  refine ag_block ?_
  refine zB ?_
  iterate 2 refine pA ?_
  refine ar_pure tOk rfl rfl rfl ?_ ?_
  · decide
  refine ar_ent (ent_reg 20 (.r (.int .u64 ((x2 / 65536 / 65536) % 65536))) (eqI (Int.tmod_eq_emod_of_nonneg (by omega)))) ?_
  refine ar_pure tOk rfl rfl rfl ?_ ?_
  · unfold inI64; omega
  refine ar_new tOk rfl rfl rfl ?_ ?_
  · simp
  refine ar_app tOk rfl rfl rfl ?_ ?_
  · refine ⟨⟨?_, ?_, ?_⟩, ⟨?_, ?_⟩, ⟨?_, ?_⟩, ?_⟩ <;> first | trivial | decide | exact ⟨u8r _, u8r _, trivial⟩ | exact ⟨u8r _, trivial⟩ | omega | (simp; done) | (simp [cutA_eq]; done) | (simp [cutA_eq, digL]; done)
  refine pA ?_
  refine ar_nil ?_
  refine ag_reg ?_
  refine pA ?_
  refine ar_pure tOk rfl rfl rfl ?_ ?_
  · exact ⟨trivial, by decide⟩
  refine ar_ent (ent_reg 25 (.r (.int .u64 ((x2 / 65536 / 65536) / 65536))) (eqI (by rw [wu64, Int.tdiv_eq_ediv_of_nonneg (by omega)]; omega))) ?_
  refine pA ?_
  refine ar_nil ?_
  refine ag_inBlock ?_
  refine ag_reg ?_
  refine pA ?_
  refine ar_pure tOk rfl rfl rfl ?_ ?_
  · unfold inI64; decide
  refine pA ?_
  refine ar_nil ?_
  refine ag_again ?_
  refine ag_seq ?_
  refine zB ?_
  iterate 2 refine pA ?_
  refine ar_nil ?_
  refine ag_true rfl (by decide) ?_
  refine ag_skip ?_
  refine ag_seq ?_
  refine ag_block ?_
  refine zB ?_
  iterate 2 refine pA ?_
  refine ar_pure tOk rfl rfl rfl ?_ ?_
  · decide
  refine ar_ent (ent_reg 20 (.r (.int .u64 ((x2 / 65536 / 65536 / 65536) % 65536))) (eqI (Int.tmod_eq_emod_of_nonneg (by omega)))) ?_
  refine ar_pure tOk rfl rfl rfl ?_ ?_
  · unfold inI64; omega
  refine ar_new tOk rfl rfl rfl ?_ ?_
  · simp
  refine ar_app tOk rfl rfl rfl ?_ ?_
  · refine ⟨⟨?_, ?_, ?_⟩, ⟨?_, ?_⟩, ⟨?_, ?_⟩, ?_⟩ <;> first | trivial | decide | exact ⟨u8r _, u8r _, trivial⟩ | exact ⟨u8r _, trivial⟩ | omega | (simp; done) | (simp [cutA_eq]; done) | (simp [cutA_eq, digL]; done)
  refine pA ?_
  refine ar_nil ?_
  refine ag_reg ?_
  refine pA ?_
  refine ar_pure tOk rfl rfl rfl ?_ ?_
  · exact ⟨trivial, by decide⟩
  refine ar_ent (ent_reg 25 (.r (.int .u64 ((x2 / 65536 / 65536 / 65536) / 65536))) (eqI (by rw [wu64, Int.tdiv_eq_ediv_of_nonneg (by omega)]; omega))) ?_
  refine pA ?_
  refine ar_nil ?_
  refine ag_inBlock ?_
  refine ag_reg ?_
  refine pA ?_
  refine ar_pure tOk rfl rfl rfl ?_ ?_
  · unfold inI64; decide
  refine pA ?_
  refine ar_nil ?_
  refine ag_again ?_
  refine ag_seq ?_
  refine zB ?_
  iterate 2 refine pA ?_
  refine ar_nil ?_
  refine ag_false rfl (by decide) ?_
  refine ag_exit rfl ?_
  refine ag_inBlock ?_
  refine ag_ent (ent_weak (g' := [(4, .r (.int .i64 2)), (3, .sl 1 0 12 1), (1, .ptr 0 0)]) (h' := ⟨2, [(0, some (.mixed [.r (.int .u64 x0), .r (.int .u64 x1), .r (.int .u64 x2), .r (.int .u64 x3)])), (1, some (.plain (digL 4 x0 ++ digL 4 x1 ++ digL 4 x2)))], false⟩) [0, 9] rfl rfl rfl rfl ?_ ?_ rfl) ?_
  · exact ⟨⟨rfl, rfl⟩, ⟨rfl, rfl⟩, ⟨rfl, rfl⟩, trivial⟩
  · exact ⟨⟨rfl, rfl, rfl⟩, ⟨rfl, rfl, rfl⟩, trivial⟩
  refine ag_reg ?_
  refine pA ?_
  refine ar_pure tOk rfl rfl rfl ?_ ?_
  · unfold inI64; decide
  refine pA ?_
  refine ar_nil ?_
  refine ag_again ?_
  refine ag_seq ?_
  refine zB ?_
  iterate 2 refine pA ?_
  refine ar_nil ?_
  refine ag_true rfl (by decide) ?_
  refine ag_skip ?_
  refine ag_seq ?_
  refine ag_block ?_
  refine zB ?_
  refine pA ?_
  refine ar_pure tOk rfl rfl rfl ?_ ?_
  · decide
  refine pB ?_
  refine pA ?_
  refine zC ?_
  refine pA ?_
  refine ar_nil ?_
  refine ag_block ?_
  refine ag_unroll ?_
  refine ag_seq ?_
  refine zB ?_
  iterate 2 refine pA ?_
  refine ar_nil ?_
  refine ag_true rfl (by decide) ?_
  refine ag_skip ?_
  refine ag_seq ?_
  refine ag_block ?_
  refine zB ?_
  iterate 2 refine pA ?_
  refine ar_pure tOk rfl rfl rfl ?_ ?_
  · decide
  refine ar_ent (ent_reg 20 (.r (.int .u64 ((x3) % 65536))) (eqI (Int.tmod_eq_emod_of_nonneg (by omega)))) ?_
  refine ar_pure tOk rfl rfl rfl ?_ ?_
  · unfold inI64; omega
  refine ar_new tOk rfl rfl rfl ?_ ?_
  · simp
  refine ar_app tOk rfl rfl rfl ?_ ?_
  · refine ⟨⟨?_, ?_, ?_⟩, ⟨?_, ?_⟩, ⟨?_, ?_⟩, ?_⟩ <;> first | trivial | decide | exact ⟨u8r _, u8r _, trivial⟩ | exact ⟨u8r _, trivial⟩ | omega | (simp; done) | (simp [cutA_eq]; done) | (simp [cutA_eq, digL]; done)
  refine pA ?_
  refine ar_nil ?_
  refine ag_reg ?_
  refine pA ?_
  refine ar_pure tOk rfl rfl rfl ?_ ?_
  · exact ⟨trivial, by decide⟩
  refine ar_ent (ent_reg 25 (.r (.int .u64 ((x3) / 65536))) (eqI (by rw [wu64, Int.tdiv_eq_ediv_of_nonneg (by omega)]; omega))) ?_
  refine pA ?_
  refine ar_nil ?_
  refine ag_inBlock ?_
  refine ag_reg ?_
  refine pA ?_
  refine ar_pure tOk rfl rfl rfl ?_ ?_
  · unfold inI64; decide
  refine pA ?_
  refine ar_nil ?_
  refine ag_again ?_
  refine ag_seq ?_
  refine zB ?_
  iterate 2 refine pA ?_
  refine ar_nil ?_
  refine ag_true rfl (by decide) ?_
  refine ag_skip ?_
  refine ag_seq ?_
  refine ag_block ?_
  refine zB ?_
  iterate 2 refine pA ?_
  refine ar_pure tOk rfl rfl rfl ?_ ?_
  · decide
  refine ar_ent (ent_reg 20 (.r (.int .u64 ((x3 / 65536) % 65536))) (eqI (Int.tmod_eq_emod_of_nonneg (by omega)))) ?_
  refine ar_pure tOk rfl rfl rfl ?_ ?_
  · unfold inI64; omega
  refine ar_new tOk rfl rfl rfl ?_ ?_
  · simp
  refine ar_app tOk rfl rfl rfl ?_ ?_
  · refine ⟨⟨?_, ?_, ?_⟩, ⟨?_, ?_⟩, ⟨?_, ?_⟩, ?_⟩ <;> first | trivial | decide | exact ⟨u8r _, u8r _, trivial⟩ | exact ⟨u8r _, trivial⟩ | omega | (simp; done) | (simp [cutA_eq]; done) | (simp [cutA_eq, digL]; done)
  refine pA ?_
  refine ar_nil ?_
  refine ag_reg ?_
  refine pA ?_
  refine ar_pure tOk rfl rfl rfl ?_ ?_
  · exact ⟨trivial, by decide⟩
  refine ar_ent (ent_reg 25 (.r (.int .u64 ((x3 / 65536) / 65536))) (eqI (by rw [wu64, Int.tdiv_eq_ediv_of_nonneg (by omega)]; omega))) ?_
  refine pA ?_
  refine ar_nil ?_
  refine ag_inBlock ?_
  refine ag_reg ?_
  refine pA ?_
  refine ar_pure tOk rfl rfl rfl ?_ ?_
  · unfold inI64; decide
  refine pA ?_
  refine ar_nil ?_
  refine ag_again ?_
  refine ag_seq ?_
  refine zB ?_
  iterate 2 refine pA ?_
  refine ar_nil ?_
  refine ag_true rfl (by decide) ?_
  refine ag_skip ?_
  refine ag_seq ?_
  refine ag_block ?_
  refine zB ?_
  iterate 2 refine pA ?_
  refine ar_pure tOk rfl rfl rfl ?_ ?_
  · decide
  refine ar_ent (ent_reg 20 (.r (.int .u64 ((x3 / 65536 / 65536) % 65536))) (eqI (Int.tmod_eq_emod_of_nonneg (by omega)))) ?_
  refine ar_pure tOk rfl rfl rfl ?_ ?_
  · unfold inI64; omega
  refine ar_new tOk rfl rfl rfl ?_ ?_
  · simp
  refine ar_app tOk rfl rfl rfl ?_ ?_
  · refine ⟨⟨?_, ?_, ?_⟩, ⟨?_, ?_⟩, ⟨?_, ?_⟩, ?_⟩ <;> first | trivial | decide | exact ⟨u8r _, u8r _, trivial⟩ | exact ⟨u8r _, trivial⟩ | omega | (simp; done) | (simp [cutA_eq]; done) | (simp [cutA_eq, digL]; done)
  refine pA ?_
  refine ar_nil ?_
  refine ag_reg ?_
  refine pA ?_
  refine ar_pure tOk rfl rfl rfl ?_ ?_
  · exact ⟨trivial, by decide⟩
  refine ar_ent (ent_reg 25 (.r (.int .u64 ((x3 / 65536 / 65536) / 65536))) (eqI (by rw [wu64, Int.tdiv_eq_ediv_of_nonneg (by omega)]; omega))) ?_
  refine pA ?_
  refine ar_nil ?_
  refine ag_inBlock ?_
  refine ag_reg ?_
  refine pA ?_
  refine ar_pure tOk rfl rfl rfl ?_ ?_
  · unfold inI64; decide
  refine pA ?_
  refine ar_nil ?_
  refine ag_again ?_
  refine ag_seq ?_
  refine zB ?_
  iterate 2 refine pA ?_
  refine ar_nil ?_
  refine ag_true rfl (by decide) ?_
  refine ag_skip ?_
  refine ag_seq ?_
  refine ag_block ?_
  refine zB ?_
  iterate 2 refine pA ?_
  refine ar_pure tOk rfl rfl rfl ?_ ?_
  · decide
  refine ar_ent (ent_reg 20 (.r (.int .u64 ((x3 / 65536 / 65536 / 65536) % 65536))) (eqI (Int.tmod_eq_emod_of_nonneg (by omega)))) ?_
  refine ar_pure tOk rfl rfl rfl ?_ ?_
  · unfold inI64; omega
  refine ar_new tOk rfl rfl rfl ?_ ?_
  · simp
  refine ar_app tOk rfl rfl rfl ?_ ?_
  · refine ⟨⟨?_, ?_, ?_⟩, ⟨?_, ?_⟩, ⟨?_, ?_⟩, ?_⟩ <;> first | trivial | decide | exact ⟨u8r _, u8r _, trivial⟩ | exact ⟨u8r _, trivial⟩ | omega | (simp; done) | (simp [cutA_eq]; done) | (simp [cutA_eq, digL]; done)
  refine pA ?_
  refine ar_nil ?_
  refine ag_reg ?_
  refine pA ?_
  refine ar_pure tOk rfl rfl rfl ?_ ?_
  · exact ⟨trivial, by decide⟩
  refine ar_ent (ent_reg 25 (.r (.int .u64 ((x3 / 65536 / 65536 / 65536) / 65536))) (eqI (by rw [wu64, Int.tdiv_eq_ediv_of_nonneg (by omega)]; omega))) ?_
  refine pA ?_
  refine ar_nil ?_
  refine ag_inBlock ?_
  refine ag_reg ?_
  refine pA ?_
  refine ar_pure tOk rfl rfl rfl ?_ ?_
  · unfold inI64; decide
  refine pA ?_
  refine ar_nil ?_
  refine ag_again ?_
  refine ag_seq ?_
  refine zB ?_
  iterate 2 refine pA ?_
  refine ar_nil ?_
  refine ag_false rfl (by decide) ?_
  refine ag_exit rfl ?_
  refine ag_inBlock ?_
  refine ag_ent (ent_weak (g' := [(4, .r (.int .i64 3)), (3, .sl 1 0 16 1), (1, .ptr 0 0)]) (h' := ⟨2, [(0, some (.mixed [.r (.int .u64 x0), .r (.int .u64 x1), .r (.int .u64 x2), .r (.int .u64 x3)])), (1, some (.plain (digL 4 x0 ++ digL 4 x1 ++ digL 4 x2 ++ digL 4 x3)))], false⟩) [0, 9] rfl rfl rfl rfl ?_ ?_ rfl) ?_
  · exact ⟨⟨rfl, rfl⟩, ⟨rfl, rfl⟩, ⟨rfl, rfl⟩, trivial⟩
  · exact ⟨⟨rfl, rfl, rfl⟩, ⟨rfl, rfl, rfl⟩, trivial⟩
  refine ag_reg ?_
  refine pA ?_
  refine ar_pure tOk rfl rfl rfl ?_ ?_
  · unfold inI64; decide
  refine pA ?_
  refine ar_nil ?_
  refine ag_again ?_
  refine ag_seq ?_
  refine zB ?_
  iterate 2 refine pA ?_
  refine ar_nil ?_
  refine ag_false rfl (by decide) ?_
  refine ag_exit rfl ?_
  refine zB ?_
  iterate 2 refine pA ?_
  refine ar_nil ?_
  refine ag_ret tOk Try.func77 rfl rfl (by simp) ?_
  exact ⟨_, rfl, rfl⟩
end Go.Proofs.Ytopfpkmdkcjjlaa


/-
  WALKS: net's calls. (Printed by gen.py out of w_net2.py.)
-/
import Derived.Test.YtopfpkmdkcjjlaaNet
namespace Go.Proofs.Ytopfpkmdkcjjlaa
open Go
set_option maxRecDepth 20000
set_option linter.unusedVariables false
set_option linter.unusedSimpArgs false
theorem roN_cut {M : List NmV} {n : Nat} (hn : n = M.length) : AVal.r (.ro n (cutA (nmsC M) 0 (n * 2))) = roN M := by
  subst hn
  rw [cutA_eq, List.drop_zero, List.take_of_length_le (by rw [nmsC_len]; exact Nat.le_refl _)]; rfl
theorem w_Post0 (to : Int) (b : List UInt8) (hb : b.length ≤ 140737488355328) : Pur Try.prog 13 [.r .nil, .r (.int .i64 to), .r (.ro 1 [.bs b])] (roN [⟨to, some b⟩]) := by
  have hbk : NmV.ok ⟨to, some b⟩ := fun x hx => by cases hx; exact hb
  refine spec_of_go (N := 25) Try.func13 rfl (by decide) rfl rfl ?_
  refine zB ?_
  refine pA ?_
  refine zC ?_
  refine pA ?_
  refine ar_pur (w_all0) rfl rfl rfl rfl rfl rfl rfl ?_
  refine pA ?_
  refine zA ?_
  refine zB ?_
  iterate 3 refine pA ?_
  refine ar_nil ?_
  refine ag_block ?_
  refine ag_unroll ?_
  refine zB ?_
  refine pA ?_
  refine zA ?_
  refine ag_true rfl (by decide) ?_
  refine ag_skip ?_
  refine ag_seq ?_
  refine ag_block ?_
  refine zB ?_
  refine ar_pure tOk rfl rfl rfl ?_ ?_
  · refine ⟨?_, ?_⟩ <;> first | omega | decide | (refine ⟨?_, ?_⟩ <;> decide) | simp
  refine pB ?_
  refine pA ?_
  refine ar_nil ?_
  refine ag_reg ?_
  iterate 3 refine pA ?_
  refine ar_pure tOk rfl rfl rfl ?_ ?_
  · simp
  refine ar_own (w_put0 ⟨to, some b⟩ hbk) rfl rfl rfl rfl rfl rfl rfl ?_
  refine pA ?_
  refine ar_nil ?_
  refine ag_inBlock ?_
  refine ag_reg ?_
  refine ar_pure tOk rfl rfl rfl ?_ ?_
  · unfold inI64; decide
  refine pA ?_
  refine ar_nil ?_
  refine ag_again ?_
  refine zB ?_
  refine pA ?_
  refine zA ?_
  refine ag_false rfl (by decide) ?_
  refine ag_exit rfl ?_
  refine zB ?_
  iterate 2 refine pA ?_
  refine ar_nil ?_
  refine ag_ent (ent_freeze 6 rfl rfl rfl trivial) ?_
  refine ag_ret tOk Try.func13 rfl rfl (by simp) ?_
  show AVal.r (.ro _ (cutA (nmsC _) 0 _)) = _
  rw [roN_cut (by rfl)]; rfl
theorem w_Take0 (at_ : Int) : Pur Try.prog 14 [.r .nil, .r (.int .i64 at_)] (.tuple [nmA ⟨0, none⟩, .r .nil, .r (.bool false)]) := by
  refine spec_of_go (N := 27) Try.func14 rfl (by decide) rfl rfl ?_
  refine zB ?_
  refine ar_new tOk rfl rfl rfl ?_ ?_
  · simp
  iterate 2 refine pA ?_
  refine zA ?_
  refine zB ?_
  iterate 3 refine pA ?_
  refine ar_nil ?_
  refine ag_true rfl (by decide) ?_
  refine zB ?_
  refine ar_pure tOk rfl rfl rfl ?_ ?_
  · simp
  refine ar_store tOk rfl rfl rfl trivial ?_
  iterate 2 refine pA ?_
  refine ar_nil ?_
  refine ag_ret tOk Try.func14 rfl rfl (by first | trivial | exact ⟨trivial, trivial⟩ | simp) ?_
  rfl
theorem w_alive23  : Pur Try.prog 12 [] (.r (.bool true)) := by
  refine spec_of_go (N := 36) Try.func12 rfl (by decide) rfl rfl ?_
  refine zB ?_
  refine pA ?_
  refine zC ?_
  refine ar_new tOk rfl rfl rfl ?_ ?_
  · simp
  refine ar_ent (ent_body 0 (.mixed [.r (.int .u8 120)]) (.bytes [120]) rfl rfl) ?_
  refine ar_qd rfl (qop_convSl tOk rfl) rfl rfl rfl rfl ?_
  refine ar_ent (ent_freeze 6 rfl rfl rfl ⟨by decide, rfl⟩) ?_
  refine ar_ent (ent_reg 6 (.r (.bs [120])) rfl) ?_
  refine ar_qd rfl (qop_buildRo tOk rfl ?_ rfl) rfl rfl rfl rfl ?_
  · repeat any_goals (first | trivial | decide | omega | (simp; done) | (rw [wu8]; omega) | refine ⟨?_, ?_⟩)
  refine ar_pur (w_Post0 3 [120] (by decide)) rfl rfl rfl rfl rfl rfl rfl ?_
  refine pA ?_
  refine zC ?_
  refine ar_pur (w_Take0 3) rfl rfl rfl rfl rfl rfl rfl ?_
  iterate 4 refine pA ?_
  refine ar_new tOk rfl rfl rfl ?_ ?_
  · simp
  refine ar_store tOk rfl rfl rfl trivial ?_
  iterate 2 refine pA ?_
  refine zC ?_
  iterate 5 refine pA ?_
  refine ar_pure tOk rfl rfl rfl ?_ ?_
  · refine ⟨?_, ?_⟩ <;> first | omega | decide | (refine ⟨?_, ?_⟩ <;> decide) | simp
  refine pA ?_
  refine pB ?_
  iterate 4 refine pA ?_
  refine ar_pure tOk rfl rfl rfl ?_ ?_
  · refine ⟨?_, ?_⟩ <;> first | omega | decide | (refine ⟨?_, ?_⟩ <;> decide) | simp
  refine pA ?_
  refine pB ?_
  iterate 8 refine pA ?_
  refine ar_nil ?_
  refine ag_ret tOk Try.func12 rfl rfl (by first | trivial | exact ⟨trivial, trivial⟩ | simp) ?_
  rfl
end Go.Proofs.Ytopfpkmdkcjjlaa


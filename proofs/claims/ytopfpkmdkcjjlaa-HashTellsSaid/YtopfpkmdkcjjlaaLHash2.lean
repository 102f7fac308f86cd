/-
  WALKS: the law HashTells. (Printed by gen.py out of w_lhash2.py.)
-/
import Derived.Test.YtopfpkmdkcjjlaaHRc
import Derived.Test.YtopfpkmdkcjjlaaLHash
namespace Go.Proofs.Ytopfpkmdkcjjlaa
open Go
set_option maxRecDepth 20000
set_option linter.unusedVariables false
set_option linter.unusedSimpArgs false
set_option maxHeartbeats 1000000 in
theorem w_HashTells (b : List UInt8) (hb : b.length ≤ 140737488355000) : Pur Try.prog 7 [.r (.bs b)] (.r (.bool true)) := by
  have c1 := w_Sum b hb
  have c2 := w_rOver b q0 keyF hb q0_ok
  have c3 := w_rSum b hb
  have e : shaK keyF q0 (padL b) = sha b := rfl
  rw [e] at c2
  generalize sha b = s at c1 c2 c3
  refine spec_of_go (N := 32) Try.func7 rfl (by decide) rfl rfl ?_
  refine zB ?_
  refine pA ?_
  refine zA ?_
  refine zB ?_
  refine ar_pur (w_alive03) rfl rfl rfl rfl rfl rfl rfl ?_
  refine pA ?_
  refine ar_nil ?_
  refine ag_false rfl (rfl) ?_
  refine ag_skip ?_
  refine ag_seq ?_
  refine zB ?_
  iterate 3 refine pA ?_
  refine ar_nil ?_
  refine ag_if rfl ?_ ?_
  · intro h9
    refine zB ?_
    refine pA ?_
    refine ar_nil ?_
    refine ag_ret tOk Try.func7 rfl rfl (by simp) ?_
    rfl
  · intro h9
    refine ag_skip ?_
    refine zB ?_
    refine ar_pur (w_Roots) rfl rfl rfl rfl rfl rfl rfl ?_
    iterate 3 refine pA ?_
    refine ar_new tOk rfl rfl rfl ?_ ?_
    · simp
    refine ar_new tOk rfl rfl rfl ?_ ?_
    · simp
    refine ar_store tOk (stepStore_arr (ys := q0.cells) rfl rfl rfl rfl rfl rfl rfl rfl rfl) rfl rfl trivial ?_
    refine ar_store tOk (stepStore_arr (ys := u64L keyF) rfl rfl rfl rfl rfl rfl (by simp [u64L, fnL]) (by simp [u64L, fnL]) rfl) rfl rfl trivial ?_
    refine zA ?_
    refine ag_draw0 (by kernel_rfl) (by kernel_rfl) ?_
    refine aq_pure tOk rfl rfl rfl trivial ?_
    refine aq_pur (c1) rfl rfl rfl rfl rfl rfl rfl ?_
    iterate 2 refine aq_pure tOk rfl rfl rfl trivial ?_
    refine aq_loadAs0 tOk q0.av rfl rfl rfl rfl rfl (by kernel_rfl) rfl rfl (.inr ⟨rfl, _, rfl, rfl, rfl⟩) ?_
    refine aq_loadAs0 tOk (a64 keyF) rfl rfl rfl rfl rfl (by kernel_rfl) rfl rfl (.inr ⟨rfl, _, rfl, agg64, by simp [u64L, fnL]⟩) ?_
    refine aq_pur (c2) rfl rfl rfl rfl rfl rfl rfl ?_
    refine aq_pure tOk rfl rfl rfl trivial ?_
    refine aq_pureE tOk (.r (.bool true)) rfl (by show AVal.r (.bool _) = _; exact eqB (by simp)) rfl (by rfl) trivial ?_
    iterate 2 refine aq_pure tOk rfl rfl rfl trivial ?_
    refine aq_pur (c1) rfl rfl rfl rfl rfl rfl rfl ?_
    iterate 2 refine aq_pure tOk rfl rfl rfl trivial ?_
    refine aq_pur (c3) rfl rfl rfl rfl rfl rfl rfl ?_
    refine aq_pure tOk rfl rfl rfl trivial ?_
    refine aq_pureE tOk (.r (.bool true)) rfl (by show AVal.r (.bool _) = _; exact eqB (by simp)) rfl (by rfl) trivial ?_
    iterate 2 refine aq_pure tOk rfl rfl rfl trivial ?_
    refine aq_nil rfl ?_
    refine ag_ret tOk Try.func7 rfl rfl (by simp) ?_
    rfl
end Go.Proofs.Ytopfpkmdkcjjlaa


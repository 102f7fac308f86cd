/-
  WALKS: the law BidBack. (Printed by gen.py out of w_lbid2.py.)
-/
import Derived.Test.YtnodpljgcdkbkaaBText
import Derived.Test.YtnodpljgcdkbkaaMVer
namespace Go.Proofs.Ytnodpljgcdkbkaa
open Go
set_option maxRecDepth 20000
set_option linter.unusedVariables false
set_option linter.unusedSimpArgs false
def seedL (r : Int) : List UInt8 := [114, 111, 117, 116, 101, 114] ++ [UInt8.ofNat (IntKind.u8.wrap r).toNat]
theorem seedL_length (r : Int) : (seedL r).length = 7 := rfl
theorem w_bSeed (r : Int) : Pur Try.prog 29 [.r (.int .i64 r)] (.r (.str (seedL r))) := by
  refine spec_of_go (N := 8) Try.func29 rfl (by decide) rfl rfl ?_
  refine zB ?_
  refine pA ?_
  refine zC ?_
  iterate 2 refine pA ?_
  refine ar_qd rfl (qop_buildRo tOk rfl ?_ rfl) rfl rfl rfl rfl ?_
  · repeat any_goals (first | trivial | decide | omega | (simp; done) | (rw [wu8]; omega) | refine ⟨?_, ?_⟩)
  refine pA ?_
  refine ar_pure tOk rfl rfl rfl ?_ ?_
  · show 7 ≤ 9223372036854775807
    decide
  refine pA ?_
  refine ar_nil ?_
  refine ag_ret tOk Try.func29 rfl rfl (by simp) ?_
  rfl
end Go.Proofs.Ytnodpljgcdkbkaa


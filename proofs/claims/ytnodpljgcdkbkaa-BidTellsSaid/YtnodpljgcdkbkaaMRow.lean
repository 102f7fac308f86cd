/-
  WALKS: a key's leaves and its root (mss.row, above, Root, and the reference's). (Printed by gen.py out of w_mrow.py.)
-/
import Derived.Test.YtnodpljgcdkbkaaOOpen
namespace Go.Proofs.Ytnodpljgcdkbkaa
open Go
set_option maxRecDepth 20000
set_option linter.unusedVariables false
set_option linter.unusedSimpArgs false
def nod (a b : List UInt8) : List UInt8 := sh8 (a ++ b)
theorem w_join (a b : List UInt8) (ha : a.length ≤ 1000) (hb : b.length ≤ 1000) : Pur Try.prog 131 [.r (.str a), .r (.str b)] (.r (.str (nod a b))) := by
  refine spec_of_go (N := 11) Try.func131 rfl (by decide) rfl rfl ?_
  refine zB ?_
  refine pA ?_
  refine zC ?_
  refine pA ?_
  refine ar_qd rfl (qop_strBytes tOk rfl) rfl rfl rfl rfl ?_
  refine pA ?_
  refine ar_qd rfl (qop_strBytes tOk rfl) rfl rfl rfl rfl ?_
  refine ar_qd rfl (qop_buildRo tOk rfl ?_ rfl) rfl rfl rfl rfl ?_
  · repeat any_goals (first | trivial | decide | omega | (simp; done) | (rw [wu8]; omega) | refine ⟨?_, ?_⟩)
  refine ar_pur (w_Short [a, b] (by simp) (by simp; omega)) rfl rfl rfl rfl rfl rfl rfl ?_
  refine pA ?_
  refine ar_nil ?_
  refine ag_ret tOk Try.func131 rfl rfl (by simp) ?_
  exact eqStr (by simp [nod])
end Go.Proofs.Ytnodpljgcdkbkaa


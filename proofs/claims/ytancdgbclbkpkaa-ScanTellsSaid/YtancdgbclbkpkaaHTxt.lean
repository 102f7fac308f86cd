/-
  WALKS: hash.Text, hash.Short. (Printed by gen.py out of w_htxt.py.)
-/
import Derived.Test.YtancdgbclbkpkaaHRef
import Derived.Test.YtancdgbclbkpkaaCat
namespace Go.Proofs.Ytancdgbclbkpkaa
open Go
set_option maxRecDepth 20000
set_option linter.unusedVariables false
set_option linter.unusedSimpArgs false
theorem w_Text (L : List (List UInt8)) (hL : L.length ≤ 140737488355328) (hF : L.flatten.length ≤ 140737488355000) : Pur Try.prog 33 [roL L] (.r (.str (sha L.flatten))) := by
  refine spec_of_go (N := 7) Try.func33 rfl (by decide) rfl rfl ?_
  refine zB ?_
  refine pA ?_
  refine zC ?_
  refine pA ?_
  refine ar_pur (w_Cat L (by omega) (by omega)) rfl rfl rfl rfl rfl rfl rfl ?_
  refine ar_pur (w_Sum L.flatten (by omega)) rfl rfl rfl rfl rfl rfl rfl ?_
  iterate 2 refine pA ?_
  refine ar_nil ?_
  refine ag_ret tOk Try.func33 rfl rfl (by simp) ?_
  rfl
end Go.Proofs.Ytancdgbclbkpkaa


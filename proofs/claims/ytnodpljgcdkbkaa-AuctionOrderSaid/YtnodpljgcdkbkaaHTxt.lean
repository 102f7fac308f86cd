/-
  WALKS: hash.Text, hash.Short. (Printed by gen.py out of w_htxt.py.)
-/
import Derived.Test.YtnodpljgcdkbkaaHRef
import Derived.Test.YtnodpljgcdkbkaaCat
namespace Go.Proofs.Ytnodpljgcdkbkaa
open Go
set_option maxRecDepth 20000
set_option linter.unusedVariables false
set_option linter.unusedSimpArgs false
/-- A text's short sum. -/
def sh8 (b : List UInt8) : List UInt8 := (sha b).take 8
theorem sh8_length (b : List UInt8) : (sh8 b).length = 8 := by simp [sh8, sha_length]
theorem w_Text (L : List (List UInt8)) (hL : L.length ≤ 140737488355328) (hF : L.flatten.length ≤ 140737488355000) : Pur Try.prog 138 [roL L] (.r (.str (sha L.flatten))) := by
  refine spec_of_go (N := 7) Try.func138 rfl (by decide) rfl rfl ?_
  refine zB ?_
  refine pA ?_
  refine zC ?_
  refine pA ?_
  refine ar_pur (w_Cat L (by omega) (by omega)) rfl rfl rfl rfl rfl rfl rfl ?_
  refine ar_pur (w_Sum L.flatten (by omega)) rfl rfl rfl rfl rfl rfl rfl ?_
  iterate 2 refine pA ?_
  refine ar_nil ?_
  refine ag_ret tOk Try.func138 rfl rfl (by simp) ?_
  rfl
theorem w_Short (L : List (List UInt8)) (hL : L.length ≤ 140737488355328) (hF : L.flatten.length ≤ 140737488355000) : Pur Try.prog 115 [roL L] (.r (.str (sh8 L.flatten))) := by
  refine spec_of_go (N := 6) Try.func115 rfl (by decide) rfl rfl ?_
  refine zB ?_
  refine pA ?_
  refine zC ?_
  refine pA ?_
  refine ar_pur (w_Text L hL hF) rfl rfl rfl rfl rfl rfl rfl ?_
  refine ar_pure tOk rfl rfl rfl ?_ ?_
  · rw [sha_length]; simp only [boundsOk]; omega
  refine pA ?_
  refine ar_nil ?_
  refine ag_ret tOk Try.func115 rfl rfl (by simp) ?_
  rfl
end Go.Proofs.Ytnodpljgcdkbkaa


/-
  WALKS: hash.Text, hash.Short. (Printed by gen.py out of w_htxt.py.)
-/
import Derived.Test.YtccdhgmkjakjkaaGreatHRef
import Derived.Test.YtccdhgmkjakjkaaGreatCat
namespace Go.Proofs.YtccdhgmkjakjkaaGreat
open Go
set_option maxRecDepth 20000
set_option linter.unusedVariables false
set_option linter.unusedSimpArgs false
def sh8 (b : List UInt8) : List UInt8 := (sha b).take 8
theorem sh8_length (b : List UInt8) : (sh8 b).length = 8 := by simp [sh8, sha_length]
theorem w_Text (L : List (List UInt8)) (hL : L.length ≤ 140737488355328) (hF : L.flatten.length ≤ 140737488355000) : Pur Tryz.prog 78 [roL L] (.r (.str (sha L.flatten))) := by
 refine spec_of_go (N := 7) Tryz.func78 rfl (by decide) rfl rfl ?_
 refine zB ?_
 refine pG ?_
 refine pA ?_
 refine ar_pur (w_Cat L (by omega) (by omega)) rfl rfl rfl rfl rfl rfl rfl ?_
 refine ar_pur (w_Sum L.flatten (by omega)) rfl rfl rfl rfl rfl rfl rfl ?_
 refine pA ?_
 refine pE ?_
 refine ag_ret tOk Tryz.func78 rfl rfl (by simp) ?_
 rfl
theorem w_Short (L : List (List UInt8)) (hL : L.length ≤ 140737488355328) (hF : L.flatten.length ≤ 140737488355000) : Pur Tryz.prog 55 [roL L] (.r (.str (sh8 L.flatten))) := by
 refine spec_of_go (N := 6) Tryz.func55 rfl (by decide) rfl rfl ?_
 refine zB ?_
 refine pG ?_
 refine pA ?_
 refine ar_pur (w_Text L hL hF) rfl rfl rfl rfl rfl rfl rfl ?_
 refine pC ?_ ?_
 ·rw [sha_length]; simp only [boundsOk]; omega
 refine pE ?_
 refine ag_ret tOk Tryz.func55 rfl rfl (by simp) ?_
 rfl
theorem w_rShort (s : List UInt8) (hs : s.length ≤ 140737488355000) : Pur Tryz.prog 43 [.r (.str s)] (.r (.str (sh8 s))) := by
 refine spec_of_go (N := 8) Tryz.func43 rfl (by decide) rfl rfl ?_
 refine zB ?_
 refine pG ?_
 refine pA ?_
 refine ar_qd rfl (qop_strBytes tOk rfl) rfl rfl rfl rfl ?_
 refine ar_pur (w_rSum s (by omega)) rfl rfl rfl rfl rfl rfl rfl ?_
 refine pA ?_
 refine pC ?_ ?_
 ·rw [sha_length]; simp only [boundsOk]; omega
 refine pE ?_
 refine ag_ret tOk Tryz.func43 rfl rfl (by simp) ?_
 rfl
end Go.Proofs.YtccdhgmkjakjkaaGreat

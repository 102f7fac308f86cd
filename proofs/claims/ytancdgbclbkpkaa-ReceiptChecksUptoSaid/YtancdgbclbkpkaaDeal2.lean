/-
  WALKS: transfers read, keys, digests, payloads. (Printed by gen.py out of w_deal2.py.)
-/
import Derived.Test.YtancdgbclbkpkaaDeal
namespace Go.Proofs.Ytancdgbclbkpkaa
open Go
set_option maxRecDepth 20000
set_option linter.unusedVariables false
set_option linter.unusedSimpArgs false
theorem w_rPutInv (w : W) (hw : wok w) (v : InvV) : Pur Try.prog 62 [wV w, invA v] (wV (pInv w v)) := by
  have h1 := wok_txt (t := [105, 110, 118]) hw
  have h2 := wok_num (n := v.u) h1
  have h3 := wok_txt (t := v.root) h2
  have h4 := wok_num (n := v.r) h3
  have h5 := wok_num (n := v.s) h4
  have h6 := wok_num (n := v.c) h5
  have h7 := wok_num (n := v.t) h6
  refine spec_of_go (N := 30) Try.func62 rfl (by decide) rfl rfl ?_
  refine zB ?_
  iterate 2 refine ar_new tOk rfl rfl rfl trivial ?_
  refine ar_new tOk rfl rfl rfl ?_ ?_
  · simp
  refine zA ?_
  apply ag_draw1 [] (by kernel_rfl) (by kernel_rfl)
  refine aq_load0 tOk rfl (by kernel_rfl) rfl rfl trivial ?_
  refine aq_pur (w_rTextC w _ hw) rfl rfl rfl rfl rfl rfl rfl ?_
  refine aq_pure tOk rfl rfl rfl trivial ?_
  refine aq_load0 tOk rfl (by kernel_rfl) rfl rfl trivial ?_
  refine aq_pur (w_rNumC _ _ h1) rfl rfl rfl rfl rfl rfl rfl ?_
  refine aq_pure tOk rfl rfl rfl trivial ?_
  refine aq_load0 tOk rfl (by kernel_rfl) rfl rfl trivial ?_
  refine aq_pur (w_rTextC _ _ h2) rfl rfl rfl rfl rfl rfl rfl ?_
  refine aq_store10 tOk rfl rfl rfl rfl trivial ?_
  refine aq_nil rfl ?_
  refine ag_seq ?_
  apply ag_draw1 [] (by kernel_rfl) (by kernel_rfl)
  refine aq_load0 tOk rfl (by kernel_rfl) rfl rfl trivial ?_
  refine aq_pure tOk rfl rfl rfl trivial ?_
  refine aq_load0 tOk rfl (by kernel_rfl) rfl rfl trivial ?_
  refine aq_pur (w_rNumC _ _ h3) rfl rfl rfl rfl rfl rfl rfl ?_
  refine aq_pure tOk rfl rfl rfl trivial ?_
  refine aq_load0 tOk rfl (by kernel_rfl) rfl rfl trivial ?_
  refine aq_pur (w_rNumC _ _ h4) rfl rfl rfl rfl rfl rfl rfl ?_
  refine aq_pure tOk rfl rfl rfl trivial ?_
  refine aq_load0 tOk rfl (by kernel_rfl) rfl rfl trivial ?_
  refine aq_pur (w_rNumC _ _ h5) rfl rfl rfl rfl rfl rfl rfl ?_
  refine aq_pure tOk rfl rfl rfl trivial ?_
  refine aq_load0 tOk rfl (by kernel_rfl) rfl rfl trivial ?_
  refine aq_pur (w_rNumC _ _ h6) rfl rfl rfl rfl rfl rfl rfl ?_
  refine aq_store10 tOk rfl rfl rfl rfl trivial ?_
  refine aq_nil rfl ?_
  refine zB ?_
  refine pB ?_
  refine pA ?_
  refine pB ?_
  refine ar_pur (w_rTextC _ _ h7) rfl rfl rfl rfl rfl rfl rfl ?_
  refine ar_store tOk rfl rfl rfl trivial ?_
  refine ar_nil ?_
  refine ag_ret tOk Try.func62 rfl rfl (by first | trivial | exact ⟨trivial, trivial⟩ | simp) ?_
  rfl
theorem w_rPutVar (w : W) (hw : wok w) (v : VarV) (hv : v.ok) : Pur Try.prog 61 [wV w, varA v] (wV (pVar w v)) := by
  refine spec_of_go (N := 12) Try.func61 rfl (by decide) rfl rfl ?_
  refine zB ?_
  iterate 2 refine ar_new tOk rfl rfl rfl trivial ?_
  refine ar_new tOk rfl rfl rfl ?_ ?_
  · simp
  refine zA ?_
  apply ag_draw1 [] (by kernel_rfl) (by kernel_rfl)
  refine aq_load0 tOk rfl (by kernel_rfl) rfl rfl trivial ?_
  refine aq_pure tOk rfl rfl rfl trivial ?_
  refine aq_load0 tOk rfl (by kernel_rfl) rfl rfl trivial ?_
  refine aq_pur (w_rWideC w v.x0 v.x1 v.x2 v.x3 hv.h0 hv.h1 hv.h2 hv.h3 hw) rfl rfl rfl rfl rfl rfl rfl ?_
  refine aq_pure tOk rfl rfl rfl trivial ?_
  refine aq_load0 tOk rfl (by kernel_rfl) rfl rfl trivial ?_
  refine aq_pur (w_rNumC _ v.e (wok_wid hw)) rfl rfl rfl rfl rfl rfl rfl ?_
  refine aq_store10 tOk rfl rfl rfl rfl trivial ?_
  refine aq_nil rfl ?_
  refine ag_ret tOk Try.func61 rfl rfl (by first | trivial | exact ⟨trivial, trivial⟩ | simp) ?_
  rfl
end Go.Proofs.Ytancdgbclbkpkaa


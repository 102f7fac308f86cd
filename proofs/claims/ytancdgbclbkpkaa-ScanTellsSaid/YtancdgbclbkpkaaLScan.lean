/-
  WALKS: the law ScanOnce. (Printed by gen.py out of w_lscan.py.)
-/
import Derived.Test.YtancdgbclbkpkaaScan
namespace Go.Proofs.Ytancdgbclbkpkaa
open Go
set_option maxRecDepth 20000
set_option linter.unusedVariables false
set_option linter.unusedSimpArgs false
def i14 : InvV := ⟨0, [49, 50, 51, 52, 53, 54, 55, 56], 2, 0, 0, 0, [120]⟩
def t14 : TxV := ⟨0, 0, 4, 0, 0, 0, 0, 0, i14, var0, 0, 0, 0, 0, []⟩
theorem w_alive14  : Pur Try.prog 9 [] (.r (.bool true)) := by
  have hk := w_dKey i14 ⟨by decide, by decide⟩
  have hl : (keyL i14).length = 32 := keyL_len (by decide)
  have hf : fstV [⟨0, 0, t14⟩] (keyL i14) 4 = some ⟨0, 0, t14⟩ := by
    have hne : keyL i14 ≠ [] := by intro q; rw [q] at hl; cases hl
    have hp : isV (keyL i14) 4 ⟨0, 0, t14⟩ = true := decide_eq_true ⟨hne, rfl, rfl, rfl⟩
    rw [fstV, List.find?_cons, hp]
  have hP := w_Prepared [⟨0, 0, t14⟩] (by intro e he; simp at he; subst he; exact ⟨⟨by decide, by decide⟩, ⟨by decide, by decide⟩, ⟨by decide, by decide⟩, ⟨by decide, by decide⟩, ⟨by decide, by decide⟩, ⟨⟨by decide, by decide⟩, ⟨by decide, by decide⟩, ⟨by decide, by decide⟩, ⟨by decide, by decide⟩⟩, ⟨by decide, by decide⟩, ⟨by decide, by decide⟩, ⟨by decide, by decide⟩, ⟨by decide, by decide⟩, by decide⟩) (by decide) (keyL i14)
  rw [hf] at hP
  clear hf hl
  generalize keyL i14 = K at hk hP
  have hP2 : Pur Try.prog 10 [.r (.ro 1 (evC ⟨0, 0, t14⟩)), .r (.str K)] (.tuple [txA t14, .r (.bool true)]) := hP
  clear hP
  have hLs0 : Pur Try.prog 15 [.r (.ro 0 [])] (.r (.int .i64 (-1))) := w_Last [] (by decide)
  have hLs : Pur Try.prog 15 [.r .nil] (.r (.int .i64 (-1))) := Spec.nils hLs0 (by exact ⟨trivial, trivial⟩)
  refine spec_of_go (N := 26) Try.func9 rfl (by decide) rfl rfl ?_
  refine zB ?_
  refine pA ?_
  refine zC ?_
  refine ar_pure tOk rfl rfl rfl ?_ ?_
  · simp
  refine ar_new tOk rfl rfl rfl ?_ ?_
  · simp
  refine ar_store tOk rfl rfl rfl trivial ?_
  refine ar_nil ?_
  refine ag_ent (ent_weak (g' := [(1, .ptr 0 0)]) (h' := ⟨1, [(0, some (.mixed ((invC i14).map .r)))], false⟩) [0] rfl rfl rfl rfl ?_ ?_ rfl) ?_
  · exact ⟨⟨rfl, rfl⟩, trivial⟩
  · exact ⟨⟨rfl, rfl, rfl⟩, trivial⟩
  refine ag_seq ?_
  apply ag_draw2 (h1 := ⟨2, [(1, some (.mixed ((txC tx0).map .r))), (0, some (.mixed ((invC i14).map .r)))], false⟩) [2] (by kernel_rfl) (by kernel_rfl)
  refine aq_load1 tOk rfl (by kernel_rfl) rfl rfl rfl rfl trivial ⟨_, rfl, trivial⟩ ?_
  refine aq_pure tOk rfl rfl rfl ?_ ?_
  · simp
  refine aq_pure tOk rfl rfl rfl ?_ ?_
  · simp
  refine aq_qd (fun _ => qop_buildRoK tOk (v := .ro 1 (evC ⟨0, 0, t14⟩)) (by kernel_rfl) (by kernel_rfl)) rfl rfl rfl rfl ?_
  refine aq_load1 tOk rfl (by kernel_rfl) rfl rfl rfl rfl trivial ⟨_, rfl, trivial⟩ ?_
  refine aq_pur (hk) rfl rfl rfl rfl rfl rfl rfl ?_
  refine aq_pur (hP2) rfl rfl rfl rfl rfl rfl rfl ?_
  iterate 3 refine aq_pure tOk rfl rfl rfl trivial ?_
  refine' aq_new20 tOk rfl rfl rfl rfl rfl ?_ ?_
  rotate_left 1
  · simp
  refine aq_store21 tOk rfl rfl rfl rfl trivial ?_
  refine aq_pure tOk rfl rfl rfl trivial ?_
  refine aq_nil rfl ?_
  refine zB ?_
  iterate 2 refine pA ?_
  refine ar_ent (ent_reg 16 (.r (.bool true)) (by show AVal.r (.bool _) = _; exact eqB (by rfl))) ?_
  refine pA ?_
  iterate 2 refine pB ?_
  iterate 3 refine pA ?_
  refine ar_ent (ent_reg 22 (.r (.bool true)) (by show AVal.r (.bool _) = _; exact eqB (by decide))) ?_
  refine ar_pur (hLs) rfl rfl rfl rfl rfl rfl rfl ?_
  iterate 3 refine pA ?_
  refine ar_nil ?_
  refine ag_ret tOk Try.func9 rfl rfl (by simp) ?_
  exact eqB (by decide)
end Go.Proofs.Ytancdgbclbkpkaa


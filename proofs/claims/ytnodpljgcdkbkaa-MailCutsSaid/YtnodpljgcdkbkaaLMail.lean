/-
  WALKS: the laws of layer 10. (Printed by gen.py out of w_lmail.py.)
-/
import Derived.Test.YtnodpljgcdkbkaaMail5
namespace Go.Proofs.Ytnodpljgcdkbkaa
open Go
set_option maxRecDepth 20000
set_option linter.unusedVariables false
set_option linter.unusedSimpArgs false
theorem w_alive10  : Pur Try.prog 10 [] (.r (.bool true)) := by
  have hA : Pur Try.prog 40 [msgA msg0] (.r (.int .i64 12)) := (w_mCheck _).mono_r (by rw [msgE, if_neg (by decide), if_neg (by decide), if_neg (by decide)])
  have hB : Pur Try.prog 40 [msgA ⟨1, ⟨0, 0, 0, 0, 1, 0, 0, 0, [120]⟩, bid0, inv0, var0, 0, 0, 0, 0, []⟩] (.r (.int .i64 0)) := (w_mCheck _).mono_r (by rw [msgE, if_pos (by decide), askE, if_neg (by decide)])
  refine spec_of_go (N := 13) Try.func10 rfl (by decide) rfl rfl ?_
  refine zB ?_
  refine pA ?_
  refine zC ?_
  refine ar_pure tOk rfl rfl rfl ?_ ?_
  · simp
  refine ar_pure tOk rfl rfl rfl ?_ ?_
  · simp
  refine ar_pure (d := 4) (v := msgA ⟨1, ⟨0, 0, 0, 0, 1, 0, 0, 0, [120]⟩, bid0, inv0, var0, 0, 0, 0, 0, []⟩) (c := msgC msg0 ≠ []) tOk (by kernel_rfl) rfl rfl (by simp [msgC]) ?_
  refine ar_new tOk rfl rfl rfl ?_ ?_
  · simp
  refine ar_store (h' := ⟨1, [(0, some (.mixed ((msgC (⟨1, ⟨0, 0, 0, 0, 1, 0, 0, 0, [120]⟩, bid0, inv0, var0, 0, 0, 0, 0, []⟩)).map .r))), (0, some (.mixed ((msgC (msg0)).map .r)))], false⟩) (c := True) tOk (by kernel_rfl) rfl rfl trivial ?_
  refine ar_nil ?_
  refine ag_ent (ent_weak (g' := [(1, .ptr 0 0)]) (h' := ⟨1, [(0, some (.mixed ((msgC (⟨1, ⟨0, 0, 0, 0, 1, 0, 0, 0, [120]⟩, bid0, inv0, var0, 0, 0, 0, 0, []⟩)).map .r)))], false⟩) [0] rfl rfl rfl rfl ?_ ?_ rfl) ?_
  · exact ⟨⟨rfl, rfl⟩, trivial⟩
  · exact ⟨⟨rfl, rfl, rfl⟩, trivial⟩
  refine zB ?_
  refine ar_pure (d := 5) (v := msgA msg0) (c := msgC msg0 ≠ []) tOk (by kernel_rfl) rfl rfl (by simp [msgC]) ?_
  refine ar_pur (hA) rfl rfl rfl rfl rfl rfl rfl ?_
  iterate 2 refine pA ?_
  refine pB ?_
  refine ar_pur (hB) rfl rfl rfl rfl rfl rfl rfl ?_
  iterate 3 refine pA ?_
  refine ar_nil ?_
  refine ag_ret tOk Try.func10 rfl rfl (by simp) ?_
  rfl
end Go.Proofs.Ytnodpljgcdkbkaa


/-
  WALKS: the reference's two as one. (Printed by gen.py out of w_rcat.py.)
-/
import Derived.Test.YtopfpkmdkcjjlaaTy
import Derived.Test.YtopfpkmdkcjjlaaMB
namespace Go.Proofs.Ytopfpkmdkcjjlaa
open Go
set_option linter.unusedVariables false
set_option linter.unusedSimpArgs false
theorem w_rCat (a b : List UInt8) (h : a.length + b.length ≤ 140737488355328) : Pur Try.prog 29 [.r (.bs a), .r (.bs b)] (.r (.bs (a ++ b))) := by
  refine spec_of_go (N := 12) Try.func29 rfl (by decide) rfl rfl ?_
  refine zB ?_
  refine pA ?_
  refine zC ?_
  refine ar_new tOk rfl rfl rfl ?_ ?_
  · simp
  refine pA ?_
  refine ar_app tOk rfl rfl rfl ?_ ?_
  · refine ⟨⟨?_, ?_, ?_⟩, ⟨?_, ?_⟩, ⟨?_, ?_⟩, ?_⟩ <;> first | trivial | decide | omega | (simp; done) | (simp; omega)
  refine pA ?_
  refine zC ?_
  iterate 2 refine pA ?_
  refine ar_app tOk rfl rfl rfl ?_ ?_
  · refine ⟨⟨?_, ?_, ?_⟩, ⟨?_, ?_⟩, ⟨?_, ?_⟩, ?_⟩ <;> first | trivial | decide | omega | (simp; done) | (simp; omega)
  refine pA ?_
  refine ar_nil ?_
  refine ag_ent (ent_freeze 4 rfl rfl rfl ⟨by simp [cutA_eq], rfl⟩) ?_
  refine ag_ret tOk Try.func29 rfl rfl (by simp) ?_
  show AVal.r (.bs _) = _
  exact eqBsv (by simp [cutA_eq]; exact List.take_of_length_le (by simp))
theorem w_rCatO (a b : List UInt8) (h : a.length + b.length ≤ 140737488355328) : Own Try.prog 29 [.r (.bs a), .r (.bs b)] (a.length + b.length) 1 (.bytes (a ++ b)) := by
  refine spec_of_go (N := 12) Try.func29 rfl (by decide) rfl rfl ?_
  refine zB ?_
  refine pA ?_
  refine zC ?_
  refine ar_new tOk rfl rfl rfl ?_ ?_
  · simp
  refine pA ?_
  refine ar_app tOk rfl rfl rfl ?_ ?_
  · refine ⟨⟨?_, ?_, ?_⟩, ⟨?_, ?_⟩, ⟨?_, ?_⟩, ?_⟩ <;> first | trivial | decide | omega | (simp; done) | (simp; omega)
  refine pA ?_
  refine zC ?_
  iterate 2 refine pA ?_
  refine ar_app tOk rfl rfl rfl ?_ ?_
  · refine ⟨⟨?_, ?_, ?_⟩, ⟨?_, ?_⟩, ⟨?_, ?_⟩, ?_⟩ <;> first | trivial | decide | omega | (simp; done) | (simp; omega)
  refine pA ?_
  refine ar_nil ?_
  refine ag_ret tOk Try.func29 rfl rfl (by simp) ?_
  refine ⟨_, eqSl (by simp), ?_⟩
  show some (Body.bytes _) = _
  exact eqBs (by simp [cutA_eq])
end Go.Proofs.Ytopfpkmdkcjjlaa


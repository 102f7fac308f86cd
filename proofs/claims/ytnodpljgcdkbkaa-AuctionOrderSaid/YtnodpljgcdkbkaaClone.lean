/-
  WALKS: slices.Clone of octets. (Printed by gen.py out of w_clone.py.)
-/
import Derived.Test.YtnodpljgcdkbkaaTy
import Derived.Test.YtnodpljgcdkbkaaMB
namespace Go.Proofs.Ytnodpljgcdkbkaa
open Go
set_option maxRecDepth 20000
set_option linter.unusedVariables false
set_option linter.unusedSimpArgs false
theorem w_CloneB (s : List UInt8) (hs : s.length ≤ 140737488355328) : Pur Try.prog 121 [.r (.bs s)] (.r (.bs s)) := by
  refine spec_of_go (N := 8) Try.func121 rfl (by decide) rfl rfl ?_
  refine zB ?_
  refine pA ?_
  refine zA ?_
  refine zB ?_
  refine pA ?_
  refine ar_nilEq tOk rfl rfl rfl rfl rfl rfl rfl (fun q hq => ?_)
  refine ar_nil ?_
  refine ag_cond rfl ?_ ?_
  · intro h4
    have h0 : s = [] := hq h4
    subst h0
    refine zB ?_
    refine pA ?_
    refine ar_nil ?_
    refine ag_ent (ent_nil 2 (.bs []) rfl (.inl rfl)) ?_
    refine ag_ret tOk Try.func121 rfl rfl (by simp) ?_
    rfl
  · intro h4
    refine ag_skip ?_
    refine zB ?_
    refine ar_new tOk rfl rfl rfl ?_ ?_
    · simp
    refine pA ?_
    refine ar_app tOk rfl rfl rfl ?_ ?_
    · refine ⟨⟨?_, ?_, ?_⟩, ⟨?_, ?_⟩, ⟨?_, ?_⟩, ?_⟩ <;> first | trivial | decide | omega | (simp; done) | (simp; omega)
    refine pA ?_
    refine ar_nil ?_
    refine ag_ent (ent_freeze 2 rfl rfl rfl ⟨by simp, rfl⟩) ?_
    refine ag_ret tOk Try.func121 rfl rfl (by simp) ?_
    exact eqBsv (by simp [cutA_eq])
def hB1 (s : List UInt8) : Hp := ⟨1, [(0, some (.bytes s))], false⟩
end Go.Proofs.Ytnodpljgcdkbkaa


/-
  WALKS: auctions: alive; AuctionNobody. (Printed by gen.py out of w_auc4.py.)
-/
import Derived.Test.YtnodpljgcdkbkaaAuc2
namespace Go.Proofs.Ytnodpljgcdkbkaa
open Go
set_option maxRecDepth 20000
set_option linter.unusedVariables false
set_option linter.unusedSimpArgs false
def aX19 : AskV := ⟨0, 0, 0, 0, 5, 0, 0, 0, [120]⟩
theorem aX19_ok : askE aX19 = 0 := by decide
theorem w_alive19  : Pur Try.prog 38 [] (.r (.bool true)) := by
  refine spec_of_go (N := 28) Try.func38 rfl (by decide) rfl rfl ?_
  refine zB ?_
  refine pA ?_
  refine zC ?_
  refine ar_obj [] (w_New0) rfl rfl (handed_of rfl rfl (by decide) trivial) rfl rfl rfl rfl ?_
  rintro _ _ ⟨rfl, rfl⟩
  refine ⟨_, _, rfl, ?_⟩
  refine pA ?_
  refine zC ?_
  refine ar_pure tOk rfl rfl rfl ?_ ?_
  · simp
  refine ar_pure tOk rfl rfl rfl ?_ ?_
  · simp
  refine ar_new tOk rfl rfl rfl ?_ ?_
  · simp
  refine ar_store tOk rfl rfl rfl trivial ?_
  refine zC ?_
  refine pA ?_
  refine ar_qd rfl (qop_objR [0] (w_AsksE (.ro 0 []) true) (by rintro _ _ ⟨rfl, rfl⟩; exact ⟨rfl, rfl⟩) rfl rfl (handed_of rfl rfl (by decide) ⟨rfl, rfl, rfl, trivial⟩) rfl rfl) rfl rfl rfl rfl ?_
  iterate 3 refine pA ?_
  refine ar_ent (ent_reg 10 (.r (.bool true)) (by show AVal.r (.bool _) = _; exact eqB (by rfl))) ?_
  refine pA ?_
  refine pB ?_
  refine ar_obj [0] (w_OpenS (.ro 0 []) aX19 3 aX19_ok (by decide)) rfl rfl (handed_of rfl rfl (by decide) ⟨rfl, rfl, rfl, trivial⟩) rfl rfl rfl rfl ?_
  rintro _ _ ⟨rfl, rfl⟩
  refine ⟨_, _, rfl, ?_⟩
  refine ar_ent (ent_same (h' := ⟨4, [(0, some (.mixed [.r (.ro 0 []), .sl 2 0 1 1, .r (.bool true)])), (2, some (.mixed [.ptr 3 0])), (3, some (.mixed (entC aX19 3 (.r .nil)))), (1, some (.mixed ((askC aX19).map .r)))], false⟩) rfl rfl ⟨rfl, rfl, rfl, rfl, trivial⟩) ?_
  iterate 3 refine pA ?_
  refine ar_ent (ent_reg 16 (.r (.bool true)) (by show AVal.r (.bool _) = _; exact eqB (by rfl))) ?_
  refine pA ?_
  refine pB ?_
  refine ar_qd rfl (qop_objR [0, 2, 3] (w_Open2 (.ro 0 []) aX19 3 3 aX19_ok) (by rintro _ _ ⟨rfl, rfl⟩; exact ⟨rfl, rfl⟩) rfl rfl (handed_of rfl rfl (by decide) ⟨rfl, rfl, rfl, rfl, rfl, rfl, rfl, rfl, rfl, trivial⟩) rfl rfl) rfl rfl rfl rfl ?_
  iterate 3 refine pA ?_
  refine ar_ent (ent_reg 22 (.r (.bool true)) (by show AVal.r (.bool _) = _; exact eqB (by rfl))) ?_
  refine pA ?_
  refine ar_qd rfl (qop_objR [0, 2, 3] (w_Asks1 (.ro 0 []) aX19 3) (by rintro _ _ ⟨rfl, rfl⟩; exact ⟨rfl, rfl⟩) rfl rfl (handed_of rfl rfl (by decide) ⟨rfl, rfl, rfl, rfl, rfl, rfl, rfl, rfl, rfl, trivial⟩) rfl rfl) rfl rfl rfl rfl ?_
  iterate 4 refine pA ?_
  refine ar_nil ?_
  refine ag_ret tOk Try.func38 rfl rfl (by simp) ?_
  rfl
section
variable {P : Program} {T : TTab} {N ix j K : Nat} {ops : Array Oper} {o : Oper} {rest : List Oper} {g : Regs} {ld : List Nat} {Hs : Nat → Hp} {F : Regs → Prop}
end
end Go.Proofs.Ytnodpljgcdkbkaa


/-
  WALKS: auctions: New, find, Asks, Bids, Open. (Printed by gen.py out of w_auc.py.)
-/
import Derived.Test.YtccdhgmkjakjkaaGreatMVer
import Derived.Test.YtccdhgmkjakjkaaGreatBText
import Derived.Test.YtccdhgmkjakjkaaGreatMB
namespace Go.Proofs.YtccdhgmkjakjkaaGreat
open Go
set_option maxRecDepth 20000
set_option linter.unusedVariables false
set_option linter.unusedSimpArgs false
def entC (a : AskV) (t : Int) (v : AVal) : List AVal := (askC a).map .r ++ [.r (.int .i64 t), v]
def bidsC (L : List BidV) : List RVal := L.flatMap bidC
def rmE (rv : RVal) (m : Bool) : Hp := ⟨1, [(0, some (.mixed [.r rv, .r .nil, .r (.bool m)]))], false⟩
def rm1 (rv : RVal) (a : AskV) (t : Int) : Hp := ⟨3, [(0, some (.mixed [.r rv, .sl 1 0 1 1, .r (.bool true)])), (1, some (.mixed [.ptr 2 0])), (2, some (.mixed (entC a t (.r .nil))))], false⟩
def hAk (a : AskV) : Hp := ⟨1, [(0, some (.mixed ((askC a).map .r)))], false⟩
theorem w_fc1 (a : AskV) (t : Int)  : Spec Tryz.prog 40 [.ptr 0 0, .ptr 1 0] (⟨2, [(0, some (.mixed (entC a t (.r .nil)))), (1, some (.mixed ((askC a).map .r)))], false⟩) (fun v h' => v = .r (.bool true) ∧ h' = ⟨2, [(0, some (.mixed (entC a t (.r .nil)))), (1, some (.mixed ((askC a).map .r)))], false⟩) := by
 refine spec_of_go (N := 10) Tryz.func40 rfl (by decide) rfl rfl ?_
 refine zB ?_
 refine pF ?_
 refine qD ?_
 iterate 3 refine qA ?_
 iterate 2 refine qL ?_
 refine aq_pureE tOk (.r (.bool true)) rfl (by show AVal.r (.bool _) = _; exact eqB (by simp)) rfl (by rfl) trivial ?_
 refine qE ?_
 refine ag_ent (ent_weak (g' := [(3, .r (.bool true))]) (h' := ⟨2, [(0, some (.mixed (entC a t (.r .nil)))), (1, some (.mixed ((askC a).map .r)))], false⟩) [0, 1] rfl rfl rfl rfl ?_ ?_ rfl) ?_
 ·exact ⟨⟨rfl, rfl⟩, trivial⟩
 ·exact ⟨⟨rfl, rfl, rfl⟩, ⟨rfl, rfl, rfl⟩, trivial⟩
 refine ag_ret tOk Tryz.func40 rfl rfl (by first | trivial | exact ⟨trivial, trivial⟩ | simp) ?_
 exact ⟨rfl, rfl⟩
theorem w_IxA1 (a : AskV) (t : Int)  : Spec Tryz.prog 39 [.sl 0 0 1 1, .func 40 [.ptr 2 0]] (⟨3, [(0, some (.mixed [.ptr 1 0])), (1, some (.mixed (entC a t (.r .nil)))), (2, some (.mixed ((askC a).map .r)))], false⟩) (fun v h' => v = .r (.int .i64 0) ∧ h' = ⟨3, [(0, some (.mixed [.ptr 1 0])), (1, some (.mixed (entC a t (.r .nil)))), (2, some (.mixed ((askC a).map .r)))], false⟩) := by
 refine spec_of_go (N := 19) Tryz.func39 rfl (by decide) rfl rfl ?_
 refine zB ?_
 refine pF ?_
 refine zB ?_
 iterate 2 refine pA ?_
 refine pE ?_
 refine ag_block ?_
 refine ag_unroll ?_
 refine zB ?_
 refine pF ?_
 refine vA ?_
 refine sS ?_
 refine bX ?_
 refine pA ?_
 refine pG ?_
 iterate 3 refine pA ?_
 refine pC ?_ ?_
 ·decide
 refine pB ?_
 refine ar_qd rfl (qop_objR [1, 2] (w_fc1 a t) (by rintro _ _ ⟨rfl, rfl⟩; exact ⟨rfl, rfl⟩) rfl rfl (handed_of rfl rfl (by decide) ⟨rfl, rfl, rfl, rfl, rfl, rfl, trivial⟩) rfl rfl) rfl rfl rfl rfl ?_
 refine ar_nil ?_
 refine vB ?_
 refine zB ?_
 refine pA ?_
 refine pE ?_
 refine ag_ent (ent_weak (g' := [(4, .r (.int .i64 0))]) (h' := ⟨3, [(0, some (.mixed [.ptr 1 0])), (1, some (.mixed (entC a t (.r .nil)))), (2, some (.mixed ((askC a).map .r)))], false⟩) [0, 1, 2] rfl rfl rfl rfl ?_ ?_ rfl) ?_
 ·exact ⟨⟨rfl, rfl⟩, trivial⟩
 ·exact ⟨⟨rfl, rfl, rfl⟩, ⟨rfl, rfl, rfl⟩, ⟨rfl, rfl, rfl⟩, trivial⟩
 refine ag_ret tOk Tryz.func39 rfl rfl (by first | trivial | exact ⟨trivial, trivial⟩ | simp) ?_
 exact ⟨rfl, rfl⟩
theorem w_IxA0 (a : AskV)  : Spec Tryz.prog 39 [.r .nil, .func 40 [.ptr 0 0]] (hAk a) (fun v h' => v = .r (.int .i64 (-1)) ∧ h' = hAk a) := by
 refine spec_of_go (N := 19) Tryz.func39 rfl (by decide) rfl rfl ?_
 refine zB ?_
 refine pF ?_
 refine zB ?_
 iterate 2 refine pA ?_
 refine pE ?_
 refine ag_block ?_
 refine ag_unroll ?_
 refine zB ?_
 refine pF ?_
 refine vD ?_
 refine ag_exit rfl ?_
 refine zB ?_
 refine pE ?_
 refine ag_ent (ent_weak (g' := [(4, .r (.int .i64 (-1)))]) (h' := hAk a) [0] rfl rfl rfl rfl ?_ ?_ rfl) ?_
 ·exact ⟨⟨rfl, rfl⟩, trivial⟩
 ·exact ⟨⟨rfl, rfl, rfl⟩, trivial⟩
 refine ag_ret tOk Tryz.func39 rfl rfl (by first | trivial | exact ⟨trivial, trivial⟩ | simp) ?_
 exact ⟨rfl, rfl⟩
theorem w_findE (rv : RVal) (m : Bool) (a : AskV)  : Spec Tryz.prog 21 [.ptr 0 0, askA a] (rmE rv m) (fun v h' => v = .r .nilp ∧ h' = rmE rv m) := by
 refine spec_of_go (N := 23) Tryz.func21 rfl (by decide) rfl rfl ?_
 refine zB ?_
 refine pM ?_
 refine pF ?_
 refine zB ?_
 refine pA ?_
 refine pE ?_
 refine vC ?_
 refine ag_skip ?_
 refine zB ?_
 iterate 3 refine pA ?_
 refine pB ?_
 refine pA ?_
 refine ar_qd rfl (qop_objR [1] (w_IxA0 a) (by rintro _ _ ⟨rfl, rfl⟩; exact ⟨rfl, rfl⟩) rfl rfl (handed_of rfl rfl (by decide) ⟨rfl, rfl, rfl, trivial⟩) rfl rfl) rfl rfl rfl rfl ?_
 refine pF ?_
 refine zB ?_
 refine pA ?_
 refine pE ?_
 refine vA ?_
 refine zB ?_
 refine pE ?_
 refine ag_ent (ent_weak (g' := [(4, .r .nilp)]) (h' := rmE rv m) [0] rfl rfl rfl rfl ?_ ?_ rfl) ?_
 ·exact ⟨⟨rfl, rfl⟩, trivial⟩
 ·exact ⟨⟨rfl, rfl, rfl⟩, trivial⟩
 refine ag_ret tOk Tryz.func21 rfl rfl (by first | trivial | exact ⟨trivial, trivial⟩ | simp) ?_
 exact ⟨rfl, rfl⟩
theorem w_find1 (rv : RVal) (a : AskV) (t : Int)  : Spec Tryz.prog 21 [.ptr 0 0, askA a] (rm1 rv a t) (fun v h' => v = .ptr 2 0 ∧ h' = rm1 rv a t) := by
 refine spec_of_go (N := 23) Tryz.func21 rfl (by decide) rfl rfl ?_
 refine zB ?_
 refine pM ?_
 refine pF ?_
 refine zB ?_
 refine pA ?_
 refine pE ?_
 refine vC ?_
 refine ag_skip ?_
 refine zB ?_
 iterate 3 refine pA ?_
 refine pB ?_
 refine pA ?_
 refine ar_qd rfl (qop_objR [1, 2, 3] (w_IxA1 a t) (by rintro _ _ ⟨rfl, rfl⟩; exact ⟨rfl, rfl⟩) rfl rfl (handed_of rfl rfl (by decide) ⟨rfl, rfl, rfl, rfl, rfl, rfl, rfl, rfl, rfl, trivial⟩) rfl rfl) rfl rfl rfl rfl ?_
 refine pF ?_
 refine zB ?_
 refine pA ?_
 refine pE ?_
 refine vD ?_
 refine ag_skip ?_
 refine zB ?_
 iterate 3 refine pA ?_
 refine pB ?_
 refine pA ?_
 refine pC ?_ ?_
 ·decide
 refine pB ?_
 refine pE ?_
 refine ag_ent (ent_weak (g' := [(4, .ptr 2 0)]) (h' := rm1 rv a t) [0, 1, 2] rfl rfl rfl rfl ?_ ?_ rfl) ?_
 ·exact ⟨⟨rfl, rfl⟩, trivial⟩
 ·exact ⟨⟨rfl, rfl, rfl⟩, ⟨rfl, rfl, rfl⟩, ⟨rfl, rfl, rfl⟩, trivial⟩
 refine ag_ret tOk Tryz.func21 rfl rfl (by first | trivial | exact ⟨trivial, trivial⟩ | simp) ?_
 exact ⟨rfl, rfl⟩
theorem w_AsksE (rv : RVal) (m : Bool) : Spec Tryz.prog 15 [.ptr 0 0] (rmE rv m) (fun v h' => v = .r .nil ∧ h' = rmE rv m) := by
 refine spec_of_go (N := 26) Tryz.func15 rfl (by decide) rfl rfl ?_
 refine zB ?_
 refine pF ?_
 refine zB ?_
 refine pA ?_
 refine pE ?_
 refine vC ?_
 refine ag_skip ?_
 refine zB ?_
 refine pF ?_
 refine zB ?_
 iterate 3 refine pA ?_
 refine pB ?_
 refine pA ?_
 refine pE ?_
 refine ag_block ?_
 refine ag_unroll ?_
 refine zB ?_
 refine pF ?_
 refine vD ?_
 refine ag_exit rfl ?_
 refine zB ?_
 refine pA ?_
 refine pE ?_
 refine ag_ent (ent_weak (g' := [(2, .r .nil)]) (h' := rmE rv m) [0] rfl rfl rfl rfl ?_ ?_ rfl) ?_
 ·exact ⟨⟨rfl, rfl⟩, trivial⟩
 ·exact ⟨⟨rfl, rfl, rfl⟩, trivial⟩
 refine ag_ret tOk Tryz.func15 rfl rfl (by first | trivial | exact ⟨trivial, trivial⟩ | simp) ?_
 exact ⟨rfl, rfl⟩
theorem w_Asks1 (rv : RVal) (a : AskV) (t : Int)  : Spec Tryz.prog 15 [.ptr 0 0] (rm1 rv a t) (fun v h' => v = .r (.ro 1 (askC a)) ∧ h' = rm1 rv a t) := by
 refine spec_of_go (N := 26) Tryz.func15 rfl (by decide) rfl rfl ?_
 refine zB ?_
 refine pF ?_
 refine zB ?_
 refine pA ?_
 refine pE ?_
 refine vC ?_
 refine ag_skip ?_
 refine zB ?_
 refine pF ?_
 refine zB ?_
 iterate 3 refine pA ?_
 refine pB ?_
 refine pA ?_
 refine pE ?_
 refine ag_block ?_
 refine ag_unroll ?_
 refine zB ?_
 refine pF ?_
 refine vA ?_
 refine sS ?_
 refine bX ?_
 refine pC ?_ ?_
 ·decide
 refine pB ?_
 refine pE ?_
 refine ag_reg ?_
 iterate 4 refine pA ?_
 refine pB ?_
 refine ar_qd rfl (qop_buildRoK tOk (v := .ro 1 (askC a)) (by kernel_rfl) (by kernel_rfl)) rfl rfl rfl rfl ?_
 refine pP ?_ ?_
 ·refine ⟨⟨?_, ?_, ?_⟩, ⟨?_, ?_⟩, ⟨?_, ?_⟩, ?_⟩ <;> first | trivial | omega | (simp; done) | (simp; omega)
 refine pE ?_
 refine iR ?_
 refine pC ?_ ?_
 ·unfold inI64; decide
 refine pE ?_
 refine ag_again ?_
 refine zB ?_
 refine pF ?_
 refine vD ?_
 refine ag_exit rfl ?_
 refine zB ?_
 refine pA ?_
 refine pE ?_
 refine ag_ent (ent_freeze 2 rfl rfl rfl trivial) ?_
 refine ag_ent (ent_weak (g' := [(2, .r (.ro 1 (askC a)))]) (h' := rm1 rv a t) [0, 1, 2] rfl rfl rfl rfl ?_ ?_ rfl) ?_
 ·exact ⟨⟨rfl, rfl⟩, trivial⟩
 ·exact ⟨⟨rfl, rfl, rfl⟩, ⟨rfl, rfl, rfl⟩, ⟨rfl, rfl, rfl⟩, trivial⟩
 refine ag_ret tOk Tryz.func15 rfl rfl (by simp) ?_
 exact ⟨rfl, rfl⟩
end Go.Proofs.YtccdhgmkjakjkaaGreat

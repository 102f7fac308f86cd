/-
  WALKS: auctions: New, find, Asks, Bids, Open. (Printed by gen.py out of w_auc.py.)
-/
import Derived.Test.YtnodpljgcdkbkaaMVer
import Derived.Test.YtnodpljgcdkbkaaBText
import Derived.Test.YtnodpljgcdkbkaaMB
namespace Go.Proofs.Ytnodpljgcdkbkaa
open Go
set_option maxRecDepth 20000
set_option linter.unusedVariables false
set_option linter.unusedSimpArgs false
def entC (a : AskV) (t : Int) (v : AVal) : List AVal := (askC a).map .r ++ [.r (.int .i64 t), v]
def bidsC (L : List BidV) : List RVal := L.flatMap bidC
def rmE (rv : RVal) (m : Bool) : Hp := ⟨1, [(0, some (.mixed [.r rv, .r .nil, .r (.bool m)]))], false⟩
def rm1 (rv : RVal) (a : AskV) (t : Int) : Hp := ⟨3, [(0, some (.mixed [.r rv, .sl 1 0 1 1, .r (.bool true)])), (1, some (.mixed [.ptr 2 0])), (2, some (.mixed (entC a t (.r .nil))))], false⟩
def rm2 (rv : RVal) (a : AskV) (t : Int) (L : List BidV) : Hp := ⟨4, [(0, some (.mixed [.r rv, .sl 1 0 1 1, .r (.bool true)])), (1, some (.mixed [.ptr 2 0])), (2, some (.mixed (entC a t (.sl 3 0 L.length 16)))), (3, some (.plain (bidsC L)))], false⟩
def hAk (a : AskV) : Hp := ⟨1, [(0, some (.mixed ((askC a).map .r)))], false⟩
theorem w_fc1 (a : AskV) (t : Int)  : Spec Try.prog 133 [.ptr 0 0, .ptr 1 0] (⟨2, [(0, some (.mixed (entC a t (.r .nil)))), (1, some (.mixed ((askC a).map .r)))], false⟩) (fun v h' => v = .r (.bool true) ∧ h' = ⟨2, [(0, some (.mixed (entC a t (.r .nil)))), (1, some (.mixed ((askC a).map .r)))], false⟩) := by
  refine spec_of_go (N := 10) Try.func133 rfl (by decide) rfl rfl ?_
  refine zB ?_
  refine pA ?_
  refine zA ?_
  refine ag_draw0 (by kernel_rfl) (by kernel_rfl) ?_
  iterate 3 refine aq_pure tOk rfl rfl rfl trivial ?_
  iterate 2 refine aq_load0 tOk rfl (by kernel_rfl) rfl rfl trivial ?_
  refine aq_pureE tOk (.r (.bool true)) rfl (by show AVal.r (.bool _) = _; exact eqB (by simp)) rfl (by rfl) trivial ?_
  refine aq_pure tOk rfl rfl rfl trivial ?_
  refine aq_nil rfl ?_
  refine ag_ent (ent_weak (g' := [(3, .r (.bool true))]) (h' := ⟨2, [(0, some (.mixed (entC a t (.r .nil)))), (1, some (.mixed ((askC a).map .r)))], false⟩) [0, 1] rfl rfl rfl rfl ?_ ?_ rfl) ?_
  · exact ⟨⟨rfl, rfl⟩, trivial⟩
  · exact ⟨⟨rfl, rfl, rfl⟩, ⟨rfl, rfl, rfl⟩, trivial⟩
  refine ag_ret tOk Try.func133 rfl rfl (by first | trivial | exact ⟨trivial, trivial⟩ | simp) ?_
  exact ⟨rfl, rfl⟩
theorem w_IxA1 (a : AskV) (t : Int)  : Spec Try.prog 132 [.sl 0 0 1 1, .func 133 [.ptr 2 0]] (⟨3, [(0, some (.mixed [.ptr 1 0])), (1, some (.mixed (entC a t (.r .nil)))), (2, some (.mixed ((askC a).map .r)))], false⟩) (fun v h' => v = .r (.int .i64 0) ∧ h' = ⟨3, [(0, some (.mixed [.ptr 1 0])), (1, some (.mixed (entC a t (.r .nil)))), (2, some (.mixed ((askC a).map .r)))], false⟩) := by
  refine spec_of_go (N := 19) Try.func132 rfl (by decide) rfl rfl ?_
  refine zB ?_
  refine pA ?_
  refine zA ?_
  refine zB ?_
  iterate 3 refine pA ?_
  refine ar_nil ?_
  refine ag_block ?_
  refine ag_unroll ?_
  refine zB ?_
  refine pA ?_
  refine zA ?_
  refine ag_true rfl (by decide) ?_
  refine ag_skip ?_
  refine ag_seq ?_
  refine ag_block ?_
  refine zB ?_
  iterate 2 refine pA ?_
  refine zC ?_
  iterate 3 refine pA ?_
  refine ar_pure tOk rfl rfl rfl ?_ ?_
  · decide
  refine pB ?_
  refine ar_qd rfl (qop_objR [1, 2] (w_fc1 a t) (by rintro _ _ ⟨rfl, rfl⟩; exact ⟨rfl, rfl⟩) rfl rfl (handed_of rfl rfl (by decide) ⟨rfl, rfl, rfl, rfl, rfl, rfl, trivial⟩) rfl rfl) rfl rfl rfl rfl ?_
  refine ar_nil ?_
  refine ag_true rfl (by rfl) ?_
  refine zB ?_
  iterate 2 refine pA ?_
  refine ar_nil ?_
  refine ag_ent (ent_weak (g' := [(4, .r (.int .i64 0))]) (h' := ⟨3, [(0, some (.mixed [.ptr 1 0])), (1, some (.mixed (entC a t (.r .nil)))), (2, some (.mixed ((askC a).map .r)))], false⟩) [0, 1, 2] rfl rfl rfl rfl ?_ ?_ rfl) ?_
  · exact ⟨⟨rfl, rfl⟩, trivial⟩
  · exact ⟨⟨rfl, rfl, rfl⟩, ⟨rfl, rfl, rfl⟩, ⟨rfl, rfl, rfl⟩, trivial⟩
  refine ag_ret tOk Try.func132 rfl rfl (by first | trivial | exact ⟨trivial, trivial⟩ | simp) ?_
  exact ⟨rfl, rfl⟩
theorem w_fc2 (a : AskV) (t : Int) (L : List BidV)  : Spec Try.prog 133 [.ptr 0 0, .ptr 1 0] (⟨3, [(0, some (.mixed (entC a t (.sl 2 0 L.length 16)))), (1, some (.mixed ((askC a).map .r))), (2, some (.plain (bidsC L)))], false⟩) (fun v h' => v = .r (.bool true) ∧ h' = ⟨3, [(0, some (.mixed (entC a t (.sl 2 0 L.length 16)))), (1, some (.mixed ((askC a).map .r))), (2, some (.plain (bidsC L)))], false⟩) := by
  refine spec_of_go (N := 10) Try.func133 rfl (by decide) rfl rfl ?_
  refine zB ?_
  refine pA ?_
  refine zA ?_
  refine ag_draw0 (by kernel_rfl) (by kernel_rfl) ?_
  iterate 3 refine aq_pure tOk rfl rfl rfl trivial ?_
  iterate 2 refine aq_load0 tOk rfl (by kernel_rfl) rfl rfl trivial ?_
  refine aq_pureE tOk (.r (.bool true)) rfl (by show AVal.r (.bool _) = _; exact eqB (by simp)) rfl (by rfl) trivial ?_
  refine aq_pure tOk rfl rfl rfl trivial ?_
  refine aq_nil rfl ?_
  refine ag_ent (ent_weak (g' := [(3, .r (.bool true))]) (h' := ⟨3, [(0, some (.mixed (entC a t (.sl 2 0 L.length 16)))), (1, some (.mixed ((askC a).map .r))), (2, some (.plain (bidsC L)))], false⟩) [0, 1, 2] rfl rfl rfl rfl ?_ ?_ rfl) ?_
  · exact ⟨⟨rfl, rfl⟩, trivial⟩
  · exact ⟨⟨rfl, rfl, rfl⟩, ⟨rfl, rfl, rfl⟩, ⟨rfl, rfl, rfl⟩, trivial⟩
  refine ag_ret tOk Try.func133 rfl rfl (by first | trivial | exact ⟨trivial, trivial⟩ | simp) ?_
  exact ⟨rfl, rfl⟩
theorem w_IxA2 (a : AskV) (t : Int) (L : List BidV)  : Spec Try.prog 132 [.sl 0 0 1 1, .func 133 [.ptr 2 0]] (⟨4, [(0, some (.mixed [.ptr 1 0])), (1, some (.mixed (entC a t (.sl 3 0 L.length 16)))), (2, some (.mixed ((askC a).map .r))), (3, some (.plain (bidsC L)))], false⟩) (fun v h' => v = .r (.int .i64 0) ∧ h' = ⟨4, [(0, some (.mixed [.ptr 1 0])), (1, some (.mixed (entC a t (.sl 3 0 L.length 16)))), (2, some (.mixed ((askC a).map .r))), (3, some (.plain (bidsC L)))], false⟩) := by
  refine spec_of_go (N := 19) Try.func132 rfl (by decide) rfl rfl ?_
  refine zB ?_
  refine pA ?_
  refine zA ?_
  refine zB ?_
  iterate 3 refine pA ?_
  refine ar_nil ?_
  refine ag_block ?_
  refine ag_unroll ?_
  refine zB ?_
  refine pA ?_
  refine zA ?_
  refine ag_true rfl (by decide) ?_
  refine ag_skip ?_
  refine ag_seq ?_
  refine ag_block ?_
  refine zB ?_
  iterate 2 refine pA ?_
  refine zC ?_
  iterate 3 refine pA ?_
  refine ar_pure tOk rfl rfl rfl ?_ ?_
  · decide
  refine pB ?_
  refine ar_qd rfl (qop_objR [1, 2, 3] (w_fc2 a t L) (by rintro _ _ ⟨rfl, rfl⟩; exact ⟨rfl, rfl⟩) rfl rfl (handed_of rfl rfl (by decide) ⟨rfl, rfl, rfl, rfl, rfl, rfl, rfl, rfl, rfl, trivial⟩) rfl rfl) rfl rfl rfl rfl ?_
  refine ar_nil ?_
  refine ag_true rfl (by rfl) ?_
  refine zB ?_
  iterate 2 refine pA ?_
  refine ar_nil ?_
  refine ag_ent (ent_weak (g' := [(4, .r (.int .i64 0))]) (h' := ⟨4, [(0, some (.mixed [.ptr 1 0])), (1, some (.mixed (entC a t (.sl 3 0 L.length 16)))), (2, some (.mixed ((askC a).map .r))), (3, some (.plain (bidsC L)))], false⟩) [0, 1, 2, 3] rfl rfl rfl rfl ?_ ?_ rfl) ?_
  · exact ⟨⟨rfl, rfl⟩, trivial⟩
  · exact ⟨⟨rfl, rfl, rfl⟩, ⟨rfl, rfl, rfl⟩, ⟨rfl, rfl, rfl⟩, ⟨rfl, rfl, rfl⟩, trivial⟩
  refine ag_ret tOk Try.func132 rfl rfl (by first | trivial | exact ⟨trivial, trivial⟩ | simp) ?_
  exact ⟨rfl, rfl⟩
theorem w_IxA0 (a : AskV)  : Spec Try.prog 132 [.r .nil, .func 133 [.ptr 0 0]] (hAk a) (fun v h' => v = .r (.int .i64 (-1)) ∧ h' = hAk a) := by
  refine spec_of_go (N := 19) Try.func132 rfl (by decide) rfl rfl ?_
  refine zB ?_
  refine pA ?_
  refine zA ?_
  refine zB ?_
  iterate 3 refine pA ?_
  refine ar_nil ?_
  refine ag_block ?_
  refine ag_unroll ?_
  refine zB ?_
  refine pA ?_
  refine zA ?_
  refine ag_false rfl (by decide) ?_
  refine ag_exit rfl ?_
  refine zB ?_
  refine pA ?_
  refine ar_nil ?_
  refine ag_ent (ent_weak (g' := [(4, .r (.int .i64 (-1)))]) (h' := hAk a) [0] rfl rfl rfl rfl ?_ ?_ rfl) ?_
  · exact ⟨⟨rfl, rfl⟩, trivial⟩
  · exact ⟨⟨rfl, rfl, rfl⟩, trivial⟩
  refine ag_ret tOk Try.func132 rfl rfl (by first | trivial | exact ⟨trivial, trivial⟩ | simp) ?_
  exact ⟨rfl, rfl⟩
theorem w_findE (rv : RVal) (m : Bool) (a : AskV)  : Spec Try.prog 87 [.ptr 0 0, askA a] (rmE rv m) (fun v h' => v = .r .nilp ∧ h' = rmE rv m) := by
  refine spec_of_go (N := 23) Try.func87 rfl (by decide) rfl rfl ?_
  refine zB ?_
  refine ar_new tOk rfl rfl rfl trivial ?_
  refine pA ?_
  refine zA ?_
  refine zB ?_
  iterate 2 refine pA ?_
  refine ar_nil ?_
  refine ag_false rfl (by rfl) ?_
  refine ag_skip ?_
  refine zB ?_
  iterate 3 refine pA ?_
  refine pB ?_
  refine pA ?_
  refine ar_qd rfl (qop_objR [1] (w_IxA0 a) (by rintro _ _ ⟨rfl, rfl⟩; exact ⟨rfl, rfl⟩) rfl rfl (handed_of rfl rfl (by decide) ⟨rfl, rfl, rfl, trivial⟩) rfl rfl) rfl rfl rfl rfl ?_
  refine pA ?_
  refine zA ?_
  refine zB ?_
  iterate 2 refine pA ?_
  refine ar_nil ?_
  refine ag_true rfl (by decide) ?_
  refine zB ?_
  refine pA ?_
  refine ar_nil ?_
  refine ag_ent (ent_weak (g' := [(4, .r .nilp)]) (h' := rmE rv m) [0] rfl rfl rfl rfl ?_ ?_ rfl) ?_
  · exact ⟨⟨rfl, rfl⟩, trivial⟩
  · exact ⟨⟨rfl, rfl, rfl⟩, trivial⟩
  refine ag_ret tOk Try.func87 rfl rfl (by first | trivial | exact ⟨trivial, trivial⟩ | simp) ?_
  exact ⟨rfl, rfl⟩
theorem w_find1 (rv : RVal) (a : AskV) (t : Int)  : Spec Try.prog 87 [.ptr 0 0, askA a] (rm1 rv a t) (fun v h' => v = .ptr 2 0 ∧ h' = rm1 rv a t) := by
  refine spec_of_go (N := 23) Try.func87 rfl (by decide) rfl rfl ?_
  refine zB ?_
  refine ar_new tOk rfl rfl rfl trivial ?_
  refine pA ?_
  refine zA ?_
  refine zB ?_
  iterate 2 refine pA ?_
  refine ar_nil ?_
  refine ag_false rfl (by rfl) ?_
  refine ag_skip ?_
  refine zB ?_
  iterate 3 refine pA ?_
  refine pB ?_
  refine pA ?_
  refine ar_qd rfl (qop_objR [1, 2, 3] (w_IxA1 a t) (by rintro _ _ ⟨rfl, rfl⟩; exact ⟨rfl, rfl⟩) rfl rfl (handed_of rfl rfl (by decide) ⟨rfl, rfl, rfl, rfl, rfl, rfl, rfl, rfl, rfl, trivial⟩) rfl rfl) rfl rfl rfl rfl ?_
  refine pA ?_
  refine zA ?_
  refine zB ?_
  iterate 2 refine pA ?_
  refine ar_nil ?_
  refine ag_false rfl (by decide) ?_
  refine ag_skip ?_
  refine zB ?_
  iterate 3 refine pA ?_
  refine pB ?_
  refine pA ?_
  refine ar_pure tOk rfl rfl rfl ?_ ?_
  · decide
  refine pB ?_
  refine pA ?_
  refine ar_nil ?_
  refine ag_ent (ent_weak (g' := [(4, .ptr 2 0)]) (h' := rm1 rv a t) [0, 1, 2] rfl rfl rfl rfl ?_ ?_ rfl) ?_
  · exact ⟨⟨rfl, rfl⟩, trivial⟩
  · exact ⟨⟨rfl, rfl, rfl⟩, ⟨rfl, rfl, rfl⟩, ⟨rfl, rfl, rfl⟩, trivial⟩
  refine ag_ret tOk Try.func87 rfl rfl (by first | trivial | exact ⟨trivial, trivial⟩ | simp) ?_
  exact ⟨rfl, rfl⟩
theorem w_find2 (rv : RVal) (a : AskV) (t : Int) (L : List BidV)  : Spec Try.prog 87 [.ptr 0 0, askA a] (rm2 rv a t L) (fun v h' => v = .ptr 2 0 ∧ h' = rm2 rv a t L) := by
  refine spec_of_go (N := 23) Try.func87 rfl (by decide) rfl rfl ?_
  refine zB ?_
  refine ar_new tOk rfl rfl rfl trivial ?_
  refine pA ?_
  refine zA ?_
  refine zB ?_
  iterate 2 refine pA ?_
  refine ar_nil ?_
  refine ag_false rfl (by rfl) ?_
  refine ag_skip ?_
  refine zB ?_
  iterate 3 refine pA ?_
  refine pB ?_
  refine pA ?_
  refine ar_qd rfl (qop_objR [1, 2, 4, 3] (w_IxA2 a t L) (by rintro _ _ ⟨rfl, rfl⟩; exact ⟨rfl, rfl⟩) rfl rfl (handed_of rfl rfl (by decide) ⟨rfl, rfl, rfl, rfl, rfl, rfl, rfl, rfl, rfl, rfl, rfl, rfl, trivial⟩) rfl rfl) rfl rfl rfl rfl ?_
  refine pA ?_
  refine zA ?_
  refine zB ?_
  iterate 2 refine pA ?_
  refine ar_nil ?_
  refine ag_false rfl (by decide) ?_
  refine ag_skip ?_
  refine zB ?_
  iterate 3 refine pA ?_
  refine pB ?_
  refine pA ?_
  refine ar_pure tOk rfl rfl rfl ?_ ?_
  · decide
  refine pB ?_
  refine pA ?_
  refine ar_nil ?_
  refine ag_ent (ent_weak (g' := [(4, .ptr 2 0)]) (h' := rm2 rv a t L) [0, 1, 2, 3] rfl rfl rfl rfl ?_ ?_ rfl) ?_
  · exact ⟨⟨rfl, rfl⟩, trivial⟩
  · exact ⟨⟨rfl, rfl, rfl⟩, ⟨rfl, rfl, rfl⟩, ⟨rfl, rfl, rfl⟩, ⟨rfl, rfl, rfl⟩, trivial⟩
  refine ag_ret tOk Try.func87 rfl rfl (by first | trivial | exact ⟨trivial, trivial⟩ | simp) ?_
  exact ⟨rfl, rfl⟩
theorem w_AsksE (rv : RVal) (m : Bool) : Spec Try.prog 36 [.ptr 0 0] (rmE rv m) (fun v h' => v = .r .nil ∧ h' = rmE rv m) := by
  refine spec_of_go (N := 26) Try.func36 rfl (by decide) rfl rfl ?_
  refine zB ?_
  refine pA ?_
  refine zA ?_
  refine zB ?_
  iterate 2 refine pA ?_
  refine ar_nil ?_
  refine ag_false rfl (by rfl) ?_
  refine ag_skip ?_
  refine zB ?_
  refine pA ?_
  refine zA ?_
  refine zB ?_
  iterate 3 refine pA ?_
  refine pB ?_
  iterate 2 refine pA ?_
  refine ar_nil ?_
  refine ag_block ?_
  refine ag_unroll ?_
  refine zB ?_
  refine pA ?_
  refine zA ?_
  refine ag_false rfl (by decide) ?_
  refine ag_exit rfl ?_
  refine zB ?_
  iterate 2 refine pA ?_
  refine ar_nil ?_
  refine ag_ent (ent_weak (g' := [(2, .r .nil)]) (h' := rmE rv m) [0] rfl rfl rfl rfl ?_ ?_ rfl) ?_
  · exact ⟨⟨rfl, rfl⟩, trivial⟩
  · exact ⟨⟨rfl, rfl, rfl⟩, trivial⟩
  refine ag_ret tOk Try.func36 rfl rfl (by first | trivial | exact ⟨trivial, trivial⟩ | simp) ?_
  exact ⟨rfl, rfl⟩
theorem w_Asks1 (rv : RVal) (a : AskV) (t : Int)  : Spec Try.prog 36 [.ptr 0 0] (rm1 rv a t) (fun v h' => v = .r (.ro 1 (askC a)) ∧ h' = rm1 rv a t) := by
  refine spec_of_go (N := 26) Try.func36 rfl (by decide) rfl rfl ?_
  refine zB ?_
  refine pA ?_
  refine zA ?_
  refine zB ?_
  iterate 2 refine pA ?_
  refine ar_nil ?_
  refine ag_false rfl (by rfl) ?_
  refine ag_skip ?_
  refine zB ?_
  refine pA ?_
  refine zA ?_
  refine zB ?_
  iterate 3 refine pA ?_
  refine pB ?_
  iterate 2 refine pA ?_
  refine ar_nil ?_
  refine ag_block ?_
  refine ag_unroll ?_
  refine zB ?_
  refine pA ?_
  refine zA ?_
  refine ag_true rfl (by decide) ?_
  refine ag_skip ?_
  refine ag_seq ?_
  refine ag_block ?_
  refine zB ?_
  refine ar_pure tOk rfl rfl rfl ?_ ?_
  · decide
  refine pB ?_
  refine pA ?_
  refine ar_nil ?_
  refine ag_reg ?_
  iterate 4 refine pA ?_
  refine pB ?_
  refine ar_qd rfl (qop_buildRoK tOk (v := .ro 1 (askC a)) (by kernel_rfl) (by kernel_rfl)) rfl rfl rfl rfl ?_
  refine ar_app tOk rfl rfl rfl ?_ ?_
  · refine ⟨⟨?_, ?_, ?_⟩, ⟨?_, ?_⟩, ⟨?_, ?_⟩, ?_⟩ <;> first | trivial | omega | (simp; done) | (simp; omega)
  refine pA ?_
  refine ar_nil ?_
  refine ag_inBlock ?_
  refine ag_reg ?_
  refine ar_pure tOk rfl rfl rfl ?_ ?_
  · unfold inI64; decide
  refine pA ?_
  refine ar_nil ?_
  refine ag_again ?_
  refine zB ?_
  refine pA ?_
  refine zA ?_
  refine ag_false rfl (by decide) ?_
  refine ag_exit rfl ?_
  refine zB ?_
  iterate 2 refine pA ?_
  refine ar_nil ?_
  refine ag_ent (ent_freeze 2 rfl rfl rfl trivial) ?_
  refine ag_ent (ent_weak (g' := [(2, .r (.ro 1 (askC a)))]) (h' := rm1 rv a t) [0, 1, 2] rfl rfl rfl rfl ?_ ?_ rfl) ?_
  · exact ⟨⟨rfl, rfl⟩, trivial⟩
  · exact ⟨⟨rfl, rfl, rfl⟩, ⟨rfl, rfl, rfl⟩, ⟨rfl, rfl, rfl⟩, trivial⟩
  refine ag_ret tOk Try.func36 rfl rfl (by simp) ?_
  exact ⟨rfl, rfl⟩
end Go.Proofs.Ytnodpljgcdkbkaa


/-
  WALKS: auctions: who has no room; alive; AuctionNobody. (Printed by gen.py out of w_auc3.py.)
-/
import Derived.Test.YtnodpljgcdkbkaaAuc2
namespace Go.Proofs.Ytnodpljgcdkbkaa
open Go
set_option maxRecDepth 20000
set_option linter.unusedVariables false
set_option linter.unusedSimpArgs false
theorem w_BestN (a : AskV) (now d : Int)  : Pur Try.prog 33 [.r .nilp, askA a, .r (.int .i64 now), .r (.int .i64 d)] (.tuple [bidA bid0, .r (.bool false)]) := by
  refine spec_of_go (N := 66) Try.func33 rfl (by decide) rfl rfl ?_
  refine zB ?_
  refine ar_new tOk rfl rfl rfl trivial ?_
  refine ar_new tOk rfl rfl rfl ?_ ?_
  · simp
  refine pA ?_
  refine zC ?_
  refine pA ?_
  refine pB ?_
  refine ar_pur (w_findN a) rfl rfl rfl rfl rfl rfl rfl ?_
  refine pA ?_
  refine zA ?_
  refine ag_seq ?_
  refine ag_draw0 (by kernel_rfl) (by kernel_rfl) ?_
  iterate 3 refine aq_pure tOk rfl rfl rfl trivial ?_
  iterate 6 refine aq_skip rfl rfl rfl ?_
  iterate 2 refine aq_pure tOk rfl rfl rfl trivial ?_
  iterate 9 refine aq_skip rfl rfl rfl ?_
  refine aq_pure tOk rfl rfl rfl trivial ?_
  refine aq_nil rfl ?_
  refine ag_true rfl (by rfl) ?_
  refine zB ?_
  refine ar_pure tOk rfl rfl rfl ?_ ?_
  · simp
  refine ar_store (h' := ⟨2, [(1, some (.mixed ((bidC bid0).map .r))), (1, some (.mixed ((bidC bid0).map .r))), (0, some (.mixed ((askC a).map .r)))], false⟩) (c := True) tOk (by kernel_rfl) rfl rfl trivial ?_
  refine pA ?_
  refine ar_nil ?_
  refine ag_ret tOk Try.func33 rfl rfl (by first | trivial | exact ⟨trivial, trivial⟩ | simp) ?_
  rfl
theorem w_BestE (rv : RVal) (m : Bool) (a : AskV) (now d : Int)  : Spec Try.prog 33 [.ptr 0 0, askA a, .r (.int .i64 now), .r (.int .i64 d)] (rmE rv m) (fun v h' => v = .tuple [bidA bid0, .r (.bool false)] ∧ h' = rmE rv m) := by
  refine spec_of_go (N := 66) Try.func33 rfl (by decide) rfl rfl ?_
  refine zB ?_
  refine ar_new tOk rfl rfl rfl trivial ?_
  refine ar_new tOk rfl rfl rfl ?_ ?_
  · simp
  refine pA ?_
  refine zC ?_
  refine pA ?_
  refine pB ?_
  refine ar_qd rfl (qop_objR [0] (w_findE rv m a) (by rintro _ _ ⟨rfl, rfl⟩; exact ⟨rfl, rfl⟩) rfl rfl (handed_of rfl rfl (by decide) ⟨rfl, rfl, rfl, trivial⟩) rfl rfl) rfl rfl rfl rfl ?_
  refine pA ?_
  refine zA ?_
  refine ag_seq ?_
  refine ag_draw0 (by kernel_rfl) (by kernel_rfl) ?_
  iterate 3 refine aq_pure tOk rfl rfl rfl trivial ?_
  iterate 6 refine aq_skip rfl rfl rfl ?_
  iterate 2 refine aq_pure tOk rfl rfl rfl trivial ?_
  iterate 9 refine aq_skip rfl rfl rfl ?_
  refine aq_pure tOk rfl rfl rfl trivial ?_
  refine aq_nil rfl ?_
  refine ag_true rfl (by rfl) ?_
  refine zB ?_
  refine ar_pure tOk rfl rfl rfl ?_ ?_
  · simp
  refine ar_store (h' := ⟨3, [(2, some (.mixed ((bidC bid0).map .r))), (2, some (.mixed ((bidC bid0).map .r))), (1, some (.mixed ((askC a).map .r))), (0, some (.mixed [.r rv, .r .nil, .r (.bool m)]))], false⟩) (c := True) tOk (by kernel_rfl) rfl rfl trivial ?_
  refine pA ?_
  refine ar_nil ?_
  refine ag_retW (v := .tuple [bidA bid0, .r (.bool false)]) tOk Try.func33 rfl rfl (by first | trivial | exact ⟨trivial, trivial⟩ | simp) (ent_weak (g' := [(0, .tuple [bidA bid0, .r (.bool false)])]) (h' := rmE rv m) [0] rfl rfl rfl rfl ?_ ?_ rfl) ?_
  · exact ⟨⟨rfl, rfl⟩, trivial⟩
  · exact ⟨⟨rfl, rfl, rfl⟩, trivial⟩
  exact ⟨rfl, rfl⟩
theorem w_BidN (b : BidV) (now : Int)  : Pur Try.prog 35 [.r .nilp, bidA b, .r (.int .i64 now)] (.r (.bool false)) := by
  refine spec_of_go (N := 47) Try.func35 rfl (by decide) rfl rfl ?_
  refine zB ?_
  refine ar_new tOk rfl rfl rfl trivial ?_
  refine pA ?_
  refine zC ?_
  iterate 2 refine pA ?_
  refine pB ?_
  refine ar_pur (w_findN b.a) rfl rfl rfl rfl rfl rfl rfl ?_
  refine pA ?_
  refine zA ?_
  refine ag_seq ?_
  refine ag_draw0 (by kernel_rfl) (by kernel_rfl) ?_
  iterate 3 refine aq_pure tOk rfl rfl rfl trivial ?_
  iterate 4 refine aq_skip rfl rfl rfl ?_
  iterate 2 refine aq_pure tOk rfl rfl rfl trivial ?_
  iterate 6 refine aq_skip rfl rfl rfl ?_
  iterate 2 refine aq_pure tOk rfl rfl rfl trivial ?_
  iterate 7 refine aq_skip rfl rfl rfl ?_
  refine aq_pure tOk rfl rfl rfl trivial ?_
  refine aq_nil rfl ?_
  refine ag_true rfl (by rfl) ?_
  refine zB ?_
  refine pA ?_
  refine ar_nil ?_
  refine ag_ret tOk Try.func35 rfl rfl (by simp) ?_
  rfl
theorem w_BidE (rv : RVal) (m : Bool) (b : BidV) (now : Int)  : Spec Try.prog 35 [.ptr 0 0, bidA b, .r (.int .i64 now)] (rmE rv m) (fun v h' => v = .r (.bool false) ∧ h' = rmE rv m) := by
  refine spec_of_go (N := 47) Try.func35 rfl (by decide) rfl rfl ?_
  refine zB ?_
  refine ar_new tOk rfl rfl rfl trivial ?_
  refine pA ?_
  refine zC ?_
  iterate 2 refine pA ?_
  refine pB ?_
  refine ar_qd rfl (qop_objR [0] (w_findE rv m b.a) (by rintro _ _ ⟨rfl, rfl⟩; exact ⟨rfl, rfl⟩) rfl rfl (handed_of rfl rfl (by decide) ⟨rfl, rfl, rfl, trivial⟩) rfl rfl) rfl rfl rfl rfl ?_
  refine pA ?_
  refine zA ?_
  refine ag_seq ?_
  refine ag_draw0 (by kernel_rfl) (by kernel_rfl) ?_
  iterate 3 refine aq_pure tOk rfl rfl rfl trivial ?_
  iterate 4 refine aq_skip rfl rfl rfl ?_
  iterate 2 refine aq_pure tOk rfl rfl rfl trivial ?_
  iterate 6 refine aq_skip rfl rfl rfl ?_
  iterate 2 refine aq_pure tOk rfl rfl rfl trivial ?_
  iterate 7 refine aq_skip rfl rfl rfl ?_
  refine aq_pure tOk rfl rfl rfl trivial ?_
  refine aq_nil rfl ?_
  refine ag_true rfl (by rfl) ?_
  refine zB ?_
  refine pA ?_
  refine ar_nil ?_
  refine ag_ent (ent_weak (g' := [(6, .r (.bool false))]) (h' := rmE rv m) [0] rfl rfl rfl rfl ?_ ?_ rfl) ?_
  · exact ⟨⟨rfl, rfl⟩, trivial⟩
  · exact ⟨⟨rfl, rfl, rfl⟩, trivial⟩
  refine ag_ret tOk Try.func35 rfl rfl (by first | trivial | exact ⟨trivial, trivial⟩ | simp) ?_
  exact ⟨rfl, rfl⟩
end Go.Proofs.Ytnodpljgcdkbkaa


/-
  WALKS: auctions: alive; AuctionNobody. (Printed by gen.py out of w_auc4.py.)
-/
import Derived.Test.YtnodpljgcdkbkaaAuc3
namespace Go.Proofs.Ytnodpljgcdkbkaa
open Go
set_option maxRecDepth 20000
set_option linter.unusedVariables false
set_option linter.unusedSimpArgs false
def aX19 : AskV := ⟨0, 0, 0, 0, 5, 0, 0, 0, [120]⟩
theorem aX19_ok : askE aX19 = 0 := by decide
theorem w_alive19  : Pur Try.prog 38 [] (.r (.bool true)) := by
  refine spec_of_go (N := 28) Try.func38 rfl (by decide) rfl rfl ?_
  refine zB ?_
  refine pA ?_
  refine zC ?_
  refine ar_obj [] (w_New0) rfl rfl (handed_of rfl rfl (by decide) trivial) rfl rfl rfl rfl ?_
  rintro _ _ ⟨rfl, rfl⟩
  refine ⟨_, _, rfl, ?_⟩
  refine pA ?_
  refine zC ?_
  refine ar_pure tOk rfl rfl rfl ?_ ?_
  · simp
  refine ar_pure tOk rfl rfl rfl ?_ ?_
  · simp
  refine ar_new tOk rfl rfl rfl ?_ ?_
  · simp
  refine ar_store tOk rfl rfl rfl trivial ?_
  refine zC ?_
  refine pA ?_
  refine ar_qd rfl (qop_objR [0] (w_AsksE (.ro 0 []) true) (by rintro _ _ ⟨rfl, rfl⟩; exact ⟨rfl, rfl⟩) rfl rfl (handed_of rfl rfl (by decide) ⟨rfl, rfl, rfl, trivial⟩) rfl rfl) rfl rfl rfl rfl ?_
  iterate 3 refine pA ?_
  refine ar_ent (ent_reg 10 (.r (.bool true)) (by show AVal.r (.bool _) = _; exact eqB (by rfl))) ?_
  refine pA ?_
  refine pB ?_
  refine ar_obj [0] (w_OpenS (.ro 0 []) aX19 3 aX19_ok (by decide)) rfl rfl (handed_of rfl rfl (by decide) ⟨rfl, rfl, rfl, trivial⟩) rfl rfl rfl rfl ?_
  rintro _ _ ⟨rfl, rfl⟩
  refine ⟨_, _, rfl, ?_⟩
  refine ar_ent (ent_same (h' := ⟨4, [(0, some (.mixed [.r (.ro 0 []), .sl 2 0 1 1, .r (.bool true)])), (2, some (.mixed [.ptr 3 0])), (3, some (.mixed (entC aX19 3 (.r .nil)))), (1, some (.mixed ((askC aX19).map .r)))], false⟩) rfl rfl ⟨rfl, rfl, rfl, rfl, trivial⟩) ?_
  iterate 3 refine pA ?_
  refine ar_ent (ent_reg 16 (.r (.bool true)) (by show AVal.r (.bool _) = _; exact eqB (by rfl))) ?_
  refine pA ?_
  refine pB ?_
  refine ar_qd rfl (qop_objR [0, 2, 3] (w_Open2 (.ro 0 []) aX19 3 3 aX19_ok) (by rintro _ _ ⟨rfl, rfl⟩; exact ⟨rfl, rfl⟩) rfl rfl (handed_of rfl rfl (by decide) ⟨rfl, rfl, rfl, rfl, rfl, rfl, rfl, rfl, rfl, trivial⟩) rfl rfl) rfl rfl rfl rfl ?_
  iterate 3 refine pA ?_
  refine ar_ent (ent_reg 22 (.r (.bool true)) (by show AVal.r (.bool _) = _; exact eqB (by rfl))) ?_
  refine pA ?_
  refine ar_qd rfl (qop_objR [0, 2, 3] (w_Asks1 (.ro 0 []) aX19 3) (by rintro _ _ ⟨rfl, rfl⟩; exact ⟨rfl, rfl⟩) rfl rfl (handed_of rfl rfl (by decide) ⟨rfl, rfl, rfl, rfl, rfl, rfl, rfl, rfl, rfl, trivial⟩) rfl rfl) rfl rfl rfl rfl ?_
  iterate 4 refine pA ?_
  refine ar_nil ?_
  refine ag_ret tOk Try.func38 rfl rfl (by simp) ?_
  rfl
section
variable {P : Program} {T : TTab} {N ix j K : Nat} {ops : Array Oper} {o : Oper} {rest : List Oper} {g : Regs} {ld : List Nat} {Hs : Nat → Hp} {F : Regs → Prop}
theorem aq_qd1 {v : AVal} {t : Bool} {d : Nat} (hq : QOp P N (Hs 0) (Hs 0) o g v) (hq1 : QOp P N (Hs 1) (Hs 1) o g v) (hl : limAt ld ops ix = 1) (hg : guardB ops g o = some t) (ht : t = true) (hd : o.dst = some d) (hN : Nat.blt d N = true)
    (hk : QGo P N ld ops Hs K F rest (ix + 1) j ((d, v) :: g)) : QGo P N ld ops Hs K F (o :: rest) ix j g :=
  aq_quiet hg ht hd hN (fun i hi => by
    rw [hl] at hi
    rcases i with _ | i
    · exact hq
    · have : i = 0 := by omega
      subst this; exact hq1) hk
end
set_option maxHeartbeats 1000000 in
theorem w_AuctionNobody (b : BidV) (now : Int) : Pur Try.prog 8 [bidA b, .r (.int .i64 now)] (.r (.bool true)) := by
  refine spec_of_go (N := 71) Try.func8 rfl (by decide) rfl rfl ?_
  refine zB ?_
  refine ar_new tOk rfl rfl rfl trivial ?_
  refine pA ?_
  refine zC ?_
  refine pA ?_
  refine zC ?_
  refine pA ?_
  refine ar_pure tOk rfl rfl rfl ?_ ?_
  · simp
  refine ar_new tOk rfl rfl rfl trivial ?_
  refine ar_new tOk rfl rfl rfl ?_ ?_
  · simp
  refine pA ?_
  refine zA ?_
  refine zB ?_
  refine pA ?_
  refine ar_nil ?_
  refine ag_block ?_
  refine ag_unroll ?_
  iterate 2 refine ag_seq ?_
  refine ag_ent (ent_weak (g' := [(1, .r (.int .i64 now)), (2, .ptr 0 0), (6, .sl 2 0 2 1), (7, .r (.int .i64 0))]) (h' := ⟨3, [(0, some (.mixed ((bidC b).map .r))), (1, some (.mixed [.r .nil, .r .nil, .r (.bool false)])), (2, some (.mixed [.r .nilp, .ptr 1 0]))], false⟩) [0, 1, 2] rfl rfl rfl rfl ?_ ?_ rfl) ?_
  · exact ⟨⟨rfl, rfl⟩, ⟨rfl, rfl⟩, ⟨rfl, rfl⟩, ⟨rfl, rfl⟩, trivial⟩
  · exact ⟨⟨rfl, rfl, rfl⟩, ⟨rfl, rfl, rfl⟩, ⟨rfl, rfl, rfl⟩, trivial⟩
  refine ag_reg ?_
  iterate 4 refine pA ?_
  refine ar_nil ?_
  refine ag_true rfl (by decide) ?_
  refine ag_skip ?_
  refine ag_seq ?_
  refine ag_block ?_
  refine ag_seq ?_
  refine ag_draw (Hs := hsL [⟨3, [(0, some (.mixed ((bidC b).map .r))), (1, some (.mixed [.r .nil, .r .nil, .r (.bool false)])), (2, some (.mixed [.r .nilp, .ptr 1 0]))], false⟩, ⟨4, [(3, some (.mixed ((bidC bid0).map .r))), (0, some (.mixed ((bidC b).map .r))), (1, some (.mixed [.r .nil, .r .nil, .r (.bool false)])), (2, some (.mixed [.r .nilp, .ptr 1 0]))], false⟩, ⟨4, [(3, some (.mixed ((bidC bid0).map .r))), (3, some (.mixed ((bidC bid0).map .r))), (0, some (.mixed ((bidC b).map .r))), (1, some (.mixed [.r .nil, .r .nil, .r (.bool false)])), (2, some (.mixed [.r .nilp, .ptr 1 0]))], false⟩]) (K := 2) [8] (by kernel_rfl) (by kernel_rfl) ?_
  iterate 2 refine aq_pure tOk rfl rfl rfl trivial ?_
  refine aq_pure tOk rfl rfl rfl ?_ ?_
  · decide
  refine aq_load1 tOk rfl (by kernel_rfl) rfl rfl rfl rfl trivial ⟨_, rfl, trivial⟩ ?_
  refine aq_pure tOk rfl rfl rfl trivial ?_
  refine aq_load1 tOk rfl (by kernel_rfl) rfl rfl rfl rfl trivial ⟨_, rfl, trivial⟩ ?_
  refine aq_pure tOk rfl rfl rfl trivial ?_
  refine aq_pur (w_BestN b.a now 1) rfl rfl rfl rfl rfl rfl rfl ?_
  iterate 3 refine aq_pure tOk rfl rfl rfl trivial ?_
  refine aq_new tOk rfl rfl rfl rfl rfl rfl ?_ ?_
  · simp
  refine aq_store tOk rfl rfl rfl rfl rfl trivial ?_
  refine aq_pure tOk rfl rfl rfl trivial ?_
  refine aq_nil rfl ?_
  refine ag_ent (ent_weak (g' := [(1, .r (.int .i64 now)), (2, .ptr 0 0), (6, .sl 2 0 2 1), (7, .r (.int .i64 0)), (9, .r (.bool false))]) (h' := ⟨3, [(0, some (.mixed ((bidC b).map .r))), (1, some (.mixed [.r .nil, .r .nil, .r (.bool false)])), (2, some (.mixed [.r .nilp, .ptr 1 0]))], false⟩) [0, 1, 2] rfl rfl rfl rfl ?_ ?_ rfl) ?_
  · exact ⟨⟨rfl, rfl⟩, ⟨rfl, rfl⟩, ⟨rfl, rfl⟩, ⟨rfl, rfl⟩, ⟨rfl, rfl⟩, trivial⟩
  · exact ⟨⟨rfl, rfl, rfl⟩, ⟨rfl, rfl, rfl⟩, ⟨rfl, rfl, rfl⟩, trivial⟩
  refine ag_seq ?_
  refine ag_draw0 (by kernel_rfl) (by kernel_rfl) ?_
  iterate 2 refine aq_pure tOk rfl rfl rfl trivial ?_
  refine aq_pure tOk rfl rfl rfl ?_ ?_
  · decide
  refine aq_load0 tOk rfl (by kernel_rfl) rfl rfl trivial ?_
  refine aq_pure tOk rfl rfl rfl trivial ?_
  refine aq_load0 tOk rfl (by kernel_rfl) rfl rfl trivial ?_
  refine aq_pure tOk rfl rfl rfl trivial ?_
  refine aq_pur (w_OpenN b.a now) rfl rfl rfl rfl rfl rfl rfl ?_
  iterate 4 refine aq_pure tOk rfl rfl rfl trivial ?_
  refine aq_pure tOk rfl rfl rfl ?_ ?_
  · decide
  iterate 2 refine aq_load0 tOk rfl (by kernel_rfl) rfl rfl trivial ?_
  refine aq_pure tOk rfl rfl rfl trivial ?_
  refine aq_pur (w_BidN b now) rfl rfl rfl rfl rfl rfl rfl ?_
  iterate 7 refine aq_pure tOk rfl rfl rfl trivial ?_
  refine aq_pure tOk rfl rfl rfl ?_ ?_
  · decide
  refine aq_load0 tOk rfl (by kernel_rfl) rfl rfl trivial ?_
  refine aq_pur (w_AsksN) rfl rfl rfl rfl rfl rfl rfl ?_
  iterate 3 refine aq_pure tOk rfl rfl rfl trivial ?_
  refine aq_pure tOk rfl rfl rfl ?_ ?_
  · decide
  refine aq_load0 tOk rfl (by kernel_rfl) rfl rfl trivial ?_
  refine aq_pure tOk rfl rfl rfl trivial ?_
  refine aq_load0 tOk rfl (by kernel_rfl) rfl rfl trivial ?_
  refine aq_pur (w_BidsN b.a) rfl rfl rfl rfl rfl rfl rfl ?_
  refine aq_pure tOk rfl rfl rfl trivial ?_
  refine aq_pure tOk rfl rfl rfl ?_ ?_
  · unfold inI64; decide
  iterate 2 refine aq_pure tOk rfl rfl rfl trivial ?_
  refine aq_nil rfl ?_
  refine ag_false rfl (by rfl) ?_
  refine ag_skip ?_
  refine ag_inBlock ?_
  refine ag_reg ?_
  refine pA ?_
  refine ar_pure tOk rfl rfl rfl ?_ ?_
  · unfold inI64; decide
  refine pA ?_
  refine ar_nil ?_
  refine ag_again ?_
  iterate 2 refine ag_seq ?_
  refine ag_ent (ent_weak (g' := [(1, .r (.int .i64 now)), (2, .ptr 0 0), (6, .sl 2 0 2 1), (7, .r (.int .i64 1))]) (h' := ⟨3, [(0, some (.mixed ((bidC b).map .r))), (1, some (.mixed [.r .nil, .r .nil, .r (.bool false)])), (2, some (.mixed [.r .nilp, .ptr 1 0]))], false⟩) [0, 1, 2] rfl rfl rfl rfl ?_ ?_ rfl) ?_
  · exact ⟨⟨rfl, rfl⟩, ⟨rfl, rfl⟩, ⟨rfl, rfl⟩, ⟨rfl, rfl⟩, trivial⟩
  · exact ⟨⟨rfl, rfl, rfl⟩, ⟨rfl, rfl, rfl⟩, ⟨rfl, rfl, rfl⟩, trivial⟩
  refine ag_reg ?_
  iterate 4 refine pA ?_
  refine ar_nil ?_
  refine ag_true rfl (by decide) ?_
  refine ag_skip ?_
  refine ag_seq ?_
  refine ag_block ?_
  refine ag_seq ?_
  refine ag_draw (Hs := hsL [⟨3, [(0, some (.mixed ((bidC b).map .r))), (1, some (.mixed [.r .nil, .r .nil, .r (.bool false)])), (2, some (.mixed [.r .nilp, .ptr 1 0]))], false⟩, ⟨4, [(3, some (.mixed ((bidC bid0).map .r))), (0, some (.mixed ((bidC b).map .r))), (1, some (.mixed [.r .nil, .r .nil, .r (.bool false)])), (2, some (.mixed [.r .nilp, .ptr 1 0]))], false⟩, ⟨4, [(3, some (.mixed ((bidC bid0).map .r))), (3, some (.mixed ((bidC bid0).map .r))), (0, some (.mixed ((bidC b).map .r))), (1, some (.mixed [.r .nil, .r .nil, .r (.bool false)])), (2, some (.mixed [.r .nilp, .ptr 1 0]))], false⟩]) (K := 2) [8] (by kernel_rfl) (by kernel_rfl) ?_
  iterate 2 refine aq_pure tOk rfl rfl rfl trivial ?_
  refine aq_pure tOk rfl rfl rfl ?_ ?_
  · decide
  refine aq_load1 tOk rfl (by kernel_rfl) rfl rfl rfl rfl trivial ⟨_, rfl, trivial⟩ ?_
  refine aq_pure tOk rfl rfl rfl trivial ?_
  refine aq_load1 tOk rfl (by kernel_rfl) rfl rfl rfl rfl trivial ⟨_, rfl, trivial⟩ ?_
  refine aq_pure tOk rfl rfl rfl trivial ?_
  refine aq_qd1 (qop_objR [1] (w_BestE .nil false b.a now 1) (by rintro _ _ ⟨rfl, rfl⟩; exact ⟨rfl, rfl⟩) rfl rfl (handed_of rfl rfl (by decide) ⟨rfl, rfl, rfl, trivial⟩) rfl rfl) (qop_objR [1] (w_BestE .nil false b.a now 1) (by rintro _ _ ⟨rfl, rfl⟩; exact ⟨rfl, rfl⟩) rfl rfl (handed_of rfl rfl (by decide) ⟨rfl, rfl, rfl, trivial⟩) rfl rfl) (by kernel_rfl) rfl rfl rfl rfl ?_
  iterate 3 refine aq_pure tOk rfl rfl rfl trivial ?_
  refine aq_new tOk rfl rfl rfl rfl rfl rfl ?_ ?_
  · simp
  refine aq_store tOk rfl rfl rfl rfl rfl trivial ?_
  refine aq_pure tOk rfl rfl rfl trivial ?_
  refine aq_nil rfl ?_
  refine ag_ent (ent_weak (g' := [(1, .r (.int .i64 now)), (2, .ptr 0 0), (6, .sl 2 0 2 1), (7, .r (.int .i64 1)), (9, .r (.bool false))]) (h' := ⟨3, [(0, some (.mixed ((bidC b).map .r))), (1, some (.mixed [.r .nil, .r .nil, .r (.bool false)])), (2, some (.mixed [.r .nilp, .ptr 1 0]))], false⟩) [0, 1, 2] rfl rfl rfl rfl ?_ ?_ rfl) ?_
  · exact ⟨⟨rfl, rfl⟩, ⟨rfl, rfl⟩, ⟨rfl, rfl⟩, ⟨rfl, rfl⟩, ⟨rfl, rfl⟩, trivial⟩
  · exact ⟨⟨rfl, rfl, rfl⟩, ⟨rfl, rfl, rfl⟩, ⟨rfl, rfl, rfl⟩, trivial⟩
  refine ag_seq ?_
  refine ag_draw0 (by kernel_rfl) (by kernel_rfl) ?_
  iterate 2 refine aq_pure tOk rfl rfl rfl trivial ?_
  refine aq_pure tOk rfl rfl rfl ?_ ?_
  · decide
  refine aq_load0 tOk rfl (by kernel_rfl) rfl rfl trivial ?_
  refine aq_pure tOk rfl rfl rfl trivial ?_
  refine aq_load0 tOk rfl (by kernel_rfl) rfl rfl trivial ?_
  refine aq_pure tOk rfl rfl rfl trivial ?_
  refine aq_qd0 (qop_objR [1] (w_OpenZ b.a now) (by rintro _ _ ⟨rfl, rfl⟩; exact ⟨rfl, rfl⟩) rfl rfl (handed_of rfl rfl (by decide) ⟨rfl, rfl, rfl, trivial⟩) rfl rfl) (by kernel_rfl) rfl rfl rfl rfl ?_
  iterate 4 refine aq_pure tOk rfl rfl rfl trivial ?_
  refine aq_pure tOk rfl rfl rfl ?_ ?_
  · decide
  iterate 2 refine aq_load0 tOk rfl (by kernel_rfl) rfl rfl trivial ?_
  refine aq_pure tOk rfl rfl rfl trivial ?_
  refine aq_qd0 (qop_objR [1] (w_BidE .nil false b now) (by rintro _ _ ⟨rfl, rfl⟩; exact ⟨rfl, rfl⟩) rfl rfl (handed_of rfl rfl (by decide) ⟨rfl, rfl, rfl, trivial⟩) rfl rfl) (by kernel_rfl) rfl rfl rfl rfl ?_
  iterate 7 refine aq_pure tOk rfl rfl rfl trivial ?_
  refine aq_pure tOk rfl rfl rfl ?_ ?_
  · decide
  refine aq_load0 tOk rfl (by kernel_rfl) rfl rfl trivial ?_
  refine aq_qd0 (qop_objR [1] (w_AsksE .nil false) (by rintro _ _ ⟨rfl, rfl⟩; exact ⟨rfl, rfl⟩) rfl rfl (handed_of rfl rfl (by decide) ⟨rfl, rfl, rfl, trivial⟩) rfl rfl) (by kernel_rfl) rfl rfl rfl rfl ?_
  iterate 3 refine aq_pure tOk rfl rfl rfl trivial ?_
  refine aq_pure tOk rfl rfl rfl ?_ ?_
  · decide
  refine aq_load0 tOk rfl (by kernel_rfl) rfl rfl trivial ?_
  refine aq_pure tOk rfl rfl rfl trivial ?_
  refine aq_load0 tOk rfl (by kernel_rfl) rfl rfl trivial ?_
  refine aq_qd0 (qop_objR [1] (w_BidsE .nil false b.a) (by rintro _ _ ⟨rfl, rfl⟩; exact ⟨rfl, rfl⟩) rfl rfl (handed_of rfl rfl (by decide) ⟨rfl, rfl, rfl, trivial⟩) rfl rfl) (by kernel_rfl) rfl rfl rfl rfl ?_
  refine aq_pure tOk rfl rfl rfl trivial ?_
  refine aq_pure tOk rfl rfl rfl ?_ ?_
  · unfold inI64; decide
  iterate 2 refine aq_pure tOk rfl rfl rfl trivial ?_
  refine aq_nil rfl ?_
  refine ag_false rfl (by rfl) ?_
  refine ag_skip ?_
  refine ag_inBlock ?_
  refine ag_reg ?_
  refine pA ?_
  refine ar_pure tOk rfl rfl rfl ?_ ?_
  · unfold inI64; decide
  refine pA ?_
  refine ar_nil ?_
  refine ag_again ?_
  iterate 2 refine ag_seq ?_
  refine ag_ent (ent_weak (g' := [(1, .r (.int .i64 now)), (2, .ptr 0 0), (6, .sl 2 0 2 1), (7, .r (.int .i64 2))]) (h' := ⟨3, [(0, some (.mixed ((bidC b).map .r))), (1, some (.mixed [.r .nil, .r .nil, .r (.bool false)])), (2, some (.mixed [.r .nilp, .ptr 1 0]))], false⟩) [0, 1, 2] rfl rfl rfl rfl ?_ ?_ rfl) ?_
  · exact ⟨⟨rfl, rfl⟩, ⟨rfl, rfl⟩, ⟨rfl, rfl⟩, ⟨rfl, rfl⟩, trivial⟩
  · exact ⟨⟨rfl, rfl, rfl⟩, ⟨rfl, rfl, rfl⟩, ⟨rfl, rfl, rfl⟩, trivial⟩
  refine ag_reg ?_
  iterate 4 refine pA ?_
  refine ar_nil ?_
  refine ag_false rfl (by decide) ?_
  refine ag_exit rfl ?_
  refine zB ?_
  refine ar_pur (w_alive19) rfl rfl rfl rfl rfl rfl rfl ?_
  refine pA ?_
  refine ar_nil ?_
  refine ag_ret tOk Try.func8 rfl rfl (by simp) ?_
  rfl
end Go.Proofs.Ytnodpljgcdkbkaa


/-
  WALKS: auctions: Best. (Printed by gen.py out of w_auc6.py.)
-/
import Derived.Test.YtnodpljgcdkbkaaAuc5
namespace Go.Proofs.Ytnodpljgcdkbkaa
open Go
set_option maxRecDepth 20000
set_option linter.unusedVariables false
set_option linter.unusedSimpArgs false
theorem w_Window (d : Int) : Pur Try.prog 88 [.r (.int .i64 d)] (.r (.int .i64 1)) := by
  refine spec_of_go (N := 3) Try.func88 rfl (by decide) rfl rfl ?_
  refine zB ?_
  refine pA ?_
  refine zC ?_
  refine pA ?_
  refine ar_nil ?_
  refine ag_ret tOk Try.func88 rfl rfl (by simp) ?_
  rfl
theorem w_Best1A (R S : List UInt8) (a : AskV) (now : Int) (hl : now < 1) : Spec Try.prog 33 [.ptr 0 0, askA a, .r (.int .i64 now), .r (.int .i64 1)] (rm1 (rvT R S) a 1) (fun v h' => v = .tuple [bidA bid0, .r (.bool false)] ∧ h' = rm1 (rvT R S) a 1) := by
  refine spec_of_go (N := 66) Try.func33 rfl (by decide) rfl rfl ?_
  refine zB ?_
  refine ar_new tOk rfl rfl rfl trivial ?_
  refine ar_new tOk rfl rfl rfl ?_ ?_
  · simp
  refine pA ?_
  refine zC ?_
  refine pA ?_
  refine pB ?_
  refine ar_obj [0, 1, 2] (w_find1 (rvT R S) a 1) rfl rfl (handed_of rfl rfl (by decide) ⟨rfl, rfl, rfl, rfl, rfl, rfl, rfl, rfl, rfl, trivial⟩) rfl rfl rfl rfl ?_
  rintro _ _ ⟨rfl, rfl⟩
  refine ⟨_, _, rfl, ?_⟩
  refine ar_ent (ent_same (h' := ⟨5, [(0, some (.mixed [.r (rvT R S), .sl 1 0 1 1, .r (.bool true)])), (1, some (.mixed [.ptr 2 0])), (2, some (.mixed (entC a 1 (.r .nil)))), (3, some (.mixed ((askC a).map .r))), (4, some (.mixed ((bidC bid0).map .r)))], false⟩) rfl rfl ⟨rfl, rfl, rfl, rfl, rfl, trivial⟩) ?_
  refine pA ?_
  refine zA ?_
  refine ag_seq ?_
  refine ag_draw0 (by kernel_rfl) (by kernel_rfl) ?_
  iterate 7 refine aq_pure tOk rfl rfl rfl trivial ?_
  refine aq_load0 tOk rfl (by kernel_rfl) rfl rfl trivial ?_
  refine aq_pureE tOk (.r (.bool true)) rfl (by show AVal.r (.bool _) = _; exact eqB (decide_eq_true hl)) rfl (by rfl) trivial ?_
  iterate 2 refine aq_pure tOk rfl rfl rfl trivial ?_
  iterate 9 refine aq_skip rfl rfl rfl ?_
  refine aq_pure tOk rfl rfl rfl trivial ?_
  refine aq_nil rfl ?_
  refine ag_true rfl (by rfl) ?_
  refine zB ?_
  refine ar_pure tOk rfl rfl rfl ?_ ?_
  · simp
  refine ar_store tOk rfl rfl rfl trivial ?_
  refine pA ?_
  refine ar_nil ?_
  refine ag_retW (v := .tuple [bidA bid0, .r (.bool false)]) tOk Try.func33 rfl rfl (by first | trivial | exact ⟨trivial, trivial⟩ | simp) (ent_weak (g' := [(0, .tuple [bidA bid0, .r (.bool false)])]) (h' := rm1 (rvT R S) a 1) [0, 1, 2] rfl rfl rfl rfl ?_ ?_ rfl) ?_
  · exact ⟨⟨rfl, rfl⟩, trivial⟩
  · exact ⟨⟨rfl, rfl, rfl⟩, ⟨rfl, rfl, rfl⟩, ⟨rfl, rfl, rfl⟩, trivial⟩
  exact ⟨rfl, rfl⟩
theorem w_Best1B (R S : List UInt8) (a : AskV) (now : Int) (hl : now = 1) : Spec Try.prog 33 [.ptr 0 0, askA a, .r (.int .i64 now), .r (.int .i64 1)] (rm1 (rvT R S) a 1) (fun v h' => v = .tuple [bidA bid0, .r (.bool false)] ∧ h' = rm1 (rvT R S) a 1) := by
  refine spec_of_go (N := 66) Try.func33 rfl (by decide) rfl rfl ?_
  refine zB ?_
  refine ar_new tOk rfl rfl rfl trivial ?_
  refine ar_new tOk rfl rfl rfl ?_ ?_
  · simp
  refine pA ?_
  refine zC ?_
  refine pA ?_
  refine pB ?_
  refine ar_obj [0, 1, 2] (w_find1 (rvT R S) a 1) rfl rfl (handed_of rfl rfl (by decide) ⟨rfl, rfl, rfl, rfl, rfl, rfl, rfl, rfl, rfl, trivial⟩) rfl rfl rfl rfl ?_
  rintro _ _ ⟨rfl, rfl⟩
  refine ⟨_, _, rfl, ?_⟩
  refine ar_ent (ent_same (h' := ⟨5, [(0, some (.mixed [.r (rvT R S), .sl 1 0 1 1, .r (.bool true)])), (1, some (.mixed [.ptr 2 0])), (2, some (.mixed (entC a 1 (.r .nil)))), (3, some (.mixed ((askC a).map .r))), (4, some (.mixed ((bidC bid0).map .r)))], false⟩) rfl rfl ⟨rfl, rfl, rfl, rfl, rfl, trivial⟩) ?_
  refine pA ?_
  refine zA ?_
  refine ag_seq ?_
  refine ag_draw0 (by kernel_rfl) (by kernel_rfl) ?_
  iterate 7 refine aq_pure tOk rfl rfl rfl trivial ?_
  refine aq_load0 tOk rfl (by kernel_rfl) rfl rfl trivial ?_
  refine aq_pureE tOk (.r (.bool false)) rfl (by show AVal.r (.bool _) = _; exact eqB (decide_eq_false (by omega))) rfl (by rfl) trivial ?_
  iterate 6 refine aq_pure tOk rfl rfl rfl trivial ?_
  refine aq_load0 tOk rfl (by kernel_rfl) rfl rfl trivial ?_
  refine aq_pure tOk rfl rfl rfl ?_ ?_
  · unfold inI64; omega
  refine aq_pure tOk rfl rfl rfl trivial ?_
  refine aq_pur (w_Window 1) rfl rfl rfl rfl rfl rfl rfl ?_
  refine aq_pureE tOk (.r (.bool true)) rfl (by show AVal.r (.bool _) = _; exact eqB (decide_eq_true (by omega))) rfl (by rfl) trivial ?_
  refine aq_pure tOk rfl rfl rfl trivial ?_
  refine aq_nil rfl ?_
  refine ag_true rfl (by rfl) ?_
  refine zB ?_
  refine ar_pure tOk rfl rfl rfl ?_ ?_
  · simp
  refine ar_store tOk rfl rfl rfl trivial ?_
  refine pA ?_
  refine ar_nil ?_
  refine ag_retW (v := .tuple [bidA bid0, .r (.bool false)]) tOk Try.func33 rfl rfl (by first | trivial | exact ⟨trivial, trivial⟩ | simp) (ent_weak (g' := [(0, .tuple [bidA bid0, .r (.bool false)])]) (h' := rm1 (rvT R S) a 1) [0, 1, 2] rfl rfl rfl rfl ?_ ?_ rfl) ?_
  · exact ⟨⟨rfl, rfl⟩, trivial⟩
  · exact ⟨⟨rfl, rfl, rfl⟩, ⟨rfl, rfl, rfl⟩, ⟨rfl, rfl, rfl⟩, trivial⟩
  exact ⟨rfl, rfl⟩
theorem w_Best2A (R S : List UInt8) (a : AskV) (L : List BidV) (now : Int) (hl : now < 1) : Spec Try.prog 33 [.ptr 0 0, askA a, .r (.int .i64 now), .r (.int .i64 1)] (rm2 (rvT R S) a 1 L) (fun v h' => v = .tuple [bidA bid0, .r (.bool false)] ∧ h' = rm2 (rvT R S) a 1 L) := by
  refine spec_of_go (N := 66) Try.func33 rfl (by decide) rfl rfl ?_
  refine zB ?_
  refine ar_new tOk rfl rfl rfl trivial ?_
  refine ar_new tOk rfl rfl rfl ?_ ?_
  · simp
  refine pA ?_
  refine zC ?_
  refine pA ?_
  refine pB ?_
  refine ar_obj [0, 1, 2, 3] (w_find2 (rvT R S) a 1 L) rfl rfl (handed_of rfl rfl (by decide) ⟨rfl, rfl, rfl, rfl, rfl, rfl, rfl, rfl, rfl, rfl, rfl, rfl, trivial⟩) rfl rfl rfl rfl ?_
  rintro _ _ ⟨rfl, rfl⟩
  refine ⟨_, _, rfl, ?_⟩
  refine ar_ent (ent_same (h' := ⟨6, [(0, some (.mixed [.r (rvT R S), .sl 1 0 1 1, .r (.bool true)])), (1, some (.mixed [.ptr 2 0])), (2, some (.mixed (entC a 1 (.sl 3 0 L.length 16)))), (3, some (.plain (bidsC L))), (4, some (.mixed ((askC a).map .r))), (5, some (.mixed ((bidC bid0).map .r)))], false⟩) rfl rfl ⟨rfl, rfl, rfl, rfl, rfl, rfl, trivial⟩) ?_
  refine pA ?_
  refine zA ?_
  refine ag_seq ?_
  refine ag_draw0 (by kernel_rfl) (by kernel_rfl) ?_
  iterate 7 refine aq_pure tOk rfl rfl rfl trivial ?_
  refine aq_load0 tOk rfl (by kernel_rfl) rfl rfl trivial ?_
  refine aq_pureE tOk (.r (.bool true)) rfl (by show AVal.r (.bool _) = _; exact eqB (decide_eq_true hl)) rfl (by rfl) trivial ?_
  iterate 2 refine aq_pure tOk rfl rfl rfl trivial ?_
  iterate 9 refine aq_skip rfl rfl rfl ?_
  refine aq_pure tOk rfl rfl rfl trivial ?_
  refine aq_nil rfl ?_
  refine ag_true rfl (by rfl) ?_
  refine zB ?_
  refine ar_pure tOk rfl rfl rfl ?_ ?_
  · simp
  refine ar_store tOk rfl rfl rfl trivial ?_
  refine pA ?_
  refine ar_nil ?_
  refine ag_retW (v := .tuple [bidA bid0, .r (.bool false)]) tOk Try.func33 rfl rfl (by first | trivial | exact ⟨trivial, trivial⟩ | simp) (ent_weak (g' := [(0, .tuple [bidA bid0, .r (.bool false)])]) (h' := rm2 (rvT R S) a 1 L) [0, 1, 2, 3] rfl rfl rfl rfl ?_ ?_ rfl) ?_
  · exact ⟨⟨rfl, rfl⟩, trivial⟩
  · exact ⟨⟨rfl, rfl, rfl⟩, ⟨rfl, rfl, rfl⟩, ⟨rfl, rfl, rfl⟩, ⟨rfl, rfl, rfl⟩, trivial⟩
  exact ⟨rfl, rfl⟩
theorem w_Best2B (R S : List UInt8) (a : AskV) (L : List BidV) (now : Int) (hl : now = 1) : Spec Try.prog 33 [.ptr 0 0, askA a, .r (.int .i64 now), .r (.int .i64 1)] (rm2 (rvT R S) a 1 L) (fun v h' => v = .tuple [bidA bid0, .r (.bool false)] ∧ h' = rm2 (rvT R S) a 1 L) := by
  refine spec_of_go (N := 66) Try.func33 rfl (by decide) rfl rfl ?_
  refine zB ?_
  refine ar_new tOk rfl rfl rfl trivial ?_
  refine ar_new tOk rfl rfl rfl ?_ ?_
  · simp
  refine pA ?_
  refine zC ?_
  refine pA ?_
  refine pB ?_
  refine ar_obj [0, 1, 2, 3] (w_find2 (rvT R S) a 1 L) rfl rfl (handed_of rfl rfl (by decide) ⟨rfl, rfl, rfl, rfl, rfl, rfl, rfl, rfl, rfl, rfl, rfl, rfl, trivial⟩) rfl rfl rfl rfl ?_
  rintro _ _ ⟨rfl, rfl⟩
  refine ⟨_, _, rfl, ?_⟩
  refine ar_ent (ent_same (h' := ⟨6, [(0, some (.mixed [.r (rvT R S), .sl 1 0 1 1, .r (.bool true)])), (1, some (.mixed [.ptr 2 0])), (2, some (.mixed (entC a 1 (.sl 3 0 L.length 16)))), (3, some (.plain (bidsC L))), (4, some (.mixed ((askC a).map .r))), (5, some (.mixed ((bidC bid0).map .r)))], false⟩) rfl rfl ⟨rfl, rfl, rfl, rfl, rfl, rfl, trivial⟩) ?_
  refine pA ?_
  refine zA ?_
  refine ag_seq ?_
  refine ag_draw0 (by kernel_rfl) (by kernel_rfl) ?_
  iterate 7 refine aq_pure tOk rfl rfl rfl trivial ?_
  refine aq_load0 tOk rfl (by kernel_rfl) rfl rfl trivial ?_
  refine aq_pureE tOk (.r (.bool false)) rfl (by show AVal.r (.bool _) = _; exact eqB (decide_eq_false (by omega))) rfl (by rfl) trivial ?_
  iterate 6 refine aq_pure tOk rfl rfl rfl trivial ?_
  refine aq_load0 tOk rfl (by kernel_rfl) rfl rfl trivial ?_
  refine aq_pure tOk rfl rfl rfl ?_ ?_
  · unfold inI64; omega
  refine aq_pure tOk rfl rfl rfl trivial ?_
  refine aq_pur (w_Window 1) rfl rfl rfl rfl rfl rfl rfl ?_
  refine aq_pureE tOk (.r (.bool true)) rfl (by show AVal.r (.bool _) = _; exact eqB (decide_eq_true (by omega))) rfl (by rfl) trivial ?_
  refine aq_pure tOk rfl rfl rfl trivial ?_
  refine aq_nil rfl ?_
  refine ag_true rfl (by rfl) ?_
  refine zB ?_
  refine ar_pure tOk rfl rfl rfl ?_ ?_
  · simp
  refine ar_store tOk rfl rfl rfl trivial ?_
  refine pA ?_
  refine ar_nil ?_
  refine ag_retW (v := .tuple [bidA bid0, .r (.bool false)]) tOk Try.func33 rfl rfl (by first | trivial | exact ⟨trivial, trivial⟩ | simp) (ent_weak (g' := [(0, .tuple [bidA bid0, .r (.bool false)])]) (h' := rm2 (rvT R S) a 1 L) [0, 1, 2, 3] rfl rfl rfl rfl ?_ ?_ rfl) ?_
  · exact ⟨⟨rfl, rfl⟩, trivial⟩
  · exact ⟨⟨rfl, rfl, rfl⟩, ⟨rfl, rfl, rfl⟩, ⟨rfl, rfl, rfl⟩, ⟨rfl, rfl, rfl⟩, trivial⟩
  exact ⟨rfl, rfl⟩
theorem w_BestC0 (R S : List UInt8) (a : AskV) (now : Int) (hn : 1 < now ∧ now ≤ 9223372036854775807)  : Spec Try.prog 33 [.ptr 0 0, askA a, .r (.int .i64 now), .r (.int .i64 1)] (rm1 (rvT R S) a 1) (fun v h' => v = .tuple [bidA bid0, .r (.bool false)] ∧ h' = rm1 (rvT R S) a 1) := by
  refine spec_of_go (N := 66) Try.func33 rfl (by decide) rfl rfl ?_
  refine zB ?_
  refine ar_new tOk rfl rfl rfl trivial ?_
  refine ar_new tOk rfl rfl rfl ?_ ?_
  · simp
  refine pA ?_
  refine zC ?_
  refine pA ?_
  refine pB ?_
  refine ar_obj [0, 1, 2] (w_find1 (rvT R S) a 1) rfl rfl (handed_of rfl rfl (by decide) ⟨rfl, rfl, rfl, rfl, rfl, rfl, rfl, rfl, rfl, trivial⟩) rfl rfl rfl rfl ?_
  rintro _ _ ⟨rfl, rfl⟩
  refine ⟨_, _, rfl, ?_⟩
  refine ar_ent (ent_same (h' := ⟨5, [(0, some (.mixed [.r (rvT R S), .sl 1 0 1 1, .r (.bool true)])), (1, some (.mixed [.ptr 2 0])), (2, some (.mixed (entC a 1 (.r .nil)))), (3, some (.mixed ((askC a).map .r))), (4, some (.mixed ((bidC bid0).map .r)))], false⟩) rfl rfl ⟨rfl, rfl, rfl, rfl, rfl, trivial⟩) ?_
  refine pA ?_
  refine zA ?_
  refine ag_seq ?_
  refine ag_draw0 (by kernel_rfl) (by kernel_rfl) ?_
  iterate 7 refine aq_pure tOk rfl rfl rfl trivial ?_
  refine aq_load0 tOk rfl (by kernel_rfl) rfl rfl trivial ?_
  refine aq_pureE tOk (.r (.bool false)) rfl (by show AVal.r (.bool _) = _; exact eqB (decide_eq_false (by omega))) rfl (by rfl) trivial ?_
  iterate 6 refine aq_pure tOk rfl rfl rfl trivial ?_
  refine aq_load0 tOk rfl (by kernel_rfl) rfl rfl trivial ?_
  refine aq_pure tOk rfl rfl rfl ?_ ?_
  · unfold inI64; omega
  refine aq_pure tOk rfl rfl rfl trivial ?_
  refine aq_pur (w_Window 1) rfl rfl rfl rfl rfl rfl rfl ?_
  refine aq_pureE tOk (.r (.bool false)) rfl (by show AVal.r (.bool _) = _; exact eqB (decide_eq_false (by omega))) rfl (by rfl) trivial ?_
  refine aq_pure tOk rfl rfl rfl trivial ?_
  refine aq_nil rfl ?_
  refine ag_false rfl (by rfl) ?_
  refine ag_skip ?_
  refine zB ?_
  refine ar_new tOk rfl rfl rfl ?_ ?_
  · simp
  refine zC ?_
  refine pA ?_
  refine zA ?_
  refine zB ?_
  iterate 3 refine pA ?_
  refine pB ?_
  iterate 2 refine pA ?_
  refine ar_nil ?_
  refine ag_block ?_
  refine ag_unroll ?_
  refine zB ?_
  refine pA ?_
  refine zA ?_
  refine ag_false rfl (by first | decide | rfl) ?_
  refine ag_exit rfl ?_
  refine zB ?_
  refine pB ?_
  refine pA ?_
  refine ar_store tOk rfl rfl rfl trivial ?_
  refine pA ?_
  refine ar_nil ?_
  refine ag_retW (v := .tuple [bidA bid0, .r (.bool false)]) tOk Try.func33 rfl rfl (by first | trivial | exact ⟨trivial, trivial⟩ | simp) (ent_weak (g' := [(0, .tuple [bidA bid0, .r (.bool false)])]) (h' := rm1 (rvT R S) a 1) [0, 1, 2] rfl rfl rfl rfl ?_ ?_ rfl) ?_
  · exact ⟨⟨rfl, rfl⟩, trivial⟩
  · exact ⟨⟨rfl, rfl, rfl⟩, ⟨rfl, rfl, rfl⟩, ⟨rfl, rfl, rfl⟩, trivial⟩
  exact ⟨rfl, rfl⟩
theorem w_BestC1 (R S : List UInt8) (a : AskV) (now : Int) (hn : 1 < now ∧ now ≤ 9223372036854775807) (p : BidV) (hp : now ≤ p.e) : Spec Try.prog 33 [.ptr 0 0, askA a, .r (.int .i64 now), .r (.int .i64 1)] (rm2 (rvT R S) a 1 [p]) (fun v h' => v = .tuple [bidA p, .r (.bool true)] ∧ h' = rm2 (rvT R S) a 1 [p]) := by
  refine spec_of_go (N := 66) Try.func33 rfl (by decide) rfl rfl ?_
  refine zB ?_
  refine ar_new tOk rfl rfl rfl trivial ?_
  refine ar_new tOk rfl rfl rfl ?_ ?_
  · simp
  refine pA ?_
  refine zC ?_
  refine pA ?_
  refine pB ?_
  refine ar_obj [0, 1, 2, 3] (w_find2 (rvT R S) a 1 [p]) rfl rfl (handed_of rfl rfl (by decide) ⟨rfl, rfl, rfl, rfl, rfl, rfl, rfl, rfl, rfl, rfl, rfl, rfl, trivial⟩) rfl rfl rfl rfl ?_
  rintro _ _ ⟨rfl, rfl⟩
  refine ⟨_, _, rfl, ?_⟩
  refine ar_ent (ent_same (h' := ⟨6, [(0, some (.mixed [.r (rvT R S), .sl 1 0 1 1, .r (.bool true)])), (1, some (.mixed [.ptr 2 0])), (2, some (.mixed (entC a 1 (.sl 3 0 [p].length 16)))), (3, some (.plain (bidsC [p]))), (4, some (.mixed ((askC a).map .r))), (5, some (.mixed ((bidC bid0).map .r)))], false⟩) rfl rfl ⟨rfl, rfl, rfl, rfl, rfl, rfl, trivial⟩) ?_
  refine pA ?_
  refine zA ?_
  refine ag_seq ?_
  refine ag_draw0 (by kernel_rfl) (by kernel_rfl) ?_
  iterate 7 refine aq_pure tOk rfl rfl rfl trivial ?_
  refine aq_load0 tOk rfl (by kernel_rfl) rfl rfl trivial ?_
  refine aq_pureE tOk (.r (.bool false)) rfl (by show AVal.r (.bool _) = _; exact eqB (decide_eq_false (by omega))) rfl (by rfl) trivial ?_
  iterate 6 refine aq_pure tOk rfl rfl rfl trivial ?_
  refine aq_load0 tOk rfl (by kernel_rfl) rfl rfl trivial ?_
  refine aq_pure tOk rfl rfl rfl ?_ ?_
  · unfold inI64; omega
  refine aq_pure tOk rfl rfl rfl trivial ?_
  refine aq_pur (w_Window 1) rfl rfl rfl rfl rfl rfl rfl ?_
  refine aq_pureE tOk (.r (.bool false)) rfl (by show AVal.r (.bool _) = _; exact eqB (decide_eq_false (by omega))) rfl (by rfl) trivial ?_
  refine aq_pure tOk rfl rfl rfl trivial ?_
  refine aq_nil rfl ?_
  refine ag_false rfl (by rfl) ?_
  refine ag_skip ?_
  refine zB ?_
  refine ar_new tOk rfl rfl rfl ?_ ?_
  · simp
  refine zC ?_
  refine pA ?_
  refine zA ?_
  refine zB ?_
  iterate 3 refine pA ?_
  refine pB ?_
  iterate 2 refine pA ?_
  refine ar_nil ?_
  refine ag_block ?_
  refine ag_unroll ?_
  refine ag_seq ?_
  refine ag_ent (ent_weak (g' := [(2, .r (.int .i64 now)), (8, .ptr 4 0), (11, .ptr 5 0), (12, .r (.bool false)), (43, .sl 3 0 1 16), (44, .r (.int .i64 1)), (45, .r (.int .i64 0))]) (h' := ⟨6, [(0, some (.mixed [.r (rvT R S), .sl 1 0 1 1, .r (.bool true)])), (1, some (.mixed [.ptr 2 0])), (2, some (.mixed (entC a 1 (.sl 3 0 [p].length 16)))), (3, some (.plain (bidsC [p]))), (4, some (.mixed ((bidC bid0).map .r))), (5, some (.mixed ((bidC bid0).map .r)))], false⟩) [0, 1, 2, 3, 5, 6] rfl rfl rfl rfl ?_ ?_ rfl) ?_
  · exact ⟨⟨rfl, rfl⟩, ⟨rfl, rfl⟩, ⟨rfl, rfl⟩, ⟨rfl, rfl⟩, ⟨rfl, rfl⟩, ⟨rfl, rfl⟩, ⟨rfl, rfl⟩, trivial⟩
  · exact ⟨⟨rfl, rfl, rfl⟩, ⟨rfl, rfl, rfl⟩, ⟨rfl, rfl, rfl⟩, ⟨rfl, rfl, rfl⟩, ⟨rfl, rfl, rfl⟩, ⟨rfl, rfl, rfl⟩, trivial⟩
  refine ag_reg ?_
  refine pA ?_
  refine zA ?_
  refine ag_true rfl (by first | decide | rfl) ?_
  refine ag_skip ?_
  refine ag_seq ?_
  refine ag_block ?_
  refine zB ?_
  refine ar_pure tOk rfl rfl rfl ?_ ?_
  · refine ⟨?_, ?_⟩ <;> first | decide | (simp; done)
  refine ar_loadAs tOk (bidA p) rfl rfl rfl rfl rfl rfl rfl (.inr ⟨rfl, _, rfl, rfl, rfl⟩) ?_
  refine ar_new tOk rfl rfl rfl ?_ ?_
  · simp
  refine ar_store (h' := ⟨7, [(6, some (.mixed ((bidC p).map .r))), (6, some (.mixed ((bidC bid0).map .r))), (0, some (.mixed [.r (rvT R S), .sl 1 0 1 1, .r (.bool true)])), (1, some (.mixed [.ptr 2 0])), (2, some (.mixed (entC a 1 (.sl 3 0 [p].length 16)))), (3, some (.plain (bidsC [p]))), (4, some (.mixed ((bidC bid0).map .r))), (5, some (.mixed ((bidC bid0).map .r)))], false⟩) (c := True) tOk (by kernel_rfl) rfl rfl trivial ?_
  refine zC ?_
  iterate 2 refine pA ?_
  refine pB ?_
  iterate 2 refine pA ?_
  refine ar_ent (ent_reg 53 (.r (.bool true)) (by show AVal.r (.bool _) = _; exact eqB (decide_eq_true hp))) ?_
  iterate 3 refine pA ?_
  iterate 3 refine ar_skip rfl rfl rfl ?_
  iterate 2 refine pA ?_
  refine ar_nil ?_
  refine ag_true rfl (by rfl) ?_
  refine ag_reg ?_
  refine pB ?_
  refine ar_store (h' := ⟨7, [(5, some (.mixed ((bidC p).map .r))), (6, some (.mixed ((bidC p).map .r))), (6, some (.mixed ((bidC bid0).map .r))), (0, some (.mixed [.r (rvT R S), .sl 1 0 1 1, .r (.bool true)])), (1, some (.mixed [.ptr 2 0])), (2, some (.mixed (entC a 1 (.sl 3 0 [p].length 16)))), (3, some (.plain (bidsC [p]))), (4, some (.mixed ((bidC bid0).map .r))), (5, some (.mixed ((bidC bid0).map .r)))], false⟩) (c := True) tOk (by kernel_rfl) rfl rfl trivial ?_
  refine pA ?_
  refine ar_nil ?_
  refine ag_inBlock ?_
  refine ag_reg ?_
  refine ar_pure tOk rfl rfl rfl ?_ ?_
  · unfold inI64; decide
  refine pA ?_
  refine ar_nil ?_
  refine ag_again ?_
  refine ag_seq ?_
  refine ag_ent (ent_weak (g' := [(2, .r (.int .i64 now)), (8, .ptr 4 0), (11, .ptr 5 0), (12, .r (.bool true)), (43, .sl 3 0 1 16), (44, .r (.int .i64 1)), (45, .r (.int .i64 1))]) (h' := ⟨6, [(0, some (.mixed [.r (rvT R S), .sl 1 0 1 1, .r (.bool true)])), (1, some (.mixed [.ptr 2 0])), (2, some (.mixed (entC a 1 (.sl 3 0 [p].length 16)))), (3, some (.plain (bidsC [p]))), (4, some (.mixed ((bidC bid0).map .r))), (5, some (.mixed ((bidC p).map .r)))], false⟩) [0, 1, 2, 3, 4, 5] rfl rfl rfl rfl ?_ ?_ rfl) ?_
  · exact ⟨⟨rfl, rfl⟩, ⟨rfl, rfl⟩, ⟨rfl, rfl⟩, ⟨rfl, rfl⟩, ⟨rfl, rfl⟩, ⟨rfl, rfl⟩, ⟨rfl, rfl⟩, trivial⟩
  · exact ⟨⟨rfl, rfl, rfl⟩, ⟨rfl, rfl, rfl⟩, ⟨rfl, rfl, rfl⟩, ⟨rfl, rfl, rfl⟩, ⟨rfl, rfl, rfl⟩, ⟨rfl, rfl, rfl⟩, trivial⟩
  refine ag_reg ?_
  refine pA ?_
  refine zA ?_
  refine ag_false rfl (by first | decide | rfl) ?_
  refine ag_exit rfl ?_
  refine zB ?_
  refine pB ?_
  refine pA ?_
  refine ar_store (h' := ⟨6, [(4, some (.mixed ((bidC p).map .r))), (0, some (.mixed [.r (rvT R S), .sl 1 0 1 1, .r (.bool true)])), (1, some (.mixed [.ptr 2 0])), (2, some (.mixed (entC a 1 (.sl 3 0 [p].length 16)))), (3, some (.plain (bidsC [p]))), (4, some (.mixed ((bidC bid0).map .r))), (5, some (.mixed ((bidC p).map .r)))], false⟩) (c := True) tOk (by kernel_rfl) rfl rfl trivial ?_
  refine pA ?_
  refine ar_nil ?_
  refine ag_retW (v := .tuple [bidA p, .r (.bool true)]) tOk Try.func33 rfl rfl (by first | trivial | exact ⟨trivial, trivial⟩ | simp) (ent_weak (g' := [(0, .tuple [bidA p, .r (.bool true)])]) (h' := rm2 (rvT R S) a 1 [p]) [0, 1, 2, 3] rfl rfl rfl rfl ?_ ?_ rfl) ?_
  · exact ⟨⟨rfl, rfl⟩, trivial⟩
  · exact ⟨⟨rfl, rfl, rfl⟩, ⟨rfl, rfl, rfl⟩, ⟨rfl, rfl, rfl⟩, ⟨rfl, rfl, rfl⟩, trivial⟩
  exact ⟨rfl, rfl⟩
theorem w_BestC2T (R S : List UInt8) (a : AskV) (now : Int) (hn : 1 < now ∧ now ≤ 9223372036854775807) (p q : BidV) (hp : now ≤ p.e) (hq : now ≤ q.e) (hb : betV q p = true) : Spec Try.prog 33 [.ptr 0 0, askA a, .r (.int .i64 now), .r (.int .i64 1)] (rm2 (rvT R S) a 1 [p, q]) (fun v h' => v = .tuple [bidA q, .r (.bool true)] ∧ h' = rm2 (rvT R S) a 1 [p, q]) := by
  have cB := w_bBetter q p
  rw [hb] at cB
  refine spec_of_go (N := 66) Try.func33 rfl (by decide) rfl rfl ?_
  refine zB ?_
  refine ar_new tOk rfl rfl rfl trivial ?_
  refine ar_new tOk rfl rfl rfl ?_ ?_
  · simp
  refine pA ?_
  refine zC ?_
  refine pA ?_
  refine pB ?_
  refine ar_obj [0, 1, 2, 3] (w_find2 (rvT R S) a 1 [p, q]) rfl rfl (handed_of rfl rfl (by decide) ⟨rfl, rfl, rfl, rfl, rfl, rfl, rfl, rfl, rfl, rfl, rfl, rfl, trivial⟩) rfl rfl rfl rfl ?_
  rintro _ _ ⟨rfl, rfl⟩
  refine ⟨_, _, rfl, ?_⟩
  refine ar_ent (ent_same (h' := ⟨6, [(0, some (.mixed [.r (rvT R S), .sl 1 0 1 1, .r (.bool true)])), (1, some (.mixed [.ptr 2 0])), (2, some (.mixed (entC a 1 (.sl 3 0 [p, q].length 16)))), (3, some (.plain (bidsC [p, q]))), (4, some (.mixed ((askC a).map .r))), (5, some (.mixed ((bidC bid0).map .r)))], false⟩) rfl rfl ⟨rfl, rfl, rfl, rfl, rfl, rfl, trivial⟩) ?_
  refine pA ?_
  refine zA ?_
  refine ag_seq ?_
  refine ag_draw0 (by kernel_rfl) (by kernel_rfl) ?_
  iterate 7 refine aq_pure tOk rfl rfl rfl trivial ?_
  refine aq_load0 tOk rfl (by kernel_rfl) rfl rfl trivial ?_
  refine aq_pureE tOk (.r (.bool false)) rfl (by show AVal.r (.bool _) = _; exact eqB (decide_eq_false (by omega))) rfl (by rfl) trivial ?_
  iterate 6 refine aq_pure tOk rfl rfl rfl trivial ?_
  refine aq_load0 tOk rfl (by kernel_rfl) rfl rfl trivial ?_
  refine aq_pure tOk rfl rfl rfl ?_ ?_
  · unfold inI64; omega
  refine aq_pure tOk rfl rfl rfl trivial ?_
  refine aq_pur (w_Window 1) rfl rfl rfl rfl rfl rfl rfl ?_
  refine aq_pureE tOk (.r (.bool false)) rfl (by show AVal.r (.bool _) = _; exact eqB (decide_eq_false (by omega))) rfl (by rfl) trivial ?_
  refine aq_pure tOk rfl rfl rfl trivial ?_
  refine aq_nil rfl ?_
  refine ag_false rfl (by rfl) ?_
  refine ag_skip ?_
  refine zB ?_
  refine ar_new tOk rfl rfl rfl ?_ ?_
  · simp
  refine zC ?_
  refine pA ?_
  refine zA ?_
  refine zB ?_
  iterate 3 refine pA ?_
  refine pB ?_
  iterate 2 refine pA ?_
  refine ar_nil ?_
  refine ag_block ?_
  refine ag_unroll ?_
  refine ag_seq ?_
  refine ag_ent (ent_weak (g' := [(2, .r (.int .i64 now)), (8, .ptr 4 0), (11, .ptr 5 0), (12, .r (.bool false)), (43, .sl 3 0 2 16), (44, .r (.int .i64 2)), (45, .r (.int .i64 0))]) (h' := ⟨6, [(0, some (.mixed [.r (rvT R S), .sl 1 0 1 1, .r (.bool true)])), (1, some (.mixed [.ptr 2 0])), (2, some (.mixed (entC a 1 (.sl 3 0 [p, q].length 16)))), (3, some (.plain (bidsC [p, q]))), (4, some (.mixed ((bidC bid0).map .r))), (5, some (.mixed ((bidC bid0).map .r)))], false⟩) [0, 1, 2, 3, 5, 6] rfl rfl rfl rfl ?_ ?_ rfl) ?_
  · exact ⟨⟨rfl, rfl⟩, ⟨rfl, rfl⟩, ⟨rfl, rfl⟩, ⟨rfl, rfl⟩, ⟨rfl, rfl⟩, ⟨rfl, rfl⟩, ⟨rfl, rfl⟩, trivial⟩
  · exact ⟨⟨rfl, rfl, rfl⟩, ⟨rfl, rfl, rfl⟩, ⟨rfl, rfl, rfl⟩, ⟨rfl, rfl, rfl⟩, ⟨rfl, rfl, rfl⟩, ⟨rfl, rfl, rfl⟩, trivial⟩
  refine ag_reg ?_
  refine pA ?_
  refine zA ?_
  refine ag_true rfl (by first | decide | rfl) ?_
  refine ag_skip ?_
  refine ag_seq ?_
  refine ag_block ?_
  refine zB ?_
  refine ar_pure tOk rfl rfl rfl ?_ ?_
  · refine ⟨?_, ?_⟩ <;> first | decide | (simp; done)
  refine ar_loadAs tOk (bidA p) rfl rfl rfl rfl rfl rfl rfl (.inr ⟨rfl, _, rfl, rfl, rfl⟩) ?_
  refine ar_new tOk rfl rfl rfl ?_ ?_
  · simp
  refine ar_store (h' := ⟨7, [(6, some (.mixed ((bidC p).map .r))), (6, some (.mixed ((bidC bid0).map .r))), (0, some (.mixed [.r (rvT R S), .sl 1 0 1 1, .r (.bool true)])), (1, some (.mixed [.ptr 2 0])), (2, some (.mixed (entC a 1 (.sl 3 0 [p, q].length 16)))), (3, some (.plain (bidsC [p, q]))), (4, some (.mixed ((bidC bid0).map .r))), (5, some (.mixed ((bidC bid0).map .r)))], false⟩) (c := True) tOk (by kernel_rfl) rfl rfl trivial ?_
  refine zC ?_
  iterate 2 refine pA ?_
  refine pB ?_
  iterate 2 refine pA ?_
  refine ar_ent (ent_reg 53 (.r (.bool true)) (by show AVal.r (.bool _) = _; exact eqB (decide_eq_true hp))) ?_
  iterate 3 refine pA ?_
  iterate 3 refine ar_skip rfl rfl rfl ?_
  iterate 2 refine pA ?_
  refine ar_nil ?_
  refine ag_true rfl (by rfl) ?_
  refine ag_reg ?_
  refine pB ?_
  refine ar_store (h' := ⟨7, [(5, some (.mixed ((bidC p).map .r))), (6, some (.mixed ((bidC p).map .r))), (6, some (.mixed ((bidC bid0).map .r))), (0, some (.mixed [.r (rvT R S), .sl 1 0 1 1, .r (.bool true)])), (1, some (.mixed [.ptr 2 0])), (2, some (.mixed (entC a 1 (.sl 3 0 [p, q].length 16)))), (3, some (.plain (bidsC [p, q]))), (4, some (.mixed ((bidC bid0).map .r))), (5, some (.mixed ((bidC bid0).map .r)))], false⟩) (c := True) tOk (by kernel_rfl) rfl rfl trivial ?_
  refine pA ?_
  refine ar_nil ?_
  refine ag_inBlock ?_
  refine ag_reg ?_
  refine ar_pure tOk rfl rfl rfl ?_ ?_
  · unfold inI64; decide
  refine pA ?_
  refine ar_nil ?_
  refine ag_again ?_
  refine ag_seq ?_
  refine ag_ent (ent_weak (g' := [(2, .r (.int .i64 now)), (8, .ptr 4 0), (11, .ptr 5 0), (12, .r (.bool true)), (43, .sl 3 0 2 16), (44, .r (.int .i64 2)), (45, .r (.int .i64 1))]) (h' := ⟨6, [(0, some (.mixed [.r (rvT R S), .sl 1 0 1 1, .r (.bool true)])), (1, some (.mixed [.ptr 2 0])), (2, some (.mixed (entC a 1 (.sl 3 0 [p, q].length 16)))), (3, some (.plain (bidsC [p, q]))), (4, some (.mixed ((bidC bid0).map .r))), (5, some (.mixed ((bidC p).map .r)))], false⟩) [0, 1, 2, 3, 4, 5] rfl rfl rfl rfl ?_ ?_ rfl) ?_
  · exact ⟨⟨rfl, rfl⟩, ⟨rfl, rfl⟩, ⟨rfl, rfl⟩, ⟨rfl, rfl⟩, ⟨rfl, rfl⟩, ⟨rfl, rfl⟩, ⟨rfl, rfl⟩, trivial⟩
  · exact ⟨⟨rfl, rfl, rfl⟩, ⟨rfl, rfl, rfl⟩, ⟨rfl, rfl, rfl⟩, ⟨rfl, rfl, rfl⟩, ⟨rfl, rfl, rfl⟩, ⟨rfl, rfl, rfl⟩, trivial⟩
  refine ag_reg ?_
  refine pA ?_
  refine zA ?_
  refine ag_true rfl (by first | decide | rfl) ?_
  refine ag_skip ?_
  refine ag_seq ?_
  refine ag_block ?_
  refine zB ?_
  refine ar_pure tOk rfl rfl rfl ?_ ?_
  · refine ⟨?_, ?_⟩ <;> first | decide | (simp; done)
  refine ar_loadAs tOk (bidA q) rfl rfl rfl rfl rfl rfl rfl (.inr ⟨rfl, _, rfl, rfl, rfl⟩) ?_
  refine ar_new tOk rfl rfl rfl ?_ ?_
  · simp
  refine ar_store (h' := ⟨7, [(6, some (.mixed ((bidC q).map .r))), (6, some (.mixed ((bidC bid0).map .r))), (0, some (.mixed [.r (rvT R S), .sl 1 0 1 1, .r (.bool true)])), (1, some (.mixed [.ptr 2 0])), (2, some (.mixed (entC a 1 (.sl 3 0 [p, q].length 16)))), (3, some (.plain (bidsC [p, q]))), (4, some (.mixed ((bidC bid0).map .r))), (5, some (.mixed ((bidC p).map .r)))], false⟩) (c := True) tOk (by kernel_rfl) rfl rfl trivial ?_
  refine zC ?_
  iterate 2 refine pA ?_
  refine pB ?_
  iterate 2 refine pA ?_
  refine ar_ent (ent_reg 53 (.r (.bool true)) (by show AVal.r (.bool _) = _; exact eqB (decide_eq_true hq))) ?_
  iterate 3 refine pA ?_
  refine ar_ent (ent_reg 56 (.r (.bool false)) (by show AVal.r (.bool _) = _; exact eqB (by rfl))) ?_
  iterate 2 refine pB ?_
  refine ar_pur (cB) rfl rfl rfl rfl rfl rfl rfl ?_
  iterate 2 refine pA ?_
  refine ar_nil ?_
  refine ag_true rfl (by rfl) ?_
  refine ag_reg ?_
  refine pB ?_
  refine ar_store (h' := ⟨7, [(5, some (.mixed ((bidC q).map .r))), (6, some (.mixed ((bidC q).map .r))), (6, some (.mixed ((bidC bid0).map .r))), (0, some (.mixed [.r (rvT R S), .sl 1 0 1 1, .r (.bool true)])), (1, some (.mixed [.ptr 2 0])), (2, some (.mixed (entC a 1 (.sl 3 0 [p, q].length 16)))), (3, some (.plain (bidsC [p, q]))), (4, some (.mixed ((bidC bid0).map .r))), (5, some (.mixed ((bidC p).map .r)))], false⟩) (c := True) tOk (by kernel_rfl) rfl rfl trivial ?_
  refine pA ?_
  refine ar_nil ?_
  refine ag_inBlock ?_
  refine ag_reg ?_
  refine ar_pure tOk rfl rfl rfl ?_ ?_
  · unfold inI64; decide
  refine pA ?_
  refine ar_nil ?_
  refine ag_again ?_
  refine ag_seq ?_
  refine ag_ent (ent_weak (g' := [(2, .r (.int .i64 now)), (8, .ptr 4 0), (11, .ptr 5 0), (12, .r (.bool true)), (43, .sl 3 0 2 16), (44, .r (.int .i64 2)), (45, .r (.int .i64 2))]) (h' := ⟨6, [(0, some (.mixed [.r (rvT R S), .sl 1 0 1 1, .r (.bool true)])), (1, some (.mixed [.ptr 2 0])), (2, some (.mixed (entC a 1 (.sl 3 0 [p, q].length 16)))), (3, some (.plain (bidsC [p, q]))), (4, some (.mixed ((bidC bid0).map .r))), (5, some (.mixed ((bidC q).map .r)))], false⟩) [0, 1, 2, 3, 4, 5] rfl rfl rfl rfl ?_ ?_ rfl) ?_
  · exact ⟨⟨rfl, rfl⟩, ⟨rfl, rfl⟩, ⟨rfl, rfl⟩, ⟨rfl, rfl⟩, ⟨rfl, rfl⟩, ⟨rfl, rfl⟩, ⟨rfl, rfl⟩, trivial⟩
  · exact ⟨⟨rfl, rfl, rfl⟩, ⟨rfl, rfl, rfl⟩, ⟨rfl, rfl, rfl⟩, ⟨rfl, rfl, rfl⟩, ⟨rfl, rfl, rfl⟩, ⟨rfl, rfl, rfl⟩, trivial⟩
  refine ag_reg ?_
  refine pA ?_
  refine zA ?_
  refine ag_false rfl (by first | decide | rfl) ?_
  refine ag_exit rfl ?_
  refine zB ?_
  refine pB ?_
  refine pA ?_
  refine ar_store (h' := ⟨6, [(4, some (.mixed ((bidC q).map .r))), (0, some (.mixed [.r (rvT R S), .sl 1 0 1 1, .r (.bool true)])), (1, some (.mixed [.ptr 2 0])), (2, some (.mixed (entC a 1 (.sl 3 0 [p, q].length 16)))), (3, some (.plain (bidsC [p, q]))), (4, some (.mixed ((bidC bid0).map .r))), (5, some (.mixed ((bidC q).map .r)))], false⟩) (c := True) tOk (by kernel_rfl) rfl rfl trivial ?_
  refine pA ?_
  refine ar_nil ?_
  refine ag_retW (v := .tuple [bidA q, .r (.bool true)]) tOk Try.func33 rfl rfl (by first | trivial | exact ⟨trivial, trivial⟩ | simp) (ent_weak (g' := [(0, .tuple [bidA q, .r (.bool true)])]) (h' := rm2 (rvT R S) a 1 [p, q]) [0, 1, 2, 3] rfl rfl rfl rfl ?_ ?_ rfl) ?_
  · exact ⟨⟨rfl, rfl⟩, trivial⟩
  · exact ⟨⟨rfl, rfl, rfl⟩, ⟨rfl, rfl, rfl⟩, ⟨rfl, rfl, rfl⟩, ⟨rfl, rfl, rfl⟩, trivial⟩
  exact ⟨rfl, rfl⟩
theorem w_BestC2F (R S : List UInt8) (a : AskV) (now : Int) (hn : 1 < now ∧ now ≤ 9223372036854775807) (p q : BidV) (hp : now ≤ p.e) (hq : now ≤ q.e) (hb : betV q p = false) : Spec Try.prog 33 [.ptr 0 0, askA a, .r (.int .i64 now), .r (.int .i64 1)] (rm2 (rvT R S) a 1 [p, q]) (fun v h' => v = .tuple [bidA p, .r (.bool true)] ∧ h' = rm2 (rvT R S) a 1 [p, q]) := by
  have cB := w_bBetter q p
  rw [hb] at cB
  refine spec_of_go (N := 66) Try.func33 rfl (by decide) rfl rfl ?_
  refine zB ?_
  refine ar_new tOk rfl rfl rfl trivial ?_
  refine ar_new tOk rfl rfl rfl ?_ ?_
  · simp
  refine pA ?_
  refine zC ?_
  refine pA ?_
  refine pB ?_
  refine ar_obj [0, 1, 2, 3] (w_find2 (rvT R S) a 1 [p, q]) rfl rfl (handed_of rfl rfl (by decide) ⟨rfl, rfl, rfl, rfl, rfl, rfl, rfl, rfl, rfl, rfl, rfl, rfl, trivial⟩) rfl rfl rfl rfl ?_
  rintro _ _ ⟨rfl, rfl⟩
  refine ⟨_, _, rfl, ?_⟩
  refine ar_ent (ent_same (h' := ⟨6, [(0, some (.mixed [.r (rvT R S), .sl 1 0 1 1, .r (.bool true)])), (1, some (.mixed [.ptr 2 0])), (2, some (.mixed (entC a 1 (.sl 3 0 [p, q].length 16)))), (3, some (.plain (bidsC [p, q]))), (4, some (.mixed ((askC a).map .r))), (5, some (.mixed ((bidC bid0).map .r)))], false⟩) rfl rfl ⟨rfl, rfl, rfl, rfl, rfl, rfl, trivial⟩) ?_
  refine pA ?_
  refine zA ?_
  refine ag_seq ?_
  refine ag_draw0 (by kernel_rfl) (by kernel_rfl) ?_
  iterate 7 refine aq_pure tOk rfl rfl rfl trivial ?_
  refine aq_load0 tOk rfl (by kernel_rfl) rfl rfl trivial ?_
  refine aq_pureE tOk (.r (.bool false)) rfl (by show AVal.r (.bool _) = _; exact eqB (decide_eq_false (by omega))) rfl (by rfl) trivial ?_
  iterate 6 refine aq_pure tOk rfl rfl rfl trivial ?_
  refine aq_load0 tOk rfl (by kernel_rfl) rfl rfl trivial ?_
  refine aq_pure tOk rfl rfl rfl ?_ ?_
  · unfold inI64; omega
  refine aq_pure tOk rfl rfl rfl trivial ?_
  refine aq_pur (w_Window 1) rfl rfl rfl rfl rfl rfl rfl ?_
  refine aq_pureE tOk (.r (.bool false)) rfl (by show AVal.r (.bool _) = _; exact eqB (decide_eq_false (by omega))) rfl (by rfl) trivial ?_
  refine aq_pure tOk rfl rfl rfl trivial ?_
  refine aq_nil rfl ?_
  refine ag_false rfl (by rfl) ?_
  refine ag_skip ?_
  refine zB ?_
  refine ar_new tOk rfl rfl rfl ?_ ?_
  · simp
  refine zC ?_
  refine pA ?_
  refine zA ?_
  refine zB ?_
  iterate 3 refine pA ?_
  refine pB ?_
  iterate 2 refine pA ?_
  refine ar_nil ?_
  refine ag_block ?_
  refine ag_unroll ?_
  refine ag_seq ?_
  refine ag_ent (ent_weak (g' := [(2, .r (.int .i64 now)), (8, .ptr 4 0), (11, .ptr 5 0), (12, .r (.bool false)), (43, .sl 3 0 2 16), (44, .r (.int .i64 2)), (45, .r (.int .i64 0))]) (h' := ⟨6, [(0, some (.mixed [.r (rvT R S), .sl 1 0 1 1, .r (.bool true)])), (1, some (.mixed [.ptr 2 0])), (2, some (.mixed (entC a 1 (.sl 3 0 [p, q].length 16)))), (3, some (.plain (bidsC [p, q]))), (4, some (.mixed ((bidC bid0).map .r))), (5, some (.mixed ((bidC bid0).map .r)))], false⟩) [0, 1, 2, 3, 5, 6] rfl rfl rfl rfl ?_ ?_ rfl) ?_
  · exact ⟨⟨rfl, rfl⟩, ⟨rfl, rfl⟩, ⟨rfl, rfl⟩, ⟨rfl, rfl⟩, ⟨rfl, rfl⟩, ⟨rfl, rfl⟩, ⟨rfl, rfl⟩, trivial⟩
  · exact ⟨⟨rfl, rfl, rfl⟩, ⟨rfl, rfl, rfl⟩, ⟨rfl, rfl, rfl⟩, ⟨rfl, rfl, rfl⟩, ⟨rfl, rfl, rfl⟩, ⟨rfl, rfl, rfl⟩, trivial⟩
  refine ag_reg ?_
  refine pA ?_
  refine zA ?_
  refine ag_true rfl (by first | decide | rfl) ?_
  refine ag_skip ?_
  refine ag_seq ?_
  refine ag_block ?_
  refine zB ?_
  refine ar_pure tOk rfl rfl rfl ?_ ?_
  · refine ⟨?_, ?_⟩ <;> first | decide | (simp; done)
  refine ar_loadAs tOk (bidA p) rfl rfl rfl rfl rfl rfl rfl (.inr ⟨rfl, _, rfl, rfl, rfl⟩) ?_
  refine ar_new tOk rfl rfl rfl ?_ ?_
  · simp
  refine ar_store (h' := ⟨7, [(6, some (.mixed ((bidC p).map .r))), (6, some (.mixed ((bidC bid0).map .r))), (0, some (.mixed [.r (rvT R S), .sl 1 0 1 1, .r (.bool true)])), (1, some (.mixed [.ptr 2 0])), (2, some (.mixed (entC a 1 (.sl 3 0 [p, q].length 16)))), (3, some (.plain (bidsC [p, q]))), (4, some (.mixed ((bidC bid0).map .r))), (5, some (.mixed ((bidC bid0).map .r)))], false⟩) (c := True) tOk (by kernel_rfl) rfl rfl trivial ?_
  refine zC ?_
  iterate 2 refine pA ?_
  refine pB ?_
  iterate 2 refine pA ?_
  refine ar_ent (ent_reg 53 (.r (.bool true)) (by show AVal.r (.bool _) = _; exact eqB (decide_eq_true hp))) ?_
  iterate 3 refine pA ?_
  iterate 3 refine ar_skip rfl rfl rfl ?_
  iterate 2 refine pA ?_
  refine ar_nil ?_
  refine ag_true rfl (by rfl) ?_
  refine ag_reg ?_
  refine pB ?_
  refine ar_store (h' := ⟨7, [(5, some (.mixed ((bidC p).map .r))), (6, some (.mixed ((bidC p).map .r))), (6, some (.mixed ((bidC bid0).map .r))), (0, some (.mixed [.r (rvT R S), .sl 1 0 1 1, .r (.bool true)])), (1, some (.mixed [.ptr 2 0])), (2, some (.mixed (entC a 1 (.sl 3 0 [p, q].length 16)))), (3, some (.plain (bidsC [p, q]))), (4, some (.mixed ((bidC bid0).map .r))), (5, some (.mixed ((bidC bid0).map .r)))], false⟩) (c := True) tOk (by kernel_rfl) rfl rfl trivial ?_
  refine pA ?_
  refine ar_nil ?_
  refine ag_inBlock ?_
  refine ag_reg ?_
  refine ar_pure tOk rfl rfl rfl ?_ ?_
  · unfold inI64; decide
  refine pA ?_
  refine ar_nil ?_
  refine ag_again ?_
  refine ag_seq ?_
  refine ag_ent (ent_weak (g' := [(2, .r (.int .i64 now)), (8, .ptr 4 0), (11, .ptr 5 0), (12, .r (.bool true)), (43, .sl 3 0 2 16), (44, .r (.int .i64 2)), (45, .r (.int .i64 1))]) (h' := ⟨6, [(0, some (.mixed [.r (rvT R S), .sl 1 0 1 1, .r (.bool true)])), (1, some (.mixed [.ptr 2 0])), (2, some (.mixed (entC a 1 (.sl 3 0 [p, q].length 16)))), (3, some (.plain (bidsC [p, q]))), (4, some (.mixed ((bidC bid0).map .r))), (5, some (.mixed ((bidC p).map .r)))], false⟩) [0, 1, 2, 3, 4, 5] rfl rfl rfl rfl ?_ ?_ rfl) ?_
  · exact ⟨⟨rfl, rfl⟩, ⟨rfl, rfl⟩, ⟨rfl, rfl⟩, ⟨rfl, rfl⟩, ⟨rfl, rfl⟩, ⟨rfl, rfl⟩, ⟨rfl, rfl⟩, trivial⟩
  · exact ⟨⟨rfl, rfl, rfl⟩, ⟨rfl, rfl, rfl⟩, ⟨rfl, rfl, rfl⟩, ⟨rfl, rfl, rfl⟩, ⟨rfl, rfl, rfl⟩, ⟨rfl, rfl, rfl⟩, trivial⟩
  refine ag_reg ?_
  refine pA ?_
  refine zA ?_
  refine ag_true rfl (by first | decide | rfl) ?_
  refine ag_skip ?_
  refine ag_seq ?_
  refine ag_block ?_
  refine zB ?_
  refine ar_pure tOk rfl rfl rfl ?_ ?_
  · refine ⟨?_, ?_⟩ <;> first | decide | (simp; done)
  refine ar_loadAs tOk (bidA q) rfl rfl rfl rfl rfl rfl rfl (.inr ⟨rfl, _, rfl, rfl, rfl⟩) ?_
  refine ar_new tOk rfl rfl rfl ?_ ?_
  · simp
  refine ar_store (h' := ⟨7, [(6, some (.mixed ((bidC q).map .r))), (6, some (.mixed ((bidC bid0).map .r))), (0, some (.mixed [.r (rvT R S), .sl 1 0 1 1, .r (.bool true)])), (1, some (.mixed [.ptr 2 0])), (2, some (.mixed (entC a 1 (.sl 3 0 [p, q].length 16)))), (3, some (.plain (bidsC [p, q]))), (4, some (.mixed ((bidC bid0).map .r))), (5, some (.mixed ((bidC p).map .r)))], false⟩) (c := True) tOk (by kernel_rfl) rfl rfl trivial ?_
  refine zC ?_
  iterate 2 refine pA ?_
  refine pB ?_
  iterate 2 refine pA ?_
  refine ar_ent (ent_reg 53 (.r (.bool true)) (by show AVal.r (.bool _) = _; exact eqB (decide_eq_true hq))) ?_
  iterate 3 refine pA ?_
  refine ar_ent (ent_reg 56 (.r (.bool false)) (by show AVal.r (.bool _) = _; exact eqB (by rfl))) ?_
  iterate 2 refine pB ?_
  refine ar_pur (cB) rfl rfl rfl rfl rfl rfl rfl ?_
  iterate 2 refine pA ?_
  refine ar_nil ?_
  refine ag_false rfl (by rfl) ?_
  refine ag_skip ?_
  refine ag_inBlock ?_
  refine ag_reg ?_
  refine ar_pure tOk rfl rfl rfl ?_ ?_
  · unfold inI64; decide
  refine pA ?_
  refine ar_nil ?_
  refine ag_again ?_
  refine ag_seq ?_
  refine ag_ent (ent_weak (g' := [(2, .r (.int .i64 now)), (8, .ptr 4 0), (11, .ptr 5 0), (12, .r (.bool true)), (43, .sl 3 0 2 16), (44, .r (.int .i64 2)), (45, .r (.int .i64 2))]) (h' := ⟨6, [(0, some (.mixed [.r (rvT R S), .sl 1 0 1 1, .r (.bool true)])), (1, some (.mixed [.ptr 2 0])), (2, some (.mixed (entC a 1 (.sl 3 0 [p, q].length 16)))), (3, some (.plain (bidsC [p, q]))), (4, some (.mixed ((bidC bid0).map .r))), (5, some (.mixed ((bidC p).map .r)))], false⟩) [0, 1, 2, 3, 4, 5] rfl rfl rfl rfl ?_ ?_ rfl) ?_
  · exact ⟨⟨rfl, rfl⟩, ⟨rfl, rfl⟩, ⟨rfl, rfl⟩, ⟨rfl, rfl⟩, ⟨rfl, rfl⟩, ⟨rfl, rfl⟩, ⟨rfl, rfl⟩, trivial⟩
  · exact ⟨⟨rfl, rfl, rfl⟩, ⟨rfl, rfl, rfl⟩, ⟨rfl, rfl, rfl⟩, ⟨rfl, rfl, rfl⟩, ⟨rfl, rfl, rfl⟩, ⟨rfl, rfl, rfl⟩, trivial⟩
  refine ag_reg ?_
  refine pA ?_
  refine zA ?_
  refine ag_false rfl (by first | decide | rfl) ?_
  refine ag_exit rfl ?_
  refine zB ?_
  refine pB ?_
  refine pA ?_
  refine ar_store (h' := ⟨6, [(4, some (.mixed ((bidC p).map .r))), (0, some (.mixed [.r (rvT R S), .sl 1 0 1 1, .r (.bool true)])), (1, some (.mixed [.ptr 2 0])), (2, some (.mixed (entC a 1 (.sl 3 0 [p, q].length 16)))), (3, some (.plain (bidsC [p, q]))), (4, some (.mixed ((bidC bid0).map .r))), (5, some (.mixed ((bidC p).map .r)))], false⟩) (c := True) tOk (by kernel_rfl) rfl rfl trivial ?_
  refine pA ?_
  refine ar_nil ?_
  refine ag_retW (v := .tuple [bidA p, .r (.bool true)]) tOk Try.func33 rfl rfl (by first | trivial | exact ⟨trivial, trivial⟩ | simp) (ent_weak (g' := [(0, .tuple [bidA p, .r (.bool true)])]) (h' := rm2 (rvT R S) a 1 [p, q]) [0, 1, 2, 3] rfl rfl rfl rfl ?_ ?_ rfl) ?_
  · exact ⟨⟨rfl, rfl⟩, trivial⟩
  · exact ⟨⟨rfl, rfl, rfl⟩, ⟨rfl, rfl, rfl⟩, ⟨rfl, rfl, rfl⟩, ⟨rfl, rfl, rfl⟩, trivial⟩
  exact ⟨rfl, rfl⟩
end Go.Proofs.Ytnodpljgcdkbkaa


/-
  WALKS: auctions: New, Open; who has no room; alive. (Printed by gen.py out of w_auc2.py.)
-/
import Derived.Test.YtccdhgmkjakjkaaGreatAuc
namespace Go.Proofs.YtccdhgmkjakjkaaGreat
open Go
set_option maxRecDepth 20000
set_option linter.unusedVariables false
set_option linter.unusedSimpArgs false
theorem w_CloneT0  : Pur Tryz.prog 19 [.r .nil] (.r (.ro 0 [])) := by
 refine spec_of_go (N := 8) Tryz.func19 rfl (by decide) rfl rfl ?_
 refine zB ?_
 refine pF ?_
 refine zB ?_
 refine pA ?_
 refine ar_nilEq tOk rfl rfl rfl rfl rfl rfl rfl (fun q hq => ?_)
 refine ar_nil ?_
 refine ag_cond rfl ?_ ?_
 ·intro h4
  refine zB ?_
  refine pE ?_
  refine ag_ent (ent_nil 2 (.ro 0 []) rfl (.inr rfl)) ?_
  refine ag_ret tOk Tryz.func19 rfl rfl (by simp) ?_
  rfl
 ·intro h4
  refine ag_skip ?_
  refine zB ?_
  refine pN ?_ ?_
  ·simp
  refine pA ?_
  refine ar_ent (ent_nil 6 (.ro 0 []) rfl (.inr rfl)) ?_
  refine pP ?_ ?_
  ·refine ⟨⟨?_, ?_, ?_⟩, ⟨?_, ?_⟩, ⟨?_, ?_⟩, ?_⟩ <;> first | trivial | decide | omega | (simp; done) | (simp; omega)
  refine pE ?_
  refine ag_ent (ent_freeze 2 rfl rfl rfl trivial) ?_
  refine ag_ret tOk Tryz.func19 rfl rfl (by simp) ?_
  rfl
theorem w_CloneT2 (r s : List UInt8) : Pur Tryz.prog 19 [.r (.ro 2 [.str r, .str s])] (.r (.ro 2 [.str r, .str s])) := by
 refine spec_of_go (N := 8) Tryz.func19 rfl (by decide) rfl rfl ?_
 refine zB ?_
 refine pF ?_
 refine zB ?_
 refine pA ?_
 refine ar_nilEq tOk rfl rfl rfl rfl rfl rfl rfl (fun q hq => ?_)
 obtain rfl : q = false := by
  cases q with
  | false => rfl
  | true => exact absurd (hq rfl) (by show ¬ ([RVal.str r, RVal.str s] = []); simp)
 refine ar_nil ?_
 refine ag_false rfl (rfl) ?_
 refine ag_skip ?_
 refine zB ?_
 refine pN ?_ ?_
 ·simp
 refine pA ?_
 refine pP ?_ ?_
 ·refine ⟨⟨?_, ?_, ?_⟩, ⟨?_, ?_⟩, ⟨?_, ?_⟩, ?_⟩ <;> first | trivial | decide | omega | (simp; done) | (simp; omega)
 refine pE ?_
 refine ag_ent (ent_freeze 2 rfl rfl rfl trivial) ?_
 refine ag_ret tOk Tryz.func19 rfl rfl (by simp) ?_
 rfl
theorem w_New0  : Spec Tryz.prog 7 [.r .nil] (⟨0, [], false⟩) (fun v h' => v = .ptr 0 0 ∧ h' = rmE (.ro 0 []) true) := by
 refine spec_of_go (N := 7) Tryz.func7 rfl (by decide) rfl rfl ?_
 refine zB ?_
 refine pG ?_
 refine pA ?_
 refine ar_pur (w_CloneT0) rfl rfl rfl rfl rfl rfl rfl ?_
 refine pC ?_ ?_
 ·simp
 refine pM ?_
 refine pE ?_
 refine ag_ent (ent_weak (g' := [(2, .ptr 0 0)]) (h' := rmE (.ro 0 []) true) [0] rfl rfl rfl rfl ?_ ?_ rfl) ?_
 ·exact ⟨⟨rfl, rfl⟩, trivial⟩
 ·exact ⟨⟨rfl, rfl, rfl⟩, trivial⟩
 refine ag_ret tOk Tryz.func7 rfl rfl (by first | trivial | exact ⟨trivial, trivial⟩ | simp) ?_
 exact ⟨rfl, rfl⟩
theorem w_New2 (r s : List UInt8) : Spec Tryz.prog 7 [.r (.ro 2 [.str r, .str s])] (⟨0, [], false⟩) (fun v h' => v = .ptr 0 0 ∧ h' = rmE (.ro 2 [.str r, .str s]) true) := by
 refine spec_of_go (N := 7) Tryz.func7 rfl (by decide) rfl rfl ?_
 refine zB ?_
 refine pG ?_
 refine pA ?_
 refine ar_pur (w_CloneT2 r s) rfl rfl rfl rfl rfl rfl rfl ?_
 refine pC ?_ ?_
 ·simp
 refine pM ?_
 refine pE ?_
 refine ag_ent (ent_weak (g' := [(2, .ptr 0 0)]) (h' := rmE (.ro 2 [.str r, .str s]) true) [0] rfl rfl rfl rfl ?_ ?_ rfl) ?_
 ·exact ⟨⟨rfl, rfl⟩, trivial⟩
 ·exact ⟨⟨rfl, rfl, rfl⟩, trivial⟩
 refine ag_ret tOk Tryz.func7 rfl rfl (by first | trivial | exact ⟨trivial, trivial⟩ | simp) ?_
 exact ⟨rfl, rfl⟩
theorem w_Open2 (rv : RVal) (a : AskV) (t : Int) (now : Int) (hb : askE a = 0) : Spec Tryz.prog 9 [.ptr 0 0, askA a, .r (.int .i64 now)] (rm1 rv a t) (fun v h' => v = .r (.int .i64 32) ∧ h' = rm1 rv a t) := by
 have cA := w_bAsk a
 rw [hb] at cA
 refine spec_of_go (N := 55) Tryz.func9 rfl (by decide) rfl rfl ?_
 refine zB ?_
 refine pM ?_
 refine pF ?_
 refine zB ?_
 refine pB ?_
 refine ar_pur (cA) rfl rfl rfl rfl rfl rfl rfl ?_
 refine pE ?_
 refine bX ?_
 iterate 3 refine pA ?_
 refine ar_ent (ent_reg 13 (.r (.bool false)) (by show AVal.r (.bool _) = _; exact eqB (by rfl))) ?_
 iterate 3 refine pA ?_
 refine pB ?_
 iterate 2 refine pA ?_
 refine pE ?_
 refine vC ?_
 refine zB ?_
 iterate 2 refine pA ?_
 refine pE ?_
 refine vC ?_
 refine zB ?_
 refine pA ?_
 refine pB ?_
 refine ar_obj [0, 1, 2] (w_find1 rv a t) rfl rfl (handed_of rfl rfl (by decide) ⟨rfl, rfl, rfl, rfl, rfl, rfl, rfl, rfl, rfl, trivial⟩) rfl rfl rfl rfl ?_
 rintro _ _ ⟨rfl, rfl⟩
 refine ⟨_, _, rfl, ?_⟩
 refine ar_ent (ent_same (h' := ⟨4, [(0, some (.mixed [.r rv, .sl 1 0 1 1, .r (.bool true)])), (1, some (.mixed [.ptr 2 0])), (2, some (.mixed (entC a t (.r .nil)))), (3, some (.mixed ((askC a).map .r)))], false⟩) rfl rfl ⟨rfl, rfl, rfl, rfl, trivial⟩) ?_
 refine pA ?_
 refine pE ?_
 refine vB ?_
 refine zB ?_
 refine pE ?_
 refine ag_ent (ent_weak (g' := [(6, .r (.int .i64 32))]) (h' := rm1 rv a t) [0, 1, 2] rfl rfl rfl rfl ?_ ?_ rfl) ?_
 ·exact ⟨⟨rfl, rfl⟩, trivial⟩
 ·exact ⟨⟨rfl, rfl, rfl⟩, ⟨rfl, rfl, rfl⟩, ⟨rfl, rfl, rfl⟩, trivial⟩
 refine ag_ret tOk Tryz.func9 rfl rfl (by first | trivial | exact ⟨trivial, trivial⟩ | simp) ?_
 exact ⟨rfl, rfl⟩
theorem w_OpenS (rv : RVal) (a : AskV) (now : Int) (hb : askE a = 0) (hn : 0 ≤ now ∧ now ≤ 1099511627776) : Spec Tryz.prog 9 [.ptr 0 0, askA a, .r (.int .i64 now)] (rmE rv true) (fun v h' => v = .r (.int .i64 0) ∧ h' = rm1 rv a now) := by
 have cA := w_bAsk a
 rw [hb] at cA
 refine spec_of_go (N := 55) Tryz.func9 rfl (by decide) rfl rfl ?_
 refine zB ?_
 refine pM ?_
 refine pF ?_
 refine zB ?_
 refine pB ?_
 refine ar_pur (cA) rfl rfl rfl rfl rfl rfl rfl ?_
 refine pE ?_
 refine bX ?_
 iterate 3 refine pA ?_
 refine ar_ent (ent_reg 13 (.r (.bool false)) (by show AVal.r (.bool _) = _; exact eqB (by rfl))) ?_
 iterate 3 refine pA ?_
 refine pB ?_
 iterate 2 refine pA ?_
 refine pE ?_
 refine vC ?_
 refine zB ?_
 iterate 2 refine pA ?_
 refine pE ?_
 refine vC ?_
 refine zB ?_
 refine pA ?_
 refine pB ?_
 refine ar_qd rfl (qop_objR [0] (w_findE rv true a) (by rintro _ _ ⟨rfl, rfl⟩; exact ⟨rfl, rfl⟩) rfl rfl (handed_of rfl rfl (by decide) ⟨rfl, rfl, rfl, trivial⟩) rfl rfl) rfl rfl rfl rfl ?_
 refine pA ?_
 refine pE ?_
 refine vC ?_
 refine zB ?_
 iterate 3 refine pA ?_
 refine pB ?_
 iterate 2 refine pA ?_
 refine pE ?_
 refine vD ?_
 refine ag_skip ?_
 refine ag_inBlock ?_
 refine sZ ?_
 iterate 3 refine pA ?_
 refine ar_ent (ent_reg 38 (.r (.bool false)) (by show AVal.r (.bool _) = _; exact eqB (decide_eq_false (by omega)))) ?_
 iterate 2 refine pA ?_
 refine pE ?_
 refine ag_false rfl (decide_eq_false (by omega)) ?_
 refine sS ?_
 refine ag_ent (ent_weak (g' := [(0, .ptr 0 0), (2, .r (.int .i64 now)), (4, .ptr 1 0)]) (h' := ⟨2, [(1, some (.mixed ((askC a).map .r))), (0, some (.mixed [.r rv, .r .nil, .r (.bool true)]))], false⟩) [0, 1] rfl rfl rfl rfl ?_ ?_ rfl) ?_
 ·exact ⟨⟨rfl, rfl⟩, ⟨rfl, rfl⟩, ⟨rfl, rfl⟩, trivial⟩
 ·exact ⟨⟨rfl, rfl, rfl⟩, ⟨rfl, rfl, rfl⟩, trivial⟩
 refine ag_draw (Hs := hsL [⟨2, [(1, some (.mixed ((askC a).map .r))), (0, some (.mixed [.r rv, .r .nil, .r (.bool true)]))], false⟩, ⟨3, [(2, some (.mixed (entC a now (.r .nil)))), (1, some (.mixed ((askC a).map .r))), (0, some (.mixed [.r rv, .r .nil, .r (.bool true)]))], false⟩, ⟨4, [(3, some (.mixed [.ptr 2 0])), (2, some (.mixed (entC a now (.r .nil)))), (1, some (.mixed ((askC a).map .r))), (0, some (.mixed [.r rv, .r .nil, .r (.bool true)]))], false⟩, ⟨5, [(4, some (.mixed [.ptr 2 0])), (3, some (.mixed [.ptr 2 0])), (2, some (.mixed (entC a now (.r .nil)))), (1, some (.mixed ((askC a).map .r))), (0, some (.mixed [.r rv, .r .nil, .r (.bool true)]))], false⟩, ⟨5, [(0, some (.mixed [.r rv, .sl 4 0 1 1, .r (.bool true)])), (4, some (.mixed [.ptr 2 0])), (3, some (.mixed [.ptr 2 0])), (2, some (.mixed (entC a now (.r .nil)))), (1, some (.mixed ((askC a).map .r))), (0, some (.mixed [.r rv, .r .nil, .r (.bool true)]))], false⟩]) (K := 4) [50, 51, 52] (by kernel_rfl) (by kernel_rfl) ?_
 iterate 4 refine qA ?_
 refine aq_load2 tOk rfl (by kernel_rfl) rfl rfl rfl rfl trivial ⟨_, rfl, trivial⟩ ⟨_, rfl, trivial⟩ ?_
 refine qL ?_
 refine qA ?_
 refine qB ?_ ?_
 ·simp
 refine aq_new tOk rfl rfl rfl rfl rfl rfl trivial ?_
 refine aq_new tOk rfl rfl rfl rfl rfl rfl ?_ ?_
 ·simp
 refine aq_app tOk rfl rfl rfl rfl rfl rfl ?_ ?_
 ·refine ⟨⟨?_, ?_, ?_⟩, ⟨?_, ?_⟩, ⟨?_, ?_⟩, ?_⟩ <;> first | trivial | decide | omega | (simp; done) | (simp; omega)
 iterate 2 refine qA ?_
 refine aq_store tOk rfl rfl rfl rfl rfl trivial ?_
 refine aq_nil rfl ?_
 refine zB ?_
 refine pE ?_
 refine ag_ent (ent_weak (g' := [(6, .r (.int .i64 0))]) (h' := rm1 rv a now) [0, 4, 2] rfl rfl rfl rfl ?_ ?_ rfl) ?_
 ·exact ⟨⟨rfl, rfl⟩, trivial⟩
 ·exact ⟨⟨rfl, rfl, rfl⟩, ⟨rfl, rfl, rfl⟩, ⟨rfl, rfl, rfl⟩, trivial⟩
 refine ag_ret tOk Tryz.func9 rfl rfl (by first | trivial | exact ⟨trivial, trivial⟩ | simp) ?_
 exact ⟨rfl, rfl⟩
end Go.Proofs.YtccdhgmkjakjkaaGreat

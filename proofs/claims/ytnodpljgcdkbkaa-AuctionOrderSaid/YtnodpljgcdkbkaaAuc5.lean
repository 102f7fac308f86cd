/-
  WALKS: auctions: root, Bid, Best. (Printed by gen.py out of w_auc5.py.)
-/
import Derived.Test.YtnodpljgcdkbkaaAuc4
import Derived.Test.YtnodpljgcdkbkaaLBid2
import Derived.Test.YtnodpljgcdkbkaaWrp
namespace Go.Proofs.Ytnodpljgcdkbkaa
open Go
set_option maxRecDepth 20000
set_option linter.unusedVariables false
set_option linter.unusedSimpArgs false
theorem eqI19 {a b : Int} (h : a = b) : AVal.r (.int .i64 a) = AVal.r (.int .i64 b) := by rw [h]
def rtO (R S : List UInt8) (r : Int) : List UInt8 := if r = 2 then R else if r = 3 then S else []
theorem wrap_out {r : Int} (h : -9223372036854775808 ≤ r ∧ r ≤ 9223372036854775807) (h2 : r ≠ 2) (h3 : r ≠ 3) : IntKind.i64.wrap (r - 2) < 0 ∨ IntKind.i64.wrap (r - 2) ≥ 2 := by
  simp only [IntKind.wrap, IntKind.bits, IntKind.signed]
  simp
  omega
def acB19 (R S : List UInt8) (now : Int) (b : BidV) : Bool := decide (now ≤ b.e) && valB (rtO R S b.r) b
def rvT (R S : List UInt8) : RVal := .ro 2 [.str R, .str S]
def hBd (b : BidV) : Hp := ⟨1, [(0, some (.mixed ((bidC b).map .r)))], false⟩
theorem w_root12 (R S : List UInt8) (a : AskV) (t : Int)  : Spec Try.prog 91 [.ptr 0 0, .r (.int .i64 2)] (rm1 (rvT R S) a t) (fun v h' => v = .r (.str R) ∧ h' = rm1 (rvT R S) a t) := by
  refine spec_of_go (N := 26) Try.func91 rfl (by decide) rfl rfl ?_
  refine zB ?_
  refine pA ?_
  refine zA ?_
  refine zB ?_
  refine pA ?_
  refine ar_qd rfl (qop_subW rfl rfl rfl) rfl rfl rfl rfl ?_
  refine ar_ent (ent_reg 7 (.r (.int .i64 0)) (by show AVal.r (.int _ _) = _; exact eqI19 (by decide))) ?_
  refine pA ?_
  refine zC ?_
  iterate 3 refine pA ?_
  refine ar_ent (ent_reg 10 (.r (.bool true)) (by show AVal.r (.bool _) = _; exact eqB (by decide))) ?_
  iterate 4 refine pA ?_
  refine pB ?_
  iterate 3 refine pA ?_
  refine ar_nil ?_
  refine ag_true rfl (by decide) ?_
  refine zB ?_
  iterate 3 refine pA ?_
  refine pB ?_
  refine pA ?_
  refine ar_pure tOk rfl rfl rfl ?_ ?_
  · exact ⟨by decide, by simp⟩
  refine pB ?_
  refine pA ?_
  refine ar_nil ?_
  refine ag_ent (ent_weak (g' := [(4, .r (.str R))]) (h' := rm1 (rvT R S) a t) [0, 1, 2] rfl rfl rfl rfl ?_ ?_ rfl) ?_
  · exact ⟨⟨rfl, rfl⟩, trivial⟩
  · exact ⟨⟨rfl, rfl, rfl⟩, ⟨rfl, rfl, rfl⟩, ⟨rfl, rfl, rfl⟩, trivial⟩
  refine ag_ret tOk Try.func91 rfl rfl (by first | trivial | exact ⟨trivial, trivial⟩ | simp) ?_
  exact ⟨rfl, rfl⟩
theorem w_root13 (R S : List UInt8) (a : AskV) (t : Int)  : Spec Try.prog 91 [.ptr 0 0, .r (.int .i64 3)] (rm1 (rvT R S) a t) (fun v h' => v = .r (.str S) ∧ h' = rm1 (rvT R S) a t) := by
  refine spec_of_go (N := 26) Try.func91 rfl (by decide) rfl rfl ?_
  refine zB ?_
  refine pA ?_
  refine zA ?_
  refine zB ?_
  refine pA ?_
  refine ar_qd rfl (qop_subW rfl rfl rfl) rfl rfl rfl rfl ?_
  refine ar_ent (ent_reg 7 (.r (.int .i64 1)) (by show AVal.r (.int _ _) = _; exact eqI19 (by decide))) ?_
  refine pA ?_
  refine zC ?_
  iterate 3 refine pA ?_
  refine ar_ent (ent_reg 10 (.r (.bool true)) (by show AVal.r (.bool _) = _; exact eqB (by decide))) ?_
  iterate 4 refine pA ?_
  refine pB ?_
  iterate 3 refine pA ?_
  refine ar_nil ?_
  refine ag_true rfl (by decide) ?_
  refine zB ?_
  iterate 3 refine pA ?_
  refine pB ?_
  refine pA ?_
  refine ar_pure tOk rfl rfl rfl ?_ ?_
  · exact ⟨by decide, by simp⟩
  refine pB ?_
  refine pA ?_
  refine ar_nil ?_
  refine ag_ent (ent_weak (g' := [(4, .r (.str S))]) (h' := rm1 (rvT R S) a t) [0, 1, 2] rfl rfl rfl rfl ?_ ?_ rfl) ?_
  · exact ⟨⟨rfl, rfl⟩, trivial⟩
  · exact ⟨⟨rfl, rfl, rfl⟩, ⟨rfl, rfl, rfl⟩, ⟨rfl, rfl, rfl⟩, trivial⟩
  refine ag_ret tOk Try.func91 rfl rfl (by first | trivial | exact ⟨trivial, trivial⟩ | simp) ?_
  exact ⟨rfl, rfl⟩
theorem w_root1X (R S : List UInt8) (a : AskV) (t : Int) (r : Int) (hr : -9223372036854775808 ≤ r ∧ r ≤ 9223372036854775807) (h2 : r ≠ 2) (h3 : r ≠ 3) : Spec Try.prog 91 [.ptr 0 0, .r (.int .i64 r)] (rm1 (rvT R S) a t) (fun v h' => v = .r (.str []) ∧ h' = rm1 (rvT R S) a t) := by
  have hw := wrap_out hr h2 h3
  obtain ⟨W, hW⟩ : ∃ W, W = IntKind.i64.wrap (r - 2) := ⟨_, rfl⟩
  rw [← hW] at hw
  refine spec_of_go (N := 26) Try.func91 rfl (by decide) rfl rfl ?_
  refine zB ?_
  refine pA ?_
  refine zA ?_
  refine zB ?_
  refine pA ?_
  refine ar_qd rfl (qop_subW rfl rfl rfl) rfl rfl rfl rfl ?_
  refine ar_ent (ent_reg 7 (.r (.int .i64 W)) (by show AVal.r (.int _ _) = _; exact eqI19 (hW.symm))) ?_
  refine pA ?_
  refine zC ?_
  iterate 3 refine pA ?_
  refine ar_guard (t := decide (W ≥ 0)) (fun ht => ?_) (fun ht => ?_)
  · refine ar_ent (ent_reg 10 (.r (.bool true)) (by show AVal.r (.bool _) = _; exact eqB ht)) ?_
    have hw2 : ¬ W < 2 := by have := of_decide_eq_true ht; omega
    iterate 4 refine pA ?_
    refine pB ?_
    iterate 3 refine pA ?_
    refine ar_nil ?_
    refine ag_false rfl (decide_eq_false hw2) ?_
    refine ag_skip ?_
    refine zB ?_
    refine pA ?_
    refine ar_nil ?_
    refine ag_ent (ent_weak (g' := [(4, .r (.str []))]) (h' := rm1 (rvT R S) a t) [0, 1, 2] rfl rfl rfl rfl ?_ ?_ rfl) ?_
    · exact ⟨⟨rfl, rfl⟩, trivial⟩
    · exact ⟨⟨rfl, rfl, rfl⟩, ⟨rfl, rfl, rfl⟩, ⟨rfl, rfl, rfl⟩, trivial⟩
    refine ag_ret tOk Try.func91 rfl rfl (by first | trivial | exact ⟨trivial, trivial⟩ | simp) ?_
    exact ⟨rfl, rfl⟩
  · refine ar_ent (ent_reg 10 (.r (.bool false)) (by show AVal.r (.bool _) = _; exact eqB ht)) ?_
    skip
    repeat (first | refine ar_skip rfl rfl rfl ?_ | refine ar_pure tOk rfl rfl rfl trivial ?_)
    refine ar_nil ?_
    refine ag_false rfl (by rfl) ?_
    refine ag_skip ?_
    refine zB ?_
    refine pA ?_
    refine ar_nil ?_
    refine ag_ent (ent_weak (g' := [(4, .r (.str []))]) (h' := rm1 (rvT R S) a t) [0, 1, 2] rfl rfl rfl rfl ?_ ?_ rfl) ?_
    · exact ⟨⟨rfl, rfl⟩, trivial⟩
    · exact ⟨⟨rfl, rfl, rfl⟩, ⟨rfl, rfl, rfl⟩, ⟨rfl, rfl, rfl⟩, trivial⟩
    refine ag_ret tOk Try.func91 rfl rfl (by first | trivial | exact ⟨trivial, trivial⟩ | simp) ?_
    exact ⟨rfl, rfl⟩
theorem w_root1 (R S : List UInt8) (a : AskV) (t : Int) (r : Int) (hr : -9223372036854775808 ≤ r ∧ r ≤ 9223372036854775807) : Spec Try.prog 91 [.ptr 0 0, .r (.int .i64 r)] (rm1 (rvT R S) a t) (fun v h' => v = .r (.str (rtO R S r)) ∧ h' = rm1 (rvT R S) a t) := by
  by_cases h2 : r = 2
  · subst h2; exact w_root12 R S a t
  · by_cases h3 : r = 3
    · subst h3; exact w_root13 R S a t
    · rw [rtO, if_neg h2, if_neg h3]; exact w_root1X R S a t r hr h2 h3
theorem w_root22 (R S : List UInt8) (a : AskV) (t : Int) (p : BidV)  : Spec Try.prog 91 [.ptr 0 0, .r (.int .i64 2)] (rm2 (rvT R S) a t [p]) (fun v h' => v = .r (.str R) ∧ h' = rm2 (rvT R S) a t [p]) := by
  refine spec_of_go (N := 26) Try.func91 rfl (by decide) rfl rfl ?_
  refine zB ?_
  refine pA ?_
  refine zA ?_
  refine zB ?_
  refine pA ?_
  refine ar_qd rfl (qop_subW rfl rfl rfl) rfl rfl rfl rfl ?_
  refine ar_ent (ent_reg 7 (.r (.int .i64 0)) (by show AVal.r (.int _ _) = _; exact eqI19 (by decide))) ?_
  refine pA ?_
  refine zC ?_
  iterate 3 refine pA ?_
  refine ar_ent (ent_reg 10 (.r (.bool true)) (by show AVal.r (.bool _) = _; exact eqB (by decide))) ?_
  iterate 4 refine pA ?_
  refine pB ?_
  iterate 3 refine pA ?_
  refine ar_nil ?_
  refine ag_true rfl (by decide) ?_
  refine zB ?_
  iterate 3 refine pA ?_
  refine pB ?_
  refine pA ?_
  refine ar_pure tOk rfl rfl rfl ?_ ?_
  · exact ⟨by decide, by simp⟩
  refine pB ?_
  refine pA ?_
  refine ar_nil ?_
  refine ag_ent (ent_weak (g' := [(4, .r (.str R))]) (h' := rm2 (rvT R S) a t [p]) [0, 1, 2, 3] rfl rfl rfl rfl ?_ ?_ rfl) ?_
  · exact ⟨⟨rfl, rfl⟩, trivial⟩
  · exact ⟨⟨rfl, rfl, rfl⟩, ⟨rfl, rfl, rfl⟩, ⟨rfl, rfl, rfl⟩, ⟨rfl, rfl, rfl⟩, trivial⟩
  refine ag_ret tOk Try.func91 rfl rfl (by first | trivial | exact ⟨trivial, trivial⟩ | simp) ?_
  exact ⟨rfl, rfl⟩
theorem w_root23 (R S : List UInt8) (a : AskV) (t : Int) (p : BidV)  : Spec Try.prog 91 [.ptr 0 0, .r (.int .i64 3)] (rm2 (rvT R S) a t [p]) (fun v h' => v = .r (.str S) ∧ h' = rm2 (rvT R S) a t [p]) := by
  refine spec_of_go (N := 26) Try.func91 rfl (by decide) rfl rfl ?_
  refine zB ?_
  refine pA ?_
  refine zA ?_
  refine zB ?_
  refine pA ?_
  refine ar_qd rfl (qop_subW rfl rfl rfl) rfl rfl rfl rfl ?_
  refine ar_ent (ent_reg 7 (.r (.int .i64 1)) (by show AVal.r (.int _ _) = _; exact eqI19 (by decide))) ?_
  refine pA ?_
  refine zC ?_
  iterate 3 refine pA ?_
  refine ar_ent (ent_reg 10 (.r (.bool true)) (by show AVal.r (.bool _) = _; exact eqB (by decide))) ?_
  iterate 4 refine pA ?_
  refine pB ?_
  iterate 3 refine pA ?_
  refine ar_nil ?_
  refine ag_true rfl (by decide) ?_
  refine zB ?_
  iterate 3 refine pA ?_
  refine pB ?_
  refine pA ?_
  refine ar_pure tOk rfl rfl rfl ?_ ?_
  · exact ⟨by decide, by simp⟩
  refine pB ?_
  refine pA ?_
  refine ar_nil ?_
  refine ag_ent (ent_weak (g' := [(4, .r (.str S))]) (h' := rm2 (rvT R S) a t [p]) [0, 1, 2, 3] rfl rfl rfl rfl ?_ ?_ rfl) ?_
  · exact ⟨⟨rfl, rfl⟩, trivial⟩
  · exact ⟨⟨rfl, rfl, rfl⟩, ⟨rfl, rfl, rfl⟩, ⟨rfl, rfl, rfl⟩, ⟨rfl, rfl, rfl⟩, trivial⟩
  refine ag_ret tOk Try.func91 rfl rfl (by first | trivial | exact ⟨trivial, trivial⟩ | simp) ?_
  exact ⟨rfl, rfl⟩
theorem w_root2X (R S : List UInt8) (a : AskV) (t : Int) (p : BidV) (r : Int) (hr : -9223372036854775808 ≤ r ∧ r ≤ 9223372036854775807) (h2 : r ≠ 2) (h3 : r ≠ 3) : Spec Try.prog 91 [.ptr 0 0, .r (.int .i64 r)] (rm2 (rvT R S) a t [p]) (fun v h' => v = .r (.str []) ∧ h' = rm2 (rvT R S) a t [p]) := by
  have hw := wrap_out hr h2 h3
  obtain ⟨W, hW⟩ : ∃ W, W = IntKind.i64.wrap (r - 2) := ⟨_, rfl⟩
  rw [← hW] at hw
  refine spec_of_go (N := 26) Try.func91 rfl (by decide) rfl rfl ?_
  refine zB ?_
  refine pA ?_
  refine zA ?_
  refine zB ?_
  refine pA ?_
  refine ar_qd rfl (qop_subW rfl rfl rfl) rfl rfl rfl rfl ?_
  refine ar_ent (ent_reg 7 (.r (.int .i64 W)) (by show AVal.r (.int _ _) = _; exact eqI19 (hW.symm))) ?_
  refine pA ?_
  refine zC ?_
  iterate 3 refine pA ?_
  refine ar_guard (t := decide (W ≥ 0)) (fun ht => ?_) (fun ht => ?_)
  · refine ar_ent (ent_reg 10 (.r (.bool true)) (by show AVal.r (.bool _) = _; exact eqB ht)) ?_
    have hw2 : ¬ W < 2 := by have := of_decide_eq_true ht; omega
    iterate 4 refine pA ?_
    refine pB ?_
    iterate 3 refine pA ?_
    refine ar_nil ?_
    refine ag_false rfl (decide_eq_false hw2) ?_
    refine ag_skip ?_
    refine zB ?_
    refine pA ?_
    refine ar_nil ?_
    refine ag_ent (ent_weak (g' := [(4, .r (.str []))]) (h' := rm2 (rvT R S) a t [p]) [0, 1, 2, 3] rfl rfl rfl rfl ?_ ?_ rfl) ?_
    · exact ⟨⟨rfl, rfl⟩, trivial⟩
    · exact ⟨⟨rfl, rfl, rfl⟩, ⟨rfl, rfl, rfl⟩, ⟨rfl, rfl, rfl⟩, ⟨rfl, rfl, rfl⟩, trivial⟩
    refine ag_ret tOk Try.func91 rfl rfl (by first | trivial | exact ⟨trivial, trivial⟩ | simp) ?_
    exact ⟨rfl, rfl⟩
  · refine ar_ent (ent_reg 10 (.r (.bool false)) (by show AVal.r (.bool _) = _; exact eqB ht)) ?_
    skip
    repeat (first | refine ar_skip rfl rfl rfl ?_ | refine ar_pure tOk rfl rfl rfl trivial ?_)
    refine ar_nil ?_
    refine ag_false rfl (by rfl) ?_
    refine ag_skip ?_
    refine zB ?_
    refine pA ?_
    refine ar_nil ?_
    refine ag_ent (ent_weak (g' := [(4, .r (.str []))]) (h' := rm2 (rvT R S) a t [p]) [0, 1, 2, 3] rfl rfl rfl rfl ?_ ?_ rfl) ?_
    · exact ⟨⟨rfl, rfl⟩, trivial⟩
    · exact ⟨⟨rfl, rfl, rfl⟩, ⟨rfl, rfl, rfl⟩, ⟨rfl, rfl, rfl⟩, ⟨rfl, rfl, rfl⟩, trivial⟩
    refine ag_ret tOk Try.func91 rfl rfl (by first | trivial | exact ⟨trivial, trivial⟩ | simp) ?_
    exact ⟨rfl, rfl⟩
theorem w_root2 (R S : List UInt8) (a : AskV) (t : Int) (p : BidV) (r : Int) (hr : -9223372036854775808 ≤ r ∧ r ≤ 9223372036854775807) : Spec Try.prog 91 [.ptr 0 0, .r (.int .i64 r)] (rm2 (rvT R S) a t [p]) (fun v h' => v = .r (.str (rtO R S r)) ∧ h' = rm2 (rvT R S) a t [p]) := by
  by_cases h2 : r = 2
  · subst h2; exact w_root22 R S a t p
  · by_cases h3 : r = 3
    · subst h3; exact w_root23 R S a t p
    · rw [rtO, if_neg h2, if_neg h3]; exact w_root2X R S a t p r hr h2 h3
theorem w_bf (p b : BidV) : Spec Try.prog 90 [bidA p, .ptr 0 0] (hBd b) (fun v h' => v = .r (.bool (decide (p.r = b.r))) ∧ h' = hBd b) := by
  refine spec_of_go (N := 9) Try.func90 rfl (by decide) rfl rfl ?_
  refine zB ?_
  refine ar_new tOk rfl rfl rfl trivial ?_
  refine pA ?_
  refine zC ?_
  refine pA ?_
  refine pB ?_
  refine pA ?_
  refine pB ?_
  iterate 2 refine pA ?_
  refine ar_nil ?_
  refine ag_ent (ent_weak (g' := [(3, .r (.bool (decide (p.r = b.r))))]) (h' := hBd b) [0] rfl rfl rfl rfl ?_ ?_ rfl) ?_
  · exact ⟨⟨rfl, rfl⟩, trivial⟩
  · exact ⟨⟨rfl, rfl, rfl⟩, trivial⟩
  refine ag_ret tOk Try.func90 rfl rfl (by first | trivial | exact ⟨trivial, trivial⟩ | simp) ?_
  exact ⟨rfl, rfl⟩
theorem w_IxB0 (b : BidV) : Spec Try.prog 134 [.r .nil, .func 90 [.ptr 0 0]] (hBd b) (fun v h' => v = .r (.int .i64 (-1)) ∧ h' = hBd b) := by
  refine spec_of_go (N := 19) Try.func134 rfl (by decide) rfl rfl ?_
  refine zB ?_
  refine pA ?_
  refine zA ?_
  refine zB ?_
  iterate 3 refine pA ?_
  refine ar_nil ?_
  refine ag_block ?_
  refine ag_unroll ?_
  refine zB ?_
  refine pA ?_
  refine zA ?_
  refine ag_false rfl (by decide) ?_
  refine ag_exit rfl ?_
  refine zB ?_
  refine pA ?_
  refine ar_nil ?_
  refine ag_ent (ent_weak (g' := [(4, .r (.int .i64 (-1)))]) (h' := hBd b) [0] rfl rfl rfl rfl ?_ ?_ rfl) ?_
  · exact ⟨⟨rfl, rfl⟩, trivial⟩
  · exact ⟨⟨rfl, rfl, rfl⟩, trivial⟩
  refine ag_ret tOk Try.func134 rfl rfl (by first | trivial | exact ⟨trivial, trivial⟩ | simp) ?_
  exact ⟨rfl, rfl⟩
theorem w_IxB1 (p b : BidV) (hpb : p.r ≠ b.r) : Spec Try.prog 134 [.sl 0 0 1 16, .func 90 [.ptr 1 0]] (⟨2, [(0, some (.plain (bidsC [p]))), (1, some (.mixed ((bidC b).map .r)))], false⟩) (fun v h' => v = .r (.int .i64 (-1)) ∧ h' = ⟨2, [(0, some (.plain (bidsC [p]))), (1, some (.mixed ((bidC b).map .r)))], false⟩) := by
  refine spec_of_go (N := 19) Try.func134 rfl (by decide) rfl rfl ?_
  refine zB ?_
  refine pA ?_
  refine zA ?_
  refine zB ?_
  iterate 3 refine pA ?_
  refine ar_nil ?_
  refine ag_block ?_
  refine ag_unroll ?_
  refine zB ?_
  refine pA ?_
  refine zA ?_
  refine ag_true rfl (by decide) ?_
  refine ag_skip ?_
  refine ag_seq ?_
  refine ag_block ?_
  refine zB ?_
  iterate 2 refine pA ?_
  refine zC ?_
  iterate 3 refine pA ?_
  refine ar_pure tOk rfl rfl rfl ?_ ?_
  · decide
  refine ar_loadAs tOk (bidA p) rfl rfl rfl rfl rfl rfl rfl (.inr ⟨rfl, _, rfl, rfl, rfl⟩) ?_
  refine ar_qd rfl (qop_objR [1] (w_bf p b) (by rintro _ _ ⟨rfl, rfl⟩; exact ⟨rfl, rfl⟩) rfl rfl (handed_of rfl rfl (by decide) ⟨rfl, rfl, rfl, trivial⟩) rfl rfl) rfl rfl rfl rfl ?_
  refine ar_nil ?_
  refine ag_false rfl (decide_eq_false hpb) ?_
  refine ag_skip ?_
  refine ag_inBlock ?_
  refine ag_reg ?_
  refine ar_pure tOk rfl rfl rfl ?_ ?_
  · unfold inI64; decide
  refine pA ?_
  refine ar_nil ?_
  refine ag_again ?_
  refine zB ?_
  refine pA ?_
  refine zA ?_
  refine ag_false rfl (by decide) ?_
  refine ag_exit rfl ?_
  refine zB ?_
  refine pA ?_
  refine ar_nil ?_
  refine ag_ent (ent_weak (g' := [(4, .r (.int .i64 (-1)))]) (h' := ⟨2, [(0, some (.plain (bidsC [p]))), (1, some (.mixed ((bidC b).map .r)))], false⟩) [0, 1] rfl rfl rfl rfl ?_ ?_ rfl) ?_
  · exact ⟨⟨rfl, rfl⟩, trivial⟩
  · exact ⟨⟨rfl, rfl, rfl⟩, ⟨rfl, rfl, rfl⟩, trivial⟩
  refine ag_ret tOk Try.func134 rfl rfl (by first | trivial | exact ⟨trivial, trivial⟩ | simp) ?_
  exact ⟨rfl, rfl⟩
theorem w_CB0 (b : BidV) : Spec Try.prog 89 [.r .nil, .func 90 [.ptr 0 0]] (hBd b) (fun v h' => v = .r (.bool false) ∧ h' = hBd b) := by
  refine spec_of_go (N := 9) Try.func89 rfl (by decide) rfl rfl ?_
  refine zB ?_
  refine pA ?_
  refine zC ?_
  iterate 2 refine pA ?_
  refine ar_qd rfl (qop_objR [0] (w_IxB0 b) (by rintro _ _ ⟨rfl, rfl⟩; exact ⟨rfl, rfl⟩) rfl rfl (handed_of rfl rfl (by decide) ⟨rfl, rfl, rfl, trivial⟩) rfl rfl) rfl rfl rfl rfl ?_
  iterate 2 refine pA ?_
  refine ar_nil ?_
  refine ag_ent (ent_weak (g' := [(4, .r (.bool false))]) (h' := hBd b) [0] rfl rfl rfl rfl ?_ ?_ rfl) ?_
  · exact ⟨⟨rfl, rfl⟩, trivial⟩
  · exact ⟨⟨rfl, rfl, rfl⟩, trivial⟩
  refine ag_ret tOk Try.func89 rfl rfl (by first | trivial | exact ⟨trivial, trivial⟩ | simp) ?_
  exact ⟨rfl, rfl⟩
theorem w_CB1 (p b : BidV) (hpb : p.r ≠ b.r) : Spec Try.prog 89 [.sl 0 0 1 16, .func 90 [.ptr 1 0]] (⟨2, [(0, some (.plain (bidsC [p]))), (1, some (.mixed ((bidC b).map .r)))], false⟩) (fun v h' => v = .r (.bool false) ∧ h' = ⟨2, [(0, some (.plain (bidsC [p]))), (1, some (.mixed ((bidC b).map .r)))], false⟩) := by
  refine spec_of_go (N := 9) Try.func89 rfl (by decide) rfl rfl ?_
  refine zB ?_
  refine pA ?_
  refine zC ?_
  iterate 2 refine pA ?_
  refine ar_qd rfl (qop_objR [0, 1] (w_IxB1 p b hpb) (by rintro _ _ ⟨rfl, rfl⟩; exact ⟨rfl, rfl⟩) rfl rfl (handed_of rfl rfl (by decide) ⟨rfl, rfl, rfl, rfl, rfl, rfl, trivial⟩) rfl rfl) rfl rfl rfl rfl ?_
  iterate 2 refine pA ?_
  refine ar_nil ?_
  refine ag_ent (ent_weak (g' := [(4, .r (.bool false))]) (h' := ⟨2, [(0, some (.plain (bidsC [p]))), (1, some (.mixed ((bidC b).map .r)))], false⟩) [0, 1] rfl rfl rfl rfl ?_ ?_ rfl) ?_
  · exact ⟨⟨rfl, rfl⟩, trivial⟩
  · exact ⟨⟨rfl, rfl, rfl⟩, ⟨rfl, rfl, rfl⟩, trivial⟩
  refine ag_ret tOk Try.func89 rfl rfl (by first | trivial | exact ⟨trivial, trivial⟩ | simp) ?_
  exact ⟨rfl, rfl⟩
def rm3 (rv : RVal) (a : AskV) (t : Int) (L : List BidV) : Hp := ⟨5, [(0, some (.mixed [.r rv, .sl 1 0 1 1, .r (.bool true)])), (1, some (.mixed [.ptr 2 0])), (2, some (.mixed (entC a t (.sl 4 0 L.length 16)))), (4, some (.plain (bidsC L)))], false⟩
theorem w_Bid1L (R S : List UInt8) (t : Int) (b : BidV) (now : Int) (hl : now > b.e) : Spec Try.prog 35 [.ptr 0 0, bidA b, .r (.int .i64 now)] (rm1 (rvT R S) b.a t) (fun v h' => v = .r (.bool false) ∧ h' = rm1 (rvT R S) b.a t) := by
  refine spec_of_go (N := 47) Try.func35 rfl (by decide) rfl rfl ?_
  refine zB ?_
  refine ar_new tOk rfl rfl rfl trivial ?_
  refine pA ?_
  refine zC ?_
  iterate 2 refine pA ?_
  refine pB ?_
  refine ar_obj [0, 1, 2] (w_find1 (rvT R S) b.a t) rfl rfl (handed_of rfl rfl (by decide) ⟨rfl, rfl, rfl, rfl, rfl, rfl, rfl, rfl, rfl, trivial⟩) rfl rfl rfl rfl ?_
  rintro _ _ ⟨rfl, rfl⟩
  refine ⟨_, _, rfl, ?_⟩
  refine ar_ent (ent_same (h' := ⟨4, [(0, some (.mixed [.r (rvT R S), .sl 1 0 1 1, .r (.bool true)])), (1, some (.mixed [.ptr 2 0])), (2, some (.mixed (entC b.a t (.r .nil)))), (3, some (.mixed ((bidC b).map .r)))], false⟩) rfl rfl ⟨rfl, rfl, rfl, rfl, trivial⟩) ?_
  refine pA ?_
  refine zA ?_
  refine ag_seq ?_
  refine ag_draw0 (by kernel_rfl) (by kernel_rfl) ?_
  iterate 5 refine aq_pure tOk rfl rfl rfl trivial ?_
  refine aq_load0 tOk rfl (by kernel_rfl) rfl rfl trivial ?_
  refine aq_pureE tOk (.r (.bool true)) rfl (by show AVal.r (.bool _) = _; exact eqB (decide_eq_true hl)) rfl (by rfl) trivial ?_
  iterate 2 refine aq_pure tOk rfl rfl rfl trivial ?_
  iterate 6 refine aq_skip rfl rfl rfl ?_
  iterate 2 refine aq_pure tOk rfl rfl rfl trivial ?_
  iterate 7 refine aq_skip rfl rfl rfl ?_
  refine aq_pure tOk rfl rfl rfl trivial ?_
  refine aq_nil rfl ?_
  refine ag_true rfl (by rfl) ?_
  refine zB ?_
  refine pA ?_
  refine ar_nil ?_
  refine ag_ent (ent_weak (g' := [(6, .r (.bool false))]) (h' := rm1 (rvT R S) b.a t) [0, 1, 2] rfl rfl rfl rfl ?_ ?_ rfl) ?_
  · exact ⟨⟨rfl, rfl⟩, trivial⟩
  · exact ⟨⟨rfl, rfl, rfl⟩, ⟨rfl, rfl, rfl⟩, ⟨rfl, rfl, rfl⟩, trivial⟩
  refine ag_ret tOk Try.func35 rfl rfl (by first | trivial | exact ⟨trivial, trivial⟩ | simp) ?_
  exact ⟨rfl, rfl⟩
theorem w_Bid1B (R S : List UInt8) (t : Int) (b : BidV) (now : Int) (hb : b.ok) (hr : -9223372036854775808 ≤ b.r ∧ b.r ≤ 9223372036854775807) (hl : ¬ now > b.e) (hv : valB (rtO R S b.r) b = false) : Spec Try.prog 35 [.ptr 0 0, bidA b, .r (.int .i64 now)] (rm1 (rvT R S) b.a t) (fun v h' => v = .r (.bool false) ∧ h' = rm1 (rvT R S) b.a t) := by
  have cV := w_bValid b hb (rtO R S b.r)
  rw [hv] at cV
  refine spec_of_go (N := 47) Try.func35 rfl (by decide) rfl rfl ?_
  refine zB ?_
  refine ar_new tOk rfl rfl rfl trivial ?_
  refine pA ?_
  refine zC ?_
  iterate 2 refine pA ?_
  refine pB ?_
  refine ar_obj [0, 1, 2] (w_find1 (rvT R S) b.a t) rfl rfl (handed_of rfl rfl (by decide) ⟨rfl, rfl, rfl, rfl, rfl, rfl, rfl, rfl, rfl, trivial⟩) rfl rfl rfl rfl ?_
  rintro _ _ ⟨rfl, rfl⟩
  refine ⟨_, _, rfl, ?_⟩
  refine ar_ent (ent_same (h' := ⟨4, [(0, some (.mixed [.r (rvT R S), .sl 1 0 1 1, .r (.bool true)])), (1, some (.mixed [.ptr 2 0])), (2, some (.mixed (entC b.a t (.r .nil)))), (3, some (.mixed ((bidC b).map .r)))], false⟩) rfl rfl ⟨rfl, rfl, rfl, rfl, trivial⟩) ?_
  refine pA ?_
  refine zA ?_
  refine ag_seq ?_
  refine ag_draw0 (by kernel_rfl) (by kernel_rfl) ?_
  iterate 5 refine aq_pure tOk rfl rfl rfl trivial ?_
  refine aq_load0 tOk rfl (by kernel_rfl) rfl rfl trivial ?_
  refine aq_pureE tOk (.r (.bool false)) rfl (by show AVal.r (.bool _) = _; exact eqB (decide_eq_false hl)) rfl (by rfl) trivial ?_
  iterate 5 refine aq_pure tOk rfl rfl rfl trivial ?_
  refine aq_load0 tOk rfl (by kernel_rfl) rfl rfl trivial ?_
  refine aq_pure tOk rfl rfl rfl trivial ?_
  refine aq_qd0 (qop_objR [3] (w_CB0 b) (by rintro _ _ ⟨rfl, rfl⟩; exact ⟨rfl, rfl⟩) rfl rfl (handed_of rfl rfl (by decide) ⟨rfl, rfl, rfl, trivial⟩) rfl rfl) (by kernel_rfl) rfl rfl rfl rfl ?_
  iterate 2 refine aq_pure tOk rfl rfl rfl trivial ?_
  refine aq_load0 tOk rfl (by kernel_rfl) rfl rfl trivial ?_
  iterate 2 refine aq_pure tOk rfl rfl rfl trivial ?_
  refine aq_load0 tOk rfl (by kernel_rfl) rfl rfl trivial ?_
  refine aq_qd0 (qop_objR [0, 1, 2] (w_root1 R S b.a t b.r hr) (by rintro _ _ ⟨rfl, rfl⟩; exact ⟨rfl, rfl⟩) rfl rfl (handed_of rfl rfl (by decide) ⟨rfl, rfl, rfl, rfl, rfl, rfl, rfl, rfl, rfl, trivial⟩) rfl rfl) (by kernel_rfl) rfl rfl rfl rfl ?_
  refine aq_pur (cV) rfl rfl rfl rfl rfl rfl rfl ?_
  iterate 2 refine aq_pure tOk rfl rfl rfl trivial ?_
  refine aq_nil rfl ?_
  refine ag_true rfl (by rfl) ?_
  refine zB ?_
  refine pA ?_
  refine ar_nil ?_
  refine ag_ent (ent_weak (g' := [(6, .r (.bool false))]) (h' := rm1 (rvT R S) b.a t) [0, 1, 2] rfl rfl rfl rfl ?_ ?_ rfl) ?_
  · exact ⟨⟨rfl, rfl⟩, trivial⟩
  · exact ⟨⟨rfl, rfl, rfl⟩, ⟨rfl, rfl, rfl⟩, ⟨rfl, rfl, rfl⟩, trivial⟩
  refine ag_ret tOk Try.func35 rfl rfl (by first | trivial | exact ⟨trivial, trivial⟩ | simp) ?_
  exact ⟨rfl, rfl⟩
theorem w_Bid1O (R S : List UInt8) (t : Int) (b : BidV) (now : Int) (hb : b.ok) (hr : -9223372036854775808 ≤ b.r ∧ b.r ≤ 9223372036854775807) (hl : ¬ now > b.e) (hv : valB (rtO R S b.r) b = true) : Spec Try.prog 35 [.ptr 0 0, bidA b, .r (.int .i64 now)] (rm1 (rvT R S) b.a t) (fun v h' => v = .r (.bool true) ∧ h' = rm2 (rvT R S) b.a t [b]) := by
  have cV := w_bValid b hb (rtO R S b.r)
  rw [hv] at cV
  refine spec_of_go (N := 47) Try.func35 rfl (by decide) rfl rfl ?_
  refine zB ?_
  refine ar_new tOk rfl rfl rfl trivial ?_
  refine pA ?_
  refine zC ?_
  iterate 2 refine pA ?_
  refine pB ?_
  refine ar_obj [0, 1, 2] (w_find1 (rvT R S) b.a t) rfl rfl (handed_of rfl rfl (by decide) ⟨rfl, rfl, rfl, rfl, rfl, rfl, rfl, rfl, rfl, trivial⟩) rfl rfl rfl rfl ?_
  rintro _ _ ⟨rfl, rfl⟩
  refine ⟨_, _, rfl, ?_⟩
  refine ar_ent (ent_same (h' := ⟨4, [(0, some (.mixed [.r (rvT R S), .sl 1 0 1 1, .r (.bool true)])), (1, some (.mixed [.ptr 2 0])), (2, some (.mixed (entC b.a t (.r .nil)))), (3, some (.mixed ((bidC b).map .r)))], false⟩) rfl rfl ⟨rfl, rfl, rfl, rfl, trivial⟩) ?_
  refine pA ?_
  refine zA ?_
  refine ag_seq ?_
  refine ag_draw0 (by kernel_rfl) (by kernel_rfl) ?_
  iterate 5 refine aq_pure tOk rfl rfl rfl trivial ?_
  refine aq_load0 tOk rfl (by kernel_rfl) rfl rfl trivial ?_
  refine aq_pureE tOk (.r (.bool false)) rfl (by show AVal.r (.bool _) = _; exact eqB (decide_eq_false hl)) rfl (by rfl) trivial ?_
  iterate 5 refine aq_pure tOk rfl rfl rfl trivial ?_
  refine aq_load0 tOk rfl (by kernel_rfl) rfl rfl trivial ?_
  refine aq_pure tOk rfl rfl rfl trivial ?_
  refine aq_qd0 (qop_objR [3] (w_CB0 b) (by rintro _ _ ⟨rfl, rfl⟩; exact ⟨rfl, rfl⟩) rfl rfl (handed_of rfl rfl (by decide) ⟨rfl, rfl, rfl, trivial⟩) rfl rfl) (by kernel_rfl) rfl rfl rfl rfl ?_
  iterate 2 refine aq_pure tOk rfl rfl rfl trivial ?_
  refine aq_load0 tOk rfl (by kernel_rfl) rfl rfl trivial ?_
  iterate 2 refine aq_pure tOk rfl rfl rfl trivial ?_
  refine aq_load0 tOk rfl (by kernel_rfl) rfl rfl trivial ?_
  refine aq_qd0 (qop_objR [0, 1, 2] (w_root1 R S b.a t b.r hr) (by rintro _ _ ⟨rfl, rfl⟩; exact ⟨rfl, rfl⟩) rfl rfl (handed_of rfl rfl (by decide) ⟨rfl, rfl, rfl, rfl, rfl, rfl, rfl, rfl, rfl, trivial⟩) rfl rfl) (by kernel_rfl) rfl rfl rfl rfl ?_
  refine aq_pur (cV) rfl rfl rfl rfl rfl rfl rfl ?_
  iterate 2 refine aq_pure tOk rfl rfl rfl trivial ?_
  refine aq_nil rfl ?_
  refine ag_false rfl (by rfl) ?_
  refine ag_skip ?_
  refine ag_seq ?_
  apply ag_draw2 [44] (by kernel_rfl) (by kernel_rfl)
  iterate 4 refine aq_pure tOk rfl rfl rfl trivial ?_
  iterate 2 refine aq_load0 tOk rfl (by kernel_rfl) rfl rfl trivial ?_
  refine aq_qd (fun _ => qop_buildRoK tOk (v := .ro 1 (bidC b)) (by kernel_rfl) (by kernel_rfl)) rfl rfl rfl rfl ?_
  refine' aq_app20 tOk rfl rfl rfl rfl rfl ?_ ?_
  rotate_left 1
  · refine ⟨⟨?_, ?_, ?_⟩, ⟨?_, ?_⟩, ⟨?_, ?_⟩, ?_⟩ <;> first | trivial | decide | omega | (simp; done) | (simp; omega) | (simp [bidsC, bidC]; done)
  iterate 2 refine aq_pure tOk rfl rfl rfl trivial ?_
  refine aq_store21 tOk rfl rfl rfl rfl trivial ?_
  refine aq_nil rfl ?_
  refine zB ?_
  refine pA ?_
  refine ar_nil ?_
  refine ag_ent (ent_weak (g' := [(6, .r (.bool true))]) (h' := rm2 (rvT R S) b.a t [b]) [0, 1, 2, 4] rfl rfl rfl rfl ?_ ?_ rfl) ?_
  · exact ⟨⟨rfl, rfl⟩, trivial⟩
  · exact ⟨⟨rfl, rfl, rfl⟩, ⟨rfl, rfl, rfl⟩, ⟨rfl, rfl, rfl⟩, ⟨rfl, rfl, eqPl (by simp [bidsC, cutA, bidC])⟩, trivial⟩
  refine ag_ret tOk Try.func35 rfl rfl (by first | trivial | exact ⟨trivial, trivial⟩ | simp) ?_
  exact ⟨rfl, rfl⟩
theorem w_Bid2L (R S : List UInt8) (t : Int) (p : BidV) (b : BidV) (now : Int) (hpb : p.r ≠ b.r) (hl : now > b.e) : Spec Try.prog 35 [.ptr 0 0, bidA b, .r (.int .i64 now)] (rm2 (rvT R S) b.a t [p]) (fun v h' => v = .r (.bool false) ∧ h' = rm2 (rvT R S) b.a t [p]) := by
  refine spec_of_go (N := 47) Try.func35 rfl (by decide) rfl rfl ?_
  refine zB ?_
  refine ar_new tOk rfl rfl rfl trivial ?_
  refine pA ?_
  refine zC ?_
  iterate 2 refine pA ?_
  refine pB ?_
  refine ar_obj [0, 1, 2, 3] (w_find2 (rvT R S) b.a t [p]) rfl rfl (handed_of rfl rfl (by decide) ⟨rfl, rfl, rfl, rfl, rfl, rfl, rfl, rfl, rfl, rfl, rfl, rfl, trivial⟩) rfl rfl rfl rfl ?_
  rintro _ _ ⟨rfl, rfl⟩
  refine ⟨_, _, rfl, ?_⟩
  refine ar_ent (ent_same (h' := ⟨5, [(0, some (.mixed [.r (rvT R S), .sl 1 0 1 1, .r (.bool true)])), (1, some (.mixed [.ptr 2 0])), (2, some (.mixed (entC b.a t (.sl 3 0 [p].length 16)))), (3, some (.plain (bidsC [p]))), (4, some (.mixed ((bidC b).map .r)))], false⟩) rfl rfl ⟨rfl, rfl, rfl, rfl, rfl, trivial⟩) ?_
  refine pA ?_
  refine zA ?_
  refine ag_seq ?_
  refine ag_draw0 (by kernel_rfl) (by kernel_rfl) ?_
  iterate 5 refine aq_pure tOk rfl rfl rfl trivial ?_
  refine aq_load0 tOk rfl (by kernel_rfl) rfl rfl trivial ?_
  refine aq_pureE tOk (.r (.bool true)) rfl (by show AVal.r (.bool _) = _; exact eqB (decide_eq_true hl)) rfl (by rfl) trivial ?_
  iterate 2 refine aq_pure tOk rfl rfl rfl trivial ?_
  iterate 6 refine aq_skip rfl rfl rfl ?_
  iterate 2 refine aq_pure tOk rfl rfl rfl trivial ?_
  iterate 7 refine aq_skip rfl rfl rfl ?_
  refine aq_pure tOk rfl rfl rfl trivial ?_
  refine aq_nil rfl ?_
  refine ag_true rfl (by rfl) ?_
  refine zB ?_
  refine pA ?_
  refine ar_nil ?_
  refine ag_ent (ent_weak (g' := [(6, .r (.bool false))]) (h' := rm2 (rvT R S) b.a t [p]) [0, 1, 2, 3] rfl rfl rfl rfl ?_ ?_ rfl) ?_
  · exact ⟨⟨rfl, rfl⟩, trivial⟩
  · exact ⟨⟨rfl, rfl, rfl⟩, ⟨rfl, rfl, rfl⟩, ⟨rfl, rfl, rfl⟩, ⟨rfl, rfl, rfl⟩, trivial⟩
  refine ag_ret tOk Try.func35 rfl rfl (by first | trivial | exact ⟨trivial, trivial⟩ | simp) ?_
  exact ⟨rfl, rfl⟩
theorem w_Bid2B (R S : List UInt8) (t : Int) (p : BidV) (b : BidV) (now : Int) (hpb : p.r ≠ b.r) (hb : b.ok) (hr : -9223372036854775808 ≤ b.r ∧ b.r ≤ 9223372036854775807) (hl : ¬ now > b.e) (hv : valB (rtO R S b.r) b = false) : Spec Try.prog 35 [.ptr 0 0, bidA b, .r (.int .i64 now)] (rm2 (rvT R S) b.a t [p]) (fun v h' => v = .r (.bool false) ∧ h' = rm2 (rvT R S) b.a t [p]) := by
  have cV := w_bValid b hb (rtO R S b.r)
  rw [hv] at cV
  refine spec_of_go (N := 47) Try.func35 rfl (by decide) rfl rfl ?_
  refine zB ?_
  refine ar_new tOk rfl rfl rfl trivial ?_
  refine pA ?_
  refine zC ?_
  iterate 2 refine pA ?_
  refine pB ?_
  refine ar_obj [0, 1, 2, 3] (w_find2 (rvT R S) b.a t [p]) rfl rfl (handed_of rfl rfl (by decide) ⟨rfl, rfl, rfl, rfl, rfl, rfl, rfl, rfl, rfl, rfl, rfl, rfl, trivial⟩) rfl rfl rfl rfl ?_
  rintro _ _ ⟨rfl, rfl⟩
  refine ⟨_, _, rfl, ?_⟩
  refine ar_ent (ent_same (h' := ⟨5, [(0, some (.mixed [.r (rvT R S), .sl 1 0 1 1, .r (.bool true)])), (1, some (.mixed [.ptr 2 0])), (2, some (.mixed (entC b.a t (.sl 3 0 [p].length 16)))), (3, some (.plain (bidsC [p]))), (4, some (.mixed ((bidC b).map .r)))], false⟩) rfl rfl ⟨rfl, rfl, rfl, rfl, rfl, trivial⟩) ?_
  refine pA ?_
  refine zA ?_
  refine ag_seq ?_
  refine ag_draw0 (by kernel_rfl) (by kernel_rfl) ?_
  iterate 5 refine aq_pure tOk rfl rfl rfl trivial ?_
  refine aq_load0 tOk rfl (by kernel_rfl) rfl rfl trivial ?_
  refine aq_pureE tOk (.r (.bool false)) rfl (by show AVal.r (.bool _) = _; exact eqB (decide_eq_false hl)) rfl (by rfl) trivial ?_
  iterate 5 refine aq_pure tOk rfl rfl rfl trivial ?_
  refine aq_load0 tOk rfl (by kernel_rfl) rfl rfl trivial ?_
  refine aq_pure tOk rfl rfl rfl trivial ?_
  refine aq_qd0 (qop_objR [3, 4] (w_CB1 p b hpb) (by rintro _ _ ⟨rfl, rfl⟩; exact ⟨rfl, rfl⟩) rfl rfl (handed_of rfl rfl (by decide) ⟨rfl, rfl, rfl, rfl, rfl, rfl, trivial⟩) rfl rfl) (by kernel_rfl) rfl rfl rfl rfl ?_
  iterate 2 refine aq_pure tOk rfl rfl rfl trivial ?_
  refine aq_load0 tOk rfl (by kernel_rfl) rfl rfl trivial ?_
  iterate 2 refine aq_pure tOk rfl rfl rfl trivial ?_
  refine aq_load0 tOk rfl (by kernel_rfl) rfl rfl trivial ?_
  refine aq_qd0 (qop_objR [0, 1, 2, 3] (w_root2 R S b.a t p b.r hr) (by rintro _ _ ⟨rfl, rfl⟩; exact ⟨rfl, rfl⟩) rfl rfl (handed_of rfl rfl (by decide) ⟨rfl, rfl, rfl, rfl, rfl, rfl, rfl, rfl, rfl, rfl, rfl, rfl, trivial⟩) rfl rfl) (by kernel_rfl) rfl rfl rfl rfl ?_
  refine aq_pur (cV) rfl rfl rfl rfl rfl rfl rfl ?_
  iterate 2 refine aq_pure tOk rfl rfl rfl trivial ?_
  refine aq_nil rfl ?_
  refine ag_true rfl (by rfl) ?_
  refine zB ?_
  refine pA ?_
  refine ar_nil ?_
  refine ag_ent (ent_weak (g' := [(6, .r (.bool false))]) (h' := rm2 (rvT R S) b.a t [p]) [0, 1, 2, 3] rfl rfl rfl rfl ?_ ?_ rfl) ?_
  · exact ⟨⟨rfl, rfl⟩, trivial⟩
  · exact ⟨⟨rfl, rfl, rfl⟩, ⟨rfl, rfl, rfl⟩, ⟨rfl, rfl, rfl⟩, ⟨rfl, rfl, rfl⟩, trivial⟩
  refine ag_ret tOk Try.func35 rfl rfl (by first | trivial | exact ⟨trivial, trivial⟩ | simp) ?_
  exact ⟨rfl, rfl⟩
theorem w_Bid2O (R S : List UInt8) (t : Int) (p : BidV) (b : BidV) (now : Int) (hpb : p.r ≠ b.r) (hb : b.ok) (hr : -9223372036854775808 ≤ b.r ∧ b.r ≤ 9223372036854775807) (hl : ¬ now > b.e) (hv : valB (rtO R S b.r) b = true) : Spec Try.prog 35 [.ptr 0 0, bidA b, .r (.int .i64 now)] (rm2 (rvT R S) b.a t [p]) (fun v h' => v = .r (.bool true) ∧ h' = rm3 (rvT R S) b.a t [p, b]) := by
  have cV := w_bValid b hb (rtO R S b.r)
  rw [hv] at cV
  refine spec_of_go (N := 47) Try.func35 rfl (by decide) rfl rfl ?_
  refine zB ?_
  refine ar_new tOk rfl rfl rfl trivial ?_
  refine pA ?_
  refine zC ?_
  iterate 2 refine pA ?_
  refine pB ?_
  refine ar_obj [0, 1, 2, 3] (w_find2 (rvT R S) b.a t [p]) rfl rfl (handed_of rfl rfl (by decide) ⟨rfl, rfl, rfl, rfl, rfl, rfl, rfl, rfl, rfl, rfl, rfl, rfl, trivial⟩) rfl rfl rfl rfl ?_
  rintro _ _ ⟨rfl, rfl⟩
  refine ⟨_, _, rfl, ?_⟩
  refine ar_ent (ent_same (h' := ⟨5, [(0, some (.mixed [.r (rvT R S), .sl 1 0 1 1, .r (.bool true)])), (1, some (.mixed [.ptr 2 0])), (2, some (.mixed (entC b.a t (.sl 3 0 [p].length 16)))), (3, some (.plain (bidsC [p]))), (4, some (.mixed ((bidC b).map .r)))], false⟩) rfl rfl ⟨rfl, rfl, rfl, rfl, rfl, trivial⟩) ?_
  refine pA ?_
  refine zA ?_
  refine ag_seq ?_
  refine ag_draw0 (by kernel_rfl) (by kernel_rfl) ?_
  iterate 5 refine aq_pure tOk rfl rfl rfl trivial ?_
  refine aq_load0 tOk rfl (by kernel_rfl) rfl rfl trivial ?_
  refine aq_pureE tOk (.r (.bool false)) rfl (by show AVal.r (.bool _) = _; exact eqB (decide_eq_false hl)) rfl (by rfl) trivial ?_
  iterate 5 refine aq_pure tOk rfl rfl rfl trivial ?_
  refine aq_load0 tOk rfl (by kernel_rfl) rfl rfl trivial ?_
  refine aq_pure tOk rfl rfl rfl trivial ?_
  refine aq_qd0 (qop_objR [3, 4] (w_CB1 p b hpb) (by rintro _ _ ⟨rfl, rfl⟩; exact ⟨rfl, rfl⟩) rfl rfl (handed_of rfl rfl (by decide) ⟨rfl, rfl, rfl, rfl, rfl, rfl, trivial⟩) rfl rfl) (by kernel_rfl) rfl rfl rfl rfl ?_
  iterate 2 refine aq_pure tOk rfl rfl rfl trivial ?_
  refine aq_load0 tOk rfl (by kernel_rfl) rfl rfl trivial ?_
  iterate 2 refine aq_pure tOk rfl rfl rfl trivial ?_
  refine aq_load0 tOk rfl (by kernel_rfl) rfl rfl trivial ?_
  refine aq_qd0 (qop_objR [0, 1, 2, 3] (w_root2 R S b.a t p b.r hr) (by rintro _ _ ⟨rfl, rfl⟩; exact ⟨rfl, rfl⟩) rfl rfl (handed_of rfl rfl (by decide) ⟨rfl, rfl, rfl, rfl, rfl, rfl, rfl, rfl, rfl, rfl, rfl, rfl, trivial⟩) rfl rfl) (by kernel_rfl) rfl rfl rfl rfl ?_
  refine aq_pur (cV) rfl rfl rfl rfl rfl rfl rfl ?_
  iterate 2 refine aq_pure tOk rfl rfl rfl trivial ?_
  refine aq_nil rfl ?_
  refine ag_false rfl (by rfl) ?_
  refine ag_skip ?_
  refine ag_seq ?_
  apply ag_draw2 [44] (by kernel_rfl) (by kernel_rfl)
  iterate 4 refine aq_pure tOk rfl rfl rfl trivial ?_
  iterate 2 refine aq_load0 tOk rfl (by kernel_rfl) rfl rfl trivial ?_
  refine aq_qd (fun _ => qop_buildRoK tOk (v := .ro 1 (bidC b)) (by kernel_rfl) (by kernel_rfl)) rfl rfl rfl rfl ?_
  refine' aq_app20 tOk rfl rfl rfl rfl rfl ?_ ?_
  rotate_left 1
  · refine ⟨⟨?_, ?_, ?_⟩, ⟨?_, ?_⟩, ⟨?_, ?_⟩, ?_⟩ <;> first | trivial | decide | omega | (simp; done) | (simp; omega) | (simp [bidsC, bidC]; done)
  iterate 2 refine aq_pure tOk rfl rfl rfl trivial ?_
  refine aq_store21 tOk rfl rfl rfl rfl trivial ?_
  refine aq_nil rfl ?_
  refine zB ?_
  refine pA ?_
  refine ar_nil ?_
  refine ag_ent (ent_weak (g' := [(6, .r (.bool true))]) (h' := rm3 (rvT R S) b.a t [p, b]) [0, 1, 2, 3, 5] rfl rfl rfl rfl ?_ ?_ rfl) ?_
  · exact ⟨⟨rfl, rfl⟩, trivial⟩
  · exact ⟨⟨rfl, rfl, rfl⟩, ⟨rfl, rfl, rfl⟩, ⟨rfl, rfl, rfl⟩, ⟨rfl, rfl, eqPl (by simp [bidsC, cutA, bidC])⟩, trivial⟩
  refine ag_ret tOk Try.func35 rfl rfl (by first | trivial | exact ⟨trivial, trivial⟩ | simp) ?_
  exact ⟨rfl, rfl⟩
end Go.Proofs.Ytnodpljgcdkbkaa


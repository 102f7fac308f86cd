/-
  WALKS: auctions: alive; AuctionNobody. (Printed by gen.py out of w_auc4.py.)
  WALKS: the law BidBack. (Printed by gen.py out of w_lbid2.py.)
  ABSTRACT MACHINE, beside the others: 'x - y' of whole numbers that may wrap.
  WALKS: auctions: root, Bid, Best. (Printed by gen.py out of w_auc5.py.)
  WALKS: auctions: Best. (Printed by gen.py out of w_auc6.py.)
  WALKS: the law AuctionOrder. (Printed by gen.py out of w_auc7.py.)
-/
import Derived.Test.YtccdhgmkjakjkaaGreatAuc2
import Derived.Test.YtccdhgmkjakjkaaGreatBText
import Derived.Test.YtccdhgmkjakjkaaGreatMVer
import Derived.Test.YtccdhgmkjakjkaaGreatMB
namespace Go.Proofs.YtccdhgmkjakjkaaGreat
open Go
set_option maxRecDepth 20000
set_option linter.unusedVariables false
set_option linter.unusedSimpArgs false
def aX19 : AskV := ⟨0, 0, 0, 0, 5, 0, 0, 0, [120]⟩
theorem aX19_ok : askE aX19 = 0 := by decide
theorem w_alive19  : Pur Tryz.prog 4 [] (.r (.bool true)) := by
 refine spec_of_go (N := 28) Tryz.func4 rfl (by decide) rfl rfl ?_
 refine zB ?_
 refine pG ?_
 refine ar_obj [] (w_New0) rfl rfl (handed_of rfl rfl (by decide) trivial) rfl rfl rfl rfl ?_
 rintro _ _ ⟨rfl, rfl⟩
 refine ⟨_, _, rfl, ?_⟩
 refine pG ?_
 refine pC ?_ ?_
 ·simp
 refine pC ?_ ?_
 ·simp
 refine pN ?_ ?_
 ·simp
 refine ar_store tOk rfl rfl rfl trivial ?_
 refine zC ?_
 refine pA ?_
 refine ar_qd rfl (qop_objR [0] (w_AsksE (.ro 0 []) true) (by rintro _ _ ⟨rfl, rfl⟩; exact ⟨rfl, rfl⟩) rfl rfl (handed_of rfl rfl (by decide) ⟨rfl, rfl, rfl, trivial⟩) rfl rfl) rfl rfl rfl rfl ?_
 iterate 3 refine pA ?_
 refine ar_ent (ent_reg 10 (.r (.bool true)) (by show AVal.r (.bool _) = _; exact eqB (by rfl))) ?_
 refine pA ?_
 refine pB ?_
 refine ar_obj [0] (w_OpenS (.ro 0 []) aX19 3 aX19_ok (by decide)) rfl rfl (handed_of rfl rfl (by decide) ⟨rfl, rfl, rfl, trivial⟩) rfl rfl rfl rfl ?_
 rintro _ _ ⟨rfl, rfl⟩
 refine ⟨_, _, rfl, ?_⟩
 refine ar_ent (ent_same (h' := ⟨4, [(0, some (.mixed [.r (.ro 0 []), .sl 2 0 1 1, .r (.bool true)])), (2, some (.mixed [.ptr 3 0])), (3, some (.mixed (entC aX19 3 (.r .nil)))), (1, some (.mixed ((askC aX19).map .r)))], false⟩) rfl rfl ⟨rfl, rfl, rfl, rfl, trivial⟩) ?_
 iterate 3 refine pA ?_
 refine ar_ent (ent_reg 16 (.r (.bool true)) (by show AVal.r (.bool _) = _; exact eqB (by rfl))) ?_
 refine pA ?_
 refine pB ?_
 refine ar_qd rfl (qop_objR [0, 2, 3] (w_Open2 (.ro 0 []) aX19 3 3 aX19_ok) (by rintro _ _ ⟨rfl, rfl⟩; exact ⟨rfl, rfl⟩) rfl rfl (handed_of rfl rfl (by decide) ⟨rfl, rfl, rfl, rfl, rfl, rfl, rfl, rfl, rfl, trivial⟩) rfl rfl) rfl rfl rfl rfl ?_
 iterate 3 refine pA ?_
 refine ar_ent (ent_reg 22 (.r (.bool true)) (by show AVal.r (.bool _) = _; exact eqB (by rfl))) ?_
 refine pA ?_
 refine ar_qd rfl (qop_objR [0, 2, 3] (w_Asks1 (.ro 0 []) aX19 3) (by rintro _ _ ⟨rfl, rfl⟩; exact ⟨rfl, rfl⟩) rfl rfl (handed_of rfl rfl (by decide) ⟨rfl, rfl, rfl, rfl, rfl, rfl, rfl, rfl, rfl, trivial⟩) rfl rfl) rfl rfl rfl rfl ?_
 iterate 3 refine pA ?_
 refine pE ?_
 refine ag_ret tOk Tryz.func4 rfl rfl (by simp) ?_
 rfl
section
variable {P : Program} {T : TTab} {N ix j K : Nat} {ops : Array Oper} {o : Oper} {rest : List Oper} {g : Regs} {ld : List Nat} {Hs : Nat → Hp} {F : Regs → Prop}
end
end Go.Proofs.YtccdhgmkjakjkaaGreat
namespace Go.Proofs.YtccdhgmkjakjkaaGreat
open Go
set_option maxRecDepth 20000
set_option linter.unusedVariables false
set_option linter.unusedSimpArgs false
def seedL (r : Int) : List UInt8 := [114, 111, 117, 116, 101, 114] ++ [UInt8.ofNat (IntKind.u8.wrap r).toNat]
theorem seedL_length (r : Int) : (seedL r).length = 7 := rfl
theorem w_bSeed (r : Int) : Pur Tryz.prog 6 [.r (.int .i64 r)] (.r (.str (seedL r))) := by
 refine spec_of_go (N := 8) Tryz.func6 rfl (by decide) rfl rfl ?_
 refine zB ?_
 refine pG ?_
 iterate 2 refine pA ?_
 refine ar_qd rfl (qop_buildRo tOk rfl ?_ rfl) rfl rfl rfl rfl ?_
 ·repeat any_goals (first | trivial | decide | omega | (simp; done) | (rw [wu8]; omega) | refine ⟨?_, ?_⟩)
 refine pA ?_
 refine pC ?_ ?_
 ·show 7 ≤ 9223372036854775807
  decide
 refine pE ?_
 refine ag_ret tOk Tryz.func6 rfl rfl (by simp) ?_
 rfl
end Go.Proofs.YtccdhgmkjakjkaaGreat
namespace Go.Proofs.YtccdhgmkjakjkaaGreat
open Go
section
variable {P : Program} {N : Nat} {o : Oper} {g : Regs} {h : Hp}
theorem qop_subW {x y : Int} {t t2 : TypeId} {p q : Operand} (hop : o.op = .binOp .sub t p q t2) (hp : evA g p = .r (.int .i64 x)) (hq : evA g q = .r (.int .i64 y)) : QOp P N h h o g (.r (.int .i64 (IntKind.i64.wrap (x - y)))) := by
 intro g' hag X R μ a w Q e5 e6 e7
 rw [hop] at hag
 have hxr := evA_rel (a := a) e6 p
 rw [hag p (by simp [Op.operands]), hp] at hxr
 have hyr := evA_rel (a := a) e6 q
 rw [hag q (by simp [Op.operands]), hq] at hyr
 simp only [ARel, RRel] at hxr hyr
 refine wp_value (u := .int .i64 (IntKind.i64.wrap (x - y))) (w' := w) ?_ ⟨_, R, μ, rfl, by simp [ARel, RRel], e6, e7⟩
 have hg : (eqGuard .sub t p q (.int .i64 x) (.int .i64 y)).run P w = .ok () w := by simp [eqGuard]
 simp only [execOp, hop, hxr, hyr, Sem.run_bind]
 rw [hg]
 simp [binOp, Op.intArith]
end
end Go.Proofs.YtccdhgmkjakjkaaGreat
namespace Go.Proofs.YtccdhgmkjakjkaaGreat
open Go
set_option maxRecDepth 20000
set_option linter.unusedVariables false
set_option linter.unusedSimpArgs false
theorem eqI19 {a b : Int} (h : a = b) : AVal.r (.int .i64 a) = AVal.r (.int .i64 b) := by rw [h]
def rtO (R S : List UInt8) (r : Int) : List UInt8 := if r = 2 then R else if r = 3 then S else []
theorem wrap_out {r : Int} (h : -9223372036854775808 ≤ r ∧ r ≤ 9223372036854775807) (h2 : r ≠ 2) (h3 : r ≠ 3) : IntKind.i64.wrap (r - 2) < 0 ∨ IntKind.i64.wrap (r - 2) ≥ 2 := by
 simp only [IntKind.wrap, IntKind.bits, IntKind.signed]
 simp
 omega
def rvT (R S : List UInt8) : RVal := .ro 2 [.str R, .str S]
def hBd (b : BidV) : Hp := ⟨1, [(0, some (.mixed ((bidC b).map .r)))], false⟩
theorem w_bf (p b : BidV) : Spec Tryz.prog 28 [bidA p, .ptr 0 0] (hBd b) (fun v h' => v = .r (.bool (decide (p.r = b.r))) ∧ h' = hBd b) := by
 refine spec_of_go (N := 9) Tryz.func28 rfl (by decide) rfl rfl ?_
 refine zB ?_
 refine pM ?_
 refine pG ?_
 refine pA ?_
 refine pB ?_
 refine pA ?_
 refine pB ?_
 refine pA ?_
 refine pE ?_
 refine ag_ent (ent_weak (g' := [(3, .r (.bool (decide (p.r = b.r))))]) (h' := hBd b) [0] rfl rfl rfl rfl ?_ ?_ rfl) ?_
 ·exact ⟨⟨rfl, rfl⟩, trivial⟩
 ·exact ⟨⟨rfl, rfl, rfl⟩, trivial⟩
 refine ag_ret tOk Tryz.func28 rfl rfl (by first | trivial | exact ⟨trivial, trivial⟩ | simp) ?_
 exact ⟨rfl, rfl⟩
theorem w_IxB0 (b : BidV) : Spec Tryz.prog 48 [.r .nil, .func 28 [.ptr 0 0]] (hBd b) (fun v h' => v = .r (.int .i64 (-1)) ∧ h' = hBd b) := by
 refine spec_of_go (N := 19) Tryz.func48 rfl (by decide) rfl rfl ?_
 refine zB ?_
 refine pF ?_
 refine zB ?_
 iterate 2 refine pA ?_
 refine pE ?_
 refine ag_block ?_
 refine ag_unroll ?_
 refine zB ?_
 refine pF ?_
 refine vD ?_
 refine ag_exit rfl ?_
 refine zB ?_
 refine pE ?_
 refine ag_ent (ent_weak (g' := [(4, .r (.int .i64 (-1)))]) (h' := hBd b) [0] rfl rfl rfl rfl ?_ ?_ rfl) ?_
 ·exact ⟨⟨rfl, rfl⟩, trivial⟩
 ·exact ⟨⟨rfl, rfl, rfl⟩, trivial⟩
 refine ag_ret tOk Tryz.func48 rfl rfl (by first | trivial | exact ⟨trivial, trivial⟩ | simp) ?_
 exact ⟨rfl, rfl⟩
theorem w_CB0 (b : BidV) : Spec Tryz.prog 27 [.r .nil, .func 28 [.ptr 0 0]] (hBd b) (fun v h' => v = .r (.bool false) ∧ h' = hBd b) := by
 refine spec_of_go (N := 9) Tryz.func27 rfl (by decide) rfl rfl ?_
 refine zB ?_
 refine pG ?_
 iterate 2 refine pA ?_
 refine ar_qd rfl (qop_objR [0] (w_IxB0 b) (by rintro _ _ ⟨rfl, rfl⟩; exact ⟨rfl, rfl⟩) rfl rfl (handed_of rfl rfl (by decide) ⟨rfl, rfl, rfl, trivial⟩) rfl rfl) rfl rfl rfl rfl ?_
 refine pA ?_
 refine pE ?_
 refine ag_ent (ent_weak (g' := [(4, .r (.bool false))]) (h' := hBd b) [0] rfl rfl rfl rfl ?_ ?_ rfl) ?_
 ·exact ⟨⟨rfl, rfl⟩, trivial⟩
 ·exact ⟨⟨rfl, rfl, rfl⟩, trivial⟩
 refine ag_ret tOk Tryz.func27 rfl rfl (by first | trivial | exact ⟨trivial, trivial⟩ | simp) ?_
 exact ⟨rfl, rfl⟩
end Go.Proofs.YtccdhgmkjakjkaaGreat
namespace Go.Proofs.YtccdhgmkjakjkaaGreat
open Go
set_option maxRecDepth 20000
set_option linter.unusedVariables false
set_option linter.unusedSimpArgs false
theorem w_Window (d : Int) : Pur Tryz.prog 31 [.r (.int .i64 d)] (.r (.int .i64 1)) := by
 refine spec_of_go (N := 3) Tryz.func31 rfl (by decide) rfl rfl ?_
 refine zB ?_
 refine pG ?_
 refine pE ?_
 refine ag_ret tOk Tryz.func31 rfl rfl (by simp) ?_
 rfl
end Go.Proofs.YtccdhgmkjakjkaaGreat
namespace Go.Proofs.YtccdhgmkjakjkaaGreat
open Go
set_option maxRecDepth 20000
set_option linter.unusedVariables false
set_option linter.unusedSimpArgs false
def bA (b : BidV) (a : AskV) : BidV := ⟨b.r, a, b.x0, b.x1, b.x2, b.x3, b.e, b.sig⟩
end Go.Proofs.YtccdhgmkjakjkaaGreat

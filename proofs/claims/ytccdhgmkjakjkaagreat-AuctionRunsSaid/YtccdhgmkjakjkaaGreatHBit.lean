/-
  WALKS: the steps of a sum. (Printed by gen.py out of w_hbit.py.)
-/
import Derived.Test.YtccdhgmkjakjkaaGreatTy
import Derived.Test.YtccdhgmkjakjkaaGreatMB
namespace Go.Proofs.YtccdhgmkjakjkaaGreat
open Go
set_option maxRecDepth 20000
set_option linter.unusedVariables false
set_option linter.unusedSimpArgs false
theorem w_rotl (x : Int) (n : Nat) (h1 : 1 ≤ n) (h2 : n ≤ 31) : Pur Tryz.prog 112 [.r (.int .u32 x), .r (.int .i64 (0 - (n : Int)))] (.r (.int .u32 (tu x n))) := by
 have e1 := rot_s ⟨n, by omega⟩ h1
 have e2 := rot_sub ⟨n, by omega⟩ h1
 simp only at e1 e2
 refine spec_of_go (N := 17) Tryz.func112 rfl (by decide) rfl rfl ?_
 refine zB ?_
 refine pG ?_
 iterate 3 refine pA ?_
 refine ar_ent (ent_reg 8 (.r (.int .u64 ((32 - n : Nat) : Int))) (by show AVal.r (.int _ _) = _; exact eqI  e1)) ?_
 refine pG ?_
 iterate 2 refine pA ?_
 refine pC ?_ ?_
 ·exact ⟨trivial, by omega⟩
 iterate 3 refine pA ?_
 refine ar_ent (ent_reg 14 (.r (.int .u64 (n : Int))) (by show AVal.r (.int _ _) = _; exact eqI  e2)) ?_
 refine pC ?_ ?_
 ·show (0 : Int) ≤ (n : Int); omega
 refine pA ?_
 refine pE ?_
 refine ag_ret tOk Tryz.func112 rfl rfl (by simp) ?_
 refine eqI ?_
 show ibit .or .u32 _ _ = tu x n
 rw [show tu x n = oo _ _ from rfl, oo_comm]
 show ibit .or .u32 (IntKind.u32.wrap (x * 2 ^ (min ((32 - n : Nat) : Int).toNat 32))) (x.fdiv (2 ^ (min (n : Int).toNat 32))) = ibit .or .u32 (IntKind.u32.wrap (x * 2 ^ (32 - n))) (x.fdiv (2 ^ n))
 rw [show min ((32 - n : Nat) : Int).toNat 32 = 32 - n by omega, show min (n : Int).toNat 32 = n by omega]
theorem w_rotr (x : Int) (n : Nat) (h1 : 1 ≤ n) (h2 : n ≤ 31) : Pur Tryz.prog 111 [.r (.int .u32 x), .r (.int .i64 (n : Int))] (.r (.int .u32 (tu x n))) := by
 refine spec_of_go (N := 9) Tryz.func111 rfl (by decide) rfl rfl ?_
 refine zB ?_
 refine pG ?_
 iterate 2 refine pA ?_
 refine pC ?_ ?_
 ·unfold inI64; omega
 refine ar_pur (w_rotl x n h1 h2) rfl rfl rfl rfl rfl rfl rfl ?_
 refine pE ?_
 refine ag_ret tOk Tryz.func111 rfl rfl (by simp) ?_
 rfl
theorem w_turn (x : Int) (n : Nat) (h1 : 1 ≤ n) (h2 : n ≤ 31) : Pur Tryz.prog 106 [.r (.int .u32 x), .r (.int .i64 (n : Int))] (.r (.int .u32 (tu x n))) := by
 refine spec_of_go (N := 15) Tryz.func106 rfl (by decide) rfl rfl ?_
 refine zB ?_
 refine pG ?_
 iterate 3 refine pA ?_
 refine ar_ent (ent_reg 7 (.r (.int .u64 (n : Int))) (by show AVal.r (.int _ _) = _; exact eqI  (by rw [wu64]; omega))) ?_
 refine pC ?_ ?_
 ·show (0 : Int) ≤ (n : Int); omega
 iterate 2 refine pA ?_
 refine pC ?_ ?_
 ·unfold inI64; omega
 refine pA ?_
 refine ar_ent (ent_reg 12 (.r (.int .u64 ((32 - n : Nat) : Int))) (by show AVal.r (.int _ _) = _; exact eqI  (by rw [wu64]; omega))) ?_
 refine pC ?_ ?_
 ·exact ⟨trivial, by omega⟩
 refine pA ?_
 refine pE ?_
 refine ag_ret tOk Tryz.func106 rfl rfl (by simp) ?_
 refine eqI ?_
 show ibit .or .u32 (x.fdiv (2 ^ (min (n : Int).toNat 32))) (IntKind.u32.wrap (x * 2 ^ (min ((32 - n : Nat) : Int).toNat 32))) = tu x n
 rw [show min ((32 - n : Nat) : Int).toNat 32 = 32 - n by omega, show min (n : Int).toNat 32 = n by omega]
 rfl
theorem w_threeT (x : Int) (a b c : Nat) (a1 : 1 ≤ a) (a2 : a ≤ 31) (b1 : 1 ≤ b) (b2 : b ≤ 31) (c1 : 1 ≤ c) (c2 : c ≤ 31) : Pur Tryz.prog 109 [.r (.int .u32 x), .r (.int .i64 (a : Int)), .r (.int .i64 (b : Int)), .r (.int .i64 (c : Int)), .r (.bool true)] (.r (.int .u32 (xo (xo (tu x a) (tu x b)) (sr x c)))) := by
 refine spec_of_go (N := 34) Tryz.func109 rfl (by decide) rfl rfl ?_
 refine zB ?_
 refine pF ?_
 refine zB ?_
 refine pE ?_
 refine ag_true rfl (rfl) ?_
 refine ag_seq ?_
 refine qD ?_
 iterate 2 refine qA ?_
 refine aq_pur (w_rotr x a a1 a2) rfl rfl rfl rfl rfl rfl rfl ?_
 iterate 2 refine qA ?_
 refine aq_pur (w_rotr x b b1 b2) rfl rfl rfl rfl rfl rfl rfl ?_
 iterate 3 refine qA ?_
 refine qB ?_ ?_
 ·show (0 : Int) ≤ (c : Int); omega
 refine qA ?_
 refine qE ?_
 refine ag_ret tOk Tryz.func109 rfl rfl (by simp) ?_
 refine eqI ?_
 show xo (xo (tu x a) (tu x b)) (x.fdiv (2 ^ (min (c : Int).toNat 32))) = _
 rw [show min (c : Int).toNat 32 = c by omega]
 rfl
theorem w_threeF (x : Int) (a b c : Nat) (a1 : 1 ≤ a) (a2 : a ≤ 31) (b1 : 1 ≤ b) (b2 : b ≤ 31) (c1 : 1 ≤ c) (c2 : c ≤ 31) : Pur Tryz.prog 109 [.r (.int .u32 x), .r (.int .i64 (a : Int)), .r (.int .i64 (b : Int)), .r (.int .i64 (c : Int)), .r (.bool false)] (.r (.int .u32 (xo (xo (tu x a) (tu x b)) (tu x c)))) := by
 refine spec_of_go (N := 34) Tryz.func109 rfl (by decide) rfl rfl ?_
 refine zB ?_
 refine pF ?_
 refine zB ?_
 refine pE ?_
 refine ag_false rfl (rfl) ?_
 refine ag_skip ?_
 refine zB ?_
 iterate 2 refine pA ?_
 refine ar_pur (w_rotr x a a1 a2) rfl rfl rfl rfl rfl rfl rfl ?_
 iterate 2 refine pA ?_
 refine ar_pur (w_rotr x b b1 b2) rfl rfl rfl rfl rfl rfl rfl ?_
 iterate 3 refine pA ?_
 refine ar_pur (w_rotr x c c1 c2) rfl rfl rfl rfl rfl rfl rfl ?_
 refine pA ?_
 refine pE ?_
 refine ag_ret tOk Tryz.func109 rfl rfl (by simp) ?_
 rfl
theorem w_round (s : Q8) (kw : Int) : Pur Tryz.prog 104 [s.av, .r (.int .u32 kw)] (rnd s kw).av := by
 refine spec_of_go (N := 69) Tryz.func104 rfl (by decide) rfl rfl ?_
 refine zB ?_
 refine pM ?_
 refine pN ?_ ?_
 ·simp
 refine zC ?_
 refine pC ?_ ?_
 ·first | trivial | omega | (unfold inI64; omega) | (refine ⟨?_, ?_⟩ <;> first | trivial | rfl | omega | simp) | decide
 refine pB ?_
 refine pF ?_
 refine qD ?_
 refine qB ?_ ?_
 ·first | trivial | omega | (unfold inI64; omega) | (refine ⟨?_, ?_⟩ <;> first | trivial | rfl | omega | simp) | decide
 refine qL ?_
 refine qA ?_
 refine aq_pur (w_threeF s.e 6 11 25 (by decide) (by decide) (by decide) (by decide) (by decide) (by decide)) rfl rfl rfl rfl rfl rfl rfl ?_
 iterate 2 refine qA ?_
 refine qB ?_ ?_
 ·first | trivial | omega | (unfold inI64; omega) | (refine ⟨?_, ?_⟩ <;> first | trivial | rfl | omega | simp) | decide
 refine qL ?_
 iterate 3 refine qA ?_
 refine qB ?_ ?_
 ·first | trivial | omega | (unfold inI64; omega) | (refine ⟨?_, ?_⟩ <;> first | trivial | rfl | omega | simp) | decide
 refine qL ?_
 iterate 5 refine qA ?_
 refine qE ?_
 refine ag_seq ?_
 refine qD ?_
 refine qB ?_ ?_
 ·first | trivial | omega | (unfold inI64; omega) | (refine ⟨?_, ?_⟩ <;> first | trivial | rfl | omega | simp) | decide
 refine qL ?_
 refine aq_pur (w_threeF s.a 2 13 22 (by decide) (by decide) (by decide) (by decide) (by decide) (by decide)) rfl rfl rfl rfl rfl rfl rfl ?_
 refine qB ?_ ?_
 ·first | trivial | omega | (unfold inI64; omega) | (refine ⟨?_, ?_⟩ <;> first | trivial | rfl | omega | simp) | decide
 refine qL ?_
 refine qB ?_ ?_
 ·first | trivial | omega | (unfold inI64; omega) | (refine ⟨?_, ?_⟩ <;> first | trivial | rfl | omega | simp) | decide
 refine qL ?_
 refine qA ?_
 refine qB ?_ ?_
 ·first | trivial | omega | (unfold inI64; omega) | (refine ⟨?_, ?_⟩ <;> first | trivial | rfl | omega | simp) | decide
 refine qL ?_
 refine qB ?_ ?_
 ·first | trivial | omega | (unfold inI64; omega) | (refine ⟨?_, ?_⟩ <;> first | trivial | rfl | omega | simp) | decide
 refine qL ?_
 iterate 2 refine qA ?_
 refine qB ?_ ?_
 ·first | trivial | omega | (unfold inI64; omega) | (refine ⟨?_, ?_⟩ <;> first | trivial | rfl | omega | simp) | decide
 refine qL ?_
 refine qB ?_ ?_
 ·first | trivial | omega | (unfold inI64; omega) | (refine ⟨?_, ?_⟩ <;> first | trivial | rfl | omega | simp) | decide
 refine qL ?_
 iterate 3 refine qA ?_
 refine qE ?_
 refine zB ?_
 iterate 3 refine pA ?_
 refine pC ?_ ?_
 ·first | trivial | omega | (unfold inI64; omega) | (refine ⟨?_, ?_⟩ <;> first | trivial | rfl | omega | simp) | decide
 refine pB ?_
 refine pC ?_ ?_
 ·first | trivial | omega | (unfold inI64; omega) | (refine ⟨?_, ?_⟩ <;> first | trivial | rfl | omega | simp) | decide
 refine pB ?_
 refine pC ?_ ?_
 ·first | trivial | omega | (unfold inI64; omega) | (refine ⟨?_, ?_⟩ <;> first | trivial | rfl | omega | simp) | decide
 refine pB ?_
 refine pC ?_ ?_
 ·first | trivial | omega | (unfold inI64; omega) | (refine ⟨?_, ?_⟩ <;> first | trivial | rfl | omega | simp) | decide
 refine pB ?_
 iterate 2 refine pA ?_
 refine pC ?_ ?_
 ·first | trivial | omega | (unfold inI64; omega) | (refine ⟨?_, ?_⟩ <;> first | trivial | rfl | omega | simp) | decide
 refine pB ?_
 refine pC ?_ ?_
 ·first | trivial | omega | (unfold inI64; omega) | (refine ⟨?_, ?_⟩ <;> first | trivial | rfl | omega | simp) | decide
 refine pB ?_
 refine pC ?_ ?_
 ·first | trivial | omega | (unfold inI64; omega) | (refine ⟨?_, ?_⟩ <;> first | trivial | rfl | omega | simp) | decide
 refine pB ?_
 refine pC ?_ ?_
 ·simp
 refine ar_store tOk rfl rfl rfl trivial ?_
 refine ar_nil ?_
 refine ag_ret tOk Tryz.func104 rfl rfl (by simp) ?_
 rfl
end Go.Proofs.YtccdhgmkjakjkaaGreat

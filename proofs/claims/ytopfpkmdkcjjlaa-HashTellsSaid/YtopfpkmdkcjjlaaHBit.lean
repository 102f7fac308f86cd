/-
  WALKS: the steps of a sum. (Printed by gen.py out of w_hbit.py.)
-/
import Derived.Test.YtopfpkmdkcjjlaaTy
import Derived.Test.YtopfpkmdkcjjlaaMB
namespace Go.Proofs.Ytopfpkmdkcjjlaa
open Go
set_option maxRecDepth 20000
set_option linter.unusedVariables false
set_option linter.unusedSimpArgs false
theorem w_rotl (x : Int) (n : Nat) (h1 : 1 ≤ n) (h2 : n ≤ 31) : Pur Try.prog 79 [.r (.int .u32 x), .r (.int .i64 (0 - (n : Int)))] (.r (.int .u32 (tu x n))) := by
  have e1 := rot_s ⟨n, by omega⟩ h1
  have e2 := rot_sub ⟨n, by omega⟩ h1
  simp only at e1 e2
  refine spec_of_go (N := 17) Try.func79 rfl (by decide) rfl rfl ?_
  refine zB ?_
  refine pA ?_
  refine zC ?_
  iterate 3 refine pA ?_
  refine ar_ent (ent_reg 8 (.r (.int .u64 ((32 - n : Nat) : Int))) (by show AVal.r (.int _ _) = _; exact eqI  e1)) ?_
  refine pA ?_
  refine zC ?_
  iterate 2 refine pA ?_
  refine ar_pure tOk rfl rfl rfl ?_ ?_
  · exact ⟨trivial, by omega⟩
  iterate 3 refine pA ?_
  refine ar_ent (ent_reg 14 (.r (.int .u64 (n : Int))) (by show AVal.r (.int _ _) = _; exact eqI  e2)) ?_
  refine ar_pure tOk rfl rfl rfl ?_ ?_
  · show (0 : Int) ≤ (n : Int); omega
  iterate 2 refine pA ?_
  refine ar_nil ?_
  refine ag_ret tOk Try.func79 rfl rfl (by simp) ?_
  refine eqI ?_
  show ibit .or .u32 _ _ = tu x n
  rw [show tu x n = oo _ _ from rfl, oo_comm]
  show ibit .or .u32 (IntKind.u32.wrap (x * 2 ^ (min ((32 - n : Nat) : Int).toNat 32))) (x.fdiv (2 ^ (min (n : Int).toNat 32))) = ibit .or .u32 (IntKind.u32.wrap (x * 2 ^ (32 - n))) (x.fdiv (2 ^ n))
  rw [show min ((32 - n : Nat) : Int).toNat 32 = 32 - n by omega, show min (n : Int).toNat 32 = n by omega]
theorem w_rotr (x : Int) (n : Nat) (h1 : 1 ≤ n) (h2 : n ≤ 31) : Pur Try.prog 74 [.r (.int .u32 x), .r (.int .i64 (n : Int))] (.r (.int .u32 (tu x n))) := by
  refine spec_of_go (N := 9) Try.func74 rfl (by decide) rfl rfl ?_
  refine zB ?_
  refine pA ?_
  refine zC ?_
  iterate 2 refine pA ?_
  refine ar_pure tOk rfl rfl rfl ?_ ?_
  · unfold inI64; omega
  refine ar_pur (w_rotl x n h1 h2) rfl rfl rfl rfl rfl rfl rfl ?_
  refine pA ?_
  refine ar_nil ?_
  refine ag_ret tOk Try.func74 rfl rfl (by simp) ?_
  rfl
theorem w_turn (x : Int) (n : Nat) (h1 : 1 ≤ n) (h2 : n ≤ 31) : Pur Try.prog 70 [.r (.int .u32 x), .r (.int .i64 (n : Int))] (.r (.int .u32 (tu x n))) := by
  refine spec_of_go (N := 15) Try.func70 rfl (by decide) rfl rfl ?_
  refine zB ?_
  refine pA ?_
  refine zC ?_
  iterate 3 refine pA ?_
  refine ar_ent (ent_reg 7 (.r (.int .u64 (n : Int))) (by show AVal.r (.int _ _) = _; exact eqI  (by rw [wu64]; omega))) ?_
  refine ar_pure tOk rfl rfl rfl ?_ ?_
  · show (0 : Int) ≤ (n : Int); omega
  iterate 2 refine pA ?_
  refine ar_pure tOk rfl rfl rfl ?_ ?_
  · unfold inI64; omega
  refine pA ?_
  refine ar_ent (ent_reg 12 (.r (.int .u64 ((32 - n : Nat) : Int))) (by show AVal.r (.int _ _) = _; exact eqI  (by rw [wu64]; omega))) ?_
  refine ar_pure tOk rfl rfl rfl ?_ ?_
  · exact ⟨trivial, by omega⟩
  iterate 2 refine pA ?_
  refine ar_nil ?_
  refine ag_ret tOk Try.func70 rfl rfl (by simp) ?_
  refine eqI ?_
  show ibit .or .u32 (x.fdiv (2 ^ (min (n : Int).toNat 32))) (IntKind.u32.wrap (x * 2 ^ (min ((32 - n : Nat) : Int).toNat 32))) = tu x n
  rw [show min ((32 - n : Nat) : Int).toNat 32 = 32 - n by omega, show min (n : Int).toNat 32 = n by omega]
  rfl
theorem w_threeT (x : Int) (a b c : Nat) (a1 : 1 ≤ a) (a2 : a ≤ 31) (b1 : 1 ≤ b) (b2 : b ≤ 31) (c1 : 1 ≤ c) (c2 : c ≤ 31) : Pur Try.prog 68 [.r (.int .u32 x), .r (.int .i64 (a : Int)), .r (.int .i64 (b : Int)), .r (.int .i64 (c : Int)), .r (.bool true)] (.r (.int .u32 (xo (xo (tu x a) (tu x b)) (sr x c)))) := by
  refine spec_of_go (N := 34) Try.func68 rfl (by decide) rfl rfl ?_
  refine zB ?_
  refine pA ?_
  refine zA ?_
  refine zB ?_
  refine pA ?_
  refine ar_nil ?_
  refine ag_true rfl (rfl) ?_
  refine ag_seq ?_
  refine ag_draw0 (by kernel_rfl) (by kernel_rfl) ?_
  iterate 2 refine aq_pure tOk rfl rfl rfl trivial ?_
  refine aq_pur (w_rotr x a a1 a2) rfl rfl rfl rfl rfl rfl rfl ?_
  iterate 2 refine aq_pure tOk rfl rfl rfl trivial ?_
  refine aq_pur (w_rotr x b b1 b2) rfl rfl rfl rfl rfl rfl rfl ?_
  iterate 3 refine aq_pure tOk rfl rfl rfl trivial ?_
  refine aq_pure tOk rfl rfl rfl ?_ ?_
  · show (0 : Int) ≤ (c : Int); omega
  iterate 2 refine aq_pure tOk rfl rfl rfl trivial ?_
  refine aq_nil rfl ?_
  refine ag_ret tOk Try.func68 rfl rfl (by simp) ?_
  refine eqI ?_
  show xo (xo (tu x a) (tu x b)) (x.fdiv (2 ^ (min (c : Int).toNat 32))) = _
  rw [show min (c : Int).toNat 32 = c by omega]
  rfl
theorem w_threeF (x : Int) (a b c : Nat) (a1 : 1 ≤ a) (a2 : a ≤ 31) (b1 : 1 ≤ b) (b2 : b ≤ 31) (c1 : 1 ≤ c) (c2 : c ≤ 31) : Pur Try.prog 68 [.r (.int .u32 x), .r (.int .i64 (a : Int)), .r (.int .i64 (b : Int)), .r (.int .i64 (c : Int)), .r (.bool false)] (.r (.int .u32 (xo (xo (tu x a) (tu x b)) (tu x c)))) := by
  refine spec_of_go (N := 34) Try.func68 rfl (by decide) rfl rfl ?_
  refine zB ?_
  refine pA ?_
  refine zA ?_
  refine zB ?_
  refine pA ?_
  refine ar_nil ?_
  refine ag_false rfl (rfl) ?_
  refine ag_skip ?_
  refine zB ?_
  iterate 2 refine pA ?_
  refine ar_pur (w_rotr x a a1 a2) rfl rfl rfl rfl rfl rfl rfl ?_
  iterate 2 refine pA ?_
  refine ar_pur (w_rotr x b b1 b2) rfl rfl rfl rfl rfl rfl rfl ?_
  iterate 3 refine pA ?_
  refine ar_pur (w_rotr x c c1 c2) rfl rfl rfl rfl rfl rfl rfl ?_
  iterate 2 refine pA ?_
  refine ar_nil ?_
  refine ag_ret tOk Try.func68 rfl rfl (by simp) ?_
  rfl
theorem w_round (s : Q8) (kw : Int) : Pur Try.prog 52 [s.av, .r (.int .u32 kw)] (rnd s kw).av := by
  refine spec_of_go (N := 69) Try.func52 rfl (by decide) rfl rfl ?_
  refine zB ?_
  refine ar_new tOk rfl rfl rfl trivial ?_
  refine ar_new tOk rfl rfl rfl ?_ ?_
  · simp
  refine zC ?_
  refine ar_pure tOk rfl rfl rfl ?_ ?_
  · first | trivial | omega | (unfold inI64; omega) | (refine ⟨?_, ?_⟩ <;> first | trivial | rfl | omega | simp) | decide
  refine pB ?_
  refine pA ?_
  refine zA ?_
  refine ag_draw0 (by kernel_rfl) (by kernel_rfl) ?_
  refine aq_pure tOk rfl rfl rfl ?_ ?_
  · first | trivial | omega | (unfold inI64; omega) | (refine ⟨?_, ?_⟩ <;> first | trivial | rfl | omega | simp) | decide
  refine aq_load0 tOk rfl (by kernel_rfl) rfl rfl trivial ?_
  refine aq_pure tOk rfl rfl rfl trivial ?_
  refine aq_pur (w_threeF s.e 6 11 25 (by decide) (by decide) (by decide) (by decide) (by decide) (by decide)) rfl rfl rfl rfl rfl rfl rfl ?_
  iterate 2 refine aq_pure tOk rfl rfl rfl trivial ?_
  refine aq_pure tOk rfl rfl rfl ?_ ?_
  · first | trivial | omega | (unfold inI64; omega) | (refine ⟨?_, ?_⟩ <;> first | trivial | rfl | omega | simp) | decide
  refine aq_load0 tOk rfl (by kernel_rfl) rfl rfl trivial ?_
  iterate 3 refine aq_pure tOk rfl rfl rfl trivial ?_
  refine aq_pure tOk rfl rfl rfl ?_ ?_
  · first | trivial | omega | (unfold inI64; omega) | (refine ⟨?_, ?_⟩ <;> first | trivial | rfl | omega | simp) | decide
  refine aq_load0 tOk rfl (by kernel_rfl) rfl rfl trivial ?_
  iterate 6 refine aq_pure tOk rfl rfl rfl trivial ?_
  refine aq_nil rfl ?_
  refine ag_seq ?_
  refine ag_draw0 (by kernel_rfl) (by kernel_rfl) ?_
  refine aq_pure tOk rfl rfl rfl ?_ ?_
  · first | trivial | omega | (unfold inI64; omega) | (refine ⟨?_, ?_⟩ <;> first | trivial | rfl | omega | simp) | decide
  refine aq_load0 tOk rfl (by kernel_rfl) rfl rfl trivial ?_
  refine aq_pur (w_threeF s.a 2 13 22 (by decide) (by decide) (by decide) (by decide) (by decide) (by decide)) rfl rfl rfl rfl rfl rfl rfl ?_
  refine aq_pure tOk rfl rfl rfl ?_ ?_
  · first | trivial | omega | (unfold inI64; omega) | (refine ⟨?_, ?_⟩ <;> first | trivial | rfl | omega | simp) | decide
  refine aq_load0 tOk rfl (by kernel_rfl) rfl rfl trivial ?_
  refine aq_pure tOk rfl rfl rfl ?_ ?_
  · first | trivial | omega | (unfold inI64; omega) | (refine ⟨?_, ?_⟩ <;> first | trivial | rfl | omega | simp) | decide
  refine aq_load0 tOk rfl (by kernel_rfl) rfl rfl trivial ?_
  refine aq_pure tOk rfl rfl rfl trivial ?_
  refine aq_pure tOk rfl rfl rfl ?_ ?_
  · first | trivial | omega | (unfold inI64; omega) | (refine ⟨?_, ?_⟩ <;> first | trivial | rfl | omega | simp) | decide
  refine aq_load0 tOk rfl (by kernel_rfl) rfl rfl trivial ?_
  refine aq_pure tOk rfl rfl rfl ?_ ?_
  · first | trivial | omega | (unfold inI64; omega) | (refine ⟨?_, ?_⟩ <;> first | trivial | rfl | omega | simp) | decide
  refine aq_load0 tOk rfl (by kernel_rfl) rfl rfl trivial ?_
  iterate 2 refine aq_pure tOk rfl rfl rfl trivial ?_
  refine aq_pure tOk rfl rfl rfl ?_ ?_
  · first | trivial | omega | (unfold inI64; omega) | (refine ⟨?_, ?_⟩ <;> first | trivial | rfl | omega | simp) | decide
  refine aq_load0 tOk rfl (by kernel_rfl) rfl rfl trivial ?_
  refine aq_pure tOk rfl rfl rfl ?_ ?_
  · first | trivial | omega | (unfold inI64; omega) | (refine ⟨?_, ?_⟩ <;> first | trivial | rfl | omega | simp) | decide
  refine aq_load0 tOk rfl (by kernel_rfl) rfl rfl trivial ?_
  iterate 4 refine aq_pure tOk rfl rfl rfl trivial ?_
  refine aq_nil rfl ?_
  refine zB ?_
  iterate 3 refine pA ?_
  refine ar_pure tOk rfl rfl rfl ?_ ?_
  · first | trivial | omega | (unfold inI64; omega) | (refine ⟨?_, ?_⟩ <;> first | trivial | rfl | omega | simp) | decide
  refine pB ?_
  refine ar_pure tOk rfl rfl rfl ?_ ?_
  · first | trivial | omega | (unfold inI64; omega) | (refine ⟨?_, ?_⟩ <;> first | trivial | rfl | omega | simp) | decide
  refine pB ?_
  refine ar_pure tOk rfl rfl rfl ?_ ?_
  · first | trivial | omega | (unfold inI64; omega) | (refine ⟨?_, ?_⟩ <;> first | trivial | rfl | omega | simp) | decide
  refine pB ?_
  refine ar_pure tOk rfl rfl rfl ?_ ?_
  · first | trivial | omega | (unfold inI64; omega) | (refine ⟨?_, ?_⟩ <;> first | trivial | rfl | omega | simp) | decide
  refine pB ?_
  iterate 2 refine pA ?_
  refine ar_pure tOk rfl rfl rfl ?_ ?_
  · first | trivial | omega | (unfold inI64; omega) | (refine ⟨?_, ?_⟩ <;> first | trivial | rfl | omega | simp) | decide
  refine pB ?_
  refine ar_pure tOk rfl rfl rfl ?_ ?_
  · first | trivial | omega | (unfold inI64; omega) | (refine ⟨?_, ?_⟩ <;> first | trivial | rfl | omega | simp) | decide
  refine pB ?_
  refine ar_pure tOk rfl rfl rfl ?_ ?_
  · first | trivial | omega | (unfold inI64; omega) | (refine ⟨?_, ?_⟩ <;> first | trivial | rfl | omega | simp) | decide
  refine pB ?_
  refine ar_pure tOk rfl rfl rfl ?_ ?_
  · simp
  refine ar_store tOk rfl rfl rfl trivial ?_
  refine ar_nil ?_
  refine ag_ret tOk Try.func52 rfl rfl (by simp) ?_
  rfl
end Go.Proofs.Ytopfpkmdkcjjlaa


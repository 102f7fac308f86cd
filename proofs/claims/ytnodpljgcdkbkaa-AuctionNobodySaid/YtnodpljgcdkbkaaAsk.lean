/-
  WALKS: asks. (Printed by gen.py out of w_ask.py.)
-/
import Derived.Test.YtnodpljgcdkbkaaDeal
import Derived.Test.YtnodpljgcdkbkaaFObj
import Derived.Test.YtnodpljgcdkbkaaCmp
namespace Go.Proofs.Ytnodpljgcdkbkaa
open Go
set_option maxRecDepth 20000
set_option linter.unusedVariables false
set_option linter.unusedSimpArgs false
structure AskV where
  u : Int
  s : Int
  c : Int
  t : Int
  m0 : Int
  m1 : Int
  m2 : Int
  m3 : Int
  id : List UInt8
def askC (a : AskV) : List RVal := [.int .i64 a.u, .int .i64 a.s, .int .i64 a.c, .int .i64 a.t, .int .u64 a.m0, .int .u64 a.m1, .int .u64 a.m2, .int .u64 a.m3, .str a.id]
def askA (a : AskV) : AVal := .agg ((askC a).map .r)
def ask0 : AskV := ⟨0, 0, 0, 0, 0, 0, 0, 0, []⟩
structure AskV.ok (a : AskV) : Prop where
  m0 : U64 a.m0
  m1 : U64 a.m1
  m2 : U64 a.m2
  m3 : U64 a.m3
  id : a.id.length ≤ 140737488351232
def stI (a : AskV) (r : Int) : InvV := ⟨a.u, [114, 111, 111, 116, 114, 111, 111, 116], r, a.s, a.c, a.t, a.id⟩
def amA (a : AskV) : Prop := a.m0 = 0 ∧ a.m1 = 0 ∧ a.m2 = 0 ∧ a.m3 = 0
instance (a : AskV) : Decidable (amA a) := by unfold amA; infer_instance
def askBad (a : AskV) : Prop := amA a ∨ invBad (stI a 2)
instance (a : AskV) : Decidable (askBad a) := by unfold askBad; infer_instance
def askE (a : AskV) : Int := if askBad a then 39 else 0
theorem askE_2 {a : AskV} (h : ¬ amA a) : invE (stI a 2) = askE a := by
  by_cases p : invBad (stI a 2)
  · rw [invE, if_pos p, askE, if_pos (.inr p)]
  · rw [invE, if_neg p, askE, if_neg (by rintro (q | q); exact h q; exact p q)]
theorem w_bStand (a : AskV) (r : Int) : Pur Try.prog 59 [askA a, .r (.int .i64 r)] (invA (stI a r)) := by
  refine spec_of_go (N := 17) Try.func59 rfl (by decide) rfl rfl ?_
  refine zB ?_
  refine ar_new tOk rfl rfl rfl trivial ?_
  refine ar_new tOk rfl rfl rfl ?_ ?_
  · simp
  refine zC ?_
  refine pA ?_
  refine pB ?_
  iterate 2 refine pA ?_
  refine pB ?_
  refine pA ?_
  refine pB ?_
  refine pA ?_
  refine pB ?_
  refine pA ?_
  refine pB ?_
  refine ar_pure tOk rfl rfl rfl ?_ ?_
  · simp
  refine ar_store tOk rfl rfl rfl trivial ?_
  refine ar_nil ?_
  refine ag_ret tOk Try.func59 rfl rfl (by first | trivial | exact ⟨trivial, trivial⟩ | simp) ?_
  rfl
theorem w_bAsk (a : AskV) : Pur Try.prog 14 [askA a] (.r (.int .i64 (askE a))) := by
  refine spec_of_go (N := 10) Try.func14 rfl (by decide) rfl rfl ?_
  refine zB ?_
  refine ar_new tOk rfl rfl rfl trivial ?_
  refine pA ?_
  refine zA ?_
  refine zB ?_
  refine pA ?_
  refine pB ?_
  refine ar_pure tOk rfl rfl rfl ?_ ?_
  · simp
  refine pA ?_
  refine ar_nil ?_
  refine ag_cond rfl ?_ ?_
  · intro h6
    have hz : amA a := by unfold amA; simpa using h6
    refine zB ?_
    refine pA ?_
    refine ar_nil ?_
    refine ag_ret tOk Try.func14 rfl rfl (by simp) ?_
    exact eqI (by rw [askE, if_pos (.inl hz)])
  · intro h6
    have hz : ¬ amA a := by unfold amA; simpa using h6
    refine ag_skip ?_
    refine zB ?_
    refine pB ?_
    refine ar_pur (w_bStand a 2) rfl rfl rfl rfl rfl rfl rfl ?_
    refine ar_pur (w_Check (stI a 2)) rfl rfl rfl rfl rfl rfl rfl ?_
    refine pA ?_
    refine ar_nil ?_
    refine ag_ret tOk Try.func14 rfl rfl (by simp) ?_
    exact eqI (askE_2 hz)
end Go.Proofs.Ytnodpljgcdkbkaa


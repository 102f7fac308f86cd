/-
  WALKS: keys, digests and payloads of transfers. (Printed by gen.py out of w_deal3.py.)
-/
import Derived.Test.YtancdgbclbkpkaaDeal2
import Derived.Test.YtancdgbclbkpkaaHTxt
namespace Go.Proofs.Ytancdgbclbkpkaa
open Go
set_option maxRecDepth 20000
set_option linter.unusedVariables false
set_option linter.unusedSimpArgs false
def keyL (v : InvV) : List UInt8 := if invBad v then [] else sha (pInv ([], 0) v).1
theorem keyL_len {v : InvV} (h : ¬ invBad v) : (keyL v).length = 32 := by rw [keyL, if_neg h, sha_length]
theorem invE_ne {v : InvV} (h : invE v ≠ 0) : invBad v := by
  by_cases p : invBad v
  · exact p
  · exact absurd (by rw [invE, if_neg p]) h
theorem invE_z {v : InvV} (h : ¬ invE v ≠ 0) : ¬ invBad v := fun p => h (by rw [invE, if_pos p]; decide)
theorem sha_eq1 (b : List UInt8) : sha [b].flatten = sha b := by simp
theorem w_dKey (v : InvV) (hv : v.ok) : Pur Try.prog 13 [invA v] (.r (.str (keyL v))) := by
  obtain ⟨B, hB⟩ : ∃ B, (pInv ([], 0) v).1 = B := ⟨_, rfl⟩
  have hBl : B.length ≤ 8192 := by rw [← hB]; exact (wok_inv wok0).1
  refine spec_of_go (N := 21) Try.func13 rfl (by decide) rfl rfl ?_
  refine zB ?_
  refine ar_new tOk rfl rfl rfl trivial ?_
  refine pA ?_
  refine zA ?_
  refine zB ?_
  refine pB ?_
  refine ar_pur (w_Check v) rfl rfl rfl rfl rfl rfl rfl ?_
  refine pA ?_
  refine ar_nil ?_
  refine ag_if rfl ?_ ?_
  · intro h8
    have hbad := invE_ne h8
    refine zB ?_
    refine pA ?_
    refine ar_nil ?_
    refine ag_ret tOk Try.func13 rfl rfl (by simp) ?_
    exact eqStr (by rw [keyL, if_pos hbad])
  · intro h8
    have hgood := invE_z h8
    refine ag_skip ?_
    refine zB ?_
    refine ar_obj [] (w_NewO) rfl rfl (handed_of rfl rfl (by decide) trivial) rfl rfl rfl rfl ?_
    rintro _ _ ⟨rfl, rfl⟩
    refine ⟨_, _, rfl, ?_⟩
    refine pA ?_
    refine ar_nil ?_
    refine ag_ent ent_dead ?_
    refine ag_ent (ent_same (h' := obAt none [.int .i64 0, .bool true] 1 2 ⟨3, [(0, some (.mixed ((invC v).map .r)))], false⟩) rfl rfl ⟨rfl, rfl, rfl, trivial⟩) ?_
    refine zB ?_
    refine pA ?_
    refine pB ?_
    refine ar_ob (w_dPut ([], 0) none [.int .i64 0, .bool true] oRel0 v hv) rfl rfl rfl rfl rfl rfl rfl (by intro d hd; cases hd; rfl) ?_
    rintro _ sl tl ⟨rfl, hr⟩
    refine ⟨rfl, ?_⟩
    refine zC ?_
    refine pA ?_
    refine ar_ob (w_ODone _ sl tl hr) rfl rfl rfl rfl rfl rfl rfl (by intro d hd; cases hd; rfl) ?_
    rintro _ sl tl ⟨rfl, hr⟩
    refine ⟨rfl, ?_⟩
    iterate 5 refine pA ?_
    refine zC ?_
    refine pA ?_
    refine ar_qd rfl (qop_buildRo tOk rfl ?_ rfl) rfl rfl rfl rfl ?_
    · repeat any_goals (first | trivial | decide | omega | (simp; done) | (rw [wu8]; omega) | refine ⟨?_, ?_⟩)
    refine ar_pur (w_Text [(pInv ([], 0) v).1] (by simp) (by rw [hB]; simp; omega)) rfl rfl rfl rfl rfl rfl rfl ?_
    refine ar_ent (ent_reg 20 (.r (.str (sha (pInv ([], 0) v).1))) (by show AVal.r (.str _) = _; exact eqStr (sha_eq1 _))) ?_
    refine pA ?_
    refine ar_nil ?_
    refine ag_ret tOk Try.func13 rfl rfl (by simp) ?_
    exact eqStr (by rw [keyL, if_neg hgood])
end Go.Proofs.Ytancdgbclbkpkaa


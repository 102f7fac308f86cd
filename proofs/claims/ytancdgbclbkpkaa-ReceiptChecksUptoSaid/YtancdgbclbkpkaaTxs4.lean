/-
  WALKS: octets of transactions, and transactions of octets. (Printed by gen.py out of w_txs4.py.)
-/
import Derived.Test.YtancdgbclbkpkaaTxs3
import Derived.Test.YtancdgbclbkpkaaDealB
namespace Go.Proofs.Ytancdgbclbkpkaa
open Go
set_option maxRecDepth 20000
set_option linter.unusedVariables false
set_option linter.unusedSimpArgs false
def octL (t : TxV) : W := if txE t ≠ 0 then ([], txE t) else pTx ([], 0) t
theorem w_xOctets (t : TxV) (ht : t.ok) : Pur Try.prog 43 [txA t] (.tuple [.r (.bs (octL t).1), .r (.int .i64 (octL t).2)]) := by
  refine spec_of_go (N := 19) Try.func43 rfl (by decide) rfl rfl ?_
  refine zB ?_
  refine ar_new tOk rfl rfl rfl trivial ?_
  iterate 2 refine pA ?_
  refine zA ?_
  refine zB ?_
  refine pB ?_
  refine ar_pur (w_xCheck t) rfl rfl rfl rfl rfl rfl rfl ?_
  refine pA ?_
  refine zC ?_
  iterate 2 refine pA ?_
  refine ar_nil ?_
  refine ag_if rfl ?_ ?_
  · intro h9
    refine zB ?_
    iterate 3 refine pA ?_
    refine ar_nil ?_
    refine ag_ent (ent_nil 2 (.bs []) rfl (.inl rfl)) ?_
    refine ag_ret tOk Try.func43 rfl rfl (by simp) ?_
    rw [show octL t = ([], txE t) from by rw [octL, if_pos h9]]
    rfl
  · intro h9
    refine ag_skip ?_
    refine zB ?_
    refine ar_obj [] (w_NewO) rfl rfl (handed_of rfl rfl (by decide) trivial) rfl rfl rfl rfl ?_
    rintro _ _ ⟨rfl, rfl⟩
    refine ⟨_, _, rfl, ?_⟩
    refine pA ?_
    refine ar_nil ?_
    refine ag_ent ent_dead ?_
    refine ag_ent (ent_same (h' := obAt none [.int .i64 0, .bool true] 1 2 ⟨3, [(0, some (.mixed ((txC t).map .r)))], false⟩) rfl rfl ⟨rfl, rfl, rfl, trivial⟩) ?_
    refine zB ?_
    refine pA ?_
    refine pB ?_
    refine ar_ob (w_xPut ([], 0) none [.int .i64 0, .bool true] oRel0 t ht) rfl rfl rfl rfl rfl rfl rfl (by intro d hd; cases hd; rfl) ?_
    rintro _ sl tl ⟨rfl, hr⟩
    refine ⟨rfl, ?_⟩
    refine zC ?_
    refine pA ?_
    refine ar_ob (w_ODone _ sl tl hr) rfl rfl rfl rfl rfl rfl rfl (by intro d hd; cases hd; rfl) ?_
    rintro _ sl tl ⟨rfl, hr⟩
    refine ⟨rfl, ?_⟩
    iterate 4 refine pA ?_
    refine ar_nil ?_
    refine ag_ret tOk Try.func43 rfl rfl (by simp) ?_
    rw [show octL t = pTx ([], 0) t from by rw [octL, if_neg h9]]
    rfl
end Go.Proofs.Ytancdgbclbkpkaa


/-
  WALKS: messages put. (Printed by gen.py out of w_mail3.py.)
-/
import Derived.Test.YtnodpljgcdkbkaaMail2
namespace Go.Proofs.Ytnodpljgcdkbkaa
open Go
set_option maxRecDepth 20000
set_option linter.unusedVariables false
set_option linter.unusedSimpArgs false
theorem mcase (k : Int) : k = 1 ∨ k = 2 ∨ k = 3 ∨ (¬ k = 1 ∧ ¬ k = 2 ∧ ¬ k = 3) := by omega
def pMs (m : MsgV) : W := if m.k = 1 then pAsk (wnum ([], 0) m.k) m.a else if m.k = 2 then wtxt (wnum (wwid (pAsk (wnum (wnum ([], 0) m.k) m.b.r) m.b.a) m.b.x0 m.b.x1 m.b.x2 m.b.x3) m.b.e) m.b.sig else wtxt (wwid (pVar (pInv (wnum ([], 0) m.k) m.i) m.v) m.g0 m.g1 m.g2 m.g3) m.sig
def putM (m : MsgV) : W := if msgE m ≠ 0 then ([], msgE m) else pMs m
theorem msgE_k {m : MsgV} (h : msgE m = 0) : m.k = 1 ∨ m.k = 2 ∨ m.k = 3 := by
  rcases mcase m.k with q | q | q | q
  · exact .inl q
  · exact .inr (.inl q)
  · exact .inr (.inr q)
  · rw [msgE, if_neg q.1, if_neg q.2.1, if_neg q.2.2] at h; exact absurd h (by decide)
theorem w_mPutN (m : MsgV) (hE : msgE m ≠ 0) : Pur Try.prog 11 [msgA m] (.tuple [.r (.bs ((([], msgE m) : W)).1), .r (.int .i64 ((([], msgE m) : W)).2)]) := by
  have cE := w_mCheck m
  generalize msgE m = E at hE cE
  refine spec_of_go (N := 73) Try.func11 rfl (by decide) rfl rfl ?_
  refine zB ?_
  refine ar_new tOk rfl rfl rfl trivial ?_
  iterate 2 refine pA ?_
  refine zA ?_
  refine zB ?_
  refine pB ?_
  refine ar_pur (cE) rfl rfl rfl rfl rfl rfl rfl ?_
  refine pA ?_
  refine zC ?_
  iterate 2 refine pA ?_
  refine ar_nil ?_
  refine ag_true rfl (decide_eq_true hE) ?_
  refine zB ?_
  iterate 3 refine pA ?_
  refine ar_nil ?_
  refine ag_ent (ent_nil 2 (.bs []) rfl (.inl rfl)) ?_
  refine ag_ret tOk Try.func11 rfl rfl (by simp) ?_
  rfl
theorem w_mPut1 (m : MsgV) (hm : m.ok) (hk : m.k = 1) (hE : msgE m = 0) : Pur Try.prog 11 [msgA m] (.tuple [.r (.bs (pAsk (wnum ([], 0) m.k) m.a).1), .r (.int .i64 (pAsk (wnum ([], 0) m.k) m.a).2)]) := by
  have cE := w_mCheck m
  rw [hE] at cE
  clear hE
  refine spec_of_go (N := 73) Try.func11 rfl (by decide) rfl rfl ?_
  refine zB ?_
  refine ar_new tOk rfl rfl rfl trivial ?_
  iterate 2 refine pA ?_
  refine zA ?_
  refine zB ?_
  refine pB ?_
  refine ar_pur (cE) rfl rfl rfl rfl rfl rfl rfl ?_
  refine pA ?_
  refine zC ?_
  iterate 2 refine pA ?_
  refine ar_nil ?_
  refine ag_false rfl (by rfl) ?_
  refine ag_skip ?_
  refine zB ?_
  refine ar_obj [] (w_NewO) rfl rfl (handed_of rfl rfl (by decide) trivial) rfl rfl rfl rfl ?_
  rintro _ _ ⟨rfl, rfl⟩
  refine ⟨_, _, rfl, ?_⟩
  refine pA ?_
  refine ar_nil ?_
  refine ag_ent ent_dead ?_
  refine ag_ent (ent_same (h' := obAt none [.int .i64 0, .bool true] 1 2 ⟨3, [(0, some (.mixed ((msgC (m)).map .r)))], false⟩) rfl rfl ⟨rfl, rfl, rfl, trivial⟩) ?_
  refine zB ?_
  iterate 2 refine pA ?_
  refine pB ?_
  refine ar_ob (w_ONum ([], 0) m.k none [.int .i64 0, .bool true] oRel0) rfl rfl rfl rfl rfl rfl rfl (by intro d hd; cases hd; rfl) ?_
  rintro _ sl tl ⟨rfl, hr⟩
  refine ⟨rfl, ?_⟩
  refine zA ?_
  refine zB ?_
  refine pA ?_
  refine pB ?_
  refine ar_nil ?_
  refine ag_block ?_
  refine zB ?_
  iterate 2 refine pA ?_
  refine ar_nil ?_
  refine ag_true rfl (decide_eq_true (show m.k = 1 by omega)) ?_
  refine ag_reg ?_
  iterate 2 refine pA ?_
  refine pB ?_
  refine ar_ob (w_bPut _ sl tl hr m.a hm.a) rfl rfl rfl rfl rfl rfl rfl (by intro d hd; cases hd; rfl) ?_
  rintro _ sl tl ⟨rfl, hr⟩
  refine ⟨rfl, ?_⟩
  refine ar_nil ?_
  refine ag_inBlock ?_
  refine zB ?_
  refine pA ?_
  refine ar_ob (w_ODone _ sl tl hr) rfl rfl rfl rfl rfl rfl rfl (by intro d hd; cases hd; rfl) ?_
  rintro _ sl tl ⟨rfl, hr⟩
  refine ⟨rfl, ?_⟩
  iterate 4 refine pA ?_
  refine ar_nil ?_
  refine ag_ret tOk Try.func11 rfl rfl (by simp) ?_
  rfl
theorem w_mPut2 (m : MsgV) (hm : m.ok) (hk : m.k = 2) (hE : msgE m = 0) : Pur Try.prog 11 [msgA m] (.tuple [.r (.bs (wtxt (wnum (wwid (pAsk (wnum (wnum ([], 0) m.k) m.b.r) m.b.a) m.b.x0 m.b.x1 m.b.x2 m.b.x3) m.b.e) m.b.sig).1), .r (.int .i64 (wtxt (wnum (wwid (pAsk (wnum (wnum ([], 0) m.k) m.b.r) m.b.a) m.b.x0 m.b.x1 m.b.x2 m.b.x3) m.b.e) m.b.sig).2)]) := by
  have cE := w_mCheck m
  rw [hE] at cE
  clear hE
  refine spec_of_go (N := 73) Try.func11 rfl (by decide) rfl rfl ?_
  refine zB ?_
  refine ar_new tOk rfl rfl rfl trivial ?_
  iterate 2 refine pA ?_
  refine zA ?_
  refine zB ?_
  refine pB ?_
  refine ar_pur (cE) rfl rfl rfl rfl rfl rfl rfl ?_
  refine pA ?_
  refine zC ?_
  iterate 2 refine pA ?_
  refine ar_nil ?_
  refine ag_false rfl (by rfl) ?_
  refine ag_skip ?_
  refine zB ?_
  refine ar_obj [] (w_NewO) rfl rfl (handed_of rfl rfl (by decide) trivial) rfl rfl rfl rfl ?_
  rintro _ _ ⟨rfl, rfl⟩
  refine ⟨_, _, rfl, ?_⟩
  refine pA ?_
  refine ar_nil ?_
  refine ag_ent ent_dead ?_
  refine ag_ent (ent_same (h' := obAt none [.int .i64 0, .bool true] 1 2 ⟨3, [(0, some (.mixed ((msgC (m)).map .r)))], false⟩) rfl rfl ⟨rfl, rfl, rfl, trivial⟩) ?_
  refine zB ?_
  iterate 2 refine pA ?_
  refine pB ?_
  refine ar_ob (w_ONum ([], 0) m.k none [.int .i64 0, .bool true] oRel0) rfl rfl rfl rfl rfl rfl rfl (by intro d hd; cases hd; rfl) ?_
  rintro _ sl tl ⟨rfl, hr⟩
  refine ⟨rfl, ?_⟩
  refine zA ?_
  refine zB ?_
  refine pA ?_
  refine pB ?_
  refine ar_nil ?_
  refine ag_block ?_
  refine zB ?_
  iterate 2 refine pA ?_
  refine ar_nil ?_
  refine ag_false rfl (decide_eq_false (show ¬ m.k = 1 by omega)) ?_
  refine zB ?_
  iterate 2 refine pA ?_
  refine ar_nil ?_
  refine ag_true rfl (decide_eq_true (show m.k = 2 by omega)) ?_
  refine zB ?_
  iterate 3 refine pA ?_
  refine pB ?_
  refine ar_ob (w_ONum _ m.b.r sl tl hr) rfl rfl rfl rfl rfl rfl rfl (by intro d hd; cases hd; rfl) ?_
  rintro _ sl tl ⟨rfl, hr⟩
  refine ⟨rfl, ?_⟩
  refine zC ?_
  iterate 3 refine pA ?_
  refine pB ?_
  refine ar_ob (w_bPut _ sl tl hr m.b.a hm.b.a) rfl rfl rfl rfl rfl rfl rfl (by intro d hd; cases hd; rfl) ?_
  rintro _ sl tl ⟨rfl, hr⟩
  refine ⟨rfl, ?_⟩
  refine zC ?_
  iterate 3 refine pA ?_
  refine pB ?_
  refine ar_ob (w_OWide _ m.b.x0 m.b.x1 m.b.x2 m.b.x3 hm.b.h0 hm.b.h1 hm.b.h2 hm.b.h3 sl tl hr) rfl rfl rfl rfl rfl rfl rfl (by intro d hd; cases hd; rfl) ?_
  rintro _ sl tl ⟨rfl, hr⟩
  refine ⟨rfl, ?_⟩
  refine zC ?_
  iterate 3 refine pA ?_
  refine pB ?_
  refine ar_ob (w_ONum _ m.b.e sl tl hr) rfl rfl rfl rfl rfl rfl rfl (by intro d hd; cases hd; rfl) ?_
  rintro _ sl tl ⟨rfl, hr⟩
  refine ⟨rfl, ?_⟩
  refine ar_nil ?_
  refine ag_reg ?_
  iterate 3 refine pA ?_
  refine pB ?_
  refine ar_ob (w_OText _ m.b.sig hm.b.sig sl tl hr) rfl rfl rfl rfl rfl rfl rfl (by intro d hd; cases hd; rfl) ?_
  rintro _ sl tl ⟨rfl, hr⟩
  refine ⟨rfl, ?_⟩
  refine ar_nil ?_
  refine ag_inBlock ?_
  refine zB ?_
  refine pA ?_
  refine ar_ob (w_ODone _ sl tl hr) rfl rfl rfl rfl rfl rfl rfl (by intro d hd; cases hd; rfl) ?_
  rintro _ sl tl ⟨rfl, hr⟩
  refine ⟨rfl, ?_⟩
  iterate 4 refine pA ?_
  refine ar_nil ?_
  refine ag_ret tOk Try.func11 rfl rfl (by simp) ?_
  rfl
theorem w_mPut3 (m : MsgV) (hm : m.ok) (hk : m.k = 3) (hE : msgE m = 0) : Pur Try.prog 11 [msgA m] (.tuple [.r (.bs (wtxt (wwid (pVar (pInv (wnum ([], 0) m.k) m.i) m.v) m.g0 m.g1 m.g2 m.g3) m.sig).1), .r (.int .i64 (wtxt (wwid (pVar (pInv (wnum ([], 0) m.k) m.i) m.v) m.g0 m.g1 m.g2 m.g3) m.sig).2)]) := by
  have cE := w_mCheck m
  rw [hE] at cE
  clear hE
  refine spec_of_go (N := 73) Try.func11 rfl (by decide) rfl rfl ?_
  refine zB ?_
  refine ar_new tOk rfl rfl rfl trivial ?_
  iterate 2 refine pA ?_
  refine zA ?_
  refine zB ?_
  refine pB ?_
  refine ar_pur (cE) rfl rfl rfl rfl rfl rfl rfl ?_
  refine pA ?_
  refine zC ?_
  iterate 2 refine pA ?_
  refine ar_nil ?_
  refine ag_false rfl (by rfl) ?_
  refine ag_skip ?_
  refine zB ?_
  refine ar_obj [] (w_NewO) rfl rfl (handed_of rfl rfl (by decide) trivial) rfl rfl rfl rfl ?_
  rintro _ _ ⟨rfl, rfl⟩
  refine ⟨_, _, rfl, ?_⟩
  refine pA ?_
  refine ar_nil ?_
  refine ag_ent ent_dead ?_
  refine ag_ent (ent_same (h' := obAt none [.int .i64 0, .bool true] 1 2 ⟨3, [(0, some (.mixed ((msgC (m)).map .r)))], false⟩) rfl rfl ⟨rfl, rfl, rfl, trivial⟩) ?_
  refine zB ?_
  iterate 2 refine pA ?_
  refine pB ?_
  refine ar_ob (w_ONum ([], 0) m.k none [.int .i64 0, .bool true] oRel0) rfl rfl rfl rfl rfl rfl rfl (by intro d hd; cases hd; rfl) ?_
  rintro _ sl tl ⟨rfl, hr⟩
  refine ⟨rfl, ?_⟩
  refine zA ?_
  refine zB ?_
  refine pA ?_
  refine pB ?_
  refine ar_nil ?_
  refine ag_block ?_
  refine zB ?_
  iterate 2 refine pA ?_
  refine ar_nil ?_
  refine ag_false rfl (decide_eq_false (show ¬ m.k = 1 by omega)) ?_
  refine zB ?_
  iterate 2 refine pA ?_
  refine ar_nil ?_
  refine ag_false rfl (decide_eq_false (show ¬ m.k = 2 by omega)) ?_
  refine zB ?_
  iterate 2 refine pA ?_
  refine ar_nil ?_
  refine ag_true rfl (decide_eq_true (show m.k = 3 by omega)) ?_
  refine zB ?_
  iterate 2 refine pA ?_
  refine pB ?_
  refine ar_ob (w_dPut _ sl tl hr m.i hm.i) rfl rfl rfl rfl rfl rfl rfl (by intro d hd; cases hd; rfl) ?_
  rintro _ sl tl ⟨rfl, hr⟩
  refine ⟨rfl, ?_⟩
  refine zC ?_
  iterate 2 refine pA ?_
  refine pB ?_
  refine ar_ob (w_dPutVar _ sl tl hr m.v hm.v) rfl rfl rfl rfl rfl rfl rfl (by intro d hd; cases hd; rfl) ?_
  rintro _ sl tl ⟨rfl, hr⟩
  refine ⟨rfl, ?_⟩
  refine zC ?_
  iterate 2 refine pA ?_
  refine pB ?_
  refine ar_ob (w_OWide _ m.g0 m.g1 m.g2 m.g3 hm.g0 hm.g1 hm.g2 hm.g3 sl tl hr) rfl rfl rfl rfl rfl rfl rfl (by intro d hd; cases hd; rfl) ?_
  rintro _ sl tl ⟨rfl, hr⟩
  refine ⟨rfl, ?_⟩
  refine ar_nil ?_
  refine ag_reg ?_
  iterate 2 refine pA ?_
  refine pB ?_
  refine ar_ob (w_OText _ m.sig hm.sig sl tl hr) rfl rfl rfl rfl rfl rfl rfl (by intro d hd; cases hd; rfl) ?_
  rintro _ sl tl ⟨rfl, hr⟩
  refine ⟨rfl, ?_⟩
  refine ar_nil ?_
  refine ag_inBlock ?_
  refine zB ?_
  refine pA ?_
  refine ar_ob (w_ODone _ sl tl hr) rfl rfl rfl rfl rfl rfl rfl (by intro d hd; cases hd; rfl) ?_
  rintro _ sl tl ⟨rfl, hr⟩
  refine ⟨rfl, ?_⟩
  iterate 4 refine pA ?_
  refine ar_nil ?_
  refine ag_ret tOk Try.func11 rfl rfl (by simp) ?_
  rfl
theorem putM_N {m : MsgV} (h : msgE m ≠ 0) : putM m = ([], msgE m) := by rw [putM, if_pos h]
theorem putM_0 {m : MsgV} (h : msgE m = 0) : putM m = pMs m := by rw [putM, if_neg (by omega)]
theorem w_mPut (m : MsgV) (hm : m.ok) : Pur Try.prog 11 [msgA m] (.tuple [.r (.bs (putM m).1), .r (.int .i64 (putM m).2)]) := by
  by_cases h : msgE m = 0
  · rw [putM_0 h]
    rcases msgE_k h with q | q | q
    · rw [pMs, if_pos q]; exact w_mPut1 m hm q h
    · rw [pMs, if_neg (by omega), if_pos q]; exact w_mPut2 m hm q h
    · rw [pMs, if_neg (by omega), if_neg (by omega)]; exact w_mPut3 m hm q h
  · rw [putM_N h]; exact w_mPutN m h
end Go.Proofs.Ytnodpljgcdkbkaa


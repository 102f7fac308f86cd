/-
  WALKS: messages put. (Printed by gen.py out of w_mail3.py.)
-/
import Derived.Test.YtppniggpdepabaaMail2
namespace Go.Proofs.Ytppniggpdepabaa
open Go
set_option maxRecDepth 20000
set_option linter.unusedVariables false
set_option linter.unusedSimpArgs false

theorem mcase (k : Int) : k = 1 ∨ k = 2 ∨ k = 3 ∨ (¬ k = 1 ∧ ¬ k = 2 ∧ ¬ k = 3) := by omega
theorem w_rMsg (m : MsgV) (hm : m.ok) : Pur Try.prog 38 [msgA m] (.tuple [msgA (plM m), .r (.int .i64 (msgE m))]) := by
  rcases mcase m.k with h | h | h | h
  · rw [show plM m = _ from by rw [plM, if_pos h]]; exact w_rMsg1 m hm h
  · rw [show plM m = _ from by rw [plM, if_neg (by omega), if_pos h]]; exact w_rMsg2 m hm h
  · rw [show plM m = _ from by rw [plM, if_neg (by omega), if_neg (by omega), if_pos h]]; exact w_rMsg3 m hm h
  · rw [show plM m = _ from by rw [plM, if_neg (by omega), if_neg (by omega), if_neg (by omega)]]; exact w_rMsg0 m hm h
def pMs (m : MsgV) : W := if m.k = 1 then pAsk (wnum ([], 0) m.k) m.a else if m.k = 2 then wtxt (wnum (wwid (pAsk (wnum (wnum ([], 0) m.k) m.b.r) m.b.a) m.b.x0 m.b.x1 m.b.x2 m.b.x3) m.b.e) m.b.sig else wtxt (wwid (pVar (pInv (wnum ([], 0) m.k) m.i) m.v) m.g0 m.g1 m.g2 m.g3) m.sig
def putM (m : MsgV) : W := if msgE m ≠ 0 then ([], msgE m) else pMs m
theorem msgE_k {m : MsgV} (h : msgE m = 0) : m.k = 1 ∨ m.k = 2 ∨ m.k = 3 := by
  rcases mcase m.k with q | q | q | q
  · exact .inl q
  · exact .inr (.inl q)
  · exact .inr (.inr q)
  · rw [msgE, if_neg q.1, if_neg q.2.1, if_neg q.2.2] at h; exact absurd h (by decide)

theorem w_mPutN (m : MsgV) (hE : msgE m ≠ 0) : Pur Try.prog 34 [msgA m] (.tuple [.r (.bs ((([], msgE m) : W)).1), .r (.int .i64 ((([], msgE m) : W)).2)]) := by
  have cE := w_mCheck m
  generalize msgE m = E at hE cE
  refine spec_of_go (N := 73) Try.func34 rfl (by decide) rfl rfl ?_
  refine z2 ?_
  refine ar_new tOk rfl rfl rfl trivial ?_
  iterate 2 refine p1 ?_
  refine z1 ?_
  refine z2 ?_
  refine p2 ?_
  refine ar_pur (cE) rfl rfl rfl rfl rfl rfl rfl ?_
  refine p1 ?_
  refine z3 ?_
  iterate 2 refine p1 ?_
  refine ar_nil ?_
  refine ag_true rfl (decide_eq_true hE) ?_
  refine z2 ?_
  iterate 3 refine p1 ?_
  refine ar_nil ?_
  refine ag_ent (ent_nil 2 (.bs []) rfl (.inl rfl)) ?_
  refine ag_ret tOk Try.func34 rfl rfl (by simp) ?_
  rfl

theorem w_mPut1 (m : MsgV) (hm : m.ok) (hk : m.k = 1) (hE : msgE m = 0) : Pur Try.prog 34 [msgA m] (.tuple [.r (.bs (pAsk (wnum ([], 0) m.k) m.a).1), .r (.int .i64 (pAsk (wnum ([], 0) m.k) m.a).2)]) := by
  have cE := w_mCheck m
  rw [hE] at cE
  clear hE
  refine spec_of_go (N := 73) Try.func34 rfl (by decide) rfl rfl ?_
  refine z2 ?_
  refine ar_new tOk rfl rfl rfl trivial ?_
  iterate 2 refine p1 ?_
  refine z1 ?_
  refine z2 ?_
  refine p2 ?_
  refine ar_pur (cE) rfl rfl rfl rfl rfl rfl rfl ?_
  refine p1 ?_
  refine z3 ?_
  iterate 2 refine p1 ?_
  refine ar_nil ?_
  refine ag_false rfl (by rfl) ?_
  refine ag_skip ?_
  refine z2 ?_
  refine ar_obj [] (w_NewO) rfl rfl (handed_of rfl rfl (by decide) trivial) rfl rfl rfl rfl ?_
  rintro _ _ ⟨rfl, rfl⟩
  refine ⟨_, _, rfl, ?_⟩
  refine p1 ?_
  refine ar_nil ?_
  refine ag_ent ent_dead ?_
  refine ag_ent (ent_same (h' := obAt none [.int .i64 0, .bool true] 1 2 ⟨3, [(0, some (.mixed ((msgC (m)).map .r)))], false⟩) rfl rfl ⟨rfl, rfl, rfl, trivial⟩) ?_
  refine z2 ?_
  iterate 2 refine p1 ?_
  refine p2 ?_
  refine ar_ob (w_ONum ([], 0) m.k none [.int .i64 0, .bool true] oRel0) rfl rfl rfl rfl rfl rfl rfl (by intro d hd; cases hd; rfl) ?_
  rintro _ sl tl ⟨rfl, hr⟩
  refine ⟨rfl, ?_⟩
  refine z1 ?_
  refine z2 ?_
  refine p1 ?_
  refine p2 ?_
  refine ar_nil ?_
  refine ag_block ?_
  refine z2 ?_
  iterate 2 refine p1 ?_
  refine ar_nil ?_
  refine ag_true rfl (decide_eq_true (show m.k = 1 by omega)) ?_
  refine ag_reg ?_
  iterate 2 refine p1 ?_
  refine p2 ?_
  refine ar_ob (w_bPut _ sl tl hr m.a hm.a) rfl rfl rfl rfl rfl rfl rfl (by intro d hd; cases hd; rfl) ?_
  rintro _ sl tl ⟨rfl, hr⟩
  refine ⟨rfl, ?_⟩
  refine ar_nil ?_
  refine ag_inBlock ?_
  refine z2 ?_
  refine p1 ?_
  refine ar_ob (w_ODone _ sl tl hr) rfl rfl rfl rfl rfl rfl rfl (by intro d hd; cases hd; rfl) ?_
  rintro _ sl tl ⟨rfl, hr⟩
  refine ⟨rfl, ?_⟩
  iterate 4 refine p1 ?_
  refine ar_nil ?_
  refine ag_ret tOk Try.func34 rfl rfl (by simp) ?_
  rfl

theorem w_mPut2 (m : MsgV) (hm : m.ok) (hk : m.k = 2) (hE : msgE m = 0) : Pur Try.prog 34 [msgA m] (.tuple [.r (.bs (wtxt (wnum (wwid (pAsk (wnum (wnum ([], 0) m.k) m.b.r) m.b.a) m.b.x0 m.b.x1 m.b.x2 m.b.x3) m.b.e) m.b.sig).1), .r (.int .i64 (wtxt (wnum (wwid (pAsk (wnum (wnum ([], 0) m.k) m.b.r) m.b.a) m.b.x0 m.b.x1 m.b.x2 m.b.x3) m.b.e) m.b.sig).2)]) := by
  have cE := w_mCheck m
  rw [hE] at cE
  clear hE
  refine spec_of_go (N := 73) Try.func34 rfl (by decide) rfl rfl ?_
  refine z2 ?_
  refine ar_new tOk rfl rfl rfl trivial ?_
  iterate 2 refine p1 ?_
  refine z1 ?_
  refine z2 ?_
  refine p2 ?_
  refine ar_pur (cE) rfl rfl rfl rfl rfl rfl rfl ?_
  refine p1 ?_
  refine z3 ?_
  iterate 2 refine p1 ?_
  refine ar_nil ?_
  refine ag_false rfl (by rfl) ?_
  refine ag_skip ?_
  refine z2 ?_
  refine ar_obj [] (w_NewO) rfl rfl (handed_of rfl rfl (by decide) trivial) rfl rfl rfl rfl ?_
  rintro _ _ ⟨rfl, rfl⟩
  refine ⟨_, _, rfl, ?_⟩
  refine p1 ?_
  refine ar_nil ?_
  refine ag_ent ent_dead ?_
  refine ag_ent (ent_same (h' := obAt none [.int .i64 0, .bool true] 1 2 ⟨3, [(0, some (.mixed ((msgC (m)).map .r)))], false⟩) rfl rfl ⟨rfl, rfl, rfl, trivial⟩) ?_
  refine z2 ?_
  iterate 2 refine p1 ?_
  refine p2 ?_
  refine ar_ob (w_ONum ([], 0) m.k none [.int .i64 0, .bool true] oRel0) rfl rfl rfl rfl rfl rfl rfl (by intro d hd; cases hd; rfl) ?_
  rintro _ sl tl ⟨rfl, hr⟩
  refine ⟨rfl, ?_⟩
  refine z1 ?_
  refine z2 ?_
  refine p1 ?_
  refine p2 ?_
  refine ar_nil ?_
  refine ag_block ?_
  refine z2 ?_
  iterate 2 refine p1 ?_
  refine ar_nil ?_
  refine ag_false rfl (decide_eq_false (show ¬ m.k = 1 by omega)) ?_
  refine z2 ?_
  iterate 2 refine p1 ?_
  refine ar_nil ?_
  refine ag_true rfl (decide_eq_true (show m.k = 2 by omega)) ?_
  refine z2 ?_
  iterate 3 refine p1 ?_
  refine p2 ?_
  refine ar_ob (w_ONum _ m.b.r sl tl hr) rfl rfl rfl rfl rfl rfl rfl (by intro d hd; cases hd; rfl) ?_
  rintro _ sl tl ⟨rfl, hr⟩
  refine ⟨rfl, ?_⟩
  refine z3 ?_
  iterate 3 refine p1 ?_
  refine p2 ?_
  refine ar_ob (w_bPut _ sl tl hr m.b.a hm.b.a) rfl rfl rfl rfl rfl rfl rfl (by intro d hd; cases hd; rfl) ?_
  rintro _ sl tl ⟨rfl, hr⟩
  refine ⟨rfl, ?_⟩
  refine z3 ?_
  iterate 3 refine p1 ?_
  refine p2 ?_
  refine ar_ob (w_OWide _ m.b.x0 m.b.x1 m.b.x2 m.b.x3 hm.b.h0 hm.b.h1 hm.b.h2 hm.b.h3 sl tl hr) rfl rfl rfl rfl rfl rfl rfl (by intro d hd; cases hd; rfl) ?_
  rintro _ sl tl ⟨rfl, hr⟩
  refine ⟨rfl, ?_⟩
  refine z3 ?_
  iterate 3 refine p1 ?_
  refine p2 ?_
  refine ar_ob (w_ONum _ m.b.e sl tl hr) rfl rfl rfl rfl rfl rfl rfl (by intro d hd; cases hd; rfl) ?_
  rintro _ sl tl ⟨rfl, hr⟩
  refine ⟨rfl, ?_⟩
  refine ar_nil ?_
  refine ag_reg ?_
  iterate 3 refine p1 ?_
  refine p2 ?_
  refine ar_ob (w_OText _ m.b.sig hm.b.sig sl tl hr) rfl rfl rfl rfl rfl rfl rfl (by intro d hd; cases hd; rfl) ?_
  rintro _ sl tl ⟨rfl, hr⟩
  refine ⟨rfl, ?_⟩
  refine ar_nil ?_
  refine ag_inBlock ?_
  refine z2 ?_
  refine p1 ?_
  refine ar_ob (w_ODone _ sl tl hr) rfl rfl rfl rfl rfl rfl rfl (by intro d hd; cases hd; rfl) ?_
  rintro _ sl tl ⟨rfl, hr⟩
  refine ⟨rfl, ?_⟩
  iterate 4 refine p1 ?_
  refine ar_nil ?_
  refine ag_ret tOk Try.func34 rfl rfl (by simp) ?_
  rfl

theorem w_mPut3 (m : MsgV) (hm : m.ok) (hk : m.k = 3) (hE : msgE m = 0) : Pur Try.prog 34 [msgA m] (.tuple [.r (.bs (wtxt (wwid (pVar (pInv (wnum ([], 0) m.k) m.i) m.v) m.g0 m.g1 m.g2 m.g3) m.sig).1), .r (.int .i64 (wtxt (wwid (pVar (pInv (wnum ([], 0) m.k) m.i) m.v) m.g0 m.g1 m.g2 m.g3) m.sig).2)]) := by
  have cE := w_mCheck m
  rw [hE] at cE
  clear hE
  refine spec_of_go (N := 73) Try.func34 rfl (by decide) rfl rfl ?_
  refine z2 ?_
  refine ar_new tOk rfl rfl rfl trivial ?_
  iterate 2 refine p1 ?_
  refine z1 ?_
  refine z2 ?_
  refine p2 ?_
  refine ar_pur (cE) rfl rfl rfl rfl rfl rfl rfl ?_
  refine p1 ?_
  refine z3 ?_
  iterate 2 refine p1 ?_
  refine ar_nil ?_
  refine ag_false rfl (by rfl) ?_
  refine ag_skip ?_
  refine z2 ?_
  refine ar_obj [] (w_NewO) rfl rfl (handed_of rfl rfl (by decide) trivial) rfl rfl rfl rfl ?_
  rintro _ _ ⟨rfl, rfl⟩
  refine ⟨_, _, rfl, ?_⟩
  refine p1 ?_
  refine ar_nil ?_
  refine ag_ent ent_dead ?_
  refine ag_ent (ent_same (h' := obAt none [.int .i64 0, .bool true] 1 2 ⟨3, [(0, some (.mixed ((msgC (m)).map .r)))], false⟩) rfl rfl ⟨rfl, rfl, rfl, trivial⟩) ?_
  refine z2 ?_
  iterate 2 refine p1 ?_
  refine p2 ?_
  refine ar_ob (w_ONum ([], 0) m.k none [.int .i64 0, .bool true] oRel0) rfl rfl rfl rfl rfl rfl rfl (by intro d hd; cases hd; rfl) ?_
  rintro _ sl tl ⟨rfl, hr⟩
  refine ⟨rfl, ?_⟩
  refine z1 ?_
  refine z2 ?_
  refine p1 ?_
  refine p2 ?_
  refine ar_nil ?_
  refine ag_block ?_
  refine z2 ?_
  iterate 2 refine p1 ?_
  refine ar_nil ?_
  refine ag_false rfl (decide_eq_false (show ¬ m.k = 1 by omega)) ?_
  refine z2 ?_
  iterate 2 refine p1 ?_
  refine ar_nil ?_
  refine ag_false rfl (decide_eq_false (show ¬ m.k = 2 by omega)) ?_
  refine z2 ?_
  iterate 2 refine p1 ?_
  refine ar_nil ?_
  refine ag_true rfl (decide_eq_true (show m.k = 3 by omega)) ?_
  refine z2 ?_
  iterate 2 refine p1 ?_
  refine p2 ?_
  refine ar_ob (w_dPut _ sl tl hr m.i hm.i) rfl rfl rfl rfl rfl rfl rfl (by intro d hd; cases hd; rfl) ?_
  rintro _ sl tl ⟨rfl, hr⟩
  refine ⟨rfl, ?_⟩
  refine z3 ?_
  iterate 2 refine p1 ?_
  refine p2 ?_
  refine ar_ob (w_dPutVar _ sl tl hr m.v hm.v) rfl rfl rfl rfl rfl rfl rfl (by intro d hd; cases hd; rfl) ?_
  rintro _ sl tl ⟨rfl, hr⟩
  refine ⟨rfl, ?_⟩
  refine z3 ?_
  iterate 2 refine p1 ?_
  refine p2 ?_
  refine ar_ob (w_OWide _ m.g0 m.g1 m.g2 m.g3 hm.g0 hm.g1 hm.g2 hm.g3 sl tl hr) rfl rfl rfl rfl rfl rfl rfl (by intro d hd; cases hd; rfl) ?_
  rintro _ sl tl ⟨rfl, hr⟩
  refine ⟨rfl, ?_⟩
  refine ar_nil ?_
  refine ag_reg ?_
  iterate 2 refine p1 ?_
  refine p2 ?_
  refine ar_ob (w_OText _ m.sig hm.sig sl tl hr) rfl rfl rfl rfl rfl rfl rfl (by intro d hd; cases hd; rfl) ?_
  rintro _ sl tl ⟨rfl, hr⟩
  refine ⟨rfl, ?_⟩
  refine ar_nil ?_
  refine ag_inBlock ?_
  refine z2 ?_
  refine p1 ?_
  refine ar_ob (w_ODone _ sl tl hr) rfl rfl rfl rfl rfl rfl rfl (by intro d hd; cases hd; rfl) ?_
  rintro _ sl tl ⟨rfl, hr⟩
  refine ⟨rfl, ?_⟩
  iterate 4 refine p1 ?_
  refine ar_nil ?_
  refine ag_ret tOk Try.func34 rfl rfl (by simp) ?_
  rfl

theorem w_rPutMN (m : MsgV) (hm : m.ok) (hE : msgE m ≠ 0) : Pur Try.prog 35 [msgA m] (.tuple [.r (.bs ((([], msgE m) : W)).1), .r (.int .i64 ((([], msgE m) : W)).2)]) := by
  have cE := w_rMsg m hm
  generalize msgE m = E at hE cE
  generalize plM m = p at cE
  refine spec_of_go (N := 67) Try.func35 rfl (by decide) rfl rfl ?_
  refine z2 ?_
  refine ar_new tOk rfl rfl rfl trivial ?_
  iterate 2 refine p1 ?_
  refine z1 ?_
  refine z2 ?_
  refine p2 ?_
  refine ar_pur (cE) rfl rfl rfl rfl rfl rfl rfl ?_
  iterate 3 refine p1 ?_
  refine ar_new tOk rfl rfl rfl ?_ ?_
  · simp
  refine ar_store (h' := ⟨2, [(1, some (.mixed ((msgC (p)).map .r))), (1, some (.mixed ((msgC (msg0)).map .r))), (0, some (.mixed ((msgC (m)).map .r)))], false⟩) (c := True) tOk (by kernel_rfl) rfl rfl trivial ?_
  refine p1 ?_
  refine z3 ?_
  iterate 2 refine p1 ?_
  refine ar_nil ?_
  refine ag_true rfl (decide_eq_true hE) ?_
  refine z2 ?_
  iterate 3 refine p1 ?_
  refine ar_nil ?_
  refine ag_ent (ent_nil 2 (.bs []) rfl (.inl rfl)) ?_
  refine ag_ret tOk Try.func35 rfl rfl (by simp) ?_
  rfl

theorem w_rPutM1 (m : MsgV) (hm : m.ok) (hk : m.k = 1) (hE : msgE m = 0) : Pur Try.prog 35 [msgA m] (.tuple [.r (.bs (pAsk (wnum ([], 0) m.k) m.a).1), .r (.int .i64 (pAsk (wnum ([], 0) m.k) m.a).2)]) := by
  have cE := w_rMsg m hm
  rw [hE] at cE
  generalize plM m = p at cE
  clear hE
  have hN : Pur Try.prog 46 [.agg [.r .nil, .r (.int .i64 0)], .r (.int .i64 m.k)] (wV (wnum ([], 0) m.k)) := Spec.args (w_rNumC ([], 0) m.k wok0) (fun R μ w cs h => by simp only [ARels] at h ⊢; obtain ⟨c, r, rfl, h1, h2⟩ := h; exact ⟨c, r, rfl, nil_agg h1, h2⟩)
  have h1 : wok (wnum ([], 0) m.k) := wok_num wok0
  refine spec_of_go (N := 67) Try.func35 rfl (by decide) rfl rfl ?_
  refine z2 ?_
  refine ar_new tOk rfl rfl rfl trivial ?_
  iterate 2 refine p1 ?_
  refine z1 ?_
  refine z2 ?_
  refine p2 ?_
  refine ar_pur (cE) rfl rfl rfl rfl rfl rfl rfl ?_
  iterate 3 refine p1 ?_
  refine ar_new tOk rfl rfl rfl ?_ ?_
  · simp
  refine ar_store (h' := ⟨2, [(1, some (.mixed ((msgC (p)).map .r))), (1, some (.mixed ((msgC (msg0)).map .r))), (0, some (.mixed ((msgC (m)).map .r)))], false⟩) (c := True) tOk (by kernel_rfl) rfl rfl trivial ?_
  refine p1 ?_
  refine ar_nil ?_
  refine ag_ent (ent_weak (g' := [(1, .ptr 0 0), (5, .r (.int .i64 0))]) (h' := ⟨1, [(0, some (.mixed ((msgC (m)).map .r)))], false⟩) [0] rfl rfl rfl rfl ?_ ?_ rfl) ?_
  · exact ⟨⟨rfl, rfl⟩, ⟨rfl, rfl⟩, trivial⟩
  · exact ⟨⟨rfl, rfl, rfl⟩, trivial⟩
  refine z2 ?_
  iterate 2 refine p1 ?_
  refine ar_nil ?_
  refine ag_false rfl (by rfl) ?_
  refine ag_skip ?_
  refine z2 ?_
  refine ar_pure tOk rfl rfl rfl ?_ ?_
  · simp
  refine p1 ?_
  refine p2 ?_
  refine ar_pur (hN) rfl rfl rfl rfl rfl rfl rfl ?_
  refine ar_new tOk rfl rfl rfl ?_ ?_
  · simp
  refine ar_store tOk rfl rfl rfl trivial ?_
  refine ar_nil ?_
  refine ag_ent (ent_weak (g' := [(1, .ptr 0 0), (6, .ptr 1 0)]) (h' := ⟨2, [(0, some (.mixed ((msgC (m)).map .r))), (1, some (.mixed [.r (.bs (wnum ([], 0) m.k).1), .r (.int .i64 (wnum ([], 0) m.k).2)]))], false⟩) [0, 1] rfl rfl rfl rfl ?_ ?_ rfl) ?_
  · exact ⟨⟨rfl, rfl⟩, ⟨rfl, rfl⟩, trivial⟩
  · exact ⟨⟨rfl, rfl, rfl⟩, ⟨rfl, rfl, rfl⟩, trivial⟩
  refine ag_seq ?_
  refine z2 ?_
  refine p1 ?_
  refine p2 ?_
  refine ar_nil ?_
  refine ag_block ?_
  refine z2 ?_
  iterate 2 refine p1 ?_
  refine ar_nil ?_
  refine ag_true rfl (decide_eq_true (show m.k = 1 by omega)) ?_
  refine ag_reg ?_
  refine p2 ?_
  refine p1 ?_
  refine p2 ?_
  refine ar_pur (w_rPutAsk _ h1 m.a hm.a) rfl rfl rfl rfl rfl rfl rfl ?_
  refine ar_store tOk rfl rfl rfl trivial ?_
  refine ar_nil ?_
  refine ag_inBlock ?_
  refine ag_seq ?_
  refine ag_draw0 (by kernel_rfl) (by kernel_rfl) ?_
  refine aq_pure tOk rfl rfl rfl trivial ?_
  refine aq_load0 tOk rfl (by kernel_rfl) rfl rfl trivial ?_
  refine aq_pure tOk rfl rfl rfl trivial ?_
  refine aq_load0 tOk rfl (by kernel_rfl) rfl rfl trivial ?_
  iterate 2 refine aq_pure tOk rfl rfl rfl trivial ?_
  refine aq_nil rfl ?_
  refine ag_ret tOk Try.func35 rfl rfl (by first | trivial | exact ⟨trivial, trivial⟩ | simp) ?_
  rfl

theorem w_rPutM2 (m : MsgV) (hm : m.ok) (hk : m.k = 2) (hE : msgE m = 0) : Pur Try.prog 35 [msgA m] (.tuple [.r (.bs (wtxt (wnum (wwid (pAsk (wnum (wnum ([], 0) m.k) m.b.r) m.b.a) m.b.x0 m.b.x1 m.b.x2 m.b.x3) m.b.e) m.b.sig).1), .r (.int .i64 (wtxt (wnum (wwid (pAsk (wnum (wnum ([], 0) m.k) m.b.r) m.b.a) m.b.x0 m.b.x1 m.b.x2 m.b.x3) m.b.e) m.b.sig).2)]) := by
  have cE := w_rMsg m hm
  rw [hE] at cE
  generalize plM m = p at cE
  clear hE
  have hN : Pur Try.prog 46 [.agg [.r .nil, .r (.int .i64 0)], .r (.int .i64 m.k)] (wV (wnum ([], 0) m.k)) := Spec.args (w_rNumC ([], 0) m.k wok0) (fun R μ w cs h => by simp only [ARels] at h ⊢; obtain ⟨c, r, rfl, h1, h2⟩ := h; exact ⟨c, r, rfl, nil_agg h1, h2⟩)
  have h1 : wok (wnum ([], 0) m.k) := wok_num wok0
  refine spec_of_go (N := 67) Try.func35 rfl (by decide) rfl rfl ?_
  refine z2 ?_
  refine ar_new tOk rfl rfl rfl trivial ?_
  iterate 2 refine p1 ?_
  refine z1 ?_
  refine z2 ?_
  refine p2 ?_
  refine ar_pur (cE) rfl rfl rfl rfl rfl rfl rfl ?_
  iterate 3 refine p1 ?_
  refine ar_new tOk rfl rfl rfl ?_ ?_
  · simp
  refine ar_store (h' := ⟨2, [(1, some (.mixed ((msgC (p)).map .r))), (1, some (.mixed ((msgC (msg0)).map .r))), (0, some (.mixed ((msgC (m)).map .r)))], false⟩) (c := True) tOk (by kernel_rfl) rfl rfl trivial ?_
  refine p1 ?_
  refine ar_nil ?_
  refine ag_ent (ent_weak (g' := [(1, .ptr 0 0), (5, .r (.int .i64 0))]) (h' := ⟨1, [(0, some (.mixed ((msgC (m)).map .r)))], false⟩) [0] rfl rfl rfl rfl ?_ ?_ rfl) ?_
  · exact ⟨⟨rfl, rfl⟩, ⟨rfl, rfl⟩, trivial⟩
  · exact ⟨⟨rfl, rfl, rfl⟩, trivial⟩
  refine z2 ?_
  iterate 2 refine p1 ?_
  refine ar_nil ?_
  refine ag_false rfl (by rfl) ?_
  refine ag_skip ?_
  refine z2 ?_
  refine ar_pure tOk rfl rfl rfl ?_ ?_
  · simp
  refine p1 ?_
  refine p2 ?_
  refine ar_pur (hN) rfl rfl rfl rfl rfl rfl rfl ?_
  refine ar_new tOk rfl rfl rfl ?_ ?_
  · simp
  refine ar_store tOk rfl rfl rfl trivial ?_
  refine ar_nil ?_
  refine ag_ent (ent_weak (g' := [(1, .ptr 0 0), (6, .ptr 1 0)]) (h' := ⟨2, [(0, some (.mixed ((msgC (m)).map .r))), (1, some (.mixed [.r (.bs (wnum ([], 0) m.k).1), .r (.int .i64 (wnum ([], 0) m.k).2)]))], false⟩) [0, 1] rfl rfl rfl rfl ?_ ?_ rfl) ?_
  · exact ⟨⟨rfl, rfl⟩, ⟨rfl, rfl⟩, trivial⟩
  · exact ⟨⟨rfl, rfl, rfl⟩, ⟨rfl, rfl, rfl⟩, trivial⟩
  refine ag_seq ?_
  refine z2 ?_
  refine p1 ?_
  refine p2 ?_
  refine ar_nil ?_
  refine ag_block ?_
  refine z2 ?_
  iterate 2 refine p1 ?_
  refine ar_nil ?_
  refine ag_false rfl (decide_eq_false (show ¬ m.k = 1 by omega)) ?_
  refine z2 ?_
  iterate 2 refine p1 ?_
  refine ar_nil ?_
  refine ag_true rfl (decide_eq_true (show m.k = 2 by omega)) ?_
  apply ag_draw1 [] (by kernel_rfl) (by kernel_rfl)
  refine aq_load0 tOk rfl (by kernel_rfl) rfl rfl trivial ?_
  iterate 2 refine aq_pure tOk rfl rfl rfl trivial ?_
  refine aq_load0 tOk rfl (by kernel_rfl) rfl rfl trivial ?_
  refine aq_pur (w_rNumC _ _ h1) rfl rfl rfl rfl rfl rfl rfl ?_
  iterate 2 refine aq_pure tOk rfl rfl rfl trivial ?_
  refine aq_load0 tOk rfl (by kernel_rfl) rfl rfl trivial ?_
  refine aq_pur (w_rPutAsk _ (wok_num h1) m.b.a hm.b.a) rfl rfl rfl rfl rfl rfl rfl ?_
  iterate 2 refine aq_pure tOk rfl rfl rfl trivial ?_
  refine aq_load0 tOk rfl (by kernel_rfl) rfl rfl trivial ?_
  refine aq_pur (w_rWideC _ m.b.x0 m.b.x1 m.b.x2 m.b.x3 hm.b.h0 hm.b.h1 hm.b.h2 hm.b.h3 (wok_ask (wok_num h1))) rfl rfl rfl rfl rfl rfl rfl ?_
  iterate 2 refine aq_pure tOk rfl rfl rfl trivial ?_
  refine aq_load0 tOk rfl (by kernel_rfl) rfl rfl trivial ?_
  refine aq_pur (w_rNumC _ _ (wok_wid (wok_ask (wok_num h1)))) rfl rfl rfl rfl rfl rfl rfl ?_
  iterate 2 refine aq_pure tOk rfl rfl rfl trivial ?_
  refine aq_load0 tOk rfl (by kernel_rfl) rfl rfl trivial ?_
  refine aq_pur (w_rTextC _ _ (wok_num (wok_wid (wok_ask (wok_num h1))))) rfl rfl rfl rfl rfl rfl rfl ?_
  refine aq_store10 tOk rfl rfl rfl rfl trivial ?_
  refine aq_nil rfl ?_
  refine ag_inBlock ?_
  refine ag_seq ?_
  refine ag_draw0 (by kernel_rfl) (by kernel_rfl) ?_
  refine aq_pure tOk rfl rfl rfl trivial ?_
  refine aq_load0 tOk rfl (by kernel_rfl) rfl rfl trivial ?_
  refine aq_pure tOk rfl rfl rfl trivial ?_
  refine aq_load0 tOk rfl (by kernel_rfl) rfl rfl trivial ?_
  iterate 2 refine aq_pure tOk rfl rfl rfl trivial ?_
  refine aq_nil rfl ?_
  refine ag_ret tOk Try.func35 rfl rfl (by first | trivial | exact ⟨trivial, trivial⟩ | simp) ?_
  rfl

theorem w_rPutM3 (m : MsgV) (hm : m.ok) (hk : m.k = 3) (hE : msgE m = 0) : Pur Try.prog 35 [msgA m] (.tuple [.r (.bs (wtxt (wwid (pVar (pInv (wnum ([], 0) m.k) m.i) m.v) m.g0 m.g1 m.g2 m.g3) m.sig).1), .r (.int .i64 (wtxt (wwid (pVar (pInv (wnum ([], 0) m.k) m.i) m.v) m.g0 m.g1 m.g2 m.g3) m.sig).2)]) := by
  have cE := w_rMsg m hm
  rw [hE] at cE
  generalize plM m = p at cE
  clear hE
  have hN : Pur Try.prog 46 [.agg [.r .nil, .r (.int .i64 0)], .r (.int .i64 m.k)] (wV (wnum ([], 0) m.k)) := Spec.args (w_rNumC ([], 0) m.k wok0) (fun R μ w cs h => by simp only [ARels] at h ⊢; obtain ⟨c, r, rfl, h1, h2⟩ := h; exact ⟨c, r, rfl, nil_agg h1, h2⟩)
  have h1 : wok (wnum ([], 0) m.k) := wok_num wok0
  refine spec_of_go (N := 67) Try.func35 rfl (by decide) rfl rfl ?_
  refine z2 ?_
  refine ar_new tOk rfl rfl rfl trivial ?_
  iterate 2 refine p1 ?_
  refine z1 ?_
  refine z2 ?_
  refine p2 ?_
  refine ar_pur (cE) rfl rfl rfl rfl rfl rfl rfl ?_
  iterate 3 refine p1 ?_
  refine ar_new tOk rfl rfl rfl ?_ ?_
  · simp
  refine ar_store (h' := ⟨2, [(1, some (.mixed ((msgC (p)).map .r))), (1, some (.mixed ((msgC (msg0)).map .r))), (0, some (.mixed ((msgC (m)).map .r)))], false⟩) (c := True) tOk (by kernel_rfl) rfl rfl trivial ?_
  refine p1 ?_
  refine ar_nil ?_
  refine ag_ent (ent_weak (g' := [(1, .ptr 0 0), (5, .r (.int .i64 0))]) (h' := ⟨1, [(0, some (.mixed ((msgC (m)).map .r)))], false⟩) [0] rfl rfl rfl rfl ?_ ?_ rfl) ?_
  · exact ⟨⟨rfl, rfl⟩, ⟨rfl, rfl⟩, trivial⟩
  · exact ⟨⟨rfl, rfl, rfl⟩, trivial⟩
  refine z2 ?_
  iterate 2 refine p1 ?_
  refine ar_nil ?_
  refine ag_false rfl (by rfl) ?_
  refine ag_skip ?_
  refine z2 ?_
  refine ar_pure tOk rfl rfl rfl ?_ ?_
  · simp
  refine p1 ?_
  refine p2 ?_
  refine ar_pur (hN) rfl rfl rfl rfl rfl rfl rfl ?_
  refine ar_new tOk rfl rfl rfl ?_ ?_
  · simp
  refine ar_store tOk rfl rfl rfl trivial ?_
  refine ar_nil ?_
  refine ag_ent (ent_weak (g' := [(1, .ptr 0 0), (6, .ptr 1 0)]) (h' := ⟨2, [(0, some (.mixed ((msgC (m)).map .r))), (1, some (.mixed [.r (.bs (wnum ([], 0) m.k).1), .r (.int .i64 (wnum ([], 0) m.k).2)]))], false⟩) [0, 1] rfl rfl rfl rfl ?_ ?_ rfl) ?_
  · exact ⟨⟨rfl, rfl⟩, ⟨rfl, rfl⟩, trivial⟩
  · exact ⟨⟨rfl, rfl, rfl⟩, ⟨rfl, rfl, rfl⟩, trivial⟩
  refine ag_seq ?_
  refine z2 ?_
  refine p1 ?_
  refine p2 ?_
  refine ar_nil ?_
  refine ag_block ?_
  refine z2 ?_
  iterate 2 refine p1 ?_
  refine ar_nil ?_
  refine ag_false rfl (decide_eq_false (show ¬ m.k = 1 by omega)) ?_
  refine z2 ?_
  iterate 2 refine p1 ?_
  refine ar_nil ?_
  refine ag_false rfl (decide_eq_false (show ¬ m.k = 2 by omega)) ?_
  apply ag_draw1 [] (by kernel_rfl) (by kernel_rfl)
  refine aq_load0 tOk rfl (by kernel_rfl) rfl rfl trivial ?_
  refine aq_pure tOk rfl rfl rfl trivial ?_
  refine aq_load0 tOk rfl (by kernel_rfl) rfl rfl trivial ?_
  refine aq_pur (w_rPutInv _ h1 m.i) rfl rfl rfl rfl rfl rfl rfl ?_
  refine aq_pure tOk rfl rfl rfl trivial ?_
  refine aq_load0 tOk rfl (by kernel_rfl) rfl rfl trivial ?_
  refine aq_pur (w_rPutVar _ (wok_inv h1) m.v hm.v) rfl rfl rfl rfl rfl rfl rfl ?_
  refine aq_pure tOk rfl rfl rfl trivial ?_
  refine aq_load0 tOk rfl (by kernel_rfl) rfl rfl trivial ?_
  refine aq_pur (w_rWideC _ m.g0 m.g1 m.g2 m.g3 hm.g0 hm.g1 hm.g2 hm.g3 (wok_var (wok_inv h1))) rfl rfl rfl rfl rfl rfl rfl ?_
  refine aq_pure tOk rfl rfl rfl trivial ?_
  refine aq_load0 tOk rfl (by kernel_rfl) rfl rfl trivial ?_
  refine aq_pur (w_rTextC _ _ (wok_wid (wok_var (wok_inv h1)))) rfl rfl rfl rfl rfl rfl rfl ?_
  refine aq_store10 tOk rfl rfl rfl rfl trivial ?_
  refine aq_nil rfl ?_
  refine ag_inBlock ?_
  refine ag_seq ?_
  refine ag_draw0 (by kernel_rfl) (by kernel_rfl) ?_
  refine aq_pure tOk rfl rfl rfl trivial ?_
  refine aq_load0 tOk rfl (by kernel_rfl) rfl rfl trivial ?_
  refine aq_pure tOk rfl rfl rfl trivial ?_
  refine aq_load0 tOk rfl (by kernel_rfl) rfl rfl trivial ?_
  iterate 2 refine aq_pure tOk rfl rfl rfl trivial ?_
  refine aq_nil rfl ?_
  refine ag_ret tOk Try.func35 rfl rfl (by first | trivial | exact ⟨trivial, trivial⟩ | simp) ?_
  rfl

theorem putM_N {m : MsgV} (h : msgE m ≠ 0) : putM m = ([], msgE m) := by rw [putM, if_pos h]
theorem putM_0 {m : MsgV} (h : msgE m = 0) : putM m = pMs m := by rw [putM, if_neg (by omega)]
theorem w_mPut (m : MsgV) (hm : m.ok) : Pur Try.prog 34 [msgA m] (.tuple [.r (.bs (putM m).1), .r (.int .i64 (putM m).2)]) := by
  by_cases h : msgE m = 0
  · rw [putM_0 h]
    rcases msgE_k h with q | q | q
    · rw [pMs, if_pos q]; exact w_mPut1 m hm q h
    · rw [pMs, if_neg (by omega), if_pos q]; exact w_mPut2 m hm q h
    · rw [pMs, if_neg (by omega), if_neg (by omega)]; exact w_mPut3 m hm q h
  · rw [putM_N h]; exact w_mPutN m h
theorem w_rPutM (m : MsgV) (hm : m.ok) : Pur Try.prog 35 [msgA m] (.tuple [.r (.bs (putM m).1), .r (.int .i64 (putM m).2)]) := by
  by_cases h : msgE m = 0
  · rw [putM_0 h]
    rcases msgE_k h with q | q | q
    · rw [pMs, if_pos q]; exact w_rPutM1 m hm q h
    · rw [pMs, if_neg (by omega), if_pos q]; exact w_rPutM2 m hm q h
    · rw [pMs, if_neg (by omega), if_neg (by omega)]; exact w_rPutM3 m hm q h
  · rw [putM_N h]; exact w_rPutMN m hm h

end Go.Proofs.Ytppniggpdepabaa

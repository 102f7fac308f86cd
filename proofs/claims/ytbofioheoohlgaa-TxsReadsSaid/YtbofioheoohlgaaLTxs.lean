/-
  WALKS: the laws of layer 9. (Printed by gen.py out of w_ltxs.py.)
-/
import Derived.Test.YtbofioheoohlgaaTxq
namespace Go.Proofs.Ytbofioheoohlgaa
open Go
set_option maxRecDepth 20000
set_option linter.unusedVariables false
set_option linter.unusedSimpArgs false

theorem w_TxsPuts (t : TxV) (ht : t.ok) : Pur Try.prog 7 [txA t] (.r (.bool true)) := by
  have hP : Pur Try.prog 38 [.agg [.r .nil, .r (.int .i64 0)], txA t] (wV (pTx ([], 0) t)) := Spec.args (w_rPutTx ([], 0) wok0 t ht) (fun R μ w cs h => by simp only [ARels] at h ⊢; obtain ⟨c, r, rfl, h1, h2⟩ := h; exact ⟨c, r, rfl, nil_agg h1, h2⟩)
  obtain ⟨p, hp⟩ : ∃ p, pTx ([], 0) t = p := ⟨_, rfl⟩
  have cp := w_xPut ([], 0) none [.int .i64 0, .bool true] oRel0 t ht
  rw [hp] at hP cp
  clear hp
  refine spec_of_go (N := 35) Try.func7 rfl (by decide) rfl rfl ?_
  refine z2 ?_
  refine ar_new tOk rfl rfl rfl trivial ?_
  refine p1 ?_
  refine z3 ?_
  refine ar_obj [] (w_NewO) rfl rfl (handed_of rfl rfl (by decide) trivial) rfl rfl rfl rfl ?_
  rintro _ _ ⟨rfl, rfl⟩
  refine ⟨_, _, rfl, ?_⟩
  refine p1 ?_
  refine ar_nil ?_
  refine ag_ent ent_dead ?_
  refine ag_ent (ent_same (h' := obAt none [.int .i64 0, .bool true] 1 2 ⟨3, [(0, some (.mixed ((txC (t)).map .r)))], false⟩) rfl rfl ⟨rfl, rfl, rfl, trivial⟩) ?_
  refine z2 ?_
  refine p1 ?_
  refine p2 ?_
  refine ar_ob (cp) rfl rfl rfl rfl rfl rfl rfl (by intro d hd; cases hd; rfl) ?_
  rintro _ sl tl ⟨rfl, hr⟩
  refine ⟨rfl, ?_⟩
  refine z3 ?_
  refine p1 ?_
  refine ar_ob (w_ODone _ sl tl hr) rfl rfl rfl rfl rfl rfl rfl (by intro d hd; cases hd; rfl) ?_
  rintro _ sl tl ⟨rfl, hr⟩
  refine ⟨rfl, ?_⟩
  iterate 5 refine p1 ?_
  refine ar_nil ?_
  refine ag_ent (ent_weak (g' := [(1, .ptr 0 0), (4, .r (.bs p.1)), (5, .r (.int .i64 p.2))]) (h' := ⟨1, [(0, some (.mixed ((txC (t)).map .r)))], false⟩) [0] rfl rfl rfl rfl ?_ ?_ rfl) ?_
  · exact ⟨⟨rfl, rfl⟩, ⟨rfl, rfl⟩, ⟨rfl, rfl⟩, trivial⟩
  · exact ⟨⟨rfl, rfl, rfl⟩, trivial⟩
  refine z2 ?_
  refine ar_pure tOk rfl rfl rfl ?_ ?_
  · simp
  refine p2 ?_
  refine ar_pur (hP) rfl rfl rfl rfl rfl rfl rfl ?_
  refine ar_new tOk rfl rfl rfl ?_ ?_
  · simp
  refine ar_store tOk rfl rfl rfl trivial ?_
  refine z1 ?_
  refine ag_draw0 (by kernel_rfl) (by kernel_rfl) ?_
  refine aq_pure tOk rfl rfl rfl trivial ?_
  refine aq_pur (w_num09 _) rfl rfl rfl rfl rfl rfl rfl ?_
  refine aq_pure tOk rfl rfl rfl trivial ?_
  refine aq_load0 tOk rfl (by kernel_rfl) rfl rfl trivial ?_
  iterate 2 refine aq_pure tOk rfl rfl rfl trivial ?_
  iterate 3 refine aq_pure tOk rfl rfl (by simp) trivial ?_
  refine aq_load0 tOk rfl (by kernel_rfl) rfl (by simp) trivial ?_
  iterate 2 refine aq_pure tOk rfl rfl (by simp) trivial ?_
  iterate 2 refine aq_pure tOk rfl rfl rfl trivial ?_
  refine aq_pur (w_alive09) rfl rfl rfl rfl rfl rfl (by simp) ?_
  iterate 2 refine aq_pure tOk rfl rfl rfl trivial ?_
  refine aq_nil rfl ?_
  refine ag_ret tOk Try.func7 rfl rfl (by simp) ?_
  exact eqB (by simp)

theorem w_TxsTells (t : TxV) (ht : t.ok) (u : TxV) : Pur Try.prog 8 [txA t, txA u] (.r (.bool true)) := by
  have hP : Pur Try.prog 38 [.agg [.r .nil, .r (.int .i64 0)], txA t] (wV (pTx ([], 0) t)) := Spec.args (w_rPutTx ([], 0) wok0 t ht) (fun R μ w cs h => by simp only [ARels] at h ⊢; obtain ⟨c, r, rfl, h1, h2⟩ := h; exact ⟨c, r, rfl, nil_agg h1, h2⟩)
  have c1 := w_xOctets t ht
  have c2 := w_rTx t
  have c3 := w_xCheck t
  have f0 : txE t = 0 → octL t = pTx ([], 0) t := fun h => by rw [octL, if_neg (by omega)]
  have f1 : ¬ txE t = 0 → octL t = ([], txE t) := fun h => by rw [octL, if_pos h]
  generalize octL t = o at c1 f0 f1
  generalize txE t = E at c2 c3 f0 f1
  generalize pTx ([], 0) t = p at hP f0
  refine spec_of_go (N := 56) Try.func8 rfl (by decide) rfl rfl ?_
  refine z2 ?_
  iterate 2 refine ar_new tOk rfl rfl rfl trivial ?_
  refine p1 ?_
  refine z3 ?_
  refine p2 ?_
  refine ar_pur (c1) rfl rfl rfl rfl rfl rfl rfl ?_
  iterate 5 refine p1 ?_
  refine z3 ?_
  refine p2 ?_
  refine ar_pur (c2) rfl rfl rfl rfl rfl rfl rfl ?_
  refine p1 ?_
  refine z3 ?_
  refine ar_pure tOk rfl rfl rfl ?_ ?_
  · simp
  refine ar_new tOk rfl rfl rfl ?_ ?_
  · simp
  refine ar_store tOk rfl rfl rfl trivial ?_
  refine z1 ?_
  refine z2 ?_
  iterate 2 refine p1 ?_
  refine ar_nil ?_
  refine ag_if rfl ?_ ?_
  · intro h18
    obtain rfl := f0 h18
    refine z2 ?_
    iterate 2 refine p2 ?_
    refine ar_pur (hP) rfl rfl rfl rfl rfl rfl rfl ?_
    refine ar_store tOk rfl rfl rfl trivial ?_
    refine ar_nil ?_
    refine ag_reg ?_
    refine p1 ?_
    refine p2 ?_
    refine p1 ?_
    refine z1 ?_
    refine ag_draw0 (by kernel_rfl) (by kernel_rfl) ?_
    refine aq_load0 tOk rfl (by kernel_rfl) rfl rfl trivial ?_
    refine aq_pur (c3) rfl rfl rfl rfl rfl rfl rfl ?_
    refine aq_pur (w_num09 _) rfl rfl rfl rfl rfl rfl rfl ?_
    refine aq_load0 tOk rfl (by kernel_rfl) rfl rfl trivial ?_
    refine aq_pur (c2) rfl rfl rfl rfl rfl rfl rfl ?_
    iterate 2 refine aq_pure tOk rfl rfl rfl trivial ?_
    refine aq_pure tOk rfl rfl (by simp) trivial ?_
    refine aq_pur (w_num09 _) rfl rfl rfl rfl rfl rfl (by simp) ?_
    iterate 2 refine aq_pure tOk rfl rfl (by simp) trivial ?_
    iterate 2 refine aq_pure tOk rfl rfl rfl trivial ?_
    iterate 3 refine aq_pure tOk rfl rfl (by simp) trivial ?_
    refine aq_load0 tOk rfl (by kernel_rfl) rfl (by simp) trivial ?_
    iterate 2 refine aq_pure tOk rfl rfl (by simp) trivial ?_
    iterate 2 refine aq_pure tOk rfl rfl rfl trivial ?_
    iterate 2 refine aq_load0 tOk rfl (by kernel_rfl) rfl (by simp) trivial ?_
    refine aq_pur (w_xSame t u) rfl rfl rfl rfl rfl rfl (by simp) ?_
    iterate 2 refine aq_load0 tOk rfl (by kernel_rfl) rfl (by simp) trivial ?_
    iterate 2 refine aq_pure tOk rfl rfl (by simp) trivial ?_
    iterate 2 refine aq_pure tOk rfl rfl rfl trivial ?_
    refine aq_pur (w_alive09) rfl rfl rfl rfl rfl rfl (by simp [eqTx]) ?_
    iterate 2 refine aq_pure tOk rfl rfl rfl trivial ?_
    refine aq_nil rfl ?_
    refine ag_ret tOk Try.func8 rfl rfl (by simp) ?_
    exact eqB (by simp [eqTx])
  · intro h18
    obtain rfl := f1 h18
    refine ag_skip ?_
    refine ag_seq ?_
    refine ag_draw0 (by kernel_rfl) (by kernel_rfl) ?_
    refine aq_load0 tOk rfl (by kernel_rfl) rfl rfl trivial ?_
    refine aq_pur (c3) rfl rfl rfl rfl rfl rfl rfl ?_
    refine aq_pur (w_num09 _) rfl rfl rfl rfl rfl rfl rfl ?_
    refine aq_load0 tOk rfl (by kernel_rfl) rfl rfl trivial ?_
    refine aq_pur (c2) rfl rfl rfl rfl rfl rfl rfl ?_
    iterate 2 refine aq_pure tOk rfl rfl rfl trivial ?_
    refine aq_pure tOk rfl rfl (by simp) trivial ?_
    refine aq_pur (w_num09 _) rfl rfl rfl rfl rfl rfl (by simp) ?_
    iterate 2 refine aq_pure tOk rfl rfl (by simp) trivial ?_
    iterate 2 refine aq_pure tOk rfl rfl rfl trivial ?_
    iterate 3 refine aq_pure tOk rfl rfl (by simp) trivial ?_
    refine aq_load0 tOk rfl (by kernel_rfl) rfl (by simp) trivial ?_
    iterate 2 refine aq_pure tOk rfl rfl (by simp) trivial ?_
    iterate 2 refine aq_pure tOk rfl rfl rfl trivial ?_
    iterate 2 refine aq_load0 tOk rfl (by kernel_rfl) rfl (by simp) trivial ?_
    refine aq_pur (w_xSame t u) rfl rfl rfl rfl rfl rfl (by simp) ?_
    iterate 2 refine aq_load0 tOk rfl (by kernel_rfl) rfl (by simp) trivial ?_
    iterate 2 refine aq_pure tOk rfl rfl (by simp) trivial ?_
    iterate 2 refine aq_pure tOk rfl rfl rfl trivial ?_
    refine aq_pur (w_alive09) rfl rfl rfl rfl rfl rfl (by simp [eqTx]) ?_
    iterate 2 refine aq_pure tOk rfl rfl rfl trivial ?_
    refine aq_nil rfl ?_
    refine ag_ret tOk Try.func8 rfl rfl (by simp) ?_
    exact eqB (by simp [eqTx])

theorem w_TxsReads (b : List UInt8) : Pur Try.prog 9 [.r (.bs b)] (.r (.bool true)) := by
  have c5 := w_xRead b
  obtain ⟨w, hw⟩ : ∃ w, opR b = w := ⟨_, rfl⟩
  obtain ⟨x, hx⟩ : ∃ x, gTxs w = x := ⟨_, rfl⟩
  have c1 := w_IOpen b
  have c2 := w_rOpen b
  rw [hw] at c1 c2
  have c3 := w_rGetTx w
  have c4 := w_xGet w
  rw [hx] at c3 c4
  have e1 : rdL b = rdV x := by rw [rdL, hw, hx]
  rw [e1] at c5
  clear hw hx e1
  have f1 : 0 < x.2.1.length → rdV x = (tx0, (spR x.2).2) := fun h => by rw [rdV, if_pos h]
  have f2 : ¬ 0 < x.2.1.length → x.2.2 ≠ 0 → rdV x = (tx0, x.2.2) := fun h q => by rw [rdV, if_neg h, if_pos q]
  have f3 : ¬ 0 < x.2.1.length → ¬ x.2.2 ≠ 0 → rdV x = (x.1, x.2.2) := fun h q => by rw [rdV, if_neg h, if_neg q]; congr 1; omega
  generalize rdV x = d at c5 f1 f2 f3
  refine spec_of_go (N := 75) Try.func9 rfl (by decide) rfl rfl ?_
  refine z2 ?_
  refine p1 ?_
  refine z1 ?_
  refine z2 ?_
  refine ar_pur (w_alive09) rfl rfl rfl rfl rfl rfl rfl ?_
  refine p1 ?_
  refine ar_nil ?_
  refine ag_false rfl (rfl) ?_
  refine ag_skip ?_
  refine z2 ?_
  refine p1 ?_
  refine ar_pur (c5) rfl rfl rfl rfl rfl rfl rfl ?_
  iterate 3 refine p1 ?_
  refine ar_new tOk rfl rfl rfl ?_ ?_
  · simp
  refine ar_store (h' := ⟨1, [(0, some (.mixed ((txC (d.1)).map .r))), (0, some (.mixed ((txC (tx0)).map .r)))], false⟩) (c := True) tOk (by kernel_rfl) rfl rfl trivial ?_
  refine p1 ?_
  refine ar_nil ?_
  refine ag_ent (ent_weak (g' := [(0, .r (.bs b)), (3, .ptr 0 0), (4, .r (.int .i64 d.2))]) (h' := ⟨1, [(0, some (.mixed ((txC (d.1)).map .r)))], false⟩) [0] rfl rfl rfl rfl ?_ ?_ rfl) ?_
  · exact ⟨⟨rfl, rfl⟩, ⟨rfl, rfl⟩, ⟨rfl, rfl⟩, trivial⟩
  · exact ⟨⟨rfl, rfl, rfl⟩, trivial⟩
  refine z2 ?_
  refine p1 ?_
  refine ar_pur (c2) rfl rfl rfl rfl rfl rfl rfl ?_
  refine ar_pur (c3) rfl rfl rfl rfl rfl rfl rfl ?_
  iterate 3 refine p1 ?_
  refine ar_new tOk rfl rfl rfl ?_ ?_
  · simp
  refine ar_new tOk rfl rfl rfl ?_ ?_
  · simp
  refine ar_store (h' := ⟨3, [(1, some (.mixed ((txC (x.1)).map .r))), (2, some (.mixed [.r .nil, .r (.int .i64 0)])), (1, some (.mixed ((txC (tx0)).map .r))), (0, some (.mixed ((txC (d.1)).map .r)))], false⟩) (c := True) tOk (by kernel_rfl) rfl rfl trivial ?_
  refine ar_store tOk rfl rfl rfl trivial ?_
  refine ar_nil ?_
  refine ag_ent (ent_weak (g' := [(0, .r (.bs b)), (3, .ptr 0 0), (4, .r (.int .i64 d.2)), (5, .ptr 1 0), (6, .ptr 2 0)]) (h' := ⟨3, [(0, some (.mixed ((txC (d.1)).map .r))), (1, some (.mixed ((txC (x.1)).map .r))), (2, some (.mixed [.r (.bs x.2.1), .r (.int .i64 x.2.2)]))], false⟩) [0, 1, 2] rfl rfl rfl rfl ?_ ?_ rfl) ?_
  · exact ⟨⟨rfl, rfl⟩, ⟨rfl, rfl⟩, ⟨rfl, rfl⟩, ⟨rfl, rfl⟩, ⟨rfl, rfl⟩, trivial⟩
  · exact ⟨⟨rfl, rfl, rfl⟩, ⟨rfl, rfl, rfl⟩, ⟨rfl, rfl, rfl⟩, trivial⟩
  refine ag_seq ?_
  refine z2 ?_
  refine p1 ?_
  refine p2 ?_
  iterate 2 refine p1 ?_
  refine ar_nil ?_
  refine ag_if rfl ?_ ?_
  · intro h27
    obtain rfl := f1 (by omega)
    refine ag_reg ?_
    refine p2 ?_
    refine ar_pur (w_rSpoil x.2) rfl rfl rfl rfl rfl rfl rfl ?_
    refine ar_store tOk rfl rfl rfl trivial ?_
    refine z1 ?_
    refine z2 ?_
    refine p1 ?_
    refine p2 ?_
    refine p1 ?_
    refine ar_nil ?_
    refine ag_true rfl (decide_eq_true (spR_ne x.2)) ?_
    refine ag_ent (ent_weak (g' := [(0, .r (.bs b)), (3, .ptr 0 0), (4, .r (.int .i64 (spR x.2).2)), (5, .ptr 1 0), (6, .ptr 2 0)]) (h' := ⟨3, [(0, some (.mixed ((txC (tx0)).map .r))), (1, some (.mixed ((txC (x.1)).map .r))), (2, some (.mixed [.r (.bs (spR x.2).1), .r (.int .i64 (spR x.2).2)]))], false⟩) [0, 1, 2] rfl rfl rfl rfl ?_ ?_ rfl) ?_
    · exact ⟨⟨rfl, rfl⟩, ⟨rfl, rfl⟩, ⟨rfl, rfl⟩, ⟨rfl, rfl⟩, ⟨rfl, rfl⟩, trivial⟩
    · exact ⟨⟨rfl, rfl, rfl⟩, ⟨rfl, rfl, rfl⟩, ⟨rfl, rfl, rfl⟩, trivial⟩
    refine ag_reg ?_
    refine ar_pure tOk rfl rfl rfl ?_ ?_
    · simp
    refine ar_store (h' := ⟨3, [(1, some (.mixed ((txC (tx0)).map .r))), (0, some (.mixed ((txC (tx0)).map .r))), (1, some (.mixed ((txC (x.1)).map .r))), (2, some (.mixed [.r (.bs (spR x.2).1), .r (.int .i64 (spR x.2).2)]))], false⟩) (c := True) tOk (by kernel_rfl) rfl rfl trivial ?_
    refine z1 ?_
    refine ag_ent (ent_weak (g' := [(0, .r (.bs b)), (3, .ptr 0 0), (4, .r (.int .i64 (spR x.2).2)), (5, .ptr 1 0), (6, .ptr 2 0)]) (h' := ⟨3, [(0, some (.mixed ((txC (tx0)).map .r))), (1, some (.mixed ((txC (tx0)).map .r))), (2, some (.mixed [.r (.bs (spR x.2).1), .r (.int .i64 (spR x.2).2)]))], false⟩) [0, 1, 2] rfl rfl rfl rfl ?_ ?_ rfl) ?_
    · exact ⟨⟨rfl, rfl⟩, ⟨rfl, rfl⟩, ⟨rfl, rfl⟩, ⟨rfl, rfl⟩, ⟨rfl, rfl⟩, trivial⟩
    · exact ⟨⟨rfl, rfl, rfl⟩, ⟨rfl, rfl, rfl⟩, ⟨rfl, rfl, rfl⟩, trivial⟩
    refine ag_reg ?_
    refine p1 ?_
    refine ar_obj [] (c1) rfl rfl (handed_of rfl rfl (by decide) trivial) rfl rfl rfl rfl ?_
    rintro _ _ ⟨rfl, rfl⟩
    refine ⟨_, _, rfl, ?_⟩
    refine p1 ?_
    refine z3 ?_
    refine p1 ?_
    refine ar_obj [3] (c4) rfl rfl (handed_of rfl rfl (by decide) ⟨rfl, rfl, rfl, trivial⟩) rfl rfl rfl rfl ?_
    rintro _ _ ⟨rfl, rfl⟩
    refine ⟨_, _, rfl, ?_⟩
    refine ar_ent (ent_same (h' := ⟨4, [(0, some (.mixed ((txC (tx0)).map .r))), (1, some (.mixed ((txC (tx0)).map .r))), (2, some (.mixed [.r (.bs (spR x.2).1), .r (.int .i64 (spR x.2).2)])), (3, some (.mixed [.r (.bs x.2.1), .r (.int .i64 x.2.2), .r (.bool true)]))], false⟩) rfl rfl ⟨rfl, rfl, rfl, rfl, trivial⟩) ?_
    refine ar_new tOk rfl rfl rfl ?_ ?_
    · simp
    refine ar_store (h' := ⟨5, [(4, some (.mixed ((txC (x.1)).map .r))), (4, some (.mixed ((txC (tx0)).map .r))), (0, some (.mixed ((txC (tx0)).map .r))), (1, some (.mixed ((txC (tx0)).map .r))), (2, some (.mixed [.r (.bs (spR x.2).1), .r (.int .i64 (spR x.2).2)])), (3, some (.mixed [.r (.bs x.2.1), .r (.int .i64 x.2.2), .r (.bool true)]))], false⟩) (c := True) tOk (by kernel_rfl) rfl rfl trivial ?_
    refine ar_nil ?_
    refine ag_ent (ent_weak (g' := [(0, .r (.bs b)), (3, .ptr 0 0), (4, .r (.int .i64 (spR x.2).2)), (5, .ptr 1 0), (6, .ptr 2 0), (7, .ptr 3 0), (8, .ptr 4 0)]) (h' := ⟨5, [(0, some (.mixed ((txC (tx0)).map .r))), (1, some (.mixed ((txC (tx0)).map .r))), (2, some (.mixed [.r (.bs (spR x.2).1), .r (.int .i64 (spR x.2).2)])), (3, some (.mixed [.r (.bs x.2.1), .r (.int .i64 x.2.2), .r (.bool true)])), (4, some (.mixed ((txC (x.1)).map .r)))], false⟩) [0, 1, 2, 3, 4] rfl rfl rfl rfl ?_ ?_ rfl) ?_
    · exact ⟨⟨rfl, rfl⟩, ⟨rfl, rfl⟩, ⟨rfl, rfl⟩, ⟨rfl, rfl⟩, ⟨rfl, rfl⟩, ⟨rfl, rfl⟩, ⟨rfl, rfl⟩, trivial⟩
    · exact ⟨⟨rfl, rfl, rfl⟩, ⟨rfl, rfl, rfl⟩, ⟨rfl, rfl, rfl⟩, ⟨rfl, rfl, rfl⟩, ⟨rfl, rfl, rfl⟩, trivial⟩
    refine z2 ?_
    refine p1 ?_
    refine ar_pur (c2) rfl rfl rfl rfl rfl rfl rfl ?_
    refine ar_pur (c3) rfl rfl rfl rfl rfl rfl rfl ?_
    iterate 3 refine p1 ?_
    refine ar_new tOk rfl rfl rfl ?_ ?_
    · simp
    refine ar_new tOk rfl rfl rfl ?_ ?_
    · simp
    refine ar_store (h' := ⟨7, [(5, some (.mixed ((txC (x.1)).map .r))), (6, some (.mixed [.r .nil, .r (.int .i64 0)])), (5, some (.mixed ((txC (tx0)).map .r))), (0, some (.mixed ((txC (tx0)).map .r))), (1, some (.mixed ((txC (tx0)).map .r))), (2, some (.mixed [.r (.bs (spR x.2).1), .r (.int .i64 (spR x.2).2)])), (3, some (.mixed [.r (.bs x.2.1), .r (.int .i64 x.2.2), .r (.bool true)])), (4, some (.mixed ((txC (x.1)).map .r)))], false⟩) (c := True) tOk (by kernel_rfl) rfl rfl trivial ?_
    refine ar_store tOk rfl rfl rfl trivial ?_
    refine ar_nil ?_
    refine ag_ent (ent_weak (g' := [(3, .ptr 0 0), (4, .r (.int .i64 (spR x.2).2)), (5, .ptr 1 0), (6, .ptr 2 0), (7, .ptr 3 0), (8, .ptr 4 0), (9, .ptr 5 0), (10, .ptr 6 0)]) (h' := ⟨7, [(0, some (.mixed ((txC (tx0)).map .r))), (1, some (.mixed ((txC (tx0)).map .r))), (2, some (.mixed [.r (.bs (spR x.2).1), .r (.int .i64 (spR x.2).2)])), (3, some (.mixed [.r (.bs x.2.1), .r (.int .i64 x.2.2), .r (.bool true)])), (4, some (.mixed ((txC (x.1)).map .r))), (5, some (.mixed ((txC (x.1)).map .r))), (6, some (.mixed [.r (.bs x.2.1), .r (.int .i64 x.2.2)]))], false⟩) [0, 1, 2, 3, 4, 5, 6] rfl rfl rfl rfl ?_ ?_ rfl) ?_
    · exact ⟨⟨rfl, rfl⟩, ⟨rfl, rfl⟩, ⟨rfl, rfl⟩, ⟨rfl, rfl⟩, ⟨rfl, rfl⟩, ⟨rfl, rfl⟩, ⟨rfl, rfl⟩, ⟨rfl, rfl⟩, trivial⟩
    · exact ⟨⟨rfl, rfl, rfl⟩, ⟨rfl, rfl, rfl⟩, ⟨rfl, rfl, rfl⟩, ⟨rfl, rfl, rfl⟩, ⟨rfl, rfl, rfl⟩, ⟨rfl, rfl, rfl⟩, ⟨rfl, rfl, rfl⟩, trivial⟩
    refine ag_seq ?_
    refine ag_draw0 (by kernel_rfl) (by kernel_rfl) ?_
    iterate 2 refine aq_load0 tOk rfl (by kernel_rfl) rfl rfl trivial ?_
    iterate 2 refine aq_pure tOk rfl rfl rfl trivial ?_
    refine aq_pure tOk rfl rfl (by simp) trivial ?_
    refine aq_pur (w_num09 _) rfl rfl rfl rfl rfl rfl (by simp) ?_
    refine aq_pure tOk rfl rfl (by simp) trivial ?_
    refine aq_load0 tOk rfl (by kernel_rfl) rfl (by simp) trivial ?_
    refine aq_pure tOk rfl rfl (by simp) trivial ?_
    iterate 2 refine aq_pure tOk rfl rfl rfl trivial ?_
    iterate 2 refine aq_load0 tOk rfl (by kernel_rfl) rfl (by simp) trivial ?_
    refine aq_pure tOk rfl rfl (by simp) trivial ?_
    iterate 2 refine aq_pure tOk rfl rfl rfl trivial ?_
    refine aq_pure tOk rfl rfl (by simp) trivial ?_
    refine aq_qd0 (qop_objR [3] (w_Err x.2.1 x.2.2) (by rintro _ _ ⟨rfl, rfl⟩; exact ⟨rfl, rfl⟩) rfl rfl (handed_of rfl rfl (by decide) ⟨rfl, rfl, rfl, trivial⟩) rfl rfl) (by kernel_rfl) rfl (by simp) rfl rfl ?_
    refine aq_pur (w_num09 _) rfl rfl rfl rfl rfl rfl (by simp) ?_
    refine aq_pure tOk rfl rfl (by simp) trivial ?_
    refine aq_load0 tOk rfl (by kernel_rfl) rfl (by simp) trivial ?_
    refine aq_pure tOk rfl rfl (by simp) trivial ?_
    iterate 2 refine aq_pure tOk rfl rfl rfl trivial ?_
    refine aq_pure tOk rfl rfl (by simp) trivial ?_
    refine aq_qd0 (qop_objR [3] (w_Left x.2.1 x.2.2) (by rintro _ _ ⟨rfl, rfl⟩; exact ⟨rfl, rfl⟩) rfl rfl (handed_of rfl rfl (by decide) ⟨rfl, rfl, rfl, trivial⟩) rfl rfl) (by kernel_rfl) rfl (by simp) rfl rfl ?_
    refine aq_pure tOk rfl rfl (by simp) trivial ?_
    refine aq_load0 tOk rfl (by kernel_rfl) rfl (by simp) trivial ?_
    iterate 2 refine aq_pure tOk rfl rfl (by simp) trivial ?_
    iterate 2 refine aq_pure tOk rfl rfl rfl trivial ?_
    refine aq_nil rfl ?_
    refine ag_ret tOk Try.func9 rfl rfl (by simp) ?_
    exact eqB (by simp)
  · intro h27
    refine ag_skip ?_
    refine ag_seq ?_
    refine z2 ?_
    refine p1 ?_
    refine p2 ?_
    refine p1 ?_
    refine ar_nil ?_
    refine ag_if rfl ?_ ?_
    · intro h32
      obtain rfl := f2 (by omega) h32
      refine ag_ent (ent_weak (g' := [(0, .r (.bs b)), (3, .ptr 0 0), (4, .r (.int .i64 x.2.2)), (5, .ptr 1 0), (6, .ptr 2 0)]) (h' := ⟨3, [(0, some (.mixed ((txC (tx0)).map .r))), (1, some (.mixed ((txC (x.1)).map .r))), (2, some (.mixed [.r (.bs x.2.1), .r (.int .i64 x.2.2)]))], false⟩) [0, 1, 2] rfl rfl rfl rfl ?_ ?_ rfl) ?_
      · exact ⟨⟨rfl, rfl⟩, ⟨rfl, rfl⟩, ⟨rfl, rfl⟩, ⟨rfl, rfl⟩, ⟨rfl, rfl⟩, trivial⟩
      · exact ⟨⟨rfl, rfl, rfl⟩, ⟨rfl, rfl, rfl⟩, ⟨rfl, rfl, rfl⟩, trivial⟩
      refine ag_reg ?_
      refine ar_pure tOk rfl rfl rfl ?_ ?_
      · simp
      refine ar_store (h' := ⟨3, [(1, some (.mixed ((txC (tx0)).map .r))), (0, some (.mixed ((txC (tx0)).map .r))), (1, some (.mixed ((txC (x.1)).map .r))), (2, some (.mixed [.r (.bs x.2.1), .r (.int .i64 x.2.2)]))], false⟩) (c := True) tOk (by kernel_rfl) rfl rfl trivial ?_
      refine z1 ?_
      refine ag_ent (ent_weak (g' := [(0, .r (.bs b)), (3, .ptr 0 0), (4, .r (.int .i64 x.2.2)), (5, .ptr 1 0), (6, .ptr 2 0)]) (h' := ⟨3, [(0, some (.mixed ((txC (tx0)).map .r))), (1, some (.mixed ((txC (tx0)).map .r))), (2, some (.mixed [.r (.bs x.2.1), .r (.int .i64 x.2.2)]))], false⟩) [0, 1, 2] rfl rfl rfl rfl ?_ ?_ rfl) ?_
      · exact ⟨⟨rfl, rfl⟩, ⟨rfl, rfl⟩, ⟨rfl, rfl⟩, ⟨rfl, rfl⟩, ⟨rfl, rfl⟩, trivial⟩
      · exact ⟨⟨rfl, rfl, rfl⟩, ⟨rfl, rfl, rfl⟩, ⟨rfl, rfl, rfl⟩, trivial⟩
      refine ag_reg ?_
      refine p1 ?_
      refine ar_obj [] (c1) rfl rfl (handed_of rfl rfl (by decide) trivial) rfl rfl rfl rfl ?_
      rintro _ _ ⟨rfl, rfl⟩
      refine ⟨_, _, rfl, ?_⟩
      refine p1 ?_
      refine z3 ?_
      refine p1 ?_
      refine ar_obj [3] (c4) rfl rfl (handed_of rfl rfl (by decide) ⟨rfl, rfl, rfl, trivial⟩) rfl rfl rfl rfl ?_
      rintro _ _ ⟨rfl, rfl⟩
      refine ⟨_, _, rfl, ?_⟩
      refine ar_ent (ent_same (h' := ⟨4, [(0, some (.mixed ((txC (tx0)).map .r))), (1, some (.mixed ((txC (tx0)).map .r))), (2, some (.mixed [.r (.bs x.2.1), .r (.int .i64 x.2.2)])), (3, some (.mixed [.r (.bs x.2.1), .r (.int .i64 x.2.2), .r (.bool true)]))], false⟩) rfl rfl ⟨rfl, rfl, rfl, rfl, trivial⟩) ?_
      refine ar_new tOk rfl rfl rfl ?_ ?_
      · simp
      refine ar_store (h' := ⟨5, [(4, some (.mixed ((txC (x.1)).map .r))), (4, some (.mixed ((txC (tx0)).map .r))), (0, some (.mixed ((txC (tx0)).map .r))), (1, some (.mixed ((txC (tx0)).map .r))), (2, some (.mixed [.r (.bs x.2.1), .r (.int .i64 x.2.2)])), (3, some (.mixed [.r (.bs x.2.1), .r (.int .i64 x.2.2), .r (.bool true)]))], false⟩) (c := True) tOk (by kernel_rfl) rfl rfl trivial ?_
      refine ar_nil ?_
      refine ag_ent (ent_weak (g' := [(0, .r (.bs b)), (3, .ptr 0 0), (4, .r (.int .i64 x.2.2)), (5, .ptr 1 0), (6, .ptr 2 0), (7, .ptr 3 0), (8, .ptr 4 0)]) (h' := ⟨5, [(0, some (.mixed ((txC (tx0)).map .r))), (1, some (.mixed ((txC (tx0)).map .r))), (2, some (.mixed [.r (.bs x.2.1), .r (.int .i64 x.2.2)])), (3, some (.mixed [.r (.bs x.2.1), .r (.int .i64 x.2.2), .r (.bool true)])), (4, some (.mixed ((txC (x.1)).map .r)))], false⟩) [0, 1, 2, 3, 4] rfl rfl rfl rfl ?_ ?_ rfl) ?_
      · exact ⟨⟨rfl, rfl⟩, ⟨rfl, rfl⟩, ⟨rfl, rfl⟩, ⟨rfl, rfl⟩, ⟨rfl, rfl⟩, ⟨rfl, rfl⟩, ⟨rfl, rfl⟩, trivial⟩
      · exact ⟨⟨rfl, rfl, rfl⟩, ⟨rfl, rfl, rfl⟩, ⟨rfl, rfl, rfl⟩, ⟨rfl, rfl, rfl⟩, ⟨rfl, rfl, rfl⟩, trivial⟩
      refine z2 ?_
      refine p1 ?_
      refine ar_pur (c2) rfl rfl rfl rfl rfl rfl rfl ?_
      refine ar_pur (c3) rfl rfl rfl rfl rfl rfl rfl ?_
      iterate 3 refine p1 ?_
      refine ar_new tOk rfl rfl rfl ?_ ?_
      · simp
      refine ar_new tOk rfl rfl rfl ?_ ?_
      · simp
      refine ar_store (h' := ⟨7, [(5, some (.mixed ((txC (x.1)).map .r))), (6, some (.mixed [.r .nil, .r (.int .i64 0)])), (5, some (.mixed ((txC (tx0)).map .r))), (0, some (.mixed ((txC (tx0)).map .r))), (1, some (.mixed ((txC (tx0)).map .r))), (2, some (.mixed [.r (.bs x.2.1), .r (.int .i64 x.2.2)])), (3, some (.mixed [.r (.bs x.2.1), .r (.int .i64 x.2.2), .r (.bool true)])), (4, some (.mixed ((txC (x.1)).map .r)))], false⟩) (c := True) tOk (by kernel_rfl) rfl rfl trivial ?_
      refine ar_store tOk rfl rfl rfl trivial ?_
      refine ar_nil ?_
      refine ag_ent (ent_weak (g' := [(3, .ptr 0 0), (4, .r (.int .i64 x.2.2)), (5, .ptr 1 0), (6, .ptr 2 0), (7, .ptr 3 0), (8, .ptr 4 0), (9, .ptr 5 0), (10, .ptr 6 0)]) (h' := ⟨7, [(0, some (.mixed ((txC (tx0)).map .r))), (1, some (.mixed ((txC (tx0)).map .r))), (2, some (.mixed [.r (.bs x.2.1), .r (.int .i64 x.2.2)])), (3, some (.mixed [.r (.bs x.2.1), .r (.int .i64 x.2.2), .r (.bool true)])), (4, some (.mixed ((txC (x.1)).map .r))), (5, some (.mixed ((txC (x.1)).map .r))), (6, some (.mixed [.r (.bs x.2.1), .r (.int .i64 x.2.2)]))], false⟩) [0, 1, 2, 3, 4, 5, 6] rfl rfl rfl rfl ?_ ?_ rfl) ?_
      · exact ⟨⟨rfl, rfl⟩, ⟨rfl, rfl⟩, ⟨rfl, rfl⟩, ⟨rfl, rfl⟩, ⟨rfl, rfl⟩, ⟨rfl, rfl⟩, ⟨rfl, rfl⟩, ⟨rfl, rfl⟩, trivial⟩
      · exact ⟨⟨rfl, rfl, rfl⟩, ⟨rfl, rfl, rfl⟩, ⟨rfl, rfl, rfl⟩, ⟨rfl, rfl, rfl⟩, ⟨rfl, rfl, rfl⟩, ⟨rfl, rfl, rfl⟩, ⟨rfl, rfl, rfl⟩, trivial⟩
      refine ag_seq ?_
      refine ag_draw0 (by kernel_rfl) (by kernel_rfl) ?_
      iterate 2 refine aq_load0 tOk rfl (by kernel_rfl) rfl rfl trivial ?_
      iterate 2 refine aq_pure tOk rfl rfl rfl trivial ?_
      refine aq_pure tOk rfl rfl (by simp) trivial ?_
      refine aq_pur (w_num09 _) rfl rfl rfl rfl rfl rfl (by simp) ?_
      refine aq_pure tOk rfl rfl (by simp) trivial ?_
      refine aq_load0 tOk rfl (by kernel_rfl) rfl (by simp) trivial ?_
      refine aq_pure tOk rfl rfl (by simp) trivial ?_
      iterate 2 refine aq_pure tOk rfl rfl rfl trivial ?_
      iterate 2 refine aq_load0 tOk rfl (by kernel_rfl) rfl (by simp) trivial ?_
      refine aq_pure tOk rfl rfl (by simp) trivial ?_
      iterate 2 refine aq_pure tOk rfl rfl rfl trivial ?_
      refine aq_pure tOk rfl rfl (by simp) trivial ?_
      refine aq_qd0 (qop_objR [3] (w_Err x.2.1 x.2.2) (by rintro _ _ ⟨rfl, rfl⟩; exact ⟨rfl, rfl⟩) rfl rfl (handed_of rfl rfl (by decide) ⟨rfl, rfl, rfl, trivial⟩) rfl rfl) (by kernel_rfl) rfl (by simp) rfl rfl ?_
      refine aq_pur (w_num09 _) rfl rfl rfl rfl rfl rfl (by simp) ?_
      refine aq_pure tOk rfl rfl (by simp) trivial ?_
      refine aq_load0 tOk rfl (by kernel_rfl) rfl (by simp) trivial ?_
      refine aq_pure tOk rfl rfl (by simp) trivial ?_
      iterate 2 refine aq_pure tOk rfl rfl rfl trivial ?_
      refine aq_pure tOk rfl rfl (by simp) trivial ?_
      refine aq_qd0 (qop_objR [3] (w_Left x.2.1 x.2.2) (by rintro _ _ ⟨rfl, rfl⟩; exact ⟨rfl, rfl⟩) rfl rfl (handed_of rfl rfl (by decide) ⟨rfl, rfl, rfl, trivial⟩) rfl rfl) (by kernel_rfl) rfl (by simp) rfl rfl ?_
      refine aq_pure tOk rfl rfl (by simp) trivial ?_
      refine aq_load0 tOk rfl (by kernel_rfl) rfl (by simp) trivial ?_
      iterate 2 refine aq_pure tOk rfl rfl (by simp) trivial ?_
      iterate 2 refine aq_pure tOk rfl rfl rfl trivial ?_
      refine aq_nil rfl ?_
      refine ag_ret tOk Try.func9 rfl rfl (by simp) ?_
      exact eqB (by simp)
    · intro h32
      obtain rfl := f3 (by omega) h32
      refine ag_skip ?_
      refine ag_seq ?_
      refine ag_ent (ent_weak (g' := [(0, .r (.bs b)), (3, .ptr 0 0), (4, .r (.int .i64 x.2.2)), (5, .ptr 1 0), (6, .ptr 2 0)]) (h' := ⟨3, [(0, some (.mixed ((txC (x.1)).map .r))), (1, some (.mixed ((txC (x.1)).map .r))), (2, some (.mixed [.r (.bs x.2.1), .r (.int .i64 x.2.2)]))], false⟩) [0, 1, 2] rfl rfl rfl rfl ?_ ?_ rfl) ?_
      · exact ⟨⟨rfl, rfl⟩, ⟨rfl, rfl⟩, ⟨rfl, rfl⟩, ⟨rfl, rfl⟩, ⟨rfl, rfl⟩, trivial⟩
      · exact ⟨⟨rfl, rfl, rfl⟩, ⟨rfl, rfl, rfl⟩, ⟨rfl, rfl, rfl⟩, trivial⟩
      refine ag_reg ?_
      refine p1 ?_
      refine ar_obj [] (c1) rfl rfl (handed_of rfl rfl (by decide) trivial) rfl rfl rfl rfl ?_
      rintro _ _ ⟨rfl, rfl⟩
      refine ⟨_, _, rfl, ?_⟩
      refine p1 ?_
      refine z3 ?_
      refine p1 ?_
      refine ar_obj [3] (c4) rfl rfl (handed_of rfl rfl (by decide) ⟨rfl, rfl, rfl, trivial⟩) rfl rfl rfl rfl ?_
      rintro _ _ ⟨rfl, rfl⟩
      refine ⟨_, _, rfl, ?_⟩
      refine ar_ent (ent_same (h' := ⟨4, [(0, some (.mixed ((txC (x.1)).map .r))), (1, some (.mixed ((txC (x.1)).map .r))), (2, some (.mixed [.r (.bs x.2.1), .r (.int .i64 x.2.2)])), (3, some (.mixed [.r (.bs x.2.1), .r (.int .i64 x.2.2), .r (.bool true)]))], false⟩) rfl rfl ⟨rfl, rfl, rfl, rfl, trivial⟩) ?_
      refine ar_new tOk rfl rfl rfl ?_ ?_
      · simp
      refine ar_store (h' := ⟨5, [(4, some (.mixed ((txC (x.1)).map .r))), (4, some (.mixed ((txC (tx0)).map .r))), (0, some (.mixed ((txC (x.1)).map .r))), (1, some (.mixed ((txC (x.1)).map .r))), (2, some (.mixed [.r (.bs x.2.1), .r (.int .i64 x.2.2)])), (3, some (.mixed [.r (.bs x.2.1), .r (.int .i64 x.2.2), .r (.bool true)]))], false⟩) (c := True) tOk (by kernel_rfl) rfl rfl trivial ?_
      refine ar_nil ?_
      refine ag_ent (ent_weak (g' := [(0, .r (.bs b)), (3, .ptr 0 0), (4, .r (.int .i64 x.2.2)), (5, .ptr 1 0), (6, .ptr 2 0), (7, .ptr 3 0), (8, .ptr 4 0)]) (h' := ⟨5, [(0, some (.mixed ((txC (x.1)).map .r))), (1, some (.mixed ((txC (x.1)).map .r))), (2, some (.mixed [.r (.bs x.2.1), .r (.int .i64 x.2.2)])), (3, some (.mixed [.r (.bs x.2.1), .r (.int .i64 x.2.2), .r (.bool true)])), (4, some (.mixed ((txC (x.1)).map .r)))], false⟩) [0, 1, 2, 3, 4] rfl rfl rfl rfl ?_ ?_ rfl) ?_
      · exact ⟨⟨rfl, rfl⟩, ⟨rfl, rfl⟩, ⟨rfl, rfl⟩, ⟨rfl, rfl⟩, ⟨rfl, rfl⟩, ⟨rfl, rfl⟩, ⟨rfl, rfl⟩, trivial⟩
      · exact ⟨⟨rfl, rfl, rfl⟩, ⟨rfl, rfl, rfl⟩, ⟨rfl, rfl, rfl⟩, ⟨rfl, rfl, rfl⟩, ⟨rfl, rfl, rfl⟩, trivial⟩
      refine z2 ?_
      refine p1 ?_
      refine ar_pur (c2) rfl rfl rfl rfl rfl rfl rfl ?_
      refine ar_pur (c3) rfl rfl rfl rfl rfl rfl rfl ?_
      iterate 3 refine p1 ?_
      refine ar_new tOk rfl rfl rfl ?_ ?_
      · simp
      refine ar_new tOk rfl rfl rfl ?_ ?_
      · simp
      refine ar_store (h' := ⟨7, [(5, some (.mixed ((txC (x.1)).map .r))), (6, some (.mixed [.r .nil, .r (.int .i64 0)])), (5, some (.mixed ((txC (tx0)).map .r))), (0, some (.mixed ((txC (x.1)).map .r))), (1, some (.mixed ((txC (x.1)).map .r))), (2, some (.mixed [.r (.bs x.2.1), .r (.int .i64 x.2.2)])), (3, some (.mixed [.r (.bs x.2.1), .r (.int .i64 x.2.2), .r (.bool true)])), (4, some (.mixed ((txC (x.1)).map .r)))], false⟩) (c := True) tOk (by kernel_rfl) rfl rfl trivial ?_
      refine ar_store tOk rfl rfl rfl trivial ?_
      refine ar_nil ?_
      refine ag_ent (ent_weak (g' := [(3, .ptr 0 0), (4, .r (.int .i64 x.2.2)), (5, .ptr 1 0), (6, .ptr 2 0), (7, .ptr 3 0), (8, .ptr 4 0), (9, .ptr 5 0), (10, .ptr 6 0)]) (h' := ⟨7, [(0, some (.mixed ((txC (x.1)).map .r))), (1, some (.mixed ((txC (x.1)).map .r))), (2, some (.mixed [.r (.bs x.2.1), .r (.int .i64 x.2.2)])), (3, some (.mixed [.r (.bs x.2.1), .r (.int .i64 x.2.2), .r (.bool true)])), (4, some (.mixed ((txC (x.1)).map .r))), (5, some (.mixed ((txC (x.1)).map .r))), (6, some (.mixed [.r (.bs x.2.1), .r (.int .i64 x.2.2)]))], false⟩) [0, 1, 2, 3, 4, 5, 6] rfl rfl rfl rfl ?_ ?_ rfl) ?_
      · exact ⟨⟨rfl, rfl⟩, ⟨rfl, rfl⟩, ⟨rfl, rfl⟩, ⟨rfl, rfl⟩, ⟨rfl, rfl⟩, ⟨rfl, rfl⟩, ⟨rfl, rfl⟩, ⟨rfl, rfl⟩, trivial⟩
      · exact ⟨⟨rfl, rfl, rfl⟩, ⟨rfl, rfl, rfl⟩, ⟨rfl, rfl, rfl⟩, ⟨rfl, rfl, rfl⟩, ⟨rfl, rfl, rfl⟩, ⟨rfl, rfl, rfl⟩, ⟨rfl, rfl, rfl⟩, trivial⟩
      refine ag_seq ?_
      refine ag_draw0 (by kernel_rfl) (by kernel_rfl) ?_
      iterate 2 refine aq_load0 tOk rfl (by kernel_rfl) rfl rfl trivial ?_
      iterate 2 refine aq_pure tOk rfl rfl rfl trivial ?_
      refine aq_pure tOk rfl rfl (by simp) trivial ?_
      refine aq_pur (w_num09 _) rfl rfl rfl rfl rfl rfl (by simp) ?_
      refine aq_pure tOk rfl rfl (by simp) trivial ?_
      refine aq_load0 tOk rfl (by kernel_rfl) rfl (by simp) trivial ?_
      refine aq_pure tOk rfl rfl (by simp) trivial ?_
      iterate 2 refine aq_pure tOk rfl rfl rfl trivial ?_
      iterate 2 refine aq_load0 tOk rfl (by kernel_rfl) rfl (by simp) trivial ?_
      refine aq_pure tOk rfl rfl (by simp) trivial ?_
      iterate 2 refine aq_pure tOk rfl rfl rfl trivial ?_
      refine aq_pure tOk rfl rfl (by simp) trivial ?_
      refine aq_qd0 (qop_objR [3] (w_Err x.2.1 x.2.2) (by rintro _ _ ⟨rfl, rfl⟩; exact ⟨rfl, rfl⟩) rfl rfl (handed_of rfl rfl (by decide) ⟨rfl, rfl, rfl, trivial⟩) rfl rfl) (by kernel_rfl) rfl (by simp) rfl rfl ?_
      refine aq_pur (w_num09 _) rfl rfl rfl rfl rfl rfl (by simp) ?_
      refine aq_pure tOk rfl rfl (by simp) trivial ?_
      refine aq_load0 tOk rfl (by kernel_rfl) rfl (by simp) trivial ?_
      refine aq_pure tOk rfl rfl (by simp) trivial ?_
      iterate 2 refine aq_pure tOk rfl rfl rfl trivial ?_
      refine aq_pure tOk rfl rfl (by simp) trivial ?_
      refine aq_qd0 (qop_objR [3] (w_Left x.2.1 x.2.2) (by rintro _ _ ⟨rfl, rfl⟩; exact ⟨rfl, rfl⟩) rfl rfl (handed_of rfl rfl (by decide) ⟨rfl, rfl, rfl, trivial⟩) rfl rfl) (by kernel_rfl) rfl (by simp) rfl rfl ?_
      refine aq_pure tOk rfl rfl (by simp) trivial ?_
      refine aq_load0 tOk rfl (by kernel_rfl) rfl (by simp) trivial ?_
      iterate 2 refine aq_pure tOk rfl rfl (by simp) trivial ?_
      iterate 2 refine aq_pure tOk rfl rfl rfl trivial ?_
      refine aq_nil rfl ?_
      refine ag_ret tOk Try.func9 rfl rfl (by simp) ?_
      exact eqB (by simp)

theorem w_TxsBack (t : TxV) (ht : t.ok) (b : List UInt8) : Pur Try.prog 10 [txA t, .r (.bs b)] (.r (.bool true)) := by
  have c1 := w_xOctets t ht
  have c2 := w_xRead (octL t).1
  have f1 : (octL t).2 = 0 → rdL (octL t).1 = (plT t, 0) := fun h => rd_fwd ht h
  have c3 := w_rPlain t
  have c4 := w_xRead b
  have f2 : (rdL b).2 ≠ 0 → (rdL b).1 = tx0 := fun h => rd_err h
  have f3 : (rdL b).2 = 0 → (rdL b).1.ok ∧ octL (rdL b).1 = (b, 0) := fun h => rd_bwd h
  have c5 : (rdL b).1.ok → _ := fun h => w_xOctets (rdL b).1 h
  generalize rdL (octL t).1 = r at c2 f1
  generalize octL t = o at c1 c2 f1
  generalize plT t = p at c3 f1
  generalize octL (rdL b).1 = y at f3 c5
  generalize rdL b = z at c4 f2 f3 c5
  refine spec_of_go (N := 59) Try.func10 rfl (by decide) rfl rfl ?_
  refine z2 ?_
  refine ar_new tOk rfl rfl rfl trivial ?_
  refine p1 ?_
  refine z1 ?_
  refine z2 ?_
  refine ar_pur (w_alive09) rfl rfl rfl rfl rfl rfl rfl ?_
  refine p1 ?_
  refine ar_nil ?_
  refine ag_false rfl (rfl) ?_
  refine ag_skip ?_
  refine z2 ?_
  refine p2 ?_
  refine ar_pur (c1) rfl rfl rfl rfl rfl rfl rfl ?_
  iterate 5 refine p1 ?_
  refine ar_nil ?_
  refine ag_ent (ent_weak (g' := [(1, .r (.bs b)), (2, .ptr 0 0), (5, .r (.bs o.1)), (6, .r (.int .i64 o.2))]) (h' := ⟨1, [(0, some (.mixed ((txC (t)).map .r)))], false⟩) [0] rfl rfl rfl rfl ?_ ?_ rfl) ?_
  · exact ⟨⟨rfl, rfl⟩, ⟨rfl, rfl⟩, ⟨rfl, rfl⟩, ⟨rfl, rfl⟩, trivial⟩
  · exact ⟨⟨rfl, rfl, rfl⟩, trivial⟩
  refine ag_seq ?_
  refine z2 ?_
  iterate 2 refine p1 ?_
  refine ar_nil ?_
  refine ag_if rfl ?_ ?_
  · intro h21
    obtain rfl := f1 h21
    refine z2 ?_
    refine p1 ?_
    refine ar_pur (c2) rfl rfl rfl rfl rfl rfl rfl ?_
    iterate 3 refine p1 ?_
    refine ar_new tOk rfl rfl rfl ?_ ?_
    · simp
    refine ar_store (h' := ⟨2, [(1, some (.mixed ((txC (p)).map .r))), (1, some (.mixed ((txC (tx0)).map .r))), (0, some (.mixed ((txC (t)).map .r)))], false⟩) (c := True) tOk (by kernel_rfl) rfl rfl trivial ?_
    refine p1 ?_
    refine ar_nil ?_
    refine ag_ent (ent_weak (g' := [(1, .r (.bs b)), (2, .ptr 0 0), (7, .ptr 1 0), (8, .r (.int .i64 0))]) (h' := ⟨2, [(0, some (.mixed ((txC (t)).map .r))), (1, some (.mixed ((txC (p)).map .r)))], false⟩) [0, 1] rfl rfl rfl rfl ?_ ?_ rfl) ?_
    · exact ⟨⟨rfl, rfl⟩, ⟨rfl, rfl⟩, ⟨rfl, rfl⟩, ⟨rfl, rfl⟩, trivial⟩
    · exact ⟨⟨rfl, rfl, rfl⟩, ⟨rfl, rfl, rfl⟩, trivial⟩
    refine ag_seq ?_
    refine ag_draw0 (by kernel_rfl) (by kernel_rfl) ?_
    iterate 3 refine aq_pure tOk rfl rfl rfl trivial ?_
    iterate 2 refine aq_load0 tOk rfl (by kernel_rfl) rfl (by simp) trivial ?_
    refine aq_pur (c3) rfl rfl rfl rfl rfl rfl (by simp) ?_
    refine aq_pure tOk rfl rfl (by simp) trivial ?_
    refine aq_pure tOk rfl rfl rfl trivial ?_
    refine aq_nil rfl ?_
    refine ag_false rfl (by simp) ?_
    refine ag_skip ?_
    refine ag_seq ?_
    refine ag_ent (ent_weak (g' := [(1, .r (.bs b)), (2, .ptr 0 0)]) (h' := ⟨1, [(0, some (.mixed ((txC (t)).map .r)))], false⟩) [0] rfl rfl rfl rfl ?_ ?_ rfl) ?_
    · exact ⟨⟨rfl, rfl⟩, ⟨rfl, rfl⟩, trivial⟩
    · exact ⟨⟨rfl, rfl, rfl⟩, trivial⟩
    refine ag_reg ?_
    refine p1 ?_
    refine ar_pur (c4) rfl rfl rfl rfl rfl rfl rfl ?_
    iterate 3 refine p1 ?_
    refine ar_new tOk rfl rfl rfl ?_ ?_
    · simp
    refine ar_store (h' := ⟨2, [(1, some (.mixed ((txC (z.1)).map .r))), (1, some (.mixed ((txC (tx0)).map .r))), (0, some (.mixed ((txC (t)).map .r)))], false⟩) (c := True) tOk (by kernel_rfl) rfl rfl trivial ?_
    refine p1 ?_
    refine ar_nil ?_
    refine ag_ent (ent_weak (g' := [(1, .r (.bs b)), (2, .ptr 0 0), (9, .ptr 1 0), (10, .r (.int .i64 z.2))]) (h' := ⟨2, [(0, some (.mixed ((txC (t)).map .r))), (1, some (.mixed ((txC (z.1)).map .r)))], false⟩) [0, 1] rfl rfl rfl rfl ?_ ?_ rfl) ?_
    · exact ⟨⟨rfl, rfl⟩, ⟨rfl, rfl⟩, ⟨rfl, rfl⟩, ⟨rfl, rfl⟩, trivial⟩
    · exact ⟨⟨rfl, rfl, rfl⟩, ⟨rfl, rfl, rfl⟩, trivial⟩
    refine ag_seq ?_
    refine z2 ?_
    iterate 2 refine p1 ?_
    refine ar_nil ?_
    refine ag_if rfl ?_ ?_
    · intro h41
      have e1 := f2 h41
      obtain ⟨za, zb⟩ := z
      simp only at e1
      subst e1
      refine z2 ?_
      refine p2 ?_
      refine ar_pure tOk rfl rfl rfl ?_ ?_
      · simp
      iterate 2 refine p1 ?_
      refine ar_nil ?_
      refine ag_ret tOk Try.func10 rfl rfl (by simp) ?_
      exact eqB (by simp [tx0, inv0, var0])
    · intro h41
      obtain ⟨za, zb⟩ := f3 (by omega)
      obtain rfl := zb
      refine ag_skip ?_
      refine z2 ?_
      refine p2 ?_
      refine ar_pur (c5 za) rfl rfl rfl rfl rfl rfl rfl ?_
      iterate 5 refine p1 ?_
      refine z3 ?_
      iterate 3 refine p1 ?_
      iterate 5 refine ar_pure tOk rfl rfl (by simp) trivial ?_
      iterate 2 refine p1 ?_
      refine ar_nil ?_
      refine ag_ret tOk Try.func10 rfl rfl (by simp) ?_
      exact eqB (by simp [tx0, inv0, var0])
  · intro h21
    refine ag_skip ?_
    refine ag_seq ?_
    refine ag_ent (ent_weak (g' := [(1, .r (.bs b)), (2, .ptr 0 0)]) (h' := ⟨1, [(0, some (.mixed ((txC (t)).map .r)))], false⟩) [0] rfl rfl rfl rfl ?_ ?_ rfl) ?_
    · exact ⟨⟨rfl, rfl⟩, ⟨rfl, rfl⟩, trivial⟩
    · exact ⟨⟨rfl, rfl, rfl⟩, trivial⟩
    refine ag_reg ?_
    refine p1 ?_
    refine ar_pur (c4) rfl rfl rfl rfl rfl rfl rfl ?_
    iterate 3 refine p1 ?_
    refine ar_new tOk rfl rfl rfl ?_ ?_
    · simp
    refine ar_store (h' := ⟨2, [(1, some (.mixed ((txC (z.1)).map .r))), (1, some (.mixed ((txC (tx0)).map .r))), (0, some (.mixed ((txC (t)).map .r)))], false⟩) (c := True) tOk (by kernel_rfl) rfl rfl trivial ?_
    refine p1 ?_
    refine ar_nil ?_
    refine ag_ent (ent_weak (g' := [(1, .r (.bs b)), (2, .ptr 0 0), (9, .ptr 1 0), (10, .r (.int .i64 z.2))]) (h' := ⟨2, [(0, some (.mixed ((txC (t)).map .r))), (1, some (.mixed ((txC (z.1)).map .r)))], false⟩) [0, 1] rfl rfl rfl rfl ?_ ?_ rfl) ?_
    · exact ⟨⟨rfl, rfl⟩, ⟨rfl, rfl⟩, ⟨rfl, rfl⟩, ⟨rfl, rfl⟩, trivial⟩
    · exact ⟨⟨rfl, rfl, rfl⟩, ⟨rfl, rfl, rfl⟩, trivial⟩
    refine ag_seq ?_
    refine z2 ?_
    iterate 2 refine p1 ?_
    refine ar_nil ?_
    refine ag_if rfl ?_ ?_
    · intro h41
      have e1 := f2 h41
      obtain ⟨za, zb⟩ := z
      simp only at e1
      subst e1
      refine z2 ?_
      refine p2 ?_
      refine ar_pure tOk rfl rfl rfl ?_ ?_
      · simp
      iterate 2 refine p1 ?_
      refine ar_nil ?_
      refine ag_ret tOk Try.func10 rfl rfl (by simp) ?_
      exact eqB (by simp [tx0, inv0, var0])
    · intro h41
      obtain ⟨za, zb⟩ := f3 (by omega)
      obtain rfl := zb
      refine ag_skip ?_
      refine z2 ?_
      refine p2 ?_
      refine ar_pur (c5 za) rfl rfl rfl rfl rfl rfl rfl ?_
      iterate 5 refine p1 ?_
      refine z3 ?_
      iterate 3 refine p1 ?_
      iterate 5 refine ar_pure tOk rfl rfl (by simp) trivial ?_
      iterate 2 refine p1 ?_
      refine ar_nil ?_
      refine ag_ret tOk Try.func10 rfl rfl (by simp) ?_
      exact eqB (by simp [tx0, inv0, var0])

end Go.Proofs.Ytbofioheoohlgaa

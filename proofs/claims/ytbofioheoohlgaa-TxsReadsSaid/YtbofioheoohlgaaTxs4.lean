/-
  WALKS: octets of transactions, and transactions of octets. (Printed by gen.py out of w_txs4.py.)
-/
import Derived.Test.YtbofioheoohlgaaTxs3
import Derived.Test.YtbofioheoohlgaaDealB
namespace Go.Proofs.Ytbofioheoohlgaa
open Go
set_option maxRecDepth 20000
set_option linter.unusedVariables false
set_option linter.unusedSimpArgs false

def octL (t : TxV) : W := if txE t ≠ 0 then ([], txE t) else pTx ([], 0) t
def rdV (x : TxV × W) : TxV × Int := if 0 < x.2.1.length then (tx0, (spR x.2).2) else if x.2.2 ≠ 0 then (tx0, x.2.2) else (x.1, 0)
def rdL (b : List UInt8) : TxV × Int := rdV (gTxs (opR b))
theorem spR_ne (w : W) : (spR w).2 ≠ 0 := by
  unfold spR; split
  · decide
  · assumption
def eqTx (t u : TxV) : Bool := decide (t.f = u.f) && (decide (t.n = u.n) && (decide (t.k = u.k) && (decide (t.a = u.a) && ((decide (t.m0 = u.m0) && (decide (t.m1 = u.m1) && (decide (t.m2 = u.m2) && (decide (t.m3 = u.m3))))) && ((decide (t.inv.u = u.inv.u) && (decide (t.inv.root = u.inv.root) && (decide (t.inv.r = u.inv.r) && (decide (t.inv.s = u.inv.s) && (decide (t.inv.c = u.inv.c) && (decide (t.inv.t = u.inv.t) && (decide (t.inv.id = u.inv.id)))))))) && (((decide (t.var.x0 = u.var.x0) && (decide (t.var.x1 = u.var.x1) && (decide (t.var.x2 = u.var.x2) && (decide (t.var.x3 = u.var.x3))))) && (decide (t.var.e = u.var.e))) && ((decide (t.g0 = u.g0) && (decide (t.g1 = u.g1) && (decide (t.g2 = u.g2) && (decide (t.g3 = u.g3))))) && (decide (t.sig = u.sig)))))))))
theorem eqTx_self (t : TxV) : eqTx t t = true := by simp [eqTx]

theorem w_xSame (t u : TxV) : Pur Try.prog 44 [txA t, txA u] (.r (.bool (eqTx t u))) := by
  refine spec_of_go (N := 8) Try.func44 rfl (by decide) rfl rfl ?_
  refine z2 ?_
  iterate 2 refine ar_new tOk rfl rfl rfl trivial ?_
  refine p1 ?_
  refine z3 ?_
  iterate 2 refine p2 ?_
  iterate 2 refine p1 ?_
  refine ar_nil ?_
  refine ag_ret tOk Try.func44 rfl rfl (by simp) ?_
  rfl

theorem w_num09 (e : Int) : Pur Try.prog 39 [.r (.int .i64 e)] (.r (.int .i64 e)) := by
  refine spec_of_go (N := 4) Try.func39 rfl (by decide) rfl rfl ?_
  refine z2 ?_
  refine p1 ?_
  refine z3 ?_
  iterate 2 refine p1 ?_
  refine ar_nil ?_
  refine ag_ret tOk Try.func39 rfl rfl (by simp) ?_
  rfl

theorem w_alive09  : Pur Try.prog 40 [] (.r (.bool true)) := by
  have hA : Pur Try.prog 43 [txA ⟨0, 0, 9, 0, 0, 0, 0, 0, inv0, var0, 0, 0, 0, 0, []⟩] (.r (.int .i64 12)) := (w_xCheck _).mono_r (by rw [txE, if_pos (by decide)])
  have hB : Pur Try.prog 43 [txA ⟨0, 0, 1, 0, 1, 0, 0, 0, inv0, var0, 0, 0, 0, 0, []⟩] (.r (.int .i64 0)) := (w_xCheck _).mono_r (by rw [txE, if_neg (by decide), if_neg (by decide), if_pos (by decide), txR, if_neg (by decide), if_neg (by decide)])
  refine spec_of_go (N := 10) Try.func40 rfl (by decide) rfl rfl ?_
  refine z2 ?_
  refine p1 ?_
  refine z3 ?_
  refine ar_pure tOk rfl rfl rfl ?_ ?_
  · simp
  refine ar_pur (hA) rfl rfl rfl rfl rfl rfl rfl ?_
  iterate 2 refine p1 ?_
  refine ar_pure tOk rfl rfl rfl ?_ ?_
  · simp
  refine ar_pure tOk rfl rfl rfl ?_ ?_
  · simp
  refine ar_pur (hB) rfl rfl rfl rfl rfl rfl rfl ?_
  iterate 3 refine p1 ?_
  refine ar_nil ?_
  refine ag_ret tOk Try.func40 rfl rfl (by simp) ?_
  rfl

theorem w_xOctets (t : TxV) (ht : t.ok) : Pur Try.prog 41 [txA t] (.tuple [.r (.bs (octL t).1), .r (.int .i64 (octL t).2)]) := by
  refine spec_of_go (N := 19) Try.func41 rfl (by decide) rfl rfl ?_
  refine z2 ?_
  refine ar_new tOk rfl rfl rfl trivial ?_
  iterate 2 refine p1 ?_
  refine z1 ?_
  refine z2 ?_
  refine p2 ?_
  refine ar_pur (w_xCheck t) rfl rfl rfl rfl rfl rfl rfl ?_
  refine p1 ?_
  refine z3 ?_
  iterate 2 refine p1 ?_
  refine ar_nil ?_
  refine ag_if rfl ?_ ?_
  · intro h9
    refine z2 ?_
    iterate 3 refine p1 ?_
    refine ar_nil ?_
    refine ag_ent (ent_nil 2 (.bs []) rfl (.inl rfl)) ?_
    refine ag_ret tOk Try.func41 rfl rfl (by simp) ?_
    rw [show octL t = ([], txE t) from by rw [octL, if_pos h9]]
    rfl
  · intro h9
    refine ag_skip ?_
    refine z2 ?_
    refine ar_obj [] (w_NewO) rfl rfl (handed_of rfl rfl (by decide) trivial) rfl rfl rfl rfl ?_
    rintro _ _ ⟨rfl, rfl⟩
    refine ⟨_, _, rfl, ?_⟩
    refine p1 ?_
    refine ar_nil ?_
    refine ag_ent ent_dead ?_
    refine ag_ent (ent_same (h' := obAt none [.int .i64 0, .bool true] 1 2 ⟨3, [(0, some (.mixed ((txC t).map .r)))], false⟩) rfl rfl ⟨rfl, rfl, rfl, trivial⟩) ?_
    refine z2 ?_
    refine p1 ?_
    refine p2 ?_
    refine ar_ob (w_xPut ([], 0) none [.int .i64 0, .bool true] oRel0 t ht) rfl rfl rfl rfl rfl rfl rfl (by intro d hd; cases hd; rfl) ?_
    rintro _ sl tl ⟨rfl, hr⟩
    refine ⟨rfl, ?_⟩
    refine z3 ?_
    refine p1 ?_
    refine ar_ob (w_ODone _ sl tl hr) rfl rfl rfl rfl rfl rfl rfl (by intro d hd; cases hd; rfl) ?_
    rintro _ sl tl ⟨rfl, hr⟩
    refine ⟨rfl, ?_⟩
    iterate 4 refine p1 ?_
    refine ar_nil ?_
    refine ag_ret tOk Try.func41 rfl rfl (by simp) ?_
    rw [show octL t = pTx ([], 0) t from by rw [octL, if_neg h9]]
    rfl

theorem w_xRead (b : List UInt8) : Pur Try.prog 45 [.r (.bs b)] (.tuple [txA (rdL b).1, .r (.int .i64 (rdL b).2)]) := by
  have c1 := w_IOpen b
  obtain ⟨w, hw⟩ : ∃ w, opR b = w := ⟨_, rfl⟩
  rw [hw] at c1
  have c2 := w_xGet w
  obtain ⟨x, hx⟩ : ∃ x, gTxs w = x := ⟨_, rfl⟩
  rw [hx] at c2
  have hG : rdL b = rdV x := by rw [rdL, hw, hx]
  rw [hG]
  clear hw hx hG
  refine spec_of_go (N := 23) Try.func45 rfl (by decide) rfl rfl ?_
  refine z2 ?_
  refine ar_new tOk rfl rfl rfl ?_ ?_
  · simp
  refine p1 ?_
  refine z3 ?_
  refine p1 ?_
  refine ar_obj [] (c1) rfl rfl (handed_of rfl rfl (by decide) trivial) rfl rfl rfl rfl ?_
  rintro _ _ ⟨rfl, rfl⟩
  refine ⟨_, _, rfl, ?_⟩
  refine p1 ?_
  refine z3 ?_
  refine p1 ?_
  refine ar_obj [1] (c2) rfl rfl (handed_of rfl rfl (by decide) ⟨rfl, rfl, rfl, trivial⟩) rfl rfl rfl rfl ?_
  rintro _ _ ⟨rfl, rfl⟩
  refine ⟨_, _, rfl, ?_⟩
  refine ar_ent (ent_same (h' := ⟨2, [(0, some (.mixed ((txC (tx0)).map .r))), (1, some (.mixed [.r (.bs x.2.1), .r (.int .i64 x.2.2), .r (.bool true)]))], false⟩) rfl rfl ⟨rfl, rfl, trivial⟩) ?_
  refine ar_new tOk rfl rfl rfl ?_ ?_
  · simp
  refine ar_store (h' := ⟨3, [(2, some (.mixed ((txC (x.1)).map .r))), (2, some (.mixed ((txC (tx0)).map .r))), (0, some (.mixed ((txC (tx0)).map .r))), (1, some (.mixed [.r (.bs x.2.1), .r (.int .i64 x.2.2), .r (.bool true)]))], false⟩) (c := True) tOk (by kernel_rfl) rfl rfl trivial ?_
  refine ar_nil ?_
  refine ag_ent (ent_weak (g' := [(2, .ptr 0 0), (4, .ptr 1 0), (5, .ptr 2 0)]) (h' := ⟨3, [(0, some (.mixed ((txC (tx0)).map .r))), (1, some (.mixed [.r (.bs x.2.1), .r (.int .i64 x.2.2), .r (.bool true)])), (2, some (.mixed ((txC (x.1)).map .r)))], false⟩) [0, 1, 2] rfl rfl rfl rfl ?_ ?_ rfl) ?_
  · exact ⟨⟨rfl, rfl⟩, ⟨rfl, rfl⟩, ⟨rfl, rfl⟩, trivial⟩
  · exact ⟨⟨rfl, rfl, rfl⟩, ⟨rfl, rfl, rfl⟩, ⟨rfl, rfl, rfl⟩, trivial⟩
  refine ag_seq ?_
  refine z2 ?_
  refine p1 ?_
  refine ar_qd rfl (qop_objR [1] (w_Left x.2.1 x.2.2) (by rintro _ _ ⟨rfl, rfl⟩; exact ⟨rfl, rfl⟩) rfl rfl (handed_of rfl rfl (by decide) ⟨rfl, rfl, rfl, trivial⟩) rfl rfl) rfl rfl rfl rfl ?_
  refine p1 ?_
  refine ar_nil ?_
  refine ag_if rfl ?_ ?_
  · intro h13
    refine ag_reg ?_
    refine p1 ?_
    refine ar_obj [1] (w_ISpoil x.2) rfl rfl (handed_of rfl rfl (by decide) ⟨rfl, rfl, rfl, trivial⟩) rfl rfl rfl rfl ?_
    rintro _ _ ⟨rfl, rfl⟩
    refine ⟨_, _, rfl, ?_⟩
    refine z1 ?_
    refine z2 ?_
    refine p1 ?_
    refine ar_qd rfl (qop_objR [1] (w_Err (spR x.2).1 (spR x.2).2) (by rintro _ _ ⟨rfl, rfl⟩; exact ⟨rfl, rfl⟩) rfl rfl (handed_of rfl rfl (by decide) ⟨rfl, rfl, rfl, trivial⟩) rfl rfl) rfl rfl rfl rfl ?_
    refine p1 ?_
    refine z3 ?_
    iterate 2 refine p1 ?_
    refine ar_nil ?_
    refine ag_true rfl (decide_eq_true (spR_ne x.2)) ?_
    refine z2 ?_
    refine ar_pure tOk rfl rfl rfl ?_ ?_
    · simp
    refine p1 ?_
    refine ar_store tOk rfl rfl rfl trivial ?_
    refine p1 ?_
    refine ar_nil ?_
    refine ag_ret tOk Try.func45 rfl rfl (by first | trivial | exact ⟨trivial, trivial⟩ | simp) ?_
    rw [show rdV x = (tx0, (spR x.2).2) from by rw [rdV, if_pos (by omega)]]
    rfl
  · intro h13
    refine ag_skip ?_
    refine ag_seq ?_
    refine z2 ?_
    refine p1 ?_
    refine ar_qd rfl (qop_objR [1] (w_Err x.2.1 x.2.2) (by rintro _ _ ⟨rfl, rfl⟩; exact ⟨rfl, rfl⟩) rfl rfl (handed_of rfl rfl (by decide) ⟨rfl, rfl, rfl, trivial⟩) rfl rfl) rfl rfl rfl rfl ?_
    refine p1 ?_
    refine z3 ?_
    iterate 2 refine p1 ?_
    refine ar_nil ?_
    refine ag_if rfl ?_ ?_
    · intro h19
      refine z2 ?_
      refine ar_pure tOk rfl rfl rfl ?_ ?_
      · simp
      refine p1 ?_
      refine ar_store tOk rfl rfl rfl trivial ?_
      refine p1 ?_
      refine ar_nil ?_
      refine ag_ret tOk Try.func45 rfl rfl (by first | trivial | exact ⟨trivial, trivial⟩ | simp) ?_
      rw [show rdV x = (tx0, x.2.2) from by rw [rdV, if_neg (by omega), if_pos h19]]
      rfl
    · intro h19
      refine ag_ent (ent_weak (g' := [(2, .ptr 0 0), (6, .r (.int .i64 x.2.2)), (4, .ptr 1 0), (5, .ptr 2 0)]) (h' := ⟨3, [(0, some (.mixed ((txC (tx0)).map .r))), (1, some (.mixed [.r (.bs x.2.1), .r (.int .i64 x.2.2), .r (.bool true)])), (2, some (.mixed ((txC (x.1)).map .r)))], false⟩) [0, 1, 2] rfl rfl rfl rfl ?_ ?_ rfl) ?_
      · exact ⟨⟨rfl, rfl⟩, ⟨rfl, rfl⟩, ⟨rfl, rfl⟩, ⟨rfl, rfl⟩, trivial⟩
      · exact ⟨⟨rfl, rfl, rfl⟩, ⟨rfl, rfl, rfl⟩, ⟨rfl, rfl, rfl⟩, trivial⟩
      refine ag_skip ?_
      refine z2 ?_
      refine p2 ?_
      refine ar_store (h' := ⟨3, [(0, some (.mixed ((txC (x.1)).map .r))), (0, some (.mixed ((txC (tx0)).map .r))), (1, some (.mixed [.r (.bs x.2.1), .r (.int .i64 x.2.2), .r (.bool true)])), (2, some (.mixed ((txC (x.1)).map .r)))], false⟩) (c := True) tOk (by kernel_rfl) rfl rfl trivial ?_
      refine p1 ?_
      refine ar_nil ?_
      refine ag_ret tOk Try.func45 rfl rfl (by first | trivial | exact ⟨trivial, trivial⟩ | simp) ?_
      rw [show rdV x = (x.1, 0) from by rw [rdV, if_neg (by omega), if_neg h19]]
      rfl

def plT (t : TxV) : TxV := if t.k = 1 then ⟨t.f, t.n, t.k, t.a, t.m0, t.m1, t.m2, t.m3, ⟨0, [], 0, 0, 0, t.inv.t, []⟩, var0, 0, 0, 0, 0, []⟩ else if t.k = 2 then ⟨t.f, t.n, t.k, t.a, t.m0, t.m1, t.m2, t.m3, ⟨0, [], t.inv.r, 0, 0, 0, []⟩, var0, 0, 0, 0, 0, []⟩ else if t.k = 4 then ⟨t.f, t.n, t.k, t.a, t.m0, t.m1, t.m2, t.m3, t.inv, t.var, 0, 0, 0, 0, []⟩ else if t.k = 5 ∨ t.k = 6 then ⟨t.f, t.n, t.k, t.a, t.m0, t.m1, t.m2, t.m3, t.inv, t.var, t.g0, t.g1, t.g2, t.g3, t.sig⟩ else ⟨t.f, t.n, t.k, t.a, t.m0, t.m1, t.m2, t.m3, inv0, var0, 0, 0, 0, 0, []⟩

theorem w_rPlain1 (t : TxV) (hk : t.k = 1) : Pur Try.prog 49 [txA t] (txA (⟨t.f, t.n, t.k, t.a, t.m0, t.m1, t.m2, t.m3, ⟨0, [], 0, 0, 0, t.inv.t, []⟩, var0, 0, 0, 0, 0, []⟩)) := by
  refine spec_of_go (N := 58) Try.func49 rfl (by decide) rfl rfl ?_
  refine z2 ?_
  refine ar_new tOk rfl rfl rfl trivial ?_
  refine ar_new tOk rfl rfl rfl ?_ ?_
  · simp
  refine z3 ?_
  refine p1 ?_
  refine p2 ?_
  refine p1 ?_
  refine p2 ?_
  refine p1 ?_
  refine p2 ?_
  refine p1 ?_
  refine p2 ?_
  refine p1 ?_
  refine p2 ?_
  refine ar_pure tOk rfl rfl rfl ?_ ?_
  · simp
  refine ar_ent (ent_reg 14 (txA ⟨t.f, t.n, t.k, t.a, t.m0, t.m1, t.m2, t.m3, inv0, var0, 0, 0, 0, 0, []⟩) (by kernel_rfl)) ?_
  refine ar_new tOk rfl rfl rfl ?_ ?_
  · simp
  refine ar_store (h' := ⟨3, [(2, some (.mixed ((txC (⟨t.f, t.n, t.k, t.a, t.m0, t.m1, t.m2, t.m3, inv0, var0, 0, 0, 0, 0, []⟩)).map .r))), (2, some (.mixed ((txC (tx0)).map .r))), (1, some (.mixed ((txC (tx0)).map .r))), (0, some (.mixed ((txC (t)).map .r)))], false⟩) (c := True) tOk (by kernel_rfl) rfl rfl trivial ?_
  refine ar_nil ?_
  refine ag_ent (ent_weak (g' := [(1, .ptr 0 0), (2, .ptr 1 0), (3, .ptr 2 0)]) (h' := ⟨3, [(0, some (.mixed ((txC (t)).map .r))), (1, some (.mixed ((txC (tx0)).map .r))), (2, some (.mixed ((txC (⟨t.f, t.n, t.k, t.a, t.m0, t.m1, t.m2, t.m3, inv0, var0, 0, 0, 0, 0, []⟩)).map .r)))], false⟩) [0, 1, 2] rfl rfl rfl rfl ?_ ?_ rfl) ?_
  · exact ⟨⟨rfl, rfl⟩, ⟨rfl, rfl⟩, ⟨rfl, rfl⟩, trivial⟩
  · exact ⟨⟨rfl, rfl, rfl⟩, ⟨rfl, rfl, rfl⟩, ⟨rfl, rfl, rfl⟩, trivial⟩
  refine ag_seq ?_
  refine z2 ?_
  refine p1 ?_
  refine p2 ?_
  refine ar_nil ?_
  refine ag_block ?_
  refine z2 ?_
  iterate 2 refine p1 ?_
  refine ar_nil ?_
  refine ag_true rfl (decide_eq_true (show t.k = 1 by omega)) ?_
  refine ag_reg ?_
  iterate 2 refine p1 ?_
  refine p2 ?_
  iterate 2 refine p1 ?_
  refine ar_store tOk rfl rfl rfl trivial ?_
  refine ar_nil ?_
  refine ag_ent (ent_weak (g' := [(1, .ptr 0 0), (2, .ptr 1 0), (3, .ptr 2 0)]) (h' := ⟨3, [(0, some (.mixed ((txC (t)).map .r))), (1, some (.mixed ((txC (tx0)).map .r))), (2, some (.mixed ((txC (⟨t.f, t.n, t.k, t.a, t.m0, t.m1, t.m2, t.m3, ⟨0, [], 0, 0, 0, t.inv.t, []⟩, var0, 0, 0, 0, 0, []⟩)).map .r)))], false⟩) [0, 1, 2] rfl rfl rfl rfl ?_ ?_ rfl) ?_
  · exact ⟨⟨rfl, rfl⟩, ⟨rfl, rfl⟩, ⟨rfl, rfl⟩, trivial⟩
  · exact ⟨⟨rfl, rfl, rfl⟩, ⟨rfl, rfl, rfl⟩, ⟨rfl, rfl, rfl⟩, trivial⟩
  refine ag_inBlock ?_
  refine ag_seq ?_
  refine z2 ?_
  refine p1 ?_
  refine p2 ?_
  iterate 2 refine p1 ?_
  refine ar_ent (ent_reg 46 (.r (.bool false)) (by show AVal.r (.bool _) = _; exact eqB (decide_eq_false (show ¬ t.k = 5 by omega)))) ?_
  refine p1 ?_
  refine p2 ?_
  iterate 2 refine p1 ?_
  refine ar_nil ?_
  refine ag_false rfl (decide_eq_false (show ¬ t.k = 6 by omega)) ?_
  refine ag_skip ?_
  refine z2 ?_
  refine p2 ?_
  refine ar_store (h' := ⟨3, [(1, some (.mixed ((txC (⟨t.f, t.n, t.k, t.a, t.m0, t.m1, t.m2, t.m3, ⟨0, [], 0, 0, 0, t.inv.t, []⟩, var0, 0, 0, 0, 0, []⟩)).map .r))), (0, some (.mixed ((txC (t)).map .r))), (1, some (.mixed ((txC (tx0)).map .r))), (2, some (.mixed ((txC (⟨t.f, t.n, t.k, t.a, t.m0, t.m1, t.m2, t.m3, ⟨0, [], 0, 0, 0, t.inv.t, []⟩, var0, 0, 0, 0, 0, []⟩)).map .r)))], false⟩) (c := True) tOk (by kernel_rfl) rfl rfl trivial ?_
  refine ar_nil ?_
  refine ag_ret tOk Try.func49 rfl rfl (by first | trivial | exact ⟨trivial, trivial⟩ | simp) ?_
  rfl
  all_goals exact ⟨_, rfl, trivial⟩

theorem w_rPlain2 (t : TxV) (hk : t.k = 2) : Pur Try.prog 49 [txA t] (txA (⟨t.f, t.n, t.k, t.a, t.m0, t.m1, t.m2, t.m3, ⟨0, [], t.inv.r, 0, 0, 0, []⟩, var0, 0, 0, 0, 0, []⟩)) := by
  refine spec_of_go (N := 58) Try.func49 rfl (by decide) rfl rfl ?_
  refine z2 ?_
  refine ar_new tOk rfl rfl rfl trivial ?_
  refine ar_new tOk rfl rfl rfl ?_ ?_
  · simp
  refine z3 ?_
  refine p1 ?_
  refine p2 ?_
  refine p1 ?_
  refine p2 ?_
  refine p1 ?_
  refine p2 ?_
  refine p1 ?_
  refine p2 ?_
  refine p1 ?_
  refine p2 ?_
  refine ar_pure tOk rfl rfl rfl ?_ ?_
  · simp
  refine ar_ent (ent_reg 14 (txA ⟨t.f, t.n, t.k, t.a, t.m0, t.m1, t.m2, t.m3, inv0, var0, 0, 0, 0, 0, []⟩) (by kernel_rfl)) ?_
  refine ar_new tOk rfl rfl rfl ?_ ?_
  · simp
  refine ar_store (h' := ⟨3, [(2, some (.mixed ((txC (⟨t.f, t.n, t.k, t.a, t.m0, t.m1, t.m2, t.m3, inv0, var0, 0, 0, 0, 0, []⟩)).map .r))), (2, some (.mixed ((txC (tx0)).map .r))), (1, some (.mixed ((txC (tx0)).map .r))), (0, some (.mixed ((txC (t)).map .r)))], false⟩) (c := True) tOk (by kernel_rfl) rfl rfl trivial ?_
  refine ar_nil ?_
  refine ag_ent (ent_weak (g' := [(1, .ptr 0 0), (2, .ptr 1 0), (3, .ptr 2 0)]) (h' := ⟨3, [(0, some (.mixed ((txC (t)).map .r))), (1, some (.mixed ((txC (tx0)).map .r))), (2, some (.mixed ((txC (⟨t.f, t.n, t.k, t.a, t.m0, t.m1, t.m2, t.m3, inv0, var0, 0, 0, 0, 0, []⟩)).map .r)))], false⟩) [0, 1, 2] rfl rfl rfl rfl ?_ ?_ rfl) ?_
  · exact ⟨⟨rfl, rfl⟩, ⟨rfl, rfl⟩, ⟨rfl, rfl⟩, trivial⟩
  · exact ⟨⟨rfl, rfl, rfl⟩, ⟨rfl, rfl, rfl⟩, ⟨rfl, rfl, rfl⟩, trivial⟩
  refine ag_seq ?_
  refine z2 ?_
  refine p1 ?_
  refine p2 ?_
  refine ar_nil ?_
  refine ag_block ?_
  refine z2 ?_
  iterate 2 refine p1 ?_
  refine ar_nil ?_
  refine ag_false rfl (decide_eq_false (show ¬ t.k = 1 by omega)) ?_
  refine z2 ?_
  iterate 2 refine p1 ?_
  refine ar_nil ?_
  refine ag_true rfl (decide_eq_true (show t.k = 2 by omega)) ?_
  refine ag_reg ?_
  iterate 2 refine p1 ?_
  refine p2 ?_
  iterate 2 refine p1 ?_
  refine ar_store tOk rfl rfl rfl trivial ?_
  refine ar_nil ?_
  refine ag_ent (ent_weak (g' := [(1, .ptr 0 0), (2, .ptr 1 0), (3, .ptr 2 0)]) (h' := ⟨3, [(0, some (.mixed ((txC (t)).map .r))), (1, some (.mixed ((txC (tx0)).map .r))), (2, some (.mixed ((txC (⟨t.f, t.n, t.k, t.a, t.m0, t.m1, t.m2, t.m3, ⟨0, [], t.inv.r, 0, 0, 0, []⟩, var0, 0, 0, 0, 0, []⟩)).map .r)))], false⟩) [0, 1, 2] rfl rfl rfl rfl ?_ ?_ rfl) ?_
  · exact ⟨⟨rfl, rfl⟩, ⟨rfl, rfl⟩, ⟨rfl, rfl⟩, trivial⟩
  · exact ⟨⟨rfl, rfl, rfl⟩, ⟨rfl, rfl, rfl⟩, ⟨rfl, rfl, rfl⟩, trivial⟩
  refine ag_inBlock ?_
  refine ag_seq ?_
  refine z2 ?_
  refine p1 ?_
  refine p2 ?_
  iterate 2 refine p1 ?_
  refine ar_ent (ent_reg 46 (.r (.bool false)) (by show AVal.r (.bool _) = _; exact eqB (decide_eq_false (show ¬ t.k = 5 by omega)))) ?_
  refine p1 ?_
  refine p2 ?_
  iterate 2 refine p1 ?_
  refine ar_nil ?_
  refine ag_false rfl (decide_eq_false (show ¬ t.k = 6 by omega)) ?_
  refine ag_skip ?_
  refine z2 ?_
  refine p2 ?_
  refine ar_store (h' := ⟨3, [(1, some (.mixed ((txC (⟨t.f, t.n, t.k, t.a, t.m0, t.m1, t.m2, t.m3, ⟨0, [], t.inv.r, 0, 0, 0, []⟩, var0, 0, 0, 0, 0, []⟩)).map .r))), (0, some (.mixed ((txC (t)).map .r))), (1, some (.mixed ((txC (tx0)).map .r))), (2, some (.mixed ((txC (⟨t.f, t.n, t.k, t.a, t.m0, t.m1, t.m2, t.m3, ⟨0, [], t.inv.r, 0, 0, 0, []⟩, var0, 0, 0, 0, 0, []⟩)).map .r)))], false⟩) (c := True) tOk (by kernel_rfl) rfl rfl trivial ?_
  refine ar_nil ?_
  refine ag_ret tOk Try.func49 rfl rfl (by first | trivial | exact ⟨trivial, trivial⟩ | simp) ?_
  rfl
  all_goals exact ⟨_, rfl, trivial⟩

theorem w_rPlain4 (t : TxV) (hk : t.k = 4) : Pur Try.prog 49 [txA t] (txA (⟨t.f, t.n, t.k, t.a, t.m0, t.m1, t.m2, t.m3, t.inv, t.var, 0, 0, 0, 0, []⟩)) := by
  refine spec_of_go (N := 58) Try.func49 rfl (by decide) rfl rfl ?_
  refine z2 ?_
  refine ar_new tOk rfl rfl rfl trivial ?_
  refine ar_new tOk rfl rfl rfl ?_ ?_
  · simp
  refine z3 ?_
  refine p1 ?_
  refine p2 ?_
  refine p1 ?_
  refine p2 ?_
  refine p1 ?_
  refine p2 ?_
  refine p1 ?_
  refine p2 ?_
  refine p1 ?_
  refine p2 ?_
  refine ar_pure tOk rfl rfl rfl ?_ ?_
  · simp
  refine ar_ent (ent_reg 14 (txA ⟨t.f, t.n, t.k, t.a, t.m0, t.m1, t.m2, t.m3, inv0, var0, 0, 0, 0, 0, []⟩) (by kernel_rfl)) ?_
  refine ar_new tOk rfl rfl rfl ?_ ?_
  · simp
  refine ar_store (h' := ⟨3, [(2, some (.mixed ((txC (⟨t.f, t.n, t.k, t.a, t.m0, t.m1, t.m2, t.m3, inv0, var0, 0, 0, 0, 0, []⟩)).map .r))), (2, some (.mixed ((txC (tx0)).map .r))), (1, some (.mixed ((txC (tx0)).map .r))), (0, some (.mixed ((txC (t)).map .r)))], false⟩) (c := True) tOk (by kernel_rfl) rfl rfl trivial ?_
  refine ar_nil ?_
  refine ag_ent (ent_weak (g' := [(1, .ptr 0 0), (2, .ptr 1 0), (3, .ptr 2 0)]) (h' := ⟨3, [(0, some (.mixed ((txC (t)).map .r))), (1, some (.mixed ((txC (tx0)).map .r))), (2, some (.mixed ((txC (⟨t.f, t.n, t.k, t.a, t.m0, t.m1, t.m2, t.m3, inv0, var0, 0, 0, 0, 0, []⟩)).map .r)))], false⟩) [0, 1, 2] rfl rfl rfl rfl ?_ ?_ rfl) ?_
  · exact ⟨⟨rfl, rfl⟩, ⟨rfl, rfl⟩, ⟨rfl, rfl⟩, trivial⟩
  · exact ⟨⟨rfl, rfl, rfl⟩, ⟨rfl, rfl, rfl⟩, ⟨rfl, rfl, rfl⟩, trivial⟩
  refine ag_seq ?_
  refine z2 ?_
  refine p1 ?_
  refine p2 ?_
  refine ar_nil ?_
  refine ag_block ?_
  refine z2 ?_
  iterate 2 refine p1 ?_
  refine ar_nil ?_
  refine ag_false rfl (decide_eq_false (show ¬ t.k = 1 by omega)) ?_
  refine z2 ?_
  iterate 2 refine p1 ?_
  refine ar_nil ?_
  refine ag_false rfl (decide_eq_false (show ¬ t.k = 2 by omega)) ?_
  refine ag_seq ?_
  refine z2 ?_
  iterate 2 refine p1 ?_
  refine ar_nil ?_
  refine ag_true rfl (decide_eq_true (show t.k = 4 by omega)) ?_
  refine ag_skip ?_
  refine ag_true rfl (decide_eq_true (show t.k = 4 by omega)) ?_
  apply ag_draw2 [] (by kernel_rfl) (by kernel_rfl)
  refine aq_pure tOk rfl rfl rfl trivial ?_
  refine aq_load0 tOk rfl (by kernel_rfl) rfl rfl trivial ?_
  refine aq_pure tOk rfl rfl rfl trivial ?_
  refine aq_load1 tOk rfl (by kernel_rfl) rfl rfl rfl rfl trivial ?_ ?_
  rotate_left 1
  refine aq_pure tOk rfl rfl rfl trivial ?_
  refine' aq_store20 tOk rfl rfl rfl rfl trivial ?_
  rotate_left 1
  refine aq_pure tOk rfl rfl rfl trivial ?_
  refine aq_store21 tOk rfl rfl rfl rfl trivial ?_
  refine aq_nil rfl ?_
  refine ag_ent (ent_weak (g' := [(1, .ptr 0 0), (2, .ptr 1 0), (3, .ptr 2 0)]) (h' := ⟨3, [(0, some (.mixed ((txC (t)).map .r))), (1, some (.mixed ((txC (tx0)).map .r))), (2, some (.mixed ((txC (⟨t.f, t.n, t.k, t.a, t.m0, t.m1, t.m2, t.m3, t.inv, t.var, 0, 0, 0, 0, []⟩)).map .r)))], false⟩) [0, 1, 2] rfl rfl rfl rfl ?_ ?_ rfl) ?_
  · exact ⟨⟨rfl, rfl⟩, ⟨rfl, rfl⟩, ⟨rfl, rfl⟩, trivial⟩
  · exact ⟨⟨rfl, rfl, rfl⟩, ⟨rfl, rfl, rfl⟩, ⟨rfl, rfl, rfl⟩, trivial⟩
  refine ag_inBlock ?_
  refine ag_seq ?_
  refine z2 ?_
  refine p1 ?_
  refine p2 ?_
  iterate 2 refine p1 ?_
  refine ar_ent (ent_reg 46 (.r (.bool false)) (by show AVal.r (.bool _) = _; exact eqB (decide_eq_false (show ¬ t.k = 5 by omega)))) ?_
  refine p1 ?_
  refine p2 ?_
  iterate 2 refine p1 ?_
  refine ar_nil ?_
  refine ag_false rfl (decide_eq_false (show ¬ t.k = 6 by omega)) ?_
  refine ag_skip ?_
  refine z2 ?_
  refine p2 ?_
  refine ar_store (h' := ⟨3, [(1, some (.mixed ((txC (⟨t.f, t.n, t.k, t.a, t.m0, t.m1, t.m2, t.m3, t.inv, t.var, 0, 0, 0, 0, []⟩)).map .r))), (0, some (.mixed ((txC (t)).map .r))), (1, some (.mixed ((txC (tx0)).map .r))), (2, some (.mixed ((txC (⟨t.f, t.n, t.k, t.a, t.m0, t.m1, t.m2, t.m3, t.inv, t.var, 0, 0, 0, 0, []⟩)).map .r)))], false⟩) (c := True) tOk (by kernel_rfl) rfl rfl trivial ?_
  refine ar_nil ?_
  refine ag_ret tOk Try.func49 rfl rfl (by first | trivial | exact ⟨trivial, trivial⟩ | simp) ?_
  rfl
  all_goals exact ⟨_, rfl, trivial⟩

theorem w_rPlain5 (t : TxV) (hk : t.k = 5) : Pur Try.prog 49 [txA t] (txA (⟨t.f, t.n, t.k, t.a, t.m0, t.m1, t.m2, t.m3, t.inv, t.var, t.g0, t.g1, t.g2, t.g3, t.sig⟩)) := by
  refine spec_of_go (N := 58) Try.func49 rfl (by decide) rfl rfl ?_
  refine z2 ?_
  refine ar_new tOk rfl rfl rfl trivial ?_
  refine ar_new tOk rfl rfl rfl ?_ ?_
  · simp
  refine z3 ?_
  refine p1 ?_
  refine p2 ?_
  refine p1 ?_
  refine p2 ?_
  refine p1 ?_
  refine p2 ?_
  refine p1 ?_
  refine p2 ?_
  refine p1 ?_
  refine p2 ?_
  refine ar_pure tOk rfl rfl rfl ?_ ?_
  · simp
  refine ar_ent (ent_reg 14 (txA ⟨t.f, t.n, t.k, t.a, t.m0, t.m1, t.m2, t.m3, inv0, var0, 0, 0, 0, 0, []⟩) (by kernel_rfl)) ?_
  refine ar_new tOk rfl rfl rfl ?_ ?_
  · simp
  refine ar_store (h' := ⟨3, [(2, some (.mixed ((txC (⟨t.f, t.n, t.k, t.a, t.m0, t.m1, t.m2, t.m3, inv0, var0, 0, 0, 0, 0, []⟩)).map .r))), (2, some (.mixed ((txC (tx0)).map .r))), (1, some (.mixed ((txC (tx0)).map .r))), (0, some (.mixed ((txC (t)).map .r)))], false⟩) (c := True) tOk (by kernel_rfl) rfl rfl trivial ?_
  refine ar_nil ?_
  refine ag_ent (ent_weak (g' := [(1, .ptr 0 0), (2, .ptr 1 0), (3, .ptr 2 0)]) (h' := ⟨3, [(0, some (.mixed ((txC (t)).map .r))), (1, some (.mixed ((txC (tx0)).map .r))), (2, some (.mixed ((txC (⟨t.f, t.n, t.k, t.a, t.m0, t.m1, t.m2, t.m3, inv0, var0, 0, 0, 0, 0, []⟩)).map .r)))], false⟩) [0, 1, 2] rfl rfl rfl rfl ?_ ?_ rfl) ?_
  · exact ⟨⟨rfl, rfl⟩, ⟨rfl, rfl⟩, ⟨rfl, rfl⟩, trivial⟩
  · exact ⟨⟨rfl, rfl, rfl⟩, ⟨rfl, rfl, rfl⟩, ⟨rfl, rfl, rfl⟩, trivial⟩
  refine ag_seq ?_
  refine z2 ?_
  refine p1 ?_
  refine p2 ?_
  refine ar_nil ?_
  refine ag_block ?_
  refine z2 ?_
  iterate 2 refine p1 ?_
  refine ar_nil ?_
  refine ag_false rfl (decide_eq_false (show ¬ t.k = 1 by omega)) ?_
  refine z2 ?_
  iterate 2 refine p1 ?_
  refine ar_nil ?_
  refine ag_false rfl (decide_eq_false (show ¬ t.k = 2 by omega)) ?_
  refine ag_seq ?_
  refine z2 ?_
  iterate 2 refine p1 ?_
  refine ar_nil ?_
  refine ag_false rfl (decide_eq_false (show ¬ t.k = 4 by omega)) ?_
  refine z2 ?_
  iterate 2 refine p1 ?_
  refine ar_nil ?_
  refine ag_true rfl (decide_eq_true (show t.k = 5 by omega)) ?_
  refine ag_skip ?_
  refine ag_true rfl (decide_eq_true (show t.k = 5 by omega)) ?_
  apply ag_draw2 [] (by kernel_rfl) (by kernel_rfl)
  refine aq_pure tOk rfl rfl rfl trivial ?_
  refine aq_load0 tOk rfl (by kernel_rfl) rfl rfl trivial ?_
  refine aq_pure tOk rfl rfl rfl trivial ?_
  refine aq_load1 tOk rfl (by kernel_rfl) rfl rfl rfl rfl trivial ?_ ?_
  rotate_left 1
  refine aq_pure tOk rfl rfl rfl trivial ?_
  refine' aq_store20 tOk rfl rfl rfl rfl trivial ?_
  rotate_left 1
  refine aq_pure tOk rfl rfl rfl trivial ?_
  refine aq_store21 tOk rfl rfl rfl rfl trivial ?_
  refine aq_nil rfl ?_
  refine ag_ent (ent_weak (g' := [(1, .ptr 0 0), (2, .ptr 1 0), (3, .ptr 2 0)]) (h' := ⟨3, [(0, some (.mixed ((txC (t)).map .r))), (1, some (.mixed ((txC (tx0)).map .r))), (2, some (.mixed ((txC (⟨t.f, t.n, t.k, t.a, t.m0, t.m1, t.m2, t.m3, t.inv, t.var, 0, 0, 0, 0, []⟩)).map .r)))], false⟩) [0, 1, 2] rfl rfl rfl rfl ?_ ?_ rfl) ?_
  · exact ⟨⟨rfl, rfl⟩, ⟨rfl, rfl⟩, ⟨rfl, rfl⟩, trivial⟩
  · exact ⟨⟨rfl, rfl, rfl⟩, ⟨rfl, rfl, rfl⟩, ⟨rfl, rfl, rfl⟩, trivial⟩
  refine ag_inBlock ?_
  refine ag_seq ?_
  refine z2 ?_
  refine p1 ?_
  refine p2 ?_
  iterate 2 refine p1 ?_
  refine ar_ent (ent_reg 46 (.r (.bool true)) (by show AVal.r (.bool _) = _; exact eqB (decide_eq_true (show t.k = 5 by omega)))) ?_
  iterate 3 refine ar_skip rfl rfl rfl ?_
  refine p1 ?_
  refine ar_nil ?_
  refine ag_true rfl (by rfl) ?_
  apply ag_draw2 [] (by kernel_rfl) (by kernel_rfl)
  refine aq_pure tOk rfl rfl rfl trivial ?_
  refine aq_load0 tOk rfl (by kernel_rfl) rfl rfl trivial ?_
  refine aq_pure tOk rfl rfl rfl trivial ?_
  refine aq_load1 tOk rfl (by kernel_rfl) rfl rfl rfl rfl trivial ?_ ?_
  rotate_left 1
  refine aq_pure tOk rfl rfl rfl trivial ?_
  refine' aq_store20 tOk rfl rfl rfl rfl trivial ?_
  rotate_left 1
  refine aq_pure tOk rfl rfl rfl trivial ?_
  refine aq_store21 tOk rfl rfl rfl rfl trivial ?_
  refine aq_nil rfl ?_
  refine ag_ent (ent_weak (g' := [(1, .ptr 0 0), (2, .ptr 1 0), (3, .ptr 2 0)]) (h' := ⟨3, [(0, some (.mixed ((txC (t)).map .r))), (1, some (.mixed ((txC (tx0)).map .r))), (2, some (.mixed ((txC (⟨t.f, t.n, t.k, t.a, t.m0, t.m1, t.m2, t.m3, t.inv, t.var, t.g0, t.g1, t.g2, t.g3, t.sig⟩)).map .r)))], false⟩) [0, 1, 2] rfl rfl rfl rfl ?_ ?_ rfl) ?_
  · exact ⟨⟨rfl, rfl⟩, ⟨rfl, rfl⟩, ⟨rfl, rfl⟩, trivial⟩
  · exact ⟨⟨rfl, rfl, rfl⟩, ⟨rfl, rfl, rfl⟩, ⟨rfl, rfl, rfl⟩, trivial⟩
  refine z2 ?_
  refine p2 ?_
  refine ar_store (h' := ⟨3, [(1, some (.mixed ((txC (⟨t.f, t.n, t.k, t.a, t.m0, t.m1, t.m2, t.m3, t.inv, t.var, t.g0, t.g1, t.g2, t.g3, t.sig⟩)).map .r))), (0, some (.mixed ((txC (t)).map .r))), (1, some (.mixed ((txC (tx0)).map .r))), (2, some (.mixed ((txC (⟨t.f, t.n, t.k, t.a, t.m0, t.m1, t.m2, t.m3, t.inv, t.var, t.g0, t.g1, t.g2, t.g3, t.sig⟩)).map .r)))], false⟩) (c := True) tOk (by kernel_rfl) rfl rfl trivial ?_
  refine ar_nil ?_
  refine ag_ret tOk Try.func49 rfl rfl (by first | trivial | exact ⟨trivial, trivial⟩ | simp) ?_
  rfl
  all_goals exact ⟨_, rfl, trivial⟩

theorem w_rPlain6 (t : TxV) (hk : t.k = 6) : Pur Try.prog 49 [txA t] (txA (⟨t.f, t.n, t.k, t.a, t.m0, t.m1, t.m2, t.m3, t.inv, t.var, t.g0, t.g1, t.g2, t.g3, t.sig⟩)) := by
  refine spec_of_go (N := 58) Try.func49 rfl (by decide) rfl rfl ?_
  refine z2 ?_
  refine ar_new tOk rfl rfl rfl trivial ?_
  refine ar_new tOk rfl rfl rfl ?_ ?_
  · simp
  refine z3 ?_
  refine p1 ?_
  refine p2 ?_
  refine p1 ?_
  refine p2 ?_
  refine p1 ?_
  refine p2 ?_
  refine p1 ?_
  refine p2 ?_
  refine p1 ?_
  refine p2 ?_
  refine ar_pure tOk rfl rfl rfl ?_ ?_
  · simp
  refine ar_ent (ent_reg 14 (txA ⟨t.f, t.n, t.k, t.a, t.m0, t.m1, t.m2, t.m3, inv0, var0, 0, 0, 0, 0, []⟩) (by kernel_rfl)) ?_
  refine ar_new tOk rfl rfl rfl ?_ ?_
  · simp
  refine ar_store (h' := ⟨3, [(2, some (.mixed ((txC (⟨t.f, t.n, t.k, t.a, t.m0, t.m1, t.m2, t.m3, inv0, var0, 0, 0, 0, 0, []⟩)).map .r))), (2, some (.mixed ((txC (tx0)).map .r))), (1, some (.mixed ((txC (tx0)).map .r))), (0, some (.mixed ((txC (t)).map .r)))], false⟩) (c := True) tOk (by kernel_rfl) rfl rfl trivial ?_
  refine ar_nil ?_
  refine ag_ent (ent_weak (g' := [(1, .ptr 0 0), (2, .ptr 1 0), (3, .ptr 2 0)]) (h' := ⟨3, [(0, some (.mixed ((txC (t)).map .r))), (1, some (.mixed ((txC (tx0)).map .r))), (2, some (.mixed ((txC (⟨t.f, t.n, t.k, t.a, t.m0, t.m1, t.m2, t.m3, inv0, var0, 0, 0, 0, 0, []⟩)).map .r)))], false⟩) [0, 1, 2] rfl rfl rfl rfl ?_ ?_ rfl) ?_
  · exact ⟨⟨rfl, rfl⟩, ⟨rfl, rfl⟩, ⟨rfl, rfl⟩, trivial⟩
  · exact ⟨⟨rfl, rfl, rfl⟩, ⟨rfl, rfl, rfl⟩, ⟨rfl, rfl, rfl⟩, trivial⟩
  refine ag_seq ?_
  refine z2 ?_
  refine p1 ?_
  refine p2 ?_
  refine ar_nil ?_
  refine ag_block ?_
  refine z2 ?_
  iterate 2 refine p1 ?_
  refine ar_nil ?_
  refine ag_false rfl (decide_eq_false (show ¬ t.k = 1 by omega)) ?_
  refine z2 ?_
  iterate 2 refine p1 ?_
  refine ar_nil ?_
  refine ag_false rfl (decide_eq_false (show ¬ t.k = 2 by omega)) ?_
  refine ag_seq ?_
  refine z2 ?_
  iterate 2 refine p1 ?_
  refine ar_nil ?_
  refine ag_false rfl (decide_eq_false (show ¬ t.k = 4 by omega)) ?_
  refine z2 ?_
  iterate 2 refine p1 ?_
  refine ar_nil ?_
  refine ag_false rfl (decide_eq_false (show ¬ t.k = 5 by omega)) ?_
  refine ag_reg ?_
  iterate 2 refine p1 ?_
  refine ar_nil ?_
  refine ag_true rfl (decide_eq_true (show t.k = 6 by omega)) ?_
  apply ag_draw2 [] (by kernel_rfl) (by kernel_rfl)
  refine aq_pure tOk rfl rfl rfl trivial ?_
  refine aq_load0 tOk rfl (by kernel_rfl) rfl rfl trivial ?_
  refine aq_pure tOk rfl rfl rfl trivial ?_
  refine aq_load1 tOk rfl (by kernel_rfl) rfl rfl rfl rfl trivial ?_ ?_
  rotate_left 1
  refine aq_pure tOk rfl rfl rfl trivial ?_
  refine' aq_store20 tOk rfl rfl rfl rfl trivial ?_
  rotate_left 1
  refine aq_pure tOk rfl rfl rfl trivial ?_
  refine aq_store21 tOk rfl rfl rfl rfl trivial ?_
  refine aq_nil rfl ?_
  refine ag_ent (ent_weak (g' := [(1, .ptr 0 0), (2, .ptr 1 0), (3, .ptr 2 0)]) (h' := ⟨3, [(0, some (.mixed ((txC (t)).map .r))), (1, some (.mixed ((txC (tx0)).map .r))), (2, some (.mixed ((txC (⟨t.f, t.n, t.k, t.a, t.m0, t.m1, t.m2, t.m3, t.inv, t.var, 0, 0, 0, 0, []⟩)).map .r)))], false⟩) [0, 1, 2] rfl rfl rfl rfl ?_ ?_ rfl) ?_
  · exact ⟨⟨rfl, rfl⟩, ⟨rfl, rfl⟩, ⟨rfl, rfl⟩, trivial⟩
  · exact ⟨⟨rfl, rfl, rfl⟩, ⟨rfl, rfl, rfl⟩, ⟨rfl, rfl, rfl⟩, trivial⟩
  refine ag_inBlock ?_
  refine ag_seq ?_
  refine z2 ?_
  refine p1 ?_
  refine p2 ?_
  iterate 2 refine p1 ?_
  refine ar_ent (ent_reg 46 (.r (.bool false)) (by show AVal.r (.bool _) = _; exact eqB (decide_eq_false (show ¬ t.k = 5 by omega)))) ?_
  refine p1 ?_
  refine p2 ?_
  iterate 2 refine p1 ?_
  refine ar_nil ?_
  refine ag_true rfl (decide_eq_true (show t.k = 6 by omega)) ?_
  apply ag_draw2 [] (by kernel_rfl) (by kernel_rfl)
  refine aq_pure tOk rfl rfl rfl trivial ?_
  refine aq_load0 tOk rfl (by kernel_rfl) rfl rfl trivial ?_
  refine aq_pure tOk rfl rfl rfl trivial ?_
  refine aq_load1 tOk rfl (by kernel_rfl) rfl rfl rfl rfl trivial ?_ ?_
  rotate_left 1
  refine aq_pure tOk rfl rfl rfl trivial ?_
  refine' aq_store20 tOk rfl rfl rfl rfl trivial ?_
  rotate_left 1
  refine aq_pure tOk rfl rfl rfl trivial ?_
  refine aq_store21 tOk rfl rfl rfl rfl trivial ?_
  refine aq_nil rfl ?_
  refine ag_ent (ent_weak (g' := [(1, .ptr 0 0), (2, .ptr 1 0), (3, .ptr 2 0)]) (h' := ⟨3, [(0, some (.mixed ((txC (t)).map .r))), (1, some (.mixed ((txC (tx0)).map .r))), (2, some (.mixed ((txC (⟨t.f, t.n, t.k, t.a, t.m0, t.m1, t.m2, t.m3, t.inv, t.var, t.g0, t.g1, t.g2, t.g3, t.sig⟩)).map .r)))], false⟩) [0, 1, 2] rfl rfl rfl rfl ?_ ?_ rfl) ?_
  · exact ⟨⟨rfl, rfl⟩, ⟨rfl, rfl⟩, ⟨rfl, rfl⟩, trivial⟩
  · exact ⟨⟨rfl, rfl, rfl⟩, ⟨rfl, rfl, rfl⟩, ⟨rfl, rfl, rfl⟩, trivial⟩
  refine z2 ?_
  refine p2 ?_
  refine ar_store (h' := ⟨3, [(1, some (.mixed ((txC (⟨t.f, t.n, t.k, t.a, t.m0, t.m1, t.m2, t.m3, t.inv, t.var, t.g0, t.g1, t.g2, t.g3, t.sig⟩)).map .r))), (0, some (.mixed ((txC (t)).map .r))), (1, some (.mixed ((txC (tx0)).map .r))), (2, some (.mixed ((txC (⟨t.f, t.n, t.k, t.a, t.m0, t.m1, t.m2, t.m3, t.inv, t.var, t.g0, t.g1, t.g2, t.g3, t.sig⟩)).map .r)))], false⟩) (c := True) tOk (by kernel_rfl) rfl rfl trivial ?_
  refine ar_nil ?_
  refine ag_ret tOk Try.func49 rfl rfl (by first | trivial | exact ⟨trivial, trivial⟩ | simp) ?_
  rfl
  all_goals exact ⟨_, rfl, trivial⟩

theorem w_rPlain0 (t : TxV) (hk : t.k < 1 ∨ t.k = 3 ∨ t.k > 6) : Pur Try.prog 49 [txA t] (txA (⟨t.f, t.n, t.k, t.a, t.m0, t.m1, t.m2, t.m3, inv0, var0, 0, 0, 0, 0, []⟩)) := by
  refine spec_of_go (N := 58) Try.func49 rfl (by decide) rfl rfl ?_
  refine z2 ?_
  refine ar_new tOk rfl rfl rfl trivial ?_
  refine ar_new tOk rfl rfl rfl ?_ ?_
  · simp
  refine z3 ?_
  refine p1 ?_
  refine p2 ?_
  refine p1 ?_
  refine p2 ?_
  refine p1 ?_
  refine p2 ?_
  refine p1 ?_
  refine p2 ?_
  refine p1 ?_
  refine p2 ?_
  refine ar_pure tOk rfl rfl rfl ?_ ?_
  · simp
  refine ar_ent (ent_reg 14 (txA ⟨t.f, t.n, t.k, t.a, t.m0, t.m1, t.m2, t.m3, inv0, var0, 0, 0, 0, 0, []⟩) (by kernel_rfl)) ?_
  refine ar_new tOk rfl rfl rfl ?_ ?_
  · simp
  refine ar_store (h' := ⟨3, [(2, some (.mixed ((txC (⟨t.f, t.n, t.k, t.a, t.m0, t.m1, t.m2, t.m3, inv0, var0, 0, 0, 0, 0, []⟩)).map .r))), (2, some (.mixed ((txC (tx0)).map .r))), (1, some (.mixed ((txC (tx0)).map .r))), (0, some (.mixed ((txC (t)).map .r)))], false⟩) (c := True) tOk (by kernel_rfl) rfl rfl trivial ?_
  refine ar_nil ?_
  refine ag_ent (ent_weak (g' := [(1, .ptr 0 0), (2, .ptr 1 0), (3, .ptr 2 0)]) (h' := ⟨3, [(0, some (.mixed ((txC (t)).map .r))), (1, some (.mixed ((txC (tx0)).map .r))), (2, some (.mixed ((txC (⟨t.f, t.n, t.k, t.a, t.m0, t.m1, t.m2, t.m3, inv0, var0, 0, 0, 0, 0, []⟩)).map .r)))], false⟩) [0, 1, 2] rfl rfl rfl rfl ?_ ?_ rfl) ?_
  · exact ⟨⟨rfl, rfl⟩, ⟨rfl, rfl⟩, ⟨rfl, rfl⟩, trivial⟩
  · exact ⟨⟨rfl, rfl, rfl⟩, ⟨rfl, rfl, rfl⟩, ⟨rfl, rfl, rfl⟩, trivial⟩
  refine ag_seq ?_
  refine z2 ?_
  refine p1 ?_
  refine p2 ?_
  refine ar_nil ?_
  refine ag_block ?_
  refine z2 ?_
  iterate 2 refine p1 ?_
  refine ar_nil ?_
  refine ag_false rfl (decide_eq_false (show ¬ t.k = 1 by omega)) ?_
  refine z2 ?_
  iterate 2 refine p1 ?_
  refine ar_nil ?_
  refine ag_false rfl (decide_eq_false (show ¬ t.k = 2 by omega)) ?_
  refine ag_seq ?_
  refine z2 ?_
  iterate 2 refine p1 ?_
  refine ar_nil ?_
  refine ag_false rfl (decide_eq_false (show ¬ t.k = 4 by omega)) ?_
  refine z2 ?_
  iterate 2 refine p1 ?_
  refine ar_nil ?_
  refine ag_false rfl (decide_eq_false (show ¬ t.k = 5 by omega)) ?_
  refine ag_reg ?_
  iterate 2 refine p1 ?_
  refine ar_nil ?_
  refine ag_false rfl (decide_eq_false (show ¬ t.k = 6 by omega)) ?_
  refine ag_reg ?_
  refine ar_pure tOk rfl rfl rfl ?_ ?_
  · simp
  refine p1 ?_
  refine ar_store tOk rfl rfl rfl trivial ?_
  refine ar_nil ?_
  refine ag_ent (ent_weak (g' := [(1, .ptr 0 0), (2, .ptr 1 0), (3, .ptr 2 0)]) (h' := ⟨3, [(0, some (.mixed ((txC (t)).map .r))), (1, some (.mixed ((txC (tx0)).map .r))), (2, some (.mixed ((txC (⟨t.f, t.n, t.k, t.a, t.m0, t.m1, t.m2, t.m3, inv0, var0, 0, 0, 0, 0, []⟩)).map .r)))], false⟩) [0, 1, 2] rfl rfl rfl rfl ?_ ?_ rfl) ?_
  · exact ⟨⟨rfl, rfl⟩, ⟨rfl, rfl⟩, ⟨rfl, rfl⟩, trivial⟩
  · exact ⟨⟨rfl, rfl, rfl⟩, ⟨rfl, rfl, rfl⟩, ⟨rfl, rfl, rfl⟩, trivial⟩
  refine ag_inBlock ?_
  refine ag_seq ?_
  refine z2 ?_
  refine p1 ?_
  refine p2 ?_
  iterate 2 refine p1 ?_
  refine ar_ent (ent_reg 46 (.r (.bool false)) (by show AVal.r (.bool _) = _; exact eqB (decide_eq_false (show ¬ t.k = 5 by omega)))) ?_
  refine p1 ?_
  refine p2 ?_
  iterate 2 refine p1 ?_
  refine ar_nil ?_
  refine ag_false rfl (decide_eq_false (show ¬ t.k = 6 by omega)) ?_
  refine ag_skip ?_
  refine z2 ?_
  refine p2 ?_
  refine ar_store (h' := ⟨3, [(1, some (.mixed ((txC (⟨t.f, t.n, t.k, t.a, t.m0, t.m1, t.m2, t.m3, inv0, var0, 0, 0, 0, 0, []⟩)).map .r))), (0, some (.mixed ((txC (t)).map .r))), (1, some (.mixed ((txC (tx0)).map .r))), (2, some (.mixed ((txC (⟨t.f, t.n, t.k, t.a, t.m0, t.m1, t.m2, t.m3, inv0, var0, 0, 0, 0, 0, []⟩)).map .r)))], false⟩) (c := True) tOk (by kernel_rfl) rfl rfl trivial ?_
  refine ar_nil ?_
  refine ag_ret tOk Try.func49 rfl rfl (by first | trivial | exact ⟨trivial, trivial⟩ | simp) ?_
  rfl
  all_goals exact ⟨_, rfl, trivial⟩

theorem w_rPlain (t : TxV) : Pur Try.prog 49 [txA t] (txA (plT t)) := by
  rcases kcase t.k with h | h | h | h | h | h
  · rw [show plT t = _ from by rw [plT, if_pos (by omega)]]; exact w_rPlain1 t h
  · rw [show plT t = _ from by rw [plT, if_neg (by omega), if_pos (by omega)]]; exact w_rPlain2 t h
  · rw [show plT t = _ from by rw [plT, if_neg (by omega), if_neg (by omega), if_pos (by omega)]]; exact w_rPlain4 t h
  · rw [show plT t = _ from by rw [plT, if_neg (by omega), if_neg (by omega), if_neg (by omega), if_pos (by omega)]]; exact w_rPlain5 t h
  · rw [show plT t = _ from by rw [plT, if_neg (by omega), if_neg (by omega), if_neg (by omega), if_pos (by omega)]]; exact w_rPlain6 t h
  · rw [show plT t = _ from by rw [plT, if_neg (by omega), if_neg (by omega), if_neg (by omega), if_neg (by omega)]]; exact w_rPlain0 t h

end Go.Proofs.Ytbofioheoohlgaa

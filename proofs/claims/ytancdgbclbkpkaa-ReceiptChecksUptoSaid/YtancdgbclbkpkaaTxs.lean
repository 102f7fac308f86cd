/-
  WALKS: which transactions may be. (Printed by gen.py out of w_txs.py.)
-/
import Derived.Test.YtancdgbclbkpkaaDealB
import Derived.Test.YtancdgbclbkpkaaDeal
namespace Go.Proofs.Ytancdgbclbkpkaa
open Go
set_option maxRecDepth 20000
set_option linter.unusedVariables false
set_option linter.unusedSimpArgs false
structure TxV where
  f : Int
  n : Int
  k : Int
  a : Int
  m0 : Int
  m1 : Int
  m2 : Int
  m3 : Int
  inv : InvV
  var : VarV
  g0 : Int
  g1 : Int
  g2 : Int
  g3 : Int
  sig : List UInt8
def txC (t : TxV) : List RVal := [.int .i64 t.f, .int .i64 t.n, .int .i64 t.k, .int .i64 t.a, .int .u64 t.m0, .int .u64 t.m1, .int .u64 t.m2, .int .u64 t.m3,
  .int .i64 t.inv.u, .str t.inv.root, .int .i64 t.inv.r, .int .i64 t.inv.s, .int .i64 t.inv.c, .int .i64 t.inv.t, .str t.inv.id, .int .u64 t.var.x0, .int .u64 t.var.x1, .int .u64 t.var.x2, .int .u64 t.var.x3, .int .i64 t.var.e,
  .int .u64 t.g0, .int .u64 t.g1, .int .u64 t.g2, .int .u64 t.g3, .str t.sig]
def txA (t : TxV) : AVal := .agg ((txC t).map .r)
def tx0 : TxV := ⟨0, 0, 0, 0, 0, 0, 0, 0, inv0, var0, 0, 0, 0, 0, []⟩
structure TxV.ok (t : TxV) : Prop where
  m0 : U64 t.m0
  m1 : U64 t.m1
  m2 : U64 t.m2
  m3 : U64 t.m3
  inv : t.inv.ok
  var : t.var.ok
  g0 : U64 t.g0
  g1 : U64 t.g1
  g2 : U64 t.g2
  g3 : U64 t.g3
  sig : t.sig.length ≤ 140737488351232
def amZ (t : TxV) : Prop := t.m0 = 0 ∧ t.m1 = 0 ∧ t.m2 = 0 ∧ t.m3 = 0
instance (t : TxV) : Decidable (amZ t) := by unfold amZ; infer_instance
def rgBad (t : TxV) : Prop := t.f < 0 ∨ t.f > 7 ∨ t.n < 0 ∨ t.n > 1099511627776 ∨ t.a < 0 ∨ t.a > 1
instance (t : TxV) : Decidable (rgBad t) := by unfold rgBad; infer_instance
def rtBad (t : TxV) : Prop := (t.k = 1 ∧ (t.inv.t < 0 ∨ t.inv.t > 7)) ∨ (t.k = 2 ∧ (t.inv.r < 2 ∨ t.inv.r > 3))
instance (t : TxV) : Decidable (rtBad t) := by unfold rtBad; infer_instance
def txR (t : TxV) : Int := if amZ t then 36 else if rtBad t then 39 else 0
def txE (t : TxV) : Int :=
  if t.k < 1 ∨ t.k > 6 then 12 else if rgBad t then 4 else if t.k < 4 then txR t
  else if invE t.inv ≠ 0 then invE t.inv else if varE t.var ≠ 0 then varE t.var else if t.sig.length > 1024 then 5 else 0
theorem w_route (t : TxV) : Pur Try.prog 82 [txA t] (.r (.int .i64 (txR t))) := by
  refine spec_of_go (N := 40) Try.func82 rfl (by decide) rfl rfl ?_
  refine zB ?_
  refine ar_new tOk rfl rfl rfl trivial ?_
  refine pA ?_
  refine zA ?_
  refine ag_block ?_
  refine zB ?_
  refine pA ?_
  refine pB ?_
  refine ar_pure tOk rfl rfl rfl ?_ ?_
  · simp
  iterate 2 refine pA ?_
  refine ar_nil ?_
  refine ag_cond rfl ?_ ?_
  · intro h3
    have hz : amZ t := by unfold amZ; simpa using h3
    refine zB ?_
    refine pA ?_
    refine ar_nil ?_
    refine ag_ret tOk Try.func82 rfl rfl (by simp) ?_
    exact eqI (by rw [txR, if_pos hz])
  · intro h3
    have hz : ¬ amZ t := by unfold amZ; simpa using h3
    refine zB ?_
    refine pA ?_
    refine pB ?_
    iterate 2 refine pA ?_
    refine ar_guard (t := decide (t.k = 1)) (fun ht => ?_) (fun ht => ?_)
    · refine ar_ent (ent_reg 12 (.r (.bool true)) (by show AVal.r (.bool _) = _; exact eqB ht)) ?_
      have k1 : t.k = 1 := of_decide_eq_true ht
      iterate 2 refine pA ?_
      refine pB ?_
      iterate 2 refine pA ?_
      refine ar_guard (t := decide (t.inv.t < 0)) (fun ht => ?_) (fun ht => ?_)
      · refine ar_ent (ent_reg 17 (.r (.bool true)) (by show AVal.r (.bool _) = _; exact eqB ht)) ?_
        have q1 := of_decide_eq_true ht
        repeat (first | refine ar_skip rfl rfl rfl ?_ | refine ar_pure tOk rfl rfl rfl trivial ?_)
        refine ar_nil ?_
        refine ag_true rfl (by rfl) ?_
        refine zB ?_
        refine pA ?_
        refine ar_nil ?_
        refine ag_ret tOk Try.func82 rfl rfl (by simp) ?_
        exact eqI (by rw [txR, if_neg hz, if_pos (by unfold rtBad; omega)])
      · refine ar_ent (ent_reg 17 (.r (.bool false)) (by show AVal.r (.bool _) = _; exact eqB ht)) ?_
        have q1 := of_decide_eq_false ht
        iterate 2 refine pA ?_
        refine pB ?_
        iterate 4 refine pA ?_
        refine ar_nil ?_
        refine ag_if rfl ?_ ?_
        · intro h8
          refine zB ?_
          refine pA ?_
          refine ar_nil ?_
          refine ag_ret tOk Try.func82 rfl rfl (by simp) ?_
          exact eqI (by rw [txR, if_neg hz, if_pos (by unfold rtBad; omega)])
        · intro h8
          refine zB ?_
          refine pA ?_
          refine pB ?_
          iterate 2 refine pA ?_
          refine ar_guard (t := decide (t.k = 2)) (fun ht => ?_) (fun ht => ?_)
          · refine ar_ent (ent_reg 28 (.r (.bool true)) (by show AVal.r (.bool _) = _; exact eqB ht)) ?_
            have k2 : t.k = 2 := of_decide_eq_true ht
            iterate 2 refine pA ?_
            refine pB ?_
            iterate 2 refine pA ?_
            refine ar_guard (t := decide (t.inv.r < 2)) (fun ht => ?_) (fun ht => ?_)
            · refine ar_ent (ent_reg 33 (.r (.bool true)) (by show AVal.r (.bool _) = _; exact eqB ht)) ?_
              have q2 := of_decide_eq_true ht
              repeat (first | refine ar_skip rfl rfl rfl ?_ | refine ar_pure tOk rfl rfl rfl trivial ?_)
              refine ar_nil ?_
              refine ag_true rfl (by rfl) ?_
              refine zB ?_
              refine pA ?_
              refine ar_nil ?_
              refine ag_ret tOk Try.func82 rfl rfl (by simp) ?_
              exact eqI (by rw [txR, if_neg hz, if_pos (by unfold rtBad; omega)])
            · refine ar_ent (ent_reg 33 (.r (.bool false)) (by show AVal.r (.bool _) = _; exact eqB ht)) ?_
              have q2 := of_decide_eq_false ht
              iterate 2 refine pA ?_
              refine pB ?_
              iterate 4 refine pA ?_
              refine ar_nil ?_
              refine ag_if rfl ?_ ?_
              · intro h24
                refine zB ?_
                refine pA ?_
                refine ar_nil ?_
                refine ag_ret tOk Try.func82 rfl rfl (by simp) ?_
                exact eqI (by rw [txR, if_neg hz, if_pos (by unfold rtBad; omega)])
              · intro h24
                refine ag_skip ?_
                refine ag_inBlock ?_
                refine zB ?_
                refine pA ?_
                refine ar_nil ?_
                refine ag_ret tOk Try.func82 rfl rfl (by simp) ?_
                exact eqI (by rw [txR, if_neg hz, if_neg (by unfold rtBad; omega)])
          · refine ar_ent (ent_reg 28 (.r (.bool false)) (by show AVal.r (.bool _) = _; exact eqB ht)) ?_
            have k2 : ¬ t.k = 2 := of_decide_eq_false ht
            repeat (first | refine ar_skip rfl rfl rfl ?_ | refine ar_pure tOk rfl rfl rfl trivial ?_)
            refine ar_nil ?_
            refine ag_false rfl (by rfl) ?_
            refine ag_skip ?_
            refine ag_inBlock ?_
            refine zB ?_
            refine pA ?_
            refine ar_nil ?_
            refine ag_ret tOk Try.func82 rfl rfl (by simp) ?_
            exact eqI (by rw [txR, if_neg hz, if_neg (by unfold rtBad; omega)])
    · refine ar_ent (ent_reg 12 (.r (.bool false)) (by show AVal.r (.bool _) = _; exact eqB ht)) ?_
      have k1 : ¬ t.k = 1 := of_decide_eq_false ht
      repeat (first | refine ar_skip rfl rfl rfl ?_ | refine ar_pure tOk rfl rfl rfl trivial ?_)
      refine ar_nil ?_
      refine ag_false rfl (by rfl) ?_
      refine zB ?_
      refine pA ?_
      refine pB ?_
      iterate 2 refine pA ?_
      refine ar_guard (t := decide (t.k = 2)) (fun ht => ?_) (fun ht => ?_)
      · refine ar_ent (ent_reg 28 (.r (.bool true)) (by show AVal.r (.bool _) = _; exact eqB ht)) ?_
        have k2 : t.k = 2 := of_decide_eq_true ht
        iterate 2 refine pA ?_
        refine pB ?_
        iterate 2 refine pA ?_
        refine ar_guard (t := decide (t.inv.r < 2)) (fun ht => ?_) (fun ht => ?_)
        · refine ar_ent (ent_reg 33 (.r (.bool true)) (by show AVal.r (.bool _) = _; exact eqB ht)) ?_
          have q2 := of_decide_eq_true ht
          repeat (first | refine ar_skip rfl rfl rfl ?_ | refine ar_pure tOk rfl rfl rfl trivial ?_)
          refine ar_nil ?_
          refine ag_true rfl (by rfl) ?_
          refine zB ?_
          refine pA ?_
          refine ar_nil ?_
          refine ag_ret tOk Try.func82 rfl rfl (by simp) ?_
          exact eqI (by rw [txR, if_neg hz, if_pos (by unfold rtBad; omega)])
        · refine ar_ent (ent_reg 33 (.r (.bool false)) (by show AVal.r (.bool _) = _; exact eqB ht)) ?_
          have q2 := of_decide_eq_false ht
          iterate 2 refine pA ?_
          refine pB ?_
          iterate 4 refine pA ?_
          refine ar_nil ?_
          refine ag_if rfl ?_ ?_
          · intro h24
            refine zB ?_
            refine pA ?_
            refine ar_nil ?_
            refine ag_ret tOk Try.func82 rfl rfl (by simp) ?_
            exact eqI (by rw [txR, if_neg hz, if_pos (by unfold rtBad; omega)])
          · intro h24
            refine ag_skip ?_
            refine ag_inBlock ?_
            refine zB ?_
            refine pA ?_
            refine ar_nil ?_
            refine ag_ret tOk Try.func82 rfl rfl (by simp) ?_
            exact eqI (by rw [txR, if_neg hz, if_neg (by unfold rtBad; omega)])
      · refine ar_ent (ent_reg 28 (.r (.bool false)) (by show AVal.r (.bool _) = _; exact eqB ht)) ?_
        have k2 : ¬ t.k = 2 := of_decide_eq_false ht
        repeat (first | refine ar_skip rfl rfl rfl ?_ | refine ar_pure tOk rfl rfl rfl trivial ?_)
        refine ar_nil ?_
        refine ag_false rfl (by rfl) ?_
        refine ag_skip ?_
        refine ag_inBlock ?_
        refine zB ?_
        refine pA ?_
        refine ar_nil ?_
        refine ag_ret tOk Try.func82 rfl rfl (by simp) ?_
        exact eqI (by rw [txR, if_neg hz, if_neg (by unfold rtBad; omega)])
theorem w_xCheck (t : TxV) : Pur Try.prog 67 [txA t] (.r (.int .i64 (txE t))) := by
  refine spec_of_go (N := 65) Try.func67 rfl (by decide) rfl rfl ?_
  refine zB ?_
  refine ar_new tOk rfl rfl rfl trivial ?_
  refine pA ?_
  refine zA ?_
  refine ag_block ?_
  refine zB ?_
  refine pA ?_
  refine pB ?_
  iterate 2 refine pA ?_
  refine ar_guard (t := decide (t.k < 1)) (fun ht => ?_) (fun ht => ?_)
  · refine ar_ent (ent_reg 9 (.r (.bool true)) (by show AVal.r (.bool _) = _; exact eqB ht)) ?_
    have hk := of_decide_eq_true ht
    repeat (first | refine ar_skip rfl rfl rfl ?_ | refine ar_pure tOk rfl rfl rfl trivial ?_)
    refine ar_nil ?_
    refine ag_true rfl (by rfl) ?_
    refine zB ?_
    refine pA ?_
    refine ar_nil ?_
    refine ag_ret tOk Try.func67 rfl rfl (by simp) ?_
    exact eqI (by rw [txE, if_pos (by omega)])
  · refine ar_ent (ent_reg 9 (.r (.bool false)) (by show AVal.r (.bool _) = _; exact eqB ht)) ?_
    have hk0 := of_decide_eq_false ht
    refine pA ?_
    refine pB ?_
    iterate 3 refine pA ?_
    refine ar_nil ?_
    refine ag_if rfl ?_ ?_
    · intro h5
      refine zB ?_
      refine pA ?_
      refine ar_nil ?_
      refine ag_ret tOk Try.func67 rfl rfl (by simp) ?_
      exact eqI (by rw [txE, if_pos (by omega)])
    · intro h5
      refine zB ?_
      refine pA ?_
      refine pB ?_
      iterate 2 refine pA ?_
      refine ar_guard (t := decide (t.f < 0)) (fun ht => ?_) (fun ht => ?_)
      · refine ar_ent (ent_reg 18 (.r (.bool true)) (by show AVal.r (.bool _) = _; exact eqB ht)) ?_
        have hr := of_decide_eq_true ht
        repeat (first | refine ar_skip rfl rfl rfl ?_ | refine ar_pure tOk rfl rfl rfl trivial ?_)
        refine ar_nil ?_
        refine ag_true rfl (by rfl) ?_
        refine zB ?_
        refine pA ?_
        refine ar_nil ?_
        refine ag_ret tOk Try.func67 rfl rfl (by simp) ?_
        exact eqI (by rw [txE, if_neg (by omega), if_pos (by unfold rgBad; omega)])
      · refine ar_ent (ent_reg 18 (.r (.bool false)) (by show AVal.r (.bool _) = _; exact eqB ht)) ?_
        have hr0 := of_decide_eq_false ht
        refine pA ?_
        refine pB ?_
        iterate 3 refine pA ?_
        refine ar_guard (t := decide (t.f ≥ 8)) (fun ht => ?_) (fun ht => ?_)
        · refine ar_ent (ent_reg 23 (.r (.bool true)) (by show AVal.r (.bool _) = _; exact eqB ht)) ?_
          have hr := of_decide_eq_true ht
          repeat (first | refine ar_skip rfl rfl rfl ?_ | refine ar_pure tOk rfl rfl rfl trivial ?_)
          refine ar_nil ?_
          refine ag_true rfl (by rfl) ?_
          refine zB ?_
          refine pA ?_
          refine ar_nil ?_
          refine ag_ret tOk Try.func67 rfl rfl (by simp) ?_
          exact eqI (by rw [txE, if_neg (by omega), if_pos (by unfold rgBad; omega)])
        · refine ar_ent (ent_reg 23 (.r (.bool false)) (by show AVal.r (.bool _) = _; exact eqB ht)) ?_
          have hr1 := of_decide_eq_false ht
          refine pA ?_
          refine pB ?_
          iterate 3 refine pA ?_
          refine ar_guard (t := decide (t.n < 0)) (fun ht => ?_) (fun ht => ?_)
          · refine ar_ent (ent_reg 28 (.r (.bool true)) (by show AVal.r (.bool _) = _; exact eqB ht)) ?_
            have hr := of_decide_eq_true ht
            repeat (first | refine ar_skip rfl rfl rfl ?_ | refine ar_pure tOk rfl rfl rfl trivial ?_)
            refine ar_nil ?_
            refine ag_true rfl (by rfl) ?_
            refine zB ?_
            refine pA ?_
            refine ar_nil ?_
            refine ag_ret tOk Try.func67 rfl rfl (by simp) ?_
            exact eqI (by rw [txE, if_neg (by omega), if_pos (by unfold rgBad; omega)])
          · refine ar_ent (ent_reg 28 (.r (.bool false)) (by show AVal.r (.bool _) = _; exact eqB ht)) ?_
            have hr2 := of_decide_eq_false ht
            refine pA ?_
            refine pB ?_
            iterate 3 refine pA ?_
            refine ar_guard (t := decide (t.n > 1099511627776)) (fun ht => ?_) (fun ht => ?_)
            · refine ar_ent (ent_reg 33 (.r (.bool true)) (by show AVal.r (.bool _) = _; exact eqB ht)) ?_
              have hr := of_decide_eq_true ht
              repeat (first | refine ar_skip rfl rfl rfl ?_ | refine ar_pure tOk rfl rfl rfl trivial ?_)
              refine ar_nil ?_
              refine ag_true rfl (by rfl) ?_
              refine zB ?_
              refine pA ?_
              refine ar_nil ?_
              refine ag_ret tOk Try.func67 rfl rfl (by simp) ?_
              exact eqI (by rw [txE, if_neg (by omega), if_pos (by unfold rgBad; omega)])
            · refine ar_ent (ent_reg 33 (.r (.bool false)) (by show AVal.r (.bool _) = _; exact eqB ht)) ?_
              have hr3 := of_decide_eq_false ht
              refine pA ?_
              refine pB ?_
              iterate 3 refine pA ?_
              refine ar_guard (t := decide (t.a < 0)) (fun ht => ?_) (fun ht => ?_)
              · refine ar_ent (ent_reg 38 (.r (.bool true)) (by show AVal.r (.bool _) = _; exact eqB ht)) ?_
                have hr := of_decide_eq_true ht
                repeat (first | refine ar_skip rfl rfl rfl ?_ | refine ar_pure tOk rfl rfl rfl trivial ?_)
                refine ar_nil ?_
                refine ag_true rfl (by rfl) ?_
                refine zB ?_
                refine pA ?_
                refine ar_nil ?_
                refine ag_ret tOk Try.func67 rfl rfl (by simp) ?_
                exact eqI (by rw [txE, if_neg (by omega), if_pos (by unfold rgBad; omega)])
              · refine ar_ent (ent_reg 38 (.r (.bool false)) (by show AVal.r (.bool _) = _; exact eqB ht)) ?_
                have hr4 := of_decide_eq_false ht
                refine pA ?_
                refine pB ?_
                iterate 3 refine pA ?_
                refine ar_nil ?_
                refine ag_if rfl ?_ ?_
                · intro h14
                  refine zB ?_
                  refine pA ?_
                  refine ar_nil ?_
                  refine ag_ret tOk Try.func67 rfl rfl (by simp) ?_
                  exact eqI (by rw [txE, if_neg (by omega), if_pos (by unfold rgBad; omega)])
                · intro h14
                  refine zB ?_
                  refine pA ?_
                  refine pB ?_
                  iterate 2 refine pA ?_
                  refine ar_nil ?_
                  refine ag_if rfl ?_ ?_
                  · intro h43
                    refine zB ?_
                    refine pB ?_
                    refine ar_pur (w_route t) rfl rfl rfl rfl rfl rfl rfl ?_
                    refine pA ?_
                    refine ar_nil ?_
                    refine ag_ret tOk Try.func67 rfl rfl (by simp) ?_
                    exact eqI (by rw [txE, if_neg (by omega), if_neg (by unfold rgBad; omega), if_pos h43])
                  · intro h43
                    refine ag_skip ?_
                    refine ag_inBlock ?_
                    refine ag_seq ?_
                    refine zB ?_
                    refine pA ?_
                    refine pB ?_
                    refine ar_pur (w_Check t.inv) rfl rfl rfl rfl rfl rfl rfl ?_
                    refine pA ?_
                    refine zC ?_
                    iterate 2 refine pA ?_
                    refine ar_nil ?_
                    refine ag_if rfl ?_ ?_
                    · intro h53
                      refine zB ?_
                      iterate 2 refine pA ?_
                      refine ar_nil ?_
                      refine ag_ret tOk Try.func67 rfl rfl (by simp) ?_
                      exact eqI (by rw [txE, if_neg (by omega), if_neg (by unfold rgBad; omega), if_neg h43, if_pos h53])
                    · intro h53
                      refine ag_skip ?_
                      refine ag_seq ?_
                      refine zB ?_
                      refine pA ?_
                      refine pB ?_
                      refine ar_pur (w_Sound t.var) rfl rfl rfl rfl rfl rfl rfl ?_
                      refine pA ?_
                      refine zC ?_
                      iterate 2 refine pA ?_
                      refine ar_nil ?_
                      refine ag_if rfl ?_ ?_
                      · intro h59
                        refine zB ?_
                        iterate 2 refine pA ?_
                        refine ar_nil ?_
                        refine ag_ret tOk Try.func67 rfl rfl (by simp) ?_
                        exact eqI (by rw [txE, if_neg (by omega), if_neg (by unfold rgBad; omega), if_neg h43, if_neg h53, if_pos h59])
                      · intro h59
                        refine ag_skip ?_
                        refine ag_seq ?_
                        refine zB ?_
                        refine pA ?_
                        refine pB ?_
                        iterate 2 refine pA ?_
                        refine ar_nil ?_
                        refine ag_if rfl ?_ ?_
                        · intro h64
                          refine zB ?_
                          refine pA ?_
                          refine ar_nil ?_
                          refine ag_ret tOk Try.func67 rfl rfl (by simp) ?_
                          exact eqI (by rw [txE, if_neg (by omega), if_neg (by unfold rgBad; omega), if_neg h43, if_neg h53, if_neg h59, if_pos (by omega)])
                        · intro h64
                          refine ag_skip ?_
                          refine zB ?_
                          refine pA ?_
                          refine ar_nil ?_
                          refine ag_ret tOk Try.func67 rfl rfl (by simp) ?_
                          exact eqI (by rw [txE, if_neg (by omega), if_neg (by unfold rgBad; omega), if_neg h43, if_neg h53, if_neg h59, if_neg (by omega)])
theorem invE_nx {v : InvV} (h : invE v ≠ 0) : invBad v := by
  by_cases p : invBad v
  · exact p
  · exact absurd (by rw [invE, if_neg p]) h
theorem varE_nx {v : VarV} (h : varE v ≠ 0) : varBad v := by
  by_cases p : varBad v
  · exact p
  · exact absurd (by rw [varE, if_neg p]) h
theorem w_rTx (t : TxV) : Pur Try.prog 37 [txA t] (.r (.int .i64 (txE t))) := by
  refine spec_of_go (N := 103) Try.func37 rfl (by decide) rfl rfl ?_
  refine zB ?_
  refine ar_new tOk rfl rfl rfl trivial ?_
  refine pA ?_
  refine zA ?_
  refine ag_block ?_
  refine zB ?_
  refine pA ?_
  refine pB ?_
  iterate 2 refine pA ?_
  refine ar_guard (t := decide (t.k < 1)) (fun ht => ?_) (fun ht => ?_)
  · refine ar_ent (ent_reg 7 (.r (.bool true)) (by show AVal.r (.bool _) = _; exact eqB ht)) ?_
    have hk := of_decide_eq_true ht
    repeat (first | refine ar_skip rfl rfl rfl ?_ | refine ar_pure tOk rfl rfl rfl trivial ?_)
    refine ar_nil ?_
    refine ag_true rfl (by rfl) ?_
    refine zB ?_
    refine pA ?_
    refine ar_nil ?_
    refine ag_ret tOk Try.func37 rfl rfl (by simp) ?_
    exact eqI (by rw [txE, if_pos (by omega)])
  · refine ar_ent (ent_reg 7 (.r (.bool false)) (by show AVal.r (.bool _) = _; exact eqB ht)) ?_
    have hk0 := of_decide_eq_false ht
    refine pA ?_
    refine pB ?_
    iterate 3 refine pA ?_
    refine ar_nil ?_
    refine ag_if rfl ?_ ?_
    · intro h3
      refine zB ?_
      refine pA ?_
      refine ar_nil ?_
      refine ag_ret tOk Try.func37 rfl rfl (by simp) ?_
      exact eqI (by rw [txE, if_pos (by omega)])
    · intro h3
      refine zB ?_
      refine pA ?_
      refine pB ?_
      iterate 2 refine pA ?_
      refine ar_guard (t := decide (t.f < 0)) (fun ht => ?_) (fun ht => ?_)
      · refine ar_ent (ent_reg 16 (.r (.bool true)) (by show AVal.r (.bool _) = _; exact eqB ht)) ?_
        have hr := of_decide_eq_true ht
        repeat (first | refine ar_skip rfl rfl rfl ?_ | refine ar_pure tOk rfl rfl rfl trivial ?_)
        refine ar_nil ?_
        refine ag_true rfl (by rfl) ?_
        refine zB ?_
        refine pA ?_
        refine ar_nil ?_
        refine ag_ret tOk Try.func37 rfl rfl (by simp) ?_
        exact eqI (by rw [txE, if_neg (by omega), if_pos (by unfold rgBad; omega)])
      · refine ar_ent (ent_reg 16 (.r (.bool false)) (by show AVal.r (.bool _) = _; exact eqB ht)) ?_
        have hr0 := of_decide_eq_false ht
        refine pA ?_
        refine pB ?_
        iterate 3 refine pA ?_
        refine ar_guard (t := decide (t.f > 7)) (fun ht => ?_) (fun ht => ?_)
        · refine ar_ent (ent_reg 21 (.r (.bool true)) (by show AVal.r (.bool _) = _; exact eqB ht)) ?_
          have hr := of_decide_eq_true ht
          repeat (first | refine ar_skip rfl rfl rfl ?_ | refine ar_pure tOk rfl rfl rfl trivial ?_)
          refine ar_nil ?_
          refine ag_true rfl (by rfl) ?_
          refine zB ?_
          refine pA ?_
          refine ar_nil ?_
          refine ag_ret tOk Try.func37 rfl rfl (by simp) ?_
          exact eqI (by rw [txE, if_neg (by omega), if_pos (by unfold rgBad; omega)])
        · refine ar_ent (ent_reg 21 (.r (.bool false)) (by show AVal.r (.bool _) = _; exact eqB ht)) ?_
          have hr1 := of_decide_eq_false ht
          refine pA ?_
          refine pB ?_
          iterate 3 refine pA ?_
          refine ar_guard (t := decide (t.n < 0)) (fun ht => ?_) (fun ht => ?_)
          · refine ar_ent (ent_reg 26 (.r (.bool true)) (by show AVal.r (.bool _) = _; exact eqB ht)) ?_
            have hr := of_decide_eq_true ht
            repeat (first | refine ar_skip rfl rfl rfl ?_ | refine ar_pure tOk rfl rfl rfl trivial ?_)
            refine ar_nil ?_
            refine ag_true rfl (by rfl) ?_
            refine zB ?_
            refine pA ?_
            refine ar_nil ?_
            refine ag_ret tOk Try.func37 rfl rfl (by simp) ?_
            exact eqI (by rw [txE, if_neg (by omega), if_pos (by unfold rgBad; omega)])
          · refine ar_ent (ent_reg 26 (.r (.bool false)) (by show AVal.r (.bool _) = _; exact eqB ht)) ?_
            have hr2 := of_decide_eq_false ht
            refine pA ?_
            refine pB ?_
            iterate 3 refine pA ?_
            refine ar_guard (t := decide (t.n > 1099511627776)) (fun ht => ?_) (fun ht => ?_)
            · refine ar_ent (ent_reg 31 (.r (.bool true)) (by show AVal.r (.bool _) = _; exact eqB ht)) ?_
              have hr := of_decide_eq_true ht
              repeat (first | refine ar_skip rfl rfl rfl ?_ | refine ar_pure tOk rfl rfl rfl trivial ?_)
              refine ar_nil ?_
              refine ag_true rfl (by rfl) ?_
              refine zB ?_
              refine pA ?_
              refine ar_nil ?_
              refine ag_ret tOk Try.func37 rfl rfl (by simp) ?_
              exact eqI (by rw [txE, if_neg (by omega), if_pos (by unfold rgBad; omega)])
            · refine ar_ent (ent_reg 31 (.r (.bool false)) (by show AVal.r (.bool _) = _; exact eqB ht)) ?_
              have hr3 := of_decide_eq_false ht
              refine pA ?_
              refine pB ?_
              iterate 3 refine pA ?_
              refine ar_guard (t := decide (t.a < 0)) (fun ht => ?_) (fun ht => ?_)
              · refine ar_ent (ent_reg 36 (.r (.bool true)) (by show AVal.r (.bool _) = _; exact eqB ht)) ?_
                have hr := of_decide_eq_true ht
                repeat (first | refine ar_skip rfl rfl rfl ?_ | refine ar_pure tOk rfl rfl rfl trivial ?_)
                refine ar_nil ?_
                refine ag_true rfl (by rfl) ?_
                refine zB ?_
                refine pA ?_
                refine ar_nil ?_
                refine ag_ret tOk Try.func37 rfl rfl (by simp) ?_
                exact eqI (by rw [txE, if_neg (by omega), if_pos (by unfold rgBad; omega)])
              · refine ar_ent (ent_reg 36 (.r (.bool false)) (by show AVal.r (.bool _) = _; exact eqB ht)) ?_
                have hr4 := of_decide_eq_false ht
                refine pA ?_
                refine pB ?_
                iterate 3 refine pA ?_
                refine ar_nil ?_
                refine ag_if rfl ?_ ?_
                · intro h12
                  refine zB ?_
                  refine pA ?_
                  refine ar_nil ?_
                  refine ag_ret tOk Try.func37 rfl rfl (by simp) ?_
                  exact eqI (by rw [txE, if_neg (by omega), if_pos (by unfold rgBad; omega)])
                · intro h12
                  refine zB ?_
                  refine pA ?_
                  refine pB ?_
                  iterate 2 refine pA ?_
                  refine ar_guard (t := decide (t.k < 4)) (fun ht => ?_) (fun ht => ?_)
                  · refine ar_ent (ent_reg 45 (.r (.bool true)) (by show AVal.r (.bool _) = _; exact eqB ht)) ?_
                    have k4 : t.k < 4 := of_decide_eq_true ht
                    refine pA ?_
                    refine pB ?_
                    refine ar_pure tOk rfl rfl rfl ?_ ?_
                    · simp
                    iterate 3 refine pA ?_
                    refine ar_nil ?_
                    refine ag_cond rfl ?_ ?_
                    · intro h41
                      have hz : amZ t := by unfold amZ; simpa using h41
                      refine zB ?_
                      refine pA ?_
                      refine ar_nil ?_
                      refine ag_ret tOk Try.func37 rfl rfl (by simp) ?_
                      exact eqI (by rw [txE, if_neg (by omega), if_neg (by unfold rgBad; omega), if_pos k4, txR, if_pos hz])
                    · intro h41
                      have hz : ¬ amZ t := by unfold amZ; simpa using h41
                      refine zB ?_
                      refine pA ?_
                      refine pB ?_
                      iterate 2 refine pA ?_
                      refine ar_guard (t := decide (t.k = 1)) (fun ht => ?_) (fun ht => ?_)
                      · refine ar_ent (ent_reg 55 (.r (.bool true)) (by show AVal.r (.bool _) = _; exact eqB ht)) ?_
                        have k1 : t.k = 1 := of_decide_eq_true ht
                        iterate 2 refine pA ?_
                        refine pB ?_
                        iterate 2 refine pA ?_
                        refine ar_guard (t := decide (t.inv.t < 0)) (fun ht => ?_) (fun ht => ?_)
                        · refine ar_ent (ent_reg 60 (.r (.bool true)) (by show AVal.r (.bool _) = _; exact eqB ht)) ?_
                          have q1 := of_decide_eq_true ht
                          repeat (first | refine ar_skip rfl rfl rfl ?_ | refine ar_pure tOk rfl rfl rfl trivial ?_)
                          refine ar_nil ?_
                          refine ag_true rfl (by rfl) ?_
                          refine zB ?_
                          refine pA ?_
                          refine ar_nil ?_
                          refine ag_ret tOk Try.func37 rfl rfl (by simp) ?_
                          exact eqI (by rw [txE, if_neg (by omega), if_neg (by unfold rgBad; omega), if_pos k4, txR, if_neg hz, if_pos (by unfold rtBad; omega)])
                        · refine ar_ent (ent_reg 60 (.r (.bool false)) (by show AVal.r (.bool _) = _; exact eqB ht)) ?_
                          have q1 := of_decide_eq_false ht
                          iterate 2 refine pA ?_
                          refine pB ?_
                          iterate 4 refine pA ?_
                          refine ar_guard (t := decide (t.inv.t > 7)) (fun ht => ?_) (fun ht => ?_)
                          · refine ar_ent (ent_reg 67 (.r (.bool true)) (by show AVal.r (.bool _) = _; exact eqB ht)) ?_
                            have q1b := of_decide_eq_true ht
                            repeat (first | refine ar_skip rfl rfl rfl ?_ | refine ar_pure tOk rfl rfl rfl trivial ?_)
                            refine ar_nil ?_
                            refine ag_true rfl (by rfl) ?_
                            refine zB ?_
                            refine pA ?_
                            refine ar_nil ?_
                            refine ag_ret tOk Try.func37 rfl rfl (by simp) ?_
                            exact eqI (by rw [txE, if_neg (by omega), if_neg (by unfold rgBad; omega), if_pos k4, txR, if_neg hz, if_pos (by unfold rtBad; omega)])
                          · refine ar_ent (ent_reg 67 (.r (.bool false)) (by show AVal.r (.bool _) = _; exact eqB ht)) ?_
                            have q1b := of_decide_eq_false ht
                            refine pA ?_
                            refine pB ?_
                            iterate 2 refine pA ?_
                            refine ar_ent (ent_reg 71 (.r (.bool false)) (by show AVal.r (.bool _) = _; exact eqB (decide_eq_false (by omega)))) ?_
                            iterate 10 refine ar_skip rfl rfl rfl ?_
                            iterate 3 refine pA ?_
                            refine ar_nil ?_
                            refine ag_false rfl (by rfl) ?_
                            refine zB ?_
                            refine pA ?_
                            refine pB ?_
                            iterate 2 refine pA ?_
                            refine ar_nil ?_
                            refine ag_true rfl (by simp; omega) ?_
                            refine zB ?_
                            refine pA ?_
                            refine ar_nil ?_
                            refine ag_ret tOk Try.func37 rfl rfl (by simp) ?_
                            exact eqI (by rw [txE, if_neg (by omega), if_neg (by unfold rgBad; omega), if_pos k4, txR, if_neg hz, if_neg (by unfold rtBad; omega)])
                      · refine ar_ent (ent_reg 55 (.r (.bool false)) (by show AVal.r (.bool _) = _; exact eqB ht)) ?_
                        have k1 : ¬ t.k = 1 := of_decide_eq_false ht
                        iterate 10 refine ar_skip rfl rfl rfl ?_
                        iterate 2 refine pA ?_
                        refine ar_ent (ent_reg 67 (.r (.bool false)) (rfl)) ?_
                        refine pA ?_
                        refine pB ?_
                        iterate 2 refine pA ?_
                        refine ar_guard (t := decide (t.k = 2)) (fun ht => ?_) (fun ht => ?_)
                        · refine ar_ent (ent_reg 71 (.r (.bool true)) (by show AVal.r (.bool _) = _; exact eqB ht)) ?_
                          have k2 : t.k = 2 := of_decide_eq_true ht
                          iterate 2 refine pA ?_
                          refine pB ?_
                          iterate 2 refine pA ?_
                          refine ar_guard (t := decide (t.inv.r < 2)) (fun ht => ?_) (fun ht => ?_)
                          · refine ar_ent (ent_reg 76 (.r (.bool true)) (by show AVal.r (.bool _) = _; exact eqB ht)) ?_
                            have q2 := of_decide_eq_true ht
                            repeat (first | refine ar_skip rfl rfl rfl ?_ | refine ar_pure tOk rfl rfl rfl trivial ?_)
                            refine ar_nil ?_
                            refine ag_true rfl (by rfl) ?_
                            refine zB ?_
                            refine pA ?_
                            refine ar_nil ?_
                            refine ag_ret tOk Try.func37 rfl rfl (by simp) ?_
                            exact eqI (by rw [txE, if_neg (by omega), if_neg (by unfold rgBad; omega), if_pos k4, txR, if_neg hz, if_pos (by unfold rtBad; omega)])
                          · refine ar_ent (ent_reg 76 (.r (.bool false)) (by show AVal.r (.bool _) = _; exact eqB ht)) ?_
                            have q2 := of_decide_eq_false ht
                            iterate 2 refine pA ?_
                            refine pB ?_
                            iterate 5 refine pA ?_
                            refine ar_nil ?_
                            refine ag_if rfl ?_ ?_
                            · intro h51
                              refine zB ?_
                              refine pA ?_
                              refine ar_nil ?_
                              refine ag_ret tOk Try.func37 rfl rfl (by simp) ?_
                              exact eqI (by rw [txE, if_neg (by omega), if_neg (by unfold rgBad; omega), if_pos k4, txR, if_neg hz, if_pos (by unfold rtBad; omega)])
                            · intro h51
                              refine zB ?_
                              refine pA ?_
                              refine pB ?_
                              iterate 2 refine pA ?_
                              refine ar_nil ?_
                              refine ag_true rfl (by simp; omega) ?_
                              refine zB ?_
                              refine pA ?_
                              refine ar_nil ?_
                              refine ag_ret tOk Try.func37 rfl rfl (by simp) ?_
                              exact eqI (by rw [txE, if_neg (by omega), if_neg (by unfold rgBad; omega), if_pos k4, txR, if_neg hz, if_neg (by unfold rtBad; omega)])
                        · refine ar_ent (ent_reg 71 (.r (.bool false)) (by show AVal.r (.bool _) = _; exact eqB ht)) ?_
                          have k2 : ¬ t.k = 2 := of_decide_eq_false ht
                          repeat (first | refine ar_skip rfl rfl rfl ?_ | refine ar_pure tOk rfl rfl rfl trivial ?_)
                          refine ar_nil ?_
                          refine ag_false rfl (by rfl) ?_
                          refine zB ?_
                          refine pA ?_
                          refine pB ?_
                          iterate 2 refine pA ?_
                          refine ar_nil ?_
                          refine ag_true rfl (by simp; omega) ?_
                          refine zB ?_
                          refine pA ?_
                          refine ar_nil ?_
                          refine ag_ret tOk Try.func37 rfl rfl (by simp) ?_
                          exact eqI (by rw [txE, if_neg (by omega), if_neg (by unfold rgBad; omega), if_pos k4, txR, if_neg hz, if_neg (by unfold rtBad; omega)])
                  · refine ar_ent (ent_reg 45 (.r (.bool false)) (by show AVal.r (.bool _) = _; exact eqB ht)) ?_
                    have k4 : ¬ t.k < 4 := of_decide_eq_false ht
                    repeat (first | refine ar_skip rfl rfl rfl ?_ | refine ar_pure tOk rfl rfl rfl trivial ?_)
                    refine ar_nil ?_
                    refine ag_false rfl (by rfl) ?_
                    refine zB ?_
                    refine pA ?_
                    refine pB ?_
                    iterate 2 refine pA ?_
                    refine ar_guard (t := decide (t.k = 1)) (fun ht => ?_) (fun ht => ?_)
                    · refine ar_ent (ent_reg 55 (.r (.bool true)) (by show AVal.r (.bool _) = _; exact eqB ht)) ?_
                      have k1 : t.k = 1 := of_decide_eq_true ht
                      iterate 2 refine pA ?_
                      refine pB ?_
                      iterate 2 refine pA ?_
                      refine ar_guard (t := decide (t.inv.t < 0)) (fun ht => ?_) (fun ht => ?_)
                      · refine ar_ent (ent_reg 60 (.r (.bool true)) (by show AVal.r (.bool _) = _; exact eqB ht)) ?_
                        have q1 := of_decide_eq_true ht
                        repeat (first | refine ar_skip rfl rfl rfl ?_ | refine ar_pure tOk rfl rfl rfl trivial ?_)
                        refine ar_nil ?_
                        refine ag_true rfl (by rfl) ?_
                        refine zB ?_
                        refine pA ?_
                        refine ar_nil ?_
                        exfalso; omega
                      · refine ar_ent (ent_reg 60 (.r (.bool false)) (by show AVal.r (.bool _) = _; exact eqB ht)) ?_
                        have q1 := of_decide_eq_false ht
                        iterate 2 refine pA ?_
                        refine pB ?_
                        iterate 4 refine pA ?_
                        refine ar_guard (t := decide (t.inv.t > 7)) (fun ht => ?_) (fun ht => ?_)
                        · refine ar_ent (ent_reg 67 (.r (.bool true)) (by show AVal.r (.bool _) = _; exact eqB ht)) ?_
                          have q1b := of_decide_eq_true ht
                          repeat (first | refine ar_skip rfl rfl rfl ?_ | refine ar_pure tOk rfl rfl rfl trivial ?_)
                          refine ar_nil ?_
                          refine ag_true rfl (by rfl) ?_
                          refine zB ?_
                          refine pA ?_
                          refine ar_nil ?_
                          exfalso; omega
                        · refine ar_ent (ent_reg 67 (.r (.bool false)) (by show AVal.r (.bool _) = _; exact eqB ht)) ?_
                          have q1b := of_decide_eq_false ht
                          refine pA ?_
                          refine pB ?_
                          iterate 2 refine pA ?_
                          refine ar_ent (ent_reg 71 (.r (.bool false)) (by show AVal.r (.bool _) = _; exact eqB (decide_eq_false (by omega)))) ?_
                          iterate 10 refine ar_skip rfl rfl rfl ?_
                          iterate 3 refine pA ?_
                          refine ar_nil ?_
                          refine ag_false rfl (by rfl) ?_
                          refine zB ?_
                          refine pA ?_
                          refine pB ?_
                          iterate 2 refine pA ?_
                          refine ar_nil ?_
                          refine ag_false rfl (by simp; omega) ?_
                          refine zB ?_
                          refine pA ?_
                          refine pB ?_
                          refine ar_pur (w_rInv t.inv) rfl rfl rfl rfl rfl rfl rfl ?_
                          iterate 2 refine pA ?_
                          refine ar_nil ?_
                          refine ag_if rfl ?_ ?_
                          · intro h88
                            refine zB ?_
                            refine pA ?_
                            refine ar_nil ?_
                            refine ag_ret tOk Try.func37 rfl rfl (by simp) ?_
                            exact eqI (by rw [txE, if_neg (by omega), if_neg (by unfold rgBad; omega), if_neg k4, if_pos h88]; have := invE_nx h88; rw [invE, if_pos this])
                          · intro h88
                            refine zB ?_
                            refine pA ?_
                            refine pB ?_
                            refine ar_pur (w_rVar t.var) rfl rfl rfl rfl rfl rfl rfl ?_
                            iterate 2 refine pA ?_
                            refine ar_nil ?_
                            refine ag_if rfl ?_ ?_
                            · intro h93
                              refine zB ?_
                              refine pA ?_
                              refine ar_nil ?_
                              refine ag_ret tOk Try.func37 rfl rfl (by simp) ?_
                              exact eqI (by rw [txE, if_neg (by omega), if_neg (by unfold rgBad; omega), if_neg k4, if_neg h88, if_pos h93]; have := varE_nx h93; rw [varE, if_pos this])
                            · intro h93
                              refine zB ?_
                              refine pA ?_
                              refine pB ?_
                              iterate 3 refine pA ?_
                              refine ar_nil ?_
                              refine ag_if rfl ?_ ?_
                              · intro h98
                                refine zB ?_
                                refine pA ?_
                                refine ar_nil ?_
                                refine ag_ret tOk Try.func37 rfl rfl (by simp) ?_
                                exact eqI (by rw [txE, if_neg (by omega), if_neg (by unfold rgBad; omega), if_neg k4, if_neg h88, if_neg h93, if_pos (by omega)])
                              · intro h98
                                refine ag_skip ?_
                                refine ag_inBlock ?_
                                refine zB ?_
                                refine pA ?_
                                refine ar_nil ?_
                                refine ag_ret tOk Try.func37 rfl rfl (by simp) ?_
                                exact eqI (by rw [txE, if_neg (by omega), if_neg (by unfold rgBad; omega), if_neg k4, if_neg h88, if_neg h93, if_neg (by omega)])
                    · refine ar_ent (ent_reg 55 (.r (.bool false)) (by show AVal.r (.bool _) = _; exact eqB ht)) ?_
                      have k1 : ¬ t.k = 1 := of_decide_eq_false ht
                      iterate 10 refine ar_skip rfl rfl rfl ?_
                      iterate 2 refine pA ?_
                      refine ar_ent (ent_reg 67 (.r (.bool false)) (rfl)) ?_
                      refine pA ?_
                      refine pB ?_
                      iterate 2 refine pA ?_
                      refine ar_guard (t := decide (t.k = 2)) (fun ht => ?_) (fun ht => ?_)
                      · refine ar_ent (ent_reg 71 (.r (.bool true)) (by show AVal.r (.bool _) = _; exact eqB ht)) ?_
                        have k2 : t.k = 2 := of_decide_eq_true ht
                        iterate 2 refine pA ?_
                        refine pB ?_
                        iterate 2 refine pA ?_
                        refine ar_guard (t := decide (t.inv.r < 2)) (fun ht => ?_) (fun ht => ?_)
                        · refine ar_ent (ent_reg 76 (.r (.bool true)) (by show AVal.r (.bool _) = _; exact eqB ht)) ?_
                          have q2 := of_decide_eq_true ht
                          repeat (first | refine ar_skip rfl rfl rfl ?_ | refine ar_pure tOk rfl rfl rfl trivial ?_)
                          refine ar_nil ?_
                          refine ag_true rfl (by rfl) ?_
                          refine zB ?_
                          refine pA ?_
                          refine ar_nil ?_
                          exfalso; omega
                        · refine ar_ent (ent_reg 76 (.r (.bool false)) (by show AVal.r (.bool _) = _; exact eqB ht)) ?_
                          have q2 := of_decide_eq_false ht
                          iterate 2 refine pA ?_
                          refine pB ?_
                          iterate 5 refine pA ?_
                          refine ar_nil ?_
                          refine ag_if rfl ?_ ?_
                          · intro h51
                            refine zB ?_
                            refine pA ?_
                            refine ar_nil ?_
                            exfalso; omega
                          · intro h51
                            refine zB ?_
                            refine pA ?_
                            refine pB ?_
                            iterate 2 refine pA ?_
                            refine ar_nil ?_
                            refine ag_false rfl (by simp; omega) ?_
                            refine zB ?_
                            refine pA ?_
                            refine pB ?_
                            refine ar_pur (w_rInv t.inv) rfl rfl rfl rfl rfl rfl rfl ?_
                            iterate 2 refine pA ?_
                            refine ar_nil ?_
                            refine ag_if rfl ?_ ?_
                            · intro h88
                              refine zB ?_
                              refine pA ?_
                              refine ar_nil ?_
                              refine ag_ret tOk Try.func37 rfl rfl (by simp) ?_
                              exact eqI (by rw [txE, if_neg (by omega), if_neg (by unfold rgBad; omega), if_neg k4, if_pos h88]; have := invE_nx h88; rw [invE, if_pos this])
                            · intro h88
                              refine zB ?_
                              refine pA ?_
                              refine pB ?_
                              refine ar_pur (w_rVar t.var) rfl rfl rfl rfl rfl rfl rfl ?_
                              iterate 2 refine pA ?_
                              refine ar_nil ?_
                              refine ag_if rfl ?_ ?_
                              · intro h93
                                refine zB ?_
                                refine pA ?_
                                refine ar_nil ?_
                                refine ag_ret tOk Try.func37 rfl rfl (by simp) ?_
                                exact eqI (by rw [txE, if_neg (by omega), if_neg (by unfold rgBad; omega), if_neg k4, if_neg h88, if_pos h93]; have := varE_nx h93; rw [varE, if_pos this])
                              · intro h93
                                refine zB ?_
                                refine pA ?_
                                refine pB ?_
                                iterate 3 refine pA ?_
                                refine ar_nil ?_
                                refine ag_if rfl ?_ ?_
                                · intro h98
                                  refine zB ?_
                                  refine pA ?_
                                  refine ar_nil ?_
                                  refine ag_ret tOk Try.func37 rfl rfl (by simp) ?_
                                  exact eqI (by rw [txE, if_neg (by omega), if_neg (by unfold rgBad; omega), if_neg k4, if_neg h88, if_neg h93, if_pos (by omega)])
                                · intro h98
                                  refine ag_skip ?_
                                  refine ag_inBlock ?_
                                  refine zB ?_
                                  refine pA ?_
                                  refine ar_nil ?_
                                  refine ag_ret tOk Try.func37 rfl rfl (by simp) ?_
                                  exact eqI (by rw [txE, if_neg (by omega), if_neg (by unfold rgBad; omega), if_neg k4, if_neg h88, if_neg h93, if_neg (by omega)])
                      · refine ar_ent (ent_reg 71 (.r (.bool false)) (by show AVal.r (.bool _) = _; exact eqB ht)) ?_
                        have k2 : ¬ t.k = 2 := of_decide_eq_false ht
                        repeat (first | refine ar_skip rfl rfl rfl ?_ | refine ar_pure tOk rfl rfl rfl trivial ?_)
                        refine ar_nil ?_
                        refine ag_false rfl (by rfl) ?_
                        refine zB ?_
                        refine pA ?_
                        refine pB ?_
                        iterate 2 refine pA ?_
                        refine ar_nil ?_
                        refine ag_false rfl (by simp; omega) ?_
                        refine zB ?_
                        refine pA ?_
                        refine pB ?_
                        refine ar_pur (w_rInv t.inv) rfl rfl rfl rfl rfl rfl rfl ?_
                        iterate 2 refine pA ?_
                        refine ar_nil ?_
                        refine ag_if rfl ?_ ?_
                        · intro h88
                          refine zB ?_
                          refine pA ?_
                          refine ar_nil ?_
                          refine ag_ret tOk Try.func37 rfl rfl (by simp) ?_
                          exact eqI (by rw [txE, if_neg (by omega), if_neg (by unfold rgBad; omega), if_neg k4, if_pos h88]; have := invE_nx h88; rw [invE, if_pos this])
                        · intro h88
                          refine zB ?_
                          refine pA ?_
                          refine pB ?_
                          refine ar_pur (w_rVar t.var) rfl rfl rfl rfl rfl rfl rfl ?_
                          iterate 2 refine pA ?_
                          refine ar_nil ?_
                          refine ag_if rfl ?_ ?_
                          · intro h93
                            refine zB ?_
                            refine pA ?_
                            refine ar_nil ?_
                            refine ag_ret tOk Try.func37 rfl rfl (by simp) ?_
                            exact eqI (by rw [txE, if_neg (by omega), if_neg (by unfold rgBad; omega), if_neg k4, if_neg h88, if_pos h93]; have := varE_nx h93; rw [varE, if_pos this])
                          · intro h93
                            refine zB ?_
                            refine pA ?_
                            refine pB ?_
                            iterate 3 refine pA ?_
                            refine ar_nil ?_
                            refine ag_if rfl ?_ ?_
                            · intro h98
                              refine zB ?_
                              refine pA ?_
                              refine ar_nil ?_
                              refine ag_ret tOk Try.func37 rfl rfl (by simp) ?_
                              exact eqI (by rw [txE, if_neg (by omega), if_neg (by unfold rgBad; omega), if_neg k4, if_neg h88, if_neg h93, if_pos (by omega)])
                            · intro h98
                              refine ag_skip ?_
                              refine ag_inBlock ?_
                              refine zB ?_
                              refine pA ?_
                              refine ar_nil ?_
                              refine ag_ret tOk Try.func37 rfl rfl (by simp) ?_
                              exact eqI (by rw [txE, if_neg (by omega), if_neg (by unfold rgBad; omega), if_neg k4, if_neg h88, if_neg h93, if_neg (by omega)])
end Go.Proofs.Ytancdgbclbkpkaa


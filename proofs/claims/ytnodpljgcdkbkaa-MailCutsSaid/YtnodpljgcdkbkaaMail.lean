/-
  WALKS: which messages may be. (Printed by gen.py out of w_mail.py.)
-/
import Derived.Test.YtnodpljgcdkbkaaBChk
import Derived.Test.YtnodpljgcdkbkaaRCmp
namespace Go.Proofs.Ytnodpljgcdkbkaa
open Go
set_option maxRecDepth 20000
set_option linter.unusedVariables false
set_option linter.unusedSimpArgs false
structure MsgV where
  k : Int
  a : AskV
  b : BidV
  i : InvV
  v : VarV
  g0 : Int
  g1 : Int
  g2 : Int
  g3 : Int
  sig : List UInt8
def msgC (m : MsgV) : List RVal := [.int .i64 m.k, .int .i64 m.a.u, .int .i64 m.a.s, .int .i64 m.a.c, .int .i64 m.a.t, .int .u64 m.a.m0, .int .u64 m.a.m1, .int .u64 m.a.m2, .int .u64 m.a.m3, .str m.a.id, .int .i64 m.b.r, .int .i64 m.b.a.u, .int .i64 m.b.a.s, .int .i64 m.b.a.c, .int .i64 m.b.a.t, .int .u64 m.b.a.m0, .int .u64 m.b.a.m1, .int .u64 m.b.a.m2, .int .u64 m.b.a.m3, .str m.b.a.id, .int .u64 m.b.x0, .int .u64 m.b.x1, .int .u64 m.b.x2, .int .u64 m.b.x3, .int .i64 m.b.e, .str m.b.sig, .int .i64 m.i.u, .str m.i.root, .int .i64 m.i.r, .int .i64 m.i.s, .int .i64 m.i.c, .int .i64 m.i.t, .str m.i.id, .int .u64 m.v.x0, .int .u64 m.v.x1, .int .u64 m.v.x2, .int .u64 m.v.x3, .int .i64 m.v.e, .int .u64 m.g0, .int .u64 m.g1, .int .u64 m.g2, .int .u64 m.g3, .str m.sig]
def msgA (m : MsgV) : AVal := .agg ((msgC m).map .r)
def msg0 : MsgV := ⟨0, ask0, bid0, inv0, var0, 0, 0, 0, 0, []⟩
structure MsgV.ok (m : MsgV) : Prop where
  a : m.a.ok
  b : m.b.ok
  i : m.i.ok
  v : m.v.ok
  g0 : U64 m.g0
  g1 : U64 m.g1
  g2 : U64 m.g2
  g3 : U64 m.g3
  sig : m.sig.length ≤ 140737488351232
def msgE (m : MsgV) : Int :=
  if m.k = 1 then askE m.a else if m.k = 2 then bidE m.b
  else if m.k = 3 then (if invE m.i ≠ 0 then invE m.i else if varE m.v ≠ 0 then varE m.v else if m.sig.length > 1024 then 5 else 0) else 12
def plM (m : MsgV) : MsgV :=
  if m.k = 1 then ⟨m.k, m.a, bid0, inv0, var0, 0, 0, 0, 0, []⟩ else if m.k = 2 then ⟨m.k, ask0, m.b, inv0, var0, 0, 0, 0, 0, []⟩
  else if m.k = 3 then ⟨m.k, ask0, bid0, m.i, m.v, m.g0, m.g1, m.g2, m.g3, m.sig⟩ else ⟨m.k, ask0, bid0, inv0, var0, 0, 0, 0, 0, []⟩
theorem w_mCheck (m : MsgV) : Pur Try.prog 40 [msgA m] (.r (.int .i64 (msgE m))) := by
  refine spec_of_go (N := 35) Try.func40 rfl (by decide) rfl rfl ?_
  refine zB ?_
  refine ar_new tOk rfl rfl rfl trivial ?_
  refine pA ?_
  refine zA ?_
  refine zB ?_
  refine pA ?_
  refine pB ?_
  refine ar_nil ?_
  refine ag_block ?_
  refine zB ?_
  iterate 2 refine pA ?_
  refine ar_nil ?_
  refine ag_if rfl ?_ ?_
  · intro h7
    refine zB ?_
    refine pA ?_
    refine pB ?_
    refine ar_pur (w_bAsk m.a) rfl rfl rfl rfl rfl rfl rfl ?_
    refine pA ?_
    refine ar_nil ?_
    refine ag_ret tOk Try.func40 rfl rfl (by simp) ?_
    exact eqI (by rw [msgE, if_pos h7])
  · intro h7
    refine zB ?_
    iterate 2 refine pA ?_
    refine ar_nil ?_
    refine ag_if rfl ?_ ?_
    · intro h12
      refine zB ?_
      refine pA ?_
      refine pB ?_
      refine ar_pur (w_bCheck m.b) rfl rfl rfl rfl rfl rfl rfl ?_
      refine pA ?_
      refine ar_nil ?_
      refine ag_ret tOk Try.func40 rfl rfl (by simp) ?_
      exact eqI (by rw [msgE, if_neg h7, if_pos h12])
    · intro h12
      refine zB ?_
      iterate 2 refine pA ?_
      refine ar_nil ?_
      refine ag_if rfl ?_ ?_
      · intro h17
        refine ag_seq ?_
        refine zB ?_
        refine pA ?_
        refine pB ?_
        refine ar_pur (w_Check m.i) rfl rfl rfl rfl rfl rfl rfl ?_
        refine pA ?_
        refine zC ?_
        iterate 2 refine pA ?_
        refine ar_nil ?_
        refine ag_if rfl ?_ ?_
        · intro h23
          refine zB ?_
          iterate 2 refine pA ?_
          refine ar_nil ?_
          refine ag_ret tOk Try.func40 rfl rfl (by simp) ?_
          exact eqI (by rw [msgE, if_neg h7, if_neg h12, if_pos h17, if_pos h23])
        · intro h23
          refine ag_skip ?_
          refine ag_seq ?_
          refine zB ?_
          refine pA ?_
          refine pB ?_
          refine ar_pur (w_Sound m.v) rfl rfl rfl rfl rfl rfl rfl ?_
          refine pA ?_
          refine zC ?_
          iterate 2 refine pA ?_
          refine ar_nil ?_
          refine ag_if rfl ?_ ?_
          · intro h29
            refine zB ?_
            iterate 2 refine pA ?_
            refine ar_nil ?_
            refine ag_ret tOk Try.func40 rfl rfl (by simp) ?_
            exact eqI (by rw [msgE, if_neg h7, if_neg h12, if_pos h17, if_neg h23, if_pos h29])
          · intro h29
            refine ag_skip ?_
            refine ag_seq ?_
            refine zB ?_
            refine pA ?_
            refine pB ?_
            iterate 2 refine pA ?_
            refine ar_nil ?_
            refine ag_if rfl ?_ ?_
            · intro h34
              refine zB ?_
              refine pA ?_
              refine ar_nil ?_
              refine ag_ret tOk Try.func40 rfl rfl (by simp) ?_
              exact eqI (by rw [msgE, if_neg h7, if_neg h12, if_pos h17, if_neg h23, if_neg h29, if_pos (by omega)])
            · intro h34
              refine ag_skip ?_
              refine zB ?_
              refine pA ?_
              refine ar_nil ?_
              refine ag_ret tOk Try.func40 rfl rfl (by simp) ?_
              exact eqI (by rw [msgE, if_neg h7, if_neg h12, if_pos h17, if_neg h23, if_neg h29, if_neg (by omega)])
      · intro h17
        refine ag_skip ?_
        refine ag_inBlock ?_
        refine zB ?_
        refine pA ?_
        refine ar_nil ?_
        refine ag_ret tOk Try.func40 rfl rfl (by simp) ?_
        exact eqI (by rw [msgE, if_neg h7, if_neg h12, if_neg h17])
end Go.Proofs.Ytnodpljgcdkbkaa


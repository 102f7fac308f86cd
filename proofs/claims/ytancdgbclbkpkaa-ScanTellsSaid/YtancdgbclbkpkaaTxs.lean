/-
  WALKS: which transactions may be. (Printed by gen.py out of w_txs.py.)
-/
import Derived.Test.YtancdgbclbkpkaaDealB
import Derived.Test.YtancdgbclbkpkaaDeal
namespace Go.Proofs.Ytancdgbclbkpkaa
open Go
set_option maxRecDepth 20000
set_option linter.unusedVariables false
set_option linter.unusedSimpArgs false
structure TxV where
  f : Int
  n : Int
  k : Int
  a : Int
  m0 : Int
  m1 : Int
  m2 : Int
  m3 : Int
  inv : InvV
  var : VarV
  g0 : Int
  g1 : Int
  g2 : Int
  g3 : Int
  sig : List UInt8
def txC (t : TxV) : List RVal := [.int .i64 t.f, .int .i64 t.n, .int .i64 t.k, .int .i64 t.a, .int .u64 t.m0, .int .u64 t.m1, .int .u64 t.m2, .int .u64 t.m3,
  .int .i64 t.inv.u, .str t.inv.root, .int .i64 t.inv.r, .int .i64 t.inv.s, .int .i64 t.inv.c, .int .i64 t.inv.t, .str t.inv.id, .int .u64 t.var.x0, .int .u64 t.var.x1, .int .u64 t.var.x2, .int .u64 t.var.x3, .int .i64 t.var.e,
  .int .u64 t.g0, .int .u64 t.g1, .int .u64 t.g2, .int .u64 t.g3, .str t.sig]
def txA (t : TxV) : AVal := .agg ((txC t).map .r)
def tx0 : TxV := ⟨0, 0, 0, 0, 0, 0, 0, 0, inv0, var0, 0, 0, 0, 0, []⟩
structure TxV.ok (t : TxV) : Prop where
  m0 : U64 t.m0
  m1 : U64 t.m1
  m2 : U64 t.m2
  m3 : U64 t.m3
  inv : t.inv.ok
  var : t.var.ok
  g0 : U64 t.g0
  g1 : U64 t.g1
  g2 : U64 t.g2
  g3 : U64 t.g3
  sig : t.sig.length ≤ 140737488351232
end Go.Proofs.Ytancdgbclbkpkaa


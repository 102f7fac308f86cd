/-
  WALKS: which bids may be; asks come back. (Printed by gen.py out of w_bchk.py.)
-/
import Derived.Test.YtnodpljgcdkbkaaAsk
namespace Go.Proofs.Ytnodpljgcdkbkaa
open Go
set_option maxRecDepth 20000
set_option linter.unusedVariables false
set_option linter.unusedSimpArgs false
structure BidV where
  r : Int
  a : AskV
  x0 : Int
  x1 : Int
  x2 : Int
  x3 : Int
  e : Int
  sig : List UInt8
def bidC (b : BidV) : List RVal := [.int .i64 b.r, .int .i64 b.a.u, .int .i64 b.a.s, .int .i64 b.a.c, .int .i64 b.a.t, .int .u64 b.a.m0, .int .u64 b.a.m1, .int .u64 b.a.m2, .int .u64 b.a.m3, .str b.a.id, .int .u64 b.x0, .int .u64 b.x1, .int .u64 b.x2, .int .u64 b.x3, .int .i64 b.e, .str b.sig]
def bidA (b : BidV) : AVal := .agg ((bidC b).map .r)
def bid0 : BidV := ⟨0, ask0, 0, 0, 0, 0, 0, []⟩
structure BidV.ok (b : BidV) : Prop where
  a : b.a.ok
  h0 : U64 b.x0
  h1 : U64 b.x1
  h2 : U64 b.x2
  h3 : U64 b.x3
  sig : b.sig.length ≤ 140737488351232
end Go.Proofs.Ytnodpljgcdkbkaa


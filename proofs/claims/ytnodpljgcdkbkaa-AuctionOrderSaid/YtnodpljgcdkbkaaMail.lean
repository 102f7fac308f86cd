/-
  WALKS: which messages may be. (Printed by gen.py out of w_mail.py.)
-/
import Derived.Test.YtnodpljgcdkbkaaBChk
import Derived.Test.YtnodpljgcdkbkaaRCmp
namespace Go.Proofs.Ytnodpljgcdkbkaa
open Go
set_option maxRecDepth 20000
set_option linter.unusedVariables false
set_option linter.unusedSimpArgs false
structure MsgV where
  k : Int
  a : AskV
  b : BidV
  i : InvV
  v : VarV
  g0 : Int
  g1 : Int
  g2 : Int
  g3 : Int
  sig : List UInt8
structure MsgV.ok (m : MsgV) : Prop where
  a : m.a.ok
  b : m.b.ok
  i : m.i.ok
  v : m.v.ok
  g0 : U64 m.g0
  g1 : U64 m.g1
  g2 : U64 m.g2
  g3 : U64 m.g3
  sig : m.sig.length ≤ 140737488351232
end Go.Proofs.Ytnodpljgcdkbkaa


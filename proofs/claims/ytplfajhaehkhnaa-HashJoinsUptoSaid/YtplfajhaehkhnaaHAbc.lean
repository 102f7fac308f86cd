/-
  A sum, reckoned. (Printed by gen.py out of w_habc.py.)
-/
import Derived.Test.YtplfajhaehkhnaaHRef
namespace Go.Proofs.Ytplfajhaehkhnaa
open Go
set_option maxRecDepth 20000
set_option linter.unusedVariables false
set_option linter.unusedSimpArgs false

theorem abc_w : Wst ((padL [97, 98, 99]).take 64) 64 63 = 0x12b1edeb := by decide +kernel
theorem sha_abc : (sha [97, 98, 99]).take 4 = [186, 120, 22, 191] := by decide +kernel

end Go.Proofs.Ytplfajhaehkhnaa

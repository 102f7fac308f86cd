/-
  WALKS: the laws MailBack, MailCuts. (Printed by gen.py out of w_lmail2.py.)
-/
import Derived.Test.YtnodpljgcdkbkaaLMail
import Derived.Test.YtnodpljgcdkbkaaMailP
namespace Go.Proofs.Ytnodpljgcdkbkaa
open Go
set_option maxRecDepth 20000
set_option linter.unusedVariables false
set_option linter.unusedSimpArgs false
end Go.Proofs.Ytnodpljgcdkbkaa


/-
  WALKS: the laws MailBack, MailCuts. (Printed by gen.py out of w_lmail2.py.)
-/
import Derived.Test.YtnodpljgcdkbkaaLMail
import Derived.Test.YtnodpljgcdkbkaaMailP
namespace Go.Proofs.Ytnodpljgcdkbkaa
open Go
set_option maxRecDepth 20000
set_option linter.unusedVariables false
set_option linter.unusedSimpArgs false

theorem putM_no {m : MsgV} (h : ¬ (putM m).2 = 0) : (putM m).1 = [] := by
  by_cases p : msgE m = 0
  · rw [putM_0 p, pMs_ok p] at h; exact absurd rfl h
  · rw [putM_N p]

end Go.Proofs.Ytnodpljgcdkbkaa

/-
  WALKS: signing with a key (mss.Sign, Leaf, and the reference's). (Printed by gen.py out of w_msig.py.)
-/
import Derived.Test.YtccdhgmkjakjkaaGreatMRow
import Derived.Test.YtccdhgmkjakjkaaGreatOOpen
namespace Go.Proofs.YtccdhgmkjakjkaaGreat
open Go
set_option maxRecDepth 20000
set_option linter.unusedVariables false
set_option linter.unusedSimpArgs false
def leafN : List UInt8 → Int
 | [] => -1
 | b :: _ => (b.toNat : Int)
theorem w_Leaf (s : List UInt8) : Pur Tryz.prog 65 [.r (.str s)] (.r (.int .i64 (leafN s))) := by
 refine spec_of_go (N := 8) Tryz.func65 rfl (by decide) rfl rfl ?_
 refine zB ?_
 refine pF ?_
 refine zB ?_
 refine pA ?_
 refine pE ?_
 refine ag_if rfl ?_ ?_
 ·intro h4
  have h0 : s = [] := h4
  subst h0
  refine zB ?_
  refine pE ?_
  refine ag_ret tOk Tryz.func65 rfl rfl (by simp) ?_
  rfl
 ·intro h4
  obtain ⟨b, r, rfl⟩ : ∃ b r, s = b :: r := by cases s with
   | nil => exact absurd rfl h4
   | cons b r => exact ⟨b, r, rfl⟩
  have hb := u8_lt b
  refine ag_skip ?_
  refine zB ?_
  refine pA ?_
  refine pC ?_ ?_
  ·exact ⟨by decide, by simp only [List.length_cons]; omega⟩
  refine pC ?_ ?_
  ·show inI64 ((b.toNat : Nat) : Int); unfold inI64; omega
  refine pE ?_
  refine ag_ret tOk Tryz.func65 rfl rfl (by simp) ?_
  rfl
end Go.Proofs.YtccdhgmkjakjkaaGreat

/-
  WALKS: messages told by the reference, and put. (Printed by gen.py out of w_mail2.py.)
-/
import Derived.Test.YtnodpljgcdkbkaaMail
namespace Go.Proofs.Ytnodpljgcdkbkaa
open Go
set_option maxRecDepth 20000
set_option linter.unusedVariables false
set_option linter.unusedSimpArgs false

section
variable {P : Program} {T : TTab} {N : Nat} {ops : Array Oper} {o : Oper} {rest : List Oper} {g : Regs} {ld : List Nat} {K ix : Nat} {F : Regs → Prop}
theorem aq_load3 {Hs : Nat → Hp} {j : Nat} (hTO : TOk P T) {d : Nat} {v : AVal} {c : Prop} {t : Bool} (hp : stepLoad T N g (Hs 0) o = some (d, v, c)) (hl : limAt ld ops ix = 3) (hd : o.dst = some d) (hN : Nat.blt d N = true) (hg : guardB ops g o = some t) (ht : t = true) (hc : c)
    (hp1 : ∃ c, stepLoad T N g (Hs 1) o = some (d, v, c) ∧ c) (hp2 : ∃ c, stepLoad T N g (Hs 2) o = some (d, v, c) ∧ c) (hp3 : ∃ c, stepLoad T N g (Hs 3) o = some (d, v, c) ∧ c) (hk : QGo P N ld ops Hs K F rest (ix + 1) j ((d, v) :: g)) : QGo P N ld ops Hs K F (o :: rest) ix j g := by
  refine aq_load hTO hd hN (fun i hi => ?_) hg ht hk
  rw [hl] at hi
  rcases i with _ | _ | _ | i
  · exact ⟨c, hp, hc⟩
  · exact hp1
  · exact hp2
  · have : i = 0 := by omega
    subst this; exact hp3
end

theorem varE_n8 {v : VarV} (h : varE v ≠ 0) : varBad v := by
  by_cases p : varBad v
  · exact p
  · exact absurd (by rw [varE, if_neg p]) h

end Go.Proofs.Ytnodpljgcdkbkaa

/-
  ABSTRACT MACHINE, beside the others: 'x - y' of whole numbers that may wrap.
-/
import Derived.Test.YtnodpljgcdkbkaaMB
namespace Go.Proofs.Ytnodpljgcdkbkaa
open Go
section
variable {P : Program} {N : Nat} {o : Oper} {g : Regs} {h : Hp}
theorem qop_subW {x y : Int} {t t2 : TypeId} {p q : Operand} (hop : o.op = .binOp .sub t p q t2) (hp : evA g p = .r (.int .i64 x)) (hq : evA g q = .r (.int .i64 y)) : QOp P N h h o g (.r (.int .i64 (IntKind.i64.wrap (x - y)))) := by
  intro g' hag X R μ a w Q e5 e6 e7
  rw [hop] at hag
  have hxr := evA_rel (a := a) e6 p
  rw [hag p (by simp [Op.operands]), hp] at hxr
  have hyr := evA_rel (a := a) e6 q
  rw [hag q (by simp [Op.operands]), hq] at hyr
  simp only [ARel, RRel] at hxr hyr
  refine wp_value (u := .int .i64 (IntKind.i64.wrap (x - y))) (w' := w) ?_ ⟨_, R, μ, rfl, by simp [ARel, RRel], e6, e7⟩
  have hg : (eqGuard .sub t p q (.int .i64 x) (.int .i64 y)).run P w = .ok () w := by simp [eqGuard]
  simp only [execOp, hop, hxr, hyr, Sem.run_bind]
  rw [hg]
  simp [binOp, Op.intArith]
end
end Go.Proofs.Ytnodpljgcdkbkaa


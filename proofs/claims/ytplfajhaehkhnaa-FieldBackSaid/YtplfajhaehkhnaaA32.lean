/-
  ABSTRACT MACHINE, 32: a return whose heap is told anew behind the results' reading; values told more loosely.
-/
import Derived.Test.YtplfajhaehkhnaaA31
namespace Go.Proofs.Ytplfajhaehkhnaa
open Go
set_option linter.unusedVariables false

section
variable {P : Program} {T : TTab} {f N : Nat} {m : Md} {fn : Func} {ops : Array Oper} {o : Oper} {rest : List Oper} {k : List Item} {g g' : Regs} {h h2 : Hp} {Post : AVal → Hp → Prop}

theorem reg_one {R : Nat → Prop} {μ : Mu} {w : World} {v : AVal} {d : Value} (h : ARel R μ w v d) : RegRel R μ w [(0, v)] #[d] := by
  intro t
  simp only [lookR]
  by_cases e : 0 = t
  · subst e; simpa using h
  · rw [beq_ne e]; simp [ARel]
theorem one_reg {R : Nat → Prop} {μ : Mu} {w : World} {v : AVal} {d : Value} (h : RegRel R μ w [(0, v)] #[d]) : ARel R μ w v d := by
  have := h 0
  simpa [lookR] using this

theorem fin_mu {X : Ctx} : X.fin.μ0 = X.μ0 := by
  unfold Ctx.fin
  split <;> rfl

theorem ag_retW {v v2 : AVal} {q : Prop} (hTO : TOk P T) (hf : P.funcs[f]? = some fn) (hres : resultsA T g h fn.results.toList = some (v, q)) (hmr : m.rnd = false) (hq : q) (he : Ent m [(0, v)] h [(0, v2)] h2) (hp : Post v2 h2) :
    AGo P f N m (.code .ret :: k) g h Post := by
  intro X R μ a w b cs e1 e2 e3 e4 e5 e6 e7
  have hro : b.roundOf = none := by have := e3.2; rw [hmr] at this; simpa using this
  obtain ⟨d, w', fr', h1, h2', h3, h4, h5, h6⟩ := leave_marks hTO hf hres hq e7 e6 { b.atR a (.code .ret :: k) with mode := .returning } cs e2 e3.1 rfl e4 rfl hro
  obtain ⟨R', μ', h7, h8⟩ := he X.fin R μ w' #[d] (by rw [fin_mu]; exact e1.len) (reg_one h5) h6
  exact ⟨d, w', fr', .head (stepR_ret hro) h1, ⟨h2', h3.trans hro.symm⟩, by unfold Done; rw [h3]; exact h4, R', μ', v2, h2, one_reg h7, h8, hp⟩

theorem ag_endW {v v2 : AVal} {q : Prop} (hTO : TOk P T) (hf : P.funcs[f]? = some fn) (hres : resultsA T g h fn.results.toList = some (v, q)) (hmr : m.rnd = false) (hq : q) (he : Ent m [(0, v)] h [(0, v2)] h2) (hp : Post v2 h2) :
    AGo P f N m [] g h Post := by
  intro X R μ a w b cs e1 e2 e3 e4 e5 e6 e7
  have hro : b.roundOf = none := by have := e3.2; rw [hmr] at this; simpa using this
  obtain ⟨d, w', fr', h1, h2', h3, h4, h5, h6⟩ := leave_marks hTO hf hres hq e7 e6 { b.atR a [] with mode := .returning } cs e2 e3.1 rfl e4 rfl hro
  obtain ⟨R', μ', h7, h8⟩ := he X.fin R μ w' #[d] (by rw [fin_mu]; exact e1.len) (reg_one h5) h6
  exact ⟨d, w', fr', .head (stepR_end hro) h1, ⟨h2', h3.trans hro.symm⟩, by unfold Done; rw [h3]; exact h4, R', μ', v2, h2, one_reg h7, h8, hp⟩

theorem ent_trans {g1 g2 g3 : Regs} {h1 h3 h4 : Hp} (a : Ent m g1 h1 g2 h3) (b : Ent m g2 h3 g3 h4) : Ent m g1 h1 g3 h4 := by
  intro X R μ w tmps e1 e2 e3
  obtain ⟨R', μ', h5, h6⟩ := a X R μ w tmps e1 e2 e3
  exact b X R' μ' w tmps e1 h5 h6

/-- A register's value is told more loosely. -/
theorem ent_val (t : Nat) {v v' : AVal} (hl : lookR g t = v) (hv : ∀ (R : Nat → Prop) (μ : Mu) (w : World) (c : Value), ARel R μ w v c → ARel R μ w v' c) : Ent m g h ((t, v') :: g) h := by
  intro X R μ w tmps e1 e2 e3
  refine ⟨R, μ, ?_, e3⟩
  intro s
  simp only [lookR]
  by_cases e : t = s
  · subst e; simp only [Nat.beq_refl, cond_true]
    have := e2 t
    rw [hl] at this
    exact hv R μ w _ this
  · rw [beq_ne e]; exact e2 s

end
end Go.Proofs.Ytplfajhaehkhnaa

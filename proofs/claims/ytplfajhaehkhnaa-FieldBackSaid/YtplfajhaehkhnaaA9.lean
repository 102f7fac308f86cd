/-
  ABSTRACT MACHINE, 9: regions, operation by operation.
-/
import Derived.Test.YtplfajhaehkhnaaA8
import Derived.Laws.IdiomCopy
namespace Go.Proofs.Ytplfajhaehkhnaa
open Go

/-- The operations of a region that are still to come. -/
def AReg (P : Program) (f N : Nat) (m : Md) (ops : Array Oper) (rest : List Oper) (k : List Item) (g : Regs) (h : Hp) (Post : AVal → Hp → Prop) : Prop :=
  ∀ idx : List Nat, idx.map (fun i => ops[i]?) = rest.map some → AGo P f N m (.inRegion ops idx :: k) g h Post

theorem arel_undef {R : Nat → Prop} {μ : Mu} {w : World} : ARel R μ w (.tuple []) undef := by
  simp only [ARel]; exact ⟨[], rfl, by simp [ARels]⟩
theorem arel_undefAt {R : Nat → Prop} {μ : Mu} {w : World} (tmps : Array Value) (d : Nat) : ARel R μ w (.tuple []) ((tmps.setIfInBounds d undef).getD d undef) := by
  have : (tmps.setIfInBounds d undef).getD d undef = undef := by
    simp only [Array.getD_eq_getD_getElem?, Array.getElem?_setIfInBounds, if_true]
    split <;> rfl
  rw [this]; exact arel_undef

/-- Is the operation carried out? -/
def guardB (ops : Array Oper) (g : Regs) (o : Oper) : Option Bool :=
  match o.guard with
  | none => some true
  | some (j, want) =>
    match (ops[j]?).bind (·.dst) with
    | some t => match lookR g t with
      | .r (.bool x) => some (bif want then x else !x)
      | .tuple [] => some false
      | _ => none
    | none => none

theorem guardB_wanted {R : Nat → Prop} {μ : Mu} {w : World} {ops : Array Oper} {g : Regs} {o : Oper} {t : Bool} (h : guardB ops g o = some t) {tmps : Array Value} (hr : RegRel R μ w g tmps) :
    Region.wanted o (yielded ops tmps) = t := by
  unfold guardB at h
  unfold Region.wanted
  split at h
  · rename_i e
    rw [e]
    simpa using h
  · rename_i j want e
    rw [e]
    split at h
    · rename_i d hd
      split at h
      · rename_i x hx
        simp only [Option.some.injEq] at h
        have hv := hr d
        rw [hx] at hv
        simp only [ARel, RRel] at hv
        have hd2 : tmps[d]? = some (.bool x) := by
          simp only [Array.getD_eq_getD_getElem?] at hv
          cases hq : tmps[d]? with
          | none => rw [hq] at hv; simp [undef] at hv
          | some u => rw [hq] at hv; simp at hv; rw [hv]
        simp only [yielded, hd, Option.bind_some, hd2]
        rw [← h]
        cases want <;> cases x <;> rfl
      · rename_i hx
        simp only [Option.some.injEq] at h
        subst h
        have hv := hr d
        rw [hx] at hv
        simp only [ARel] at hv
        obtain ⟨cs, hv, hcs⟩ := hv
        have hd2 : tmps[d]? = none ∨ tmps[d]? = some (.tuple ⟨cs⟩) := by
          simp only [Array.getD_eq_getD_getElem?] at hv
          cases hq : tmps[d]? with
          | none => exact .inl rfl
          | some u => rw [hq] at hv; simp at hv; rw [hv]; exact .inr rfl
        rcases hd2 with hd2 | hd2 <;> simp only [yielded, hd, Option.bind_some, hd2] <;> cases want <;> rfl
      · simp at h
    · simp at h

section
variable {P : Program} {T : TTab} {f N : Nat} {m : Md} {ops : Array Oper} {o : Oper} {rest : List Oper} {k : List Item} {g g' : Regs} {h h' : Hp} {Post : AVal → Hp → Prop}

theorem ag_reg {id : Nat} (hk : AReg P f N m ops ops.toList k g h Post) : AGo P f N m (.code (.region id ops false) :: k) g h Post := by
  refine ag_region (hk _ ?_)
  apply List.ext_getElem?
  intro i
  simp only [List.getElem?_map]
  by_cases hi : i < ops.size
  · simp [hi]
  · simp [hi]

theorem ar_nil (hk : AGo P f N m k g h Post) : AReg P f N m ops [] k g h Post := by
  intro idx hi
  simp only [List.map_nil, List.map_eq_nil_iff] at hi
  subst hi
  exact ag_regionEnd hk

theorem semAt_of_value {ro : Option Nat} {ρ : Operand → Value} {w w' : World} (h : (∃ v, (execOp ρ o).run P w = .ok (.value v) w') ∨ (execOp ρ o).run P w = .ok .skip w') : o.semAt ro ρ = execOp ρ o := by
  refine Oper.semAt_eq ro ρ o fun c hc => ?_
  simp only [execOp, hc, Sem.run_bind, Sem.run_pure] at h
  cases hr : (resolve ρ c o.type).run P w with
  | ok d w2 => rw [hr] at h; simp at h
  | halt x w2 => rw [hr] at h; simp at h

/-- What one operation does. -/
def OpStep (P : Program) (N : Nat) (o : Oper) (g : Regs) (h : Hp) (g' : Regs) (h' : Hp) : Prop :=
  ∀ (X : Ctx) (R : Nat → Prop) (μ : Mu) (a : Act) (w : World), a.tmps.size = N → RegRel R μ w g a.tmps → HRel X R μ h w →
    ∃ v w' R' μ', ((execOp a.eval o).run P w = .ok (.value v) w' ∨ ((execOp a.eval o).run P w = .ok .skip w' ∧ v = undef)) ∧ RegRel R' μ' w' g' (a.put o.dst v).tmps ∧ HRel X R' μ' h' w'

/-- The same, what it hands back apart. -/
def OpStep2 (P : Program) (N : Nat) (o : Oper) (g : Regs) (h : Hp) (av : AVal) (h' : Hp) : Prop :=
  ∀ (X : Ctx) (R : Nat → Prop) (μ : Mu) (a : Act) (w : World), a.tmps.size = N → RegRel R μ w g a.tmps → HRel X R μ h w →
    ∃ v w' R' μ', ((execOp a.eval o).run P w = .ok (.value v) w' ∨ ((execOp a.eval o).run P w = .ok .skip w' ∧ v = undef)) ∧ ARel R' μ' w' av v ∧ RegRel R' μ' w' g a.tmps ∧ HRel X R' μ' h' w'

theorem opStep_of2 {av : AVal} {d : Nat} (hs : OpStep2 P N o g h av h') (hd : o.dst = some d) (hN : Nat.blt d N = true) : OpStep P N o g h ((d, av) :: g) h' := by
  intro X R μ a w e5 e6 e7
  obtain ⟨v, w', R', μ', h1, h2, h3, h4⟩ := hs X R μ a w e5 e6 e7
  refine ⟨v, w', R', μ', h1, ?_, h4⟩
  rw [hd]
  exact h3.put (by rw [e5]; exact Nat.le_of_ble_eq_true hN) h2

theorem opStep_of2n {av : AVal} (hs : OpStep2 P N o g h av h') (hd : o.dst = none) : OpStep P N o g h g h' := by
  intro X R μ a w e5 e6 e7
  obtain ⟨v, w', R', μ', h1, h2, h3, h4⟩ := hs X R μ a w e5 e6 e7
  refine ⟨v, w', R', μ', h1, ?_, h4⟩
  rw [hd]
  exact h3

theorem put_size (a : Act) (d : Option Tmp) (v : Value) : (a.put d v).tmps.size = a.tmps.size := by
  cases d <;> simp [Act.put]
theorem put_defers (a : Act) (d : Option Tmp) (v : Value) : (a.put d v).defers = a.defers := by
  cases d <;> simp [Act.put]

theorem ar_op {t : Bool} (hg : guardB ops g o = some t) (ht : t = true) (hs : OpStep P N o g h g' h') (hk : AReg P f N m ops rest k g' h' Post) : AReg P f N m ops (o :: rest) k g h Post := by
  subst ht
  intro idx hi X R μ a w b cs e1 e2 e3 e4 e5 e6 e7
  cases idx with
  | nil => simp at hi
  | cons i idx =>
    simp only [List.map_cons, List.cons.injEq] at hi
    obtain ⟨ho, hi⟩ := hi
    have hw := guardB_wanted hg e6
    obtain ⟨v, w', R', μ', h1, h2, h3⟩ := hs X R μ a w e5 e6 e7
    obtain ⟨u, w2, fr, h4, rest'⟩ := hk idx hi X R' μ' (a.put o.dst v) w' b cs e1 e2 e3 (by rw [put_defers]; exact e4) (by rw [put_size]; exact e5) h2 h3
    have hst := stepGR_op (P := P) (b := b) (k := k) (cs := cs) (w := w) (rest := idx) ho hw
    have hfin : ∀ v, (b.atR a (.inRegion ops (i :: idx) :: k)).finish v = b.atR (a.put o.dst v) (.inRegion ops idx :: k) := by
      intro v; rw [Frame.finish_atR, ho]; rfl
    refine ⟨u, w2, fr, Steps.head (step_lone_go ?_) h4, rest'⟩
    rw [hst, ← hfin]
    rcases h1 with h1 | ⟨h1, rfl⟩
    · rw [semAt_of_value (.inl ⟨_, h1⟩)]; simp [stepG.apply, h1]
    · rw [semAt_of_value (.inr h1)]; simp [stepG.apply, h1]

theorem ar_skip {d : Nat} {t : Bool} (hg : guardB ops g o = some t) (ht : t = false) (hd : o.dst = some d) (hk : AReg P f N m ops rest k ((d, .tuple []) :: g) h Post) : AReg P f N m ops (o :: rest) k g h Post := by
  subst ht
  intro idx hi X R μ a w b cs e1 e2 e3 e4 e5 e6 e7
  cases idx with
  | nil => simp at hi
  | cons i idx =>
    simp only [List.map_cons, List.cons.injEq] at hi
    obtain ⟨ho, hi⟩ := hi
    have hw := guardB_wanted hg e6
    have h2 : RegRel R μ w ((d, .tuple []) :: g) (a.put o.dst undef).tmps := by
      intro t
      simp only [lookR]
      by_cases e : d = t
      · subst e; rw [hd]; simp only [Nat.beq_refl, cond_true, Act.put]; exact arel_undefAt _ _
      · rw [beq_ne e, hd]
        simp only [Act.put, cond_false]
        have := e6 t
        simpa only [Array.getD_eq_getD_getElem?, Array.getElem?_setIfInBounds, e, if_false] using this
    obtain ⟨u, w2, fr, h4, rest'⟩ := hk idx hi X R μ (a.put o.dst undef) w b cs e1 e2 e3 (by rw [put_defers]; exact e4) (by rw [put_size]; exact e5) h2 e7
    have hs := stepR_op_skip (P := P) (b := b) (a := a) (k := k) (cs := cs) (w := w) (ops := ops) (i := i) (rest := idx) (by simp [ho, hw])
    simp only [ho, Option.bind_some] at hs
    exact ⟨u, w2, fr, Steps.head hs h4, rest'⟩

/-- An operation under a test that is open: both ways. -/
theorem ar_guard {t : Bool} (h1 : t = true → AReg P f N m ops rest k g h Post) (h2 : t = false → AReg P f N m ops rest k g h Post) : AReg P f N m ops rest k g h Post := by
  cases t
  · exact h2 rfl
  · exact h1 rfl

/-- The destination, the value, and what has to hold. -/
def stepPure (T : TTab) (N : Nat) (g : Regs) (o : Oper) : Option (Nat × AVal × Prop) :=
  match o.dst with
  | some d => bif Nat.blt d N then (match pureOp T (evA g) o.op with | some (v, c) => forceV v fun v => some (d, v, c) | none => none) else none
  | none => none

theorem stepPure_eq : stepPure T N g o = (match o.dst with
  | some d => bif Nat.blt d N then (match pureOp T (evA g) o.op with | some (v, c) => some (d, v, c) | none => none) else none
  | none => none) := by simp only [stepPure, forceV_eq]

theorem opStep_pure (hTO : TOk P T) {d : Nat} {v : AVal} {c : Prop} (hp : stepPure T N g o = some (d, v, c)) (hc : c) : OpStep P N o g h ((d, v) :: g) h := by
  intro X R μ a w e5 e6 e7
  rw [stepPure_eq] at hp
  split at hp
  case h_2 => simp at hp
  rename_i d' hd
  cases hb : Nat.blt d' N <;> rw [hb] at hp <;> simp only [cond_true, cond_false, reduceCtorEq] at hp
  split at hp
  case h_2 => simp at hp
  rename_i v' c' hv
  simp only [Option.some.injEq, Prod.mk.injEq] at hp
  obtain ⟨rfl, rfl, rfl⟩ := hp
  obtain ⟨u, h1, h2⟩ := pureOp_sound (P := P) (w := w) hTO (evA_rel (a := a) e6) o hv hc
  refine ⟨u, w, R, μ, .inl h1, ?_, e7⟩
  rw [hd]
  exact e6.put (by rw [e5]; exact Nat.le_of_ble_eq_true hb) h2

theorem ar_pure (hTO : TOk P T) {t : Bool} {d : Nat} {v : AVal} {c : Prop} (hp : stepPure T N g o = some (d, v, c)) (hg : guardB ops g o = some t) (ht : t = true) (hc : c)
    (hk : AReg P f N m ops rest k ((d, v) :: g) h Post) : AReg P f N m ops (o :: rest) k g h Post :=
  ar_op hg ht (opStep_pure hTO hp hc) hk

end
end Go.Proofs.Ytplfajhaehkhnaa

/-
  ABSTRACT MACHINE, 7: the state, what it says of a machine's frame and memory, and the judgement; its rules for control.
-/
import Derived.Test.YtplfajhaehkhnaaA6
import Derived.ScopeJumps
import Derived.LoopTactic
import Derived.Orders
import Derived.AtR
import Derived.RangeFuncLeaves
namespace Go.Proofs.Ytplfajhaehkhnaa
open Go

def BodyRel (R : Nat → Prop) (μ : Mu) (w : World) : Body → List Value → Prop
  | .bytes s, vs => vs = bytesV s
  | .plain xs, vs => RRels R w xs vs
  | .mixed cs, vs => ARels R μ w cs vs

structure BlkRel (R : Nat → Prop) (μ : Mu) (w : World) (b o : Nat) (blk : ABlk) : Prop where
  ex : ∃ (cells : Array Value) (el : TypeId) (fz : Nat × Nat) (vs : List Value), w.heap[b]? = some (Obj.cells cells el fz) ∧ (fz.1 ≤ fz.2 ∧ ∀ i, fz.1 ≤ i → i < fz.2 → cells.size ≤ i) ∧ BodyRel R μ w blk vs ∧
    (∀ (j : Nat) v, vs[j]? = some v → cells[o + j]? = some v) ∧ o + vs.length ≤ cells.size

/-- What is no block of cells lies as it lay. -/
def Others (w w' : World) : Prop := ∀ (k : Nat) (o : Obj), w.heap[k]? = some o → (∀ (c : Array Value) (e : TypeId) (f : Nat × Nat), o ≠ Obj.cells c e f) → w'.heap[k]? = some o

theorem Others.refl (w : World) : Others w w := fun _ _ h _ => h
theorem Others.trans {w w' w'' : World} (h1 : Others w w') (h2 : Others w' w'') : Others w w'' := fun k o h hn => h2 k o (h1 k o h hn) hn

/-- What a call began with: the world, the blocks that it may write, those that are read-only, the names that it was handed; what else is to be kept; the block of deferred calls that a loop over an iterator has laid. -/
structure Ctx where
  w0 : World
  O : Nat → Prop
  R0 : Nat → Prop
  μ0 : Mu
  mark : Option Nat
  inv : Bool → (Nat → Prop) → World → Prop
  mono : ∀ g (R R' : Nat → Prop) w w', inv g R w → (∀ k, R k → R' k) → Onward R w w' → Others w w' → inv g R' w'
  mkd : ∀ D, mark = some D → ∀ g R w, inv g R w → w.heap[D]? = some (Obj.deferred (some [])) ∧ w0.heap.size ≤ D

def Ctx.plain (w0 : World) (O R0 : Nat → Prop) (μ0 : Mu) : Ctx := ⟨w0, O, R0, μ0, none, fun _ _ _ => True, fun _ _ _ _ _ h _ _ _ => h, fun _ h => by cases h⟩

/-- The same, where the call's end has done with the deferred calls. -/
def Ctx.fin (X : Ctx) : Ctx :=
  match X.mark with
  | none => X
  | some _ => Ctx.plain X.w0 X.O X.R0 X.μ0

def Ctx.defers (X : Ctx) : List Deferred :=
  match X.mark with
  | none => []
  | some D => [{ target := .collected D, args := #[] }]

structure HRel (X : Ctx) (R : Nat → Prop) (μ : Mu) (h : Hp) (w : World) : Prop where
  os : w.os = X.w0.os
  tape : w.tape = X.w0.tape
  output : w.output = X.w0.output
  size : X.w0.heap.size ≤ w.heap.size
  keep : ∀ k, k < X.w0.heap.size → ¬ X.O k → w.heap[k]? = X.w0.heap[k]?
  shape : ∀ (k : Nat) (c : Array Value) (e : TypeId) (f : Nat × Nat), X.w0.heap[k]? = some (Obj.cells c e f) → ∃ (c' : Array Value) (f' : Nat × Nat), w.heap[k]? = some (Obj.cells c' e f') ∧ c'.size = c.size
  r0 : ∀ k, X.R0 k → R k
  rO : ∀ k, R k → X.R0 k ∨ X.O k ∨ X.w0.heap.size ≤ k
  rlt : ∀ k, R k → k < w.heap.size
  rc : ∀ k, R k → ∃ (c : Array Value) (e : TypeId) (f : Nat × Nat), w.heap[k]? = some (Obj.cells c e f)
  mu : ∀ (β : Nat) p, X.μ0[β]? = some p → μ[β]? = some p
  len : μ.length = h.nxt
  live : ∀ β blk, h.get β = some blk → ∃ b o, μ[β]? = some (b, o) ∧ ¬ R b ∧ (X.O b ∨ X.w0.heap.size ≤ b) ∧ BlkRel R μ w b o blk
  inj : ∀ β β' blk blk' b b' o o', h.get β = some blk → h.get β' = some blk' → μ[β]? = some (b, o) → μ[β']? = some (b', o') → b = b' → β = β'
  inv : X.inv h.gh R w

mutual
/-- All its names are below m. -/
def AVal.nb (m : Nat) : AVal → Bool
  | .sl β _ _ _ => Nat.blt β m
  | .ptr β _ => Nat.blt β m
  | .func _ cs => AVal.nbs m cs
  | .agg cs => AVal.nbs m cs
  | .tuple cs => AVal.nbs m cs
  | .r _ => true
  | .rp _ _ => true
  | .bp _ _ => true
  | .yld _ => true
  | .any => true
def AVal.nbs (m : Nat) : List AVal → Bool
  | [] => true
  | x :: xs => AVal.nb m x && AVal.nbs m xs
end

/-- How a call of 'yield' turns the heap: arguments, the heap, the answer, the heap behind it. -/
abbrev YRel := List AVal → Hp → Bool → Hp → Prop

/-- The kind of a walk: how many names it was handed; is it a round of a loop over an iterator; may it enter such a loop; the 'yield' that it may call. -/
structure Md where
  len : Nat
  rnd : Bool
  plain : Bool
  yl : Option (Nat × YRel)

def Md.of (n : Nat) : Md := ⟨n, false, true, none⟩

def Regs.nb (n : Nat) : Regs → Bool
  | [] => true
  | (_, v) :: r => AVal.nb n v && Regs.nb n r

/-- 'yield' of loop l does what Y says. -/
def Yields (P : Program) (X : Ctx) (l : Nat) (Y : YRel) : Prop :=
  ∀ args h v h', Y args h v h' → h.gh = false → ∀ (R : Nat → Prop) (μ : Mu) (w : World) (cargs : List Value) (g : Regs) (tmps : Array Value), Regs.nb X.μ0.length g = true → RegRel R μ w g tmps → HRel X R μ h w → ARels R μ w args cargs →
    ∃ l' f tm as bo, (Instr.yield l ⟨cargs⟩).run P w = .ok (.round l' f tm as bo) w ∧ ∀ (c : Frame) (cs : List Frame), ∃ R' μ' w', Steps P (lone (Frame.round l' f tm as bo .normal) (c :: cs) w) (lone (c.finish (.bool v)) cs w') ∧ RegRel R' μ' w' g tmps ∧ HRel X R' μ' { h' with gh := !v } w'

structure MOk (P : Program) (X : Ctx) (m : Md) : Prop where
  len : X.μ0.length = m.len
  plain : m.plain = true → X = Ctx.plain X.w0 X.O X.R0 X.μ0
  rnd : m.rnd = true → X.mark = none
  yl : ∀ l Y, m.yl = some (l, Y) → Yields P X l Y

/-- How a frame is left: a function's, a round's. -/
def Done (P : Program) (fr : Frame) (w : World) (v : Value) : Prop :=
  match fr.roundOf with
  | none => fr.leaving P w (.returned v)
  | some _ => ∃ (b : Frame) (a : Act), b.kind = .normal ∧ ((fr = b.atR a [] ∧ v = .bool true) ∨ (∃ k, fr = b.atR a (.code .ret :: k) ∧ v = .bool false))

/-- FROM THIS STATE THE CALL RETURNS, and what it returns, and the heap behind it, are as Post says. -/
def AGo (P : Program) (f N : Nat) (m : Md) (todo : List Item) (g : Regs) (h : Hp) (Post : AVal → Hp → Prop) : Prop :=
  ∀ (X : Ctx) (R : Nat → Prop) (μ : Mu) (a : Act) (w : World) (b : Frame) (cs : List Frame), MOk P X m → b.fn = f → (b.kind = .normal ∧ b.roundOf.isSome = m.rnd) → a.defers = X.defers → a.tmps.size = N →
    RegRel R μ w g a.tmps → HRel X R μ h w →
    ∃ v w' fr, Steps P (lone (b.atR a todo) cs w) (lone fr cs w') ∧ (fr.fn = f ∧ fr.roundOf = b.roundOf) ∧ Done P fr w' v ∧ ∃ R' μ' av h', ARel R' μ' w' av v ∧ HRel X.fin R' μ' h' w' ∧ Post av h'

section
variable {P : Program} {f N : Nat} {m : Md} {todo todo' k : List Item} {g : Regs} {h : Hp} {Post : AVal → Hp → Prop}

theorem AGo.step (hs : ∀ (b : Frame) (a : Act) (cs : List Frame) (w : World), step P (lone (b.atR a todo) cs w) = .next (lone (b.atR a todo') cs w)) (hk : AGo P f N m todo' g h Post) : AGo P f N m todo g h Post := by
  intro X R μ a w b cs h1 h2 h3 h4 h5 h6 h7
  obtain ⟨v, w', fr, h8, rest⟩ := hk X R μ a w b cs h1 h2 h3 h4 h5 h6 h7
  exact ⟨v, w', fr, Steps.head (hs b a cs w) h8, rest⟩

theorem ag_seq {x y : Code} (hk : AGo P f N m (.code x :: .code y :: k) g h Post) : AGo P f N m (.code (.seq x y) :: k) g h Post := AGo.step (fun _ _ _ _ => stepR_seq) hk
theorem ag_skip (hk : AGo P f N m k g h Post) : AGo P f N m (.code .skip :: k) g h Post := AGo.step (fun _ _ _ _ => stepR_skip) hk
theorem ag_label {l : Nat} (hk : AGo P f N m k g h Post) : AGo P f N m (.code (.label l) :: k) g h Post := AGo.step (fun _ _ _ _ => stepR_label) hk
theorem ag_block {id : Nat} {c : Code} (hk : AGo P f N m (.code c :: .inBlock id :: k) g h Post) : AGo P f N m (.code (.block id c) :: k) g h Post := AGo.step (fun _ _ _ _ => stepR_block) hk
theorem ag_inBlock {id : Nat} (hk : AGo P f N m k g h Post) : AGo P f N m (.inBlock id :: k) g h Post := AGo.step (fun _ _ _ _ => stepR_inBlock) hk
theorem ag_exit {id : Nat} {k' : List Item} (he : exitTo id k = some k') (hk : AGo P f N m k' g h Post) : AGo P f N m (.code (.exit id) :: k) g h Post := AGo.step (fun _ _ _ _ => stepR_exit he) hk
theorem ag_goto {l : Nat} {k' : List Item} (he : gotoIn l k = some k') (hk : AGo P f N m k' g h Post) : AGo P f N m (.code (.goto l) :: k) g h Post := AGo.step (fun _ _ _ _ => stepR_goto he) hk
theorem ag_unroll {c : Code} (hk : AGo P f N m (.code c :: .inLoop c :: k) g h Post) : AGo P f N m (.code (.loop c) :: k) g h Post := AGo.step (fun _ _ _ _ => stepR_loop) hk
theorem ag_again {c : Code} (hk : AGo P f N m (.code c :: .inLoop c :: k) g h Post) : AGo P f N m (.inLoop c :: k) g h Post := AGo.step (fun _ _ _ _ => stepR_inLoop) hk
theorem ag_region {id : Nat} {ops : Array Oper} (hk : AGo P f N m (.inRegion ops (List.range ops.size) :: k) g h Post) : AGo P f N m (.code (.region id ops false) :: k) g h Post := AGo.step (fun _ _ _ _ => stepR_region) hk
theorem ag_regionEnd {ops : Array Oper} (hk : AGo P f N m k g h Post) : AGo P f N m (.inRegion ops [] :: k) g h Post := AGo.step (fun _ _ _ _ => stepR_region_end) hk

/-- A test: one way each. -/
theorem ag_cond {c : Operand} {x y : Code} {t : Bool} (hc : evA g c = .r (.bool t)) (h1 : t = true → AGo P f N m (.code x :: k) g h Post) (h2 : t = false → AGo P f N m (.code y :: k) g h Post) :
    AGo P f N m (.code (.cond c x y) :: k) g h Post := by
  intro X R μ a w b cs e1 e2 e3 e4 e5 e6 e7
  have hv := evA_rel (a := a) e6 c
  rw [hc] at hv
  simp only [ARel, RRel] at hv
  have hs := stepR_cond (P := P) (b := b) (a := a) (k := k) (cs := cs) (w := w) (x := x) (y := y) hv
  cases t with
  | true =>
    obtain ⟨v, w', fr, h8, rest⟩ := h1 rfl X R μ a w b cs e1 e2 e3 e4 e5 e6 e7
    exact ⟨v, w', fr, Steps.head hs h8, rest⟩
  | false =>
    obtain ⟨v, w', fr, h8, rest⟩ := h2 rfl X R μ a w b cs e1 e2 e3 e4 e5 e6 e7
    exact ⟨v, w', fr, Steps.head hs h8, rest⟩

/-- A test whose outcome is a proposition's. -/
theorem ag_if {c : Operand} {x y : Code} {p : Prop} [Decidable p] (hc : evA g c = .r (.bool (decide p))) (h1 : p → AGo P f N m (.code x :: k) g h Post) (h2 : ¬ p → AGo P f N m (.code y :: k) g h Post) :
    AGo P f N m (.code (.cond c x y) :: k) g h Post :=
  ag_cond hc (fun e => h1 (of_decide_eq_true e)) (fun e => h2 (of_decide_eq_false e))

theorem ag_true {c : Operand} {x y : Code} {t : Bool} (hc : evA g c = .r (.bool t)) (ht : t = true) (h1 : AGo P f N m (.code x :: k) g h Post) : AGo P f N m (.code (.cond c x y) :: k) g h Post :=
  ag_cond hc (fun _ => h1) (fun e => by rw [ht] at e; simp at e)
theorem ag_false {c : Operand} {x y : Code} {t : Bool} (hc : evA g c = .r (.bool t)) (ht : t = false) (h1 : AGo P f N m (.code y :: k) g h Post) : AGo P f N m (.code (.cond c x y) :: k) g h Post :=
  ag_cond hc (fun e => by rw [ht] at e; simp at e) (fun _ => h1)

/-- A LOOP, BY A MEASURE: 'S x' are the states at the head of a round. -/
theorem ag_loop_of {α : Type} (S : α → Regs × Hp) (p : α → Prop) (meas : α → Nat) {c : Code}
    (round : ∀ x, p x → (∀ y, p y → meas y < meas x → AGo P f N m (.inLoop c :: k) (S y).1 (S y).2 Post) → AGo P f N m (.code c :: .inLoop c :: k) (S x).1 (S x).2 Post) :
    ∀ x, p x → AGo P f N m (.inLoop c :: k) (S x).1 (S x).2 Post := by
  intro x hp
  generalize hn : meas x = n
  induction n using Nat.strongRecOn generalizing x with
  | _ n ih => exact ag_again (round x hp fun y hy hlt => ih (meas y) (by omega) y hy rfl)

theorem ag_loop_enter {c : Code} (hk : AGo P f N m (.inLoop c :: k) g h Post) : AGo P f N m (.code (.loop c) :: k) g h Post := by
  intro X R μ a w b cs e1 e2 e3 e4 e5 e6 e7
  obtain ⟨v, w', fr, ⟨n, hn⟩, rest⟩ := hk X R μ a w b cs e1 e2 e3 e4 e5 e6 e7
  cases n with
  | zero =>
    simp [runN] at hn
    exfalso
    have h1 := congrArg Machine.gs hn
    simp [lone] at h1
    have hd := rest.2.1
    rw [← h1] at hd
    unfold Done at hd
    split at hd
    · obtain ⟨hm, _⟩ := hd
      simp [Frame.atR] at hm
    · obtain ⟨b', a', _, ⟨hm, _⟩ | ⟨_, hm, _⟩⟩ := hd <;> simp [Frame.atR] at hm
  | succ n =>
    simp only [runN, stepR_inLoop] at hn
    exact ⟨v, w', fr, Steps.head stepR_loop ⟨n, hn⟩, rest⟩

end
end Go.Proofs.Ytplfajhaehkhnaa

/-
  ABSTRACT MACHINE, 2: types as a table; operations that touch no memory; that they do what the machine does.
-/
import Derived.Test.YtplfajhaehkhnaaA1
import Derived.DeepKeys
import Derived.Laws.StructEq
import Derived.Laws.Cells
import Derived.Lib.ConvBytes
namespace Go.Proofs.Ytplfajhaehkhnaa
open Go

inductive TyK where
  | int (k : IntKind)
  | bool
  | str
  | slice (e : TypeId)
  | arr (n : Nat) (e : TypeId)
  | struct (fs : List (Nat × TypeId))
  | ptr (e : TypeId)
  | other

structure Ty where
  k : TyK
  size : Nat
  bytes : Nat
  zero : List RVal

abbrev TTab := List (Nat × Ty)
def TTab.look : TTab → Nat → Option Ty
  | [], _ => none
  | (a, v) :: l, n => bif Nat.beq a n then some v else TTab.look l n

def RVal.conc : RVal → Value
  | .int k n => .int k n
  | .bool b => .bool b
  | .str s => .string ⟨⟨s⟩⟩
  | .nil => .slice none 0 0
  | .nilp => .pointer none
  | .bs _ => undef
  | .ro _ _ => undef

def RVal.flat : RVal → Bool
  | .bs _ => false
  | .ro _ _ => false
  | _ => true

def TyK.ok (d : TypeDesc) : TyK → Prop
  | .int k => d = .int k
  | .bool => d = .bool
  | .str => d = .string
  | .slice e => d = .slice e
  | .arr n e => d = .array n e
  | .struct fs => ∃ a : Array Field, d = .struct a ∧ a.toList.map (fun f => (f.offset, f.type)) = fs ∧ a.toList.all (fun f => f.name != "_") = true
  | .ptr e => d = .pointer e
  | .other => (match d with | .struct _ | .array _ _ => false | _ => true) = true

def TyK.agg : TyK → Bool
  | .arr _ _ | .struct _ => true
  | _ => false

structure TyOk (P : Program) (t : TypeId) (ty : Ty) : Prop where
  leaf : ty.k.agg = false → ty.size = 1
  ex : ∃ d i, P.underlying t = some d ∧ P.info? t = some i ∧ i.size = ty.size ∧ i.bytes = ty.bytes ∧ ty.k.ok d ∧
    (ty.k.agg = true → P.stoodInHeld t = false ∧ P.eqGuardType P.depth t = false) ∧
    (ty.zero = [] ∨ ∃ z, i.zero = some z ∧ z.cells.toList = ty.zero.map RVal.conc ∧ ty.zero.all RVal.flat = true)

def TOk (P : Program) (T : TTab) : Prop := ∀ t ty, T.look t = some ty → TyOk P t ty

theorem beq_ne {a t : Nat} (e : ¬a = t) : Nat.beq a t = false := by
  cases h : Nat.beq a t
  · rfl
  · exact absurd (Nat.eq_of_beq_eq_true h) e

theorem TOk.nil (P : Program) : TOk P [] := by intro t ty h; simp [TTab.look] at h
theorem TOk.cons {P : Program} {T : TTab} {a : Nat} {ty : Ty} (h : TyOk P a ty) (hT : TOk P T) : TOk P ((a, ty) :: T) := by
  intro t u hu
  simp only [TTab.look] at hu
  by_cases e : a = t
  · subst e; simp at hu; subst hu; exact h
  · have : Nat.beq a t = false := beq_ne e
    rw [this] at hu; exact hT t u hu

def constA : Value → AVal
  | .int k n => .r (.int k n)
  | .bool b => .r (.bool b)
  | .string s => .r (.str s.data.toList)
  | .slice none 0 0 => .r .nil
  | .pointer none => .r .nilp
  | .func (.func f) ⟨[]⟩ ⟨[]⟩ => .func f []
  | _ => .any

abbrev Regs := List (Nat × AVal)
def lookR : Regs → Nat → AVal
  | [], _ => .any
  | (a, v) :: l, n => bif Nat.beq a n then v else lookR l n

def evA (g : Regs) : Operand → AVal
  | .tmp t => lookR g t
  | .const v => constA v
  | .func f => .func f []
  | .global _ => .any

theorem constA_rel (R : Nat → Prop) (μ : Mu) (w : World) (v : Value) : ARel R μ w (constA v) v := by
  unfold constA
  split <;> simp [ARel, RRel, ARels]

/-- The temporaries hold what the registers say. -/
def RegRel (R : Nat → Prop) (μ : Mu) (w : World) (g : Regs) (tmps : Array Value) : Prop := ∀ t, ARel R μ w (lookR g t) (tmps.getD t undef)

theorem RegRel.mono {R R' : Nat → Prop} {μ μ' : Mu} {w w' : World} {g : Regs} {tmps : Array Value} (hR : ∀ k, R k → R' k) (hw : Onward R w w') (hm : ∀ (β : Nat) p, μ[β]? = some p → μ'[β]? = some p)
    (h : RegRel R μ w g tmps) : RegRel R' μ' w' g tmps := fun t => (h t).mono hR hw hm

theorem RegRel.put {R : Nat → Prop} {μ : Mu} {w : World} {g : Regs} {tmps : Array Value} (h : RegRel R μ w g tmps) {d : Nat} (hd : d < tmps.size) {v : AVal} {c : Value} (hv : ARel R μ w v c) :
    RegRel R μ w ((d, v) :: g) (tmps.setIfInBounds d c) := by
  intro t
  simp only [lookR]
  by_cases e : d = t
  · subst e; simp [Array.getD, hd]; exact hv
  · have : Nat.beq d t = false := beq_ne e
    rw [this]
    have e2 : (tmps.setIfInBounds d c).getD t undef = tmps.getD t undef := by
      simp only [Array.getD_eq_getD_getElem?, Array.getElem?_setIfInBounds, e, if_false]
    rw [e2]; exact h t

theorem evA_rel {R : Nat → Prop} {μ : Mu} {w : World} {g : Regs} {a : Act} (h : RegRel R μ w g a.tmps) (x : Operand) : ARel R μ w (evA g x) (a.eval x) := by
  cases x with
  | tmp t => exact h t
  | const v => exact constA_rel R μ w v
  | global g => simp [evA, ARel]
  | func f => simp [evA, ARel, ARels, Act.eval]

/-- The same list, its spine reckoned. -/
def forceL {β : Type} : List AVal → (List AVal → Option β) → Option β
  | [], k => k []
  | x :: xs, k => forceL xs fun ys => k (x :: ys)
theorem forceL_eq {β : Type} : ∀ (l : List AVal) (k : List AVal → Option β), forceL l k = k l
  | [], _ => rfl
  | x :: xs, k => by simp only [forceL, forceL_eq xs]

def AVal.cellsA : AVal → Option (List AVal)
  | .agg cs => some cs
  | .any => none
  | .tuple _ => none
  | v => some [v]

/-- The same value, its head reckoned. -/
def forceR {β : Type} (v : RVal) (k : RVal → β) : β :=
  match v with
  | .int t n => k (.int t n)
  | .bool b => k (.bool b)
  | .str s => k (.str s)
  | .nil => k .nil
  | .nilp => k .nilp
  | .bs s => k (.bs s)
  | .ro n xs => k (.ro n xs)
def forceV {β : Type} (v : AVal) (k : AVal → β) : β :=
  match v with
  | .r x => forceR x fun x => k (.r x)
  | .sl a b c d => k (.sl a b c d)
  | .ptr a b => k (.ptr a b)
  | .func f l => k (.func f l)
  | .agg l => k (.agg l)
  | .tuple l => k (.tuple l)
  | .rp a b => k (.rp a b)
  | .bp a b => k (.bp a b)
  | .yld l => k (.yld l)
  | .any => k .any
theorem forceV_eq {β : Type} (v : AVal) (k : AVal → β) : forceV v k = k v := by
  cases v <;> first | rfl | (rename_i x; cases x <;> rfl)

/-- A value's cells, its head reckoned. -/
def cellsF (v : AVal) : Option (List AVal) := forceV v AVal.cellsA
theorem cellsF_eq (v : AVal) : cellsF v = v.cellsA := by simp only [cellsF, forceV_eq]

def setsL : List AVal → Nat → List AVal → List AVal
  | cells, _, [] => cells
  | cells, off, v :: vs => setsL (cells.set off v) (off + 1) vs

def fillA (place : Nat → Option (Nat × Nat)) : List AVal → List (Nat × AVal) → Option (List AVal)
  | cells, [] => some cells
  | cells, (i, v) :: rest =>
    match place i, cellsF v with
    | some (off, size), some vs => bif Nat.beq vs.length size && Nat.ble (off + size) cells.length then fillA place (setsL cells off vs) rest else none
    | _, _ => none

/-- Bits of whole numbers, as the machine has them. -/
def ibit (op : BinOp) (k : IntKind) (x y : Int) : Int :=
  let a := BitVec.ofInt k.bits x
  let b := BitVec.ofInt k.bits y
  match op with
  | .and => k.wrap (a &&& b).toNat
  | .or => k.wrap (a ||| b).toNat
  | .xor => k.wrap (a ^^^ b).toNat
  | _ => k.wrap (a &&& ~~~b).toNat

def inI64 (x : Int) : Prop := -9223372036854775808 ≤ x ∧ x ≤ 9223372036854775807

/-- The value, and what has to hold: i64 does not wrap. -/
def arithA (k : IntKind) (x : Int) : AVal × Prop :=
  match k with
  | .i64 => (.r (.int .i64 x), inI64 x)
  | k => (.r (.int k (k.wrap x)), True)

def cmpA (op : BinOp) (x y : Int) : Option AVal :=
  match op with
  | .eql => some (.r (.bool (decide (x = y))))
  | .neq => some (.r (.bool (decide (x ≠ y))))
  | .lss => some (.r (.bool (decide (x < y))))
  | .leq => some (.r (.bool (decide (x ≤ y))))
  | .gtr => some (.r (.bool (decide (x > y))))
  | .geq => some (.r (.bool (decide (x ≥ y))))
  | _ => none

def binA (op : BinOp) (k : IntKind) (x y : Int) : Option (AVal × Prop) :=
  match op with
  | .add => some (arithA k (x + y))
  | .sub => some (arithA k (x - y))
  | .mul => some (arithA k (x * y))
  | .quo => some ((arithA k (x.tdiv y)).1, (arithA k (x.tdiv y)).2 ∧ y ≠ 0)
  | .rem => some (.r (.int k (x.tmod y)), y ≠ 0)
  | .and => some (.r (.int k (ibit .and k x y)), True)
  | .or => some (.r (.int k (ibit .or k x y)), True)
  | .xor => some (.r (.int k (ibit .xor k x y)), True)
  | .andNot => some (.r (.int k (ibit .andNot k x y)), True)
  | op => (cmpA op x y).map fun v => (v, True)

def shiftA (op : BinOp) (k : IntKind) (x y : Int) : Option (AVal × Prop) :=
  match op with
  | .shl => some ((arithA k (x * 2 ^ (min y.toNat k.bits))).1, (arithA k (x * 2 ^ (min y.toNat k.bits))).2 ∧ 0 ≤ y)
  | .shr => some (.r (.int k (x.fdiv (2 ^ (min y.toNat k.bits)))), 0 ≤ y)
  | _ => none

end Go.Proofs.Ytplfajhaehkhnaa

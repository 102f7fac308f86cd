/-
  ABSTRACT MACHINE, 4: the operations that touch no memory, reckoned over abstract values.
-/
import Derived.Test.YtplfajhaehkhnaaA3
import Derived.Lib.Strings
namespace Go.Proofs.Ytplfajhaehkhnaa
open Go

def mulz (i : Int) (z : Nat) : Nat := match z with | 1 => i.toNat | z => i.toNat * z
def addo (o x : Nat) : Nat := match o with | 0 => x | o => o + x
theorem mulz_eq (i : Int) (z : Nat) : mulz i z = i.toNat * z := by unfold mulz; split <;> simp
theorem addo_eq (o x : Nat) : addo o x = o + x := by unfold addo; split <;> simp

def strA (op : BinOp) (a b : List UInt8) : Option (AVal × Prop) :=
  match op with
  | .add => some (.r (.str (a ++ b)), a.length + b.length ≤ 9223372036854775807)
  | .eql => some (.r (.bool (decide (a = b))), True)
  | .neq => some (.r (.bool (decide (a ≠ b))), True)
  | _ => none

def eqlA (T : TTab) (t : TypeId) : AVal → AVal → Option Bool
  | .ptr _ _, .r .nilp | .r .nilp, .ptr _ _ => match T.look t with | some { k := .ptr _, .. } => some false | _ => none
  | .r .nilp, .r .nilp => match T.look t with | some { k := .ptr _, .. } => some true | _ => none
  | .agg xs, .agg ys => match T.look t with | some { k := .arr _ _, .. } | some { k := .struct _, .. } => eqT T 60 t xs ys | _ => none
  | .r (.bool a), .r (.bool b) => match T.look t with | some { k := .bool, .. } => some (a == b) | _ => none
  | _, _ => none

def binOpA (T : TTab) (op : BinOp) (t : TypeId) (x y : AVal) : Option (AVal × Prop) :=
  match x, y with
  | .r (.int k a), .r (.int k' b) =>
    match op with
    | .shl => shiftA .shl k a b
    | .shr => shiftA .shr k a b
    | op => if k = k' then binA op k a b else none
  | .r (.str a), .r (.str b) => strA op a b
  | x, y =>
    match op with
    | .eql => (eqlA T t x y).map fun b => (.r (.bool b), True)
    | .neq => (eqlA T t x y).map fun b => (.r (.bool !b), True)
    | _ => none

def unOpA (op : UnOp) (x : AVal) : Option (AVal × Prop) :=
  match op, x with
  | .neg, .r (.int k n) => some (arithA k (0 - n))
  | .not, .r (.bool b) => some (.r (.bool !b), True)
  | .xor, .r (.int k n) => some (.r (.int k (ibit .xor k (if k.signed then -1 else k.max) n)), True)
  | _, _ => none

def convA (T : TTab) (dst : TypeId) (x : AVal) : Option (AVal × Prop) :=
  match T.look dst, x with
  | some { k := .int k, .. }, .r (.int _ n) => some (arithA k n)
  | some { k := .str, .. }, .r (.str s) => some (.r (.str s), True)
  | _, _ => none

def convB (T : TTab) (k : TyK) (dst : TypeId) (x : AVal) : Option (AVal × Prop) :=
  match k, T.look dst, x with
  | .slice e, some { k := .str, .. }, .r (.bs s) => match T.look e with | some { k := .int .u8, .. } => some (.r (.str s), True) | _ => none
  | .slice e, some { k := .str, .. }, .r .nil => match T.look e with | some { k := .int .u8, .. } => some (.r (.str []), True) | _ => none
  | _, _, _ => none

def pickL (t : Bool) (a b : AVal) : Option (AVal × Prop) :=
  match t with
  | true => some (a, True)
  | false => some (b, True)

def pickA (c a b : AVal) : Option (AVal × Prop) :=
  match c with
  | .r (.bool t) =>
    match a, b with
    | .r (.bool x), .r (.bool y) => some (.r (.bool (bif t then x else y)), True)
    | .r x, .r y => some (.r (bif t then x else y), True)
    | a, b => pickL t a b
  | _ => none

def placesA (T : TTab) : List (Nat × TypeId) → Option (List (Nat × Nat))
  | [] => some []
  | (off, ft) :: l =>
    match T.look ft, placesA T l with
    | some ty, some r => some ((off, ty.size) :: r)
    | _, _ => none

def buildA (T : TTab) (t : TypeId) (parts : List (Nat × AVal)) : Option (AVal × Prop) :=
  match T.look t with
  | some { k := .struct fs, size := _, bytes := _, zero := z } =>
    match placesA T fs with
    | some pl =>
      match fillA (fun i => pl[i]?) (z.map .r) parts with
      | some cells => forceL cells fun cs => some (.agg cs, z ≠ [])
      | none => none
    | none => none
  | some { k := .arr _ e, size := _, bytes := _, zero := z } =>
    match T.look e with
    | some te =>
      match fillA (fun i => some (i * te.size, te.size)) (z.map .r) parts with
      | some cells => forceL cells fun cs => some (.agg cs, z ≠ [])
      | none => none
    | none => none
  | _ => none

def partA (T : TTab) (t : TypeId) (cs : List AVal) (off : Nat) : Option AVal :=
  match T.look t with
  | some ty => if ty.k.agg = true then forceL (partL T t cs off) fun xs => some (.agg xs) else cs[off]?
  | none => none

def fieldA (T : TTab) (t : TypeId) (x : AVal) (f : Nat) : Option (AVal × Prop) :=
  match T.look t, x with
  | some { k := .struct fs, .. }, .agg cs =>
    match fs[f]? with
    | some (off, ft) => (partA T ft cs off).map fun v => (v, True)
    | none => none
  | _, _ => none

def fieldAddrA (T : TTab) (t : TypeId) (x : AVal) (f : Nat) : Option (AVal × Prop) :=
  match T.look t with
  | some { k := .struct fs, .. } =>
    match fs[f]? with
    | some (off, ft) =>
      match T.look ft with
      | some ty =>
        match ty.size, x with
        | 0, _ => none
        | _, .ptr β o => some (.ptr β (addo o off), True)
        | _, .rp xs o => some (.rp xs (addo o off), True)
        | _, _ => none
      | none => none
    | none => none
  | _ => none

def indexAddrA (T : TTab) (t : TypeId) (x i : AVal) : Option (AVal × Prop) :=
  match T.look t, i with
  | some { k := .slice e, .. }, .r (.int _ i) =>
    match T.look e, x with
    | some te, .sl β off n z => bif Nat.beq te.size z then some (.ptr β (addo off (mulz i z)), 0 ≤ i ∧ i < n) else none
    | some te, .r (.ro n xs) => some (.rp xs (mulz i te.size), (0 ≤ i ∧ i < n) ∧ xs ≠ [])
    | some te, .r (.bs s) => bif Nat.beq te.size 1 then some (.bp s i.toNat, 0 ≤ i ∧ i < s.length) else none
    | _, _ => none
  | some { k := .arr n e, .. }, .r (.int _ i) =>
    match T.look e, x with
    | some te, .ptr β off => some (.ptr β (addo off (mulz i te.size)), 0 ≤ i ∧ i < n)
    | some te, .rp xs off => some (.rp xs (addo off (mulz i te.size)), 0 ≤ i ∧ i < n)
    | _, _ => none
  | _, _ => none

def indexA (T : TTab) (t : TypeId) (x i : AVal) : Option (AVal × Prop) :=
  match T.look t, x, i with
  | some { k := .arr n e, .. }, .agg cs, .r (.int _ i) =>
    match T.look e with
    | some te => (partA T e cs (mulz i te.size)).map fun v => (v, 0 ≤ i ∧ i < n)
    | none => none
  | some { k := .str, .. }, .r (.str s), .r (.int _ i) => some (.r (.int .u8 (s.getD i.toNat 0).toNat), 0 ≤ i ∧ i < s.length)
  | _, _, _ => none

def optInt (ev : Operand → AVal) : Option Operand → Option (Option Int)
  | none => some none
  | some x => match ev x with | .r (.int _ n) => some (some n) | _ => none

/-- The bounds of a slice expression over n elements. -/
def boundsOk (n : Int) : Option Int → Option Int → Option Int → Prop
  | none, none, none => True
  | some l, none, none => 0 ≤ l ∧ l ≤ n
  | none, some h, none => 0 ≤ h ∧ h ≤ n
  | some l, some h, none => 0 ≤ l ∧ l ≤ h ∧ h ≤ n
  | none, some h, some m => 0 ≤ h ∧ h ≤ m ∧ m ≤ n
  | some l, some h, some m => 0 ≤ l ∧ l ≤ h ∧ h ≤ m ∧ m ≤ n
  | _, none, some _ => False

def cutL {α : Type} (xs : List α) (z : Nat) : Option Int → Option Int → List α
  | none, none => xs
  | some l, none => xs.drop (mulz l z)
  | none, some h => xs.take (mulz h z)
  | some l, some h => (xs.drop (mulz l z)).take (mulz (h - l) z)

def cutN (n : Nat) : Option Int → Option Int → Nat
  | none, none => n
  | some l, none => n - l.toNat
  | none, some h => h.toNat
  | some l, some h => (h - l).toNat

/-- A part that does not begin at its own end. -/
def mxOk (l : Int) : Option Int → Prop
  | none => True
  | some q => l < q
@[simp] theorem mxOk_none (l : Int) : mxOk l none = True := rfl
@[simp] theorem mxOk_some (l q : Int) : mxOk l (some q) = (l < q) := rfl

def sliceA (T : TTab) (t : TypeId) (x : AVal) (lo hi mx : Option Int) : Option (AVal × Prop) :=
  match T.look t, x with
  | some { k := .str, .. }, .r (.str s) =>
    match mx with
    | none => some (.r (.str (cutL s 1 lo hi)), boundsOk s.length lo hi none)
    | some _ => none
  | some { k := .slice e, .. }, .r (.bs s) =>
    match T.look e with
    | some te => bif Nat.beq te.size 1 then some (.r (.bs (cutL s 1 lo hi)), boundsOk s.length lo hi mx) else none
    | none => none
  | some { k := .slice e, .. }, .r (.ro n xs) =>
    match T.look e with
    | some te =>
      match lo, hi with
      | some l, none => some (.r (.ro (cutN n (some l) none) (cutL xs te.size (some l) none)), boundsOk n (some l) none mx ∧ xs.length = n * te.size)
      | lo, hi => some (.r (.ro (cutN n lo hi) (cutL xs te.size lo hi)), boundsOk n lo hi mx)
    | none => none
  | some { k := .slice e, .. }, .sl β off n z =>
    match T.look e, lo with
    | some te, none => bif Nat.beq te.size z then some (.sl β off (cutN n none hi) z, boundsOk n none hi mx) else none
    | some te, some l => bif Nat.beq te.size z then some (.sl β (addo off (mulz l z)) (cutN n (some l) hi) z, boundsOk n (some l) hi mx ∧ l < n ∧ mxOk l mx) else none
    | _, _ => none
  | _, _ => none

def lenA (T : TTab) (t : TypeId) (x : AVal) : Option Int :=
  match T.look t, x with
  | some { k := .str, .. }, .r (.str s) => some (s.length : Int)
  | some { k := .arr n _, .. }, _ => some (n : Int)
  | some { k := .slice _, .. }, .r (.bs s) => some (s.length : Int)
  | some { k := .slice _, .. }, .r (.ro n _) => some (n : Int)
  | some { k := .slice _, .. }, .r .nil => some 0
  | some { k := .slice _, .. }, .sl _ _ n _ => some (n : Int)
  | _, _ => none

def mmA (f : Int → Int → Int) : AVal → List AVal → Option AVal
  | .r (.int k x), [] => some (.r (.int k x))
  | .r (.int k x), .r (.int _ y) :: l => mmA f (.r (.int k (f x y))) l
  | _, _ => none

def builtinA (T : TTab) (b : Builtin) (argTypes : Array TypeId) (args : List AVal) : Option (AVal × Prop) :=
  match b, args with
  | .len, x :: _ => match argTypes.toList with | t :: _ => (lenA T t x).map fun n => (.r (.int .i64 n), True) | [] => none
  | .min, .r (.int k x) :: l => (mmA min (.r (.int k x)) l).map fun v => (v, True)
  | .max, .r (.int k x) :: l => (mmA max (.r (.int k x)) l).map fun v => (v, True)
  | _, _ => none

def pureOp (T : TTab) (ev : Operand → AVal) : Op → Option (AVal × Prop)
  | .move x | .assign x => some (ev x, True)
  | .pick c a b => pickA (ev c) (ev a) (ev b)
  | .build t parts => buildA T t (parts.toList.map fun p => (p.1, ev p.2))
  | .nilCheck x =>
    match ev x with
    | .ptr β o => some (.ptr β o, True)
    | .rp xs o => some (.rp xs o, True)
    | .bp s o => some (.bp s o, True)
    | .func f cs => some (.func f cs, True)
    | _ => none
  | .binOp op t x y _ => binOpA T op t (ev x) (ev y)
  | .unOp op _ x => unOpA op (ev x)
  | .convert src dst x => match T.look src with | some s => (match convB T s.k dst (ev x) with | some r => some r | none => convA T dst (ev x)) | none => none
  | .slice t x lo hi mx =>
    match optInt ev lo, optInt ev hi, optInt ev mx with
    | some l, some h, some m => sliceA T t (ev x) l h m
    | _, _, _ => none
  | .fieldAddr t x f => fieldAddrA T t (ev x) f
  | .field t x f => fieldA T t (ev x) f
  | .indexAddr t x i => indexAddrA T t (ev x) (ev i)
  | .index t x i => indexA T t (ev x) (ev i)
  | .extract x i => match ev x with | .tuple vs => (vs[i]?).map fun v => (v, True) | _ => none
  | .makeFunc fn first caps => match fn, first.toList with | .func f, [] => some (.func f (caps.toList.map ev), True) | _, _ => none
  | .call c => match c.callee with | .builtin b => builtinA T b c.argTypes (c.args.toList.map ev) | _ => none
  | _ => none

end Go.Proofs.Ytplfajhaehkhnaa

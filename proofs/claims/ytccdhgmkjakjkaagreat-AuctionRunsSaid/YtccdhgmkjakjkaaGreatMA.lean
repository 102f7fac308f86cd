/-
  THE ABSTRACT MACHINE: texts 1 to 16.
-/
import Derived.Calls
import Derived.ChangeCalls
import Derived.KernelRfl
import Derived.RowKit3
import Derived.Below
import Derived.DeepKeys
import Derived.Laws.StructEq
import Derived.Laws.Cells
import Derived.Lib.ConvBytes
import Derived.Lib.Strings
import Derived.Laws.IdiomStrings
import Derived.ScopeJumps
import Derived.LoopTactic
import Derived.Orders
import Derived.AtR
import Derived.RangeFuncLeaves
import Derived.Laws.IdiomCopy
import Derived.RangeFuncRecord
import Derived.Laws.AppendOwn
import Derived.Laws.MakeOwn
namespace Go.Proofs.YtccdhgmkjakjkaaGreat
open Go
inductive RVal where
 | int (k : IntKind) (n : Int)
 | bool (b : Bool)
 | str (s : List UInt8)
 | nil
 | nilp
 | bs (s : List UInt8)
 | ro (n : Nat) (xs : List RVal)
 deriving Inhabited
def byteV (b : UInt8) : Value := .int .u8 b.toNat
def bytesV (s : List UInt8) : List Value := s.map byteV
inductive AVal where
 | r (v : RVal)
 | sl (β off n z : Nat)
 | ptr (β off : Nat)
 | func (f : FuncId) (caps : List AVal)
 | agg (cs : List AVal)
 | tuple (vs : List AVal)
 | rp (xs : List RVal) (o : Nat)
 | bp (s : List UInt8) (o : Nat)
 | yld (l : Nat)
 | any
 deriving Inhabited
inductive Body where
 | bytes (s : List UInt8)
 | plain (xs : List RVal)
 | mixed (cs : List AVal)
 deriving Inhabited
abbrev ABlk := Body
def Body.cells : Body → List AVal
 | .bytes s => s.map fun b => .r (.int .u8 b.toNat)
 | .plain xs => xs.map .r
 | .mixed cs => cs
structure Hp where
 nxt : Nat
 tab : List (Nat × Option ABlk)
 gh : Bool := false
def Hp.look : List (Nat × Option ABlk) → Nat → Option ABlk
 | [], _ => none
 | (a, v) :: l, n => bif Nat.beq a n then v else Hp.look l n
def Hp.get (h : Hp) (β : Nat) : Option ABlk := Hp.look h.tab β
def RowAt (R : Nat → Prop) (w : World) (a : Option Addr) (cs : List Value) : Prop :=
 cs = [] ∨ ∃ b o, a = some ⟨b, o, none⟩ ∧ R b ∧ ∀ j v, cs[j]? = some v → w.cell? ⟨b, o + j, none⟩ = some v
mutual
def RRel (R : Nat → Prop) (w : World) : RVal → Value → Prop
 | .int k n, c => c = .int k n
 | .bool b, c => c = .bool b
 | .str s, c => c = .string ⟨⟨s⟩⟩
 | .nil, c => ∃ a, c = .slice a 0 0
 | .nilp, c => c = .pointer none
 | .bs s, c => ∃ a cap, c = .slice a s.length cap ∧ s.length ≤ cap ∧ RowAt R w a (bytesV s)
 | .ro n xs, c => ∃ a cap cs, c = .slice a n cap ∧ n ≤ cap ∧ RowAt R w a cs ∧ RRels R w xs cs
def RRels (R : Nat → Prop) (w : World) : List RVal → List Value → Prop
 | [], cs => cs = []
 | x :: xs, cs => ∃ c r, cs = c :: r ∧ RRel R w x c ∧ RRels R w xs r
end
abbrev Mu := List (Nat × Nat)
mutual
def ARel (R : Nat → Prop) (μ : Mu) (w : World) : AVal → Value → Prop
 | .r v, c => RRel R w v c
 | .sl β off n z, c => ∃ b o cap cells e fz, μ[β]? = some (b, o) ∧ c = .slice (some ⟨b, o + off, none⟩) n cap ∧ n ≤ cap ∧ cap ≤ maxLen ∧
   w.heap[b]? = some (.cells cells e fz) ∧ o + off + cap * z ≤ cells.size
 | .ptr β off, c => ∃ b o, μ[β]? = some (b, o) ∧ c = .pointer (some ⟨b, o + off, none⟩)
 | .func f caps, c => ∃ cs : List Value, c = .func (.func f) #[] ⟨cs⟩ ∧ ARels R μ w caps cs
 | .agg xs, c => ∃ cs : List Value, c = .agg ⟨cs⟩ ∧ ARels R μ w xs cs
 | .tuple xs, c => ∃ cs : List Value, c = .tuple ⟨cs⟩ ∧ ARels R μ w xs cs
 | .rp xs o, c => ∃ b o0 cs, c = .pointer (some ⟨b, o0 + o, none⟩) ∧ R b ∧ (∀ j v, cs[j]? = some v → w.cell? ⟨b, o0 + j, none⟩ = some v) ∧ RRels R w xs cs
 | .bp s o, c => ∃ b o0, c = .pointer (some ⟨b, o0 + o, none⟩) ∧ R b ∧ (∀ j v, (bytesV s)[j]? = some v → w.cell? ⟨b, o0 + j, none⟩ = some v)
 | .yld l, c => c = .func (.yield l) #[] #[]
 | .any, _ => True
def ARels (R : Nat → Prop) (μ : Mu) (w : World) : List AVal → List Value → Prop
 | [], cs => cs = []
 | x :: xs, cs => ∃ c r, cs = c :: r ∧ ARel R μ w x c ∧ ARels R μ w xs r
end
structure Onward (R : Nat → Prop) (w w' : World) : Prop where
 same : ∀ k, R k → w'.heap[k]? = w.heap[k]?
 shape : ∀ (k : Nat) (c : Array Value) (e : TypeId) (f : Nat × Nat), w.heap[k]? = some (Obj.cells c e f) → ∃ (c' : Array Value) (f' : Nat × Nat), w'.heap[k]? = some (Obj.cells c' e f') ∧ c'.size = c.size
theorem Onward.refl (R : Nat → Prop) (w : World) : Onward R w w := ⟨fun _ _ => rfl, fun _ c _ f h => ⟨c, f, h, rfl⟩⟩
theorem Onward.cell {R : Nat → Prop} {w w' : World} (h : Onward R w w') {b o : Nat} (hb : R b) : w'.cell? ⟨b, o, none⟩ = w.cell? ⟨b, o, none⟩ :=
 World.cell?_of_block (w := w) (h.same b hb)
theorem RowAt.mono {R R' : Nat → Prop} {w w' : World} (hR : ∀ k, R k → R' k) (hw : Onward R w w') {a : Option Addr} {cs : List Value} (h : RowAt R w a cs) : RowAt R' w' a cs := by
 rcases h with h | ⟨b, o, ha, hb, hc⟩
 ·exact .inl h
 ·exact .inr ⟨b, o, ha, hR b hb, fun j v hj => (hw.cell hb).trans (hc j v hj)⟩
mutual
theorem RRel.mono {R R' : Nat → Prop} {w w' : World} (hR : ∀ k, R k → R' k) (hw : Onward R w w') : ∀ (v : RVal) (c : Value), RRel R w v c → RRel R' w' v c
 | .int _ _, _, h => by simpa [RRel] using h
 | .bool _, _, h => by simpa [RRel] using h
 | .str _, _, h => by simpa [RRel] using h
 | .nil, _, h => by simpa [RRel] using h
 | .nilp, _, h => by simpa [RRel] using h
 | .bs s, c, h => by
  simp only [RRel] at h ⊢
  obtain ⟨a, cap, h1, h2, h3⟩ := h
  exact ⟨a, cap, h1, h2, h3.mono hR hw⟩
 | .ro n xs, c, h => by
  simp only [RRel] at h ⊢
  obtain ⟨a, cap, cs, h1, h2, h3, h4⟩ := h
  exact ⟨a, cap, cs, h1, h2, h3.mono hR hw, RRels.mono hR hw xs cs h4⟩
theorem RRels.mono {R R' : Nat → Prop} {w w' : World} (hR : ∀ k, R k → R' k) (hw : Onward R w w') : ∀ (v : List RVal) (c : List Value), RRels R w v c → RRels R' w' v c
 | [], _, h => by simpa [RRels] using h
 | x :: xs, c, h => by
  simp only [RRels] at h ⊢
  obtain ⟨a, r, h1, h2, h3⟩ := h
  exact ⟨a, r, h1, RRel.mono hR hw x a h2, RRels.mono hR hw xs r h3⟩
end
mutual
theorem ARel.mono {R R' : Nat → Prop} {μ μ' : Mu} {w w' : World} (hR : ∀ k, R k → R' k) (hw : Onward R w w') (hm : ∀ (β : Nat) p, μ[β]? = some p → μ'[β]? = some p) :
  ∀ (v : AVal) (c : Value), ARel R μ w v c → ARel R' μ' w' v c
 | .r v, c, h => by simp only [ARel] at h ⊢; exact h.mono hR hw
 | .sl β off n z, c, h => by
  simp only [ARel] at h ⊢
  obtain ⟨b, o, cap, cells, e, fz, h1, h2, h3, h4, h5, h6⟩ := h
  obtain ⟨c', f', h7, h8⟩ := hw.shape _ _ _ _ h5
  exact ⟨b, o, cap, c', e, f', hm _ _ h1, h2, h3, h4, h7, by omega⟩
 | .ptr β off, c, h => by
  simp only [ARel] at h ⊢
  obtain ⟨b, o, h1, h2⟩ := h
  exact ⟨b, o, hm _ _ h1, h2⟩
 | .func f caps, c, h => by
  simp only [ARel] at h ⊢
  obtain ⟨cs, h1, h2⟩ := h
  exact ⟨cs, h1, ARels.mono hR hw hm caps cs h2⟩
 | .agg xs, c, h => by
  simp only [ARel] at h ⊢
  obtain ⟨cs, h1, h2⟩ := h
  exact ⟨cs, h1, ARels.mono hR hw hm xs cs h2⟩
 | .tuple xs, c, h => by
  simp only [ARel] at h ⊢
  obtain ⟨cs, h1, h2⟩ := h
  exact ⟨cs, h1, ARels.mono hR hw hm xs cs h2⟩
 | .rp xs o, c, h => by
  simp only [ARel] at h ⊢
  obtain ⟨b, o0, cs, h1, h2, h3, h4⟩ := h
  exact ⟨b, o0, cs, h1, hR b h2, fun j v hj => (hw.cell h2).trans (h3 j v hj), h4.mono hR hw⟩
 | .bp s o, c, h => by
  simp only [ARel] at h ⊢
  obtain ⟨b, o0, h1, h2, h3⟩ := h
  exact ⟨b, o0, h1, hR b h2, fun j v hj => (hw.cell h2).trans (h3 j v hj)⟩
 | .yld _, _, h => by simpa only [ARel] using h
 | .any, _, _ => by simp only [ARel]
theorem ARels.mono {R R' : Nat → Prop} {μ μ' : Mu} {w w' : World} (hR : ∀ k, R k → R' k) (hw : Onward R w w') (hm : ∀ (β : Nat) p, μ[β]? = some p → μ'[β]? = some p) :
  ∀ (v : List AVal) (c : List Value), ARels R μ w v c → ARels R' μ' w' v c
 | [], _, h => by simpa [ARels] using h
 | x :: xs, c, h => by
  simp only [ARels] at h ⊢
  obtain ⟨a, r, h1, h2, h3⟩ := h
  exact ⟨a, r, h1, ARel.mono hR hw hm x a h2, ARels.mono hR hw hm xs r h3⟩
end
theorem RRels.length {R : Nat → Prop} {w : World} : ∀ {xs : List RVal} {cs : List Value}, RRels R w xs cs → cs.length = xs.length
 | [], _, h => by simp only [RRels] at h; simp [h]
 | x :: xs, _, h => by
  simp only [RRels] at h
  obtain ⟨c, r, rfl, _, h⟩ := h
  simp [h.length]
theorem ARels.length {R : Nat → Prop} {μ : Mu} {w : World} : ∀ {xs : List AVal} {cs : List Value}, ARels R μ w xs cs → cs.length = xs.length
 | [], _, h => by simp only [ARels] at h; simp [h]
 | x :: xs, _, h => by
  simp only [ARels] at h
  obtain ⟨c, r, rfl, _, h⟩ := h
  simp [h.length]
theorem RRels.get {R : Nat → Prop} {w : World} : ∀ {xs : List RVal} {cs : List Value}, RRels R w xs cs → ∀ {i : Nat} {v : RVal}, xs[i]? = some v → ∃ c, cs[i]? = some c ∧ RRel R w v c
 | [], _, _, i, v, hi => by simp at hi
 | x :: xs, _, h, i, v, hi => by
  simp only [RRels] at h
  obtain ⟨c, r, rfl, h1, h2⟩ := h
  cases i with
  | zero => simp at hi; subst hi; exact ⟨c, by simp, h1⟩
  | succ i => simp at hi; obtain ⟨d, h3, h4⟩ := h2.get hi; exact ⟨d, by simpa using h3, h4⟩
theorem ARels.get {R : Nat → Prop} {μ : Mu} {w : World} : ∀ {xs : List AVal} {cs : List Value}, ARels R μ w xs cs → ∀ {i : Nat} {v : AVal}, xs[i]? = some v → ∃ c, cs[i]? = some c ∧ ARel R μ w v c
 | [], _, _, i, v, hi => by simp at hi
 | x :: xs, _, h, i, v, hi => by
  simp only [ARels] at h
  obtain ⟨c, r, rfl, h1, h2⟩ := h
  cases i with
  | zero => simp at hi; subst hi; exact ⟨c, by simp, h1⟩
  | succ i => simp at hi; obtain ⟨d, h3, h4⟩ := h2.get hi; exact ⟨d, by simpa using h3, h4⟩
theorem ARels.of_r {R : Nat → Prop} {μ : Mu} {w : World} : ∀ {xs : List RVal} {cs : List Value}, ARels R μ w (xs.map .r) cs ↔ RRels R w xs cs
 | [], _ => by simp [ARels, RRels]
 | x :: xs, cs => by simp only [List.map_cons, ARels, RRels, ARel, ARels.of_r]
theorem ARels.append {R : Nat → Prop} {μ : Mu} {w : World} : ∀ {xs ys : List AVal} {cs ds : List Value}, ARels R μ w xs cs → ARels R μ w ys ds → ARels R μ w (xs ++ ys) (cs ++ ds)
 | [], _, _, _, h, k => by simp only [ARels] at h; simpa [h] using k
 | x :: xs, _, _, _, h, k => by
  simp only [ARels] at h
  obtain ⟨c, r, rfl, h1, h2⟩ := h
  simp only [List.cons_append, ARels]
  exact ⟨c, _, rfl, h1, h2.append k⟩
theorem RRels.append {R : Nat → Prop} {w : World} : ∀ {xs ys : List RVal} {cs ds : List Value}, RRels R w xs cs → RRels R w ys ds → RRels R w (xs ++ ys) (cs ++ ds)
 | [], _, _, _, h, k => by simp only [RRels] at h; simpa [h] using k
 | x :: xs, _, _, _, h, k => by
  simp only [RRels] at h
  obtain ⟨c, r, rfl, h1, h2⟩ := h
  simp only [List.cons_append, RRels]
  exact ⟨c, _, rfl, h1, h2.append k⟩
theorem ARels.drop {R : Nat → Prop} {μ : Mu} {w : World} : ∀ (n : Nat) {xs : List AVal} {cs : List Value}, ARels R μ w xs cs → ARels R μ w (xs.drop n) (cs.drop n)
 | 0, _, _, h => by simpa using h
 | n + 1, [], _, h => by simp only [ARels] at h; simp [h, ARels]
 | n + 1, x :: xs, _, h => by
  simp only [ARels] at h
  obtain ⟨c, r, rfl, _, h2⟩ := h
  simpa using h2.drop n
theorem ARels.take {R : Nat → Prop} {μ : Mu} {w : World} : ∀ (n : Nat) {xs : List AVal} {cs : List Value}, ARels R μ w xs cs → ARels R μ w (xs.take n) (cs.take n)
 | 0, _, _, _ => by simp [ARels]
 | n + 1, [], _, h => by simp only [ARels] at h; simp [h, ARels]
 | n + 1, x :: xs, _, h => by
  simp only [ARels] at h
  obtain ⟨c, r, rfl, h1, h2⟩ := h
  simp only [List.take_succ_cons, ARels]
  exact ⟨c, _, rfl, h1, h2.take n⟩
theorem RRels.drop {R : Nat → Prop} {w : World} : ∀ (n : Nat) {xs : List RVal} {cs : List Value}, RRels R w xs cs → RRels R w (xs.drop n) (cs.drop n)
 | 0, _, _, h => by simpa using h
 | n + 1, [], _, h => by simp only [RRels] at h; simp [h, RRels]
 | n + 1, x :: xs, _, h => by
  simp only [RRels] at h
  obtain ⟨c, r, rfl, _, h2⟩ := h
  simpa using h2.drop n
theorem RRels.take {R : Nat → Prop} {w : World} : ∀ (n : Nat) {xs : List RVal} {cs : List Value}, RRels R w xs cs → RRels R w (xs.take n) (cs.take n)
 | 0, _, _, _ => by simp [RRels]
 | n + 1, [], _, h => by simp only [RRels] at h; simp [h, RRels]
 | n + 1, x :: xs, _, h => by
  simp only [RRels] at h
  obtain ⟨c, r, rfl, h1, h2⟩ := h
  simp only [List.take_succ_cons, RRels]
  exact ⟨c, _, rfl, h1, h2.take n⟩
theorem ARels.set {R : Nat → Prop} {μ : Mu} {w : World} : ∀ {xs : List AVal} {cs : List Value}, ARels R μ w xs cs → ∀ (i : Nat) {v : AVal} {c : Value}, ARel R μ w v c → ARels R μ w (xs.set i v) (cs.set i c)
 | [], _, h, _, _, _, _ => by simp only [ARels] at h; simp [h, ARels]
 | x :: xs, _, h, i, v, c, hv => by
  simp only [ARels] at h
  obtain ⟨d, r, rfl, h1, h2⟩ := h
  cases i with
  | zero => simp only [List.set_cons_zero, ARels]; exact ⟨c, r, rfl, hv, h2⟩
  | succ i => simp only [List.set_cons_succ, ARels]; exact ⟨d, _, rfl, h1, h2.set i hv⟩
end Go.Proofs.YtccdhgmkjakjkaaGreat
namespace Go.Proofs.YtccdhgmkjakjkaaGreat
open Go
inductive TyK where
 | int (k : IntKind)
 | bool
 | str
 | slice (e : TypeId)
 | arr (n : Nat) (e : TypeId)
 | struct (fs : List (Nat × TypeId))
 | ptr (e : TypeId)
 | other
structure Ty where
 k : TyK
 size : Nat
 bytes : Nat
 zero : List RVal
abbrev TTab := List (Nat × Ty)
def TTab.look : TTab → Nat → Option Ty
 | [], _ => none
 | (a, v) :: l, n => bif Nat.beq a n then some v else TTab.look l n
def RVal.conc : RVal → Value
 | .int k n => .int k n
 | .bool b => .bool b
 | .str s => .string ⟨⟨s⟩⟩
 | .nil => .slice none 0 0
 | .nilp => .pointer none
 | .bs _ => undef
 | .ro _ _ => undef
def RVal.flat : RVal → Bool
 | .bs _ => false
 | .ro _ _ => false
 | _ => true
def TyK.ok (d : TypeDesc) : TyK → Prop
 | .int k => d = .int k
 | .bool => d = .bool
 | .str => d = .string
 | .slice e => d = .slice e
 | .arr n e => d = .array n e
 | .struct fs => ∃ a : Array Field, d = .struct a ∧ a.toList.map (fun f => (f.offset, f.type)) = fs ∧ a.toList.all (fun f => f.name != "_") = true
 | .ptr e => d = .pointer e
 | .other => (match d with | .struct _ | .array _ _ => false | _ => true) = true
def TyK.agg : TyK → Bool
 | .arr _ _ | .struct _ => true
 | _ => false
structure TyOk (P : Program) (t : TypeId) (ty : Ty) : Prop where
 leaf : ty.k.agg = false → ty.size = 1
 ex : ∃ d i, P.underlying t = some d ∧ P.info? t = some i ∧ i.size = ty.size ∧ i.bytes = ty.bytes ∧ ty.k.ok d ∧
  (ty.k.agg = true → P.stoodInHeld t = false ∧ P.eqGuardType P.depth t = false) ∧
  (ty.zero = [] ∨ ∃ z, i.zero = some z ∧ z.cells.toList = ty.zero.map RVal.conc ∧ ty.zero.all RVal.flat = true)
def TOk (P : Program) (T : TTab) : Prop := ∀ t ty, T.look t = some ty → TyOk P t ty
theorem beq_ne {a t : Nat} (e : ¬a = t) : Nat.beq a t = false := by
 cases h : Nat.beq a t
 ·rfl
 ·exact absurd (Nat.eq_of_beq_eq_true h) e
theorem TOk.nil (P : Program) : TOk P [] := by intro t ty h; simp [TTab.look] at h
theorem TOk.cons {P : Program} {T : TTab} {a : Nat} {ty : Ty} (h : TyOk P a ty) (hT : TOk P T) : TOk P ((a, ty) :: T) := by
 intro t u hu
 simp only [TTab.look] at hu
 by_cases e : a = t
 ·subst e; simp at hu; subst hu; exact h
 ·have : Nat.beq a t = false := beq_ne e
  rw [this] at hu; exact hT t u hu
def constA : Value → AVal
 | .int k n => .r (.int k n)
 | .bool b => .r (.bool b)
 | .string s => .r (.str s.data.toList)
 | .slice none 0 0 => .r .nil
 | .pointer none => .r .nilp
 | .func (.func f) ⟨[]⟩ ⟨[]⟩ => .func f []
 | _ => .any
abbrev Regs := List (Nat × AVal)
def lookR : Regs → Nat → AVal
 | [], _ => .any
 | (a, v) :: l, n => bif Nat.beq a n then v else lookR l n
def evA (g : Regs) : Operand → AVal
 | .tmp t => lookR g t
 | .const v => constA v
 | .func f => .func f []
 | .global _ => .any
theorem constA_rel (R : Nat → Prop) (μ : Mu) (w : World) (v : Value) : ARel R μ w (constA v) v := by
 unfold constA
 split <;> simp [ARel, RRel, ARels]
def RegRel (R : Nat → Prop) (μ : Mu) (w : World) (g : Regs) (tmps : Array Value) : Prop := ∀ t, ARel R μ w (lookR g t) (tmps.getD t undef)
theorem RegRel.mono {R R' : Nat → Prop} {μ μ' : Mu} {w w' : World} {g : Regs} {tmps : Array Value} (hR : ∀ k, R k → R' k) (hw : Onward R w w') (hm : ∀ (β : Nat) p, μ[β]? = some p → μ'[β]? = some p)
  (h : RegRel R μ w g tmps) : RegRel R' μ' w' g tmps := fun t => (h t).mono hR hw hm
theorem RegRel.put {R : Nat → Prop} {μ : Mu} {w : World} {g : Regs} {tmps : Array Value} (h : RegRel R μ w g tmps) {d : Nat} (hd : d < tmps.size) {v : AVal} {c : Value} (hv : ARel R μ w v c) :
  RegRel R μ w ((d, v) :: g) (tmps.setIfInBounds d c) := by
 intro t
 simp only [lookR]
 by_cases e : d = t
 ·subst e; simp [Array.getD, hd]; exact hv
 ·have : Nat.beq d t = false := beq_ne e
  rw [this]
  have e2 : (tmps.setIfInBounds d c).getD t undef = tmps.getD t undef := by
   simp only [Array.getD_eq_getD_getElem?, Array.getElem?_setIfInBounds, e, if_false]
  rw [e2]; exact h t
theorem evA_rel {R : Nat → Prop} {μ : Mu} {w : World} {g : Regs} {a : Act} (h : RegRel R μ w g a.tmps) (x : Operand) : ARel R μ w (evA g x) (a.eval x) := by
 cases x with
 | tmp t => exact h t
 | const v => exact constA_rel R μ w v
 | global g => simp [evA, ARel]
 | func f => simp [evA, ARel, ARels, Act.eval]
def forceL {β : Type} : List AVal → (List AVal → Option β) → Option β
 | [], k => k []
 | x :: xs, k => forceL xs fun ys => k (x :: ys)
theorem forceL_eq {β : Type} : ∀ (l : List AVal) (k : List AVal → Option β), forceL l k = k l
 | [], _ => rfl
 | x :: xs, k => by simp only [forceL, forceL_eq xs]
def AVal.cellsA : AVal → Option (List AVal)
 | .agg cs => some cs
 | .any => none
 | .tuple _ => none
 | v => some [v]
def forceR {β : Type} (v : RVal) (k : RVal → β) : β :=
 match v with
 | .int t n => k (.int t n)
 | .bool b => k (.bool b)
 | .str s => k (.str s)
 | .nil => k .nil
 | .nilp => k .nilp
 | .bs s => k (.bs s)
 | .ro n xs => k (.ro n xs)
def forceV {β : Type} (v : AVal) (k : AVal → β) : β :=
 match v with
 | .r x => forceR x fun x => k (.r x)
 | .sl a b c d => k (.sl a b c d)
 | .ptr a b => k (.ptr a b)
 | .func f l => k (.func f l)
 | .agg l => k (.agg l)
 | .tuple l => k (.tuple l)
 | .rp a b => k (.rp a b)
 | .bp a b => k (.bp a b)
 | .yld l => k (.yld l)
 | .any => k .any
theorem forceV_eq {β : Type} (v : AVal) (k : AVal → β) : forceV v k = k v := by
 cases v <;> first | rfl | (rename_i x; cases x <;> rfl)
def cellsF (v : AVal) : Option (List AVal) := forceV v AVal.cellsA
theorem cellsF_eq (v : AVal) : cellsF v = v.cellsA := by simp only [cellsF, forceV_eq]
def setsL : List AVal → Nat → List AVal → List AVal
 | cells, _, [] => cells
 | cells, off, v :: vs => setsL (cells.set off v) (off + 1) vs
def fillA (place : Nat → Option (Nat × Nat)) : List AVal → List (Nat × AVal) → Option (List AVal)
 | cells, [] => some cells
 | cells, (i, v) :: rest =>
  match place i, cellsF v with
  | some (off, size), some vs => bif Nat.beq vs.length size && Nat.ble (off + size) cells.length then fillA place (setsL cells off vs) rest else none
  | _, _ => none
def ibit (op : BinOp) (k : IntKind) (x y : Int) : Int :=
 let a := BitVec.ofInt k.bits x
 let b := BitVec.ofInt k.bits y
 match op with
 | .and => k.wrap (a &&& b).toNat
 | .or => k.wrap (a ||| b).toNat
 | .xor => k.wrap (a ^^^ b).toNat
 | _ => k.wrap (a &&& ~~~b).toNat
def inI64 (x : Int) : Prop := -9223372036854775808 ≤ x ∧ x ≤ 9223372036854775807
def arithA (k : IntKind) (x : Int) : AVal × Prop :=
 match k with
 | .i64 => (.r (.int .i64 x), inI64 x)
 | k => (.r (.int k (k.wrap x)), True)
def cmpA (op : BinOp) (x y : Int) : Option AVal :=
 match op with
 | .eql => some (.r (.bool (decide (x = y))))
 | .neq => some (.r (.bool (decide (x ≠ y))))
 | .lss => some (.r (.bool (decide (x < y))))
 | .leq => some (.r (.bool (decide (x ≤ y))))
 | .gtr => some (.r (.bool (decide (x > y))))
 | .geq => some (.r (.bool (decide (x ≥ y))))
 | _ => none
def binA (op : BinOp) (k : IntKind) (x y : Int) : Option (AVal × Prop) :=
 match op with
 | .add => some (arithA k (x + y))
 | .sub => some (arithA k (x - y))
 | .mul => some (arithA k (x * y))
 | .quo => some ((arithA k (x.tdiv y)).1, (arithA k (x.tdiv y)).2 ∧ y ≠ 0)
 | .rem => some (.r (.int k (x.tmod y)), y ≠ 0)
 | .and => some (.r (.int k (ibit .and k x y)), True)
 | .or => some (.r (.int k (ibit .or k x y)), True)
 | .xor => some (.r (.int k (ibit .xor k x y)), True)
 | .andNot => some (.r (.int k (ibit .andNot k x y)), True)
 | op => (cmpA op x y).map fun v => (v, True)
def shiftA (op : BinOp) (k : IntKind) (x y : Int) : Option (AVal × Prop) :=
 match op with
 | .shl => some ((arithA k (x * 2 ^ (min y.toNat k.bits))).1, (arithA k (x * 2 ^ (min y.toNat k.bits))).2 ∧ 0 ≤ y)
 | .shr => some (.r (.int k (x.fdiv (2 ^ (min y.toNat k.bits)))), 0 ≤ y)
 | _ => none
end Go.Proofs.YtccdhgmkjakjkaaGreat
namespace Go.Proofs.YtccdhgmkjakjkaaGreat
open Go
def leafEq : TyK → AVal → AVal → Option Bool
 | .int _, .r (.int k a), .r (.int k' b) => if k = k' then some (decide (a = b)) else none
 | .bool, .r (.bool a), .r (.bool b) => some (a == b)
 | .str, .r (.str a), .r (.str b) => some (decide (a = b))
 | _, _, _ => none
def eqAll (g : Nat × TypeId → Option Bool) : List (Nat × TypeId) → Option Bool
 | [] => some true
 | [x] => g x
 | x :: y :: l =>
  match g x, eqAll g (y :: l) with
  | some a, some b => some (a && b)
  | _, _ => none
def partL {α : Type} (T : TTab) (t : TypeId) (xs : List α) (off : Nat) : List α :=
 match T.look t with
 | some ty => (xs.drop off).take ty.size
 | none => []
def eqT (T : TTab) : Nat → TypeId → List AVal → List AVal → Option Bool
 | 0, _, _, _ => none
 | d + 1, t, xs, ys =>
  match T.look t with
  | some { k := .struct fs, .. } => eqAll (fun p => eqT T d p.2 (partL T p.2 xs p.1) (partL T p.2 ys p.1)) fs
  | some { k := .arr n e, size := _, bytes := _, zero := _ } =>
   match T.look e with
   | some te => eqAll (fun p => eqT T d p.2 (partL T p.2 xs p.1) (partL T p.2 ys p.1)) ((List.range n).map fun i => (i * te.size, e))
   | none => none
  | some ty =>
   match xs, ys with
   | [x], [y] => leafEq ty.k x y
   | _, _ => none
  | none => none
def IsVal (T : TTab) (t : TypeId) (cs : List Value) (a : Value) : Prop :=
 ∃ ty, T.look t = some ty ∧ if ty.k.agg then a = .agg ⟨cs⟩ else cs = [a]
section
variable {P : Program} {T : TTab} {R : Nat → Prop} {μ : Mu} {w : World}
theorem leafEq_run {k : TyK} {x y : AVal} {b : Bool} (h : leafEq k x y = some b) {c e : Value} (hx : ARel R μ w x c) (hy : ARel R μ w y e) {t : TypeId} {ty : Ty}
  (ht : TyOk P t ty) (hk : ty.k = k) (d : Nat) : (Op.equalIn (d + 1) t c e).run P w = .ok b w := by
 obtain ⟨D, i, hD, hi, _, _, hok, _, _⟩ := ht.ex
 unfold leafEq at h
 split at h
 ·split at h <;> simp at h
  rename_i hkk
  subst h; subst hkk
  rw [hk] at hok
  simp only [TyK.ok] at hok
  simp only [ARel, RRel] at hx hy
  subst hx; subst hy; subst hok
  rw [run_equalIn_int w d t _ _ _ _ hD]
  congr 1
 ·simp at h
  subst h
  rw [hk] at hok
  simp only [TyK.ok] at hok
  simp only [ARel, RRel] at hx hy
  subst hx; subst hy; subst hok
  rw [run_equalIn_bool w d t _ _ hD]
 ·simp at h
  subst h
  rw [hk] at hok
  simp only [TyK.ok] at hok
  simp only [ARel, RRel] at hx hy
  subst hx; subst hy; subst hok
  rw [run_equalIn_string w d t _ _ hD, ByteArray.toList_eq, ByteArray.toList_eq]
  congr 1
  exact Bool.eq_iff_iff.2 (by simp)
 ·simp at h
theorem take_one_drop {α : Type} {cs : List α} {off : Nat} (h : off < cs.length) : (cs.drop off).take 1 = [cs[off]] := by
 rw [List.drop_eq_getElem_cons h]; rfl
theorem extract_mk (cs : List Value) (a n : Nat) : (⟨cs⟩ : Array Value).extract a (a + n) = ⟨(cs.drop a).take n⟩ := by
 apply Array.ext'
 rw [Array.toList_extract]
 simp
theorem isVal_part {t : TypeId} {ty : Ty} (hT : T.look t = some ty) (ht : TyOk P t ty) {cs : List Value} {off : Nat} (hl : ty.k.agg = false → off < cs.length) :
  ∃ a, (part t ⟨cs⟩ off).run P w = .ok a w ∧ IsVal T t (partL T t cs off) a := by
 obtain ⟨D, i, hD, hi, hs, _, hok, _, _⟩ := ht.ex
 have hz : P.cellsOf t = ty.size := by simp [Program.cellsOf, hi, hs]
 cases hk : ty.k <;> rw [hk] at hok <;> simp only [TyK.ok] at hok
 case arr n e =>
  subst hok
  refine ⟨.agg ((⟨cs⟩ : Array Value).extract off (off + ty.size)), by simp [part, isAgg, run_underlying hD, run_sizeOf w hi, hz], ty, hT, ?_⟩
  rw [extract_mk, if_pos (by rw [hk]; rfl)]
  unfold partL
  rw [hT]
 case struct fs =>
  obtain ⟨a, rfl, _⟩ := hok
  refine ⟨.agg ((⟨cs⟩ : Array Value).extract off (off + ty.size)), by simp [part, isAgg, run_underlying hD, run_sizeOf w hi, hz], ty, hT, ?_⟩
  rw [extract_mk, if_pos (by rw [hk]; rfl)]
  unfold partL
  rw [hT]
 case other =>
  have ho := hl (by simp [hk, TyK.agg])
  have h1 := ht.leaf (by simp [hk, TyK.agg])
  have e1 : (isAgg t).run P w = .ok false w := by
   simp only [isAgg, Sem.run_bind, run_underlying hD, Result.andThen_ok]
   cases D <;> simp_all
  refine ⟨cs[off], by simp [part, e1, ho], ty, hT, ?_⟩
  rw [if_neg (by rw [hk]; simp [TyK.agg])]
  unfold partL
  rw [hT]
  show (cs.drop off).take ty.size = _
  rw [h1, take_one_drop ho]
 all_goals
  have ho := hl (by simp [hk, TyK.agg])
  have h1 := ht.leaf (by simp [hk, TyK.agg])
  subst hok
  refine ⟨cs[off], by simp [part, isAgg, run_underlying hD, ho], ty, hT, ?_⟩
  rw [if_neg (by rw [hk]; simp [TyK.agg])]
  unfold partL
  rw [hT]
  show (cs.drop off).take ty.size = _
  rw [h1, take_one_drop ho]
theorem partL_rel {t : TypeId} {xs : List AVal} {cs : List Value} (h : ARels R μ w xs cs) (off : Nat) : ARels R μ w (partL T t xs off) (partL T t cs off) := by
 unfold partL
 split
 ·exact (h.drop off).take _
 ·simp [ARels]
theorem leafEq_one {k : TyK} {x y : AVal} {b : Bool} (h : leafEq k x y = some b) : k.agg = false := by
 unfold leafEq at h
 split at h <;> first | rfl | simp at h
theorem partL_one {t : TypeId} {ty : Ty} (hT : T.look t = some ty) {xs : List AVal} {x : AVal} {off : Nat} (h : partL T t xs off = [x]) : off < xs.length := by
 unfold partL at h
 rw [hT] at h
 rcases Nat.lt_or_ge off xs.length with h1 | h1
 ·exact h1
 ·simp [List.drop_eq_nil_of_le h1] at h
theorem eqT_place {d : Nat} {t : TypeId} {ty : Ty} (hT : T.look t = some ty) {xs ys : List AVal} {off off' : Nat} {b : Bool} (h : eqT T d t (partL T t xs off) (partL T t ys off') = some b) :
  ty.k.agg = false → off < xs.length ∧ off' < ys.length := by
 intro ha
 cases d with
 | zero => simp [eqT] at h
 | succ d =>
  simp only [eqT, hT] at h
  obtain ⟨k, size, bytes, zero⟩ := ty
  simp only at ha h ⊢
  cases k <;> simp [TyK.agg] at ha
  all_goals
   simp only at h
   split at h
   ·rename_i e1 e2
    exact ⟨partL_one hT e1, partL_one hT e2⟩
   ·simp at h
theorem eqAll_cons {g : Nat × TypeId → Option Bool} {x : Nat × TypeId} {l : List (Nat × TypeId)} {b : Bool} (h : eqAll g (x :: l) = some b) :
  (∃ a c, g x = some a ∧ eqAll g l = some c ∧ b = (a && c)) := by
 cases l with
 | nil => exact ⟨b, true, by simpa [eqAll] using h, rfl, by simp⟩
 | cons y l =>
  simp only [eqAll] at h
  split at h
  ·rename_i a c h1 h2
   simp at h
   exact ⟨a, c, h1, h2, h.symm⟩
  ·simp at h
theorem eqT_run (hTO : TOk P T) : ∀ (d : Nat) (t : TypeId) (xs ys : List AVal) (b : Bool), eqT T d t xs ys = some b → ∀ (cs ds : List Value), ARels R μ w xs cs → ARels R μ w ys ds →
  ∀ a c, IsVal T t cs a → IsVal T t ds c → ∀ d', d ≤ d' → (Op.equalIn d' t a c).run P w = .ok b w
 | 0, _, _, _, _, h => by simp [eqT] at h
 | d + 1, t, xs, ys, b, h => by
  intro cs ds hx hy a c ha hc d' hd'
  obtain ⟨d', rfl⟩ : ∃ m, d' = m + 1 := ⟨d' - 1, by omega⟩
  obtain ⟨ty, hT, ha⟩ := ha
  obtain ⟨ty', hT', hc⟩ := hc
  rw [hT] at hT'
  cases hT'
  have hok := hTO t ty hT
  obtain ⟨D, i, hD, hi, -, -, hk, hst, -⟩ := hok.ex
  have part_step : ∀ (f : TypeId) (o : Nat) (r : Bool), eqT T d f (partL T f xs o) (partL T f ys o) = some r → ∃ u v, (part f ⟨cs⟩ o).run P w = .ok u w ∧ (part f ⟨ds⟩ o).run P w = .ok v w ∧
    (Op.equalIn d' f u v).run P w = .ok r w := by
   intro f o r hr
   cases hf : T.look f with
   | none =>
    cases d with
    | zero => simp [eqT] at hr
    | succ d => simp [eqT, hf] at hr
   | some tf =>
    have hp := eqT_place hf hr
    obtain ⟨u, hu1, hu2⟩ := isVal_part (P := P) (w := w) hf (hTO f tf hf) (cs := cs) (off := o) (fun h0 => by rw [hx.length]; exact (hp h0).1)
    obtain ⟨v, hv1, hv2⟩ := isVal_part (P := P) (w := w) hf (hTO f tf hf) (cs := ds) (off := o) (fun h0 => by rw [hy.length]; exact (hp h0).2)
    exact ⟨u, v, hu1, hv1, eqT_run hTO d f _ _ r hr _ _ (partL_rel hx o) (partL_rel hy o) u v hu2 hv2 d' (by omega)⟩
  simp only [eqT, hT] at h
  obtain ⟨k, size, bytes, zero⟩ := ty
  simp only at hk h ha hc hst hok
  cases k with
  | struct fs =>
   simp only [TyK.ok] at hk
   obtain ⟨fa, rfl, hfs, hnm⟩ := hk
   simp only [TyK.agg, if_true] at ha hc
   subst ha; subst hc
   have hfo : P.fieldsOf t = fa := by simp [Program.fieldsOf, hD]
   rw [run_equalIn_struct w d' t _ _ (by rw [hfo]; exact hD) (hst rfl).1, hfo]
   simp only at h
   clear hfo hD hT hok hst
   generalize fa.toList = l at hfs hnm
   induction l generalizing fs b with
   | nil => subst hfs; simp [eqAll] at h; subst h; simp [Op.eqFields]
   | cons f l ih =>
    subst hfs
    rw [List.map_cons] at h
    obtain ⟨r, s, h1, h2, rfl⟩ := eqAll_cons h
    obtain ⟨u, v, hu, hv, he⟩ := part_step f.type f.offset r h1
    simp only [List.all_cons, Bool.and_eq_true, bne_iff_ne] at hnm
    simp only [Op.eqFields, hnm.1, ne_eq, not_false_eq_true, if_true, Sem.run_bind, hu, hv, he, Result.andThen_ok, Sem.run_ite]
    cases r with
    | false => simp
    | true => simpa using ih s _ h2 rfl hnm.2
  | arr n e =>
   simp only [TyK.ok] at hk
   subst hk
   simp only [TyK.agg, if_true] at ha hc
   subst ha; subst hc
   simp only at h
   split at h
   case h_2 => simp at h
   rename_i te hte
   obtain ⟨De, ie, hDe, hie, hse, _⟩ := (hTO e te hte).ex
   have hz : P.cellsOf e = te.size := by simp [Program.cellsOf, hie, hse]
   rw [run_equalIn_array w d' _ _ hD hie, hz]
   clear hD hT hok
   generalize List.range n = l at h
   induction l generalizing b with
   | nil => simp [eqAll] at h; subst h; simp [Op.eqItems]
   | cons j l ih =>
    rw [List.map_cons] at h
    obtain ⟨r, s, h1, h2, rfl⟩ := eqAll_cons h
    obtain ⟨u, v, hu, hv, he⟩ := part_step e (j * te.size) r h1
    simp only [Op.eqItems, Sem.run_bind, hu, hv, he, Result.andThen_ok, Sem.run_ite]
    cases r with
    | false => simp
    | true => simpa using ih s h2
  | _ =>
   simp only at h
   split at h
   case h_2 => simp at h
   rename_i x y _ _
   have hg := leafEq_one h
   rw [hg] at ha hc
   simp only [Bool.false_eq_true, if_false] at ha hc
   subst ha; subst hc
   simp only [ARels] at hx hy
   obtain ⟨x1, r1, e1, hx1, e2⟩ := hx
   obtain ⟨y1, r2, e3, hy1, e4⟩ := hy
   subst e2; subst e4
   simp only [List.cons.injEq, and_true] at e1 e3
   subst e1; subst e3
   exact leafEq_run h hx1 hy1 hok rfl d'
end
end Go.Proofs.YtccdhgmkjakjkaaGreat
namespace Go.Proofs.YtccdhgmkjakjkaaGreat
open Go
def mulz (i : Int) (z : Nat) : Nat := match z with | 1 => i.toNat | z => i.toNat * z
def addo (o x : Nat) : Nat := match o with | 0 => x | o => o + x
theorem mulz_eq (i : Int) (z : Nat) : mulz i z = i.toNat * z := by unfold mulz; split <;> simp
theorem addo_eq (o x : Nat) : addo o x = o + x := by unfold addo; split <;> simp
def strA (op : BinOp) (a b : List UInt8) : Option (AVal × Prop) :=
 match op with
 | .add => some (.r (.str (a ++ b)), a.length + b.length ≤ 9223372036854775807)
 | .eql => some (.r (.bool (decide (a = b))), True)
 | .neq => some (.r (.bool (decide (a ≠ b))), True)
 | _ => none
def eqlA (T : TTab) (t : TypeId) : AVal → AVal → Option Bool
 | .ptr _ _, .r .nilp | .r .nilp, .ptr _ _ => match T.look t with | some { k := .ptr _, .. } => some false | _ => none
 | .r .nilp, .r .nilp => match T.look t with | some { k := .ptr _, .. } => some true | _ => none
 | .agg xs, .agg ys => match T.look t with | some { k := .arr _ _, .. } | some { k := .struct _, .. } => eqT T 60 t xs ys | _ => none
 | .r (.bool a), .r (.bool b) => match T.look t with | some { k := .bool, .. } => some (a == b) | _ => none
 | _, _ => none
def binOpA (T : TTab) (op : BinOp) (t : TypeId) (x y : AVal) : Option (AVal × Prop) :=
 match x, y with
 | .r (.int k a), .r (.int k' b) =>
  match op with
  | .shl => shiftA .shl k a b
  | .shr => shiftA .shr k a b
  | op => if k = k' then binA op k a b else none
 | .r (.str a), .r (.str b) => strA op a b
 | x, y =>
  match op with
  | .eql => (eqlA T t x y).map fun b => (.r (.bool b), True)
  | .neq => (eqlA T t x y).map fun b => (.r (.bool !b), True)
  | _ => none
def unOpA (op : UnOp) (x : AVal) : Option (AVal × Prop) :=
 match op, x with
 | .neg, .r (.int k n) => some (arithA k (0 - n))
 | .not, .r (.bool b) => some (.r (.bool !b), True)
 | .xor, .r (.int k n) => some (.r (.int k (ibit .xor k (if k.signed then -1 else k.max) n)), True)
 | _, _ => none
def convA (T : TTab) (dst : TypeId) (x : AVal) : Option (AVal × Prop) :=
 match T.look dst, x with
 | some { k := .int k, .. }, .r (.int _ n) => some (arithA k n)
 | some { k := .str, .. }, .r (.str s) => some (.r (.str s), True)
 | _, _ => none
def convB (T : TTab) (k : TyK) (dst : TypeId) (x : AVal) : Option (AVal × Prop) :=
 match k, T.look dst, x with
 | .slice e, some { k := .str, .. }, .r (.bs s) => match T.look e with | some { k := .int .u8, .. } => some (.r (.str s), True) | _ => none
 | .slice e, some { k := .str, .. }, .r .nil => match T.look e with | some { k := .int .u8, .. } => some (.r (.str []), True) | _ => none
 | _, _, _ => none
def pickL (t : Bool) (a b : AVal) : Option (AVal × Prop) :=
 match t with
 | true => some (a, True)
 | false => some (b, True)
def pickA (c a b : AVal) : Option (AVal × Prop) :=
 match c with
 | .r (.bool t) =>
  match a, b with
  | .r (.bool x), .r (.bool y) => some (.r (.bool (bif t then x else y)), True)
  | .r x, .r y => some (.r (bif t then x else y), True)
  | a, b => pickL t a b
 | _ => none
def placesA (T : TTab) : List (Nat × TypeId) → Option (List (Nat × Nat))
 | [] => some []
 | (off, ft) :: l =>
  match T.look ft, placesA T l with
  | some ty, some r => some ((off, ty.size) :: r)
  | _, _ => none
def buildA (T : TTab) (t : TypeId) (parts : List (Nat × AVal)) : Option (AVal × Prop) :=
 match T.look t with
 | some { k := .struct fs, size := _, bytes := _, zero := z } =>
  match placesA T fs with
  | some pl =>
   match fillA (fun i => pl[i]?) (z.map .r) parts with
   | some cells => forceL cells fun cs => some (.agg cs, z ≠ [])
   | none => none
  | none => none
 | some { k := .arr _ e, size := _, bytes := _, zero := z } =>
  match T.look e with
  | some te =>
   match fillA (fun i => some (i * te.size, te.size)) (z.map .r) parts with
   | some cells => forceL cells fun cs => some (.agg cs, z ≠ [])
   | none => none
  | none => none
 | _ => none
def partA (T : TTab) (t : TypeId) (cs : List AVal) (off : Nat) : Option AVal :=
 match T.look t with
 | some ty => if ty.k.agg = true then forceL (partL T t cs off) fun xs => some (.agg xs) else cs[off]?
 | none => none
def fieldA (T : TTab) (t : TypeId) (x : AVal) (f : Nat) : Option (AVal × Prop) :=
 match T.look t, x with
 | some { k := .struct fs, .. }, .agg cs =>
  match fs[f]? with
  | some (off, ft) => (partA T ft cs off).map fun v => (v, True)
  | none => none
 | _, _ => none
def fieldAddrA (T : TTab) (t : TypeId) (x : AVal) (f : Nat) : Option (AVal × Prop) :=
 match T.look t with
 | some { k := .struct fs, .. } =>
  match fs[f]? with
  | some (off, ft) =>
   match T.look ft with
   | some ty =>
    match ty.size, x with
    | 0, _ => none
    | _, .ptr β o => some (.ptr β (addo o off), True)
    | _, .rp xs o => some (.rp xs (addo o off), True)
    | _, _ => none
   | none => none
  | none => none
 | _ => none
def indexAddrA (T : TTab) (t : TypeId) (x i : AVal) : Option (AVal × Prop) :=
 match T.look t, i with
 | some { k := .slice e, .. }, .r (.int _ i) =>
  match T.look e, x with
  | some te, .sl β off n z => bif Nat.beq te.size z then some (.ptr β (addo off (mulz i z)), 0 ≤ i ∧ i < n) else none
  | some te, .r (.ro n xs) => some (.rp xs (mulz i te.size), (0 ≤ i ∧ i < n) ∧ xs ≠ [])
  | some te, .r (.bs s) => bif Nat.beq te.size 1 then some (.bp s i.toNat, 0 ≤ i ∧ i < s.length) else none
  | _, _ => none
 | some { k := .arr n e, .. }, .r (.int _ i) =>
  match T.look e, x with
  | some te, .ptr β off => some (.ptr β (addo off (mulz i te.size)), 0 ≤ i ∧ i < n)
  | some te, .rp xs off => some (.rp xs (addo off (mulz i te.size)), 0 ≤ i ∧ i < n)
  | _, _ => none
 | _, _ => none
def indexA (T : TTab) (t : TypeId) (x i : AVal) : Option (AVal × Prop) :=
 match T.look t, x, i with
 | some { k := .arr n e, .. }, .agg cs, .r (.int _ i) =>
  match T.look e with
  | some te => (partA T e cs (mulz i te.size)).map fun v => (v, 0 ≤ i ∧ i < n)
  | none => none
 | some { k := .str, .. }, .r (.str s), .r (.int _ i) => some (.r (.int .u8 (s.getD i.toNat 0).toNat), 0 ≤ i ∧ i < s.length)
 | _, _, _ => none
def optInt (ev : Operand → AVal) : Option Operand → Option (Option Int)
 | none => some none
 | some x => match ev x with | .r (.int _ n) => some (some n) | _ => none
def boundsOk (n : Int) : Option Int → Option Int → Option Int → Prop
 | none, none, none => True
 | some l, none, none => 0 ≤ l ∧ l ≤ n
 | none, some h, none => 0 ≤ h ∧ h ≤ n
 | some l, some h, none => 0 ≤ l ∧ l ≤ h ∧ h ≤ n
 | none, some h, some m => 0 ≤ h ∧ h ≤ m ∧ m ≤ n
 | some l, some h, some m => 0 ≤ l ∧ l ≤ h ∧ h ≤ m ∧ m ≤ n
 | _, none, some _ => False
def cutL {α : Type} (xs : List α) (z : Nat) : Option Int → Option Int → List α
 | none, none => xs
 | some l, none => xs.drop (mulz l z)
 | none, some h => xs.take (mulz h z)
 | some l, some h => (xs.drop (mulz l z)).take (mulz (h - l) z)
def cutN (n : Nat) : Option Int → Option Int → Nat
 | none, none => n
 | some l, none => n - l.toNat
 | none, some h => h.toNat
 | some l, some h => (h - l).toNat
def mxOk (l : Int) : Option Int → Prop
 | none => True
 | some q => l < q
@[simp] theorem mxOk_none (l : Int) : mxOk l none = True := rfl
@[simp] theorem mxOk_some (l q : Int) : mxOk l (some q) = (l < q) := rfl
def sliceA (T : TTab) (t : TypeId) (x : AVal) (lo hi mx : Option Int) : Option (AVal × Prop) :=
 match T.look t, x with
 | some { k := .str, .. }, .r (.str s) =>
  match mx with
  | none => some (.r (.str (cutL s 1 lo hi)), boundsOk s.length lo hi none)
  | some _ => none
 | some { k := .slice e, .. }, .r (.bs s) =>
  match T.look e with
  | some te => bif Nat.beq te.size 1 then some (.r (.bs (cutL s 1 lo hi)), boundsOk s.length lo hi mx) else none
  | none => none
 | some { k := .slice e, .. }, .r (.ro n xs) =>
  match T.look e with
  | some te =>
   match lo, hi with
   | some l, none => some (.r (.ro (cutN n (some l) none) (cutL xs te.size (some l) none)), boundsOk n (some l) none mx ∧ xs.length = n * te.size)
   | lo, hi => some (.r (.ro (cutN n lo hi) (cutL xs te.size lo hi)), boundsOk n lo hi mx)
  | none => none
 | some { k := .slice e, .. }, .sl β off n z =>
  match T.look e, lo with
  | some te, none => bif Nat.beq te.size z then some (.sl β off (cutN n none hi) z, boundsOk n none hi mx) else none
  | some te, some l => bif Nat.beq te.size z then some (.sl β (addo off (mulz l z)) (cutN n (some l) hi) z, boundsOk n (some l) hi mx ∧ l < n ∧ mxOk l mx) else none
  | _, _ => none
 | _, _ => none
def lenA (T : TTab) (t : TypeId) (x : AVal) : Option Int :=
 match T.look t, x with
 | some { k := .str, .. }, .r (.str s) => some (s.length : Int)
 | some { k := .arr n _, .. }, _ => some (n : Int)
 | some { k := .slice _, .. }, .r (.bs s) => some (s.length : Int)
 | some { k := .slice _, .. }, .r (.ro n _) => some (n : Int)
 | some { k := .slice _, .. }, .r .nil => some 0
 | some { k := .slice _, .. }, .sl _ _ n _ => some (n : Int)
 | _, _ => none
def mmA (f : Int → Int → Int) : AVal → List AVal → Option AVal
 | .r (.int k x), [] => some (.r (.int k x))
 | .r (.int k x), .r (.int _ y) :: l => mmA f (.r (.int k (f x y))) l
 | _, _ => none
def builtinA (T : TTab) (b : Builtin) (argTypes : Array TypeId) (args : List AVal) : Option (AVal × Prop) :=
 match b, args with
 | .len, x :: _ => match argTypes.toList with | t :: _ => (lenA T t x).map fun n => (.r (.int .i64 n), True) | [] => none
 | .min, .r (.int k x) :: l => (mmA min (.r (.int k x)) l).map fun v => (v, True)
 | .max, .r (.int k x) :: l => (mmA max (.r (.int k x)) l).map fun v => (v, True)
 | _, _ => none
def pureOp (T : TTab) (ev : Operand → AVal) : Op → Option (AVal × Prop)
 | .move x | .assign x => some (ev x, True)
 | .pick c a b => pickA (ev c) (ev a) (ev b)
 | .build t parts => buildA T t (parts.toList.map fun p => (p.1, ev p.2))
 | .nilCheck x =>
  match ev x with
  | .ptr β o => some (.ptr β o, True)
  | .rp xs o => some (.rp xs o, True)
  | .bp s o => some (.bp s o, True)
  | .func f cs => some (.func f cs, True)
  | _ => none
 | .binOp op t x y _ => binOpA T op t (ev x) (ev y)
 | .unOp op _ x => unOpA op (ev x)
 | .convert src dst x => match T.look src with | some s => (match convB T s.k dst (ev x) with | some r => some r | none => convA T dst (ev x)) | none => none
 | .slice t x lo hi mx =>
  match optInt ev lo, optInt ev hi, optInt ev mx with
  | some l, some h, some m => sliceA T t (ev x) l h m
  | _, _, _ => none
 | .fieldAddr t x f => fieldAddrA T t (ev x) f
 | .field t x f => fieldA T t (ev x) f
 | .indexAddr t x i => indexAddrA T t (ev x) (ev i)
 | .index t x i => indexA T t (ev x) (ev i)
 | .extract x i => match ev x with | .tuple vs => (vs[i]?).map fun v => (v, True) | _ => none
 | .makeFunc fn first caps => match fn, first.toList with | .func f, [] => some (.func f (caps.toList.map ev), True) | _, _ => none
 | .call c => match c.callee with | .builtin b => builtinA T b c.argTypes (c.args.toList.map ev) | _ => none
 | _ => none
end Go.Proofs.YtccdhgmkjakjkaaGreat
namespace Go.Proofs.YtccdhgmkjakjkaaGreat
open Go
section
variable {P : Program} {T : TTab} {R : Nat → Prop} {μ : Mu} {w : World}
theorem wrap_i64 {x : Int} (h : inI64 x) : IntKind.i64.wrap x = x := by
 obtain ⟨h1, h2⟩ := h
 simp only [IntKind.wrap, IntKind.bits, IntKind.signed]
 simp
 omega
theorem arithA_sound {k : IntKind} {x : Int} (h : (arithA k x).2) : ARel R μ w (arithA k x).1 (.int k (k.wrap x)) := by
 cases k <;> simp only [arithA] at h ⊢ <;> simp only [ARel, RRel]
 rw [wrap_i64 h]
theorem cmpA_sound {op : BinOp} {x y : Int} {v : AVal} (h : cmpA op x y = some v) : ∃ c, (Op.intCmp op x y).run P w = .ok c w ∧ ARel R μ w v c := by
 cases op <;> simp only [cmpA, reduceCtorEq, Option.some.injEq] at h <;> subst h <;> simp [Op.intCmp, ARel, RRel]
 ·exact Bool.eq_iff_iff.2 (by simp)
 ·exact Bool.eq_iff_iff.2 (by simp)
theorem binA_sound {op : BinOp} {k : IntKind} {x y : Int} {v : AVal} {c : Prop} (h : binA op k x y = some (v, c)) (hc : c) (hs : op ≠ .shl ∧ op ≠ .shr) (t : TypeId) :
  ∃ d, (binOp op t (.int k x) (.int k y)).run P w = .ok d w ∧ ARel R μ w v d := by
 have hcmp : ∀ op', (op' = .eql ∨ op' = .neq ∨ op' = .lss ∨ op' = .leq ∨ op' = .gtr ∨ op' = .geq) → (cmpA op' x y).map (fun v => (v, True)) = some (v, c) →
   ∃ d, (Op.intCmp op' x y).run P w = .ok d w ∧ ARel R μ w v d := by
  intro op' _ h
  simp only [Option.map_eq_some_iff, Prod.mk.injEq] at h
  obtain ⟨a, h1, rfl, _⟩ := h
  exact cmpA_sound h1
 cases op <;> simp only [binA, Option.some.injEq, Prod.mk.injEq] at h
 case shl => exact absurd rfl hs.1
 case shr => exact absurd rfl hs.2
 case add => obtain ⟨rfl, rfl⟩ := Prod.mk.inj h; exact ⟨.int k (k.wrap (x + y)), by simp [binOp, Op.intArith], arithA_sound hc⟩
 case sub => obtain ⟨rfl, rfl⟩ := Prod.mk.inj h; exact ⟨.int k (k.wrap (x - y)), by simp [binOp, Op.intArith], arithA_sound hc⟩
 case mul => obtain ⟨rfl, rfl⟩ := Prod.mk.inj h; exact ⟨.int k (k.wrap (x * y)), by simp [binOp, Op.intArith], arithA_sound hc⟩
 case quo => obtain ⟨rfl, rfl⟩ := h; exact ⟨.int k (k.wrap (x.tdiv y)), by simp [binOp, Op.intDiv, hc.2], arithA_sound hc.1⟩
 case rem => obtain ⟨rfl, rfl⟩ := h; exact ⟨.int k (x.tmod y), by simp [binOp, Op.intDiv, hc], by simp [ARel, RRel]⟩
 case and => obtain ⟨rfl, rfl⟩ := h; exact ⟨.int k (ibit .and k x y), by simp only [binOp]; simp [Op.intBits, ibit], by simp [ARel, RRel]⟩
 case or => obtain ⟨rfl, rfl⟩ := h; exact ⟨.int k (ibit .or k x y), by simp only [binOp]; simp [Op.intBits, ibit], by simp [ARel, RRel]⟩
 case xor => obtain ⟨rfl, rfl⟩ := h; exact ⟨.int k (ibit .xor k x y), by simp only [binOp]; simp [Op.intBits, ibit], by simp [ARel, RRel]⟩
 case andNot => obtain ⟨rfl, rfl⟩ := h; exact ⟨.int k (ibit .andNot k x y), by simp only [binOp]; simp [Op.intBits, ibit], by simp [ARel, RRel]⟩
 all_goals
  obtain ⟨d, h1, h2⟩ := hcmp _ (by simp) h
  exact ⟨d, by simpa [binOp] using h1, h2⟩
theorem shiftA_sound {op : BinOp} {k k' : IntKind} {x y : Int} {v : AVal} {c : Prop} (h : shiftA op k x y = some (v, c)) (hc : c) (t : TypeId) :
  ∃ d, (binOp op t (.int k x) (.int k' y)).run P w = .ok d w ∧ ARel R μ w v d := by
 cases op <;> simp only [shiftA, reduceCtorEq, Option.some.injEq, Prod.mk.injEq] at h
 case shl => obtain ⟨rfl, rfl⟩ := h; exact ⟨.int k (k.wrap (x * 2 ^ (min y.toNat k.bits))), by simp [binOp, Op.shift, Int.not_lt.2 hc.2], arithA_sound hc.1⟩
 case shr => obtain ⟨rfl, rfl⟩ := h; exact ⟨.int k (x.fdiv (2 ^ (min y.toNat k.bits))), by simp [binOp, Op.shift, Int.not_lt.2 hc], by simp [ARel, RRel]⟩
theorem mk_append (a b : List UInt8) : (⟨⟨a⟩⟩ ++ ⟨⟨b⟩⟩ : ByteArray) = ⟨⟨a ++ b⟩⟩ := by
 apply ByteArray.ext
 simp
theorem size_mk (a : List UInt8) : (⟨⟨a⟩⟩ : ByteArray).size = a.length := rfl
theorem strA_sound {op : BinOp} {a b : List UInt8} {v : AVal} {c : Prop} (h : strA op a b = some (v, c)) (hc : c) (t : TypeId) :
  ∃ d, (binOp op t (.string ⟨⟨a⟩⟩) (.string ⟨⟨b⟩⟩)).run P w = .ok d w ∧ ARel R μ w v d := by
 cases op <;> simp only [strA, reduceCtorEq, Option.some.injEq, Prod.mk.injEq] at h
 case add =>
  obtain ⟨rfl, rfl⟩ := h
  have h0 : ¬ (((a.length + b.length : Nat) : Int) > IntKind.i64.max) := by simp only [IntKind.max, IntKind.signed, IntKind.bits]; simp; omega
  exact ⟨_, by simp only [binOp]; simp only [Op.stringOp, size_mk, h0, if_false, Sem.run_pure]; rfl, by simp only [ARel, RRel, mk_append]⟩
 case eql =>
  obtain ⟨rfl, rfl⟩ := h
  exact ⟨_, by simp only [binOp]; simp only [Op.stringOp, Sem.run_pure]; rfl, by simp only [ARel, RRel, ByteArray.toList_eq]; congr 1; exact Bool.eq_iff_iff.2 (by simp)⟩
 case neq =>
  obtain ⟨rfl, rfl⟩ := h
  exact ⟨_, by simp only [binOp]; simp only [Op.stringOp, Sem.run_pure]; rfl, by simp only [ARel, RRel, ByteArray.toList_eq]; congr 1; exact Bool.eq_iff_iff.2 (by simp)⟩
theorem tyk_ok {t : TypeId} {ty : Ty} (hTO : TOk P T) (h : T.look t = some ty) : ∃ d, P.underlying t = some d ∧ ty.k.ok d := by
 obtain ⟨d, _, h1, _, _, _, h2, _⟩ := (hTO t ty h).ex
 exact ⟨d, h1, h2⟩
theorem size_ok {t : TypeId} {ty : Ty} (hTO : TOk P T) (h : T.look t = some ty) : (sizeOf t).run P w = .ok ty.size w := by
 obtain ⟨_, i, _, hi, hs, _⟩ := (hTO t ty h).ex
 rw [run_sizeOf w hi]
 simp [Program.cellsOf, hi, hs]
theorem eq_ptr_nil_in (d : Nat) {t : TypeId} {e : TypeId} (a : Option Addr) (h : P.underlying t = some (.pointer e)) : (Op.equalIn (d + 1) t (.pointer a) (.pointer none)).run P w = .ok a.isNone w := by
 cases a <;> simp [Op.equalIn, run_underlying h]
theorem eq_nil_ptr_in (d : Nat) {t : TypeId} {e : TypeId} (a : Option Addr) (h : P.underlying t = some (.pointer e)) : (Op.equalIn (d + 1) t (.pointer none) (.pointer a)).run P w = .ok a.isNone w := by
 cases a <;> simp [Op.equalIn, run_underlying h]
theorem eq_ptr_nil {t : TypeId} {e : TypeId} (a : Option Addr) (h : P.underlying t = some (.pointer e)) : (Op.equal t (.pointer a) (.pointer none)).run P w = .ok a.isNone w := eq_ptr_nil_in 9999 a h
theorem eq_nil_ptr {t : TypeId} {e : TypeId} (a : Option Addr) (h : P.underlying t = some (.pointer e)) : (Op.equal t (.pointer none) (.pointer a)).run P w = .ok a.isNone w := eq_nil_ptr_in 9999 a h
theorem eq_bool {t : TypeId} {a b : Bool} (h : P.underlying t = some .bool) : (Op.equal t (.bool a) (.bool b)).run P w = .ok (a == b) w := run_equalIn_bool w 9999 t a b h
theorem eqlA_sound (hTO : TOk P T) {t : TypeId} {x y : AVal} {b : Bool} (h : eqlA T t x y = some b) {c e : Value} (hx : ARel R μ w x c) (hy : ARel R μ w y e) (p q : Operand) :
  (∀ op, op = .eql ∨ op = .neq → (eqGuard op t p q c e).run P w = .ok () w) ∧ (Op.equal t c e).run P w = .ok b w := by
 unfold eqlA at h
 split at h
 case h_1 β o =>
  split at h <;> simp at h
  rename_i hT
  subst h
  obtain ⟨d, hd, hk⟩ := tyk_ok hTO hT
  simp only [TyK.ok] at hk
  simp only [ARel, RRel] at hx hy
  obtain ⟨bl, o1, _, rfl⟩ := hx
  subst hy; subst hk
  exact ⟨by rintro op (rfl | rfl) <;> simp [eqGuard], by rw [eq_ptr_nil _ hd]; rfl⟩
 case h_2 β o =>
  split at h <;> simp at h
  rename_i hT
  subst h
  obtain ⟨d, hd, hk⟩ := tyk_ok hTO hT
  simp only [TyK.ok] at hk
  simp only [ARel, RRel] at hx hy
  obtain ⟨bl, o1, _, rfl⟩ := hy
  subst hx; subst hk
  exact ⟨by rintro op (rfl | rfl) <;> simp [eqGuard], by rw [eq_nil_ptr _ hd]; rfl⟩
 case h_3 =>
  split at h <;> simp at h
  rename_i hT
  subst h
  obtain ⟨d, hd, hk⟩ := tyk_ok hTO hT
  simp only [TyK.ok] at hk
  simp only [ARel, RRel] at hx hy
  subst hx; subst hy; subst hk
  exact ⟨by rintro op (rfl | rfl) <;> simp [eqGuard], by rw [eq_ptr_nil _ hd]; rfl⟩
 case h_4 xs ys =>
  simp only [ARel] at hx hy
  obtain ⟨cs, rfl, hx⟩ := hx
  obtain ⟨ds, rfl, hy⟩ := hy
  split at h
  case h_3 => simp at h
  all_goals
   rename_i hT
   have hst := (hTO t _ hT).ex
   obtain ⟨d, i, _, _, _, _, _, hst, _⟩ := hst
   refine ⟨fun op ho => run_eqGuard_agg w op t p q _ _ (hst rfl).2, ?_⟩
   exact eqT_run hTO 60 t xs ys b h cs ds hx hy _ _ ⟨_, hT, by simp [TyK.agg]⟩ ⟨_, hT, by simp [TyK.agg]⟩ 10000 (by omega)
 case h_5 x y =>
  split at h <;> simp at h
  rename_i hT
  subst h
  obtain ⟨d, hd, hk⟩ := tyk_ok hTO hT
  simp only [TyK.ok] at hk
  simp only [ARel, RRel] at hx hy
  subst hx; subst hy; subst hk
  exact ⟨by rintro op (rfl | rfl) <;> simp [eqGuard], eq_bool hd⟩
 case h_6 => simp at h
theorem binOp_eql {t : TypeId} {c e : Value} (h1 : ∀ k n, c ≠ .int k n) (h2 : ∀ s, c ≠ .string s) (h3 : ∀ k n, c ≠ .float k n) (h4 : ∀ k a b, c ≠ .complex k a b) : binOp .eql t c e = (do pure (.bool (← Op.equal t c e))) := by
 unfold binOp
 split <;> first | rfl | simp_all
theorem binOp_neq {t : TypeId} {c e : Value} (h1 : ∀ k n, c ≠ .int k n) (h2 : ∀ s, c ≠ .string s) (h3 : ∀ k n, c ≠ .float k n) (h4 : ∀ k a b, c ≠ .complex k a b) : binOp .neq t c e = (do pure (.bool (!(← Op.equal t c e)))) := by
 unfold binOp
 split <;> first | rfl | simp_all
theorem eqlA_left {t : TypeId} {x y : AVal} {b : Bool} (h : eqlA T t x y = some b) {c : Value} (hx : ARel R μ w x c) :
  (∀ k n, c ≠ .int k n) ∧ (∀ s, c ≠ .string s) ∧ (∀ k n, c ≠ .float k n) ∧ (∀ k a b, c ≠ .complex k a b) := by
 unfold eqlA at h
 split at h
 case h_6 => simp at h
 all_goals
  simp only [ARel, RRel] at hx
  first
  | (obtain ⟨_, _, _, rfl⟩ := hx; simp)
  | (obtain ⟨_, rfl, _⟩ := hx; simp)
  | (subst hx; simp)
theorem eqGuard_int {op : BinOp} {t : TypeId} {p q : Operand} {k k' : IntKind} {a b : Int} : (eqGuard op t p q (.int k a) (.int k' b)).run P w = .ok () w := by
 unfold eqGuard
 split <;> simp
theorem eqGuard_str {op : BinOp} {t : TypeId} {p q : Operand} {a b : ByteArray} : (eqGuard op t p q (.string a) (.string b)).run P w = .ok () w := by
 unfold eqGuard
 split <;> simp
theorem binOpA_sound (hTO : TOk P T) {op : BinOp} {t : TypeId} {x y v : AVal} {c : Prop} (h : binOpA T op t x y = some (v, c)) (hc : c) {a b : Value} (hx : ARel R μ w x a) (hy : ARel R μ w y b) (p q : Operand) :
  ∃ d, ((do eqGuard op t p q a b; binOp op t a b : Sem Value)).run P w = .ok d w ∧ ARel R μ w v d := by
 unfold binOpA at h
 split at h
 case h_1 k n k' m =>
  simp only [ARel, RRel] at hx hy
  subst hx; subst hy
  simp only [Sem.run_bind, eqGuard_int, Result.andThen_ok]
  split at h
  ·exact shiftA_sound h hc t
  ·exact shiftA_sound h hc t
  ·split at h
   ·rename_i hk
    subst hk
    exact binA_sound h hc (by simp_all) t
   ·simp at h
 case h_2 s s' =>
  simp only [ARel, RRel] at hx hy
  subst hx; subst hy
  simp only [Sem.run_bind, eqGuard_str, Result.andThen_ok]
  exact strA_sound h hc t
 case h_3 =>
  split at h
  case h_3 => simp at h
  all_goals
   simp only [Option.map_eq_some_iff, Prod.mk.injEq] at h
   obtain ⟨r, h1, rfl, _⟩ := h
   obtain ⟨g, he⟩ := eqlA_sound hTO h1 hx hy p q
   obtain ⟨l1, l2, l3, l4⟩ := eqlA_left h1 hx
   first | rw [binOp_eql l1 l2 l3 l4] | rw [binOp_neq l1 l2 l3 l4]
   rw [Sem.run_bind, g _ (by simp)]
   simp only [Result.andThen_ok, Sem.run_bind, he, Sem.run_pure]
   exact ⟨_, rfl, by simp only [ARel, RRel]⟩
theorem unOpA_sound {op : UnOp} {x v : AVal} {c : Prop} (h : unOpA op x = some (v, c)) (hc : c) {a : Value} (hx : ARel R μ w x a) :
  ∃ d, (Op.unary op a).run P w = .ok d w ∧ ARel R μ w v d := by
 unfold unOpA at h
 split at h
 ·simp only [Option.some.injEq] at h
  obtain ⟨rfl, rfl⟩ := Prod.mk.inj h
  simp only [ARel, RRel] at hx; subst hx
  exact ⟨.int _ (IntKind.wrap _ _), by simp only [Op.unary, Op.intArith, Sem.run_pure], arithA_sound hc⟩
 ·simp only [Option.some.injEq] at h
  obtain ⟨rfl, rfl⟩ := Prod.mk.inj h
  simp only [ARel, RRel] at hx; subst hx
  exact ⟨_, by simp only [Op.unary, Sem.run_pure]; rfl, by simp [ARel, RRel]⟩
 ·simp only [Option.some.injEq] at h
  obtain ⟨rfl, rfl⟩ := Prod.mk.inj h
  simp only [ARel, RRel] at hx; subst hx
  exact ⟨_, by simp only [Op.unary, Op.intBits, Sem.run_pure]; rfl, by simp only [ARel, RRel, ibit]⟩
 ·simp at h
theorem convA_sound (hTO : TOk P T) {src dst : TypeId} {x v : AVal} {c : Prop} (h : convA T dst x = some (v, c)) (hc : c) {a : Value} (hx : ARel R μ w x a) (hs : ∃ d, P.underlying src = some d) :
  ∃ d, (convert src dst a).run P w = .ok d w ∧ ARel R μ w v d := by
 obtain ⟨sd, hsd⟩ := hs
 unfold convA at h
 split at h
 ·rename_i hT
  simp only [Option.some.injEq] at h
  obtain ⟨rfl, rfl⟩ := Prod.mk.inj h
  obtain ⟨d, hd, hk⟩ := tyk_ok hTO hT
  simp only [TyK.ok] at hk
  simp only [ARel, RRel] at hx; subst hx; subst hk
  refine ⟨_, ?_, arithA_sound hc⟩
  simp only [convert, Sem.run_bind, run_underlying hsd, run_underlying hd, Result.andThen_ok]
  simp [Conv.intToInt]
 ·rename_i hT
  simp only [Option.some.injEq] at h
  obtain ⟨rfl, rfl⟩ := Prod.mk.inj h
  obtain ⟨d, hd, hk⟩ := tyk_ok hTO hT
  simp only [TyK.ok] at hk
  simp only [ARel, RRel] at hx; subst hx; subst hk
  refine ⟨_, ?_, by simp only [ARel, RRel]; rfl⟩
  simp only [convert, Sem.run_bind, run_underlying hsd, run_underlying hd, Result.andThen_ok]
  simp
 ·simp at h
theorem pickA_sound {x y z v : AVal} {c : Prop} (h : pickA x y z = some (v, c)) {a b e : Value} (hx : ARel R μ w x a) (hy : ARel R μ w y b) (hz : ARel R μ w z e) :
  ∃ d, ((do pure (if ← asBool a then b else e) : Sem Value)).run P w = .ok d w ∧ ARel R μ w v d := by
 unfold pickA at h
 split at h
 case h_2 => simp at h
 rename_i t
 simp only [ARel, RRel] at hx
 subst hx
 split at h
 ·simp only [Option.some.injEq] at h
  obtain ⟨rfl, rfl⟩ := Prod.mk.inj h
  simp only [ARel, RRel] at hy hz
  subst hy; subst hz
  cases t <;> simp [asBool, ARel, RRel]
 ·simp only [Option.some.injEq] at h
  obtain ⟨rfl, rfl⟩ := Prod.mk.inj h
  simp only [ARel] at hy hz
  cases t
  ·exact ⟨e, by simp [asBool], by simpa [ARel] using hz⟩
  ·exact ⟨b, by simp [asBool], by simpa [ARel] using hy⟩
 ·cases t <;> simp only [pickL, Option.some.injEq] at h <;> obtain ⟨rfl, rfl⟩ := Prod.mk.inj h
  ·exact ⟨e, by simp [asBool], hz⟩
  ·exact ⟨b, by simp [asBool], hy⟩
theorem setsL_rel : ∀ {vs : List AVal} {cs : List Value} (xs : List AVal) (ds : List Value) (off : Nat), ARels R μ w xs ds → ARels R μ w vs cs →
  ARels R μ w (setsL xs off vs) ((cs.zipIdx).foldl (fun (acc : Array Value) (p : Value × Nat) => acc.setIfInBounds (off + p.2) p.1) ⟨ds⟩).toList := by
 intro vs
 induction vs with
 | nil => intro cs xs ds off h k; simp only [ARels] at k; subst k; simpa [setsL] using h
 | cons v vs ih =>
  intro cs xs ds off h k
  simp only [ARels] at k
  obtain ⟨c, r, rfl, hv, hr⟩ := k
  simp only [setsL]
  have h2 := ih (xs.set off v) (ds.set off c) (off + 1) (h.set off hv) hr
  have e : ∀ (l : List Value) (n : Nat) (acc : Array Value), (l.zipIdx (n + 1)).foldl (fun (acc : Array Value) (p : Value × Nat) => acc.setIfInBounds (off + p.2) p.1) acc =
    (l.zipIdx n).foldl (fun (acc : Array Value) (p : Value × Nat) => acc.setIfInBounds (off + 1 + p.2) p.1) acc := by
   intro l
   induction l with
   | nil => intro n acc; rfl
   | cons x l ihl => intro n acc; simp only [List.zipIdx_cons, List.foldl_cons]; rw [ihl, show off + (n + 1) = off + 1 + n by omega]
  simp only [List.zipIdx_cons, List.foldl_cons, Nat.add_zero]
  rw [e]
  simpa using h2
theorem cellsA_rel {v : AVal} {vs : List AVal} (h : v.cellsA = some vs) {c : Value} (hv : ARel R μ w v c) : ARels R μ w vs c.cells.toList := by
 cases v with
 | agg cs =>
  simp only [AVal.cellsA, Option.some.injEq] at h
  subst h
  simp only [ARel] at hv
  obtain ⟨ds, rfl, h⟩ := hv
  simpa [Value.cells] using h
 | any => simp [AVal.cellsA] at h
 | tuple _ => simp [AVal.cellsA] at h
 | r v =>
  simp only [AVal.cellsA, Option.some.injEq] at h
  subst h
  have : c.cells.toList = [c] := by
   cases v <;> simp only [ARel, RRel] at hv
   all_goals first
    | (subst hv; rfl)
    | (obtain ⟨_, _, rfl, _⟩ := hv; rfl)
    | (obtain ⟨_, _, _, rfl, _⟩ := hv; rfl)
  rw [this]
  simp only [ARels]
  exact ⟨c, [], rfl, hv, rfl⟩
 | _ =>
  simp only [AVal.cellsA, Option.some.injEq] at h
  subst h
  have : c.cells.toList = [c] := by
   simp only [ARel] at hv
   first
    | (obtain ⟨_, _, _, _, _, _, _, rfl, _⟩ := hv; rfl)
    | (obtain ⟨_, _, _, rfl⟩ := hv; rfl)
    | (obtain ⟨_, rfl, _⟩ := hv; rfl)
    | (obtain ⟨_, _, _, rfl, _⟩ := hv; rfl)
    | (obtain ⟨_, _, rfl, _⟩ := hv; rfl)
  rw [this]
  simp only [ARels]
  exact ⟨c, [], rfl, hv, rfl⟩
theorem fillA_rel {place : Nat → Option (Nat × Nat)} {pl : Nat → Option (Nat × Nat)} (hp : ∀ i p, place i = some p → pl i = some p) :
  ∀ (parts : List (Nat × AVal)) (cp : List (Nat × Value)) (xs : List AVal) (ds : List Value) (out : List AVal),
   parts.map (·.1) = cp.map (·.1) → (∀ (i : Nat) a c, parts[i]? = some a → cp[i]? = some c → ARel R μ w a.2 c.2) → ARels R μ w xs ds → fillA place xs parts = some out →
   ∃ cs : List Value, Instr.fill pl ⟨ds⟩ cp = some ⟨cs⟩ ∧ ARels R μ w out cs := by
 intro parts
 induction parts with
 | nil =>
  intro cp xs ds out hm _ h ho
  simp only [fillA, Option.some.injEq] at ho
  subst ho
  cases cp with
  | nil => exact ⟨ds, rfl, h⟩
  | cons => simp at hm
 | cons a parts ih =>
  intro cp xs ds out hm hv h ho
  cases cp with
  | nil => simp at hm
  | cons c cp =>
   obtain ⟨i, v⟩ := a
   obtain ⟨j, u⟩ := c
   simp only [List.map_cons, List.cons.injEq] at hm
   obtain ⟨e, hm⟩ := hm
   subst e
   simp only [fillA, cellsF_eq] at ho
   split at ho
   case h_2 => simp at ho
   rename_i off size vs h1 h2
   have hu : ARel R μ w v u := hv 0 (i, v) (i, u) rfl rfl
   have hc := cellsA_rel h2 hu
   by_cases hb : (Nat.beq vs.length size && Nat.ble (off + size) xs.length) = true
   ·rw [hb] at ho
    simp only [cond_true] at ho
    rw [Bool.and_eq_true] at hb
    have hb1 := Nat.eq_of_beq_eq_true hb.1
    have hb2 := Nat.le_of_ble_eq_true hb.2
    have hl : u.cells.size = size := by rw [← Array.length_toList, hc.length]; exact hb1
    obtain ⟨cs, h3, h4⟩ := ih cp _ _ out hm (fun i a c ha hc => hv (i + 1) a c (by simpa using ha) (by simpa using hc)) (setsL_rel xs ds off h hc) ho
    refine ⟨cs, ?_, h4⟩
    simp only [Instr.fill, hp _ _ h1]
    rw [if_neg (by have := h.length; simp [hl]; omega)]
    have e2 : u.cells.zipIdx.foldl (fun cs (x : Value × Nat) => cs.setIfInBounds (off + x.2) x.1) (⟨ds⟩ : Array Value) =
      (u.cells.toList.zipIdx.foldl (fun (acc : Array Value) (p : Value × Nat) => acc.setIfInBounds (off + p.2) p.1) ⟨ds⟩) := by
     rw [← Array.foldl_toList, Array.toList_zipIdx]
    rw [show (u.cells.zipIdx.foldl (fun cs x => match x with | (c, j) => cs.setIfInBounds (off + j) c) (⟨ds⟩ : Array Value)) = _ from e2]
    exact h3
   ·have : (Nat.beq vs.length size && Nat.ble (off + size) xs.length) = false := Bool.eq_false_iff.2 hb
    rw [this] at ho
    simp at ho
theorem zero_ok {t : TypeId} {ty : Ty} (hTO : TOk P T) (h : T.look t = some ty) (hz : ty.zero ≠ []) : ∃ z, (zeroValue t).run P w = .ok z w ∧ ARels R μ w (ty.zero.map .r) z.cells.toList ∧ z.cells.toList.length = ty.zero.length := by
 obtain ⟨_, i, _, hi, _, _, _, _, h0⟩ := (hTO t ty h).ex
 obtain ⟨z, hz1, hz2, hz3⟩ := h0.resolve_left hz
 refine ⟨z, by simp [zeroValue, run_typeInfo w hi, hz1], ?_, by rw [hz2]; simp⟩
 rw [ARels.of_r, hz2]
 clear hz2 hz hz1 h h0
 generalize ty.zero = l at hz3
 induction l with
 | nil => simp [RRels]
 | cons x l ih =>
  simp only [List.all_cons, Bool.and_eq_true] at hz3
  simp only [List.map_cons, RRels]
  refine ⟨_, _, rfl, ?_, ih hz3.2⟩
  cases x <;> simp [RVal.flat] at hz3 <;> simp [RVal.conc, RRel]
theorem placesA_run (hTO : TOk P T) : ∀ (fa : List Field) (fs : List (Nat × TypeId)) (pl : List (Nat × Nat)), fa.map (fun f => (f.offset, f.type)) = fs → placesA T fs = some pl →
  (fa.mapM fun f => (do pure (f.offset, ← sizeOf f.type) : Sem (Nat × Nat))).run P w = .ok pl w
 | [], fs, pl, h, k => by
  subst h
  simp only [List.map_nil, placesA, Option.some.injEq] at k
  subst k
  simp
 | f :: fa, fs, pl, h, k => by
  subst h
  simp only [List.map_cons, placesA] at k
  split at k
  case h_2 => simp at k
  rename_i ty r h1 h2
  simp only [Option.some.injEq] at k
  subst k
  have ih := placesA_run hTO fa _ r rfl h2
  simp only [List.mapM_cons, Sem.run_bind, size_ok hTO h1, Result.andThen_ok, Sem.run_pure, ih]
theorem buildA_sound (hTO : TOk P T) {t : TypeId} {parts : List (Nat × AVal)} {v : AVal} {c : Prop} (h : buildA T t parts = some (v, c)) (hc : c) {cp : Array (Nat × Value)}
  (hm : parts.map (·.1) = cp.toList.map (·.1)) (hv : ∀ (i : Nat) a c, parts[i]? = some a → cp.toList[i]? = some c → ARel R μ w a.2 c.2) :
  ∃ d, (Instr.build t cp).run P w = .ok d w ∧ ARel R μ w v d := by
 unfold buildA at h
 split at h
 ·rename_i fs size bytes z hT
  split at h
  case h_2 => simp at h
  rename_i pl hpl0
  split at h
  case h_2 => simp at h
  rename_i cells hf
  rw [forceL_eq] at h
  simp only [Option.some.injEq] at h
  obtain ⟨rfl, rfl⟩ := Prod.mk.inj h
  obtain ⟨d, hd, hk⟩ := tyk_ok hTO hT
  simp only [TyK.ok] at hk
  obtain ⟨fa, rfl, hfs, _⟩ := hk
  obtain ⟨zv, hz1, hz2, hz3⟩ := zero_ok (w := w) (R := R) (μ := μ) hTO hT hc
  have hpl := placesA_run (w := w) hTO fa.toList fs pl hfs hpl0
  obtain ⟨cs, h1, h2⟩ := fillA_rel (pl := fun i => (⟨pl⟩ : Array (Nat × Nat))[i]?) (fun i p hp => by simpa using hp) parts cp.toList (z.map .r) zv.cells.toList cells hm hv hz2 hf
  refine ⟨.agg ⟨cs⟩, ?_, by simp only [ARel]; exact ⟨cs, rfl, h2⟩⟩
  simp only [Instr.build, Sem.run_bind, hz1, Result.andThen_ok, run_underlying hd, Array.mapM_eq_mapM_toList, Sem.run_map, hpl]
  simp only [Array.toArray_toList, List.getElem?_toArray] at h1
  simp [h1]
 ·rename_i n e size bytes z hT
  split at h
  case h_2 => simp at h
  rename_i te hTe
  split at h
  case h_2 => simp at h
  rename_i cells hf
  rw [forceL_eq] at h
  simp only [Option.some.injEq] at h
  obtain ⟨rfl, rfl⟩ := Prod.mk.inj h
  obtain ⟨d, hd, hk⟩ := tyk_ok hTO hT
  simp only [TyK.ok] at hk
  subst hk
  obtain ⟨zv, hz1, hz2, hz3⟩ := zero_ok (w := w) (R := R) (μ := μ) hTO hT hc
  obtain ⟨cs, h1, h2⟩ := fillA_rel (pl := fun i => some (i * te.size, te.size)) (fun _ _ h => h) parts cp.toList (z.map .r) zv.cells.toList cells hm hv hz2 hf
  refine ⟨.agg ⟨cs⟩, ?_, by simp only [ARel]; exact ⟨cs, rfl, h2⟩⟩
  simp only [Instr.build, Sem.run_bind, hz1, Result.andThen_ok, run_underlying hd, size_ok hTO hTe]
  simp only [Array.toArray_toList] at h1
  simp [h1]
 ·simp at h
theorem partA_sound (hTO : TOk P T) {t : TypeId} {xs : List AVal} {off : Nat} {v : AVal} (h : partA T t xs off = some v) {cs : List Value} (hx : ARels R μ w xs cs) :
  ∃ d, (part t ⟨cs⟩ off).run P w = .ok d w ∧ ARel R μ w v d := by
 unfold partA at h
 split at h
 case h_2 => simp at h
 rename_i ty hT
 split at h
 ·rename_i hg
  rw [forceL_eq] at h
  simp only [Option.some.injEq] at h
  subst h
  obtain ⟨a, h1, ty', h2, h3⟩ := isVal_part (P := P) (w := w) hT (hTO t ty hT) (cs := cs) (off := off) (fun h0 => by rw [hg] at h0; simp at h0)
  rw [hT] at h2
  cases h2
  rw [if_pos hg] at h3
  subst h3
  exact ⟨_, h1, by simp only [ARel]; exact ⟨_, rfl, partL_rel hx off⟩⟩
 ·rename_i hg
  have hg : ty.k.agg = false := by simpa using hg
  obtain ⟨c, h4, h5⟩ := hx.get h
  obtain ⟨ho, _⟩ := List.getElem?_eq_some_iff.1 h4
  obtain ⟨a, h1, ty', h2, h3⟩ := isVal_part (P := P) (w := w) hT (hTO t ty hT) (cs := cs) (off := off) (fun _ => ho)
  rw [hT] at h2
  cases h2
  rw [if_neg (by simp [hg])] at h3
  have : a = c := by
   unfold partL at h3
   rw [hT] at h3
   simp only [(hTO t ty hT).leaf hg] at h3
   rw [take_one_drop ho] at h3
   simp only [List.cons.injEq, and_true] at h3
   rw [← h3]
   exact Option.some.inj ((List.getElem?_eq_getElem ho).symm.trans h4)
  subst this
  exact ⟨a, h1, h5⟩
theorem fieldA_sound (hTO : TOk P T) {t : TypeId} {x : AVal} {f : Nat} {v : AVal} {c : Prop} (h : fieldA T t x f = some (v, c)) {a : Value} (hx : ARel R μ w x a) :
  ∃ d, (Instr.field t a f).run P w = .ok d w ∧ ARel R μ w v d := by
 unfold fieldA at h
 split at h
 case h_2 => simp at h
 rename_i fs _ _ _ cs hT
 split at h
 case h_2 => simp at h
 rename_i off ft hf
 simp only [Option.map_eq_some_iff, Prod.mk.injEq] at h
 obtain ⟨u, h, rfl, _⟩ := h
 obtain ⟨d, hd, hk⟩ := tyk_ok hTO hT
 simp only [TyK.ok] at hk
 obtain ⟨fa, rfl, hfs, _⟩ := hk
 simp only [ARel] at hx
 obtain ⟨ds, rfl, hx⟩ := hx
 obtain ⟨e, h1, h2⟩ := partA_sound hTO h hx
 refine ⟨e, ?_, h2⟩
 rw [← hfs, List.getElem?_map] at hf
 simp only [Option.map_eq_some_iff, Prod.mk.injEq] at hf
 obtain ⟨g, hg, rfl, rfl⟩ := hf
 rw [Array.getElem?_toList] at hg
 simp only [Instr.field, Sem.run_bind, run_underlying hd, Result.andThen_ok, hg, asAgg, Sem.run_pure, h1]
theorem add_off (b o n : Nat) : (⟨b, o, none⟩ : Addr).add n = ⟨b, o + n, none⟩ := by
 unfold Addr.add; split <;> simp_all
theorem fieldAddrA_sound (hTO : TOk P T) {t : TypeId} {x : AVal} {f : Nat} {v : AVal} {c : Prop} (h : fieldAddrA T t x f = some (v, c)) {a : Value} (hx : ARel R μ w x a) :
  ∃ d, (Instr.fieldAt t a f).run P w = .ok d w ∧ ARel R μ w v d := by
 unfold fieldAddrA at h
 split at h
 case h_2 => simp at h
 rename_i fs _ _ _ hT
 split at h
 case h_2 => simp at h
 rename_i off ft hf
 split at h
 case h_2 => simp at h
 rename_i ty hTf
 obtain ⟨d, hd, hk⟩ := tyk_ok hTO hT
 simp only [TyK.ok] at hk
 obtain ⟨fa, rfl, hfs, _⟩ := hk
 rw [← hfs, List.getElem?_map] at hf
 simp only [Option.map_eq_some_iff, Prod.mk.injEq] at hf
 obtain ⟨g, hg, rfl, rfl⟩ := hf
 rw [Array.getElem?_toList] at hg
 split at h
 case h_1 => simp at h
 case h_4 => simp at h
 ·rename_i hz
  simp only [Option.some.injEq] at h
  obtain ⟨rfl, rfl⟩ := Prod.mk.inj h
  simp only [ARel] at hx ⊢
  obtain ⟨b, o, h1, rfl⟩ := hx
  refine ⟨_, ?_, b, o, h1, rfl⟩
  simp only [Instr.fieldAt, Sem.run_bind, run_underlying hd, Result.andThen_ok, hg, Instr.sureAddr, Sem.run_pure, fieldPlace, size_ok hTO hTf, Sem.run_ite, if_neg hz, add_off, addo_eq, Nat.add_assoc]
 ·rename_i hz
  simp only [Option.some.injEq] at h
  obtain ⟨rfl, rfl⟩ := Prod.mk.inj h
  simp only [ARel] at hx ⊢
  obtain ⟨b, o0, cs, rfl, h2, h3, h4⟩ := hx
  refine ⟨_, ?_, b, o0, cs, rfl, h2, h3, h4⟩
  simp only [Instr.fieldAt, Sem.run_bind, run_underlying hd, Result.andThen_ok, hg, Instr.sureAddr, Sem.run_pure, fieldPlace, size_ok hTO hTf, Sem.run_ite, if_neg hz, add_off, addo_eq, Nat.add_assoc]
theorem run_boundsless {k : IntKind} {i : Int} : (asIntOf (.int k i)).run P w = .ok (k, i) w := by simp [asIntOf]
theorem indexAddrA_sound (hTO : TOk P T) {t : TypeId} {x i : AVal} {v : AVal} {c : Prop} (h : indexAddrA T t x i = some (v, c)) (hc : c) {a b : Value} (hx : ARel R μ w x a) (hi : ARel R μ w i b) :
  ∃ d, (Instr.indexAt t a b).run P w = .ok d w ∧ ARel R μ w v d := by
 unfold indexAddrA at h
 split at h
 case h_3 => simp at h
 ·rename_i e _ _ _ k i hT
  obtain ⟨d, hd, hk⟩ := tyk_ok hTO hT
  simp only [TyK.ok] at hk
  subst hk
  simp only [ARel, RRel] at hi
  subst hi
  split at h
  case h_4 => simp at h
  ·rename_i te β off n z hTe
   cases hb : Nat.beq te.size z <;> rw [hb] at h <;> simp only [cond_true, cond_false, reduceCtorEq, Option.some.injEq] at h
   obtain ⟨rfl, rfl⟩ := Prod.mk.inj h
   have hz := Nat.eq_of_beq_eq_true hb
   simp only [ARel] at hx ⊢
   obtain ⟨bl, o, cap, cells, el, fz, h1, rfl, h3, h4, h5, h6⟩ := hx
   refine ⟨_, ?_, bl, o, h1, rfl⟩
   simp only [Instr.indexAt, Sem.run_bind, run_boundsless, Result.andThen_ok, run_underlying hd, Sem.run_pure, Sem.run_ite, hc, and_self, if_true, size_ok hTO hTe, add_off, addo_eq, mulz_eq, hz, Nat.add_assoc]
  ·rename_i te n xs hTe
   simp only [Option.some.injEq] at h
   obtain ⟨rfl, rfl⟩ := Prod.mk.inj h
   simp only [ARel, RRel] at hx ⊢
   obtain ⟨ad, cap, cs, rfl, h2, h3, h4⟩ := hx
   rcases h3 with h3 | ⟨bl, o, rfl, h5, h6⟩
   ·subst h3
    have := h4.length
    exact absurd (List.length_eq_zero_iff.1 this.symm) hc.2
   ·refine ⟨_, ?_, bl, o, cs, rfl, h5, h6, h4⟩
    simp only [Instr.indexAt, Sem.run_bind, run_boundsless, Result.andThen_ok, run_underlying hd, Sem.run_pure, Sem.run_ite, hc.1, and_self, if_true, size_ok hTO hTe, add_off, mulz_eq]
  ·rename_i te s hTe
   cases hb : Nat.beq te.size 1 <;> rw [hb] at h <;> simp only [cond_true, cond_false, reduceCtorEq, Option.some.injEq] at h
   obtain ⟨rfl, rfl⟩ := Prod.mk.inj h
   have hz := Nat.eq_of_beq_eq_true hb
   simp only [ARel, RRel] at hx ⊢
   obtain ⟨ad, cap, rfl, h2, h3⟩ := hx
   rcases h3 with h3 | ⟨bl, o, rfl, h5, h6⟩
   ·simp [bytesV] at h3
    subst h3
    simp at hc
    omega
   ·refine ⟨_, ?_, bl, o, rfl, h5, h6⟩
    simp only [Instr.indexAt, Sem.run_bind, run_boundsless, Result.andThen_ok, run_underlying hd, Sem.run_pure, Sem.run_ite, hc, and_self, if_true, size_ok hTO hTe, add_off, hz, Nat.mul_one]
 ·rename_i n e _ _ _ k i hT
  obtain ⟨d, hd, hk⟩ := tyk_ok hTO hT
  simp only [TyK.ok] at hk
  subst hk
  simp only [ARel, RRel] at hi
  subst hi
  split at h
  case h_3 => simp at h
  ·rename_i te β off hTe
   simp only [Option.some.injEq] at h
   obtain ⟨rfl, rfl⟩ := Prod.mk.inj h
   simp only [ARel] at hx ⊢
   obtain ⟨bl, o, h1, rfl⟩ := hx
   refine ⟨_, ?_, bl, o, h1, rfl⟩
   simp only [Instr.indexAt, Sem.run_bind, run_boundsless, Result.andThen_ok, run_underlying hd, Instr.sureAddr, Sem.run_pure, Sem.run_ite, hc, and_self, if_true, size_ok hTO hTe, add_off, addo_eq, mulz_eq, Nat.add_assoc]
  ·rename_i te xs off hTe
   simp only [Option.some.injEq] at h
   obtain ⟨rfl, rfl⟩ := Prod.mk.inj h
   simp only [ARel] at hx ⊢
   obtain ⟨bl, o0, cs, rfl, h2, h3, h4⟩ := hx
   refine ⟨_, ?_, bl, o0, cs, rfl, h2, h3, h4⟩
   simp only [Instr.indexAt, Sem.run_bind, run_boundsless, Result.andThen_ok, run_underlying hd, Instr.sureAddr, Sem.run_pure, Sem.run_ite, hc, and_self, if_true, size_ok hTO hTe, add_off, addo_eq, mulz_eq, Nat.add_assoc]
theorem indexA_sound (hTO : TOk P T) {t : TypeId} {x i : AVal} {v : AVal} {c : Prop} (h : indexA T t x i = some (v, c)) (hc : c) {a b : Value} (hx : ARel R μ w x a) (hi : ARel R μ w i b) :
  ∃ d, (Instr.index t a b).run P w = .ok d w ∧ ARel R μ w v d := by
 unfold indexA at h
 split at h
 case h_3 => simp at h
 ·rename_i n e _ _ _ cs k i hT
  obtain ⟨d, hd, hk⟩ := tyk_ok hTO hT
  simp only [TyK.ok] at hk
  subst hk
  simp only [ARel, RRel] at hi
  subst hi
  split at h
  case h_2 => simp at h
  rename_i te hTe
  simp only [Option.map_eq_some_iff, Prod.mk.injEq] at h
  obtain ⟨u, h, rfl, rfl⟩ := h
  simp only [ARel] at hx
  obtain ⟨ds, rfl, hx⟩ := hx
  rw [mulz_eq] at h
  obtain ⟨f, h1, h2⟩ := partA_sound hTO h hx
  refine ⟨f, ?_, h2⟩
  simp only [Instr.index, Sem.run_bind, run_boundsless, Result.andThen_ok, run_underlying hd, Sem.run_ite, hc, and_self, if_true, size_ok hTO hTe, h1]
 ·rename_i s k i hT
  simp only [Option.some.injEq] at h
  obtain ⟨rfl, rfl⟩ := Prod.mk.inj h
  obtain ⟨d, hd, hk⟩ := tyk_ok hTO hT
  simp only [TyK.ok] at hk
  subst hk
  simp only [ARel, RRel] at hi hx
  subst hi; subst hx
  have hlt : i.toNat < s.length := by omega
  refine ⟨.int .u8 (s[i.toNat]).toNat, ?_, by simp only [ARel, RRel]; congr 3; simp [List.getD, hlt]⟩
  simp only [Instr.index, Sem.run_bind, run_boundsless, Result.andThen_ok, run_underlying hd, hc.1, if_true]
  have : (⟨⟨s⟩⟩ : ByteArray)[i.toNat]? = some s[i.toNat] := by
   rw [getElem?_pos (⟨⟨s⟩⟩ : ByteArray) i.toNat hlt]
   rfl
  rw [this]
  simp
theorem run_bytes_string {src dst e : TypeId} (hs : P.underlying src = some (.slice e)) (he : P.underlying e = some (.int .u8)) (hd : P.underlying dst = some .string) {s : List UInt8} {a : Option Addr} {cap : Nat}
  (hr : RowAt R w a (bytesV s)) : (convert src dst (.slice a s.length cap)).run P w = .ok (.string ⟨⟨s⟩⟩) w := by
 cases a with
 | none =>
  have : s = [] := by
   rcases hr with h | ⟨_, _, h, _⟩
   ·simpa [bytesV] using h
   ·simp at h
  subst this
  simp only [convert, Sem.run_bind, run_underlying hs, run_underlying hd, run_underlying he, Result.andThen_ok]
  rfl
 | some ad =>
  refine run_convert_bytes_back w src dst e ad cap s hs he hd (fun j hj => ?_)
  rcases hr with h | ⟨b, o, h, _, h2⟩
  ·have : s = [] := by simpa [bytesV] using h
   subst this; simp at hj
  ·cases h
   rw [add_off]
   exact h2 j _ (by simp [bytesV, hj, byteV])
theorem convB_sound (hTO : TOk P T) {src dst : TypeId} {st : Ty} {x v : AVal} {c : Prop} (hs : T.look src = some st) (h : convB T st.k dst x = some (v, c)) {a : Value} (hx : ARel R μ w x a) :
  ∃ d, (convert src dst a).run P w = .ok d w ∧ ARel R μ w v d := by
 obtain ⟨sd, hsd, hsk⟩ := tyk_ok hTO hs
 unfold convB at h
 split at h
 case h_3 => simp at h
 all_goals
  rename_i e _ _ _ hke hT
  split at h
  case h_2 => simp at h
  rename_i hTe
  simp only [Option.some.injEq] at h
  obtain ⟨rfl, _⟩ := Prod.mk.inj h
  rw [hke] at hsk
  simp only [TyK.ok] at hsk
  subst hsk
  obtain ⟨d, hd, hk⟩ := tyk_ok hTO hT
  simp only [TyK.ok] at hk
  subst hk
  obtain ⟨de, hde, hke2⟩ := tyk_ok hTO hTe
  simp only [TyK.ok] at hke2
  subst hke2
  simp only [ARel] at hx
 ·simp only [RRel] at hx
  obtain ⟨ad, cap, rfl, _, hr⟩ := hx
  exact ⟨_, run_bytes_string hsd hde hd hr, by simp only [ARel, RRel]⟩
 ·simp only [RRel] at hx
  obtain ⟨ad, rfl⟩ := hx
  exact ⟨_, run_bytes_string (R := R) (s := []) (a := ad) (cap := 0) hsd hde hd (.inl rfl), by simp only [ARel, RRel]⟩
end
end Go.Proofs.YtccdhgmkjakjkaaGreat
namespace Go.Proofs.YtccdhgmkjakjkaaGreat
open Go
section
variable {P : Program} {T : TTab} {R : Nat → Prop} {μ : Mu} {w : World}
def OptRel : Option Int → Option Value → Prop
 | none, none => True
 | some n, some v => ∃ k, v = .int k n
 | _, _ => False
theorem run_sliceBound {k : IntKind} {i : Int} {y : Nat} {code : BoundsCode} (h : 0 ≤ i ∧ i ≤ y) : (Instr.sliceBound (.int k i) y code).run P w = .ok i.toNat w := by
 simp [Instr.sliceBound, asIntOf, h]
theorem run_sliceBounds {isS : Bool} {n c : Nat} {lo hi mx : Option Int} {l h m : Option Value} (hl : OptRel lo l) (hh : OptRel hi h) (hm : OptRel mx m) (hb : boundsOk n lo hi mx) (hc : n ≤ c) :
  ∃ a b d : Nat, (Instr.sliceBounds isS n c l h m).run P w = .ok (a, b, d) w ∧ a = (lo.getD 0).toNat ∧ b = (hi.getD n).toNat ∧ a ≤ b ∧ b ≤ n ∧ b ≤ d ∧ d ≤ c ∧ ((mx = none → d = c) ∧ ∀ q, mx = some q → d = q.toNat) := by
 cases lo <;> cases hi <;> cases mx <;> cases l <;> cases h <;> cases m <;> simp only [OptRel] at hl hh hm <;> simp only [boundsOk] at hb <;>
  (try obtain ⟨k1, rfl⟩ := hl) <;> (try obtain ⟨k2, rfl⟩ := hh) <;> (try obtain ⟨k3, rfl⟩ := hm)
 ·refine ⟨0, n, c, by simp [Instr.sliceBounds], by simp, by simp, by omega, by omega, by omega, by omega, by simp⟩
 ·rename_i i
  refine ⟨0, i.toNat, c, ?_, by simp, by simp, by omega, by omega, by omega, by omega, by simp⟩
  simp only [Instr.sliceBounds, Sem.run_bind, Sem.run_pure, Result.andThen_ok, run_sliceBound (P := P) (w := w) (k := k2) (i := i) (y := c) (by omega)]
 ·rename_i i j
  refine ⟨0, i.toNat, j.toNat, ?_, by simp, by simp, by omega, by omega, by omega, by omega, by simp⟩
  simp only [Instr.sliceBounds, Sem.run_bind, Sem.run_pure, Result.andThen_ok, run_sliceBound (P := P) (w := w) (k := k3) (i := j) (y := c) (by omega), run_sliceBound (P := P) (w := w) (k := k2) (i := i) (y := j.toNat) (by omega)]
 ·rename_i i
  refine ⟨i.toNat, n, c, ?_, by simp, by simp, by omega, by omega, by omega, by omega, by simp⟩
  simp only [Instr.sliceBounds, Sem.run_bind, Sem.run_pure, Result.andThen_ok, run_sliceBound (P := P) (w := w) (k := k1) (i := i) (y := n) (by omega)]
 ·rename_i i j
  refine ⟨i.toNat, j.toNat, c, ?_, by simp, by simp, by omega, by omega, by omega, by omega, by simp⟩
  simp only [Instr.sliceBounds, Sem.run_bind, Sem.run_pure, Result.andThen_ok, run_sliceBound (P := P) (w := w) (k := k2) (i := j) (y := c) (by omega), run_sliceBound (P := P) (w := w) (k := k1) (i := i) (y := j.toNat) (by omega)]
 ·rename_i i j q
  refine ⟨i.toNat, j.toNat, q.toNat, ?_, by simp, by simp, by omega, by omega, by omega, by omega, by simp⟩
  simp only [Instr.sliceBounds, Sem.run_bind, Sem.run_pure, Result.andThen_ok, run_sliceBound (P := P) (w := w) (k := k3) (i := q) (y := c) (by omega), run_sliceBound (P := P) (w := w) (k := k2) (i := j) (y := q.toNat) (by omega), run_sliceBound (P := P) (w := w) (k := k1) (i := i) (y := j.toNat) (by omega)]
theorem cutL_eq {α : Type} (xs : List α) (z n : Nat) {lo hi : Option Int} {a b : Nat} (ha : a = (lo.getD 0).toNat) (hb : b = (hi.getD n).toNat) (hx : xs.length = n * z) (hab : a ≤ b) (hi0 : ∀ l h, lo = some l → hi = some h → 0 ≤ l ∧ l ≤ h) :
  cutL xs z lo hi = (xs.drop (a * z)).take ((b - a) * z) := by
 subst ha; subst hb
 cases lo <;> cases hi <;> simp only [cutL, mulz_eq, Option.getD]
 ·simp
  rw [List.take_of_length_le (by omega)]
 ·simp
 ·exact (List.take_of_length_le (by rw [List.length_drop, hx, Int.toNat_natCast, Nat.sub_mul]; exact Nat.le_refl _)).symm
 ·rename_i l h
  have := hi0 l h rfl rfl
  rw [show (h - l).toNat = h.toNat - l.toNat by omega]
theorem cutN_eq (n : Nat) {lo hi : Option Int} {a b : Nat} (ha : a = (lo.getD 0).toNat) (hb : b = (hi.getD n).toNat) (hi0 : ∀ l h, lo = some l → hi = some h → 0 ≤ l ∧ l ≤ h) : cutN n lo hi = b - a := by
 subst ha; subst hb
 cases lo <;> cases hi <;> simp only [cutN, Option.getD]
 ·simp
 ·simp
 ·simp
 ·rename_i l h
  have := hi0 l h rfl rfl
  omega
theorem bounds_lh {n : Int} {lo hi mx : Option Int} (h : boundsOk n lo hi mx) : ∀ a b, lo = some a → hi = some b → 0 ≤ a ∧ a ≤ b := by
 rintro a b rfl rfl
 cases mx <;> simp only [boundsOk] at h <;> omega
theorem RowAt.cut {a : Option Addr} {cs : List Value} (h : RowAt R w a cs) (o n : Nat) (b : Bool) (hb : b = true → ((cs.drop o).take n) = []) :
  RowAt R w (if b then a else a.map (·.add o)) ((cs.drop o).take n) := by
 cases b with
 | true => exact .inl (hb rfl)
 | false =>
  rcases h with h | ⟨bl, of, rfl, h1, h2⟩
  ·subst h; exact .inl (by simp)
  ·refine .inr ⟨bl, of + o, by simp [add_off], h1, fun j v hj => ?_⟩
   rw [List.getElem?_take] at hj
   split at hj
   ·rw [List.getElem?_drop] at hj
    rw [Nat.add_assoc]
    exact h2 _ _ hj
   ·simp at hj
theorem sliceA_sound (hTO : TOk P T) {t : TypeId} {x : AVal} {lo hi mx : Option Int} {v : AVal} {c : Prop} (h : sliceA T t x lo hi mx = some (v, c)) (hc : c) {a : Value} {l u m : Option Value}
  (hx : ARel R μ w x a) (hl : OptRel lo l) (hu : OptRel hi u) (hm : OptRel mx m) : ∃ d, (Instr.sliceAt t a l u m).run P w = .ok d w ∧ ARel R μ w v d := by
 unfold sliceA at h
 split at h
 case h_5 => simp at h
 ·-- a text
  rename_i s hT
  obtain ⟨d, hd, hk⟩ := tyk_ok hTO hT
  simp only [TyK.ok] at hk
  subst hk
  split at h
  case h_2 => simp at h
  simp only [Option.some.injEq] at h
  obtain ⟨rfl, rfl⟩ := Prod.mk.inj h
  simp only [ARel, RRel] at hx
  subst hx
  cases m with
  | some _ => simp [OptRel] at hm
  | none =>
   obtain ⟨p, q, e, h1, h2, h3, h4, h5, h6, h7, h8⟩ := run_sliceBounds (P := P) (w := w) (isS := false) hl hu hm hc (Nat.le_refl _)
   refine ⟨.string ((⟨⟨s⟩⟩ : ByteArray).extract p q), ?_, ?_⟩
   ·simp only [Instr.sliceAt, Instr.slice, Sem.run_bind, run_underlying hd, Result.andThen_ok, Option.isSome_none, Bool.false_eq_true, if_false, size_mk, h1, Sem.run_pure]
   ·simp only [ARel, RRel]
    congr 1
    apply ByteArray.ext
    apply Array.ext'
    rw [Lib.extract_data]
    rw [cutL_eq s 1 s.length h2 h3 (by simp) h4 (bounds_lh hc)]
    simp
 ·-- bytes
  rename_i e _ _ _ s hT
  obtain ⟨d, hd, hk⟩ := tyk_ok hTO hT
  simp only [TyK.ok] at hk
  subst hk
  split at h
  case h_2 => simp at h
  rename_i te hTe
  cases hb : Nat.beq te.size 1 <;> rw [hb] at h <;> simp only [cond_true, cond_false, reduceCtorEq, Option.some.injEq] at h
  obtain ⟨rfl, rfl⟩ := Prod.mk.inj h
  have hz := Nat.eq_of_beq_eq_true hb
  simp only [ARel, RRel] at hx ⊢
  obtain ⟨ad, cap, rfl, h9, h10⟩ := hx
  obtain ⟨p, q, e, h1, h2, h3, h4, h5, h6, h7, h8⟩ := run_sliceBounds (P := P) (w := w) (isS := true) hl hu hm hc h9
  have hcut := cutL_eq s 1 s.length h2 h3 (by simp) h4 (bounds_lh hc)
  simp only [Nat.mul_one] at hcut
  refine ⟨.slice (if e = p then ad else ad.map (·.add (p * 1))) (q - p) (e - p), ?_, if e = p then ad else ad.map (·.add (p * 1)), e - p, ?_, ?_, ?_⟩
  ·simp only [Instr.sliceAt, Instr.slice, Sem.run_bind, run_underlying hd, Result.andThen_ok, h1, Sem.run_pure, size_ok hTO hTe, hz]
  ·rw [hcut]; simp only [List.length_take, List.length_drop]; congr 1; omega
  ·rw [hcut]; simp only [List.length_take, List.length_drop]; omega
  ·rw [hcut, bytesV, List.map_take, List.map_drop, Nat.mul_one]
   have := RowAt.cut h10 p (q - p) (decide (e = p)) (fun he => by
    have : e = p := of_decide_eq_true he
    simp [show q - p = 0 by omega])
   simpa [bytesV] using this
 ·-- read-only cells
  rename_i el _ _ _ n xs hT
  obtain ⟨d, hd, hk⟩ := tyk_ok hTO hT
  simp only [TyK.ok] at hk
  subst hk
  split at h
  case h_2 => simp at h
  rename_i te hTe
  have key : ∀ (c0 : Prop) (L : List RVal), (boundsOk n lo hi mx) → (∀ p q : Nat, p = (lo.getD 0).toNat → q = (hi.getD n).toNat → p ≤ q → q ≤ n → (lo = none → L = xs.take ((q - p) * te.size) ∨ L = xs) ∧ (lo ≠ none → L = (xs.drop (p * te.size)).take ((q - p) * te.size))) →
    ∃ d, (Instr.sliceAt t a l u m).run P w = .ok d w ∧ ARel R μ w (.r (.ro (cutN n lo hi) L)) d := by
   intro c0 L hbo hL
   simp only [ARel, RRel] at hx ⊢
   obtain ⟨ad, cap, cs, rfl, h9, h10, h11⟩ := hx
   obtain ⟨p, q, e, h1, h2, h3, h4, h5, h6, h7, h8⟩ := run_sliceBounds (P := P) (w := w) (isS := true) hl hu hm hbo h9
   refine ⟨.slice (if e = p then ad else ad.map (·.add (p * te.size))) (q - p) (e - p), ?_, ?_⟩
   ·simp only [Instr.sliceAt, Instr.slice, Sem.run_bind, run_underlying hd, Result.andThen_ok, h1, Sem.run_pure, size_ok hTO hTe]
   ·obtain ⟨hL1, hL2⟩ := hL p q h2 h3 h4 h5
    rw [cutN_eq n h2 h3 (bounds_lh hbo)]
    by_cases hlo : lo = none
    ·have hp : p = 0 := by rw [h2, hlo]; rfl
     subst hp
     have e1 : (if e = 0 then ad else ad.map (·.add (0 * te.size))) = ad := by
      split
      ·rfl
      ·cases ad <;> simp [Addr.add]
     rw [e1]
     rcases hL1 hlo with h12 | h12
     ·rw [h12]
      refine ⟨ad, e - 0, cs.take ((q - 0) * te.size), rfl, by omega, ?_, h11.take _⟩
      have := RowAt.cut h10 0 ((q - 0) * te.size) false (by simp)
      have e2 : ad.map (·.add 0) = ad := by cases ad <;> simp [Addr.add]
      simpa [e2] using this
     ·rw [h12]
      exact ⟨ad, e - 0, cs, rfl, by omega, h10, h11⟩
    ·rw [hL2 hlo]
     refine ⟨_, e - p, (cs.drop (p * te.size)).take ((q - p) * te.size), rfl, by omega, ?_, (h11.drop _).take _⟩
     have := RowAt.cut h10 (p * te.size) ((q - p) * te.size) (decide (e = p)) (fun he => by
      have : e = p := of_decide_eq_true he
      simp [show q - p = 0 by omega])
     simpa using this
  split at h
  ·rename_i l0
   simp only [Option.some.injEq] at h
   obtain ⟨rfl, rfl⟩ := Prod.mk.inj h
   refine key True _ hc.1 fun p q hp hq hpq hqn => ⟨by simp, fun _ => ?_⟩
   simp only [Option.getD] at hp hq
   simp only [cutL, mulz_eq, hp]
   rw [List.take_of_length_le (by simp [hc.2, hq, Nat.sub_mul])]
  ·rename_i hne
   simp only [Option.some.injEq] at h
   obtain ⟨rfl, rfl⟩ := Prod.mk.inj h
   refine key True _ hc fun p q hp hq hpq hqn => ?_
   subst hp; subst hq
   cases lo <;> cases hi
   ·exact ⟨fun _ => .inr rfl, by simp⟩
   ·exact ⟨fun _ => .inl (by simp [cutL, mulz_eq]), by simp⟩
   ·exact (hne _ rfl rfl).elim
   ·rename_i i j
    have := bounds_lh hc i j rfl rfl
    refine ⟨by simp, fun _ => ?_⟩
    simp only [cutL, mulz_eq, Option.getD]
    rw [show (j - i).toNat = j.toNat - i.toNat by omega]
 ·-- an owned block's
  rename_i el _ _ _ β off n z hT
  obtain ⟨d, hd, hk⟩ := tyk_ok hTO hT
  simp only [TyK.ok] at hk
  subst hk
  split at h
  case h_3 => simp at h
  ·rename_i te hTe
   cases hb : Nat.beq te.size z <;> rw [hb] at h <;> simp only [cond_true, cond_false, reduceCtorEq, Option.some.injEq] at h
   obtain ⟨rfl, rfl⟩ := Prod.mk.inj h
   have hz := Nat.eq_of_beq_eq_true hb
   simp only [ARel] at hx ⊢
   obtain ⟨bl, o, cap, cells, e0, fz, h9, rfl, h10, h11, h12, h13⟩ := hx
   obtain ⟨p, q, e, h1, h2, h3, h4, h5, h6, h7, h8⟩ := run_sliceBounds (P := P) (w := w) (isS := true) hl hu hm hc h10
   have hp : p = 0 := h2
   subst hp
   refine ⟨.slice (some ⟨bl, o + off, none⟩) (q - 0) (e - 0), ?_, bl, o, e - 0, cells, e0, fz, h9, ?_, ?_, by omega, h12, ?_⟩
   ·simp only [Instr.sliceAt, Instr.slice, Sem.run_bind, run_underlying hd, Result.andThen_ok, h1, Sem.run_pure, size_ok hTO hTe, hz]
    congr 2
    split
    ·rfl
    ·simp [Addr.add]
   ·rw [cutN_eq n h2 h3 (bounds_lh hc)]
   ·rw [cutN_eq n h2 h3 (bounds_lh hc)]; omega
   ·have : (e - 0) * z ≤ cap * z := Nat.mul_le_mul_right _ (by omega)
    omega
  ·rename_i te l0 hTe
   cases hb : Nat.beq te.size z <;> rw [hb] at h <;> simp only [cond_true, cond_false, reduceCtorEq, Option.some.injEq] at h
   obtain ⟨rfl, rfl⟩ := Prod.mk.inj h
   have hz := Nat.eq_of_beq_eq_true hb
   obtain ⟨hc, hc2, hc3⟩ := hc
   simp only [ARel] at hx ⊢
   obtain ⟨bl, o, cap, cells, e0, fz, h9, rfl, h10, h11, h12, h13⟩ := hx
   obtain ⟨p, q, e, h1, h2, h3, h4, h5, h6, h7, h8⟩ := run_sliceBounds (P := P) (w := w) (isS := true) hl hu hm hc h10
   have hp : p = l0.toNat := h2
   have hl0 : 0 ≤ l0 := by
    cases hi <;> cases mx <;> simp only [boundsOk] at hc <;> omega
   have he : p < e := by
    cases mx with
    | none => have := h8.1 rfl; omega
    | some q => have h15 := h8.2 q rfl; simp only [mxOk] at hc3; omega
   refine ⟨.slice (some ⟨bl, o + off + p * z, none⟩) (q - p) (e - p), ?_, bl, o, e - p, cells, e0, fz, h9, ?_, ?_, by omega, h12, ?_⟩
   ·simp only [Instr.sliceAt, Instr.slice, Sem.run_bind, run_underlying hd, Result.andThen_ok, h1, Sem.run_pure, size_ok hTO hTe, hz]
    rw [if_neg (by omega)]
    simp only [Option.map_some, add_off]
   ·rw [cutN_eq n h2 h3 (bounds_lh hc), addo_eq, mulz_eq, ← hp, Nat.add_assoc]
   ·rw [cutN_eq n h2 h3 (bounds_lh hc)]; omega
   ·rw [addo_eq, mulz_eq, ← hp]
    have h14 : p * z + (e - p) * z = e * z := by rw [← Nat.add_mul]; congr 1; omega
    have : e * z ≤ cap * z := Nat.mul_le_mul_right _ h7
    omega
theorem lenA_sound (hTO : TOk P T) {t : TypeId} {x : AVal} {n : Int} (h : lenA T t x = some n) {a : Value} (hx : ARel R μ w x a) {ty : TypeId} {r1 : List TypeId} {r2 : List Value} :
  (Builtin.len_ ⟨t :: r1⟩ ty ⟨a :: r2⟩).run P w = .ok (.int .i64 n) w := by
 unfold lenA at h
 split at h
 case h_7 => simp at h
 all_goals
  rename_i hT
  obtain ⟨d, hd, hk⟩ := tyk_ok hTO hT
  simp only [TyK.ok] at hk
  subst hk
  simp only [Option.some.injEq] at h
  subst h
  try simp only [ARel, RRel] at hx
 ·subst hx
  simp [Builtin.len_, run_underlying hd, goInt, size_mk]
 ·simp [Builtin.len_, run_underlying hd, goInt]
 ·obtain ⟨ad, cap, rfl, _⟩ := hx
  simp [Builtin.len_, run_underlying hd, goInt]
 ·obtain ⟨ad, cap, cs, rfl, _⟩ := hx
  simp [Builtin.len_, run_underlying hd, goInt]
 ·obtain ⟨ad, rfl⟩ := hx
  simp [Builtin.len_, run_underlying hd, goInt]
 ·obtain ⟨_, _, _, _, _, _, _, rfl, _⟩ := hx
  simp [Builtin.len_, run_underlying hd, goInt]
theorem mmA_min_sound : ∀ (l : List AVal) (k : IntKind) (x : Int) (v : AVal), mmA min (.r (.int k x)) l = some v → ∀ (cs : List Value), ARels R μ w l cs →
  ∃ d, (cs.foldlM Builtin.min2 (.int k x)).run P w = .ok d w ∧ ARel R μ w v d
 | [], k, x, v, h, cs, hc => by
  simp only [mmA, Option.some.injEq] at h
  subst h
  simp only [ARels] at hc
  subst hc
  exact ⟨.int k x, by simp, by simp [ARel, RRel]⟩
 | y :: l, k, x, v, h, cs, hc => by
  simp only [ARels] at hc
  obtain ⟨c, r, rfl, h1, h2⟩ := hc
  cases y with
  | r y =>
   cases y with
   | int k' y =>
    simp only [mmA] at h
    simp only [ARel, RRel] at h1
    subst h1
    obtain ⟨d, h3, h4⟩ := mmA_min_sound l k (min x y) v h r h2
    refine ⟨d, ?_, h4⟩
    simp only [List.foldlM_cons, Sem.run_bind, Builtin.min2, Sem.run_pure, Result.andThen_ok]
    rw [show (if y < x then y else x) = min x y by rw [Int.min_def]; split <;> split <;> omega]
    exact h3
   | _ => simp [mmA] at h
  | _ => simp [mmA] at h
theorem mmA_max_sound : ∀ (l : List AVal) (k : IntKind) (x : Int) (v : AVal), mmA max (.r (.int k x)) l = some v → ∀ (cs : List Value), ARels R μ w l cs →
  ∃ d, (cs.foldlM Builtin.max2 (.int k x)).run P w = .ok d w ∧ ARel R μ w v d
 | [], k, x, v, h, cs, hc => by
  simp only [mmA, Option.some.injEq] at h
  subst h
  simp only [ARels] at hc
  subst hc
  exact ⟨.int k x, by simp, by simp [ARel, RRel]⟩
 | y :: l, k, x, v, h, cs, hc => by
  simp only [ARels] at hc
  obtain ⟨c, r, rfl, h1, h2⟩ := hc
  cases y with
  | r y =>
   cases y with
   | int k' y =>
    simp only [mmA] at h
    simp only [ARel, RRel] at h1
    subst h1
    obtain ⟨d, h3, h4⟩ := mmA_max_sound l k (max x y) v h r h2
    refine ⟨d, ?_, h4⟩
    simp only [List.foldlM_cons, Sem.run_bind, Builtin.max2, Sem.run_pure, Result.andThen_ok]
    rw [show (if x < y then y else x) = max x y by rw [Int.max_def]; split <;> split <;> omega]
    exact h3
   | _ => simp [mmA] at h
  | _ => simp [mmA] at h
theorem builtinA_sound (hTO : TOk P T) {b : Builtin} {argTypes : Array TypeId} {args : List AVal} {v : AVal} {c : Prop} (h : builtinA T b argTypes args = some (v, c)) {cs : List Value} (hc : ARels R μ w args cs) (ty : TypeId) (consts : Array Bool) :
  ∃ d, (builtin b argTypes ty consts ⟨cs⟩).run P w = .ok (.value d) w ∧ ARel R μ w v d := by
 unfold builtinA at h
 split at h
 ·rename_i x l
  obtain ⟨at0⟩ := argTypes
  split at h
  ·rename_i t l2 e
   simp only at e
   subst e
   simp only [Option.map_eq_some_iff, Prod.mk.injEq] at h
   obtain ⟨n, h, rfl, _⟩ := h
   simp only [ARels] at hc
   obtain ⟨a, r, rfl, h1, h2⟩ := hc
   refine ⟨.int .i64 n, ?_, by simp [ARel, RRel]⟩
   simp only [builtin, Sem.run_bind, lenA_sound hTO h h1, Result.andThen_ok, Sem.run_pure]
  ·simp at h
 ·simp only [Option.map_eq_some_iff, Prod.mk.injEq] at h
  obtain ⟨n, h, rfl, _⟩ := h
  simp only [ARels] at hc
  obtain ⟨a, r, rfl, h1, h2⟩ := hc
  simp only [ARel, RRel] at h1
  subst h1
  obtain ⟨d, h3, h4⟩ := mmA_min_sound (P := P) _ _ _ _ h r h2
  refine ⟨d, ?_, h4⟩
  simp only [builtin, Builtin.min_, Sem.run_bind, h3, Result.andThen_ok, Sem.run_pure]
 ·simp only [Option.map_eq_some_iff, Prod.mk.injEq] at h
  obtain ⟨n, h, rfl, _⟩ := h
  simp only [ARels] at hc
  obtain ⟨a, r, rfl, h1, h2⟩ := hc
  simp only [ARel, RRel] at h1
  subst h1
  obtain ⟨d, h3, h4⟩ := mmA_max_sound (P := P) _ _ _ _ h r h2
  refine ⟨d, ?_, h4⟩
  simp only [builtin, Builtin.max_, Sem.run_bind, h3, Result.andThen_ok, Sem.run_pure]
 ·simp at h
theorem optInt_rel {ev : Operand → AVal} {ρ : Operand → Value} (hrel : ∀ x, ARel R μ w (ev x) (ρ x)) {o : Option Operand} {l : Option Int} (h : optInt ev o = some l) : OptRel l (o.map ρ) := by
 cases o with
 | none => simp [optInt] at h; subst h; simp [OptRel]
 | some x =>
  simp only [optInt] at h
  split at h
  ·rename_i k n e
   simp only [Option.some.injEq] at h
   subst h
   have := hrel x
   rw [e] at this
   simp only [ARel, RRel] at this
   exact ⟨k, this⟩
  ·simp at h
theorem ARels.map {ev : Operand → AVal} {ρ : Operand → Value} (hrel : ∀ x, ARel R μ w (ev x) (ρ x)) : ∀ (l : List Operand), ARels R μ w (l.map ev) (l.map ρ)
 | [] => by simp [ARels]
 | x :: l => by simp only [List.map_cons, ARels]; exact ⟨_, _, rfl, hrel x, ARels.map hrel l⟩
theorem pureOp_sound (hTO : TOk P T) {ev : Operand → AVal} {ρ : Operand → Value} (hrel : ∀ x, ARel R μ w (ev x) (ρ x)) (o : Oper) {v : AVal} {c : Prop} (h : pureOp T ev o.op = some (v, c)) (hc : c) :
  ∃ d, (execOp ρ o).run P w = .ok (.value d) w ∧ ARel R μ w v d := by
 obtain ⟨dst, op, ty, pos, after, guard⟩ := o
 simp only at h
 cases op <;> simp only [pureOp, reduceCtorEq] at h
 case move x =>
  simp only [Option.some.injEq] at h
  obtain ⟨rfl, rfl⟩ := Prod.mk.inj h
  exact ⟨ρ x, by simp [execOp], hrel x⟩
 case assign x =>
  simp only [Option.some.injEq] at h
  obtain ⟨rfl, rfl⟩ := Prod.mk.inj h
  exact ⟨ρ x, by simp [execOp], hrel x⟩
 case pick x y z =>
  obtain ⟨d, h1, h2⟩ := pickA_sound (P := P) h (hrel x) (hrel y) (hrel z)
  refine ⟨d, ?_, h2⟩
  simp only [execOp]
  simp only [Sem.run_bind] at h1 ⊢
  cases hr : (asBool (ρ x)).run P w with
  | halt a b => rw [hr] at h1; simp at h1
  | ok b w1 =>
   rw [hr] at h1
   simp only [Result.andThen_ok, Sem.run_pure, Result.ok.injEq] at h1 ⊢
   exact ⟨by rw [h1.1], h1.2⟩
 case build t parts =>
  obtain ⟨d, h1, h2⟩ := buildA_sound (P := P) (cp := parts.map fun (i, x) => (i, ρ x)) hTO h hc (by simp [List.map_map, Function.comp_def]) (fun i a c ha hb => by
   simp only [List.getElem?_map, Option.map_eq_some_iff, Array.toList_map] at ha hb
   obtain ⟨p, hp, rfl⟩ := ha
   obtain ⟨q, hq, rfl⟩ := hb
   rw [hp] at hq
   cases hq
   exact hrel _)
  exact ⟨d, by simp [execOp, h1], h2⟩
 case nilCheck x =>
  have hx := hrel x
  split at h <;> simp only [reduceCtorEq, Option.some.injEq] at h
  all_goals
   rename_i e
   rw [e] at hx
   obtain ⟨rfl, rfl⟩ := Prod.mk.inj h
   refine ⟨ρ x, ?_, hx⟩
   simp only [ARel] at hx
   simp only [execOp]
  ·obtain ⟨b, o, _, h2⟩ := hx
   rw [h2]; rfl
  ·obtain ⟨b, o, cs, h2, _⟩ := hx
   rw [h2]; rfl
  ·obtain ⟨b, o, h2, _⟩ := hx
   rw [h2]; rfl
  ·obtain ⟨cs, h2, _⟩ := hx
   rw [h2]; rfl
 case binOp op t x y yt =>
  obtain ⟨d, h1, h2⟩ := binOpA_sound hTO h hc (hrel x) (hrel y) x y
  refine ⟨d, ?_, h2⟩
  simp only [execOp]
  rw [Sem.run_bind, h1]
  rfl
 case unOp op t x =>
  obtain ⟨d, h1, h2⟩ := unOpA_sound (P := P) h hc (hrel x)
  exact ⟨d, by simp [execOp, h1], h2⟩
 case convert src dst x =>
  split at h
  case h_2 => simp at h
  rename_i tys hT
  obtain ⟨d, hd, _⟩ := tyk_ok hTO hT
  split at h
  ·rename_i r hcb
   obtain ⟨rv, rc⟩ := r
   cases h
   obtain ⟨e, h1, h2⟩ := convB_sound (P := P) hTO hT hcb (hrel x)
   exact ⟨e, by simp only [execOp, Sem.run_bind, h1]; rfl, h2⟩
  ·obtain ⟨e, h1, h2⟩ := convA_sound (P := P) hTO h hc (hrel x) ⟨d, hd⟩
   exact ⟨e, by simp only [execOp, Sem.run_bind, h1]; rfl, h2⟩
 case slice t x lo hi mx =>
  split at h
  case h_2 => simp at h
  rename_i l u m e1 e2 e3
  obtain ⟨d, h1, h2⟩ := sliceA_sound (P := P) hTO h hc (hrel x) (optInt_rel hrel e1) (optInt_rel hrel e2) (optInt_rel hrel e3)
  exact ⟨d, by simp only [execOp, Sem.run_bind, h1]; rfl, h2⟩
 case fieldAddr t x f =>
  obtain ⟨d, h1, h2⟩ := fieldAddrA_sound (P := P) hTO h (hrel x)
  exact ⟨d, by simp only [execOp, Sem.run_bind, h1]; rfl, h2⟩
 case field t x f =>
  obtain ⟨d, h1, h2⟩ := fieldA_sound (P := P) hTO h (hrel x)
  exact ⟨d, by simp only [execOp, Sem.run_bind, h1]; rfl, h2⟩
 case indexAddr t x i =>
  obtain ⟨d, h1, h2⟩ := indexAddrA_sound (P := P) hTO h hc (hrel x) (hrel i)
  exact ⟨d, by simp only [execOp, Sem.run_bind, h1]; rfl, h2⟩
 case index t x i =>
  obtain ⟨d, h1, h2⟩ := indexA_sound (P := P) hTO h hc (hrel x) (hrel i)
  exact ⟨d, by simp only [execOp, Sem.run_bind, h1]; rfl, h2⟩
 case extract x i =>
  have hx := hrel x
  split at h
  case h_2 => simp at h
  rename_i vs e
  rw [e] at hx
  simp only [Option.map_eq_some_iff, Prod.mk.injEq] at h
  obtain ⟨u, h, rfl, _⟩ := h
  simp only [ARel] at hx
  obtain ⟨cs, h1, h2⟩ := hx
  obtain ⟨a, h3, h4⟩ := h2.get h
  refine ⟨a, ?_, h4⟩
  simp only [execOp, h1, Instr.extract, List.getElem?_toArray, h3]
  rfl
 case makeFunc fn first caps =>
  obtain ⟨first⟩ := first
  split at h <;> simp only [reduceCtorEq, Option.some.injEq] at h
  rename_i f e
  simp only at e
  subst e
  obtain ⟨rfl, rfl⟩ := Prod.mk.inj h
  refine ⟨.func (.func f) #[] (caps.map ρ), by simp [execOp, Instr.makeFunc], ?_⟩
  simp only [ARel]
  exact ⟨caps.toList.map ρ, by rw [← Array.toList_map], ARels.map hrel _⟩
 case call cl =>
  split at h
  case h_2 => simp at h
  rename_i b e
  obtain ⟨d, h1, h2⟩ := builtinA_sound (P := P) hTO h (ARels.map hrel cl.args.toList) ty (cl.args.map fun x => match x with | .const _ => true | _ => false)
  refine ⟨d, ?_, h2⟩
  simp only [execOp, resolve, e, Sem.run_bind, Sem.run_pure, Result.andThen_ok, invoke]
  rw [← h1, ← Array.toList_map]
  rfl
end
end Go.Proofs.YtccdhgmkjakjkaaGreat
namespace Go.Proofs.YtccdhgmkjakjkaaGreat
open Go
def BodyRel (R : Nat → Prop) (μ : Mu) (w : World) : Body → List Value → Prop
 | .bytes s, vs => vs = bytesV s
 | .plain xs, vs => RRels R w xs vs
 | .mixed cs, vs => ARels R μ w cs vs
structure BlkRel (R : Nat → Prop) (μ : Mu) (w : World) (b o : Nat) (blk : ABlk) : Prop where
 ex : ∃ (cells : Array Value) (el : TypeId) (fz : Nat × Nat) (vs : List Value), w.heap[b]? = some (Obj.cells cells el fz) ∧ (fz.1 ≤ fz.2 ∧ ∀ i, fz.1 ≤ i → i < fz.2 → cells.size ≤ i) ∧ BodyRel R μ w blk vs ∧
  (∀ (j : Nat) v, vs[j]? = some v → cells[o + j]? = some v) ∧ o + vs.length ≤ cells.size
def Others (w w' : World) : Prop := ∀ (k : Nat) (o : Obj), w.heap[k]? = some o → (∀ (c : Array Value) (e : TypeId) (f : Nat × Nat), o ≠ Obj.cells c e f) → w'.heap[k]? = some o
theorem Others.refl (w : World) : Others w w := fun _ _ h _ => h
theorem Others.trans {w w' w'' : World} (h1 : Others w w') (h2 : Others w' w'') : Others w w'' := fun k o h hn => h2 k o (h1 k o h hn) hn
structure Ctx where
 w0 : World
 O : Nat → Prop
 R0 : Nat → Prop
 μ0 : Mu
 mark : Option Nat
 inv : Bool → (Nat → Prop) → World → Prop
 mono : ∀ g (R R' : Nat → Prop) w w', inv g R w → (∀ k, R k → R' k) → Onward R w w' → Others w w' → inv g R' w'
 mkd : ∀ D, mark = some D → ∀ g R w, inv g R w → w.heap[D]? = some (Obj.deferred (some [])) ∧ w0.heap.size ≤ D
def Ctx.plain (w0 : World) (O R0 : Nat → Prop) (μ0 : Mu) : Ctx := ⟨w0, O, R0, μ0, none, fun _ _ _ => True, fun _ _ _ _ _ h _ _ _ => h, fun _ h => by cases h⟩
def Ctx.fin (X : Ctx) : Ctx :=
 match X.mark with
 | none => X
 | some _ => Ctx.plain X.w0 X.O X.R0 X.μ0
def Ctx.defers (X : Ctx) : List Deferred :=
 match X.mark with
 | none => []
 | some D => [{ target := .collected D, args := #[] }]
structure HRel (X : Ctx) (R : Nat → Prop) (μ : Mu) (h : Hp) (w : World) : Prop where
 os : w.os = X.w0.os
 tape : w.tape = X.w0.tape
 output : w.output = X.w0.output
 size : X.w0.heap.size ≤ w.heap.size
 keep : ∀ k, k < X.w0.heap.size → ¬ X.O k → w.heap[k]? = X.w0.heap[k]?
 shape : ∀ (k : Nat) (c : Array Value) (e : TypeId) (f : Nat × Nat), X.w0.heap[k]? = some (Obj.cells c e f) → ∃ (c' : Array Value) (f' : Nat × Nat), w.heap[k]? = some (Obj.cells c' e f') ∧ c'.size = c.size
 r0 : ∀ k, X.R0 k → R k
 rO : ∀ k, R k → X.R0 k ∨ X.O k ∨ X.w0.heap.size ≤ k
 rlt : ∀ k, R k → k < w.heap.size
 rc : ∀ k, R k → ∃ (c : Array Value) (e : TypeId) (f : Nat × Nat), w.heap[k]? = some (Obj.cells c e f)
 mu : ∀ (β : Nat) p, X.μ0[β]? = some p → μ[β]? = some p
 len : μ.length = h.nxt
 live : ∀ β blk, h.get β = some blk → ∃ b o, μ[β]? = some (b, o) ∧ ¬ R b ∧ (X.O b ∨ X.w0.heap.size ≤ b) ∧ BlkRel R μ w b o blk
 inj : ∀ β β' blk blk' b b' o o', h.get β = some blk → h.get β' = some blk' → μ[β]? = some (b, o) → μ[β']? = some (b', o') → b = b' → β = β'
 inv : X.inv h.gh R w
mutual
def AVal.nb (m : Nat) : AVal → Bool
 | .sl β _ _ _ => Nat.blt β m
 | .ptr β _ => Nat.blt β m
 | .func _ cs => AVal.nbs m cs
 | .agg cs => AVal.nbs m cs
 | .tuple cs => AVal.nbs m cs
 | .r _ => true
 | .rp _ _ => true
 | .bp _ _ => true
 | .yld _ => true
 | .any => true
def AVal.nbs (m : Nat) : List AVal → Bool
 | [] => true
 | x :: xs => AVal.nb m x && AVal.nbs m xs
end
abbrev YRel := List AVal → Hp → Bool → Hp → Prop
structure Md where
 len : Nat
 rnd : Bool
 plain : Bool
 yl : Option (Nat × YRel)
def Md.of (n : Nat) : Md := ⟨n, false, true, none⟩
def Regs.nb (n : Nat) : Regs → Bool
 | [] => true
 | (_, v) :: r => AVal.nb n v && Regs.nb n r
def Yields (P : Program) (X : Ctx) (l : Nat) (Y : YRel) : Prop :=
 ∀ args h v h', Y args h v h' → h.gh = false → ∀ (R : Nat → Prop) (μ : Mu) (w : World) (cargs : List Value) (g : Regs) (tmps : Array Value), Regs.nb X.μ0.length g = true → RegRel R μ w g tmps → HRel X R μ h w → ARels R μ w args cargs →
  ∃ l' f tm as bo, (Instr.yield l ⟨cargs⟩).run P w = .ok (.round l' f tm as bo) w ∧ ∀ (c : Frame) (cs : List Frame), ∃ R' μ' w', Steps P (lone (Frame.round l' f tm as bo .normal) (c :: cs) w) (lone (c.finish (.bool v)) cs w') ∧ RegRel R' μ' w' g tmps ∧ HRel X R' μ' { h' with gh := !v } w'
structure MOk (P : Program) (X : Ctx) (m : Md) : Prop where
 len : X.μ0.length = m.len
 plain : m.plain = true → X = Ctx.plain X.w0 X.O X.R0 X.μ0
 rnd : m.rnd = true → X.mark = none
 yl : ∀ l Y, m.yl = some (l, Y) → Yields P X l Y
def Done (P : Program) (fr : Frame) (w : World) (v : Value) : Prop :=
 match fr.roundOf with
 | none => fr.leaving P w (.returned v)
 | some _ => ∃ (b : Frame) (a : Act), b.kind = .normal ∧ ((fr = b.atR a [] ∧ v = .bool true) ∨ (∃ k, fr = b.atR a (.code .ret :: k) ∧ v = .bool false))
def AGo (P : Program) (f N : Nat) (m : Md) (todo : List Item) (g : Regs) (h : Hp) (Post : AVal → Hp → Prop) : Prop :=
 ∀ (X : Ctx) (R : Nat → Prop) (μ : Mu) (a : Act) (w : World) (b : Frame) (cs : List Frame), MOk P X m → b.fn = f → (b.kind = .normal ∧ b.roundOf.isSome = m.rnd) → a.defers = X.defers → a.tmps.size = N →
  RegRel R μ w g a.tmps → HRel X R μ h w →
  ∃ v w' fr, Steps P (lone (b.atR a todo) cs w) (lone fr cs w') ∧ (fr.fn = f ∧ fr.roundOf = b.roundOf) ∧ Done P fr w' v ∧ ∃ R' μ' av h', ARel R' μ' w' av v ∧ HRel X.fin R' μ' h' w' ∧ Post av h'
section
variable {P : Program} {f N : Nat} {m : Md} {todo todo' k : List Item} {g : Regs} {h : Hp} {Post : AVal → Hp → Prop}
theorem AGo.step (hs : ∀ (b : Frame) (a : Act) (cs : List Frame) (w : World), step P (lone (b.atR a todo) cs w) = .next (lone (b.atR a todo') cs w)) (hk : AGo P f N m todo' g h Post) : AGo P f N m todo g h Post := by
 intro X R μ a w b cs h1 h2 h3 h4 h5 h6 h7
 obtain ⟨v, w', fr, h8, rest⟩ := hk X R μ a w b cs h1 h2 h3 h4 h5 h6 h7
 exact ⟨v, w', fr, Steps.head (hs b a cs w) h8, rest⟩
theorem ag_seq {x y : Code} (hk : AGo P f N m (.code x :: .code y :: k) g h Post) : AGo P f N m (.code (.seq x y) :: k) g h Post := AGo.step (fun _ _ _ _ => stepR_seq) hk
theorem ag_skip (hk : AGo P f N m k g h Post) : AGo P f N m (.code .skip :: k) g h Post := AGo.step (fun _ _ _ _ => stepR_skip) hk
theorem ag_block {id : Nat} {c : Code} (hk : AGo P f N m (.code c :: .inBlock id :: k) g h Post) : AGo P f N m (.code (.block id c) :: k) g h Post := AGo.step (fun _ _ _ _ => stepR_block) hk
theorem ag_inBlock {id : Nat} (hk : AGo P f N m k g h Post) : AGo P f N m (.inBlock id :: k) g h Post := AGo.step (fun _ _ _ _ => stepR_inBlock) hk
theorem ag_exit {id : Nat} {k' : List Item} (he : exitTo id k = some k') (hk : AGo P f N m k' g h Post) : AGo P f N m (.code (.exit id) :: k) g h Post := AGo.step (fun _ _ _ _ => stepR_exit he) hk
theorem ag_unroll {c : Code} (hk : AGo P f N m (.code c :: .inLoop c :: k) g h Post) : AGo P f N m (.code (.loop c) :: k) g h Post := AGo.step (fun _ _ _ _ => stepR_loop) hk
theorem ag_again {c : Code} (hk : AGo P f N m (.code c :: .inLoop c :: k) g h Post) : AGo P f N m (.inLoop c :: k) g h Post := AGo.step (fun _ _ _ _ => stepR_inLoop) hk
theorem ag_region {id : Nat} {ops : Array Oper} (hk : AGo P f N m (.inRegion ops (List.range ops.size) :: k) g h Post) : AGo P f N m (.code (.region id ops false) :: k) g h Post := AGo.step (fun _ _ _ _ => stepR_region) hk
theorem ag_regionEnd {ops : Array Oper} (hk : AGo P f N m k g h Post) : AGo P f N m (.inRegion ops [] :: k) g h Post := AGo.step (fun _ _ _ _ => stepR_region_end) hk
theorem ag_cond {c : Operand} {x y : Code} {t : Bool} (hc : evA g c = .r (.bool t)) (h1 : t = true → AGo P f N m (.code x :: k) g h Post) (h2 : t = false → AGo P f N m (.code y :: k) g h Post) :
  AGo P f N m (.code (.cond c x y) :: k) g h Post := by
 intro X R μ a w b cs e1 e2 e3 e4 e5 e6 e7
 have hv := evA_rel (a := a) e6 c
 rw [hc] at hv
 simp only [ARel, RRel] at hv
 have hs := stepR_cond (P := P) (b := b) (a := a) (k := k) (cs := cs) (w := w) (x := x) (y := y) hv
 cases t with
 | true =>
  obtain ⟨v, w', fr, h8, rest⟩ := h1 rfl X R μ a w b cs e1 e2 e3 e4 e5 e6 e7
  exact ⟨v, w', fr, Steps.head hs h8, rest⟩
 | false =>
  obtain ⟨v, w', fr, h8, rest⟩ := h2 rfl X R μ a w b cs e1 e2 e3 e4 e5 e6 e7
  exact ⟨v, w', fr, Steps.head hs h8, rest⟩
theorem ag_if {c : Operand} {x y : Code} {p : Prop} [Decidable p] (hc : evA g c = .r (.bool (decide p))) (h1 : p → AGo P f N m (.code x :: k) g h Post) (h2 : ¬ p → AGo P f N m (.code y :: k) g h Post) :
  AGo P f N m (.code (.cond c x y) :: k) g h Post :=
 ag_cond hc (fun e => h1 (of_decide_eq_true e)) (fun e => h2 (of_decide_eq_false e))
theorem ag_true {c : Operand} {x y : Code} {t : Bool} (hc : evA g c = .r (.bool t)) (ht : t = true) (h1 : AGo P f N m (.code x :: k) g h Post) : AGo P f N m (.code (.cond c x y) :: k) g h Post :=
 ag_cond hc (fun _ => h1) (fun e => by rw [ht] at e; simp at e)
theorem ag_false {c : Operand} {x y : Code} {t : Bool} (hc : evA g c = .r (.bool t)) (ht : t = false) (h1 : AGo P f N m (.code y :: k) g h Post) : AGo P f N m (.code (.cond c x y) :: k) g h Post :=
 ag_cond hc (fun e => by rw [ht] at e; simp at e) (fun _ => h1)
theorem ag_loop_of {α : Type} (S : α → Regs × Hp) (p : α → Prop) (meas : α → Nat) {c : Code}
  (round : ∀ x, p x → (∀ y, p y → meas y < meas x → AGo P f N m (.inLoop c :: k) (S y).1 (S y).2 Post) → AGo P f N m (.code c :: .inLoop c :: k) (S x).1 (S x).2 Post) :
  ∀ x, p x → AGo P f N m (.inLoop c :: k) (S x).1 (S x).2 Post := by
 intro x hp
 generalize hn : meas x = n
 induction n using Nat.strongRecOn generalizing x with
 | _ n ih => exact ag_again (round x hp fun y hy hlt => ih (meas y) (by omega) y hy rfl)
theorem ag_loop_enter {c : Code} (hk : AGo P f N m (.inLoop c :: k) g h Post) : AGo P f N m (.code (.loop c) :: k) g h Post := by
 intro X R μ a w b cs e1 e2 e3 e4 e5 e6 e7
 obtain ⟨v, w', fr, ⟨n, hn⟩, rest⟩ := hk X R μ a w b cs e1 e2 e3 e4 e5 e6 e7
 cases n with
 | zero =>
  simp [runN] at hn
  exfalso
  have h1 := congrArg Machine.gs hn
  simp [lone] at h1
  have hd := rest.2.1
  rw [← h1] at hd
  unfold Done at hd
  split at hd
  ·obtain ⟨hm, _⟩ := hd
   simp [Frame.atR] at hm
  ·obtain ⟨b', a', _, ⟨hm, _⟩ | ⟨_, hm, _⟩⟩ := hd <;> simp [Frame.atR] at hm
 | succ n =>
  simp only [runN, stepR_inLoop] at hn
  exact ⟨v, w', fr, Steps.head stepR_loop ⟨n, hn⟩, rest⟩
end
end Go.Proofs.YtccdhgmkjakjkaaGreat
namespace Go.Proofs.YtccdhgmkjakjkaaGreat
open Go
theorem BodyRel.mono {R R' : Nat → Prop} {μ μ' : Mu} {w w' : World} (hR : ∀ k, R k → R' k) (hw : Onward R w w') (hm : ∀ (β : Nat) p, μ[β]? = some p → μ'[β]? = some p) {bd : Body} {vs : List Value}
  (h : BodyRel R μ w bd vs) : BodyRel R' μ' w' bd vs := by
 cases bd with
 | bytes s => exact h
 | plain xs => exact RRels.mono hR hw xs vs h
 | mixed cs => exact ARels.mono hR hw hm cs vs h
theorem BlkRel.mono {R R' : Nat → Prop} {μ μ' : Mu} {w w' : World} (hR : ∀ k, R k → R' k) (hw : Onward R w w') (hm : ∀ (β : Nat) p, μ[β]? = some p → μ'[β]? = some p) {b o : Nat} {blk : ABlk}
  (hb : w'.heap[b]? = w.heap[b]?) (h : BlkRel R μ w b o blk) : BlkRel R' μ' w' b o blk := by
 obtain ⟨cells, el, fz, vs, h1, h2, h3, h4, h5⟩ := h.ex
 exact ⟨cells, el, fz, vs, hb.trans h1, h2, h3.mono hR hw hm, h4, h5⟩
theorem look_kill {tab : List (Nat × Option ABlk)} {β γ : Nat} {v : Option ABlk} : Hp.look ((β, v) :: tab) γ = if β = γ then v else Hp.look tab γ := by
 simp only [Hp.look]
 by_cases e : β = γ
 ·subst e; simp
 ·rw [beq_ne e]; simp [e]
theorem mu_app {μ : Mu} {p : Nat × Nat} : ∀ (β : Nat) q, μ[β]? = some q → (μ ++ [p])[β]? = some q := by
 intro β q h
 obtain ⟨hl, _⟩ := List.getElem?_eq_some_iff.1 h
 rw [List.getElem?_append_left hl]; exact h
section
variable {X : Ctx} {R : Nat → Prop} {μ : Mu} {h : Hp} {w w' : World}
theorem HRel.kill (H : HRel X R μ h w) (β : Nat) : HRel X R μ { h with tab := (β, none) :: h.tab } w where
 inv := H.inv
 os := H.os
 tape := H.tape
 output := H.output
 size := H.size
 keep := H.keep
 shape := H.shape
 r0 := H.r0
 rO := H.rO
 rlt := H.rlt
 rc := H.rc
 mu := H.mu
 len := H.len
 live := by
  intro γ blk hg
  simp only [Hp.get, look_kill] at hg
  split at hg
  ·simp at hg
  ·exact H.live γ blk hg
 inj := by
  intro γ γ' blk blk' b b' o o' h1 h2
  simp only [Hp.get, look_kill] at h1 h2
  split at h1
  ·simp at h1
  ·split at h2
   ·simp at h2
   ·exact H.inj γ γ' blk blk' b b' o o' h1 h2
def HRel.Free (h : Hp) (μ : Mu) (b : Nat) : Prop := ∀ β blk o, h.get β = some blk → μ[β]? ≠ some (b, o)
theorem HRel.free_kill (H : HRel X R μ h w) {β : Nat} {blk : ABlk} {b o : Nat} (hg : h.get β = some blk) (hm : μ[β]? = some (b, o)) : HRel.Free { h with tab := (β, none) :: h.tab } μ b := by
 intro γ blk' o' h1 h2
 simp only [Hp.get, look_kill] at h1
 split at h1
 ·simp at h1
 ·rename_i hne
  exact hne (H.inj β γ blk blk' b b o o' hg h1 hm h2 rfl)
theorem HRel.free_new (H : HRel X R μ h w) {b : Nat} (hb : w.heap.size ≤ b) : HRel.Free h μ b := by
 intro γ blk o h1 h2
 obtain ⟨b', o', h3, _, _, h4⟩ := H.live γ blk h1
 rw [h2] at h3
 cases h3
 obtain ⟨cells, el, fz, vs, h5, _⟩ := h4.ex
 obtain ⟨hl, _⟩ := Array.getElem?_eq_some_iff.1 h5
 omega
def Ctx.own (X : Ctx) (b : Nat) : Prop := X.O b ∨ X.w0.heap.size ≤ b
theorem HRel.onward (H : HRel X R μ h w) {row : Option Nat} (hg : w.grownBy w' row) (hs : ∀ b, row = some b → ¬ R b ∧ ∀ (c : Array Value) (e : TypeId) (f : Nat × Nat), w.heap[b]? = some (Obj.cells c e f) → ∃ (c' : Array Value) (f' : Nat × Nat), w'.heap[b]? = some (Obj.cells c' e f') ∧ c'.size = c.size) :
  Onward R w w' where
 same k hk := hg.block k (H.rlt k hk) (fun e => (hs k e.symm).1 hk)
 shape k c e f hk := by
  obtain ⟨hl, _⟩ := Array.getElem?_eq_some_iff.1 hk
  by_cases hr : row = some k
  ·exact (hs k hr).2 c e f hk
  ·exact ⟨c, f, (hg.block k hl (fun e => hr e.symm)).trans hk, rfl⟩
theorem HRel.grow (H : HRel X R μ h w) {row : Option Nat} (hg : w.grownBy w' row)
  (hs : ∀ b, row = some b → ¬ R b ∧ ∀ (c : Array Value) (e : TypeId) (f : Nat × Nat), w.heap[b]? = some (Obj.cells c e f) → ∃ (c' : Array Value) (f' : Nat × Nat), w'.heap[b]? = some (Obj.cells c' e f') ∧ c'.size = c.size)
  (hr : ∀ b, row = some b → X.own b ∧ HRel.Free h μ b) (hc : ∀ b, row = some b → ∃ (c : Array Value) (e : TypeId) (f : Nat × Nat), w.heap[b]? = some (Obj.cells c e f)) : HRel X R μ h w' where
 inv := X.mono _ _ _ _ _ H.inv (fun _ h => h) (H.onward hg hs) (fun k o hk hn => by
  obtain ⟨hl, _⟩ := Array.getElem?_eq_some_iff.1 hk
  by_cases hr : row = some k
  ·obtain ⟨c, e, f, h1⟩ := hc k hr
   rw [h1] at hk; cases hk; exact absurd rfl (hn c e f)
  ·exact (hg.block k hl (fun e => hr e.symm)).trans hk)
 os := hg.os.trans H.os
 tape := hg.tape.trans H.tape
 output := hg.output.trans H.output
 size := Nat.le_trans H.size hg.size
 keep k hk ho := by
  rw [hg.block k (Nat.lt_of_lt_of_le hk H.size) (fun e => by rcases (hr k e.symm).1 with h1 | h1; exact ho h1; omega)]
  exact H.keep k hk ho
 shape k c e f hk := by
  obtain ⟨c1, f1, h1, h2⟩ := H.shape k c e f hk
  obtain ⟨c2, f2, h3, h4⟩ := (H.onward hg hs).shape k c1 e f1 h1
  exact ⟨c2, f2, h3, h4.trans h2⟩
 r0 := H.r0
 rO := H.rO
 rlt k hk := Nat.lt_of_lt_of_le (H.rlt k hk) hg.size
 rc k hk := by
  obtain ⟨c, e, f, h1⟩ := H.rc k hk
  exact ⟨c, e, f, ((H.onward hg hs).same k hk).trans h1⟩
 mu := H.mu
 len := H.len
 live β blk hb := by
  obtain ⟨b, o, h1, h2, h3, h4⟩ := H.live β blk hb
  refine ⟨b, o, h1, h2, h3, h4.mono (fun _ h => h) (H.onward hg hs) (fun _ _ h => h) ?_⟩
  obtain ⟨cells, el, fz, vs, h5, _⟩ := h4.ex
  obtain ⟨hl, _⟩ := Array.getElem?_eq_some_iff.1 h5
  exact hg.block b hl (fun e => (hr b e.symm).2 β blk o hb h1)
 inj := H.inj
theorem HRel.add (H : HRel X R μ h w) {b o : Nat} {blk : ABlk} (h1 : ¬ R b) (h2 : X.own b) (h3 : BlkRel R (μ ++ [(b, o)]) w b o blk) (h4 : HRel.Free h μ b) :
  HRel X R (μ ++ [(b, o)]) { h with nxt := h.nxt + 1, tab := (h.nxt, some blk) :: h.tab } w where
 inv := H.inv
 os := H.os
 tape := H.tape
 output := H.output
 size := H.size
 keep := H.keep
 shape := H.shape
 r0 := H.r0
 rO := H.rO
 rlt := H.rlt
 rc := H.rc
 mu β p hp := mu_app _ _ (H.mu β p hp)
 len := by simp [H.len]
 live := by
  intro γ blk' hg
  simp only [Hp.get, look_kill] at hg
  split at hg
  ·rename_i e
   subst e
   cases hg
   exact ⟨b, o, by rw [← H.len]; simp, h1, h2, h3⟩
  ·obtain ⟨b', o', h5, h6, h7, h8⟩ := H.live γ blk' hg
   exact ⟨b', o', mu_app _ _ h5, h6, h7, h8.mono (fun _ h => h) (Onward.refl R w) mu_app rfl⟩
 inj := by
  have hold : ∀ γ blk', h.get γ = some blk' → ∃ p, μ[γ]? = some p := fun γ blk' hg => by
   obtain ⟨b', o', h5, _⟩ := H.live γ blk' hg; exact ⟨_, h5⟩
  intro γ γ' k k' c c' p p' g1 g2 m1 m2 e
  subst e
  have hn : ∀ q, (μ ++ [(b, o)])[h.nxt]? = some q → q = (b, o) := by intro q hq; rw [← H.len] at hq; simpa using hq.symm
  have ho : ∀ γ k q, h.get γ = some k → (μ ++ [(b, o)])[γ]? = some q → μ[γ]? = some q := by
   intro γ k q hg hq
   obtain ⟨p, hp⟩ := hold γ k hg
   rw [mu_app _ _ hp] at hq
   rw [hp]; exact hq
  simp only [Hp.get, look_kill] at g1 g2
  split at g1
  ·rename_i e1
   subst e1
   split at g2
   ·rename_i e2; exact e2
   ·have := hn _ m1
    cases this
    exact absurd (ho γ' k' _ g2 m2) (h4 γ' k' p' g2)
  ·split at g2
   ·rename_i e2
    subst e2
    have := hn _ m2
    cases this
    exact absurd (ho γ k _ g1 m1) (h4 γ k p g1)
   ·exact H.inj γ γ' k k' c c p p' g1 g2 (ho γ k _ g1 m1) (ho γ' k' _ g2 m2) rfl
theorem HRel.put (H : HRel X R μ h w) {β b o : Nat} {blk : ABlk} (hm : μ[β]? = some (b, o)) (h1 : ¬ R b) (h2 : X.own b) (h3 : BlkRel R μ w b o blk) (h4 : ∀ γ blk o, γ ≠ β → h.get γ = some blk → μ[γ]? ≠ some (b, o)) :
  HRel X R μ { h with tab := (β, some blk) :: h.tab } w where
 inv := H.inv
 os := H.os
 tape := H.tape
 output := H.output
 size := H.size
 keep := H.keep
 shape := H.shape
 r0 := H.r0
 rO := H.rO
 rlt := H.rlt
 rc := H.rc
 mu := H.mu
 len := H.len
 live := by
  intro γ blk' hg
  simp only [Hp.get, look_kill] at hg
  split at hg
  ·rename_i e
   subst e
   cases hg
   exact ⟨b, o, hm, h1, h2, h3⟩
  ·exact H.live γ blk' hg
 inj := by
  intro γ γ' k k' c c' p p' g1 g2 m1 m2 e
  subst e
  simp only [Hp.get, look_kill] at g1 g2
  split at g1
  ·rename_i e1
   subst e1
   split at g2
   ·rename_i e2; exact e2
   ·rename_i hne
    rw [hm] at m1
    cases m1
    exact absurd m2 (h4 γ' k' p' (fun e => hne e.symm) g2)
  ·split at g2
   ·rename_i hne e2
    subst e2
    rw [hm] at m2
    cases m2
    exact absurd m1 (h4 γ k p (fun e => hne e.symm) g1)
   ·exact H.inj γ γ' k k' c c p p' g1 g2 m1 m2 rfl
theorem HRel.freeze (H : HRel X R μ h w) {b : Nat} (h2 : X.own b) (h4 : HRel.Free h μ b) (hl : ∃ (c : Array Value) (e : TypeId) (f : Nat × Nat), w.heap[b]? = some (Obj.cells c e f)) : HRel X (fun k => R k ∨ k = b) μ h w where
 inv := X.mono _ _ _ _ _ H.inv (fun _ h => .inl h) (Onward.refl R w) (Others.refl w)
 os := H.os
 tape := H.tape
 output := H.output
 size := H.size
 keep := H.keep
 shape := H.shape
 r0 k hk := .inl (H.r0 k hk)
 rO k hk := by
  rcases hk with hk | hk
  ·exact H.rO k hk
  ·subst hk; exact .inr h2
 rlt k hk := by
  rcases hk with hk | hk
  ·exact H.rlt k hk
  ·subst hk; obtain ⟨c, e, f, h1⟩ := hl; exact (Array.getElem?_eq_some_iff.1 h1).1
 rc k hk := by
  rcases hk with hk | hk
  ·exact H.rc k hk
  ·subst hk; exact hl
 mu := H.mu
 len := H.len
 live := by
  intro γ blk' hg
  obtain ⟨b', o', h5, h6, h7, h8⟩ := H.live γ blk' hg
  refine ⟨b', o', h5, ?_, h7, h8.mono (fun _ h => .inl h) (Onward.refl R w) (fun _ _ h => h) rfl⟩
  rintro (h9 | h9)
  ·exact h6 h9
  ·subst h9; exact h4 γ blk' o' hg h5
 inj := H.inj
theorem HRel.drew (H : HRel X R μ h w) (n : Nat) : HRel X R μ h { w with drawn := n } where
 inv := X.mono _ _ _ _ _ H.inv (fun _ h => h) ⟨fun _ _ => rfl, fun _ c _ f h => ⟨c, f, h, rfl⟩⟩ (fun _ _ h _ => h)
 os := H.os
 tape := H.tape
 output := H.output
 size := H.size
 keep := H.keep
 shape := H.shape
 r0 := H.r0
 rO := H.rO
 rlt := H.rlt
 rc := H.rc
 mu := H.mu
 len := H.len
 live β blk hb := by
  obtain ⟨b, o, h1, h2, h3, h4⟩ := H.live β blk hb
  have hon : Onward R w { w with drawn := n } := ⟨fun _ _ => rfl, fun _ c _ f h => ⟨c, f, h, rfl⟩⟩
  exact ⟨b, o, h1, h2, h3, h4.mono (fun _ h => h) hon (fun _ _ h => h) rfl⟩
 inj := H.inj
end
end Go.Proofs.YtccdhgmkjakjkaaGreat
namespace Go.Proofs.YtccdhgmkjakjkaaGreat
open Go
def AReg (P : Program) (f N : Nat) (m : Md) (ops : Array Oper) (rest : List Oper) (k : List Item) (g : Regs) (h : Hp) (Post : AVal → Hp → Prop) : Prop :=
 ∀ idx : List Nat, idx.map (fun i => ops[i]?) = rest.map some → AGo P f N m (.inRegion ops idx :: k) g h Post
theorem arel_undef {R : Nat → Prop} {μ : Mu} {w : World} : ARel R μ w (.tuple []) undef := by
 simp only [ARel]; exact ⟨[], rfl, by simp [ARels]⟩
theorem arel_undefAt {R : Nat → Prop} {μ : Mu} {w : World} (tmps : Array Value) (d : Nat) : ARel R μ w (.tuple []) ((tmps.setIfInBounds d undef).getD d undef) := by
 have : (tmps.setIfInBounds d undef).getD d undef = undef := by
  simp only [Array.getD_eq_getD_getElem?, Array.getElem?_setIfInBounds, if_true]
  split <;> rfl
 rw [this]; exact arel_undef
def guardB (ops : Array Oper) (g : Regs) (o : Oper) : Option Bool :=
 match o.guard with
 | none => some true
 | some (j, want) =>
  match (ops[j]?).bind (·.dst) with
  | some t => match lookR g t with
   | .r (.bool x) => some (bif want then x else !x)
   | .tuple [] => some false
   | _ => none
  | none => none
theorem guardB_wanted {R : Nat → Prop} {μ : Mu} {w : World} {ops : Array Oper} {g : Regs} {o : Oper} {t : Bool} (h : guardB ops g o = some t) {tmps : Array Value} (hr : RegRel R μ w g tmps) :
  Region.wanted o (yielded ops tmps) = t := by
 unfold guardB at h
 unfold Region.wanted
 split at h
 ·rename_i e
  rw [e]
  simpa using h
 ·rename_i j want e
  rw [e]
  split at h
  ·rename_i d hd
   split at h
   ·rename_i x hx
    simp only [Option.some.injEq] at h
    have hv := hr d
    rw [hx] at hv
    simp only [ARel, RRel] at hv
    have hd2 : tmps[d]? = some (.bool x) := by
     simp only [Array.getD_eq_getD_getElem?] at hv
     cases hq : tmps[d]? with
     | none => rw [hq] at hv; simp [undef] at hv
     | some u => rw [hq] at hv; simp at hv; rw [hv]
    simp only [yielded, hd, Option.bind_some, hd2]
    rw [← h]
    cases want <;> cases x <;> rfl
   ·rename_i hx
    simp only [Option.some.injEq] at h
    subst h
    have hv := hr d
    rw [hx] at hv
    simp only [ARel] at hv
    obtain ⟨cs, hv, hcs⟩ := hv
    have hd2 : tmps[d]? = none ∨ tmps[d]? = some (.tuple ⟨cs⟩) := by
     simp only [Array.getD_eq_getD_getElem?] at hv
     cases hq : tmps[d]? with
     | none => exact .inl rfl
     | some u => rw [hq] at hv; simp at hv; rw [hv]; exact .inr rfl
    rcases hd2 with hd2 | hd2 <;> simp only [yielded, hd, Option.bind_some, hd2] <;> cases want <;> rfl
   ·simp at h
  ·simp at h
section
variable {P : Program} {T : TTab} {f N : Nat} {m : Md} {ops : Array Oper} {o : Oper} {rest : List Oper} {k : List Item} {g g' : Regs} {h h' : Hp} {Post : AVal → Hp → Prop}
theorem ag_reg {id : Nat} (hk : AReg P f N m ops ops.toList k g h Post) : AGo P f N m (.code (.region id ops false) :: k) g h Post := by
 refine ag_region (hk _ ?_)
 apply List.ext_getElem?
 intro i
 simp only [List.getElem?_map]
 by_cases hi : i < ops.size
 ·simp [hi]
 ·simp [hi]
theorem ar_nil (hk : AGo P f N m k g h Post) : AReg P f N m ops [] k g h Post := by
 intro idx hi
 simp only [List.map_nil, List.map_eq_nil_iff] at hi
 subst hi
 exact ag_regionEnd hk
theorem semAt_of_value {ro : Option Nat} {ρ : Operand → Value} {w w' : World} (h : (∃ v, (execOp ρ o).run P w = .ok (.value v) w') ∨ (execOp ρ o).run P w = .ok .skip w') : o.semAt ro ρ = execOp ρ o := by
 refine Oper.semAt_eq ro ρ o fun c hc => ?_
 simp only [execOp, hc, Sem.run_bind, Sem.run_pure] at h
 cases hr : (resolve ρ c o.type).run P w with
 | ok d w2 => rw [hr] at h; simp at h
 | halt x w2 => rw [hr] at h; simp at h
def OpStep (P : Program) (N : Nat) (o : Oper) (g : Regs) (h : Hp) (g' : Regs) (h' : Hp) : Prop :=
 ∀ (X : Ctx) (R : Nat → Prop) (μ : Mu) (a : Act) (w : World), a.tmps.size = N → RegRel R μ w g a.tmps → HRel X R μ h w →
  ∃ v w' R' μ', ((execOp a.eval o).run P w = .ok (.value v) w' ∨ ((execOp a.eval o).run P w = .ok .skip w' ∧ v = undef)) ∧ RegRel R' μ' w' g' (a.put o.dst v).tmps ∧ HRel X R' μ' h' w'
def OpStep2 (P : Program) (N : Nat) (o : Oper) (g : Regs) (h : Hp) (av : AVal) (h' : Hp) : Prop :=
 ∀ (X : Ctx) (R : Nat → Prop) (μ : Mu) (a : Act) (w : World), a.tmps.size = N → RegRel R μ w g a.tmps → HRel X R μ h w →
  ∃ v w' R' μ', ((execOp a.eval o).run P w = .ok (.value v) w' ∨ ((execOp a.eval o).run P w = .ok .skip w' ∧ v = undef)) ∧ ARel R' μ' w' av v ∧ RegRel R' μ' w' g a.tmps ∧ HRel X R' μ' h' w'
theorem opStep_of2 {av : AVal} {d : Nat} (hs : OpStep2 P N o g h av h') (hd : o.dst = some d) (hN : Nat.blt d N = true) : OpStep P N o g h ((d, av) :: g) h' := by
 intro X R μ a w e5 e6 e7
 obtain ⟨v, w', R', μ', h1, h2, h3, h4⟩ := hs X R μ a w e5 e6 e7
 refine ⟨v, w', R', μ', h1, ?_, h4⟩
 rw [hd]
 exact h3.put (by rw [e5]; exact Nat.le_of_ble_eq_true hN) h2
theorem opStep_of2n {av : AVal} (hs : OpStep2 P N o g h av h') (hd : o.dst = none) : OpStep P N o g h g h' := by
 intro X R μ a w e5 e6 e7
 obtain ⟨v, w', R', μ', h1, h2, h3, h4⟩ := hs X R μ a w e5 e6 e7
 refine ⟨v, w', R', μ', h1, ?_, h4⟩
 rw [hd]
 exact h3
theorem put_size (a : Act) (d : Option Tmp) (v : Value) : (a.put d v).tmps.size = a.tmps.size := by
 cases d <;> simp [Act.put]
theorem put_defers (a : Act) (d : Option Tmp) (v : Value) : (a.put d v).defers = a.defers := by
 cases d <;> simp [Act.put]
theorem ar_op {t : Bool} (hg : guardB ops g o = some t) (ht : t = true) (hs : OpStep P N o g h g' h') (hk : AReg P f N m ops rest k g' h' Post) : AReg P f N m ops (o :: rest) k g h Post := by
 subst ht
 intro idx hi X R μ a w b cs e1 e2 e3 e4 e5 e6 e7
 cases idx with
 | nil => simp at hi
 | cons i idx =>
  simp only [List.map_cons, List.cons.injEq] at hi
  obtain ⟨ho, hi⟩ := hi
  have hw := guardB_wanted hg e6
  obtain ⟨v, w', R', μ', h1, h2, h3⟩ := hs X R μ a w e5 e6 e7
  obtain ⟨u, w2, fr, h4, rest'⟩ := hk idx hi X R' μ' (a.put o.dst v) w' b cs e1 e2 e3 (by rw [put_defers]; exact e4) (by rw [put_size]; exact e5) h2 h3
  have hst := stepGR_op (P := P) (b := b) (k := k) (cs := cs) (w := w) (rest := idx) ho hw
  have hfin : ∀ v, (b.atR a (.inRegion ops (i :: idx) :: k)).finish v = b.atR (a.put o.dst v) (.inRegion ops idx :: k) := by
   intro v; rw [Frame.finish_atR, ho]; rfl
  refine ⟨u, w2, fr, Steps.head (step_lone_go ?_) h4, rest'⟩
  rw [hst, ← hfin]
  rcases h1 with h1 | ⟨h1, rfl⟩
  ·rw [semAt_of_value (.inl ⟨_, h1⟩)]; simp [stepG.apply, h1]
  ·rw [semAt_of_value (.inr h1)]; simp [stepG.apply, h1]
theorem ar_skip {d : Nat} {t : Bool} (hg : guardB ops g o = some t) (ht : t = false) (hd : o.dst = some d) (hk : AReg P f N m ops rest k ((d, .tuple []) :: g) h Post) : AReg P f N m ops (o :: rest) k g h Post := by
 subst ht
 intro idx hi X R μ a w b cs e1 e2 e3 e4 e5 e6 e7
 cases idx with
 | nil => simp at hi
 | cons i idx =>
  simp only [List.map_cons, List.cons.injEq] at hi
  obtain ⟨ho, hi⟩ := hi
  have hw := guardB_wanted hg e6
  have h2 : RegRel R μ w ((d, .tuple []) :: g) (a.put o.dst undef).tmps := by
   intro t
   simp only [lookR]
   by_cases e : d = t
   ·subst e; rw [hd]; simp only [Nat.beq_refl, cond_true, Act.put]; exact arel_undefAt _ _
   ·rw [beq_ne e, hd]
    simp only [Act.put, cond_false]
    have := e6 t
    simpa only [Array.getD_eq_getD_getElem?, Array.getElem?_setIfInBounds, e, if_false] using this
  obtain ⟨u, w2, fr, h4, rest'⟩ := hk idx hi X R μ (a.put o.dst undef) w b cs e1 e2 e3 (by rw [put_defers]; exact e4) (by rw [put_size]; exact e5) h2 e7
  have hs := stepR_op_skip (P := P) (b := b) (a := a) (k := k) (cs := cs) (w := w) (ops := ops) (i := i) (rest := idx) (by simp [ho, hw])
  simp only [ho, Option.bind_some] at hs
  exact ⟨u, w2, fr, Steps.head hs h4, rest'⟩
theorem ar_guard {t : Bool} (h1 : t = true → AReg P f N m ops rest k g h Post) (h2 : t = false → AReg P f N m ops rest k g h Post) : AReg P f N m ops rest k g h Post := by
 cases t
 ·exact h2 rfl
 ·exact h1 rfl
def stepPure (T : TTab) (N : Nat) (g : Regs) (o : Oper) : Option (Nat × AVal × Prop) :=
 match o.dst with
 | some d => bif Nat.blt d N then (match pureOp T (evA g) o.op with | some (v, c) => forceV v fun v => some (d, v, c) | none => none) else none
 | none => none
theorem stepPure_eq : stepPure T N g o = (match o.dst with
 | some d => bif Nat.blt d N then (match pureOp T (evA g) o.op with | some (v, c) => some (d, v, c) | none => none) else none
 | none => none) := by simp only [stepPure, forceV_eq]
theorem opStep_pure (hTO : TOk P T) {d : Nat} {v : AVal} {c : Prop} (hp : stepPure T N g o = some (d, v, c)) (hc : c) : OpStep P N o g h ((d, v) :: g) h := by
 intro X R μ a w e5 e6 e7
 rw [stepPure_eq] at hp
 split at hp
 case h_2 => simp at hp
 rename_i d' hd
 cases hb : Nat.blt d' N <;> rw [hb] at hp <;> simp only [cond_true, cond_false, reduceCtorEq] at hp
 split at hp
 case h_2 => simp at hp
 rename_i v' c' hv
 simp only [Option.some.injEq, Prod.mk.injEq] at hp
 obtain ⟨rfl, rfl, rfl⟩ := hp
 obtain ⟨u, h1, h2⟩ := pureOp_sound (P := P) (w := w) hTO (evA_rel (a := a) e6) o hv hc
 refine ⟨u, w, R, μ, .inl h1, ?_, e7⟩
 rw [hd]
 exact e6.put (by rw [e5]; exact Nat.le_of_ble_eq_true hb) h2
theorem ar_pure (hTO : TOk P T) {t : Bool} {d : Nat} {v : AVal} {c : Prop} (hp : stepPure T N g o = some (d, v, c)) (hg : guardB ops g o = some t) (ht : t = true) (hc : c)
  (hk : AReg P f N m ops rest k ((d, v) :: g) h Post) : AReg P f N m ops (o :: rest) k g h Post :=
 ar_op hg ht (opStep_pure hTO hp hc) hk
end
end Go.Proofs.YtccdhgmkjakjkaaGreat
namespace Go.Proofs.YtccdhgmkjakjkaaGreat
open Go
def Hp.push (h : Hp) (blk : ABlk) : Hp := ⟨h.nxt + 1, (h.nxt, some blk) :: h.tab, h.gh⟩
def Hp.set (h : Hp) (β : Nat) (v : Option ABlk) : Hp := ⟨h.nxt, (β, v) :: h.tab, h.gh⟩
section
variable {P : Program} {T : TTab} {X : Ctx} {R : Nat → Prop} {μ : Mu} {h : Hp} {w w' : World} {g : Regs} {tmps : Array Value}
theorem grown_alloc (w : World) (o : Obj) : w.grownBy (w.alloc o) none := ⟨rfl, rfl, rfl, by show w.heap.size ≤ (w.heap.push o).size; simp, fun k hk _ => RowKit.Below.heap_alloc w o k hk⟩
theorem heap_new (w : World) (o : Obj) : (w.alloc o).heap[w.heap.size]? = some o := by
 show (w.heap.push o)[w.heap.size]? = _
 simp
theorem le_of_get {vs : List Value} {cells : Array Value} (hv : ∀ (j : Nat) v, vs[j]? = some v → cells[j]? = some v) : vs.length ≤ cells.size := by
 rcases Nat.eq_zero_or_pos vs.length with h0 | h0
 ·omega
 ·obtain ⟨hl, _⟩ := Array.getElem?_eq_some_iff.1 (hv (vs.length - 1) _ (List.getElem?_eq_getElem (by omega)))
  omega
theorem new_block (H : HRel X R μ h w) (hr : RegRel R μ w g tmps) (cells : Array Value) (e : TypeId) (fz : Nat × Nat) (hf : fz.1 ≤ fz.2 ∧ ∀ i, fz.1 ≤ i → i < fz.2 → cells.size ≤ i) {bd : Body} {vs : List Value}
  (hb : BodyRel R μ w bd vs) (hv : ∀ (j : Nat) v, vs[j]? = some v → cells[j]? = some v) :
  HRel X R (μ ++ [(w.heap.size, 0)]) (h.push bd) (w.alloc (.cells cells e fz)) ∧ RegRel R (μ ++ [(w.heap.size, 0)]) (w.alloc (.cells cells e fz)) g tmps ∧ Onward R w (w.alloc (.cells cells e fz)) := by
 have hg := grown_alloc w (.cells cells e fz)
 have hon : Onward R w (w.alloc (.cells cells e fz)) := H.onward hg (fun b hb => by simp at hb)
 have H1 : HRel X R μ h (w.alloc (.cells cells e fz)) := H.grow hg (fun b hb => by simp at hb) (fun b hb => by simp at hb) (fun b hb => by simp at hb)
 refine ⟨H1.add (fun hR => by have := H.rlt _ hR; omega) (.inr H.size) ⟨cells, e, fz, vs, heap_new w _, hf, hb.mono (fun _ h => h) hon mu_app, fun j v hj => by simpa using hv j v hj, by rw [Nat.zero_add]; exact le_of_get hv⟩ ?_, hr.mono (fun _ h => h) hon mu_app, hon⟩
 intro β blk o hg1 hm
 exact H.free_new (Nat.le_refl _) β blk o hg1 hm
theorem new_name (H : HRel X R μ h w) : (μ ++ [(w.heap.size, 0)])[h.nxt]? = some (w.heap.size, 0) := by
 rw [← H.len]; simp
end
theorem range_mod (z : Array Value) (len : Nat) : ((Array.range (len * z.size)).map fun x => z[x % z.size]!).toList = (List.replicate len z.toList).flatten := by
 induction len with
 | zero => simp
 | succ n ih =>
  rw [Array.toList_map, Array.toList_range] at ih ⊢
  rw [List.replicate_succ', List.flatten_append, ← ih, Nat.succ_mul, List.range_add, List.map_append]
  congr 1
  simp only [List.map_map, List.flatten_cons, List.flatten_nil, List.append_nil]
  apply List.ext_getElem
  ·simp
  ·intro i h1 h2
   have hi : i < z.size := by simpa using h2
   simp [Nat.mod_eq_of_lt hi, hi]
def oneA : AVal → Bool
 | .agg _ | .tuple _ | .any => false
 | _ => true
theorem oneA_cell {R : Nat → Prop} {μ : Mu} {w : World} {v : AVal} (h : oneA v = true) {c : Value} (hv : ARel R μ w v c) : c.oneCell' = true := by
 cases v with
 | r v =>
  cases v <;> simp only [ARel, RRel] at hv
  all_goals first
   | (subst hv; rfl)
   | (obtain ⟨_, _, rfl, _⟩ := hv; rfl)
   | (obtain ⟨_, _, _, rfl, _⟩ := hv; rfl)
 | agg _ => simp [oneA] at h
 | tuple _ => simp [oneA] at h
 | any => simp [oneA] at h
 | _ =>
  simp only [ARel] at hv
  first
  | (obtain ⟨_, _, _, _, _, _, _, rfl, _⟩ := hv; rfl)
  | (obtain ⟨_, _, _, rfl⟩ := hv; rfl)
  | (obtain ⟨_, rfl, _⟩ := hv; rfl)
  | (obtain ⟨_, _, _, rfl, _⟩ := hv; rfl)
  | (obtain ⟨_, _, rfl, _⟩ := hv; rfl)
theorem setsL_length : ∀ (vs xs : List AVal) (off : Nat), (setsL xs off vs).length = xs.length
 | [], _, _ => rfl
 | v :: vs, xs, off => by simp only [setsL]; rw [setsL_length vs]; simp
theorem fillA_length {place : Nat → Option (Nat × Nat)} : ∀ (parts : List (Nat × AVal)) (xs out : List AVal), fillA place xs parts = some out → out.length = xs.length
 | [], xs, out, h => by simp only [fillA, Option.some.injEq] at h; rw [h]
 | (i, v) :: parts, xs, out, h => by
  simp only [fillA] at h
  split at h
  ·rename_i off size vs _ _
   cases hb : (Nat.beq vs.length size && Nat.ble (off + size) xs.length) <;> rw [hb] at h <;> simp only [cond_true, cond_false, reduceCtorEq] at h
   rw [fillA_length parts _ _ h, setsL_length]
  ·simp at h
def stepNew (T : TTab) (N : Nat) (g : Regs) (n : Nat) (o : Oper) : Option (Nat × AVal × ABlk × Prop) :=
 match o.dst with
 | none => none
 | some d => bif Nat.blt d N then
   match o.op with
   | .alloc t => match T.look t with
    | some ty => match ty.k with
     | .arr _ _ => some (d, .ptr n 0, .plain ty.zero, ty.zero ≠ [])
     | _ => forceL (ty.zero.map .r) fun cs => some (d, .ptr n 0, .mixed cs, ty.zero ≠ [])
    | none => none
   | .box _ x => match cellsF (evA g x) with
    | some cs => some (d, .ptr n 0, .mixed cs, True)
    | none => none
   | .buildSlice t len parts => match T.look t with
    | some { k := .slice e, .. } => match T.look e with
     | some te =>
      match fillA (fun i => some (i * te.size, te.size)) ((List.replicate len (te.zero.map AVal.r)).flatten) (parts.toList.map fun p => (p.1, evA g p.2)) with
      | some cells => forceL cells fun cs => some (d, .sl n 0 len te.size, .mixed cs, (len * te.size ≤ 16777216 ∧ te.zero.length = te.size) ∧ te.zero ≠ [])
      | none => none
     | none => none
    | _ => none
   | _ => none
  else none
section
variable {P : Program} {T : TTab} {f N : Nat} {m : Md} {ops : Array Oper} {o : Oper} {rest : List Oper} {k : List Item} {g g' : Regs} {h h' : Hp} {Post : AVal → Hp → Prop}
theorem opStep2_new (hTO : TOk P T) {d : Nat} {v : AVal} {blk : ABlk} {c : Prop} (hp : stepNew T N g h.nxt o = some (d, v, blk, c)) (hc : c) : OpStep2 P N o g h v (h.push blk) := by
 intro X R μ a w e5 e6 e7
 unfold stepNew at hp
 simp only [cellsF_eq] at hp
 split at hp
 case h_1 => simp at hp
 rename_i d' hd
 cases hb : Nat.blt d' N <;> rw [hb] at hp <;> simp only [cond_true, cond_false, reduceCtorEq] at hp
 have hlt : d' < a.tmps.size := by rw [e5]; exact Nat.le_of_ble_eq_true hb
 split at hp
 case h_4 => simp at hp
 ·rename_i t hop
  split at hp
  case h_2 => simp at hp
  rename_i ty hT
  have key : ∀ bd, BodyRel R μ w bd ((ty.zero.map RVal.conc)) → ty.zero ≠ [] → d' = d → v = .ptr h.nxt 0 → blk = bd → ∃ v' w' R' μ', ((execOp a.eval o).run P w = .ok (.value v') w' ∨ ((execOp a.eval o).run P w = .ok .skip w' ∧ v' = undef)) ∧ ARel R' μ' w' v v' ∧ RegRel R' μ' w' g a.tmps ∧ HRel X R' μ' (h.push blk) w' := by
   rintro bd hbd hz rfl rfl rfl
   obtain ⟨_, i, hu, hi, _, _, _, _, h0⟩ := (hTO t ty hT).ex
   obtain ⟨z, hz1, hz2, hz3⟩ := h0.resolve_left hz
   obtain ⟨H1, H2, _⟩ := new_block e7 e6 z.cells t (0, 0) (by simp) hbd (fun j v hj => by rw [← hz2] at hj; simpa using hj)
   refine ⟨.pointer (some ⟨w.heap.size, 0, none⟩), _, R, _, .inl ?_, ?_, H2, H1⟩
   ·have hz4 : (zeroValue t).run P w = .ok z w := by simp [zeroValue, run_typeInfo w hi, hz1]
    simp only [execOp, hop, Instr.alloc, Sem.run_bind, hz4, Result.andThen_ok, newVar, newRow, newObj, Sem.run_pure]
    rfl
   ·simp only [ARel]; exact ⟨w.heap.size, 0, new_name e7, rfl⟩
  have hbase : ty.zero ≠ [] → RRels R w ty.zero (ty.zero.map RVal.conc) := by
   intro hz
   obtain ⟨_, i, _, hi, _, _, _, _, h0⟩ := (hTO t ty hT).ex
   obtain ⟨z, hz1, hz2, hz3⟩ := h0.resolve_left hz
   obtain ⟨z', h1, h2, _⟩ := zero_ok (P := P) (w := w) (R := R) (μ := μ) hTO hT hz
   rw [ARels.of_r] at h2
   have : z' = z := by
    have hz4 : (zeroValue t).run P w = .ok z w := by simp [zeroValue, run_typeInfo w hi, hz1]
    rw [hz4] at h1; simp at h1; exact h1.symm
   rw [this, hz2] at h2
   exact h2
  split at hp
  ·simp only [Option.some.injEq, Prod.mk.injEq] at hp
   obtain ⟨rfl, rfl, rfl, rfl⟩ := hp
   exact key (.plain ty.zero) (hbase hc) hc rfl rfl rfl
  ·rw [forceL_eq] at hp
   simp only [Option.some.injEq, Prod.mk.injEq] at hp
   obtain ⟨rfl, rfl, rfl, rfl⟩ := hp
   exact key (.mixed (ty.zero.map .r)) (ARels.of_r.2 (hbase hc)) hc rfl rfl rfl
 ·rename_i t x hop
  split at hp
  case h_2 => simp at hp
  rename_i cs hcs
  simp only [Option.some.injEq, Prod.mk.injEq] at hp
  obtain ⟨rfl, rfl, rfl, rfl⟩ := hp
  have hx := evA_rel (a := a) e6 x
  have hcl := cellsA_rel hcs hx
  obtain ⟨H1, H2, _⟩ := new_block e7 e6 (a.eval x).cells t (0, 0) (by simp) (bd := .mixed cs) hcl (fun j v hj => by simpa using hj)
  refine ⟨.pointer (some ⟨w.heap.size, 0, none⟩), _, R, _, .inl ?_, ?_, H2, H1⟩
  ·simp only [execOp, hop, Instr.box, Sem.run_bind, newVar, newRow, newObj]
   rfl
  ·simp only [ARel]; exact ⟨w.heap.size, 0, new_name e7, rfl⟩
 ·rename_i t len parts hop
  split at hp
  case h_2 => simp at hp
  rename_i e _ _ _ hT
  split at hp
  case h_2 => simp at hp
  rename_i te hTe
  split at hp
  case h_2 => simp at hp
  rename_i cells hf
  rw [forceL_eq] at hp
  simp only [Option.some.injEq, Prod.mk.injEq] at hp
  obtain ⟨rfl, rfl, rfl, rfl⟩ := hp
  obtain ⟨⟨hc1, hc2⟩, hc3⟩ := hc
  obtain ⟨D, hD, hk⟩ := tyk_ok hTO hT
  simp only [TyK.ok] at hk
  subst hk
  obtain ⟨zv, hz1, hz2, hz3⟩ := zero_ok (P := P) (w := w) (R := R) (μ := μ) hTO hTe hc3
  have hzs : zv.cells.size = te.size := by rw [← Array.length_toList, hz3]; exact hc2
  have hrep : ARels R μ w ((List.replicate len (te.zero.map AVal.r)).flatten) ((List.replicate len zv.cells.toList).flatten) := by
   clear hc1 hf hop
   induction len with
   | zero => simp [ARels]
   | succ n ih => simpa [List.replicate_succ] using hz2.append ih
  obtain ⟨cs, h1, h2⟩ := fillA_rel (pl := fun i => some (i * te.size, te.size)) (fun _ _ h => h) (parts.toList.map fun p => (p.1, evA g p.2)) (parts.map fun (i, x) => (i, a.eval x)).toList _ _ cells
   (by simp [List.map_map, Function.comp_def]) (fun i u c ha hb => by
    simp only [List.getElem?_map, Option.map_eq_some_iff, Array.toList_map] at ha hb
    obtain ⟨p, hp, rfl⟩ := ha
    obtain ⟨q, hq, rfl⟩ := hb
    rw [hp] at hq
    cases hq
    exact evA_rel (a := a) e6 _) hrep hf
  obtain ⟨H1, H2, _⟩ := new_block e7 e6 ⟨cs⟩ e (0, 0) (by simp) (bd := .mixed cells) h2 (fun j v hj => by simpa using hj)
  refine ⟨.slice (some ⟨w.heap.size, 0, none⟩) len len, _, R, _, .inl ?_, ?_, H2, H1⟩
  ·have h3 : (if len * te.size = 0 then pure #[] else do pure (← zeroValue e).cells : Sem (Array Value)).run P w = .ok (if len * te.size = 0 then #[] else zv.cells) w := by
    split <;> simp [hz1]
   simp only [execOp, hop, Instr.buildSlice, Sem.run_bind, run_underlying hD, Result.andThen_ok, size_ok hTO hTe, Sem.run_ite]
   rw [if_neg (by omega)]
   simp only [Sem.run_pure, Result.andThen_ok, hz1]
   have h4 : ((Array.range (len * te.size)).map fun x => (if len * te.size = 0 then #[] else zv.cells)[x % (if len * te.size = 0 then #[] else zv.cells).size]!) = ⟨(List.replicate len zv.cells.toList).flatten⟩ := by
    apply Array.ext'
    by_cases h0 : len * te.size = 0
    ·rw [if_pos h0, h0]
     have : (List.replicate len zv.cells.toList).flatten = [] := by
      rcases Nat.mul_eq_zero.1 h0 with h5 | h5
      ·subst h5; rfl
      ·have : zv.cells.toList = [] := by rw [← List.length_eq_zero_iff, Array.length_toList, hzs, h5]
       rw [this]; simp
     simp [this]
    ·rw [if_neg h0, ← hzs]
     exact range_mod zv.cells len
   have h5 : ∀ zr, (if len * te.size = 0 then (pure #[] : Sem (Array Value)) else do pure (← zeroValue e).cells).run P w = .ok zr w → zr = (if len * te.size = 0 then #[] else zv.cells) := by
    intro zr hzr; rw [h3] at hzr; simp only [Result.ok.injEq, and_true] at hzr; exact hzr.symm
   by_cases h0 : len * te.size = 0
   ·rw [if_pos h0]
    rw [if_pos h0] at h4
    rw [h4]
    rw [show Instr.fill _ _ _ = some ⟨cs⟩ from h1]
    rfl
   ·rw [if_neg h0]
    rw [if_neg h0] at h4
    rw [h4]
    rw [show Instr.fill _ _ _ = some ⟨cs⟩ from h1]
    rfl
  ·simp only [ARel]
   have hl : cs.length = len * te.size := by
    rw [h2.length, fillA_length _ _ _ hf]
    simp [hc2]
   have hpos : 0 < te.size := by rw [← hc2]; exact List.length_pos_iff.2 hc3
   have hlen : len ≤ len * te.size := Nat.le_mul_of_pos_right _ hpos
   exact ⟨w.heap.size, 0, len, ⟨cs⟩, e, (0, 0), new_name e7, rfl, Nat.le_refl _, by unfold maxLen; omega, heap_new w _, by simp [hl]⟩
theorem stepNew_dst {d : Nat} {v : AVal} {blk : ABlk} {c : Prop} {n : Nat} (hp : stepNew T N g n o = some (d, v, blk, c)) : o.dst = some d ∧ Nat.blt d N = true := by
 unfold stepNew at hp
 simp only [cellsF_eq] at hp
 split at hp
 case h_1 => simp at hp
 rename_i d' hd
 cases hb : Nat.blt d' N <;> rw [hb] at hp <;> simp only [cond_true, cond_false, reduceCtorEq] at hp
 simp only [forceL_eq] at hp
 have : d' = d := by
  repeat' split at hp
  all_goals first
   | (simp at hp; done)
   | (simp only [Option.some.injEq, Prod.mk.injEq] at hp; exact hp.1)
 subst this
 exact ⟨hd, hb⟩
theorem opStep_new (hTO : TOk P T) {d : Nat} {v : AVal} {blk : ABlk} {c : Prop} (hp : stepNew T N g h.nxt o = some (d, v, blk, c)) (hc : c) : OpStep P N o g h ((d, v) :: g) (h.push blk) :=
 opStep_of2 (opStep2_new hTO hp hc) (stepNew_dst hp).1 (stepNew_dst hp).2
theorem ar_new (hTO : TOk P T) {t : Bool} {d : Nat} {v : AVal} {blk : ABlk} {c : Prop} (hp : stepNew T N g h.nxt o = some (d, v, blk, c)) (hg : guardB ops g o = some t) (ht : t = true) (hc : c)
  (hk : AReg P f N m ops rest k ((d, v) :: g) (h.push blk) Post) : AReg P f N m ops (o :: rest) k g h Post :=
 ar_op hg ht (opStep_new hTO hp hc) hk
end
end Go.Proofs.YtccdhgmkjakjkaaGreat
namespace Go.Proofs.YtccdhgmkjakjkaaGreat
open Go
section
variable {P : Program} {T : TTab} {R : Nat → Prop} {μ : Mu} {w : World}
def LoadsTo (ty : Ty) (cells : List AVal) (off : Nat) (v : AVal) : Prop :=
 (ty.k.agg = false ∧ cells[off]? = some v) ∨ (ty.k.agg = true ∧ ∃ cs, v = .agg cs ∧ (cells.drop off).take ty.size = cs ∧ cs.length = ty.size)
theorem loadVar_sound (hTO : TOk P T) {t : TypeId} {ty : Ty} (hT : T.look t = some ty) {cells : List AVal} {vs : List Value} (hb : ARels R μ w cells vs) {b o off : Nat} (hc : ∀ (j : Nat) v, vs[j]? = some v → w.cell? ⟨b, o + j, none⟩ = some v) {v : AVal} (h : LoadsTo ty cells off v) :
  ∃ c, (loadVar t ⟨b, o + off, none⟩).run P w = .ok c w ∧ ARel R μ w v c := by
 obtain ⟨D, i, hD, hi, hs, _, hok, _, _⟩ := (hTO t ty hT).ex
 have hagg : (isAgg t).run P w = .ok ty.k.agg w := by
  simp only [isAgg, Sem.run_bind, run_underlying hD, Result.andThen_ok]
  cases hk : ty.k <;> rw [hk] at hok <;> simp only [TyK.ok] at hok
  case struct => obtain ⟨a, rfl, _⟩ := hok; rfl
  case other => cases D <;> simp at hok <;> rfl
  all_goals subst hok; rfl
 rcases h with ⟨ha, h⟩ | ⟨ha, cs, rfl, h1, h2⟩
 ·obtain ⟨c, h3, h4⟩ := hb.get h
  refine ⟨c, ?_, h4⟩
  simp only [loadVar, Sem.run_bind, hagg, ha, Result.andThen_ok, Bool.false_eq_true, if_false, run_load]
  rw [hc _ _ h3]
 ·have h3 := (hb.drop off).take ty.size
  rw [h1] at h3
  have hl : ((vs.drop off).take ty.size).length = ty.size := by rw [h3.length]; exact h2
  refine ⟨.agg ⟨(vs.drop off).take ty.size⟩, ?_, by simp only [ARel]; exact ⟨_, rfl, h3⟩⟩
  have h4 := run_loadCells_list (P := P) w ⟨b, o + off, none⟩ ((vs.drop off).take ty.size) (fun j v hj => by
   rw [List.getElem?_take] at hj
   split at hj
   ·rw [List.getElem?_drop] at hj
    rw [add_off, Nat.add_assoc]
    exact hc _ _ hj
   ·simp at hj)
  rw [hl] at h4
  simp only [loadVar, Sem.run_bind, hagg, ha, Result.andThen_ok, if_true, size_ok hTO hT, h4, Sem.run_pure]
theorem bodyRel_cells {bd : Body} {vs : List Value} (h : BodyRel R μ w bd vs) : ARels R μ w bd.cells vs := by
 cases bd with
 | bytes s =>
  simp only [BodyRel] at h
  subst h
  simp only [Body.cells]
  induction s with
  | nil => simp [bytesV, ARels]
  | cons b s ih => simp only [List.map_cons, bytesV, ARels]; exact ⟨_, _, rfl, by simp [ARel, RRel, byteV], ih⟩
 | plain xs => exact ARels.of_r.2 h
 | mixed cs => exact h
def loadF (ty : Ty) (bd : Body) (off : Nat) : Option (AVal × Prop) :=
 match ty.k.agg, bd with
 | false, .bytes s => some (.r (.int .u8 (s.getD off 0).toNat), off < s.length)
 | false, .plain xs => (xs[off]?).map fun v => (.r v, True)
 | false, .mixed cs => (cs[off]?).map fun v => (v, True)
 | true, .bytes _ => none
 | true, .plain xs => forceL (((xs.drop off).take ty.size).map .r) fun cs => bif Nat.beq cs.length ty.size then some (.agg cs, True) else none
 | true, .mixed cs => forceL ((cs.drop off).take ty.size) fun cs => bif Nat.beq cs.length ty.size then some (.agg cs, True) else none
theorem loadF_sound {ty : Ty} {bd : Body} {off : Nat} {v : AVal} {c : Prop} (h : loadF ty bd off = some (v, c)) (hc : c) : LoadsTo ty bd.cells off v := by
 unfold loadF at h
 split at h
 ·rename_i s ha
  simp only [Option.some.injEq] at h
  obtain ⟨rfl, rfl⟩ := Prod.mk.inj h
  exact .inl ⟨ha, by simp [Body.cells, List.getD, hc]⟩
 ·rename_i xs ha
  simp only [Option.map_eq_some_iff, Prod.mk.injEq] at h
  obtain ⟨u, h1, rfl, _⟩ := h
  exact .inl ⟨ha, by simp [Body.cells, h1]⟩
 ·rename_i cs ha
  simp only [Option.map_eq_some_iff, Prod.mk.injEq] at h
  obtain ⟨u, h1, rfl, _⟩ := h
  exact .inl ⟨ha, by simpa [Body.cells] using h1⟩
 ·simp at h
 ·rename_i xs ha
  rw [forceL_eq] at h
  cases hb : Nat.beq (((xs.drop off).take ty.size).map AVal.r).length ty.size <;> rw [hb] at h <;> simp only [cond_true, cond_false, reduceCtorEq, Option.some.injEq] at h
  obtain ⟨rfl, _⟩ := Prod.mk.inj h
  exact .inr ⟨ha, _, rfl, by simp only [Body.cells, List.map_take, List.map_drop], Nat.eq_of_beq_eq_true hb⟩
 ·rename_i cs ha
  rw [forceL_eq] at h
  cases hb : Nat.beq ((cs.drop off).take ty.size).length ty.size <;> rw [hb] at h <;> simp only [cond_true, cond_false, reduceCtorEq, Option.some.injEq] at h
  obtain ⟨rfl, _⟩ := Prod.mk.inj h
  exact .inr ⟨ha, _, rfl, rfl, Nat.eq_of_beq_eq_true hb⟩
def addrF (h : Hp) : AVal → Option (Body × Nat)
 | .ptr β off => (h.get β).map fun blk => (blk, off)
 | .rp xs off => some (.plain xs, off)
 | .bp s off => some (.bytes s, off)
 | _ => none
theorem addrF_sound {X : Ctx} {h : Hp} (H : HRel X R μ h w) {x : AVal} {bd : Body} {off : Nat} (ha : addrF h x = some (bd, off)) {c : Value} (hx : ARel R μ w x c) :
  ∃ b o vs, c = .pointer (some ⟨b, o + off, none⟩) ∧ BodyRel R μ w bd vs ∧ ∀ (j : Nat) v, vs[j]? = some v → w.cell? ⟨b, o + j, none⟩ = some v := by
 cases x <;> simp only [addrF, reduceCtorEq, Option.some.injEq] at ha
 case ptr β off' =>
  simp only [Option.map_eq_some_iff, Prod.mk.injEq] at ha
  obtain ⟨blk, h1, rfl, rfl⟩ := ha
  simp only [ARel] at hx
  obtain ⟨b, o, h2, rfl⟩ := hx
  obtain ⟨b', o', h3, _, _, h4⟩ := H.live β blk h1
  rw [h2] at h3
  cases h3
  obtain ⟨cells, el, fz, vs, h5, h6, h7, h8, _⟩ := h4.ex
  exact ⟨b, o, vs, rfl, h7, fun j v hj => by simp [World.cell?, h5, h8 j v hj]⟩
 case rp xs o0 =>
  obtain ⟨rfl, rfl⟩ := Prod.mk.inj ha
  simp only [ARel] at hx
  obtain ⟨b, o, cs, rfl, h2, h3, h4⟩ := hx
  exact ⟨b, o, cs, rfl, h4, h3⟩
 case bp s o0 =>
  obtain ⟨rfl, rfl⟩ := Prod.mk.inj ha
  simp only [ARel] at hx
  obtain ⟨b, o, rfl, h2, h3⟩ := hx
  exact ⟨b, o, bytesV s, rfl, rfl, h3⟩
end
def stepLoad (T : TTab) (N : Nat) (g : Regs) (h : Hp) (o : Oper) : Option (Nat × AVal × Prop) :=
 match o.dst, o.op with
 | some d, .load t x => bif Nat.blt d N then
   match T.look t, addrF h (evA g x) with
   | some ty, some (bd, off) => (match loadF ty bd off with | some p => forceV p.1 fun v => some (d, v, p.2) | none => none)
   | _, _ => none
  else none
 | _, _ => none
theorem stepLoad_eq (T : TTab) (N : Nat) (g : Regs) (h : Hp) (o : Oper) : stepLoad T N g h o = (match o.dst, o.op with
 | some d, .load t x => bif Nat.blt d N then
   match T.look t, addrF h (evA g x) with
   | some ty, some (bd, off) => (loadF ty bd off).map fun p => (d, p.1, p.2)
   | _, _ => none
  else none
 | _, _ => none) := by
 simp only [stepLoad, forceV_eq]
 split
 ·split
  ·congr 1; cases loadF _ _ _ <;> rfl
  ·rfl
 ·rfl
section
variable {P : Program} {T : TTab} {f N : Nat} {m : Md} {ops : Array Oper} {o : Oper} {rest : List Oper} {k : List Item} {g g' : Regs} {h h' : Hp} {Post : AVal → Hp → Prop}
theorem opStep_load_of (hTO : TOk P T) {d : Nat} {t : TypeId} {ty : Ty} {x : Operand} {v : AVal} {bd : Body} {off : Nat} (hd : o.dst = some d) (hop : o.op = .load t x) (hN : Nat.blt d N = true) (hT : T.look t = some ty)
  (ha : addrF h (evA g x) = some (bd, off)) (hl : LoadsTo ty bd.cells off v) : OpStep P N o g h ((d, v) :: g) h := by
 intro X R μ a w e5 e6 e7
 obtain ⟨b, o0, vs, h1, h2, h3⟩ := addrF_sound e7 ha (evA_rel (a := a) e6 x)
 obtain ⟨c, h4, h5⟩ := loadVar_sound (b := b) (o := o0) hTO hT (bodyRel_cells h2) h3 hl
 refine ⟨c, w, R, μ, .inl ?_, ?_, e7⟩
 ·simp only [execOp, hop, h1, Instr.loadAt, Instr.sureAddr, Sem.run_bind, Sem.run_pure, Result.andThen_ok, h4]
 ·rw [hd]
  exact e6.put (by rw [e5]; exact Nat.le_of_ble_eq_true hN) h5
theorem ar_load (hTO : TOk P T) {t : Bool} {d : Nat} {v : AVal} {c : Prop} (hp : stepLoad T N g h o = some (d, v, c)) (hg : guardB ops g o = some t) (ht : t = true) (hc : c)
  (hk : AReg P f N m ops rest k ((d, v) :: g) h Post) : AReg P f N m ops (o :: rest) k g h Post := by
 refine ar_op hg ht ?_ hk
 rw [stepLoad_eq] at hp
 split at hp
 case h_2 => simp at hp
 rename_i d' ty x hd hop
 cases hb : Nat.blt d' N <;> rw [hb] at hp <;> simp only [cond_true, cond_false, reduceCtorEq] at hp
 split at hp
 case h_2 => simp at hp
 rename_i tyi bd off hT ha
 simp only [Option.map_eq_some_iff, Prod.mk.injEq] at hp
 obtain ⟨⟨u, q⟩, h1, rfl, rfl, rfl⟩ := hp
 exact opStep_load_of hTO hd hop hb hT ha (loadF_sound h1 hc)
theorem ar_loadAs (hTO : TOk P T) {b : Bool} {d : Nat} {t : TypeId} {ty : Ty} {x : Operand} {bd : Body} {off : Nat} (v : AVal) (hd : o.dst = some d) (hop : o.op = .load t x) (hN : Nat.blt d N = true) (hT : T.look t = some ty)
  (ha : addrF h (evA g x) = some (bd, off)) (hg : guardB ops g o = some b) (ht : b = true) (hl : LoadsTo ty bd.cells off v)
  (hk : AReg P f N m ops rest k ((d, v) :: g) h Post) : AReg P f N m ops (o :: rest) k g h Post :=
 ar_op hg ht (opStep_load_of hTO hd hop hN hT ha hl) hk
end
def allR : List AVal → Option (List RVal)
 | [] => some []
 | .r v :: l => match allR l with | some r => some (v :: r) | none => none
 | _ :: _ => none
theorem allR_eq : ∀ {l : List AVal} {r : List RVal}, allR l = some r → l = r.map .r
 | [], r, h => by simp only [allR, Option.some.injEq] at h; subst h; rfl
 | x :: l, r, h => by
  cases x <;> simp only [allR, reduceCtorEq] at h
  rename_i v
  cases hl : allR l with
  | none => rw [hl] at h; simp at h
  | some r' =>
   rw [hl] at h
   simp only [Option.some.injEq] at h
   subst h
   simp [allR_eq hl]
def setsP : List RVal → Nat → List RVal → List RVal
 | xs, _, [] => xs
 | xs, off, v :: vs => setsP (xs.set off v) (off + 1) vs
theorem setsP_map : ∀ (rs xs : List RVal) (off : Nat), (setsP xs off rs).map AVal.r = setsL (xs.map AVal.r) off (rs.map AVal.r)
 | [], _, _ => rfl
 | r :: rs, xs, off => by simp only [setsP, List.map_cons, setsL]; rw [setsP_map rs, List.map_set]
def storeF (bd : Body) (off : Nat) (vs : List AVal) : Option (Body × Prop) :=
 match bd, vs with
 | .mixed cs, vs => bif vs.all oneA && Nat.ble (off + vs.length) cs.length then forceL (setsL cs off vs) fun l => some (.mixed l, True) else none
 | .plain xs, [.r v] => some (.plain (xs.set off v), off < xs.length)
 | .bytes s, [.r (.int .u8 n)] => some (.bytes (s.set off (UInt8.ofNat n.toNat)), off < s.length ∧ 0 ≤ n ∧ n < 256)
 | .plain xs, vs => match allR vs with | some rs => bif Nat.ble (off + vs.length) xs.length then some (.plain (setsP xs off rs), True) else none | none => none
 | _, _ => none
def stepStore (g : Regs) (h : Hp) (T : TTab) (o : Oper) : Option (Hp × Prop) :=
 match o.dst, o.op with
 | none, .store t x y =>
  match T.look t, evA g x, cellsF (evA g y) with
  | some ty, .ptr β off, some vs =>
   match h.get β with
   | some blk => bif Nat.beq vs.length ty.size then (storeF blk off vs).map fun p => (h.set β (some p.1), p.2) else none
   | none => none
  | _, _, _ => none
 | _, _ => none
def setsV : Array Value → Nat → List Value → Array Value
 | c, _, [] => c
 | c, o, v :: vs => setsV (c.setIfInBounds o v) (o + 1) vs
theorem setsV_size : ∀ (vs : List Value) (c : Array Value) (o : Nat), (setsV c o vs).size = c.size
 | [], _, _ => rfl
 | v :: vs, c, o => by simp only [setsV]; rw [setsV_size vs]; simp
theorem setCells_heap : ∀ (vs : List Value) (w : World) (b o : Nat) (c : Array Value) (e : TypeId) (fz : Nat × Nat), w.heap[b]? = some (Obj.cells c e fz) → (w.setCells b o vs).heap[b]? = some (Obj.cells (setsV c o vs) e fz)
 | [], _, _, _, _, _, _, h => h
 | v :: vs, w, b, o, c, e, fz, h => by
  simp only [World.setCells, setsV]
  refine setCells_heap vs _ b (o + 1) _ e fz ?_
  simp [World.setCell, Array.getElem?_modify, h]
theorem setCells_grown : ∀ (vs : List Value) (w : World) (b o : Nat), w.grownBy (w.setCells b o vs) (some b)
 | [], w, _, _ => ⟨rfl, rfl, rfl, Nat.le_refl _, fun _ _ _ => rfl⟩
 | v :: vs, w, b, o => by
  have h := setCells_grown vs (w.setCell ⟨b, o, none⟩ v) b (o + 1)
  simp only [World.setCells]
  refine ⟨h.os, h.tape, h.output, by have := h.size; simpa [World.setCell] using this, fun k hk hne => ?_⟩
  rw [h.block k (by simpa [World.setCell] using hk) hne, RowKit.Below.heap_setCell]
  intro e; subst e; exact hne rfl
theorem setsV_get : ∀ (vs : List Value) (c : Array Value) (o j : Nat), o + vs.length ≤ c.size → (setsV c o vs)[j]? = if o ≤ j ∧ j < o + vs.length then vs[j - o]? else c[j]?
 | [], c, o, j, _ => by simp only [setsV, List.length_nil, Nat.add_zero]; rw [if_neg (by omega)]
 | v :: vs, c, o, j, hl => by
  simp only [setsV, List.length_cons] at hl ⊢
  rw [setsV_get vs _ (o + 1) j (by simp; omega)]
  by_cases h1 : o + 1 ≤ j ∧ j < o + 1 + vs.length
  ·rw [if_pos h1, if_pos (by omega)]
   obtain ⟨p, rfl⟩ : ∃ p, j = o + (p + 1) := ⟨j - o - 1, by omega⟩
   rw [show o + (p + 1) - (o + 1) = p by omega, show o + (p + 1) - o = p + 1 by omega]
   simp
  ·rw [if_neg h1]
   by_cases h2 : j = o
   ·subst h2
    rw [if_pos (by omega)]
    simp [Array.getElem?_setIfInBounds]
    omega
   ·rw [if_neg (by omega)]
    rw [Array.getElem?_setIfInBounds, if_neg (Ne.symm h2)]
section
variable {P : Program} {T : TTab} {R : Nat → Prop} {μ : Mu} {w : World}
theorem setsL_rel2 : ∀ {vs : List AVal} {cs : List Value} (xs : List AVal) (ds : List Value) (off : Nat), ARels R μ w xs ds → ARels R μ w vs cs → ARels R μ w (setsL xs off vs) (setsV ⟨ds⟩ off cs).toList := by
 intro vs
 induction vs with
 | nil => intro cs xs ds off h k; simp only [ARels] at k; subst k; simpa [setsL, setsV] using h
 | cons v vs ih =>
  intro cs xs ds off h k
  simp only [ARels] at k
  obtain ⟨c, r, rfl, hv, hr⟩ := k
  simp only [setsL, setsV]
  have := ih (xs.set off v) (ds.set off c) (off + 1) (h.set off hv) hr
  simpa using this
theorem RRels.set {xs : List RVal} {cs : List Value} (h : RRels R w xs cs) (i : Nat) {v : RVal} {c : Value} (hv : RRel R w v c) : RRels R w (xs.set i v) (cs.set i c) := by
 have := (ARels.of_r (μ := []).2 h).set i (v := .r v) (c := c) (by simpa only [ARel] using hv)
 rw [← List.map_set] at this
 exact ARels.of_r.1 this
theorem storeF_sound {bd bd' : Body} {off : Nat} {vs : List AVal} {c : Prop} (h : storeF bd off vs = some (bd', c)) (hc : c) {cs ds : List Value} (hb : BodyRel R μ w bd ds) (hv : ARels R μ w vs cs) :
  BodyRel R μ w bd' (setsV ⟨ds⟩ off cs).toList ∧ off + cs.length ≤ ds.length ∧ ∀ v ∈ cs, v.oneCell' = true := by
 have hone : ∀ {vs : List AVal} {cs : List Value}, vs.all oneA = true → ARels R μ w vs cs → ∀ v ∈ cs, v.oneCell' = true := by
  intro vs
  induction vs with
  | nil => intro cs _ h; simp only [ARels] at h; subst h; simp
  | cons x xs ih =>
   intro cs ha h
   simp only [ARels] at h
   obtain ⟨u, r, rfl, h1, h2⟩ := h
   simp only [List.all_cons, Bool.and_eq_true] at ha
   intro v hv
   cases hv with
   | head => exact oneA_cell ha.1 h1
   | tail _ hm => exact ih ha.2 h2 v hm
 unfold storeF at h
 split at h
 ·rename_i xs
  cases hq : (vs.all oneA && Nat.ble (off + vs.length) xs.length) <;> rw [hq] at h <;> simp only [cond_true, cond_false, reduceCtorEq] at h
  rw [forceL_eq] at h
  simp only [Option.some.injEq] at h
  obtain ⟨rfl, rfl⟩ := Prod.mk.inj h
  rw [Bool.and_eq_true] at hq
  have h2 := Nat.le_of_ble_eq_true hq.2
  simp only [BodyRel] at hb ⊢
  exact ⟨setsL_rel2 _ _ _ hb hv, by rw [hv.length, hb.length]; exact h2, hone hq.1 hv⟩
 ·rename_i xs v
  simp only [Option.some.injEq] at h
  obtain ⟨rfl, rfl⟩ := Prod.mk.inj h
  simp only [ARels] at hv
  obtain ⟨u, r, rfl, h1, h2⟩ := hv
  subst h2
  simp only [BodyRel] at hb ⊢
  have h1' := h1
  simp only [ARel] at h1
  refine ⟨by simpa [setsV] using RRels.set hb off h1, by rw [hb.length]; simp; omega, ?_⟩
  intro x hx
  simp only [List.mem_singleton] at hx
  subst hx
  exact oneA_cell (by rfl) h1'
 ·rename_i s n
  simp only [Option.some.injEq] at h
  obtain ⟨rfl, rfl⟩ := Prod.mk.inj h
  simp only [ARels] at hv
  obtain ⟨u, r, rfl, h1, h2⟩ := hv
  subst h2
  simp only [BodyRel] at hb ⊢
  subst hb
  simp only [ARel, RRel] at h1
  subst h1
  refine ⟨?_, by simp [bytesV]; omega, by simp [Value.oneCell']⟩
  simp only [setsV, bytesV, List.setIfInBounds_toArray, List.map_set]
  congr 1
  simp only [byteV]
  congr 1
  have : (UInt8.ofNat n.toNat).toNat = n.toNat := by simp; omega
  rw [this]; omega
 ·rename_i xs _
  split at h
  case h_2 => simp at h
  rename_i rs hr
  cases hq : Nat.ble (off + vs.length) xs.length <;> rw [hq] at h <;> simp only [cond_true, cond_false, reduceCtorEq] at h
  simp only [Option.some.injEq] at h
  obtain ⟨rfl, rfl⟩ := Prod.mk.inj h
  have h2 := Nat.le_of_ble_eq_true hq
  simp only [BodyRel] at hb ⊢
  have he := allR_eq hr
  have hall : vs.all oneA = true := by rw [he]; simp [oneA]
  have h3 := setsL_rel2 (xs.map AVal.r) ds off (ARels.of_r.2 hb) hv
  rw [he, ← setsP_map, ARels.of_r] at h3
  exact ⟨h3, by rw [hv.length, hb.length]; exact h2, hone hall hv⟩
 ·simp at h
end
section
variable {P : Program} {T : TTab} {f N : Nat} {m : Md} {ops : Array Oper} {o : Oper} {rest : List Oper} {k : List Item} {g g' : Regs} {h h' : Hp} {Post : AVal → Hp → Prop}
theorem opStep2_store (hTO : TOk P T) {c : Prop} (hp : stepStore g h T o = some (h', c)) (hc : c) : OpStep2 P N o g h .any h' := by
 intro X R μ a w e5 e6 e7
 unfold stepStore at hp
 simp only [cellsF_eq] at hp
 split at hp
 case h_2 => simp at hp
 rename_i t x y hd hop
 split at hp
 case h_2 => simp at hp
 rename_i ty β off vs hT hx hy
 split at hp
 case h_2 => simp at hp
 rename_i blk hg
 cases hb : Nat.beq vs.length ty.size <;> rw [hb] at hp <;> simp only [cond_true, cond_false, reduceCtorEq] at hp
 simp only [Option.map_eq_some_iff, Prod.mk.injEq] at hp
 obtain ⟨⟨bd', c'⟩, h1, rfl, rfl⟩ := hp
 have hxr := evA_rel (a := a) e6 x
 rw [hx] at hxr
 simp only [ARel] at hxr
 obtain ⟨b, o0, hm, hxe⟩ := hxr
 have hcl := cellsA_rel hy (evA_rel (a := a) e6 y)
 obtain ⟨b', o', hm', hnR, hown, hblk⟩ := e7.live β blk hg
 rw [hm] at hm'
 cases hm'
 obtain ⟨cells, el, fz, ds, h2, h3, h4, h5, hlen⟩ := hblk.ex
 obtain ⟨h6, h7, h8⟩ := storeF_sound h1 hc h4 hcl
 have hrun := run_storeCells_cells (P := P) b (o0 + off) (a.eval y).cells.toList 0 w (fun j hj => by
   simp only [World.cell?, h2, Nat.add_zero]
   simp
   omega) (fun j hj => by
   simp only [World.frozen?, h2, Nat.add_zero]
   simp only [Bool.and_eq_false_imp, decide_eq_true_eq, decide_eq_false_iff_not]
   intro h9 h10
   have := h3.2 _ h9 h10
   omega) h8
 rw [Nat.add_zero] at hrun
 have hgr := setCells_grown (a.eval y).cells.toList w b (o0 + off)
 have hnew := setCells_heap (a.eval y).cells.toList w b (o0 + off) cells el fz h2
 have hsh : ∀ b', some b = some b' → ¬ R b' ∧ ∀ (c : Array Value) (e : TypeId) (f : Nat × Nat), w.heap[b']? = some (Obj.cells c e f) → ∃ (c' : Array Value) (f' : Nat × Nat), (w.setCells b (o0 + off) (a.eval y).cells.toList).heap[b']? = some (Obj.cells c' e f') ∧ c'.size = c.size := by
  rintro b' rfl'
  cases rfl'
  refine ⟨hnR, fun c e f hcf => ?_⟩
  rw [h2] at hcf
  cases hcf
  exact ⟨_, _, hnew, setsV_size _ _ _⟩
 have hon := e7.onward hgr hsh
 have Hk : HRel X R μ { h with tab := (β, none) :: h.tab } (w.setCells b (o0 + off) (a.eval y).cells.toList) := (e7.kill β).grow hgr hsh (by
  rintro b' rfl'
  cases rfl'
  exact ⟨hown, e7.free_kill hg hm⟩) (by
  rintro b' rfl'
  cases rfl'
  exact ⟨cells, el, fz, h2⟩)
 refine ⟨undef, w.setCells b (o0 + off) (a.eval y).cells.toList, R, μ, .inr ⟨?_, rfl⟩, by simp only [ARel], e6.mono (fun _ h => h) hon (fun _ _ h => h), ?_⟩
 ·have hsz : (a.eval y).cells.size = ty.size := by rw [← Array.length_toList, hcl.length]; exact Nat.eq_of_beq_eq_true hb
  simp only [execOp, hop, hxe, Instr.storeAt, Instr.sureAddr, Sem.run_bind, Sem.run_pure, Result.andThen_ok, storeVar, size_ok hTO hT, Sem.run_ite]
  rw [if_neg (by simp [hsz])]
  simp only [Result.andThen_ok, hrun]
 ·have hfin := Hk.put (β := β) (b := b) (o := o0) (blk := bd') hm hnR hown
   ⟨setsV cells (o0 + off) (a.eval y).cells.toList, el, fz, (setsV ⟨ds⟩ off (a.eval y).cells.toList).toList, hnew, by rw [setsV_size]; exact h3, h6.mono (fun _ h => h) hon (fun _ _ h => h), fun j v hj => by
    rw [Array.getElem?_toList, setsV_get _ _ _ _ (by simpa using h7)] at hj
    rw [setsV_get _ _ _ _ (by omega)]
    split at hj
    ·rw [if_pos (by omega), show o0 + j - (o0 + off) = j - off by omega]; exact hj
    ·rw [if_neg (by omega)]; exact h5 j v (by simpa using hj), by rw [Array.length_toList, setsV_size, setsV_size]; exact hlen⟩
   (fun γ blk' o' hne hg' => by
    simp only [Hp.get, look_kill, if_neg (Ne.symm hne)] at hg'
    have hk := e7.free_kill hg hm γ blk' o' (by simp only [Hp.get, look_kill, if_neg (Ne.symm hne)]; exact hg')
    exact hk)
  exact { hfin with
   live := fun γ blk' hg' => hfin.live γ blk' (by
    simp only [Hp.get, Hp.set, look_kill] at hg' ⊢
    split at hg'
    ·rename_i e; rw [if_pos e]; exact hg'
    ·rename_i e; rw [if_neg e, if_neg e]; exact hg')
   inj := fun γ γ' k k' c c' p p' g1 g2 => hfin.inj γ γ' k k' c c' p p' (by
    simp only [Hp.get, Hp.set, look_kill] at g1 ⊢
    split at g1
    ·rename_i e; rw [if_pos e]; exact g1
    ·rename_i e; rw [if_neg e, if_neg e]; exact g1) (by
    simp only [Hp.get, Hp.set, look_kill] at g2 ⊢
    split at g2
    ·rename_i e; rw [if_pos e]; exact g2
    ·rename_i e; rw [if_neg e, if_neg e]; exact g2) }
theorem stepStore_dst {c : Prop} (hp : stepStore g h T o = some (h', c)) : o.dst = none := by
 unfold stepStore at hp
 simp only [cellsF_eq] at hp
 split at hp
 ·assumption
 ·simp at hp
theorem opStep_store (hTO : TOk P T) {c : Prop} (hp : stepStore g h T o = some (h', c)) (hc : c) : OpStep P N o g h g h' :=
 opStep_of2n (opStep2_store hTO hp hc) (stepStore_dst hp)
theorem ar_store (hTO : TOk P T) {t : Bool} {c : Prop} (hp : stepStore g h T o = some (h', c)) (hg : guardB ops g o = some t) (ht : t = true) (hc : c)
  (hk : AReg P f N m ops rest k g h' Post) : AReg P f N m ops (o :: rest) k g h Post :=
 ar_op hg ht (opStep_store hTO hp hc) hk
end
end Go.Proofs.YtccdhgmkjakjkaaGreat
namespace Go.Proofs.YtccdhgmkjakjkaaGreat
open Go
def Owned (h : Hp) (μ : Mu) (b : Nat) : Prop := ∃ β blk o, h.get β = some blk ∧ μ[β]? = some (b, o)
def callCtx (w : World) (h : Hp) (R : Nat → Prop) (μ : Mu) : Ctx := Ctx.plain w (Owned h μ) R μ
structure Callable (P : Program) (f : FuncId) : Prop where
 ex : ∃ fn, P.funcs[f]? = some fn ∧ (fn.name == "runtime.NumGoroutine") = false ∧ fn.body.isNone = false
structure Spec (P : Program) (f : FuncId) (args : List AVal) (h : Hp) (Post : AVal → Hp → Prop) : Prop where
 can : Callable P f
 run : ∀ (R : Nat → Prop) (μ : Mu) (w : World) (cargs : List Value), HRel (callCtx w h R μ) R μ h w → ARels R μ w args cargs →
  Calls P f ⟨cargs⟩ w fun e w' => ∃ v, e = .returned v ∧ ∃ R' μ' av h', ARel R' μ' w' av v ∧ HRel (callCtx w h R μ) R' μ' h' w' ∧ Post av h'
theorem Spec.mono {P : Program} {f : FuncId} {args : List AVal} {h : Hp} {Post Post' : AVal → Hp → Prop} (hs : Spec P f args h Post) (hp : ∀ v h, Post v h → Post' v h) : Spec P f args h Post' :=
 ⟨hs.can, fun R μ w cargs h1 h2 => (hs.run R μ w cargs h1 h2).mono fun _ _ ⟨v, h3, R', μ', av, h', h4, h5, h6⟩ => ⟨v, h3, R', μ', av, h', h4, h5, hp _ _ h6⟩⟩
def argRegs : Nat → List AVal → Regs
 | _, [] => []
 | i, v :: vs => (i, v) :: argRegs (i + 1) vs
theorem argRegs_rel {R : Nat → Prop} {μ : Mu} {w : World} : ∀ (args : List AVal) (i : Nat) (pre cs suf : List Value), pre.length = i → ARels R μ w args cs → ∀ t, ARel R μ w (lookR (argRegs i args) t) (((pre ++ cs ++ suf)[t]?).getD undef)
 | [], i, pre, cs, suf, _, _, t => by simp only [argRegs, lookR]; simp [ARel]
 | v :: vs, i, pre, cs, suf, hi, h, t => by
  simp only [ARels] at h
  obtain ⟨c, r, rfl, h1, h2⟩ := h
  simp only [argRegs, lookR]
  by_cases e : i = t
  ·subst e
   simp only [Nat.beq_refl, cond_true]
   rw [← hi]
   simpa using h1
  ·rw [beq_ne e]
   simp only [cond_false]
   have := argRegs_rel vs (i + 1) (pre ++ [c]) r suf (by simp [hi]) h2 t
   simpa using this
section
variable {P : Program} {T : TTab} {f N : Nat} {m : Md} {fn : Func} {c : Code} {args : List AVal} {h : Hp} {Post : AVal → Hp → Prop}
theorem mok_call {R : Nat → Prop} {μ : Mu} {w : World} {h : Hp} (hl : μ.length = h.nxt) : MOk P (callCtx w h R μ) (.of h.nxt) := ⟨hl, fun _ => rfl, fun h => (by simp [Md.of] at h), fun l Y h => by simp [Md.of] at h⟩
theorem spec_of_go (hf : P.funcs[f]? = some fn) (hb : fn.body = some c) (hnm : (fn.name == "runtime.NumGoroutine") = false) (hN : fn.ntmps = N) (hn : Nat.ble args.length N = true)
  (hgo : AGo P f N (.of h.nxt) [.code c] (argRegs 0 args) h Post) : Spec P f args h Post := by
 refine ⟨⟨fn, hf, hnm, by simp [hb]⟩, ?_⟩
 intro R μ w cargs hH ha cs
 let b : Frame := { (default : Frame) with fn := f, kind := .normal }
 have hl := ha.length
 have hn' := Nat.le_of_ble_eq_true hn
 have henter : Frame.enter P f ⟨cargs⟩ .normal = b.atR { tmps := ⟨cargs⟩ ++ Array.replicate (fn.ntmps - cargs.length) undef, defers := [] } [.code c] := by
  simp only [Frame.enter, Frame.atR, hf, hb, b, Option.map_some, Option.getD_some, Option.bind_some]
  rfl
 obtain ⟨v, w', fr, h1, h2, h3, R', μ', av, h', h4, h5, h6⟩ := hgo (callCtx w h R μ) R μ { tmps := ⟨cargs⟩ ++ Array.replicate (fn.ntmps - cargs.length) undef, defers := [] } w b cs (mok_call hH.len) rfl ⟨rfl, rfl⟩ rfl
  (by simp; omega) (fun t => by
   have := argRegs_rel args 0 [] cargs (List.replicate (fn.ntmps - cargs.length) undef) rfl ha t
   rw [Array.getD_eq_getD_getElem?, ← Array.getElem?_toList]
   simpa using this) hH
 rw [← henter] at h1
 have h3' : fr.leaving P w' (.returned v) := by
  have hr : fr.roundOf = none := h2.2
  unfold Done at h3; rw [hr] at h3; exact h3
 exact ⟨.returned v, w', fr, ⟨v, rfl, R', μ', av, h', h4, h5, h6⟩, h1, h2.1, h3'⟩
def resV (T : TTab) (g : Regs) (h : Hp) : ResultVar → Option (AVal × Prop)
 | .tmp t => some (lookR g t, True)
 | .cell a t =>
  match T.look t, addrF h (lookR g a) with
  | some ty, some (bd, off) => loadF ty bd off
  | _, _ => none
def resVs (T : TTab) (g : Regs) (h : Hp) : List ResultVar → Option (List AVal × Prop)
 | [] => some ([], True)
 | x :: xs =>
  match resV T g h x, resVs T g h xs with
  | some (v, c), some (vs, cs) => some (v :: vs, c ∧ cs)
  | _, _ => none
def resultsA (T : TTab) (g : Regs) (h : Hp) (l : List ResultVar) : Option (AVal × Prop) :=
 match resVs T g h l with
 | some ([v], c) => some (v, c)
 | some (vs, c) => some (.tuple vs, c)
 | none => none
theorem resVs_sound (hTO : TOk P T) {X : Ctx} {R : Nat → Prop} {μ : Mu} {w : World} {g : Regs} {tmps : Array Value} (H : HRel X R μ h w) (hr : RegRel R μ w g tmps) :
  ∀ (l : List ResultVar) (vs : List AVal) (c : Prop), resVs T g h l = some (vs, c) → c →
   ∃ cs, (l.mapM fun x => (match x with | .tmp t => pure (tmps.getD t undef) | .cell a t => do loadVar t (← asAddr (tmps.getD a undef)) : Sem Value)).run P w = .ok cs w ∧ ARels R μ w vs cs
 | [], vs, c, h1, _ => by
  simp only [resVs, Option.some.injEq] at h1
  obtain ⟨rfl, _⟩ := Prod.mk.inj h1
  exact ⟨[], by simp, by simp [ARels]⟩
 | x :: xs, vs, c, h1, hc => by
  simp only [resVs] at h1
  split at h1
  case h_2 => simp at h1
  rename_i v c1 vs' c2 e1 e2
  simp only [Option.some.injEq] at h1
  obtain ⟨rfl, rfl⟩ := Prod.mk.inj h1
  obtain ⟨cs, h2, h3⟩ := resVs_sound hTO H hr xs vs' c2 e2 hc.2
  have hx : ∃ d, (match x with | .tmp t => pure (tmps.getD t undef) | .cell a t => do loadVar t (← asAddr (tmps.getD a undef)) : Sem Value).run P w = .ok d w ∧ ARel R μ w v d := by
   cases x with
   | tmp t =>
    simp only [resV, Option.some.injEq] at e1
    obtain ⟨rfl, _⟩ := Prod.mk.inj e1
    exact ⟨_, by simp, hr t⟩
   | cell a t =>
    simp only [resV] at e1
    split at e1
    case h_2 => simp at e1
    rename_i ty bd off hT ha
    obtain ⟨b, o, ds, h4, h5, h6⟩ := addrF_sound H ha (hr a)
    obtain ⟨d, h7, h8⟩ := loadVar_sound (b := b) (o := o) hTO hT (bodyRel_cells h5) h6 (loadF_sound e1 hc.1)
    refine ⟨d, ?_, h8⟩
    simp only [Sem.run_bind, h4, asAddr, Sem.run_pure, Result.andThen_ok, h7]
  obtain ⟨d, h4, h5⟩ := hx
  refine ⟨d :: cs, ?_, by simp only [ARels]; exact ⟨d, cs, rfl, h5, h3⟩⟩
  simp only [List.mapM_cons, Sem.run_bind]
  rw [h4]
  simp only [Result.andThen_ok]
  rw [h2]
  simp
theorem results_sound (hTO : TOk P T) {X : Ctx} {R : Nat → Prop} {μ : Mu} {w : World} {g : Regs} {tmps : Array Value} (H : HRel X R μ h w) (hr : RegRel R μ w g tmps) {v : AVal} {q : Prop}
  (hres : resultsA T g h fn.results.toList = some (v, q)) (hq : q) : ∃ d, (results fn tmps).run P w = .ok d w ∧ ARel R μ w v d := by
 unfold resultsA at hres
 have hrun : ∀ cs, (fn.results.toList.mapM fun x => (match x with | .tmp t => pure (tmps.getD t undef) | .cell a t => do loadVar t (← asAddr (tmps.getD a undef)) : Sem Value)).run P w = .ok cs w →
   (results fn tmps).run P w = .ok (if h : cs.toArray.size = 1 then cs.toArray[0] else .tuple cs.toArray) w := by
  intro cs hcs
  unfold results
  rw [Array.mapM_eq_mapM_toList, Sem.run_bind, Sem.run_map]
  refine (congrArg (fun r : Result (List Value) => (r.andThen fun a w' => Result.ok a.toArray w').andThen _) hcs).trans ?_
  simp only [Result.andThen_ok, Sem.run_pure]
 split at hres
 ·rename_i u c' e
  simp only [Option.some.injEq] at hres
  obtain ⟨rfl, rfl⟩ := Prod.mk.inj hres
  obtain ⟨cs, h1, h2⟩ := resVs_sound hTO H hr _ _ _ e hq
  simp only [ARels] at h2
  obtain ⟨d, r, rfl, h3, rfl⟩ := h2
  exact ⟨d, by rw [hrun _ h1]; simp, h3⟩
 ·rename_i vs c' hne e
  simp only [Option.some.injEq] at hres
  obtain ⟨rfl, rfl⟩ := Prod.mk.inj hres
  obtain ⟨cs, h1, h2⟩ := resVs_sound hTO H hr _ _ _ e hq
  refine ⟨.tuple cs.toArray, ?_, by simp only [ARel]; exact ⟨cs, rfl, h2⟩⟩
  rw [hrun _ h1]
  have hl := h2.length
  have : ¬ cs.toArray.size = 1 := by
   intro h3
   have h4 : vs.length = 1 := by rw [← hl]; simpa using h3
   obtain ⟨x, rfl⟩ := List.length_eq_one_iff.1 h4
   exact hne x rfl
  rw [dif_neg this]
 ·simp at hres
theorem putObj_keeps {X : Ctx} {R : Nat → Prop} {μ : Mu} {h : Hp} {w : World} (H : HRel X R μ h w) {D : Nat} {o o' : Obj} (hD : w.heap[D]? = some o) (hn : ∀ (c : Array Value) (e : TypeId) (f : Nat × Nat), o ≠ Obj.cells c e f) :
  Onward R w (w.putObj D o') ∧ ∀ X' : Ctx, X'.w0 = X.w0 → X'.O = X.O → X'.R0 = X.R0 → X'.μ0 = X.μ0 → X.w0.heap.size ≤ D → ∀ h' : Hp, h'.nxt = h.nxt → h'.tab = h.tab → X'.inv h'.gh R (w.putObj D o') → HRel X' R μ h' (w.putObj D o') := by
 have hne : ∀ k, k ≠ D → (w.putObj D o').heap[k]? = w.heap[k]? := by
  intro k hk
  show (w.heap.setIfInBounds D _)[k]? = _
  rw [Array.getElem?_setIfInBounds, if_neg (Ne.symm hk)]
 have hcell : ∀ (k : Nat) (c : Array Value) (e : TypeId) (fz : Nat × Nat), w.heap[k]? = some (Obj.cells c e fz) → k ≠ D := by
  rintro k c e fz hk rfl
  rw [hD] at hk; cases hk; exact hn c e fz rfl
 have hnR : ∀ k, R k → k ≠ D := by
  intro k hk
  obtain ⟨c, e, f, h1⟩ := H.rc k hk
  exact hcell k c e f h1
 have hon : Onward R w (w.putObj D o') := ⟨fun k hk => hne k (hnR k hk), fun k c e fz hk => ⟨c, fz, (hne k (hcell k c e fz hk)).trans hk, rfl⟩⟩
 have hsz : (w.putObj D o').heap.size = w.heap.size := by show (w.heap.setIfInBounds D _).size = _; simp
 refine ⟨hon, fun X' x1 x2 x3 x4 hl h' hn1 hn2 hi => ?_⟩
 exact {
  os := by rw [x1]; exact H.os
  tape := by rw [x1]; exact H.tape
  output := by rw [x1]; exact H.output
  size := by rw [x1, hsz]; exact H.size
  keep := fun k hk ho => by
   rw [x1] at hk ⊢
   rw [x2] at ho
   rw [hne k (by omega)]; exact H.keep k hk ho
  shape := fun k c e f hk => by
   rw [x1] at hk
   obtain ⟨c1, f1, h1, h2⟩ := H.shape k c e f hk
   obtain ⟨c2, f2, h3, h4⟩ := hon.shape k c1 e f1 h1
   exact ⟨c2, f2, h3, h4.trans h2⟩
  r0 := fun k hk => H.r0 k (by rwa [x3] at hk)
  rO := fun k hk => by rw [x1, x2, x3]; exact H.rO k hk
  rlt := fun k hk => by rw [hsz]; exact H.rlt k hk
  rc := fun k hk => by
   obtain ⟨c, e, f, h1⟩ := H.rc k hk
   exact ⟨c, e, f, (hne k (hnR k hk)).trans h1⟩
  mu := fun β p hp => H.mu β p (by rwa [x4] at hp)
  len := H.len.trans hn1.symm
  live := fun β blk hg => by
   have hg' : h.get β = some blk := by simpa [Hp.get, hn2] using hg
   obtain ⟨b, o2, h1, h2, h3, h4⟩ := H.live β blk hg'
   obtain ⟨cells, el, fz, vs, h5, _⟩ := h4.ex
   refine ⟨b, o2, h1, h2, by rw [x1, x2]; exact h3, h4.mono (fun _ h => h) hon (fun _ _ h => h) (hne b (hcell b _ _ _ h5))⟩
  inj := fun β β' blk blk' b b' o2 o2' g1 g2 => H.inj β β' blk blk' b b' o2 o2' (by simpa [Hp.get, hn2] using g1) (by simpa [Hp.get, hn2] using g2)
  inv := hi }
theorem leave_marks {X : Ctx} {R : Nat → Prop} {μ : Mu} {g : Regs} {a : Act} {w : World} (hTO : TOk P T) (hf : P.funcs[f]? = some fn) {v : AVal} {q : Prop} (hres : resultsA T g h fn.results.toList = some (v, q)) (hq : q)
  (H : HRel X R μ h w) (hr : RegRel R μ w g a.tmps) (fr : Frame) (cs : List Frame) (h1 : fr.fn = f) (h2 : fr.kind = .normal) (h3 : fr.mode = .returning) (h4 : fr.defers = X.defers) (h5 : fr.tmps = a.tmps) (h6 : fr.roundOf = none) :
  ∃ d w' fr', Steps P (lone fr cs w) (lone fr' cs w') ∧ fr'.fn = f ∧ fr'.roundOf = none ∧ fr'.leaving P w' (.returned d) ∧ ARel R μ w' v d ∧ HRel X.fin R μ h w' := by
 unfold Ctx.defers at h4
 unfold Ctx.fin
 cases hm : X.mark with
 | none =>
  rw [hm] at h4
  obtain ⟨d, h7, h8⟩ := results_sound hTO H hr hres hq
  exact ⟨d, w, fr, .refl _ _, h1, h6, ⟨h3, h4, h2, fn, by rw [h1]; exact hf, by rw [h5]; exact h7⟩, h8, H⟩
 | some D =>
  rw [hm] at h4
  obtain ⟨hD, hDl⟩ := X.mkd D hm _ _ _ H.inv
  have hrun := run_takeDeferred (P := P) (w := w) (b := D) hD
  have hst := step_collected (P := P) (fr := fr) (cs := cs) (w := w) (d := { target := .collected D, args := #[] }) (r := D) (ds := []) (by rw [h3]; simp) h4 rfl hrun
  obtain ⟨hon, hH⟩ := putObj_keeps (o' := .deferred none) H hD (by intro c e f h; cases h)
  have H' := hH (Ctx.plain X.w0 X.O X.R0 X.μ0) rfl rfl rfl rfl hDl h rfl rfl trivial
  have hr' := hr.mono (fun _ h => h) hon (fun _ _ h => h)
  obtain ⟨d, h7, h8⟩ := results_sound hTO H' hr' hres hq
  exact ⟨d, _, _, .one hst, h1, h6, ⟨h3, rfl, h2, fn, by rw [show ({ fr with defers := [] ++ [] } : Frame).fn = f from h1]; exact hf, by rw [show ({ fr with defers := [] ++ [] } : Frame).tmps = a.tmps from h5]; exact h7⟩, h8, H'⟩
theorem ag_ret {k : List Item} {g : Regs} (hTO : TOk P T) (hf : P.funcs[f]? = some fn) {v : AVal} {q : Prop} (hres : resultsA T g h fn.results.toList = some (v, q)) (hmr : m.rnd = false) (hq : q) (hp : Post v h) :
  AGo P f N m (.code .ret :: k) g h Post := by
 intro X R μ a w b cs e1 e2 e3 e4 e5 e6 e7
 have hro : b.roundOf = none := by have := e3.2; rw [hmr] at this; simpa using this
 obtain ⟨d, w', fr', h1, h2, h3, h4, h5, h6⟩ := leave_marks hTO hf hres hq e7 e6 { b.atR a (.code .ret :: k) with mode := .returning } cs e2 e3.1 rfl e4 rfl hro
 exact ⟨d, w', fr', .head (stepR_ret hro) h1, ⟨h2, h3.trans hro.symm⟩, by unfold Done; rw [h3]; exact h4, R, μ, v, h, h5, h6, hp⟩
theorem ag_end {g : Regs} (hTO : TOk P T) (hf : P.funcs[f]? = some fn) {v : AVal} {q : Prop} (hres : resultsA T g h fn.results.toList = some (v, q)) (hmr : m.rnd = false) (hq : q) (hp : Post v h) :
  AGo P f N m [] g h Post := by
 intro X R μ a w b cs e1 e2 e3 e4 e5 e6 e7
 have hro : b.roundOf = none := by have := e3.2; rw [hmr] at this; simpa using this
 obtain ⟨d, w', fr', h1, h2, h3, h4, h5, h6⟩ := leave_marks hTO hf hres hq e7 e6 { b.atR a [] with mode := .returning } cs e2 e3.1 rfl e4 rfl hro
 exact ⟨d, w', fr', .head (stepR_end hro) h1, ⟨h2, h3.trans hro.symm⟩, by unfold Done; rw [h3]; exact h4, R, μ, v, h, h5, h6, hp⟩
theorem ag_rend {g : Regs} (hmr : m.rnd = true) (hp : Post (.r (.bool true)) h) : AGo P f N m [] g h Post := by
 intro X R μ a w b cs e1 e2 e3 e4 e5 e6 e7
 have hro : b.roundOf.isSome = true := by rw [e3.2, hmr]
 refine ⟨.bool true, w, b.atR a [], .refl _ _, ⟨e2, rfl⟩, ?_, R, μ, _, h, by simp [ARel, RRel], ?_, hp⟩
 ·unfold Done
  obtain ⟨l, hl⟩ := Option.isSome_iff_exists.1 hro
  rw [show (b.atR a []).roundOf = some l from hl]
  exact ⟨b, a, e3.1, .inl ⟨rfl, rfl⟩⟩
 ·unfold Ctx.fin; rw [e1.rnd hmr]; exact e7
theorem ag_rret {k : List Item} {g : Regs} (hmr : m.rnd = true) (hp : Post (.r (.bool false)) h) : AGo P f N m (.code .ret :: k) g h Post := by
 intro X R μ a w b cs e1 e2 e3 e4 e5 e6 e7
 have hro : b.roundOf.isSome = true := by rw [e3.2, hmr]
 refine ⟨.bool false, w, b.atR a (.code .ret :: k), .refl _ _, ⟨e2, rfl⟩, ?_, R, μ, _, h, by simp [ARel, RRel], ?_, hp⟩
 ·unfold Done
  obtain ⟨l, hl⟩ := Option.isSome_iff_exists.1 hro
  rw [show (b.atR a (.code .ret :: k)).roundOf = some l from hl]
  exact ⟨b, a, e3.1, .inr ⟨k, rfl, rfl⟩⟩
 ·unfold Ctx.fin; rw [e1.rnd hmr]; exact e7
end
end Go.Proofs.YtccdhgmkjakjkaaGreat
namespace Go.Proofs.YtccdhgmkjakjkaaGreat
open Go
mutual
def AVal.ren (ρ : Nat → Nat) : AVal → AVal
 | .sl β off n z => .sl (ρ β) off n z
 | .ptr β off => .ptr (ρ β) off
 | .func f cs => .func f (AVal.rens ρ cs)
 | .agg cs => .agg (AVal.rens ρ cs)
 | .tuple cs => .tuple (AVal.rens ρ cs)
 | .r v => .r v
 | .rp xs o => .rp xs o
 | .bp s o => .bp s o
 | .yld l => .yld l
 | .any => .any
def AVal.rens (ρ : Nat → Nat) : List AVal → List AVal
 | [] => []
 | x :: xs => AVal.ren ρ x :: AVal.rens ρ xs
end
def Body.ren (ρ : Nat → Nat) : Body → Body
 | .mixed cs => .mixed (AVal.rens ρ cs)
 | b => b
def Body.nb (m : Nat) : Body → Bool
 | .mixed cs => AVal.nbs m cs
 | _ => true
mutual
theorem ARel.ren {R : Nat → Prop} {μ μ2 : Mu} {w : World} {ρ : Nat → Nat} {m : Nat} (hm : ∀ β, β < m → ∀ p, μ[β]? = some p → μ2[ρ β]? = some p) : ∀ (v : AVal) (c : Value), AVal.nb m v = true → ARel R μ w v c → ARel R μ2 w (AVal.ren ρ v) c
 | .sl β off n z, c, hb, h => by
  simp only [ARel, AVal.ren] at h ⊢
  obtain ⟨b, o, cap, cells, e, fz, h1, rest⟩ := h
  exact ⟨b, o, cap, cells, e, fz, hm β (Nat.le_of_ble_eq_true hb) _ h1, rest⟩
 | .ptr β off, c, hb, h => by
  simp only [ARel, AVal.ren] at h ⊢
  obtain ⟨b, o, h1, h2⟩ := h
  exact ⟨b, o, hm β (Nat.le_of_ble_eq_true hb) _ h1, h2⟩
 | .func f cs, c, hb, h => by
  simp only [ARel, AVal.ren] at h ⊢
  obtain ⟨ds, h1, h2⟩ := h
  exact ⟨ds, h1, ARels.ren hm cs ds hb h2⟩
 | .agg cs, c, hb, h => by
  simp only [ARel, AVal.ren] at h ⊢
  obtain ⟨ds, h1, h2⟩ := h
  exact ⟨ds, h1, ARels.ren hm cs ds hb h2⟩
 | .tuple cs, c, hb, h => by
  simp only [ARel, AVal.ren] at h ⊢
  obtain ⟨ds, h1, h2⟩ := h
  exact ⟨ds, h1, ARels.ren hm cs ds hb h2⟩
 | .r v, c, _, h => by simpa only [ARel, AVal.ren] using h
 | .rp xs o, c, _, h => by simpa only [ARel, AVal.ren] using h
 | .bp s o, c, _, h => by simpa only [ARel, AVal.ren] using h
 | .yld _, c, _, h => by simpa only [ARel, AVal.ren] using h
 | .any, c, _, h => by simp only [ARel, AVal.ren]
theorem ARels.ren {R : Nat → Prop} {μ μ2 : Mu} {w : World} {ρ : Nat → Nat} {m : Nat} (hm : ∀ β, β < m → ∀ p, μ[β]? = some p → μ2[ρ β]? = some p) : ∀ (v : List AVal) (c : List Value), AVal.nbs m v = true → ARels R μ w v c → ARels R μ2 w (AVal.rens ρ v) c
 | [], c, _, h => by simpa only [ARels, AVal.rens] using h
 | x :: xs, c, hb, h => by
  simp only [ARels, AVal.rens] at h ⊢
  simp only [AVal.nbs, Bool.and_eq_true] at hb
  obtain ⟨a, r, h1, h2, h3⟩ := h
  exact ⟨a, r, h1, ARel.ren hm x a hb.1 h2, ARels.ren hm xs r hb.2 h3⟩
end
mutual
theorem ARel.unren {R : Nat → Prop} {μ μ2 : Mu} {w : World} {ρ : Nat → Nat} {m : Nat} (hm : ∀ β, β < m → μ[β]? = μ2[ρ β]?) : ∀ (v : AVal) (c : Value), AVal.nb m v = true → ARel R μ2 w (AVal.ren ρ v) c → ARel R μ w v c
 | .sl β off n z, c, hb, h => by
  simp only [ARel, AVal.ren] at h ⊢
  obtain ⟨b, o, cap, cells, e, fz, h1, rest⟩ := h
  exact ⟨b, o, cap, cells, e, fz, (hm β (Nat.le_of_ble_eq_true hb)).trans h1, rest⟩
 | .ptr β off, c, hb, h => by
  simp only [ARel, AVal.ren] at h ⊢
  obtain ⟨b, o, h1, h2⟩ := h
  exact ⟨b, o, (hm β (Nat.le_of_ble_eq_true hb)).trans h1, h2⟩
 | .func f cs, c, hb, h => by
  simp only [ARel, AVal.ren] at h ⊢
  obtain ⟨ds, h1, h2⟩ := h
  exact ⟨ds, h1, ARels.unren hm cs ds hb h2⟩
 | .agg cs, c, hb, h => by
  simp only [ARel, AVal.ren] at h ⊢
  obtain ⟨ds, h1, h2⟩ := h
  exact ⟨ds, h1, ARels.unren hm cs ds hb h2⟩
 | .tuple cs, c, hb, h => by
  simp only [ARel, AVal.ren] at h ⊢
  obtain ⟨ds, h1, h2⟩ := h
  exact ⟨ds, h1, ARels.unren hm cs ds hb h2⟩
 | .r v, c, _, h => by simpa only [ARel, AVal.ren] using h
 | .rp xs o, c, _, h => by simpa only [ARel, AVal.ren] using h
 | .bp s o, c, _, h => by simpa only [ARel, AVal.ren] using h
 | .yld _, c, _, h => by simpa only [ARel, AVal.ren] using h
 | .any, c, _, h => by simp only [ARel]
theorem ARels.unren {R : Nat → Prop} {μ μ2 : Mu} {w : World} {ρ : Nat → Nat} {m : Nat} (hm : ∀ β, β < m → μ[β]? = μ2[ρ β]?) : ∀ (v : List AVal) (c : List Value), AVal.nbs m v = true → ARels R μ2 w (AVal.rens ρ v) c → ARels R μ w v c
 | [], c, _, h => by simpa only [ARels, AVal.rens] using h
 | x :: xs, c, hb, h => by
  simp only [ARels, AVal.rens] at h ⊢
  simp only [AVal.nbs, Bool.and_eq_true] at hb
  obtain ⟨a, r, h1, h2, h3⟩ := h
  exact ⟨a, r, h1, ARel.unren hm x a hb.1 h2, ARels.unren hm xs r hb.2 h3⟩
end
theorem BodyRel.ren {R : Nat → Prop} {μ μ2 : Mu} {w : World} {ρ : Nat → Nat} {m : Nat} (hm : ∀ β, β < m → ∀ p, μ[β]? = some p → μ2[ρ β]? = some p) {bd : Body} {vs : List Value} (hb : bd.nb m = true) (h : BodyRel R μ w bd vs) :
  BodyRel R μ2 w (bd.ren ρ) vs := by
 cases bd with
 | mixed cs => exact ARels.ren hm cs vs hb h
 | plain xs => exact h
 | bytes s => exact h
theorem BodyRel.unren {R : Nat → Prop} {μ μ2 : Mu} {w : World} {ρ : Nat → Nat} {m : Nat} (hm : ∀ β, β < m → μ[β]? = μ2[ρ β]?) {bd : Body} {vs : List Value} (hb : bd.nb m = true) (h : BodyRel R μ2 w (bd.ren ρ) vs) :
  BodyRel R μ w bd vs := by
 cases bd with
 | mixed cs => exact ARels.unren hm cs vs hb h
 | plain xs => exact h
 | bytes s => exact h
def Hp.kills (h : Hp) (l : List Nat) : Hp := { h with tab := l.map (fun β => (β, none)) ++ h.tab }
theorem get_kills {h : Hp} : ∀ {l : List Nat} {β : Nat} {blk : ABlk}, (h.kills l).get β = some blk → β ∉ l ∧ h.get β = some blk
 | [], β, blk, hg => by simpa [Hp.kills, Hp.get] using hg
 | x :: l, β, blk, hg => by
  simp only [Hp.kills, Hp.get, List.map_cons, List.cons_append, look_kill] at hg
  split at hg
  ·simp at hg
  ·rename_i hne
   obtain ⟨h1, h2⟩ := get_kills (h := h) (l := l) (β := β) (blk := blk) hg
   exact ⟨by simp [Ne.symm hne, h1], h2⟩
section
variable {X : Ctx} {R : Nat → Prop} {μ μc : Mu} {h hp : Hp} {w : World} {ι : List Nat}
structure Handed (h : Hp) (hp : Hp) (ι : List Nat) : Prop where
 len : ι.length = hp.nxt
 lt : ∀ γ ∈ ι, γ < h.nxt
 nodup : ι.Nodup
 blk : ∀ i blk, hp.get i = some blk → i < hp.nxt ∧ blk.nb hp.nxt = true ∧ h.get (ι.getD i 0) = some (blk.ren fun j => ι.getD j 0)
def muOf (μ : Mu) (ι : List Nat) : Mu := ι.map fun γ => μ.getD γ (0, 0)
theorem muOf_get (hl : μ.length = h.nxt) (hh : Handed h hp ι) {i : Nat} (hi : i < hp.nxt) : (muOf μ ι)[i]? = μ[ι.getD i 0]? := by
 have hi' : i < ι.length := by rw [hh.len]; exact hi
 have h1 : ι[i] < μ.length := by rw [hl]; exact hh.lt _ (List.getElem_mem hi')
 simp [muOf, List.getD, hi', h1]
theorem handed_rel (H : HRel X R μ h w) (hh : Handed h hp ι) : HRel (callCtx w hp R (muOf μ ι)) R (muOf μ ι) hp w where
 inv := trivial
 rc := H.rc
 os := rfl
 tape := rfl
 output := rfl
 size := Nat.le_refl _
 keep _ _ _ := rfl
 shape _ c _ f hk := ⟨c, f, hk, rfl⟩
 r0 _ hk := hk
 rO _ hk := .inl hk
 rlt := H.rlt
 mu _ _ hp := hp
 len := by simp [muOf, hh.len]
 live := by
  intro i blk hg
  obtain ⟨h1, h2, h3⟩ := hh.blk i blk hg
  obtain ⟨b, o, h4, h5, h6, h7⟩ := H.live _ _ h3
  have h8 : (muOf μ ι)[i]? = some (b, o) := (muOf_get H.len hh h1).trans h4
  obtain ⟨cells, el, fz, vs, h9, h10, h11, h12, h13⟩ := h7.ex
  exact ⟨b, o, h8, h5, .inl ⟨i, blk, o, hg, h8⟩, ⟨cells, el, fz, vs, h9, h10, h11.unren (fun β hβ => muOf_get H.len hh hβ) h2, h12, h13⟩⟩
 inj := by
  intro i j k k' b b' o o' g1 g2 m1 m2 e
  obtain ⟨h1, _, h3⟩ := hh.blk i k g1
  obtain ⟨h4, _, h6⟩ := hh.blk j k' g2
  have := H.inj _ _ _ _ b b' o o' h3 h6 ((muOf_get H.len hh h1).symm.trans m1) ((muOf_get H.len hh h4).symm.trans m2) e
  have hi : i < ι.length := by rw [hh.len]; exact h1
  have hj : j < ι.length := by rw [hh.len]; exact h4
  simp only [List.getD, List.getElem?_eq_getElem hi, List.getElem?_eq_getElem hj, Option.getD_some] at this
  exact (List.getElem?_inj hi hh.nodup).1 (by rw [List.getElem?_eq_getElem hi, List.getElem?_eq_getElem hj, this])
theorem after_call (H : HRel X R μ h w) (hh : Handed h hp ι) {R' : Nat → Prop} {μ' : Mu} {h' : Hp} {w' : World} (H' : HRel (callCtx w hp R (muOf μ ι)) R' μ' h' w') :
  Onward R w w' ∧ (∀ k, R k → R' k) ∧ HRel X R' μ (h.kills ι) w' ∧
  (∀ β blk, h'.get β = some blk → ∃ b o, μ'[β]? = some (b, o) ∧ ¬ R' b ∧ X.own b ∧ BlkRel R' μ' w' b o blk ∧ HRel.Free (h.kills ι) μ b) := by
 have hO : ∀ b, Owned hp (muOf μ ι) b → ∃ γ blk o, γ ∈ ι ∧ h.get γ = some blk ∧ μ[γ]? = some (b, o) := by
  rintro b ⟨i, blk, o, g1, m1⟩
  obtain ⟨h1, _, h3⟩ := hh.blk i blk g1
  have hi : i < ι.length := by rw [hh.len]; exact h1
  exact ⟨ι.getD i 0, _, o, by simp [List.getD, hi], h3, (muOf_get H.len hh h1).symm.trans m1⟩
 have hOR : ∀ b, Owned hp (muOf μ ι) b → ¬ R b ∧ X.own b ∧ b < w.heap.size := by
  intro b hb
  obtain ⟨γ, blk, o, _, g1, m1⟩ := hO b hb
  obtain ⟨b', o', h1, h2, h3, h4⟩ := H.live γ blk g1
  rw [m1] at h1; cases h1
  obtain ⟨cells, el, fz, vs, h5, _⟩ := h4.ex
  obtain ⟨hl, _⟩ := Array.getElem?_eq_some_iff.1 h5
  exact ⟨h2, h3, hl⟩
 have hfree : ∀ b, (Owned hp (muOf μ ι) b ∨ w.heap.size ≤ b) → HRel.Free (h.kills ι) μ b := by
  intro b hb γ blk o g1 m1
  obtain ⟨hn, g2⟩ := get_kills g1
  rcases hb with hb | hb
  ·obtain ⟨γ', blk', o', hm, g3, m3⟩ := hO b hb
   have := H.inj γ γ' blk blk' b b o o' g2 g3 m1 m3 rfl
   subst this
   exact hn hm
  ·exact H.free_new hb γ blk o g2 m1
 have hon : Onward R w w' := ⟨fun k hk => H'.keep k (H.rlt k hk) (fun ho => (hOR k ho).1 hk), H'.shape⟩
 refine ⟨hon, H'.r0, ?_, ?_⟩
 ·exact {
   os := H'.os.trans H.os
   tape := H'.tape.trans H.tape
   output := H'.output.trans H.output
   size := Nat.le_trans H.size H'.size
   keep := fun k hk ho => by
    rw [H'.keep k (Nat.lt_of_lt_of_le hk H.size) (fun hw => by rcases (hOR k hw).2.1 with h1 | h1; exact ho h1; omega)]
    exact H.keep k hk ho
   shape := fun k c e f hk => by
    obtain ⟨c1, f1, h1, h2⟩ := H.shape k c e f hk
    obtain ⟨c2, f2, h3, h4⟩ := H'.shape k c1 e f1 h1
    exact ⟨c2, f2, h3, h4.trans h2⟩
   r0 := fun k hk => H'.r0 k (H.r0 k hk)
   rO := fun k hk => by
    rcases H'.rO k hk with h1 | h1 | h1
    ·exact H.rO k h1
    ·rcases (hOR k h1).2.1 with h2 | h2
     ·exact .inr (.inl h2)
     ·exact .inr (.inr h2)
    ·exact .inr (.inr (Nat.le_trans H.size h1))
   rlt := H'.rlt
   rc := H'.rc
   inv := X.mono _ _ _ _ _ H.inv H'.r0 hon (fun k o hk hn => by
    obtain ⟨hl, _⟩ := Array.getElem?_eq_some_iff.1 hk
    refine (H'.keep k hl (fun ho => ?_)).trans hk
    obtain ⟨γ, blk, o2, _, g1, m1⟩ := hO k ho
    obtain ⟨b', o', h1, _, _, h4⟩ := H.live γ blk g1
    rw [m1] at h1; cases h1
    obtain ⟨cells, el, fz, vs, h5, _⟩ := h4.ex
    rw [h5] at hk; cases hk; exact hn _ _ _ rfl)
   mu := H.mu
   len := H.len
   live := fun β blk hg => by
    obtain ⟨hn, g2⟩ := get_kills hg
    obtain ⟨b, o, h1, h2, h3, h4⟩ := H.live β blk g2
    obtain ⟨cells, el, fz, vs, h5, _⟩ := h4.ex
    obtain ⟨hl, _⟩ := Array.getElem?_eq_some_iff.1 h5
    have hno : ¬ Owned hp (muOf μ ι) b := fun ho => hfree b (.inl ho) β blk o hg h1
    refine ⟨b, o, h1, ?_, h3, h4.mono H'.r0 hon (fun _ _ h => h) (H'.keep b hl hno)⟩
    intro hR
    rcases H'.rO b hR with h6 | h6 | h6
    ·exact h2 h6
    ·exact hno h6
    ·exact absurd hl (Nat.not_lt.2 h6)
   inj := fun β β' k k' b b' o o' g1 g2 => H.inj β β' k k' b b' o o' (get_kills g1).2 (get_kills g2).2 }
 ·intro β blk hg
  obtain ⟨b, o, h1, h2, h3, h4⟩ := H'.live β blk hg
  refine ⟨b, o, h1, h2, ?_, h4, hfree b h3⟩
  rcases h3 with h3 | h3
  ·exact (hOR b h3).2.1
  ·exact .inr (Nat.le_trans H.size h3)
end
section
variable {P : Program} {T : TTab} {f N : Nat} {m : Md} {ops : Array Oper} {o : Oper} {rest : List Oper} {k : List Item} {g : Regs} {h : Hp} {Post : AVal → Hp → Prop}
def callA (g : Regs) (o : Oper) : Option (FuncId × List AVal) :=
 match o.op with
 | .call c =>
  match c.callee with
  | .value x =>
   match evA g x with
   | .func n caps => some (n, c.args.toList.map (evA g) ++ caps)
   | _ => none
  | _ => none
 | _ => none
theorem callA_run {R : Nat → Prop} {μ : Mu} {w : World} {a : Act} (hr : RegRel R μ w g a.tmps) {n : FuncId} {as : List AVal} (hc : callA g o = some (n, as)) (hn : Callable P n) :
  ∃ cs, (execOp a.eval o).run P w = .ok (.enter n ⟨cs⟩) w ∧ ARels R μ w as cs := by
 unfold callA at hc
 split at hc
 case h_2 => simp at hc
 rename_i c hop
 split at hc
 case h_2 => simp at hc
 rename_i x hcal
 split at hc
 case h_2 => simp at hc
 rename_i n' caps hx
 simp only [Option.some.injEq] at hc
 obtain ⟨rfl, rfl⟩ := Prod.mk.inj hc
 have hxr := evA_rel (a := a) hr x
 rw [hx] at hxr
 simp only [ARel] at hxr
 obtain ⟨cc, h1, h2⟩ := hxr
 obtain ⟨fn, hf, hnm, hb⟩ := hn.ex
 refine ⟨(c.args.map a.eval).toList ++ cc, ?_, ?_⟩
 ·simp only [execOp, hop, resolve, hcal, h1, Deferred.ofValue, Sem.run_bind, Sem.run_pure, Result.andThen_ok, invoke, callFunc]
  have hpr : (program).run P w = .ok P w := rfl
  rw [hpr]
  simp only [Result.andThen_ok, hf, hnm, hb, Bool.false_eq_true, if_false, Sem.run_pure]
  congr 2
  simp
 ·rw [Array.toList_map]
  exact (ARels.map (fun x => evA_rel (a := a) hr x) _).append h2
theorem semAt_of_enter {ro : Option Nat} {ρ : Operand → Value} {w w' : World} {n : FuncId} {cs : Array Value} (h : (execOp ρ o).run P w = .ok (.enter n cs) w') : o.semAt ro ρ = execOp ρ o := by
 refine Oper.semAt_eq ro ρ o fun c hc => ?_
 simp only [execOp, hc, Sem.run_bind, Sem.run_pure] at h
 cases hr : (resolve ρ c o.type).run P w with
 | ok d w2 => rw [hr] at h; simp at h
 | halt x w2 => rw [hr] at h; simp at h
theorem ar_callG {t : Bool} {n : FuncId} {as : List AVal} {hp : Hp} {ι : List Nat} {Q : AVal → Hp → Prop} (hs : Spec P n as hp Q) (hca : callA g o = some (n, AVal.rens (fun j => ι.getD j 0) as)) (hb : AVal.nbs hp.nxt as = true)
  (hh : Handed h hp ι) (hg : guardB ops g o = some t) (ht : t = true)
  (hk : ∀ av h', Q av h' → ∀ (X : Ctx) (R : Nat → Prop) (μ : Mu) (w : World) (μ' : Mu) (v : Value) (a : Act), a.tmps.size = N → RegRel R μ w g a.tmps → HRel X R μ (h.kills ι) w →
   ARel R μ' w av v → (∀ i, i < hp.nxt → ∀ p, μ[ι.getD i 0]? = some p → μ'[i]? = some p) → h.nxt = μ.length →
   (∀ β blk, h'.get β = some blk → ∃ b o, μ'[β]? = some (b, o) ∧ ¬ R b ∧ X.own b ∧ BlkRel R μ' w b o blk ∧ HRel.Free (h.kills ι) μ b) →
   (∀ β β' blk blk' b b' o o', h'.get β = some blk → h'.get β' = some blk' → μ'[β]? = some (b, o) → μ'[β']? = some (b', o') → b = b' → β = β') →
   ∃ μ2 g2 h2, RegRel R μ2 w g2 (a.put o.dst v).tmps ∧ HRel X R μ2 h2 w ∧ AReg P f N m ops rest k g2 h2 Post) :
  AReg P f N m ops (o :: rest) k g h Post := by
 subst ht
 intro idx hi X R μ a w b cs e1 e2 e3 e4 e5 e6 e7
 cases idx with
 | nil => simp at hi
 | cons i idx =>
  simp only [List.map_cons, List.cons.injEq] at hi
  obtain ⟨ho, hi⟩ := hi
  have hw := guardB_wanted hg e6
  obtain ⟨cargs, h1, h2⟩ := callA_run e6 hca hs.can
  have hH := handed_rel e7 hh
  have ha := ARels.unren (μ := muOf μ ι) (fun β hβ => muOf_get e7.len hh hβ) as cargs hb h2
  obtain ⟨e, w', fr, ⟨v, rfl, R', μ', av, h', h3, h4, h5⟩, hcomes, hfn, hleave⟩ := hs.run R (muOf μ ι) w cargs hH ha (b.atR a (.inRegion ops (i :: idx) :: k) :: cs)
  obtain ⟨hon, hRR, hK, hlive⟩ := after_call e7 hh h4
  obtain ⟨μ2, g2, h2', h6, h7, h8⟩ := hk av h' h5 X R' μ w' μ' v a e5 (e6.mono hRR hon (fun _ _ h => h)) hK h3 (fun i hi p hp => by
   have := (muOf_get e7.len hh hi).trans hp
   exact h4.mu i p this) e7.len.symm hlive h4.inj
  obtain ⟨u, w2, fr2, h9, rest'⟩ := h8 idx hi X R' μ2 (a.put o.dst v) w' b cs e1 e2 e3 (by rw [put_defers]; exact e4) (by rw [put_size]; exact e5) h6 h7
  have hst := stepGR_op (P := P) (b := b) (k := k) (cs := cs) (w := w) (rest := idx) ho hw
  have hfin : (b.atR a (.inRegion ops (i :: idx) :: k)).finish v = b.atR (a.put o.dst v) (.inRegion ops idx :: k) := by
   rw [Frame.finish_atR, ho]; rfl
  have henter : step P (lone (b.atR a (.inRegion ops (i :: idx) :: k)) cs w) = .next (lone (Frame.enter P n ⟨cargs⟩ .normal) (b.atR a (.inRegion ops (i :: idx) :: k) :: cs) w) :=
   step_lone_go (by rw [hst, semAt_of_enter h1]; simp [stepG.apply, h1, Frame.atR])
  refine ⟨u, w2, fr2, Steps.head henter (Steps.trans hcomes (Steps.head ?_ h9)), rest'⟩
  rw [← hfin]
  exact step_leave_returned hleave
theorem handed_none : Handed h ⟨0, [], false⟩ [] := ⟨rfl, by simp, by simp, fun i blk hg => by simp [Hp.get, Hp.look] at hg⟩
theorem kills_nil : h.kills [] = h := rfl
mutual
theorem ren_below0 {ρ : Nat → Nat} : ∀ (v : AVal), AVal.nb 0 v = true → AVal.ren ρ v = v
 | .sl _ _ _ _, h => by simp [AVal.nb, Nat.blt, Nat.ble] at h
 | .ptr _ _, h => by simp [AVal.nb, Nat.blt, Nat.ble] at h
 | .func f cs, h => by simp only [AVal.ren]; rw [rens_below0 cs h]
 | .agg cs, h => by simp only [AVal.ren]; rw [rens_below0 cs h]
 | .tuple cs, h => by simp only [AVal.ren]; rw [rens_below0 cs h]
 | .r _, _ => rfl
 | .rp _ _, _ => rfl
 | .bp _ _, _ => rfl
 | .yld _, _ => rfl
 | .any, _ => rfl
theorem rens_below0 {ρ : Nat → Nat} : ∀ (v : List AVal), AVal.nbs 0 v = true → AVal.rens ρ v = v
 | [], _ => rfl
 | x :: xs, h => by
  simp only [AVal.nbs, Bool.and_eq_true] at h
  simp only [AVal.rens]; rw [ren_below0 x h.1, rens_below0 xs h.2]
end
def Pur (P : Program) (f : FuncId) (args : List AVal) (r : AVal) : Prop := Spec P f args ⟨0, [], false⟩ fun v _ => v = r
theorem ar_pur {t : Bool} {n : FuncId} {as : List AVal} {r : AVal} {d : Nat} (hs : Pur P n as r) (hca : callA g o = some (n, as)) (hd : o.dst = some d) (hN : Nat.blt d N = true) (hb : AVal.nbs 0 as = true) (hr : AVal.nb 0 r = true)
  (hg : guardB ops g o = some t) (ht : t = true) (hk : AReg P f N m ops rest k ((d, r) :: g) h Post) : AReg P f N m ops (o :: rest) k g h Post := by
 refine ar_callG (ι := []) hs (by rw [rens_below0 _ hb]; exact hca) hb handed_none hg ht ?_
 intro av h' hq X R μ w μ' v a e5 e6 e7 h1 _ _ _ _
 subst hq
 refine ⟨μ, (d, av) :: g, h, ?_, e7, hk⟩
 rw [hd]
 refine e6.put (by rw [e5]; exact Nat.le_of_ble_eq_true hN) ?_
 have := ARel.ren (μ2 := μ) (ρ := id) (m := 0) (fun β hβ => absurd hβ (Nat.not_lt_zero _)) av v hr h1
 rwa [ren_below0 av hr] at this
def Own (P : Program) (f : FuncId) (args : List AVal) (n z : Nat) (bd : Body) : Prop :=
 Spec P f args ⟨0, [], false⟩ fun v h => ∃ β, v = .sl β 0 n z ∧ h.get β = some bd
theorem ar_own {t : Bool} {n : FuncId} {as : List AVal} {l z : Nat} {bd : Body} {d : Nat} (hs : Own P n as l z bd) (hca : callA g o = some (n, as)) (hd : o.dst = some d) (hN : Nat.blt d N = true) (hb : AVal.nbs 0 as = true)
  (hbd : bd.nb 0 = true) (hg : guardB ops g o = some t) (ht : t = true) (hk : AReg P f N m ops rest k ((d, .sl h.nxt 0 l z) :: g) (h.push bd) Post) : AReg P f N m ops (o :: rest) k g h Post := by
 refine ar_callG (ι := []) hs (by rw [rens_below0 _ hb]; exact hca) hb handed_none hg ht ?_
 rintro av h' ⟨β, rfl, hg'⟩ X R μ w μ' v a e5 e6 e7 h1 _ hlen hlive _
 obtain ⟨b, o', h2, h3, h4, h5, h6⟩ := hlive β _ hg'
 rw [kills_nil] at e7 h6
 have hbr : BlkRel R (μ ++ [(b, o')]) w b o' bd := by
  obtain ⟨cells, el, fz, vs, h7, h8, h9, h10, h11⟩ := h5.ex
  refine ⟨cells, el, fz, vs, h7, h8, ?_, h10, h11⟩
  have := BodyRel.ren (μ2 := μ ++ [(b, o')]) (ρ := id) (m := 0) (fun β hβ => absurd hβ (Nat.not_lt_zero _)) hbd h9
  cases bd with
  | mixed cs => simp only [Body.ren] at this; rw [rens_below0 cs hbd] at this; exact this
  | plain xs => exact this
  | bytes s => exact this
 have H2 := e7.add h3 h4 hbr h6
 refine ⟨μ ++ [(b, o')], (d, .sl h.nxt 0 l z) :: g, h.push bd, ?_, H2, hk⟩
 rw [hd]
 refine (e6.mono (fun _ h => h) (Onward.refl R w) mu_app).put (by rw [e5]; exact Nat.le_of_ble_eq_true hN) ?_
 simp only [ARel] at h1 ⊢
 obtain ⟨b2, o2, cap, cells, el, fz, h7, rest2⟩ := h1
 rw [h2] at h7
 cases h7
 exact ⟨b, o', cap, cells, el, fz, by rw [hlen]; simp, rest2⟩
end
end Go.Proofs.YtccdhgmkjakjkaaGreat
namespace Go.Proofs.YtccdhgmkjakjkaaGreat
open Go
section
variable {P : Program} {T : TTab} {w : World}
theorem run_firstCells_of {size n : Nat} {x : Value} {ws : List Value}
  (hx : (∃ ad m c, x = .slice (some ad) m c ∧ ws.length = n * size ∧ ∀ (j : Nat) v, ws[j]? = some v → w.cell? (ad.add j) = some v) ∨ (∃ m c, x = .slice none m c ∧ ws = []) ∨ (∃ s : List UInt8, x = .string ⟨⟨s⟩⟩ ∧ ws = bytesV s ∧ n = s.length)) :
  (Builtin.firstCells size n x).run P w = .ok ⟨ws⟩ w := by
 rcases hx with ⟨ad, m, c, rfl, hl, hc⟩ | ⟨m, c, rfl, rfl⟩ | ⟨s, rfl, rfl, rfl⟩
 ·simp only [Builtin.firstCells, ← hl]
  exact run_loadCells_list w ad ws hc
 ·simp [Builtin.firstCells]
 ·simp only [Builtin.firstCells, Sem.run_pure]
  congr 1
  apply Array.ext'
  rw [Array.toList_map, show ((⟨⟨s⟩⟩ : ByteArray).extract 0 s.length).data.toList = s from by rw [Lib.extract_data]; simp]
  rfl
def Src (w : World) (size : Nat) (x : Value) (k : Nat) (ws : List Value) : Prop :=
 (∃ ad c, x = .slice (some ad) k c ∧ ws.length = k * size ∧ ∀ (j : Nat) v, ws[j]? = some v → w.cell? (ad.add j) = some v) ∨ (∃ c, x = .slice none k c ∧ ws = [] ∧ k * size = 0) ∨ (∃ s : List UInt8, x = .string ⟨⟨s⟩⟩ ∧ ws = bytesV s ∧ k = s.length ∧ size = 1)
theorem Src.first {size k : Nat} {x : Value} {ws : List Value} (h : Src w size x k ws) : (Builtin.firstCells size k x).run P w = .ok ⟨ws⟩ w := by
 refine run_firstCells_of ?_
 rcases h with ⟨ad, c, h1, h2, h3⟩ | ⟨c, h1, h2, _⟩ | ⟨s, h1, h2, h3, _⟩
 ·exact .inl ⟨ad, k, c, h1, h2, h3⟩
 ·exact .inr (.inl ⟨k, c, h1, h2⟩)
 ·exact .inr (.inr ⟨s, h1, h2, h3⟩)
theorem Src.len {size k : Nat} {x : Value} {ws : List Value} (h : Src w size x k ws) : ws.length = k * size ∧ (Builtin.lenOf x).run P w = .ok k w := by
 rcases h with ⟨ad, c, rfl, h2, h3⟩ | ⟨c, rfl, rfl, h0⟩ | ⟨s, rfl, rfl, rfl, rfl⟩
 ·exact ⟨h2, by simp [Builtin.lenOf]⟩
 ·exact ⟨by simp [h0], by simp [Builtin.lenOf]⟩
 ·exact ⟨by simp [bytesV], by simp [Builtin.lenOf, size_mk]⟩
def World.drawnOnce (w : World) : World := { w with drawn := w.drawn + 1 }
theorem Src.drawn {size k : Nat} {x : Value} {ws : List Value} (h : Src w size x k ws) : Src (World.drawnOnce w) size x k ws := h
theorem run_append (hTO : TOk P T) {t t2 e ty : TypeId} {tyt tye tyt2 : Ty} (hT : T.look t = some tyt) (hk : tyt.k = .slice e) (hE : T.look e = some tye) (hT2 : T.look t2 = some tyt2) (hk2 : (∃ e2, tyt2.k = .slice e2) ∨ tyt2.k = .str) (hz : tye.zero ≠ []) (hzl : tye.zero.length = tye.size)
  {base : Option Addr} {n cap k : Nat} {x : Value} {old ws : List Value} (hs : Src w tye.size x k ws) (hone : ∀ v ∈ ws, v.oneCell' = true)
  (hbase : (n = 0 ∧ cap = 0 ∧ old = []) ∨ ∃ b o cells el fz, base = some ⟨b, o, none⟩ ∧ w.heap[b]? = some (Obj.cells cells el fz) ∧ (∀ i, fz.1 ≤ i → i < fz.2 → cells.size ≤ i) ∧ o + cap * tye.size ≤ cells.size ∧
   old.length = n * tye.size ∧ (∀ (j : Nat) v, old[j]? = some v → cells[o + j]? = some v))
  (hnc : n ≤ cap) (hcap : cap ≤ maxLen) (hb : (n + k) * tye.bytes ≤ 140737488355328) (hm : n + k ≤ maxLen) :
  (∃ w', (Builtin.append_ ⟨[t, t2]⟩ ty ⟨[.slice base n cap, x]⟩).run P w = .ok (.slice base (n + k) cap) w' ∧ n + k ≤ cap ∧ ((n + k = 0 ∧ w' = w) ∨ ∃ b o, base = some ⟨b, o, none⟩ ∧ w' = w.setCells b (o + n * tye.size) ws)) ∨
  (∃ cap' rest, (Builtin.append_ ⟨[t, t2]⟩ ty ⟨[.slice base n cap, x]⟩).run P w = .ok (.slice (some ⟨w.heap.size, 0, none⟩) (n + k) cap') ((World.drawnOnce w).alloc (.cells ⟨old ++ ws ++ rest⟩ e)) ∧ n + k ≤ cap' ∧ cap' ≤ maxLen ∧ (old ++ ws ++ rest).length = cap' * tye.size ∧ cap < n + k) := by
 obtain ⟨D, hD, hDk⟩ := tyk_ok hTO hT
 rw [hk] at hDk
 simp only [TyK.ok] at hDk
 subst hDk
 have hD2' : (∃ e2, P.underlying t2 = some (.slice e2)) ∨ P.underlying t2 = some .string := by
  obtain ⟨D2, hD2, hDk2⟩ := tyk_ok hTO hT2
  rcases hk2 with ⟨e2, h2⟩ | h2 <;> rw [h2] at hDk2 <;> simp only [TyK.ok] at hDk2 <;> subst hDk2
  ·exact .inl ⟨e2, hD2⟩
  ·exact .inr hD2
 obtain ⟨_, i, _, hi, hsz, hby, _, _, _⟩ := (hTO e tye hE).ex
 obtain ⟨hwl, hlen⟩ := hs.len (P := P)
 have hfirst := hs.first (P := P)
 have hold : old.length = n * tye.size := by
  rcases hbase with ⟨rfl, _, rfl⟩ | ⟨_, _, _, _, _, _, _, _, _, h, _⟩
  ·simp
  ·exact h
 have hoc : (Builtin.firstCells tye.size n (.slice base n cap)).run P (World.drawnOnce w) = .ok ⟨old⟩ (World.drawnOnce w) := by
  refine run_firstCells_of ?_
  rcases hbase with ⟨rfl, _, rfl⟩ | ⟨b, o, cells, el, fz, rfl, h1, h2, h3, h4, h5⟩
  ·cases base with
   | none => exact .inr (.inl ⟨_, _, rfl, rfl⟩)
   | some ad => exact .inl ⟨ad, _, _, rfl, by simp, by simp⟩
  ·refine .inl ⟨_, _, _, rfl, h4, fun j v hj => ?_⟩
   rw [add_off]
   show w.cell? _ = _
   simp [World.cell?, h1, h5 j v hj]
 rcases hD2' with ⟨e2, hD2⟩ | hD2
 all_goals
  by_cases hroom : n + k ≤ cap
  ·left
   rcases hbase with ⟨rfl, rfl, rfl⟩ | ⟨b, o, cells, el, fz, rfl, h1, h2, h3, h4, h5⟩
   ·obtain rfl : k = 0 := by omega
    have hw0 : ws = [] := List.length_eq_zero_iff.1 (by rw [hwl]; simp)
    subst hw0
    refine ⟨w, ?_, hroom, .inl ⟨rfl, rfl⟩⟩
    cases base <;> simp only [Builtin.append_, List.getElem?_toArray, List.getElem?_cons_zero, List.getElem?_cons_succ, Sem.run_bind, run_underlying hD, size_ok hTO hE, run_underlying hD2, Result.andThen_ok, Sem.run_pure]
    simp only [Result.andThen_ok, Bool.false_eq_true, if_false, hlen, Bool.not_false, if_true, Sem.run_ite, hroom, Sem.run_bind, hfirst]
    all_goals simp [storeCells, hlen, hfirst]
   ·have hst := run_storeCells_cells (P := P) b (o + n * tye.size) ws 0 w (fun j hj => by
      have h6 : (n + k) * tye.size ≤ cap * tye.size := Nat.mul_le_mul_right _ hroom
      rw [Nat.add_mul, ← hwl] at h6
      simp only [World.cell?, h1, Nat.add_zero]
      simp
      omega) (fun j hj => by
      have h6 : (n + k) * tye.size ≤ cap * tye.size := Nat.mul_le_mul_right _ hroom
      rw [Nat.add_mul, ← hwl] at h6
      simp only [World.frozen?, h1, Nat.add_zero]
      simp only [Bool.and_eq_false_imp, decide_eq_true_eq, decide_eq_false_iff_not]
      intro h9 h10
      have := h2 _ h9 h10
      omega) hone
    refine ⟨_, ?_, hroom, .inr ⟨b, o, rfl, rfl⟩⟩
    rw [Nat.add_zero] at hst
    simp only [Builtin.append_, List.getElem?_toArray, List.getElem?_cons_zero, List.getElem?_cons_succ, Sem.run_bind, run_underlying hD, size_ok hTO hE, run_underlying hD2, Result.andThen_ok, Sem.run_pure]
    simp only [Result.andThen_ok, Bool.false_eq_true, if_false, hlen, Bool.not_false, if_true, Sem.run_ite, hroom, Sem.run_bind, hfirst, add_off, hst, Sem.run_pure]
  ·right
   have hgrow : cap < n + k := Nat.lt_of_not_le hroom
   have hfit : ¬ (Builtin.nextslicecap (n + k) cap * tye.bytes > 2 ^ 48) := Nat.not_lt.2 (growslice_fits hgrow hb)
   have hbz : ¬ (((n + k : Nat) : Int) > IntKind.i64.max ∧ (False ∨ tye.bytes = 0)) := by
    intro h
    have : IntKind.i64.max = 9223372036854775807 := by decide
    rw [this] at h
    unfold maxLen at hm
    omega
   let q := Question.appendCap (n + k) cap e
   have hq : (choose q).run P w = .ok (q.cut (w.tape w.drawn q)) (World.drawnOnce w) := by
    simp [choose, Sem.run, q, Question.forced, World.drawnOnce]
   obtain ⟨zv, hz1, hz2, hz3⟩ := zero_ok (P := P) (w := World.drawnOnce w) (R := fun _ => False) (μ := []) hTO hE hz
   have hzs : zv.cells.size = tye.size := by rw [← Array.length_toList, hz3]; exact hzl
   have hqr : n + k ≤ q.cut (w.tape w.drawn q) ∧ q.cut (w.tape w.drawn q) ≤ maxLen := by
    simp only [q, Question.cut]
    have hlt := Nat.mod_lt (w.tape w.drawn (.appendCap (n + k) cap e)) (show 0 < 2 ^ 63 - (n + k) by simp only [maxLen] at hm; omega)
    simp only [maxLen] at hm ⊢
    omega
   have hroomA : ∀ b : Nat, (askRoom b).run P (World.drawnOnce w) = .ok () (World.drawnOnce w) := by
    intro b
    unfold askRoom
    split <;> simp [mark, Sem.run]
   have hfirst2 : (Builtin.firstCells tye.size k x).run P (World.drawnOnce w) = .ok ⟨ws⟩ (World.drawnOnce w) := hs.drawn.first
   refine ⟨q.cut (w.tape w.drawn q), (Builtin.zeroCells zv.cells (q.cut (w.tape w.drawn q) - (n + k))).toList, ?_, hqr.1, hqr.2, ?_⟩
   ·simp only [Builtin.append_, List.getElem?_toArray, List.getElem?_cons_zero, List.getElem?_cons_succ, Sem.run_bind, run_underlying hD, size_ok hTO hE, run_underlying hD2, Result.andThen_ok, Sem.run_pure]
    simp only [Result.andThen_ok, Bool.false_eq_true, if_false, hlen, Bool.not_false, if_true, Sem.run_ite, hroom, Sem.run_bind, run_typeInfo w hi, hby]
    rw [if_neg hbz, if_neg hfit]
    rw [show (choose (Question.appendCap (n + k) cap e)).run P w = _ from hq]
    simp only [Result.andThen_ok, run_typeInfo (World.drawnOnce w) hi, hroomA, hoc, hfirst2, hz1]
    simp only [newRow, newObj, Sem.run_bind, Sem.run_pure]
    have e1 : (⟨old⟩ ++ ⟨ws⟩ ++ Builtin.zeroCells zv.cells (q.cut (w.tape w.drawn q) - (n + k)) : Array Value) = ⟨old ++ ws ++ (Builtin.zeroCells zv.cells (q.cut (w.tape w.drawn q) - (n + k))).toList⟩ := by
     apply Array.ext'
     simp
    rw [e1]
    rfl
   ·refine ⟨?_, hgrow⟩
    simp only [List.length_append, hold, hwl, Array.length_toList, size_zeroCells, hzs]
    rw [← Nat.add_mul, ← Nat.add_mul]
    congr 1
    omega
end
end Go.Proofs.YtccdhgmkjakjkaaGreat
namespace Go.Proofs.YtccdhgmkjakjkaaGreat
open Go
def cutA {α : Type} (xs : List α) (off n : Nat) : List α := match off with | 0 => xs.take n | off => (xs.drop off).take n
theorem cutA_eq {α : Type} (xs : List α) (off n : Nat) : cutA xs off n = (xs.drop off).take n := by unfold cutA; split <;> simp
def cutBody (bd : Body) (off n z : Nat) : Option (Body × Prop) :=
 match bd with
 | .bytes s => some (.bytes (cutA s off (n * z)), off + n * z ≤ s.length)
 | .plain xs => some (.plain (cutA xs off (n * z)), off + n * z ≤ xs.length)
 | .mixed cs => bif Nat.ble (off + n * z) cs.length && cs.all oneA then forceL ((cs.drop off).take (n * z)) fun l => some (.mixed l, True) else none
def srcA (z : Nat) (h : Hp) : AVal → Option (Nat × Body × Prop)
 | .r (.bs s) => some (s.length, .bytes s, z = 1)
 | .r (.str s) => some (s.length, .bytes s, z = 1)
 | .r .nil => some (0, .mixed [], True)
 | .r (.ro k ys) => some (k, .plain ys, ys.length = k * z)
 | .sl γ off k z' =>
  match h.get γ with
  | some blk => bif Nat.beq z z' then (cutBody blk off k z).map fun p => (k, p.1, p.2) else none
  | none => none
 | _ => none
def baseA (z : Nat) (h : Hp) : AVal → Option (Nat × Body × Option Nat × Prop)
 | .r .nil => some (0, .mixed [], none, True)
 | .sl β off n z' =>
  match h.get β with
  | some blk => bif Nat.beq z z' then (cutBody blk off n z).map fun p => (n, p.1, some β, p.2) else none
  | none => none
 | _ => none
def allU : List AVal → Option (List UInt8 × Prop)
 | [] => some ([], True)
 | .r (.int .u8 n) :: l => match allU l with | some (r, c) => some (UInt8.ofNat n.toNat :: r, (0 ≤ n ∧ n < 256) ∧ c) | none => none
 | _ :: _ => none
def appB : Body → Body → Option (Body × Prop)
 | .bytes a, .bytes b => some (.bytes (a ++ b), True)
 | .plain a, .plain b => some (.plain (a ++ b), True)
 | .mixed a, .mixed b => forceL (a ++ b) fun l => some (.mixed l, True)
 | .mixed [], b => some (b, True)
 | a, .mixed [] => some (a, True)
 | .plain a, .mixed l => match allR l with | some r => some (.plain (a ++ r), True) | none => none
 | .bytes a, .mixed l => match allU l with | some (r, c) => some (.bytes (a ++ r), c) | none => none
 | _, _ => none
def appN : Body → Body × Prop
 | .mixed (x :: l) =>
  match allU (x :: l) with
  | some (r, c) => (.bytes r, c)
  | none => match allR (x :: l) with | some r => (.plain r, True) | none => (.mixed (x :: l), True)
 | b => (b, True)
def appQ (β : Option Nat) (a b : Body) : Option (Body × Prop) :=
 match β with
 | none => some (appN b)
 | some _ => appB a b
def killO (h : Hp) : Option Nat → Hp
 | none => h
 | some β => h.set β none
def appPos : Option Nat → Nat → Prop
 | none, n => 0 < n
 | some _, _ => True
@[simp] theorem appPos_none (n : Nat) : appPos none n = (0 < n) := rfl
@[simp] theorem appPos_some (β n : Nat) : appPos (some β) n = True := rfl
def stepApp (T : TTab) (N : Nat) (g : Regs) (h : Hp) (o : Oper) : Option (Nat × (Nat × Nat) × Option Nat × ABlk × Prop) :=
 match o.dst, o.op with
 | some d, .call c => bif Nat.blt d N then
  match c.callee, c.args.toList, c.argTypes.toList with
  | .builtin .append, [s, x], [t, t2] =>
   match T.look t, T.look t2 with
   | some { k := .slice e, .. }, some ty2 =>
    match T.look e with
    | some te =>
     match baseA te.size h (evA g s), srcA te.size h (evA g x) with
     | some (n, bd, β, c1), some (k, bd2, c2) =>
      match appQ β bd bd2, ty2.k with
      | some (bd', c3), .slice _ | some (bd', c3), .str =>
       some (d, (n + k, te.size), β, bd', (c1 ∧ c2 ∧ c3) ∧ ((n + k) * te.bytes ≤ 140737488355328 ∧ n + k ≤ 9223372036854775807) ∧ (te.zero ≠ [] ∧ te.zero.length = te.size) ∧ appPos β (n + k))
      | _, _ => none
     | _, _ => none
    | none => none
   | _, _ => none
  | _, _, _ => none
  else none
 | _, _ => none
section
variable {P : Program} {T : TTab} {R : Nat → Prop} {μ : Mu} {w : World}
theorem onward_drawn (R : Nat → Prop) (w : World) : Onward R w (World.drawnOnce w) := ⟨fun _ _ => rfl, fun _ c _ f h => ⟨c, f, h, rfl⟩⟩
theorem one_rrel {v : RVal} {c : Value} (hv : RRel R w v c) : c.oneCell' = true := oneA_cell (μ := []) (v := .r v) rfl (by simpa only [ARel] using hv)
theorem one_rrels : ∀ {xs : List RVal} {cs : List Value}, RRels R w xs cs → ∀ v ∈ cs, v.oneCell' = true
 | [], _, h => by simp only [RRels] at h; subst h; simp
 | x :: xs, _, h => by
  simp only [RRels] at h
  obtain ⟨c, r, rfl, h1, h2⟩ := h
  intro v hv
  cases hv with
  | head => exact one_rrel h1
  | tail _ hm => exact one_rrels h2 v hm
theorem one_arels : ∀ {xs : List AVal} {cs : List Value}, xs.all oneA = true → ARels R μ w xs cs → ∀ v ∈ cs, v.oneCell' = true
 | [], _, _, h => by simp only [ARels] at h; subst h; simp
 | x :: xs, _, ha, h => by
  simp only [ARels] at h
  obtain ⟨c, r, rfl, h1, h2⟩ := h
  simp only [List.all_cons, Bool.and_eq_true] at ha
  intro v hv
  cases hv with
  | head => exact oneA_cell ha.1 h1
  | tail _ hm => exact one_arels ha.2 h2 v hm
theorem one_bytes (s : List UInt8) : ∀ v ∈ bytesV s, v.oneCell' = true := by
 intro v hv
 simp only [bytesV, List.mem_map] at hv
 obtain ⟨b, _, rfl⟩ := hv
 rfl
theorem cutBody_sound {bd bd' : Body} {off n z : Nat} {c : Prop} (h : cutBody bd off n z = some (bd', c)) (hc : c) {vs : List Value} (hb : BodyRel R μ w bd vs) :
  BodyRel R μ w bd' ((vs.drop off).take (n * z)) ∧ off + n * z ≤ vs.length ∧ ∀ v ∈ (vs.drop off).take (n * z), v.oneCell' = true := by
 unfold cutBody at h
 split at h
 ·simp only [Option.some.injEq] at h
  obtain ⟨rfl, rfl⟩ := Prod.mk.inj h
  simp only [BodyRel] at hb ⊢
  subst hb
  refine ⟨by rw [cutA_eq]; simp [bytesV], by simpa [bytesV] using hc, ?_⟩
  intro v hv
  exact one_bytes _ v (List.mem_of_mem_drop (List.mem_of_mem_take hv))
 ·simp only [Option.some.injEq] at h
  obtain ⟨rfl, rfl⟩ := Prod.mk.inj h
  simp only [BodyRel] at hb ⊢
  have h2 := (RRels.drop off hb).take (n * z)
  refine ⟨by rw [cutA_eq]; exact h2, by rw [hb.length]; exact hc, one_rrels h2⟩
 ·rename_i cs
  cases hq : (Nat.ble (off + n * z) cs.length && cs.all oneA) <;> rw [hq] at h <;> simp only [cond_true, cond_false, reduceCtorEq] at h
  rw [forceL_eq] at h
  simp only [Option.some.injEq] at h
  obtain ⟨rfl, rfl⟩ := Prod.mk.inj h
  rw [Bool.and_eq_true] at hq
  simp only [BodyRel] at hb ⊢
  refine ⟨(hb.drop off).take (n * z), by rw [hb.length]; exact Nat.le_of_ble_eq_true hq.1, ?_⟩
  intro v hv
  exact one_arels hq.2 hb v (List.mem_of_mem_drop (List.mem_of_mem_take hv))
theorem u8_of {n : Int} (h : 0 ≤ n ∧ n < 256) : byteV (UInt8.ofNat n.toNat) = .int .u8 n := by
 simp only [byteV]
 congr 1
 have : (UInt8.ofNat n.toNat).toNat = n.toNat := by simp; omega
 rw [this]; omega
theorem allU_sound : ∀ {l : List AVal} {r : List UInt8} {c : Prop}, allU l = some (r, c) → c → ∀ {ws : List Value}, ARels R μ w l ws → ws = bytesV r
 | [], r, c, h, _, ws, hw => by
  simp only [allU, Option.some.injEq, Prod.mk.injEq] at h
  obtain ⟨rfl, _⟩ := h
  simp only [ARels] at hw
  subst hw; rfl
 | x :: l, r, c, h, hc, ws, hw => by
  simp only [ARels] at hw
  obtain ⟨v, ws', rfl, h1, h2⟩ := hw
  unfold allU at h
  split at h
  ·simp at *
  ·rename_i n l' heq
   simp only [List.cons.injEq] at heq
   obtain ⟨rfl, rfl⟩ := heq
   cases hl : allU l with
   | none => rw [hl] at h; simp at h
   | some p =>
    obtain ⟨r', c'⟩ := p
    rw [hl] at h
    simp only [Option.some.injEq, Prod.mk.injEq] at h
    obtain ⟨rfl, rfl⟩ := h
    simp only [ARel, RRel] at h1
    rw [h1, allU_sound hl hc.2 h2]
    simp [bytesV, u8_of hc.1]
  ·simp at h
theorem appB_sound {a b c : Body} {q : Prop} (h : appB a b = some (c, q)) (hc : q) {vs ws : List Value} (ha : BodyRel R μ w a vs) (hb : BodyRel R μ w b ws) : BodyRel R μ w c (vs ++ ws) := by
 unfold appB at h
 split at h
 ·simp only [Option.some.injEq, Prod.mk.injEq] at h; obtain ⟨rfl, rfl⟩ := h
  simp only [BodyRel] at ha hb ⊢
  subst ha; subst hb
  simp [bytesV]
 ·simp only [Option.some.injEq, Prod.mk.injEq] at h; obtain ⟨rfl, rfl⟩ := h
  exact RRels.append ha hb
 ·rw [forceL_eq] at h
  simp only [Option.some.injEq, Prod.mk.injEq] at h; obtain ⟨rfl, rfl⟩ := h
  exact ARels.append ha hb
 ·simp only [Option.some.injEq, Prod.mk.injEq] at h; obtain ⟨rfl, rfl⟩ := h
  simp only [BodyRel, ARels] at ha
  subst ha
  simpa using hb
 ·simp only [Option.some.injEq, Prod.mk.injEq] at h; obtain ⟨rfl, rfl⟩ := h
  simp only [BodyRel, ARels] at hb
  subst hb
  simpa using ha
 ·rename_i l _
  split at h
  ·rename_i r hr
   simp only [Option.some.injEq, Prod.mk.injEq] at h; obtain ⟨rfl, rfl⟩ := h
   simp only [BodyRel] at ha hb ⊢
   rw [allR_eq hr, ARels.of_r] at hb
   exact RRels.append ha hb
  ·simp at h
 ·rename_i l _
  split at h
  ·rename_i r c' hr
   simp only [Option.some.injEq, Prod.mk.injEq] at h; obtain ⟨rfl, rfl⟩ := h
   simp only [BodyRel] at ha hb ⊢
   rw [allU_sound hr hc hb, ha]
   simp [bytesV]
  ·simp at h
 ·simp at h
theorem appN_sound {b : Body} (hc : (appN b).2) {ws : List Value} (hb : BodyRel R μ w b ws) : BodyRel R μ w (appN b).1 ws := by
 unfold appN at hc ⊢
 split
 ·rename_i x l
  simp only at hc
  split at hc
  ·rename_i r c' hr
   simp only [BodyRel] at hb ⊢
   exact allU_sound hr hc hb
  ·rename_i hr
   split
   ·rename_i r hr2
    simp only [BodyRel] at hb ⊢
    rw [allR_eq hr2, ARels.of_r] at hb
    exact hb
   ·exact hb
 ·exact hb
theorem appQ_sound {β : Option Nat} {a b c : Body} {q : Prop} (h : appQ β a b = some (c, q)) (hc : q) {vs ws : List Value} (hn : β = none → vs = []) (ha : BodyRel R μ w a vs) (hb : BodyRel R μ w b ws) : BodyRel R μ w c (vs ++ ws) := by
 unfold appQ at h
 split at h
 ·simp only [Option.some.injEq] at h
  have h1 : (appN b).1 = c := by rw [h]
  have h2 : (appN b).2 = q := by rw [h]
  rw [hn rfl, ← h1]
  exact appN_sound (by rw [h2]; exact hc) hb
 ·exact appB_sound h hc ha hb
theorem srcA_sound {X : Ctx} {h : Hp} (H : HRel X R μ h w) {z k : Nat} {x : AVal} {bd : Body} {c : Prop} (hs : srcA z h x = some (k, bd, c)) (hc : c) {v : Value} (hx : ARel R μ w x v) :
  ∃ ws, Src w z v k ws ∧ BodyRel R μ w bd ws ∧ ∀ u ∈ ws, u.oneCell' = true := by
 unfold srcA at hs
 split at hs
 ·rename_i s
  simp only [Option.some.injEq, Prod.mk.injEq] at hs
  obtain ⟨rfl, rfl, rfl⟩ := hs
  subst hc
  simp only [ARel, RRel] at hx
  obtain ⟨a, cap, rfl, h1, h2⟩ := hx
  refine ⟨bytesV s, ?_, rfl, one_bytes s⟩
  rcases h2 with h2 | ⟨b, o, rfl, _, h3⟩
  ·cases a with
   | none => exact .inr (.inl ⟨cap, rfl, h2, by have := congrArg List.length h2; simpa [bytesV] using this⟩)
   | some ad => exact .inl ⟨ad, cap, rfl, by simp [bytesV], by rw [h2]; simp⟩
  ·exact .inl ⟨_, cap, rfl, by simp [bytesV], fun j v hj => by rw [add_off]; exact h3 j v hj⟩
 ·rename_i s
  simp only [Option.some.injEq, Prod.mk.injEq] at hs
  obtain ⟨rfl, rfl, rfl⟩ := hs
  subst hc
  simp only [ARel, RRel] at hx
  subst hx
  exact ⟨bytesV s, .inr (.inr ⟨s, rfl, rfl, rfl, rfl⟩), rfl, one_bytes s⟩
 ·simp only [Option.some.injEq, Prod.mk.injEq] at hs
  obtain ⟨rfl, rfl, rfl⟩ := hs
  simp only [ARel, RRel] at hx
  obtain ⟨ad, rfl⟩ := hx
  refine ⟨[], ?_, by simp [BodyRel, ARels], by simp⟩
  cases ad with
  | none => exact .inr (.inl ⟨0, rfl, rfl, by simp⟩)
  | some ad => exact .inl ⟨ad, 0, rfl, by simp, by simp⟩
 ·rename_i k' ys
  simp only [Option.some.injEq, Prod.mk.injEq] at hs
  obtain ⟨rfl, rfl, rfl⟩ := hs
  simp only [ARel, RRel] at hx
  obtain ⟨a, cap, cs, rfl, h1, h2, h3⟩ := hx
  refine ⟨cs, ?_, h3, one_rrels h3⟩
  have hl := h3.length
  rcases h2 with h2 | ⟨b, o, rfl, _, h4⟩
  ·cases a with
   | none => exact .inr (.inl ⟨cap, rfl, h2, by rw [← hc, ← hl, h2]; rfl⟩)
   | some ad => exact .inl ⟨ad, cap, rfl, by rw [hl, hc], by rw [h2]; simp⟩
  ·exact .inl ⟨_, cap, rfl, by rw [hl, hc], fun j v hj => by rw [add_off]; exact h4 j v hj⟩
 ·rename_i γ off k' z'
  split at hs
  case h_2 => simp at hs
  rename_i blk hg
  cases hq : Nat.beq z z' <;> rw [hq] at hs <;> simp only [cond_true, cond_false, reduceCtorEq] at hs
  have hz := Nat.eq_of_beq_eq_true hq
  subst hz
  simp only [Option.map_eq_some_iff, Prod.mk.injEq] at hs
  obtain ⟨⟨bd0, c0⟩, h1, rfl, rfl, rfl⟩ := hs
  simp only [ARel] at hx
  obtain ⟨b, o, cap, cells, el, fz, h2, rfl, h4, h5, h6, h7⟩ := hx
  obtain ⟨b', o', h8, _, _, h9⟩ := H.live γ blk hg
  rw [h2] at h8; cases h8
  obtain ⟨cells', el', fz', vs, h10, h11, h12, h13, h14⟩ := h9.ex
  obtain ⟨h15, h16, h17⟩ := cutBody_sound h1 hc h12
  refine ⟨_, .inl ⟨_, cap, rfl, by simp; omega, fun j v hj => ?_⟩, h15, h17⟩
  rw [List.getElem?_take] at hj
  split at hj
  ·rw [List.getElem?_drop] at hj
   rw [add_off, Nat.add_assoc]
   simp [World.cell?, h10, h13 _ _ hj]
  ·simp at hj
 ·simp at hs
end
section
variable {P : Program} {T : TTab} {f N : Nat} {m : Md} {ops : Array Oper} {o : Oper} {rest : List Oper} {k : List Item} {g g' : Regs} {h h' : Hp} {Post : AVal → Hp → Prop}
theorem opStep2_app (hTO : TOk P T) {d n z : Nat} {β : Option Nat} {blk : Body} {c : Prop} (hp : stepApp T N g h o = some (d, (n, z), β, blk, c)) (hc : c) : OpStep2 P N o g h (.sl h.nxt 0 n z) ((killO h β).push blk) := by
 intro X R μ a w e5 e6 e7
 unfold stepApp at hp
 split at hp
 case h_2 => simp at hp
 rename_i d' cl hd hop
 cases hb : Nat.blt d' N <;> rw [hb] at hp <;> simp only [cond_true, cond_false, reduceCtorEq] at hp
 have hlt : d' < a.tmps.size := by rw [e5]; exact Nat.le_of_ble_eq_true hb
 split at hp
 case h_2 => simp at hp
 rename_i s x t t2 hcal hargs htys
 split at hp
 case h_2 => simp at hp
 rename_i e _ _ _ ty2 hT hT2
 split at hp
 case h_2 => simp at hp
 rename_i te hE
 split at hp
 case h_2 => simp at hp
 rename_i n1 bd β' c1 k1 bd2 c2 hba hsr
 have main : ∀ bd' c3, appQ β' bd bd2 = some (bd', c3) → ((∃ e2, ty2.k = .slice e2) ∨ ty2.k = .str) →
   (d', (n1 + k1, te.size), β', bd', (c1 ∧ c2 ∧ c3) ∧ ((n1 + k1) * te.bytes ≤ 140737488355328 ∧ n1 + k1 ≤ 9223372036854775807) ∧ (te.zero ≠ [] ∧ te.zero.length = te.size) ∧ appPos β' (n1 + k1)) = (d, (n, z), β, blk, c) →
   ∃ v w' R' μ', ((execOp a.eval o).run P w = .ok (.value v) w' ∨ ((execOp a.eval o).run P w = .ok .skip w' ∧ v = undef)) ∧ ARel R' μ' w' (.sl h.nxt 0 n z) v ∧ RegRel R' μ' w' g a.tmps ∧ HRel X R' μ' ((killO h β).push blk) w' := by
  intro bd' c3 happ hk2 heq
  simp only [Prod.mk.injEq] at heq
  obtain ⟨rfl, ⟨rfl, rfl⟩, rfl, rfl, rfl⟩ := heq
  obtain ⟨⟨hc1, hc2, hc3⟩, ⟨hc4, hc5⟩, ⟨hc6, hc7⟩, hc8⟩ := hc
  obtain ⟨ws, hsrc, hbw, hone⟩ := srcA_sound e7 hsr hc2 (evA_rel (a := a) e6 x)
  have hexec : ∀ u w2, (Builtin.append_ ⟨[t, t2]⟩ o.type ⟨[a.eval s, a.eval x]⟩).run P w = .ok u w2 → (execOp a.eval o).run P w = .ok (.value u) w2 := by
   intro u w2 h1
   have ha1 : cl.args.map a.eval = ⟨[a.eval s, a.eval x]⟩ := by apply Array.ext'; rw [Array.toList_map, hargs]; rfl
   have ha2 : cl.argTypes = ⟨[t, t2]⟩ := by apply Array.ext'; exact htys
   simp only [execOp, hop, resolve, hcal, Sem.run_bind, Sem.run_pure, Result.andThen_ok, invoke, builtin, ha1, ha2, h1]
  have hsr2 := evA_rel (a := a) e6 s
  unfold baseA at hba
  split at hba
  case h_3 => simp at hba
  ·-- nil
   rename_i hs0
   simp only [Option.some.injEq, Prod.mk.injEq] at hba
   obtain ⟨rfl, rfl, rfl, _⟩ := hba
   rw [hs0] at hsr2
   simp only [ARel, RRel] at hsr2
   obtain ⟨ad, hsr2⟩ := hsr2
   simp only [appPos] at hc8
   have hr := run_append (ty := o.type) (old := []) hTO hT rfl hE hT2 hk2 hc6 hc7 hsrc hone (base := ad) (n := 0) (cap := 0) (.inl ⟨rfl, rfl, rfl⟩) (Nat.le_refl _) (by unfold maxLen; omega) hc4 (by unfold maxLen; omega)
   rcases hr with ⟨w', h1, h2, _⟩ | ⟨cap', rest', h1, h2, h3, h4, _⟩
   ·omega
   ·have e7' : HRel X R μ h (World.drawnOnce w) := e7.drew _
    have e6' : RegRel R μ (World.drawnOnce w) g a.tmps := e6.mono (fun _ h => h) (onward_drawn R w) (fun _ _ h => h)
    have hbn : BodyRel R μ w bd' ([] ++ ws) := appQ_sound happ hc3 (fun _ => rfl) (by simp [BodyRel, ARels]) hbw
    obtain ⟨H1, H2, hon⟩ := new_block e7' e6' ⟨[] ++ ws ++ rest'⟩ e (0, 0) (by simp) (bd := bd') (vs := [] ++ ws) (hbn.mono (fun _ h => h) (onward_drawn R w) (fun _ _ h => h)) (fun j v hj => by
     rw [List.getElem?_toArray, List.getElem?_append_left (by
      obtain ⟨hl, _⟩ := List.getElem?_eq_some_iff.1 hj; exact hl)]
     exact hj)
    refine ⟨_, _, R, _, .inl (hexec _ _ (by rw [hsr2]; exact h1)), ?_, H2, H1⟩
    simp only [ARel]
    exact ⟨w.heap.size, 0, cap', _, e, (0, 0), new_name e7', rfl, h2, h3, heap_new _ _, by simpa using Nat.le_of_eq h4.symm⟩
  ·-- an owned block
   rename_i β0 off n' z' hs0
   split at hba
   case h_2 => simp at hba
   rename_i blk0 hg
   cases hq : Nat.beq te.size z' <;> rw [hq] at hba <;> simp only [cond_true, cond_false, reduceCtorEq] at hba
   have hz := Nat.eq_of_beq_eq_true hq
   subst hz
   simp only [Option.map_eq_some_iff, Prod.mk.injEq] at hba
   obtain ⟨⟨bd0, c0⟩, hcut, rfl, rfl, rfl, rfl⟩ := hba
   rw [hs0] at hsr2
   simp only [ARel] at hsr2
   obtain ⟨b, o0, cap, cells, el, fz, h2, hse, h4, h5, h6, h7⟩ := hsr2
   obtain ⟨b', o', h8, hnR, hown, h9⟩ := e7.live β0 blk0 hg
   rw [h2] at h8; cases h8
   obtain ⟨cells', el', fz', vs, h10, h11, h12, h13, h14⟩ := h9.ex
   rw [h6] at h10; cases h10
   obtain ⟨h15, h16, h17⟩ := cutBody_sound hcut hc1 h12
   have hbn : BodyRel R μ w bd' ((vs.drop off).take (n' * te.size) ++ ws) := appQ_sound happ hc3 (fun h => by cases h) h15 hbw
   have hol : ((vs.drop off).take (n' * te.size)).length = n' * te.size := by simp; omega
   have hoc : ∀ (j : Nat) v, ((vs.drop off).take (n' * te.size))[j]? = some v → cells[o0 + off + j]? = some v := by
    intro j v hj
    rw [List.getElem?_take] at hj
    split at hj
    ·rw [List.getElem?_drop] at hj
     rw [Nat.add_assoc]
     exact h13 _ _ hj
    ·simp at hj
   have hr := run_append (ty := o.type) (old := (vs.drop off).take (n' * te.size)) hTO hT rfl hE hT2 hk2 hc6 hc7 hsrc hone (base := some ⟨b, o0 + off, none⟩) (n := n') (cap := cap)
    (.inr ⟨b, o0 + off, cells, el, fz, rfl, h6, h11.2, h7, hol, hoc⟩) h4 h5 hc4 (by unfold maxLen; omega)
   have hwl := hsrc.len (P := P)
   rcases hr with ⟨w', h1, hfit, h18⟩ | ⟨cap', rest', h1, h18, h3, h19, _⟩
   ·have h18 : ∃ b2 o2, some (⟨b, o0 + off, none⟩ : Addr) = some ⟨b2, o2, none⟩ ∧ w' = w.setCells b2 (o2 + n' * te.size) ws := by
     rcases h18 with ⟨h0, rfl⟩ | h18
     ·have hw0 : ws = [] := List.length_eq_zero_iff.1 (by rw [hwl.1]; rw [show k1 = 0 by omega]; simp)
      subst hw0
      exact ⟨b, o0 + off, rfl, by simp [World.setCells]⟩
     ·exact h18
    obtain ⟨b2, o2, h20, rfl⟩ := h18
    ·simp only [Option.some.injEq, Addr.mk.injEq, and_true] at h20
     obtain ⟨rfl, rfl⟩ := h20
     have hfit2 : (n' + k1) * te.size ≤ cap * te.size := Nat.mul_le_mul_right _ hfit
     rw [Nat.add_mul, ← hwl.1] at hfit2
     have hgr := setCells_grown ws w b (o0 + off + n' * te.size)
     have hnew := setCells_heap ws w b (o0 + off + n' * te.size) cells el fz h6
     have hsh : ∀ b', some b = some b' → ¬ R b' ∧ ∀ (c : Array Value) (e : TypeId) (f : Nat × Nat), w.heap[b']? = some (Obj.cells c e f) → ∃ (c' : Array Value) (f' : Nat × Nat), (w.setCells b (o0 + off + n' * te.size) ws).heap[b']? = some (Obj.cells c' e f') ∧ c'.size = c.size := by
      rintro b' rfl'
      cases rfl'
      refine ⟨hnR, fun c e f hcf => ?_⟩
      rw [h6] at hcf
      cases hcf
      exact ⟨_, _, hnew, setsV_size _ _ _⟩
     have hon := e7.onward hgr hsh
     have Hk : HRel X R μ { h with tab := (β0, none) :: h.tab } (w.setCells b (o0 + off + n' * te.size) ws) := (e7.kill β0).grow hgr hsh (by
      rintro b' rfl'
      cases rfl'
      exact ⟨hown, e7.free_kill hg h2⟩) (by
      rintro b' rfl'
      cases rfl'
      exact ⟨cells, el, fz, h6⟩)
     have Ha := Hk.add (b := b) (o := o0 + off) (blk := bd') hnR hown
      ⟨setsV cells (o0 + off + n' * te.size) ws, el, fz, (vs.drop off).take (n' * te.size) ++ ws, hnew, by rw [setsV_size]; exact h11, hbn.mono (fun _ h => h) hon mu_app, fun j v hj => by
       rw [setsV_get _ _ _ _ (by omega)]
       by_cases hj2 : j < n' * te.size
       ·rw [List.getElem?_append_left (by omega)] at hj
        rw [if_neg (by omega)]
        exact hoc j v hj
       ·rw [List.getElem?_append_right (by omega), hol] at hj
        obtain ⟨hl2, _⟩ := List.getElem?_eq_some_iff.1 hj
        rw [if_pos (by omega), show o0 + off + j - (o0 + off + n' * te.size) = j - n' * te.size by omega]
        exact hj, by rw [setsV_size, List.length_append, hol]; omega⟩
      (fun γ blk' o' hg' hm' => e7.free_kill hg h2 γ blk' o' hg' hm')
     refine ⟨_, _, R, _, .inl (hexec _ _ (by rw [hse]; exact h1)), ?_, e6.mono (fun _ h => h) hon mu_app, Ha⟩
     simp only [ARel]
     exact ⟨b, o0 + off, cap, _, el, fz, by rw [← e7.len]; simp, rfl, hfit, h5, hnew, by rw [setsV_size, Nat.add_zero]; exact h7⟩
   ·have e7' : HRel X R μ (killO h (some β0)) (World.drawnOnce w) := (e7.kill β0).drew _
    have e6' : RegRel R μ (World.drawnOnce w) g a.tmps := e6.mono (fun _ h => h) (onward_drawn R w) (fun _ _ h => h)
    obtain ⟨H1, H2, hon⟩ := new_block e7' e6' ⟨(vs.drop off).take (n' * te.size) ++ ws ++ rest'⟩ e (0, 0) (by simp) (bd := bd') (vs := (vs.drop off).take (n' * te.size) ++ ws) (hbn.mono (fun _ h => h) (onward_drawn R w) (fun _ _ h => h)) (fun j v hj => by
     rw [List.getElem?_toArray, List.getElem?_append_left (by
      obtain ⟨hl, _⟩ := List.getElem?_eq_some_iff.1 hj; exact hl)]
     exact hj)
    refine ⟨_, _, R, _, .inl (hexec _ _ (by rw [hse]; exact h1)), ?_, H2, H1⟩
    simp only [ARel]
    exact ⟨w.heap.size, 0, cap', _, e, (0, 0), (by have := new_name e7'; exact this), rfl, h18, h3, heap_new _ _, by simpa using Nat.le_of_eq h19.symm⟩
 split at hp
 ·rename_i bd' c3 e2 happ hk
  exact main bd' c3 happ (.inl ⟨_, hk⟩) (Option.some.inj hp)
 ·rename_i bd' c3 happ hk
  exact main bd' c3 happ (.inr hk) (Option.some.inj hp)
 ·simp at hp
theorem stepApp_dst {d n z : Nat} {β : Option Nat} {blk : Body} {c : Prop} (hp : stepApp T N g h o = some (d, (n, z), β, blk, c)) : o.dst = some d ∧ Nat.blt d N = true := by
 unfold stepApp at hp
 split at hp
 case h_2 => simp at hp
 rename_i d' cl hd hop
 cases hb : Nat.blt d' N <;> rw [hb] at hp <;> simp only [cond_true, cond_false, reduceCtorEq] at hp
 have : d' = d := by
  repeat' split at hp
  all_goals first
   | (simp at hp; done)
   | (simp only [Option.some.injEq, Prod.mk.injEq] at hp; exact hp.1)
 subst this
 exact ⟨hd, hb⟩
theorem opStep_app (hTO : TOk P T) {d n z : Nat} {β : Option Nat} {blk : Body} {c : Prop} (hp : stepApp T N g h o = some (d, (n, z), β, blk, c)) (hc : c) : OpStep P N o g h ((d, .sl h.nxt 0 n z) :: g) ((killO h β).push blk) :=
 opStep_of2 (opStep2_app hTO hp hc) (stepApp_dst hp).1 (stepApp_dst hp).2
theorem ar_app (hTO : TOk P T) {t : Bool} {d n z : Nat} {β : Option Nat} {blk : Body} {c : Prop} (hp : stepApp T N g h o = some (d, (n, z), β, blk, c)) (hg : guardB ops g o = some t) (ht : t = true) (hc : c)
  (hk : AReg P f N m ops rest k ((d, .sl h.nxt 0 n z) :: g) ((killO h β).push blk) Post) : AReg P f N m ops (o :: rest) k g h Post :=
 ar_op hg ht (opStep_app hTO hp hc) hk
end
end Go.Proofs.YtccdhgmkjakjkaaGreat
namespace Go.Proofs.YtccdhgmkjakjkaaGreat
open Go
def Ent (m : Md) (g : Regs) (h : Hp) (g' : Regs) (h' : Hp) : Prop :=
 ∀ (X : Ctx) (R : Nat → Prop) (μ : Mu) (w : World) (tmps : Array Value), X.μ0.length = m.len → RegRel R μ w g tmps → HRel X R μ h w → ∃ R' μ', RegRel R' μ' w g' tmps ∧ HRel X R' μ' h' w
section
variable {P : Program} {T : TTab} {f N : Nat} {m : Md} {ops : Array Oper} {o : Oper} {rest : List Oper} {todo k : List Item} {g g' g'' : Regs} {h h' h'' : Hp} {Post : AVal → Hp → Prop}
theorem ag_ent (he : Ent m g h g' h') (hk : AGo P f N m todo g' h' Post) : AGo P f N m todo g h Post := by
 intro X R μ a w b cs e1 e2 e3 e4 e5 e6 e7
 obtain ⟨R', μ', h1, h2⟩ := he X R μ w a.tmps e1.len e6 e7
 exact hk X R' μ' a w b cs e1 e2 e3 e4 e5 h1 h2
theorem ar_ent (he : Ent m g h g' h') (hk : AReg P f N m ops rest k g' h' Post) : AReg P f N m ops rest k g h Post := fun idx hi => ag_ent he (hk idx hi)
theorem Ent.trans (h1 : Ent m g h g' h') (h2 : Ent m g' h' g'' h'') : Ent m g h g'' h'' := by
 intro X R μ w tmps e1 e2 e3
 obtain ⟨R', μ', h3, h4⟩ := h1 X R μ w tmps e1 e2 e3
 exact h2 X R' μ' w tmps e1 h3 h4
def WeakR (ι : List Nat) (n : Nat) (g : Regs) : Regs → Prop
 | [] => True
 | (t, v) :: r => (AVal.nb n v = true ∧ AVal.ren (fun j => ι.getD j 0) v = lookR g t) ∧ WeakR ι n g r
theorem weakR_look {ι : List Nat} {n : Nat} {g : Regs} : ∀ {g' : Regs}, WeakR ι n g g' → ∀ t, lookR g' t = .any ∨ (AVal.nb n (lookR g' t) = true ∧ AVal.ren (fun j => ι.getD j 0) (lookR g' t) = lookR g t)
 | [], _, t => .inl rfl
 | (s, v) :: r, hw, t => by
  simp only [WeakR] at hw
  simp only [lookR]
  by_cases e : s = t
  ·subst e; simp only [Nat.beq_refl, cond_true]; exact .inr hw.1
  ·rw [beq_ne e]; exact weakR_look hw.2 t
def WeakB (ι : List Nat) (n : Nat) (h : Hp) : List (Nat × Option Body) → Prop
 | [] => True
 | (_, none) :: r => WeakB ι n h r
 | (i, some b) :: r => (Nat.blt i n = true ∧ b.nb n = true ∧ h.get (ι.getD i 0) = some (b.ren fun j => ι.getD j 0)) ∧ WeakB ι n h r
theorem weakB_get {ι : List Nat} {n : Nat} {h : Hp} : ∀ {tab : List (Nat × Option Body)}, WeakB ι n h tab → ∀ i b, Hp.look tab i = some b → i < n ∧ b.nb n = true ∧ h.get (ι.getD i 0) = some (b.ren fun j => ι.getD j 0)
 | [], _, i, b, hg => by simp [Hp.look] at hg
 | (s, none) :: r, hw, i, b, hg => by
  simp only [WeakB] at hw
  rw [look_kill] at hg
  split at hg
  ·simp at hg
  ·exact weakB_get hw i b hg
 | (s, some c) :: r, hw, i, b, hg => by
  simp only [WeakB] at hw
  rw [look_kill] at hg
  split at hg
  ·rename_i e
   subst e
   cases hg
   exact ⟨Nat.le_of_ble_eq_true hw.1.1, hw.1.2⟩
  ·exact weakB_get hw.2 i b hg
def nodupB : List Nat → Bool
 | [] => true
 | x :: l => l.all (fun y => !Nat.beq x y) && nodupB l
theorem nodupB_sound : ∀ {l : List Nat}, nodupB l = true → l.Nodup
 | [], _ => by simp
 | x :: l, h => by
  simp only [nodupB, Bool.and_eq_true, List.all_eq_true, Bool.not_eq_true'] at h
  refine List.nodup_cons.2 ⟨fun hm => ?_, nodupB_sound h.2⟩
  have := h.1 x hm
  simp at this
def idB (m : Nat) : List Nat → Nat → Bool
 | _, 0 => true
 | ι, n + 1 => Nat.beq (ι.getD n (m + 1)) n && idB m ι n
theorem idB_sound {m : Nat} {ι : List Nat} : ∀ {n : Nat}, idB m ι n = true → ∀ i, i < n → n ≤ m → ι[i]? = some i
 | 0, _, i, hi, _ => absurd hi (Nat.not_lt_zero _)
 | n + 1, h, i, hi, hm => by
  simp only [idB, Bool.and_eq_true] at h
  rcases Nat.lt_or_ge i n with h1 | h1
  ·exact idB_sound h.2 i h1 (by omega)
  ·have e : i = n := by omega
   subst e
   have h2 := Nat.eq_of_beq_eq_true h.1
   simp only [List.getD] at h2
   cases hq : ι[i]? with
   | none => rw [hq] at h2; simp at h2; omega
   | some v => rw [hq] at h2; simp at h2; rw [h2]
theorem ent_weak (ι : List Nat) (hl : Nat.beq ι.length h'.nxt = true) (hlt : ι.all (fun γ => Nat.blt γ h.nxt) = true) (hnd : nodupB ι = true) (hid : idB m.len ι m.len = true) (hr : WeakR ι h'.nxt g g') (hb : WeakB ι h'.nxt h h'.tab) (hgh : h'.gh = h.gh) : Ent m g h g' h' := by
 intro X R μ w tmps e1 e2 e3
 have hh : Handed h h' ι := ⟨Nat.eq_of_beq_eq_true hl, fun γ hγ => Nat.le_of_ble_eq_true (List.all_eq_true.1 hlt γ hγ), nodupB_sound hnd, fun i blk hg => weakB_get hb i blk hg⟩
 have hH := handed_rel e3 hh
 refine ⟨R, muOf μ ι, ?_, ?_⟩
 ·intro t
  rcases weakR_look hr t with h1 | ⟨h1, h2⟩
  ·rw [h1]; simp [ARel]
  ·exact ARel.unren (fun β hβ => muOf_get e3.len hh hβ) _ _ h1 (by rw [h2]; exact e2 t)
 ·exact {
   os := e3.os
   tape := e3.tape
   output := e3.output
   size := e3.size
   keep := e3.keep
   shape := e3.shape
   r0 := e3.r0
   rO := e3.rO
   rlt := e3.rlt
   mu := fun β p hp => by
    have hβ : β < m.len := by rw [← e1]; exact (List.getElem?_eq_some_iff.1 hp).1
    have h1 := idB_sound hid β hβ (Nat.le_refl _)
    have h2 : β < h'.nxt := by rw [← hh.len]; exact (List.getElem?_eq_some_iff.1 h1).1
    rw [muOf_get e3.len hh h2]
    simp only [List.getD, h1, Option.getD_some]
    exact e3.mu β p hp
   rc := e3.rc
   inv := by rw [hgh]; exact e3.inv
   len := hH.len
   live := fun β blk hg => by
    obtain ⟨b, o, h1, h2, _, h4⟩ := hH.live β blk hg
    obtain ⟨h5, _, h6⟩ := hh.blk β blk hg
    obtain ⟨b', o', h7, _, h8, _⟩ := e3.live _ _ h6
    have h9 := (muOf_get e3.len hh h5).symm.trans h1
    rw [h7] at h9
    cases h9
    exact ⟨b, o, h1, h2, h8, h4⟩
   inj := hH.inj }
theorem ent_reg (t : Nat) (v : AVal) (he : lookR g t = v) : Ent m g h ((t, v) :: g) h := by
 intro X R μ w tmps e1 e2 e3
 refine ⟨R, μ, ?_, e3⟩
 intro s
 simp only [lookR]
 by_cases e : t = s
 ·subst e; simp only [Nat.beq_refl, cond_true]; rw [← he]; exact e2 t
 ·rw [beq_ne e]; exact e2 s
theorem ent_nil (t : Nat) (v : RVal) (he : lookR g t = .r .nil) (hv : v = .bs [] ∨ v = .ro 0 []) : Ent m g h ((t, .r v) :: g) h := by
 intro X R μ w tmps e1 e2 e3
 refine ⟨R, μ, ?_, e3⟩
 intro s
 simp only [lookR]
 by_cases e : t = s
 ·subst e
  simp only [Nat.beq_refl, cond_true]
  have := e2 t
  rw [he] at this
  simp only [ARel, RRel] at this
  obtain ⟨ad, this⟩ := this
  rw [this]
  rcases hv with rfl | rfl
  ·simp only [ARel, RRel]
   exact ⟨ad, 0, rfl, Nat.le_refl _, .inl rfl⟩
  ·simp only [ARel, RRel]
   exact ⟨ad, 0, [], rfl, Nat.le_refl _, .inl rfl, by simp [RRels]⟩
 ·rw [beq_ne e]; exact e2 s
theorem bodyRel_of_cells {R : Nat → Prop} {μ : Mu} {w : World} {bd bd' : Body} (he : bd.cells = bd'.cells) {vs : List Value} (h : BodyRel R μ w bd vs) : BodyRel R μ w bd' vs := by
 have h1 := bodyRel_cells h
 rw [he] at h1
 cases bd' with
 | bytes s =>
  simp only [Body.cells] at h1
  simp only [BodyRel]
  clear he h
  induction s generalizing vs with
  | nil => simpa [ARels, bytesV] using h1
  | cons b s ih =>
   simp only [List.map_cons, ARels] at h1
   obtain ⟨c, r, rfl, h2, h3⟩ := h1
   simp only [ARel, RRel] at h2
   rw [h2, ih h3]
   rfl
 | plain xs => exact ARels.of_r.1 h1
 | mixed cs => exact h1
theorem ent_body (β : Nat) (bd bd' : Body) (hg : h.get β = some bd) (he : bd.cells = bd'.cells) : Ent m g h g (h.set β (some bd')) := by
 intro X R μ w tmps e1 e2 e3
 obtain ⟨b, o, h1, h2, h3, h4⟩ := e3.live β bd hg
 obtain ⟨cells, el, fz, vs, h5, h6, h7, h8, h9⟩ := h4.ex
 exact ⟨R, μ, e2, e3.put h1 h2 h3 ⟨cells, el, fz, vs, h5, h6, bodyRel_of_cells he h7, h8, h9⟩ (fun γ blk' o' hne hg' => by
  intro hm
  exact hne (e3.inj γ β blk' bd b b o' o hg' hg hm h1 rfl))⟩
def roOf (bd : Body) (off n z : Nat) : Option (RVal × Prop) :=
 match bd with
 | .bytes s => some (.bs (cutA s off n), off + n ≤ s.length ∧ z = 1)
 | .plain xs => some (.ro n (cutA xs off (n * z)), True)
 | .mixed _ => none
theorem ent_freeze (t : Nat) {β off n z : Nat} {bd : Body} {v : RVal} {c : Prop} (hl : lookR g t = .sl β off n z) (hg : h.get β = some bd) (hr : roOf bd off n z = some (v, c)) (hc : c) : Ent m g h ((t, .r v) :: g) (h.set β none) := by
 intro X R μ w tmps e1 e2 e3
 obtain ⟨b, o, h1, h2, h3, h4⟩ := e3.live β bd hg
 obtain ⟨cells, el, fz, vs, h5, h6, h7, h8, h9⟩ := h4.ex
 obtain ⟨hlt, _⟩ := Array.getElem?_eq_some_iff.1 h5
 have hfree := e3.free_kill hg h1
 have H := (e3.kill β).freeze h3 hfree ⟨cells, el, fz, h5⟩
 refine ⟨fun k => R k ∨ k = b, μ, ?_, H⟩
 intro s
 simp only [lookR]
 by_cases e : t = s
 ·subst e
  simp only [Nat.beq_refl, cond_true]
  have ht := e2 t
  rw [hl] at ht
  simp only [ARel] at ht ⊢
  obtain ⟨b', o', cap, cells', el', fz', h10, h11, h12, h13, h14, h15⟩ := ht
  rw [h1] at h10; cases h10
  rw [h11]
  have hrow : ∀ k, RowAt (fun k => R k ∨ k = b) w (some ⟨b, o + off, none⟩) ((vs.drop off).take k) := by
   intro k
   refine .inr ⟨b, o + off, rfl, .inr rfl, fun j v hj => ?_⟩
   rw [List.getElem?_take] at hj
   split at hj
   ·rw [List.getElem?_drop] at hj
    simp [World.cell?, h5, Nat.add_assoc, h8 _ _ hj]
   ·simp at hj
  unfold roOf at hr
  split at hr
  ·rename_i s'
   simp only [Option.some.injEq] at hr
   obtain ⟨rfl, rfl⟩ := Prod.mk.inj hr
   simp only [BodyRel] at h7
   subst h7
   simp only [RRel]
   refine ⟨some ⟨b, o + off, none⟩, cap, ?_, ?_, ?_⟩
   ·rw [cutA_eq]; simp only [List.length_take, List.length_drop]; congr 1; omega
   ·rw [cutA_eq]; simp only [List.length_take, List.length_drop]; omega
   ·have := hrow n
    rw [cutA_eq]
    simpa [bytesV] using this
  ·rename_i xs
   simp only [Option.some.injEq] at hr
   obtain ⟨rfl, rfl⟩ := Prod.mk.inj hr
   simp only [BodyRel] at h7
   simp only [RRel]
   refine ⟨some ⟨b, o + off, none⟩, cap, (vs.drop off).take (n * z), rfl, h12, hrow _, ?_⟩
   rw [cutA_eq]
   exact RRels.mono (fun _ h => .inl h) (Onward.refl R w) _ _ ((RRels.drop off h7).take _)
  ·simp at hr
 ·rw [beq_ne e]
  exact (e2 s).mono (fun _ h => .inl h) (Onward.refl R w) (fun _ _ h => h)
end
end Go.Proofs.YtccdhgmkjakjkaaGreat

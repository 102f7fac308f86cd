/-
  ABSTRACT MACHINE, 1: abstract values, what they stand for in a world, and what keeps that.
-/
import Derived.Calls
import Derived.ChangeCalls
import Derived.KernelRfl
import Derived.RowKit3
import Derived.Below
namespace Go.Proofs.Ytplfajhaehkhnaa
open Go

/-- A value that names no memory of the call's own: read-only slices by what they hold. -/
inductive RVal where
  | int (k : IntKind) (n : Int)
  | bool (b : Bool)
  | str (s : List UInt8)
  | nil
  | nilp
  | bs (s : List UInt8)
  | ro (n : Nat) (xs : List RVal)
  deriving Inhabited

def byteV (b : UInt8) : Value := .int .u8 b.toNat
def bytesV (s : List UInt8) : List Value := s.map byteV

/-- An abstract value. 'sl β off n z': a slice of an owned block. 'ptr β off': an address in an owned block. 'rp xs o': the address of cell o of read-only cells. -/
inductive AVal where
  | r (v : RVal)
  | sl (β off n z : Nat)
  | ptr (β off : Nat)
  | func (f : FuncId) (caps : List AVal)
  | agg (cs : List AVal)
  | tuple (vs : List AVal)
  | rp (xs : List RVal) (o : Nat)
  | bp (s : List UInt8) (o : Nat)
  | yld (l : Nat)
  | any
  deriving Inhabited

inductive Body where
  | bytes (s : List UInt8)
  | plain (xs : List RVal)
  | mixed (cs : List AVal)
  deriving Inhabited

/-- A block, by what it holds. -/
abbrev ABlk := Body

def Body.cells : Body → List AVal
  | .bytes s => s.map fun b => .r (.int .u8 b.toNat)
  | .plain xs => xs.map .r
  | .mixed cs => cs

/-- An abstract heap: how many names are given; what each owned block holds. -/
structure Hp where
  nxt : Nat
  tab : List (Nat × Option ABlk)
  gh : Bool := false

def Hp.look : List (Nat × Option ABlk) → Nat → Option ABlk
  | [], _ => none
  | (a, v) :: l, n => bif Nat.beq a n then v else Hp.look l n
def Hp.get (h : Hp) (β : Nat) : Option ABlk := Hp.look h.tab β

/-- The cells cs lie at the address, in read-only blocks. -/
def RowAt (R : Nat → Prop) (w : World) (a : Option Addr) (cs : List Value) : Prop :=
  cs = [] ∨ ∃ b o, a = some ⟨b, o, none⟩ ∧ R b ∧ ∀ j v, cs[j]? = some v → w.cell? ⟨b, o + j, none⟩ = some v

mutual
def RRel (R : Nat → Prop) (w : World) : RVal → Value → Prop
  | .int k n, c => c = .int k n
  | .bool b, c => c = .bool b
  | .str s, c => c = .string ⟨⟨s⟩⟩
  | .nil, c => ∃ a, c = .slice a 0 0
  | .nilp, c => c = .pointer none
  | .bs s, c => ∃ a cap, c = .slice a s.length cap ∧ s.length ≤ cap ∧ RowAt R w a (bytesV s)
  | .ro n xs, c => ∃ a cap cs, c = .slice a n cap ∧ n ≤ cap ∧ RowAt R w a cs ∧ RRels R w xs cs
def RRels (R : Nat → Prop) (w : World) : List RVal → List Value → Prop
  | [], cs => cs = []
  | x :: xs, cs => ∃ c r, cs = c :: r ∧ RRel R w x c ∧ RRels R w xs r
end

/-- The blocks of a list of names. -/
abbrev Mu := List (Nat × Nat)

mutual
def ARel (R : Nat → Prop) (μ : Mu) (w : World) : AVal → Value → Prop
  | .r v, c => RRel R w v c
  | .sl β off n z, c => ∃ b o cap cells e fz, μ[β]? = some (b, o) ∧ c = .slice (some ⟨b, o + off, none⟩) n cap ∧ n ≤ cap ∧ cap ≤ maxLen ∧
      w.heap[b]? = some (.cells cells e fz) ∧ o + off + cap * z ≤ cells.size
  | .ptr β off, c => ∃ b o, μ[β]? = some (b, o) ∧ c = .pointer (some ⟨b, o + off, none⟩)
  | .func f caps, c => ∃ cs : List Value, c = .func (.func f) #[] ⟨cs⟩ ∧ ARels R μ w caps cs
  | .agg xs, c => ∃ cs : List Value, c = .agg ⟨cs⟩ ∧ ARels R μ w xs cs
  | .tuple xs, c => ∃ cs : List Value, c = .tuple ⟨cs⟩ ∧ ARels R μ w xs cs
  | .rp xs o, c => ∃ b o0 cs, c = .pointer (some ⟨b, o0 + o, none⟩) ∧ R b ∧ (∀ j v, cs[j]? = some v → w.cell? ⟨b, o0 + j, none⟩ = some v) ∧ RRels R w xs cs
  | .bp s o, c => ∃ b o0, c = .pointer (some ⟨b, o0 + o, none⟩) ∧ R b ∧ (∀ j v, (bytesV s)[j]? = some v → w.cell? ⟨b, o0 + j, none⟩ = some v)
  | .yld l, c => c = .func (.yield l) #[] #[]
  | .any, _ => True
def ARels (R : Nat → Prop) (μ : Mu) (w : World) : List AVal → List Value → Prop
  | [], cs => cs = []
  | x :: xs, cs => ∃ c r, cs = c :: r ∧ ARel R μ w x c ∧ ARels R μ w xs r
end

/-- What every step keeps of the blocks: read-only ones as they are, and each block of cells its size. -/
structure Onward (R : Nat → Prop) (w w' : World) : Prop where
  same : ∀ k, R k → w'.heap[k]? = w.heap[k]?
  shape : ∀ (k : Nat) (c : Array Value) (e : TypeId) (f : Nat × Nat), w.heap[k]? = some (Obj.cells c e f) → ∃ (c' : Array Value) (f' : Nat × Nat), w'.heap[k]? = some (Obj.cells c' e f') ∧ c'.size = c.size

theorem Onward.refl (R : Nat → Prop) (w : World) : Onward R w w := ⟨fun _ _ => rfl, fun _ c _ f h => ⟨c, f, h, rfl⟩⟩

theorem Onward.cell {R : Nat → Prop} {w w' : World} (h : Onward R w w') {b o : Nat} (hb : R b) : w'.cell? ⟨b, o, none⟩ = w.cell? ⟨b, o, none⟩ :=
  World.cell?_of_block (w := w) (h.same b hb)

theorem RowAt.mono {R R' : Nat → Prop} {w w' : World} (hR : ∀ k, R k → R' k) (hw : Onward R w w') {a : Option Addr} {cs : List Value} (h : RowAt R w a cs) : RowAt R' w' a cs := by
  rcases h with h | ⟨b, o, ha, hb, hc⟩
  · exact .inl h
  · exact .inr ⟨b, o, ha, hR b hb, fun j v hj => (hw.cell hb).trans (hc j v hj)⟩

mutual
theorem RRel.mono {R R' : Nat → Prop} {w w' : World} (hR : ∀ k, R k → R' k) (hw : Onward R w w') : ∀ (v : RVal) (c : Value), RRel R w v c → RRel R' w' v c
  | .int _ _, _, h => by simpa [RRel] using h
  | .bool _, _, h => by simpa [RRel] using h
  | .str _, _, h => by simpa [RRel] using h
  | .nil, _, h => by simpa [RRel] using h
  | .nilp, _, h => by simpa [RRel] using h
  | .bs s, c, h => by
    simp only [RRel] at h ⊢
    obtain ⟨a, cap, h1, h2, h3⟩ := h
    exact ⟨a, cap, h1, h2, h3.mono hR hw⟩
  | .ro n xs, c, h => by
    simp only [RRel] at h ⊢
    obtain ⟨a, cap, cs, h1, h2, h3, h4⟩ := h
    exact ⟨a, cap, cs, h1, h2, h3.mono hR hw, RRels.mono hR hw xs cs h4⟩
theorem RRels.mono {R R' : Nat → Prop} {w w' : World} (hR : ∀ k, R k → R' k) (hw : Onward R w w') : ∀ (v : List RVal) (c : List Value), RRels R w v c → RRels R' w' v c
  | [], _, h => by simpa [RRels] using h
  | x :: xs, c, h => by
    simp only [RRels] at h ⊢
    obtain ⟨a, r, h1, h2, h3⟩ := h
    exact ⟨a, r, h1, RRel.mono hR hw x a h2, RRels.mono hR hw xs r h3⟩
end

mutual
theorem ARel.mono {R R' : Nat → Prop} {μ μ' : Mu} {w w' : World} (hR : ∀ k, R k → R' k) (hw : Onward R w w') (hm : ∀ (β : Nat) p, μ[β]? = some p → μ'[β]? = some p) :
    ∀ (v : AVal) (c : Value), ARel R μ w v c → ARel R' μ' w' v c
  | .r v, c, h => by simp only [ARel] at h ⊢; exact h.mono hR hw
  | .sl β off n z, c, h => by
    simp only [ARel] at h ⊢
    obtain ⟨b, o, cap, cells, e, fz, h1, h2, h3, h4, h5, h6⟩ := h
    obtain ⟨c', f', h7, h8⟩ := hw.shape _ _ _ _ h5
    exact ⟨b, o, cap, c', e, f', hm _ _ h1, h2, h3, h4, h7, by omega⟩
  | .ptr β off, c, h => by
    simp only [ARel] at h ⊢
    obtain ⟨b, o, h1, h2⟩ := h
    exact ⟨b, o, hm _ _ h1, h2⟩
  | .func f caps, c, h => by
    simp only [ARel] at h ⊢
    obtain ⟨cs, h1, h2⟩ := h
    exact ⟨cs, h1, ARels.mono hR hw hm caps cs h2⟩
  | .agg xs, c, h => by
    simp only [ARel] at h ⊢
    obtain ⟨cs, h1, h2⟩ := h
    exact ⟨cs, h1, ARels.mono hR hw hm xs cs h2⟩
  | .tuple xs, c, h => by
    simp only [ARel] at h ⊢
    obtain ⟨cs, h1, h2⟩ := h
    exact ⟨cs, h1, ARels.mono hR hw hm xs cs h2⟩
  | .rp xs o, c, h => by
    simp only [ARel] at h ⊢
    obtain ⟨b, o0, cs, h1, h2, h3, h4⟩ := h
    exact ⟨b, o0, cs, h1, hR b h2, fun j v hj => (hw.cell h2).trans (h3 j v hj), h4.mono hR hw⟩
  | .bp s o, c, h => by
    simp only [ARel] at h ⊢
    obtain ⟨b, o0, h1, h2, h3⟩ := h
    exact ⟨b, o0, h1, hR b h2, fun j v hj => (hw.cell h2).trans (h3 j v hj)⟩
  | .yld _, _, h => by simpa only [ARel] using h
  | .any, _, _ => by simp only [ARel]
theorem ARels.mono {R R' : Nat → Prop} {μ μ' : Mu} {w w' : World} (hR : ∀ k, R k → R' k) (hw : Onward R w w') (hm : ∀ (β : Nat) p, μ[β]? = some p → μ'[β]? = some p) :
    ∀ (v : List AVal) (c : List Value), ARels R μ w v c → ARels R' μ' w' v c
  | [], _, h => by simpa [ARels] using h
  | x :: xs, c, h => by
    simp only [ARels] at h ⊢
    obtain ⟨a, r, h1, h2, h3⟩ := h
    exact ⟨a, r, h1, ARel.mono hR hw hm x a h2, ARels.mono hR hw hm xs r h3⟩
end

theorem RRels.length {R : Nat → Prop} {w : World} : ∀ {xs : List RVal} {cs : List Value}, RRels R w xs cs → cs.length = xs.length
  | [], _, h => by simp only [RRels] at h; simp [h]
  | x :: xs, _, h => by
    simp only [RRels] at h
    obtain ⟨c, r, rfl, _, h⟩ := h
    simp [h.length]
theorem ARels.length {R : Nat → Prop} {μ : Mu} {w : World} : ∀ {xs : List AVal} {cs : List Value}, ARels R μ w xs cs → cs.length = xs.length
  | [], _, h => by simp only [ARels] at h; simp [h]
  | x :: xs, _, h => by
    simp only [ARels] at h
    obtain ⟨c, r, rfl, _, h⟩ := h
    simp [h.length]

theorem RRels.get {R : Nat → Prop} {w : World} : ∀ {xs : List RVal} {cs : List Value}, RRels R w xs cs → ∀ {i : Nat} {v : RVal}, xs[i]? = some v → ∃ c, cs[i]? = some c ∧ RRel R w v c
  | [], _, _, i, v, hi => by simp at hi
  | x :: xs, _, h, i, v, hi => by
    simp only [RRels] at h
    obtain ⟨c, r, rfl, h1, h2⟩ := h
    cases i with
    | zero => simp at hi; subst hi; exact ⟨c, by simp, h1⟩
    | succ i => simp at hi; obtain ⟨d, h3, h4⟩ := h2.get hi; exact ⟨d, by simpa using h3, h4⟩
theorem ARels.get {R : Nat → Prop} {μ : Mu} {w : World} : ∀ {xs : List AVal} {cs : List Value}, ARels R μ w xs cs → ∀ {i : Nat} {v : AVal}, xs[i]? = some v → ∃ c, cs[i]? = some c ∧ ARel R μ w v c
  | [], _, _, i, v, hi => by simp at hi
  | x :: xs, _, h, i, v, hi => by
    simp only [ARels] at h
    obtain ⟨c, r, rfl, h1, h2⟩ := h
    cases i with
    | zero => simp at hi; subst hi; exact ⟨c, by simp, h1⟩
    | succ i => simp at hi; obtain ⟨d, h3, h4⟩ := h2.get hi; exact ⟨d, by simpa using h3, h4⟩

theorem ARels.of_r {R : Nat → Prop} {μ : Mu} {w : World} : ∀ {xs : List RVal} {cs : List Value}, ARels R μ w (xs.map .r) cs ↔ RRels R w xs cs
  | [], _ => by simp [ARels, RRels]
  | x :: xs, cs => by simp only [List.map_cons, ARels, RRels, ARel, ARels.of_r]

theorem ARels.append {R : Nat → Prop} {μ : Mu} {w : World} : ∀ {xs ys : List AVal} {cs ds : List Value}, ARels R μ w xs cs → ARels R μ w ys ds → ARels R μ w (xs ++ ys) (cs ++ ds)
  | [], _, _, _, h, k => by simp only [ARels] at h; simpa [h] using k
  | x :: xs, _, _, _, h, k => by
    simp only [ARels] at h
    obtain ⟨c, r, rfl, h1, h2⟩ := h
    simp only [List.cons_append, ARels]
    exact ⟨c, _, rfl, h1, h2.append k⟩
theorem RRels.append {R : Nat → Prop} {w : World} : ∀ {xs ys : List RVal} {cs ds : List Value}, RRels R w xs cs → RRels R w ys ds → RRels R w (xs ++ ys) (cs ++ ds)
  | [], _, _, _, h, k => by simp only [RRels] at h; simpa [h] using k
  | x :: xs, _, _, _, h, k => by
    simp only [RRels] at h
    obtain ⟨c, r, rfl, h1, h2⟩ := h
    simp only [List.cons_append, RRels]
    exact ⟨c, _, rfl, h1, h2.append k⟩

theorem ARels.drop {R : Nat → Prop} {μ : Mu} {w : World} : ∀ (n : Nat) {xs : List AVal} {cs : List Value}, ARels R μ w xs cs → ARels R μ w (xs.drop n) (cs.drop n)
  | 0, _, _, h => by simpa using h
  | n + 1, [], _, h => by simp only [ARels] at h; simp [h, ARels]
  | n + 1, x :: xs, _, h => by
    simp only [ARels] at h
    obtain ⟨c, r, rfl, _, h2⟩ := h
    simpa using h2.drop n
theorem ARels.take {R : Nat → Prop} {μ : Mu} {w : World} : ∀ (n : Nat) {xs : List AVal} {cs : List Value}, ARels R μ w xs cs → ARels R μ w (xs.take n) (cs.take n)
  | 0, _, _, _ => by simp [ARels]
  | n + 1, [], _, h => by simp only [ARels] at h; simp [h, ARels]
  | n + 1, x :: xs, _, h => by
    simp only [ARels] at h
    obtain ⟨c, r, rfl, h1, h2⟩ := h
    simp only [List.take_succ_cons, ARels]
    exact ⟨c, _, rfl, h1, h2.take n⟩
theorem RRels.drop {R : Nat → Prop} {w : World} : ∀ (n : Nat) {xs : List RVal} {cs : List Value}, RRels R w xs cs → RRels R w (xs.drop n) (cs.drop n)
  | 0, _, _, h => by simpa using h
  | n + 1, [], _, h => by simp only [RRels] at h; simp [h, RRels]
  | n + 1, x :: xs, _, h => by
    simp only [RRels] at h
    obtain ⟨c, r, rfl, _, h2⟩ := h
    simpa using h2.drop n
theorem RRels.take {R : Nat → Prop} {w : World} : ∀ (n : Nat) {xs : List RVal} {cs : List Value}, RRels R w xs cs → RRels R w (xs.take n) (cs.take n)
  | 0, _, _, _ => by simp [RRels]
  | n + 1, [], _, h => by simp only [RRels] at h; simp [h, RRels]
  | n + 1, x :: xs, _, h => by
    simp only [RRels] at h
    obtain ⟨c, r, rfl, h1, h2⟩ := h
    simp only [List.take_succ_cons, RRels]
    exact ⟨c, _, rfl, h1, h2.take n⟩

theorem ARels.set {R : Nat → Prop} {μ : Mu} {w : World} : ∀ {xs : List AVal} {cs : List Value}, ARels R μ w xs cs → ∀ (i : Nat) {v : AVal} {c : Value}, ARel R μ w v c → ARels R μ w (xs.set i v) (cs.set i c)
  | [], _, h, _, _, _, _ => by simp only [ARels] at h; simp [h, ARels]
  | x :: xs, _, h, i, v, c, hv => by
    simp only [ARels] at h
    obtain ⟨d, r, rfl, h1, h2⟩ := h
    cases i with
    | zero => simp only [List.set_cons_zero, ARels]; exact ⟨c, r, rfl, hv, h2⟩
    | succ i => simp only [List.set_cons_succ, ARels]; exact ⟨d, _, rfl, h1, h2.set i hv⟩

theorem ARels.of_get {R : Nat → Prop} {μ : Mu} {w : World} : ∀ {xs : List AVal} {cs : List Value}, cs.length = xs.length → (∀ (i : Nat) v c, xs[i]? = some v → cs[i]? = some c → ARel R μ w v c) → ARels R μ w xs cs
  | [], cs, hl, _ => by simp only [ARels]; exact List.length_eq_zero_iff.1 (by simpa using hl)
  | x :: xs, [], hl, _ => by simp at hl
  | x :: xs, c :: cs, hl, h => by
    simp only [ARels]
    exact ⟨c, cs, rfl, h 0 x c (by simp) (by simp), ARels.of_get (by simpa using hl) fun i v d h1 h2 => h (i + 1) v d (by simpa using h1) (by simpa using h2)⟩

end Go.Proofs.Ytplfajhaehkhnaa

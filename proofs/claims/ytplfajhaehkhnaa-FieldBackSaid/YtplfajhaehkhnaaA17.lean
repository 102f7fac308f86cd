/-
  ABSTRACT MACHINE, 17: regions that draw their order: one walk in the order of the text serves every order.
-/
import Derived.Test.YtplfajhaehkhnaaA16
import Derived.Orders
namespace Go.Proofs.Ytplfajhaehkhnaa
open Go

section
variable {P : Program} {T : TTab} {f N : Nat} {m : Md}

/-- An operation that leaves the names alone: carried out in whatever registers agree on its operands. -/
def QOp (P : Program) (N : Nat) (h h' : Hp) (o : Oper) (g : Regs) (v : AVal) : Prop :=
  ∀ g' : Regs, (∀ x ∈ o.op.operands, evA g' x = evA g x) → ∀ (X : Ctx) (R : Nat → Prop) (μ : Mu) (a : Act) (w : World) (Q : Exit → Act → World → Prop), a.tmps.size = N → RegRel R μ w g' a.tmps → HRel X R μ h w →
    o.wp P a w (fun a' w' => ∃ cv R' μ', a' = a.put o.dst cv ∧ ARel R' μ' w' v cv ∧ RegRel R' μ' w' g' a.tmps ∧ HRel X R' μ' h' w') Q

/-- Those that turn the heap: whatever has no destination, and what is named. -/
def loudB (ld : List Nat) (o : Oper) : Bool :=
  match o.dst with
  | some d => ld.any (fun e => Nat.beq e d)
  | none => true

/-- What an operation's own registers are: its operands', and its guard's. -/
def looksB (ops : Array Oper) (o : Oper) : List Nat :=
  (o.op.operands.toList.filterMap fun | .tmp t => some t | _ => none) ++
  (match o.guard with
   | some (j, _) => ((ops[j]?).bind (·.dst)).toList
   | none => [])

def maskB (o : Oper) (acc : List Nat) : Nat := o.after.toList.foldl (fun s e => if Region.binds .any e then s ||| 2 ^ e.on ||| acc.getD e.on 0 else s) 0

/-- Of each operation, as bits, which ones it waits for. -/
def befB : List Oper → List Nat → List Nat
  | [], acc => acc
  | o :: rest, acc => befB rest (acc ++ [maskB o acc])

def allIx (p : Oper → Nat → Bool) : List Oper → Nat → Bool
  | [], _ => true
  | o :: rest, i => p o i && allIx p rest (i + 1)

theorem allIx_spec {p : Oper → Nat → Bool} : ∀ {l : List Oper} {k : Nat}, allIx p l k = true → ∀ (i : Nat) o, l[i]? = some o → p o (k + i) = true
  | [], _, _, i, o, h => by simp at h
  | x :: l, k, ha, i, o, h => by
    simp only [allIx, Bool.and_eq_true] at ha
    cases i with
    | zero => simp at h; subst h; exact ha.1
    | succ i => have := allIx_spec ha.2 i o (by simpa using h); rwa [show k + 1 + i = k + (i + 1) by omega] at this

def cntB (ld : List Nat) (ops : Array Oper) : Nat → Nat
  | 0 => 0
  | p + 1 => cntB ld ops p + (match ops[p]? with | some o => bif loudB ld o then 1 else 0 | none => 0)

def sumIx (p : Oper → Nat → Bool) : List Oper → Nat → Nat
  | [], _ => 0
  | o :: rest, i => (bif p o i then 1 else 0) + sumIx p rest (i + 1)

/-- How many of those that turn the heap do not wait for operation i. -/
def limAt (ld : List Nat) (ops : Array Oper) (i : Nat) : Nat :=
  sumIx (fun o p => loudB ld o && !Nat.testBit ((befB ops.toList []).getD p 0) i && !Nat.beq p i) ops.toList 0

/-- The region in the order of the text: 'Hs' are the heaps behind each operation that turns one, 'K' how many these are. -/
def QGo (P : Program) (N : Nat) (ld : List Nat) (ops : Array Oper) (Hs : Nat → Hp) (K : Nat) (F : Regs → Prop) : List Oper → Nat → Nat → Regs → Prop
  | [], _, j, g => j = K ∧ F g
  | o :: rest, ix, j, g =>
    (∃ d, guardB ops g o = some false ∧ o.dst = some d ∧ QGo P N ld ops Hs K F rest (ix + 1) j ((d, .tuple []) :: g)) ∨
    (∃ d v, guardB ops g o = some true ∧ o.dst = some d ∧ Nat.blt d N = true ∧ (∀ i, i ≤ limAt ld ops ix → QOp P N (Hs i) (Hs i) o g v) ∧ QGo P N ld ops Hs K F rest (ix + 1) j ((d, v) :: g)) ∨
    (∃ v, loudB ld o = true ∧ guardB ops g o = some true ∧ (∀ d, o.dst = some d → Nat.blt d N = true) ∧ QOp P N (Hs j) (Hs (j + 1)) o g v ∧ QGo P N ld ops Hs K F rest (ix + 1) (j + 1) (match o.dst with | some d => (d, v) :: g | none => g))

/-- Where something is read that the region writes, the writer is waited for; nothing is written twice; one waits for what stands ahead alone; of two that turn the heap the later waits for the other one; those that do not wait for an operation come first. -/
def drawOk (ld : List Nat) (ops : Array Oper) : Bool :=
  let l := ops.toList
  let B := befB l []
  allIx (fun o i =>
    (o.after.toList.all fun e => !Region.binds .any e || Nat.blt e.on i) &&
    (match o.op with | .select .. => false | _ => true) &&
    ((looksB ops o).all fun t => allIx (fun o' j => (match o'.dst with | some d => !Nat.beq d t | none => true) || Nat.testBit (B.getD i 0) j || (Nat.blt i j && Nat.testBit (B.getD j 0) i)) l 0) &&
    (match o.dst with | some d => allIx (fun o' j => (match o'.dst with | some e => !Nat.beq d e | none => true) || Nat.beq i j) l 0 | none => true) &&
    (!loudB ld o || allIx (fun o' j => !loudB ld o' || !Nat.blt j i || Nat.testBit (B.getD i 0) j) l 0) &&
    allIx (fun o' p => !loudB ld o' || Nat.blt (cntB ld ops p) (limAt ld ops i) || Nat.testBit (B.getD p 0) i || Nat.beq p i) l 0) l 0

theorem befB_get : ∀ (l : List Oper) (acc : List Nat) (i : Nat), (i < acc.length → (befB l acc)[i]? = acc[i]?) ∧ (∀ j o, l[j]? = some o → i = acc.length + j → ∃ pre : List Nat, pre.length = i ∧ (∀ k, k < i → pre[k]? = (befB l acc)[k]?) ∧ (befB l acc)[i]? = some (maskB o pre))
  | [], acc, i => ⟨fun _ => rfl, fun j o h => by simp at h⟩
  | x :: l, acc, i => by
    simp only [befB]
    obtain ⟨h1, h2⟩ := befB_get l (acc ++ [maskB x acc]) i
    refine ⟨fun hi => by rw [h1 (by simp; omega), List.getElem?_append_left hi], fun j o ho hij => ?_⟩
    cases j with
    | zero =>
      simp at ho
      subst ho
      refine ⟨acc, by omega, fun k hk => ?_, ?_⟩
      · have := (befB_get l (acc ++ [maskB x acc]) k).1 (by simp; omega)
        rw [this, List.getElem?_append_left (by omega)]
      · rw [h1 (by simp; omega), hij]
        simp
    | succ j => exact h2 j o (by simpa using ho) (by simp; omega)

theorem maskB_bit {o : Oper} {acc : List Nat} {j : Nat} (h : (maskB o acc).testBit j = true) : ∃ e ∈ o.after.toList, Region.binds .any e = true ∧ (e.on = j ∨ (acc.getD e.on 0).testBit j = true) := by
  unfold maskB at h
  generalize o.after.toList = l at h
  have : ∀ (l : List Edge) (s : Nat), (l.foldl (fun s e => if Region.binds .any e then s ||| 2 ^ e.on ||| acc.getD e.on 0 else s) s).testBit j = true → s.testBit j = true ∨ ∃ e ∈ l, Region.binds .any e = true ∧ (e.on = j ∨ (acc.getD e.on 0).testBit j = true) := by
    intro l
    induction l with
    | nil => intro s h; exact .inl h
    | cons e l ih =>
      intro s h
      simp only [List.foldl_cons] at h
      rcases ih _ h with h1 | ⟨e', he, h2⟩
      · split at h1
        · rename_i hb
          simp only [Nat.testBit_or, Bool.or_eq_true, Nat.testBit_two_pow, decide_eq_true_eq] at h1
          rcases h1 with (h1 | h1) | h1
          · exact .inl h1
          · exact .inr ⟨e, by simp, hb, .inl h1⟩
          · exact .inr ⟨e, by simp, hb, .inr h1⟩
        · exact .inl h1
      · exact .inr ⟨e', by simp [he], h2⟩
  rcases this l 0 h with h1 | h1
  · simp at h1
  · exact h1

/-- A set of operations that are over: whatever one of them waited for is over. -/
def Closed (ops : Array Oper) (listed : Array Bool) : Prop := ∀ i o, listed.getD i false = true → ops[i]? = some o → ∀ e ∈ o.after, Region.binds .any e = true → listed.getD e.on false = true

theorem bef_listed {ops : Array Oper} (hlt : ∀ (i : Nat) o, ops[i]? = some o → ∀ e ∈ o.after, Region.binds .any e = true → e.on < i) {listed : Array Bool} (hc : Closed ops listed) :
    ∀ (i : Nat) o, ops[i]? = some o → (∀ e ∈ o.after, Region.binds .any e = true → listed.getD e.on false = true) → ∀ j, ((befB ops.toList []).getD i 0).testBit j = true → listed.getD j false = true := by
  intro i
  induction i using Nat.strongRecOn with
  | _ i ih =>
    intro o ho hd j hj
    obtain ⟨pre, hp1, hp2, hp3⟩ := (befB_get ops.toList [] i).2 i o (by simpa using ho) (by simp)
    have hget : (befB ops.toList []).getD i 0 = maskB o pre := by simp [List.getD, hp3]
    rw [hget] at hj
    obtain ⟨e, he, hb, h1⟩ := maskB_bit hj
    have he' : e ∈ o.after := by simpa using he
    rcases h1 with rfl | h1
    · exact hd e he' hb
    · have hei := hlt i o ho e he' hb
      have hpe : pre.getD e.on 0 = (befB ops.toList []).getD e.on 0 := by simp only [List.getD, hp2 e.on hei]
      rw [hpe] at h1
      have hil : i < ops.size := (Array.getElem?_eq_some_iff.1 ho).1
      have hoe : ops[e.on]? = some ops[e.on] := Array.getElem?_eq_getElem (by omega)
      exact ih e.on hei _ hoe (fun e2 he2 hb2 => hc e.on _ (hd e he' hb) hoe e2 he2 hb2) j h1

def cntL (L : Nat → Bool) : Nat → Nat
  | 0 => 0
  | i + 1 => cntL L i + (if L i then 1 else 0)

/-- One operation, as the walk in the order of the text took it. -/
def StepAt (P : Program) (N : Nat) (ld : List Nat) (ops : Array Oper) (Hs : Nat → Hp) (ix : Nat) (o : Oper) (g g' : Regs) (v : AVal) (l : Bool) (c : Nat) : Prop :=
  (l = false ∧ guardB ops g o = some false ∧ v = .tuple [] ∧ ∃ d, o.dst = some d ∧ g' = (d, v) :: g) ∨
  (l = false ∧ guardB ops g o = some true ∧ (∃ d, o.dst = some d ∧ Nat.blt d N = true ∧ g' = (d, v) :: g) ∧ ∀ i, i ≤ limAt ld ops ix → QOp P N (Hs i) (Hs i) o g v) ∨
  (l = true ∧ loudB ld o = true ∧ guardB ops g o = some true ∧ (∀ d, o.dst = some d → Nat.blt d N = true) ∧ QOp P N (Hs c) (Hs (c + 1)) o g v ∧ g' = (match o.dst with | some d => (d, v) :: g | none => g))

theorem qgo_trace {ld : List Nat} {ops : Array Oper} {Hs : Nat → Hp} {K : Nat} {F : Regs → Prop} : ∀ {rest : List Oper} {ix j : Nat} {g : Regs}, QGo P N ld ops Hs K F rest ix j g →
    ∃ (G : Nat → Regs) (L : Nat → Bool) (V : Nat → AVal), G 0 = g ∧ F (G rest.length) ∧ j + cntL L rest.length = K ∧ ∀ (i : Nat) o, rest[i]? = some o → StepAt P N ld ops Hs (ix + i) o (G i) (G (i + 1)) (V i) (L i) (j + cntL L i)
  | [], ix, j, g, h => ⟨fun _ => g, fun _ => false, fun _ => .any, rfl, h.2, by simpa [cntL] using h.1, fun i o hi => by simp at hi⟩
  | o :: rest, ix, j, g, h => by
    have build : ∀ (l : Bool) (v : AVal) (g1 : Regs), StepAt P N ld ops Hs ix o g g1 v l j → QGo P N ld ops Hs K F rest (ix + 1) (j + if l then 1 else 0) g1 →
        ∃ (G : Nat → Regs) (L : Nat → Bool) (V : Nat → AVal), G 0 = g ∧ F (G (o :: rest).length) ∧ j + cntL L (o :: rest).length = K ∧ ∀ (i : Nat) o', (o :: rest)[i]? = some o' → StepAt P N ld ops Hs (ix + i) o' (G i) (G (i + 1)) (V i) (L i) (j + cntL L i) := by
      intro l v g1 hs hq
      obtain ⟨G, L, V, h1, h2, h3, h4⟩ := qgo_trace hq
      have hcnt : ∀ n, cntL (fun i => match i with | 0 => l | i + 1 => L i) (n + 1) = (if l then 1 else 0) + cntL L n := by
        intro n
        induction n with
        | zero => simp [cntL]
        | succ n ih => rw [cntL, ih]; simp only [cntL]; omega
      refine ⟨fun i => match i with | 0 => g | i + 1 => G i, fun i => match i with | 0 => l | i + 1 => L i, fun i => match i with | 0 => v | i + 1 => V i, rfl, h2, ?_, ?_⟩
      · rw [List.length_cons, hcnt]; omega
      · intro i o' hi
        cases i with
        | zero => simp at hi; subst hi; simp only [cntL, Nat.add_zero, h1]; exact hs
        | succ i =>
          have := h4 i o' (by simpa using hi)
          rw [hcnt]
          rw [show j + ((if l then 1 else 0) + cntL L i) = (j + if l then 1 else 0) + cntL L i by omega, show ix + (i + 1) = ix + 1 + i by omega]
          exact this
    rcases h with ⟨d, h1, h2, h3⟩ | ⟨d, v, h1, h2, h3, h4, h5⟩ | ⟨v, h0, h1, h2, h3, h4⟩
    · exact build false (.tuple []) _ (.inl ⟨rfl, h1, rfl, d, h2, rfl⟩) (by simpa using h3)
    · exact build false v _ (.inr (.inl ⟨rfl, h1, ⟨d, h2, h3, rfl⟩, h4⟩)) (by simpa using h5)
    · exact build true v _ (.inr (.inr ⟨rfl, h0, h1, h2, h3, rfl⟩)) (by simpa using h4)

/-- The registers when those that are listed are over. -/
def entL (ops : Array Oper) (V : Nat → AVal) (listed : Array Bool) : Nat → Regs
  | 0 => []
  | i + 1 =>
    match listed.getD i false, (ops[i]?).bind (·.dst) with
    | true, some d => (d, V i) :: entL ops V listed i
    | _, _ => entL ops V listed i

theorem look_app (a b : Regs) (t : Nat) : (∃ v, (t, v) ∈ a) ∨ lookR (a ++ b) t = lookR b t := by
  induction a with
  | nil => exact .inr rfl
  | cons p a ih =>
    obtain ⟨s, v⟩ := p
    by_cases e : s = t
    · subst e; exact .inl ⟨v, by simp⟩
    · rcases ih with ⟨u, hu⟩ | hu
      · exact .inl ⟨u, by simp [hu]⟩
      · right; simp only [List.cons_append, lookR, beq_ne e, cond_false]; exact hu

/-- Of a register that operation i writes, and no other one: its value, if i is listed. -/
theorem entL_look {ops : Array Oper} {V : Nat → AVal} {listed : Array Bool} {g : Regs} {t : Nat} : ∀ (n : Nat), (∀ i, i < n → (ops[i]?).bind (·.dst) = some t → listed.getD i false = false) → lookR (entL ops V listed n ++ g) t = lookR g t
  | 0, _ => rfl
  | n + 1, h => by
    simp only [entL]
    have ih := entL_look (V := V) (g := g) n fun i hi => h i (by omega)
    split
    · rename_i d h1 h2
      simp only [List.cons_append, lookR]
      by_cases e : d = t
      · subst e; have := h n (by omega) h2; rw [h1] at this; simp at this
      · rw [beq_ne e]; exact ih
    · exact ih

theorem entL_hit {ops : Array Oper} {V : Nat → AVal} {listed : Array Bool} {g : Regs} {t i : Nat} (hd : (ops[i]?).bind (·.dst) = some t) (hl : listed.getD i false = true) (huniq : ∀ j, (ops[j]?).bind (·.dst) = some t → j = i) :
    ∀ (n : Nat), i < n → lookR (entL ops V listed n ++ g) t = V i
  | 0, h => absurd h (Nat.not_lt_zero _)
  | n + 1, h => by
    simp only [entL]
    by_cases e : i = n
    · subst e
      rw [hl, hd]
      simp [lookR]
    · have ih := entL_hit (V := V) (g := g) hd hl huniq n (by omega)
      split
      · rename_i d h1 h2
        simp only [List.cons_append, lookR]
        by_cases e2 : d = t
        · subst e2; exact absurd (huniq n h2).symm e
        · rw [beq_ne e2]; exact ih
      · exact ih


structure DrawFacts (ld : List Nat) (ops : Array Oper) : Prop where
  lt : ∀ (i : Nat) o, ops[i]? = some o → ∀ e ∈ o.after, Region.binds .any e = true → e.on < i
  sel : ∀ (i : Nat) o, ops[i]? = some o → ∀ cs b, o.op ≠ .select cs b
  looks : ∀ (i : Nat) o, ops[i]? = some o → ∀ t ∈ looksB ops o, ∀ j, (ops[j]?).bind (·.dst) = some t → ((befB ops.toList []).getD i 0).testBit j = true ∨ (i < j ∧ ((befB ops.toList []).getD j 0).testBit i = true)
  uniq : ∀ (i j t : Nat), (ops[i]?).bind (·.dst) = some t → (ops[j]?).bind (·.dst) = some t → i = j
  loud : ∀ (i j : Nat) o o', ops[i]? = some o → ops[j]? = some o' → loudB ld o = true → loudB ld o' = true → j < i → ((befB ops.toList []).getD i 0).testBit j = true
  lim : ∀ (i p : Nat) o o', ops[i]? = some o → ops[p]? = some o' → loudB ld o' = true → limAt ld ops i ≤ cntB ld ops p → p ≠ i → ((befB ops.toList []).getD p 0).testBit i = true

theorem drawFacts {ld : List Nat} {ops : Array Oper} (h : drawOk ld ops = true) : DrawFacts ld ops := by
  unfold drawOk at h
  have key : ∀ (i : Nat) o, ops[i]? = some o → _ := fun i o ho => by
    have := allIx_spec h i o (by simpa using ho)
    simp only [Nat.zero_add, Bool.and_eq_true] at this
    exact this
  have get : ∀ (j : Nat) (t : Nat), (ops[j]?).bind (·.dst) = some t → ∃ o', ops[j]? = some o' ∧ o'.dst = some t := by
    intro j t hj
    cases hq : ops[j]? with
    | none => rw [hq] at hj; simp at hj
    | some o' => rw [hq] at hj; exact ⟨o', rfl, by simpa using hj⟩
  refine ⟨?_, ?_, ?_, ?_, ?_, ?_⟩
  · intro i o ho e he hb
    have := (List.all_eq_true.1 (key i o ho).1.1.1.1.1) e (by simpa using he)
    rw [hb] at this
    simpa [Nat.blt_eq] using this
  · intro i o ho cs b e
    have := (key i o ho).1.1.1.1.2
    rw [e] at this
    simp at this
  · intro i o ho t ht j hj
    obtain ⟨o', h1, h2⟩ := get j t hj
    have := allIx_spec ((List.all_eq_true.1 (key i o ho).1.1.1.2) t ht) j o' (by simpa using h1)
    rw [h2] at this
    simp only [Nat.beq_refl, Bool.not_true, Bool.false_or, Nat.zero_add, Bool.or_eq_true, Bool.and_eq_true] at this
    rcases this with h3 | h3
    · exact .inl h3
    · exact .inr ⟨Nat.le_of_ble_eq_true h3.1, h3.2⟩
  · intro i j t hi hj
    obtain ⟨o, h1, h2⟩ := get i t hi
    obtain ⟨o', h3, h4⟩ := get j t hj
    have := (key i o h1).1.1.2
    rw [h2] at this
    have := allIx_spec this j o' (by simpa using h3)
    rw [h4] at this
    simpa using this
  · intro i j o o' h1 h2 h3 h4 h5
    have := (key i o h1).1.2
    rw [h3] at this
    simp only [Bool.not_true, Bool.false_or] at this
    have := allIx_spec this j o' (by simpa using h2)
    rw [h4] at this
    simp only [Nat.zero_add, Bool.not_true, Bool.false_or, Bool.or_eq_true, Bool.not_eq_true'] at this
    rcases this with h6 | h6
    · have : Nat.blt j i = true := by simpa [Nat.blt_eq] using h5
      rw [this] at h6; simp at h6
    · exact h6
  · intro i p o o' h1 h2 h3 h4 h5
    have := allIx_spec (key i o h1).2 p o' (by simpa using h2)
    simp only [Nat.zero_add, h3, Bool.not_true, Bool.false_or, Bool.or_eq_true] at this
    rcases this with (h6 | h6) | h6
    · have : cntB ld ops p < limAt ld ops i := Nat.le_of_ble_eq_true h6
      omega
    · exact h6
    · exact absurd (Nat.eq_of_beq_eq_true h6) h5

theorem cntL_le_cntB {ld : List Nat} {ops : Array Oper} {L : Nat → Bool} (h : ∀ (i : Nat) o, ops[i]? = some o → L i = true → loudB ld o = true) : ∀ p, p ≤ ops.size → cntL L p ≤ cntB ld ops p
  | 0, _ => Nat.le_refl _
  | p + 1, hp => by
    have ih := cntL_le_cntB h p (by omega)
    simp only [cntL, cntB]
    have ho : ops[p]? = some ops[p] := Array.getElem?_eq_getElem (by omega)
    rw [ho]
    cases hL : L p
    · simp only [Bool.false_eq_true, if_false]; omega
    · simp only [h p _ ho hL, cond_true, if_true]; omega

theorem cntL_le {L : Nat → Bool} : ∀ {i j : Nat}, i ≤ j → cntL L i ≤ cntL L j
  | i, 0, h => by have : i = 0 := by omega
                  subst this; exact Nat.le_refl _
  | i, j + 1, h => by
    rcases Nat.lt_or_ge j i with h1 | h1
    · have : i = j + 1 := by omega
      subst this; exact Nat.le_refl _
    · simp only [cntL]; have := cntL_le (L := L) h1; omega

/-- How many of those that turn the heap are over. -/
def cntD (L : Nat → Bool) (listed : Array Bool) : Nat → Nat
  | 0 => 0
  | i + 1 => cntD L listed i + (if L i && listed.getD i false then 1 else 0)

theorem cntD_prefix {L : Nat → Bool} {listed : Array Bool} {i : Nat} (h1 : ∀ j, j < i → L j = true → listed.getD j false = true) (h2 : ∀ j, i ≤ j → L j = true → listed.getD j false = false) : ∀ n, i ≤ n → cntD L listed n = cntL L i := by
  have low : ∀ n, n ≤ i → cntD L listed n = cntL L n := by
    intro n
    induction n with
    | zero => intro _; rfl
    | succ n ih =>
      intro hn
      simp only [cntD, cntL, ih (by omega)]
      cases hL : L n
      · simp
      · simp [h1 n (by omega) hL]
  intro n
  induction n with
  | zero => intro hn; have : i = 0 := by omega
            subst this; rfl
  | succ n ih =>
    intro hn
    rcases Nat.lt_or_ge n i with h3 | h3
    · have : i = n + 1 := by omega
      rw [← this]; exact low i (Nat.le_refl _)
    · simp only [cntD, ih h3]
      cases hL : L n
      · simp
      · simp [h2 n h3 hL]

theorem cntD_set {L : Nat → Bool} {listed : Array Bool} {i : Nat} (hi : i < listed.size) (hn : listed.getD i false = false) : ∀ n, cntD L (listed.setIfInBounds i true) n = cntD L listed n + (if L i && decide (i < n) then 1 else 0)
  | 0 => by simp [cntD]
  | n + 1 => by
    simp only [cntD, cntD_set hi hn n]
    by_cases e : i = n
    · subst e
      have h1 : (listed.setIfInBounds i true).getD i false = true := by simp [Array.getD, hi]
      rw [h1, hn]
      cases L i <;> simp
    · have h1 : (listed.setIfInBounds i true).getD n false = listed.getD n false := by
        simp only [Array.getD_eq_getD_getElem?, Array.getElem?_setIfInBounds, e, if_false]
      rw [h1]
      by_cases h2 : i < n
      · simp [h2, show i < n + 1 by omega]; omega
      · simp [h2, show ¬ i < n + 1 by omega]

theorem cntD_all {L : Nat → Bool} {listed : Array Bool} {n : Nat} (h : ∀ i, i < n → listed.getD i false = true) : ∀ k, k ≤ n → cntD L listed k = cntL L k
  | 0, _ => rfl
  | k + 1, hk => by simp only [cntD, cntL, cntD_all h k (by omega), h k (by omega)]; simp

theorem guardB_congr {ops : Array Oper} {g g' : Regs} {o : Oper} (h : ∀ t ∈ looksB ops o, lookR g' t = lookR g t) : guardB ops g' o = guardB ops g o := by
  unfold guardB
  unfold looksB at h
  cases hg : o.guard with
  | none => rfl
  | some p =>
    obtain ⟨j, want⟩ := p
    simp only
    cases hq : (ops[j]?).bind (·.dst) with
    | none => rfl
    | some t =>
      simp only
      rw [h t (by simp [hg, hq])]

theorem evA_congr {ops : Array Oper} {g g' : Regs} {o : Oper} (h : ∀ t ∈ looksB ops o, lookR g' t = lookR g t) : ∀ x ∈ o.op.operands, evA g' x = evA g x := by
  intro x hx
  cases x with
  | tmp t => exact h t (List.mem_append_left _ (List.mem_filterMap.2 ⟨.tmp t, by simpa using hx, rfl⟩))
  | _ => rfl

/-- What holds while the operations of a region are carried out in whatever order. -/
structure DInv (X : Ctx) (N : Nat) (ops : Array Oper) (Hs : Nat → Hp) (V : Nat → AVal) (L : Nat → Bool) (g0 : Regs) (listed : Array Bool) (a : Act) (w : World) : Prop where
  size : listed.size = ops.size
  defers : a.defers = X.defers
  tmps : a.tmps.size = N
  closed : Closed ops listed
  rel : ∃ R μ, RegRel R μ w (entL ops V listed ops.size ++ g0) a.tmps ∧ HRel X R μ (Hs (cntD L listed ops.size)) w

/-- How many are not over. -/
def unlN (listed : Array Bool) : Nat → Nat
  | 0 => 0
  | i + 1 => unlN listed i + (if listed.getD i false then 0 else 1)

theorem unlN_zero {listed : Array Bool} : ∀ {n : Nat}, unlN listed n = 0 → ∀ i, i < n → listed.getD i false = true
  | 0, _, i, hi => absurd hi (Nat.not_lt_zero _)
  | n + 1, h, i, hi => by
    simp only [unlN] at h
    cases hq : listed.getD n false with
    | false => rw [hq] at h; simp at h
    | true =>
      rcases Nat.lt_or_ge i n with h1 | h1
      · exact unlN_zero (n := n) (by omega) i h1
      · have : i = n := by omega
        subst this; exact hq

theorem getD_set_ne' {listed : Array Bool} {i j : Nat} (e : ¬ i = j) : (listed.setIfInBounds i true).getD j false = listed.getD j false := by
  simp only [Array.getD_eq_getD_getElem?, Array.getElem?_setIfInBounds, e, if_false]

theorem getD_set_eq' {listed : Array Bool} {i : Nat} (hi : i < listed.size) : (listed.setIfInBounds i true).getD i false = true := by simp [Array.getD, hi]

theorem unlN_set {listed : Array Bool} {i : Nat} (hi : i < listed.size) (hn : listed.getD i false = false) : ∀ n, unlN (listed.setIfInBounds i true) n + (if i < n then 1 else 0) = unlN listed n
  | 0 => by simp [unlN]
  | n + 1 => by
    have ih := unlN_set hi hn n
    simp only [unlN]
    by_cases e : i = n
    · subst e
      rw [getD_set_eq' hi, hn]
      simp at ih ⊢
      omega
    · rw [getD_set_ne' e]
      by_cases h2 : i < n
      · rw [if_pos h2] at ih
        rw [if_pos (show i < n + 1 by omega)]
        generalize (if listed.getD n false = true then 0 else 1) = z
        omega
      · rw [if_neg h2] at ih
        rw [if_neg (show ¬ i < n + 1 by omega)]
        generalize (if listed.getD n false = true then 0 else 1) = z
        omega

theorem cntD_le {L : Nat → Bool} {listed : Array Bool} : ∀ n, cntD L listed n ≤ cntL L n
  | 0 => Nat.le_refl _
  | n + 1 => by
    simp only [cntD, cntL]
    have := cntD_le (L := L) (listed := listed) n
    cases L n <;> cases listed.getD n false <;> simp <;> omega

/-- One more is over: of every other register nothing has turned. -/
theorem entL_set {ops : Array Oper} {V : Nat → AVal} {listed : Array Bool} {g : Regs} {i t : Nat} (hne : (ops[i]?).bind (·.dst) ≠ some t) : ∀ n, lookR (entL ops V (listed.setIfInBounds i true) n ++ g) t = lookR (entL ops V listed n ++ g) t
  | 0 => rfl
  | n + 1 => by
    have ih := entL_set (V := V) (listed := listed) (g := g) hne n
    simp only [entL]
    by_cases e : i = n
    · subst e
      cases hd : (ops[i]?).bind (·.dst) with
      | none => cases (listed.setIfInBounds i true).getD i false <;> cases listed.getD i false <;> exact ih
      | some d =>
        have hdt : ¬ d = t := fun e2 => hne (by rw [hd, e2])
        have : ∀ b : Bool, lookR ((match b, some d with | true, some d => (d, V i) :: entL ops V (listed.setIfInBounds i true) i | _, _ => entL ops V (listed.setIfInBounds i true) i) ++ g) t = lookR (entL ops V (listed.setIfInBounds i true) i ++ g) t := by
          intro b; cases b
          · rfl
          · simp only [List.cons_append, lookR, beq_ne hdt, cond_false]
        have h2 : ∀ b : Bool, lookR ((match b, some d with | true, some d => (d, V i) :: entL ops V listed i | _, _ => entL ops V listed i) ++ g) t = lookR (entL ops V listed i ++ g) t := by
          intro b; cases b
          · rfl
          · simp only [List.cons_append, lookR, beq_ne hdt, cond_false]
        rw [this, h2]; exact ih
    · rw [getD_set_ne' e]
      split
      · rename_i d _ _
        simp only [List.cons_append, lookR]
        by_cases e2 : d = t
        · subst e2; simp
        · rw [beq_ne e2]; exact ih
      · exact ih

theorem bef_lt {ops : Array Oper} (hlt : ∀ (i : Nat) o, ops[i]? = some o → ∀ e ∈ o.after, Region.binds .any e = true → e.on < i) {i : Nat} {o : Oper} (ho : ops[i]? = some o) {j : Nat} (hj : ((befB ops.toList []).getD i 0).testBit j = true) : j < i := by
  have hget : ∀ k, (((List.range i).map fun _ => true).toArray).getD k false = true ↔ k < i := by
    intro k
    simp only [Array.getD_eq_getD_getElem?, List.getElem?_toArray, List.getElem?_map]
    rcases Nat.lt_or_ge k i with h | h
    · simp [h]
    · simp [Nat.not_lt.2 h]
  have := bef_listed hlt (listed := ((List.range i).map fun _ => true).toArray) (fun k o' hk ho' e he hb => (hget _).2 (Nat.lt_trans (hlt k o' ho' e he hb) ((hget _).1 hk))) i o ho (fun e he hb => (hget _).2 (hlt i o ho e he hb)) j hj
  exact (hget j).1 this

theorem cntD_last {L : Nat → Bool} {listed : Array Bool} {c : Nat} : ∀ n, c < cntD L listed n → ∃ p, p < n ∧ L p = true ∧ listed.getD p false = true ∧ c ≤ cntL L p
  | 0, h => absurd h (Nat.not_lt_zero _)
  | n + 1, h => by
    simp only [cntD] at h
    cases hq : (L n && listed.getD n false) with
    | false =>
      rw [hq] at h
      obtain ⟨p, h1, h2⟩ := cntD_last n (by simpa using h)
      exact ⟨p, by omega, h2⟩
    | true =>
      rw [hq] at h
      simp only [Bool.and_eq_true] at hq
      have := cntD_le (L := L) (listed := listed) n
      simp only [if_true] at h
      exact ⟨n, by omega, hq.1, hq.2, by omega⟩

theorem draw_any {X : Ctx} {ld : List Nat} {ops : Array Oper} {Hs : Nat → Hp} {K : Nat} {V : Nat → AVal} {L : Nat → Bool} {G : Nat → Regs} (D : DrawFacts ld ops) (hK : cntL L ops.size = K)
    (hst : ∀ (i : Nat) o, ops[i]? = some o → StepAt P N ld ops Hs i o (G i) (G (i + 1)) (V i) (L i) (cntL L i)) {Q : Exit → Act → World → Prop}
    (hQ : ∀ a w R μ, a.defers = X.defers → a.tmps.size = N → RegRel R μ w (G ops.size) a.tmps → HRel X R μ (Hs K) w → Q .normal a w) :
    ∀ (fuel : Nat) (listed : Array Bool) (a : Act) (w : World), DInv X N ops Hs V L (G 0) listed a w → unlN listed ops.size ≤ fuel → wpAny P .any ops Q fuel listed a w := by
  -- what the registers are, text order against any order
  have hlookG : ∀ (i : Nat), i ≤ ops.size → ∀ t, (∃ j, j < i ∧ (ops[j]?).bind (·.dst) = some t ∧ lookR (G i) t = V j) ∨ ((∀ j, j < i → (ops[j]?).bind (·.dst) ≠ some t) ∧ lookR (G i) t = lookR (G 0) t) := by
    intro i
    induction i with
    | zero => intro _ t; exact .inr ⟨fun j hj => absurd hj (Nat.not_lt_zero _), rfl⟩
    | succ i ih =>
      intro hi t
      have ho : ops[i]? = some ops[i] := Array.getElem?_eq_getElem (by omega)
      have hstep : G (i + 1) = (match (ops[i]).dst with | some d => (d, V i) :: G i | none => G i) := by
        rcases hst i _ ho with ⟨_, _, _, d, h1, h2⟩ | ⟨_, _, ⟨d, h1, _, h2⟩, _⟩ | ⟨_, _, _, _, _, h2⟩
        · rw [h2, h1]
        · rw [h2, h1]
        · exact h2
      cases hd : (ops[i]).dst with
      | none =>
        rw [hd] at hstep
        simp only at hstep
        rw [hstep]
        rcases ih (by omega) t with ⟨j, h1, h2, h3⟩ | ⟨h1, h2⟩
        · exact .inl ⟨j, by omega, h2, h3⟩
        · refine .inr ⟨fun j hj => ?_, h2⟩
          rcases Nat.lt_or_ge j i with h3 | h3
          · exact h1 j h3
          · have : j = i := by omega
            subst this; rw [ho]; simp [hd]
      | some d =>
        rw [hd] at hstep
        simp only at hstep
        rw [hstep]
        simp only [lookR]
        by_cases e : d = t
        · subst e
          exact .inl ⟨i, by omega, by rw [ho]; simp [hd], by simp⟩
        · rw [beq_ne e]
          rcases ih (by omega) t with ⟨j, h1, h2, h3⟩ | ⟨h1, h2⟩
          · exact .inl ⟨j, by omega, h2, h3⟩
          · refine .inr ⟨fun j hj => ?_, h2⟩
            rcases Nat.lt_or_ge j i with h3 | h3
            · exact h1 j h3
            · have : j = i := by omega
              subst this; rw [ho]; simp [hd, e]
  have hidx : ∀ (j t : Nat), (ops[j]?).bind (·.dst) = some t → j < ops.size := by
    intro j t hj
    cases hq : ops[j]? with
    | none => rw [hq] at hj; simp at hj
    | some o => exact (Array.getElem?_eq_some_iff.1 hq).1
  have hdone : ∀ (listed : Array Bool) (a : Act) (w : World), DInv X N ops Hs V L (G 0) listed a w → (∀ i, i < ops.size → listed.getD i false = true) → Q .normal a w := by
    intro listed a w hI hall
    obtain ⟨R, μ, h1, h2⟩ := hI.rel
    refine hQ a w R μ hI.defers hI.tmps (fun t => ?_) (by rw [← hK, ← cntD_all hall ops.size (Nat.le_refl _)]; exact h2)
    have h3 := h1 t
    rcases hlookG ops.size (Nat.le_refl _) t with ⟨j, h4, h5, h6⟩ | ⟨h4, h6⟩
    · rw [entL_hit h5 (hall j h4) (fun j' hj' => D.uniq j' j t hj' h5) ops.size h4] at h3
      rw [h6]; exact h3
    · rw [entL_look ops.size (fun i hi hd => absurd hd (h4 i hi))] at h3
      rw [h6]; exact h3
  have hready : ∀ (listed : Array Bool), listed.size = ops.size → Region.ready .any ops listed = [] → ∀ i, i < ops.size → listed.getD i false = true := by
    intro listed hs hr i
    induction i using Nat.strongRecOn with
    | _ i ihi =>
      intro hi
      cases hq : listed.getD i false with
      | true => rfl
      | false =>
        have ho : ops[i]? = some ops[i] := Array.getElem?_eq_getElem hi
        have : i ∈ Region.ready .any ops listed := mem_ready.2 ⟨by
          have : listed.getD i true = listed.getD i false := by simp [Array.getD, hs, hi]
          rw [this]; exact hq, _, ho, fun e he hb => ihi e.on (D.lt i _ ho e he hb) (Nat.lt_trans (D.lt i _ ho e he hb) hi)⟩
        rw [hr] at this
        simp at this
  intro fuel
  induction fuel with
  | zero =>
    intro listed a w hI hc
    have hall := unlN_zero (Nat.le_zero.1 hc)
    refine ⟨?_, hdone listed a w hI hall⟩
    apply List.eq_nil_iff_forall_not_mem.2
    intro i hi
    obtain ⟨h1, o, h2, _⟩ := mem_ready.1 hi
    have hlt : i < ops.size := (Array.getElem?_eq_some_iff.1 h2).1
    have h3 := hall i hlt
    have : listed.getD i true = listed.getD i false := by simp [Array.getD, hI.size, hlt]
    rw [this, h3] at h1
    simp at h1
  | succ fuel ih =>
    intro listed a w hI hc
    refine ⟨fun hr => hdone listed a w hI (hready listed hI.size hr), fun i hi => ?_⟩
    obtain ⟨h1, o, ho, hdep⟩ := mem_ready.1 hi
    have hlt : i < ops.size := (Array.getElem?_eq_some_iff.1 ho).1
    have hlt' : i < listed.size := by rw [hI.size]; exact hlt
    have hun : listed.getD i false = false := by
      have : listed.getD i true = listed.getD i false := by simp [Array.getD, hlt']
      rw [← this]; exact h1
    have hbef : ∀ j, ((befB ops.toList []).getD i 0).testBit j = true → listed.getD j false = true := bef_listed D.lt hI.closed i o ho hdep
    have hagree : ∀ t ∈ looksB ops o, lookR (entL ops V listed ops.size ++ G 0) t = lookR (G i) t := by
      intro t ht
      rcases hlookG i (Nat.le_of_lt hlt) t with ⟨j, h4, h5, h6⟩ | ⟨h4, h6⟩
      · rw [h6]
        rcases D.looks i o ho t ht j h5 with h7 | h7
        · exact entL_hit h5 (hbef j h7) (fun j' hj' => D.uniq j' j t hj' h5) ops.size (by omega)
        · exact absurd h7.1 (by omega)
      · rw [h6]
        refine entL_look ops.size (fun j hj hd => ?_)
        rcases D.looks i o ho t ht j hd with h7 | h7
        · exact absurd hd (h4 j (bef_lt D.lt ho h7))
        · cases hq : listed.getD j false with
          | false => rfl
          | true =>
            have hoj : ops[j]? = some ops[j] := Array.getElem?_eq_getElem hj
            have := bef_listed D.lt hI.closed j _ hoj (fun e he hb => hI.closed j _ hq hoj e he hb) i h7.2
            rw [hun] at this; cases this
    obtain ⟨R, μ, hreg, hheap⟩ := hI.rel
    have hg := guardB_congr (ops := ops) hagree
    have hev := evA_congr hagree
    have hclosed : Closed ops (listed.setIfInBounds i true) := by
      intro k o' hk ho' e he hb
      by_cases e1 : i = k
      · subst e1
        rw [ho] at ho'; cases ho'
        have := hdep e he hb
        by_cases e2 : i = e.on
        · rw [← e2]; exact getD_set_eq' hlt'
        · rw [getD_set_ne' e2]; exact this
      · rw [getD_set_ne' e1] at hk
        have := hI.closed k o' hk ho' e he hb
        by_cases e2 : i = e.on
        · rw [← e2]; exact getD_set_eq' hlt'
        · rw [getD_set_ne' e2]; exact this
    have hcount : unlN (listed.setIfInBounds i true) ops.size ≤ fuel := by
      have := unlN_set hlt' hun ops.size
      rw [if_pos hlt] at this
      omega
    -- the registers behind it
    have hregs : ∀ (R' : Nat → Prop) (μ' : Mu) (w' : World) (cv : Value), RegRel R' μ' w' (entL ops V listed ops.size ++ G 0) a.tmps → (∀ d, o.dst = some d → ARel R' μ' w' (V i) cv) → (∀ d, o.dst = some d → (V i = .tuple [] ∧ cv = undef) ∨ d < a.tmps.size) →
        RegRel R' μ' w' (entL ops V (listed.setIfInBounds i true) ops.size ++ G 0) (a.put o.dst cv).tmps := by
      intro R' μ' w' cv hr hv hsz t
      cases hd : o.dst with
      | none =>
        rw [entL_set (by rw [ho]; simp [hd]) ops.size]
        exact hr t
      | some d =>
        by_cases e : d = t
        · subst e
          rw [entL_hit (i := i) (by rw [ho]; simp [hd]) (getD_set_eq' hlt') (fun j hj => D.uniq j i d hj (by rw [ho]; simp [hd])) ops.size hlt]
          rcases hsz d hd with ⟨h, rfl⟩ | h
          · rw [h]; exact arel_undefAt _ _
          · simp only [Act.put]
            have : (a.tmps.setIfInBounds d cv).getD d undef = cv := by simp [Array.getD, h]
            rw [this]; exact hv d hd
        · rw [entL_set (by rw [ho]; simp [hd, e]) ops.size]
          simp only [Act.put]
          have := hr t
          simpa only [Array.getD_eq_getD_getElem?, Array.getElem?_setIfInBounds, e, if_false] using this
    simp only [wpOp, ho]
    rcases hst i o ho with ⟨hL, hgd, hv, d, hd, _⟩ | ⟨hL, hgd, ⟨d, hd, hN, _⟩, hq⟩ | ⟨hL, hloud, hgd, hN, hq, _⟩
    · have hw := guardB_wanted (hg.trans hgd) hreg
      rw [hw]
      simp only [Bool.false_eq_true, if_false]
      refine ih _ _ _ ⟨by simp [hI.size], by rw [put_defers]; exact hI.defers, by rw [put_size]; exact hI.tmps, hclosed, R, μ, ?_, ?_⟩ hcount
      · exact hregs R μ w undef hreg (fun _ _ => by rw [hv]; exact arel_undef) (fun _ _ => .inl ⟨hv, rfl⟩)
      · rw [cntD_set hlt' hun, hL]; simpa using hheap
    · have hw := guardB_wanted (hg.trans hgd) hreg
      rw [hw]
      simp only [if_true]
      left
      have hle : cntD L listed ops.size ≤ limAt ld ops i := by
        refine Nat.le_of_not_lt fun hgt => ?_
        obtain ⟨p, hp, hLp, hlp, hcp⟩ := cntD_last (L := L) (listed := listed) ops.size hgt
        have hop : ops[p]? = some ops[p] := Array.getElem?_eq_getElem hp
        have hne : p ≠ i := by rintro rfl; rw [hun] at hlp; cases hlp
        have hlB : ∀ (q : Nat) o', ops[q]? = some o' → L q = true → loudB ld o' = true := by
          intro q o' hq hLq
          rcases hst q o' hq with ⟨h, _⟩ | ⟨h, _⟩ | ⟨_, h, _⟩
          · rw [hLq] at h; cases h
          · rw [hLq] at h; cases h
          · exact h
        have hbit := D.lim i p o _ ho hop (hlB p _ hop hLp) (Nat.le_trans hcp (cntL_le_cntB hlB p (Nat.le_of_lt hp))) hne
        have := bef_listed D.lt hI.closed p _ hop (fun e he hb => hI.closed p _ hlp hop e he hb) i hbit
        rw [hun] at this; cases this
      refine Oper.wp_mono ?_ (hq _ hle (entL ops V listed ops.size ++ G 0) hev X R μ a w Q hI.tmps hreg hheap)
      rintro a' w' ⟨cv, R', μ', rfl, h5, h6, h7⟩
      refine ih _ _ _ ⟨by simp [hI.size], by rw [put_defers]; exact hI.defers, by rw [put_size]; exact hI.tmps, hclosed, R', μ', ?_, ?_⟩ hcount
      · refine hregs R' μ' w' cv h6 (fun _ _ => h5) (fun d' hd' => .inr ?_)
        rw [hd] at hd'; cases hd'
        rw [hI.tmps]; exact Nat.le_of_ble_eq_true hN
      · rw [cntD_set hlt' hun, hL]; simpa using h7
    · have hw := guardB_wanted (hg.trans hgd) hreg
      rw [hw]
      simp only [if_true]
      left
      have hLloud : ∀ j, j < ops.size → L j = true → ∃ o', ops[j]? = some o' ∧ loudB ld o' = true := by
        intro j hj hLj
        have ho' : ops[j]? = some ops[j] := Array.getElem?_eq_getElem hj
        rcases hst j _ ho' with ⟨h, _⟩ | ⟨h, _⟩ | ⟨_, h, _⟩
        · rw [hLj] at h; simp at h
        · rw [hLj] at h; simp at h
        · exact ⟨_, ho', h⟩
      have hgetD : ∀ j, ops.size ≤ j → listed.getD j false = false := by
        intro j hj; simp [Array.getD, hI.size, Nat.not_lt.2 hj]
      have hcnt : cntD L listed ops.size = cntL L i := by
        refine cntD_prefix (fun j hj hLj => ?_) (fun j hj hLj => ?_) ops.size (Nat.le_of_lt hlt)
        · obtain ⟨o', ho', hl'⟩ := hLloud j (by omega) hLj
          exact hbef j (D.loud i j o o' ho ho' hloud hl' hj)
        · rcases Nat.lt_or_ge j ops.size with h8 | h8
          · rcases Nat.lt_or_ge i j with h9 | h9
            · obtain ⟨o', ho', hl'⟩ := hLloud j h8 hLj
              cases hq2 : listed.getD j false with
              | false => rfl
              | true =>
                have := bef_listed D.lt hI.closed j o' ho' (fun e he hb => hI.closed j o' hq2 ho' e he hb) i (D.loud j i o' o ho' ho hl' hloud h9)
                rw [hun] at this; simp at this
            · have : j = i := by omega
              subst this; exact hun
          · exact hgetD j h8
      rw [hcnt] at hheap
      refine Oper.wp_mono ?_ (hq (entL ops V listed ops.size ++ G 0) hev X R μ a w Q hI.tmps hreg hheap)
      rintro a' w' ⟨cv, R', μ', rfl, h5, h6, h7⟩
      refine ih _ _ _ ⟨by simp [hI.size], by rw [put_defers]; exact hI.defers, by rw [put_size]; exact hI.tmps, hclosed, R', μ', ?_, ?_⟩ hcount
      · refine hregs R' μ' w' cv h6 (fun _ _ => h5) (fun d' hd' => .inr ?_)
        rw [hI.tmps]; exact Nat.le_of_ble_eq_true (hN d' hd')
      · rw [cntD_set hlt' hun, hL, hcnt]; simpa [hlt] using h7

def deferB (o : Oper) : Bool := match o.op with | .defer _ => true | _ => false

theorem semAt_of_deferB {o : Oper} {ro : Option Nat} {ρ : Operand → Value} (h : deferB o = false) : o.semAt ro ρ = execOp ρ o :=
  Oper.semAt_eq ro ρ o fun c hc => by simp [deferB, hc] at h

/-- One operation, by what it is shown to do. -/
theorem step_wp {ops : Array Oper} {o : Oper} {k : List Item} {b : Frame} {a : Act} {cs : List Frame} {w : World} {i : Nat} {idx : List Nat} {Kn : Act → World → Prop} {Q : Exit → Act → World → Prop} (hQ : ∀ e a w, Q e a w → e = .normal) (hnd : deferB o = false)
    (ho : ops[i]? = some o) (hw : Region.wanted o (yielded ops a.tmps) = true) (h : o.wp P a w Kn Q) :
    ∃ a' w', Kn a' w' ∧ Steps P (lone (b.atR a (.inRegion ops (i :: idx) :: k)) cs w) (lone (b.atR a' (.inRegion ops idx :: k)) cs w') := by
  have hst := stepGR_op (P := P) (b := b) (k := k) (cs := cs) (w := w) (rest := idx) ho hw
  rw [semAt_of_deferB hnd] at hst
  have hfin : ∀ v, (b.atR a (.inRegion ops (i :: idx) :: k)).finish v = b.atR (a.put o.dst v) (.inRegion ops idx :: k) := by
    intro v; rw [Frame.finish_atR, ho]; rfl
  unfold Oper.wp Oper.upon at h
  generalize hr : (execOp a.eval o).run P w = r at h
  cases r with
  | ok n w' =>
    cases n with
    | value v => exact ⟨_, w', h, .one (step_lone_go (by rw [hst, ← hfin]; simp [stepG.apply, hr]))⟩
    | skip => exact ⟨_, w', h, .one (step_lone_go (by rw [hst, ← hfin]; simp [stepG.apply, hr]))⟩
    | enter fn args =>
      obtain ⟨e, w'', fr, hR, hsteps, _, hleave⟩ := h (b.atR a (.inRegion ops (i :: idx) :: k) :: cs)
      have henter : step P (lone (b.atR a (.inRegion ops (i :: idx) :: k)) cs w) = .next (lone (Frame.enter P fn args .normal) (b.atR a (.inRegion ops (i :: idx) :: k) :: cs) w') :=
        step_lone_go (by rw [hst]; simp [stepG.apply, hr, Frame.atR])
      cases e with
      | returned v => exact ⟨_, w'', hR, .head henter (Steps.trans hsteps (.one (by rw [← hfin]; exact step_leave_returned hleave)))⟩
      | panicked chain => exact absurd (hQ _ _ _ hR) (by simp)
      | outgrown => obtain ⟨_, _, hf⟩ := hR; exact absurd (hQ _ _ _ hf) (by simp)
    | row row args =>
      obtain ⟨v, w'', hR, hsteps⟩ := h (b.atR a (.inRegion ops (i :: idx) :: k)) cs
      have henter : step P (lone (b.atR a (.inRegion ops (i :: idx) :: k)) cs w) = .next (lone (Frame.ofRow P row args .normal) (b.atR a (.inRegion ops (i :: idx) :: k) :: cs) w') :=
        step_lone_go (by rw [hst]; simp [stepG.apply, hr, Frame.atR])
      exact ⟨_, w'', hR, .head henter (by rw [← hfin]; exact hsteps)⟩
    | defer d =>
      refine ⟨_, w', h, .one (step_lone_go ?_)⟩
      have : ({ b.atR a (.inRegion ops (i :: idx) :: k) with defers := d :: a.defers } : Frame).finish undef =
          b.atR ({ a with defers := d :: a.defers }.put o.dst undef) (.inRegion ops idx :: k) := by
        have := Frame.finish_atR b { a with defers := d :: a.defers } ops i idx k undef
        rw [ho] at this; exact this
      rw [hst]; simp only [stepG.apply, Sem.runT_eq, hr, GStep.bare_after]
      exact congrArg (fun fr => GStep.go { frame := fr, callers := cs, status := .running, dying := none } w') this
    | _ => exact h.elim
  | halt x w' =>
    cases x <;> first
      | exact h.elim
      | exact absurd (hQ _ _ _ h) (by simp)
      | (obtain ⟨_, _, hf⟩ := h; exact absurd (hQ _ _ _ hf) (by simp))

theorem steps_ops {ops : Array Oper} {k : List Item} {b : Frame} {cs : List Frame} {Q : Exit → Act → World → Prop} (hQ : ∀ e a w, Q e a w → e = .normal) (hnd : ops.toList.all (fun o => !deferB o) = true) :
    ∀ (idx : List Nat) (a : Act) (w : World), wpOps P ops Q idx a w → ∃ a' w', Q .normal a' w' ∧ Steps P (lone (b.atR a (.inRegion ops idx :: k)) cs w) (lone (b.atR a' k) cs w')
  | [], a, w, h => ⟨a, w, h, .one stepR_region_end⟩
  | i :: idx, a, w, h => by
    simp only [wpOps] at h
    split at h
    · rename_i ho
      obtain ⟨a', w', h1, h2⟩ := steps_ops hQ hnd idx a w h
      refine ⟨a', w', h1, .head ?_ h2⟩
      have := stepR_op_skip (P := P) (b := b) (a := a) (k := k) (cs := cs) (w := w) (ops := ops) (i := i) (rest := idx) (by simp [ho])
      simpa [ho, Act.put] using this
    · rename_i o ho
      split at h
      · rename_i hw
        rcases h with h | ⟨_, hl⟩
        · have hmem : o ∈ ops.toList := by
            obtain ⟨hl, rfl⟩ := Array.getElem?_eq_some_iff.1 ho
            simp
          have := List.all_eq_true.1 hnd o hmem
          obtain ⟨a', w', h1, h2⟩ := step_wp (b := b) (k := k) (cs := cs) (idx := idx) hQ (by simpa using this) ho hw h
          obtain ⟨a2, w2, h3, h4⟩ := steps_ops hQ hnd idx a' w' h1
          exact ⟨a2, w2, h3, Steps.trans h2 h4⟩
        · obtain ⟨_, _, hf⟩ := hl
          exact absurd (hQ _ _ _ hf) (by simp)
      · rename_i hw
        obtain ⟨a', w', h1, h2⟩ := steps_ops hQ hnd idx _ w h
        refine ⟨a', w', h1, .head ?_ h2⟩
        have := stepR_op_skip (P := P) (b := b) (a := a) (k := k) (cs := cs) (w := w) (ops := ops) (i := i) (rest := idx) (by simp [ho, hw])
        simpa [ho] using this

def drawsOk (ld : List Nat) (ops : Array Oper) : Bool := drawOk ld ops && ops.toList.all (fun o => !deferB o)

/-- A REGION THAT DRAWS ITS ORDER: walked once, in the order of the text. -/
theorem ag_draw (ld : List Nat) {id : Nat} {ops : Array Oper} {k : List Item} {g : Regs} {Hs : Nat → Hp} {K : Nat} {Post : AVal → Hp → Prop} (hm : P.follows .mixedOrders = true) (hok' : drawsOk ld ops = true)
    (hq : QGo P N ld ops Hs K (fun g' => AGo P f N m k g' (Hs K) Post) ops.toList 0 0 g) : AGo P f N m (.code (.region id ops true) :: k) g (Hs 0) Post := by
  have hok : drawOk ld ops = true := by simp only [drawsOk, Bool.and_eq_true] at hok'; exact hok'.1
  have hnd : ops.toList.all (fun o => !deferB o) = true := by simp only [drawsOk, Bool.and_eq_true] at hok'; exact hok'.2
  obtain ⟨G, L, V, hG0, hF, hcnt, hst⟩ := qgo_trace hq
  rw [Array.length_toList, Nat.zero_add] at hcnt
  rw [Array.length_toList] at hF
  intro X R μ a w b cs e1 e2 e3 e4 e5 e6 e7
  have hD : DInv X N ops Hs V L (G 0) (Array.replicate ops.size false) a { w with drawn := w.drawn + 1 } := by
    have hnone : ∀ i, (Array.replicate ops.size false).getD i false = false := by intro i; simp [Array.getD]
    refine ⟨by simp, e4, e5, fun i o hi => by rw [hnone] at hi; simp at hi, R, μ, ?_, ?_⟩
    · have : ∀ n, entL ops V (Array.replicate ops.size false) n = [] := by
        intro n
        induction n with
        | zero => rfl
        | succ n ih => simp only [entL, hnone, ih]
      rw [this, List.nil_append, hG0]
      have hon : Onward R w { w with drawn := w.drawn + 1 } := ⟨fun _ _ => rfl, fun _ c _ f h => ⟨c, f, h, rfl⟩⟩
      exact e6.mono (fun _ h => h) hon (fun _ _ h => h)
    · have : ∀ n, cntD L (Array.replicate ops.size false) n = 0 := by
        intro n
        induction n with
        | zero => rfl
        | succ n ih => simp only [cntD, ih, hnone]; simp
      rw [this]
      exact e7.drew _
  let Q : Exit → Act → World → Prop := fun e a' w' => e = .normal ∧ ∃ R' μ', a'.defers = X.defers ∧ a'.tmps.size = N ∧ RegRel R' μ' w' (G ops.size) a'.tmps ∧ HRel X R' μ' (Hs K) w'
  have hany : wpAny P .any ops Q ops.size (Array.replicate ops.size false) a { w with drawn := w.drawn + 1 } := by
    refine draw_any (X := X) (K := K) (V := V) (L := L) (G := G) (Hs := Hs) (N := N) (drawFacts hok) hcnt (fun i o ho => by have := hst i o (by simpa using ho); rwa [Nat.zero_add, Nat.zero_add] at this)
      (fun a w R μ h1 h2 h3 h4 => ⟨rfl, R, μ, h1, h2, h3, h4⟩) ops.size _ _ _ hD ?_
    have : ∀ n, unlN (Array.replicate ops.size false) n = n := by
      intro n
      induction n with
      | zero => rfl
      | succ n ih => simp only [unlN, ih]; simp [Array.getD]
    rw [this]
    exact Nat.le_refl _
  have hops : ∀ t, wpOps P ops Q (Region.schedule (P.follows .mixedOrders) ops t) a { w with drawn := w.drawn + 1 } := by
    intro t
    simp only [Region.schedule, hm, Bool.true_or, if_true]
    exact wpAny_sound ops.size t _ a _ hany
  obtain ⟨a', w', ⟨_, R', μ', h1, h2, h3, h4⟩, harr⟩ := steps_ops (b := b) (k := k) (cs := cs) (fun e _ _ h => h.1) hnd _ a _ (hops (w.tape w.drawn (.order b.fn id)))
  obtain ⟨v, w2, fr, h5, rest⟩ := hF X R' μ' a' w' b cs e1 e2 e3 h1 h2 h3 h4
  exact ⟨v, w2, fr, .head stepR_region_draw (Steps.trans harr h5), rest⟩

end
end Go.Proofs.Ytplfajhaehkhnaa

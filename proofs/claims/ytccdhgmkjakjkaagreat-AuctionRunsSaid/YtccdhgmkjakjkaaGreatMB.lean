/-
  THE ABSTRACT MACHINE: texts 17 to 45.
-/
import Derived.Test.YtccdhgmkjakjkaaGreatMA
import Derived.Orders
import Derived.Laws.IdiomStrings
import Derived.RangeFuncRecord
import Derived.Lib.SlBytesConst
namespace Go.Proofs.YtccdhgmkjakjkaaGreat
open Go
section
variable {P : Program} {T : TTab} {f N : Nat} {m : Md}
def QOp (P : Program) (N : Nat) (h h' : Hp) (o : Oper) (g : Regs) (v : AVal) : Prop :=
  ∀ g' : Regs, (∀ x ∈ o.op.operands, evA g' x = evA g x) → ∀ (X : Ctx) (R : Nat → Prop) (μ : Mu) (a : Act) (w : World) (Q : Exit → Act → World → Prop), a.tmps.size = N → RegRel R μ w g' a.tmps → HRel X R μ h w →
    o.wp P a w (fun a' w' => ∃ cv R' μ', a' = a.put o.dst cv ∧ ARel R' μ' w' v cv ∧ RegRel R' μ' w' g' a.tmps ∧ HRel X R' μ' h' w') Q
def loudB (ld : List Nat) (o : Oper) : Bool :=
  match o.dst with
  | some d => ld.any (fun e => Nat.beq e d)
  | none => true
def looksB (ops : Array Oper) (o : Oper) : List Nat :=
  (o.op.operands.toList.filterMap fun | .tmp t => some t | _ => none) ++
  (match o.guard with
   | some (j, _) => ((ops[j]?).bind (·.dst)).toList
   | none => [])
def maskB (o : Oper) (acc : List Nat) : Nat := o.after.toList.foldl (fun s e => if Region.binds .any e then s ||| 2 ^ e.on ||| acc.getD e.on 0 else s) 0
def befB : List Oper → List Nat → List Nat
  | [], acc => acc
  | o :: rest, acc => befB rest (acc ++ [maskB o acc])
def allIx (p : Oper → Nat → Bool) : List Oper → Nat → Bool
  | [], _ => true
  | o :: rest, i => p o i && allIx p rest (i + 1)
theorem allIx_spec {p : Oper → Nat → Bool} : ∀ {l : List Oper} {k : Nat}, allIx p l k = true → ∀ (i : Nat) o, l[i]? = some o → p o (k + i) = true
  | [], _, _, i, o, h => by simp at h
  | x :: l, k, ha, i, o, h => by
    simp only [allIx, Bool.and_eq_true] at ha
    cases i with
    | zero => simp at h; subst h; exact ha.1
    | succ i => have := allIx_spec ha.2 i o (by simpa using h); rwa [show k + 1 + i = k + (i + 1) by omega] at this
def cntB (ld : List Nat) (ops : Array Oper) : Nat → Nat
  | 0 => 0
  | p + 1 => cntB ld ops p + (match ops[p]? with | some o => bif loudB ld o then 1 else 0 | none => 0)
def sumIx (p : Oper → Nat → Bool) : List Oper → Nat → Nat
  | [], _ => 0
  | o :: rest, i => (bif p o i then 1 else 0) + sumIx p rest (i + 1)
def limAt (ld : List Nat) (ops : Array Oper) (i : Nat) : Nat :=
  sumIx (fun o p => loudB ld o && !Nat.testBit ((befB ops.toList []).getD p 0) i && !Nat.beq p i) ops.toList 0
def QGo (P : Program) (N : Nat) (ld : List Nat) (ops : Array Oper) (Hs : Nat → Hp) (K : Nat) (F : Regs → Prop) : List Oper → Nat → Nat → Regs → Prop
  | [], _, j, g => j = K ∧ F g
  | o :: rest, ix, j, g =>
    (∃ d, guardB ops g o = some false ∧ o.dst = some d ∧ QGo P N ld ops Hs K F rest (ix + 1) j ((d, .tuple []) :: g)) ∨
    (∃ d v, guardB ops g o = some true ∧ o.dst = some d ∧ Nat.blt d N = true ∧ (∀ i, i ≤ limAt ld ops ix → QOp P N (Hs i) (Hs i) o g v) ∧ QGo P N ld ops Hs K F rest (ix + 1) j ((d, v) :: g)) ∨
    (∃ v, loudB ld o = true ∧ guardB ops g o = some true ∧ (∀ d, o.dst = some d → Nat.blt d N = true) ∧ QOp P N (Hs j) (Hs (j + 1)) o g v ∧ QGo P N ld ops Hs K F rest (ix + 1) (j + 1) (match o.dst with | some d => (d, v) :: g | none => g))
def drawOk (ld : List Nat) (ops : Array Oper) : Bool :=
  let l := ops.toList
  let B := befB l []
  allIx (fun o i =>
    (o.after.toList.all fun e => !Region.binds .any e || Nat.blt e.on i) &&
    (match o.op with | .select .. => false | _ => true) &&
    ((looksB ops o).all fun t => allIx (fun o' j => (match o'.dst with | some d => !Nat.beq d t | none => true) || Nat.testBit (B.getD i 0) j || (Nat.blt i j && Nat.testBit (B.getD j 0) i)) l 0) &&
    (match o.dst with | some d => allIx (fun o' j => (match o'.dst with | some e => !Nat.beq d e | none => true) || Nat.beq i j) l 0 | none => true) &&
    (!loudB ld o || allIx (fun o' j => !loudB ld o' || !Nat.blt j i || Nat.testBit (B.getD i 0) j) l 0) &&
    allIx (fun o' p => !loudB ld o' || Nat.blt (cntB ld ops p) (limAt ld ops i) || Nat.testBit (B.getD p 0) i || Nat.beq p i) l 0) l 0
theorem befB_get : ∀ (l : List Oper) (acc : List Nat) (i : Nat), (i < acc.length → (befB l acc)[i]? = acc[i]?) ∧ (∀ j o, l[j]? = some o → i = acc.length + j → ∃ pre : List Nat, pre.length = i ∧ (∀ k, k < i → pre[k]? = (befB l acc)[k]?) ∧ (befB l acc)[i]? = some (maskB o pre))
  | [], acc, i => ⟨fun _ => rfl, fun j o h => by simp at h⟩
  | x :: l, acc, i => by
    simp only [befB]
    obtain ⟨h1, h2⟩ := befB_get l (acc ++ [maskB x acc]) i
    refine ⟨fun hi => by rw [h1 (by simp; omega), List.getElem?_append_left hi], fun j o ho hij => ?_⟩
    cases j with
    | zero =>
      simp at ho
      subst ho
      refine ⟨acc, by omega, fun k hk => ?_, ?_⟩
      · have := (befB_get l (acc ++ [maskB x acc]) k).1 (by simp; omega)
        rw [this, List.getElem?_append_left (by omega)]
      · rw [h1 (by simp; omega), hij]
        simp
    | succ j => exact h2 j o (by simpa using ho) (by simp; omega)
theorem maskB_bit {o : Oper} {acc : List Nat} {j : Nat} (h : (maskB o acc).testBit j = true) : ∃ e ∈ o.after.toList, Region.binds .any e = true ∧ (e.on = j ∨ (acc.getD e.on 0).testBit j = true) := by
  unfold maskB at h
  generalize o.after.toList = l at h
  have : ∀ (l : List Edge) (s : Nat), (l.foldl (fun s e => if Region.binds .any e then s ||| 2 ^ e.on ||| acc.getD e.on 0 else s) s).testBit j = true → s.testBit j = true ∨ ∃ e ∈ l, Region.binds .any e = true ∧ (e.on = j ∨ (acc.getD e.on 0).testBit j = true) := by
    intro l
    induction l with
    | nil => intro s h; exact .inl h
    | cons e l ih =>
      intro s h
      simp only [List.foldl_cons] at h
      rcases ih _ h with h1 | ⟨e', he, h2⟩
      · split at h1
        · rename_i hb
          simp only [Nat.testBit_or, Bool.or_eq_true, Nat.testBit_two_pow, decide_eq_true_eq] at h1
          rcases h1 with (h1 | h1) | h1
          · exact .inl h1
          · exact .inr ⟨e, by simp, hb, .inl h1⟩
          · exact .inr ⟨e, by simp, hb, .inr h1⟩
        · exact .inl h1
      · exact .inr ⟨e', by simp [he], h2⟩
  rcases this l 0 h with h1 | h1
  · simp at h1
  · exact h1
def Closed (ops : Array Oper) (listed : Array Bool) : Prop := ∀ i o, listed.getD i false = true → ops[i]? = some o → ∀ e ∈ o.after, Region.binds .any e = true → listed.getD e.on false = true
theorem bef_listed {ops : Array Oper} (hlt : ∀ (i : Nat) o, ops[i]? = some o → ∀ e ∈ o.after, Region.binds .any e = true → e.on < i) {listed : Array Bool} (hc : Closed ops listed) :
    ∀ (i : Nat) o, ops[i]? = some o → (∀ e ∈ o.after, Region.binds .any e = true → listed.getD e.on false = true) → ∀ j, ((befB ops.toList []).getD i 0).testBit j = true → listed.getD j false = true := by
  intro i
  induction i using Nat.strongRecOn with
  | _ i ih =>
    intro o ho hd j hj
    obtain ⟨pre, hp1, hp2, hp3⟩ := (befB_get ops.toList [] i).2 i o (by simpa using ho) (by simp)
    have hget : (befB ops.toList []).getD i 0 = maskB o pre := by simp [List.getD, hp3]
    rw [hget] at hj
    obtain ⟨e, he, hb, h1⟩ := maskB_bit hj
    have he' : e ∈ o.after := by simpa using he
    rcases h1 with rfl | h1
    · exact hd e he' hb
    · have hei := hlt i o ho e he' hb
      have hpe : pre.getD e.on 0 = (befB ops.toList []).getD e.on 0 := by simp only [List.getD, hp2 e.on hei]
      rw [hpe] at h1
      have hil : i < ops.size := (Array.getElem?_eq_some_iff.1 ho).1
      have hoe : ops[e.on]? = some ops[e.on] := Array.getElem?_eq_getElem (by omega)
      exact ih e.on hei _ hoe (fun e2 he2 hb2 => hc e.on _ (hd e he' hb) hoe e2 he2 hb2) j h1
def cntL (L : Nat → Bool) : Nat → Nat
  | 0 => 0
  | i + 1 => cntL L i + (if L i then 1 else 0)
def StepAt (P : Program) (N : Nat) (ld : List Nat) (ops : Array Oper) (Hs : Nat → Hp) (ix : Nat) (o : Oper) (g g' : Regs) (v : AVal) (l : Bool) (c : Nat) : Prop :=
  (l = false ∧ guardB ops g o = some false ∧ v = .tuple [] ∧ ∃ d, o.dst = some d ∧ g' = (d, v) :: g) ∨
  (l = false ∧ guardB ops g o = some true ∧ (∃ d, o.dst = some d ∧ Nat.blt d N = true ∧ g' = (d, v) :: g) ∧ ∀ i, i ≤ limAt ld ops ix → QOp P N (Hs i) (Hs i) o g v) ∨
  (l = true ∧ loudB ld o = true ∧ guardB ops g o = some true ∧ (∀ d, o.dst = some d → Nat.blt d N = true) ∧ QOp P N (Hs c) (Hs (c + 1)) o g v ∧ g' = (match o.dst with | some d => (d, v) :: g | none => g))
theorem qgo_trace {ld : List Nat} {ops : Array Oper} {Hs : Nat → Hp} {K : Nat} {F : Regs → Prop} : ∀ {rest : List Oper} {ix j : Nat} {g : Regs}, QGo P N ld ops Hs K F rest ix j g →
    ∃ (G : Nat → Regs) (L : Nat → Bool) (V : Nat → AVal), G 0 = g ∧ F (G rest.length) ∧ j + cntL L rest.length = K ∧ ∀ (i : Nat) o, rest[i]? = some o → StepAt P N ld ops Hs (ix + i) o (G i) (G (i + 1)) (V i) (L i) (j + cntL L i)
  | [], ix, j, g, h => ⟨fun _ => g, fun _ => false, fun _ => .any, rfl, h.2, by simpa [cntL] using h.1, fun i o hi => by simp at hi⟩
  | o :: rest, ix, j, g, h => by
    have build : ∀ (l : Bool) (v : AVal) (g1 : Regs), StepAt P N ld ops Hs ix o g g1 v l j → QGo P N ld ops Hs K F rest (ix + 1) (j + if l then 1 else 0) g1 →
        ∃ (G : Nat → Regs) (L : Nat → Bool) (V : Nat → AVal), G 0 = g ∧ F (G (o :: rest).length) ∧ j + cntL L (o :: rest).length = K ∧ ∀ (i : Nat) o', (o :: rest)[i]? = some o' → StepAt P N ld ops Hs (ix + i) o' (G i) (G (i + 1)) (V i) (L i) (j + cntL L i) := by
      intro l v g1 hs hq
      obtain ⟨G, L, V, h1, h2, h3, h4⟩ := qgo_trace hq
      have hcnt : ∀ n, cntL (fun i => match i with | 0 => l | i + 1 => L i) (n + 1) = (if l then 1 else 0) + cntL L n := by
        intro n
        induction n with
        | zero => simp [cntL]
        | succ n ih => rw [cntL, ih]; simp only [cntL]; omega
      refine ⟨fun i => match i with | 0 => g | i + 1 => G i, fun i => match i with | 0 => l | i + 1 => L i, fun i => match i with | 0 => v | i + 1 => V i, rfl, h2, ?_, ?_⟩
      · rw [List.length_cons, hcnt]; omega
      · intro i o' hi
        cases i with
        | zero => simp at hi; subst hi; simp only [cntL, Nat.add_zero, h1]; exact hs
        | succ i =>
          have := h4 i o' (by simpa using hi)
          rw [hcnt]
          rw [show j + ((if l then 1 else 0) + cntL L i) = (j + if l then 1 else 0) + cntL L i by omega, show ix + (i + 1) = ix + 1 + i by omega]
          exact this
    rcases h with ⟨d, h1, h2, h3⟩ | ⟨d, v, h1, h2, h3, h4, h5⟩ | ⟨v, h0, h1, h2, h3, h4⟩
    · exact build false (.tuple []) _ (.inl ⟨rfl, h1, rfl, d, h2, rfl⟩) (by simpa using h3)
    · exact build false v _ (.inr (.inl ⟨rfl, h1, ⟨d, h2, h3, rfl⟩, h4⟩)) (by simpa using h5)
    · exact build true v _ (.inr (.inr ⟨rfl, h0, h1, h2, h3, rfl⟩)) (by simpa using h4)
def entL (ops : Array Oper) (V : Nat → AVal) (listed : Array Bool) : Nat → Regs
  | 0 => []
  | i + 1 =>
    match listed.getD i false, (ops[i]?).bind (·.dst) with
    | true, some d => (d, V i) :: entL ops V listed i
    | _, _ => entL ops V listed i
theorem entL_look {ops : Array Oper} {V : Nat → AVal} {listed : Array Bool} {g : Regs} {t : Nat} : ∀ (n : Nat), (∀ i, i < n → (ops[i]?).bind (·.dst) = some t → listed.getD i false = false) → lookR (entL ops V listed n ++ g) t = lookR g t
  | 0, _ => rfl
  | n + 1, h => by
    simp only [entL]
    have ih := entL_look (V := V) (g := g) n fun i hi => h i (by omega)
    split
    · rename_i d h1 h2
      simp only [List.cons_append, lookR]
      by_cases e : d = t
      · subst e; have := h n (by omega) h2; rw [h1] at this; simp at this
      · rw [beq_ne e]; exact ih
    · exact ih
theorem entL_hit {ops : Array Oper} {V : Nat → AVal} {listed : Array Bool} {g : Regs} {t i : Nat} (hd : (ops[i]?).bind (·.dst) = some t) (hl : listed.getD i false = true) (huniq : ∀ j, (ops[j]?).bind (·.dst) = some t → j = i) :
    ∀ (n : Nat), i < n → lookR (entL ops V listed n ++ g) t = V i
  | 0, h => absurd h (Nat.not_lt_zero _)
  | n + 1, h => by
    simp only [entL]
    by_cases e : i = n
    · subst e
      rw [hl, hd]
      simp [lookR]
    · have ih := entL_hit (V := V) (g := g) hd hl huniq n (by omega)
      split
      · rename_i d h1 h2
        simp only [List.cons_append, lookR]
        by_cases e2 : d = t
        · subst e2; exact absurd (huniq n h2).symm e
        · rw [beq_ne e2]; exact ih
      · exact ih
structure DrawFacts (ld : List Nat) (ops : Array Oper) : Prop where
  lt : ∀ (i : Nat) o, ops[i]? = some o → ∀ e ∈ o.after, Region.binds .any e = true → e.on < i
  sel : ∀ (i : Nat) o, ops[i]? = some o → ∀ cs b, o.op ≠ .select cs b
  looks : ∀ (i : Nat) o, ops[i]? = some o → ∀ t ∈ looksB ops o, ∀ j, (ops[j]?).bind (·.dst) = some t → ((befB ops.toList []).getD i 0).testBit j = true ∨ (i < j ∧ ((befB ops.toList []).getD j 0).testBit i = true)
  uniq : ∀ (i j t : Nat), (ops[i]?).bind (·.dst) = some t → (ops[j]?).bind (·.dst) = some t → i = j
  loud : ∀ (i j : Nat) o o', ops[i]? = some o → ops[j]? = some o' → loudB ld o = true → loudB ld o' = true → j < i → ((befB ops.toList []).getD i 0).testBit j = true
  lim : ∀ (i p : Nat) o o', ops[i]? = some o → ops[p]? = some o' → loudB ld o' = true → limAt ld ops i ≤ cntB ld ops p → p ≠ i → ((befB ops.toList []).getD p 0).testBit i = true
theorem drawFacts {ld : List Nat} {ops : Array Oper} (h : drawOk ld ops = true) : DrawFacts ld ops := by
  unfold drawOk at h
  have key : ∀ (i : Nat) o, ops[i]? = some o → _ := fun i o ho => by
    have := allIx_spec h i o (by simpa using ho)
    simp only [Nat.zero_add, Bool.and_eq_true] at this
    exact this
  have get : ∀ (j : Nat) (t : Nat), (ops[j]?).bind (·.dst) = some t → ∃ o', ops[j]? = some o' ∧ o'.dst = some t := by
    intro j t hj
    cases hq : ops[j]? with
    | none => rw [hq] at hj; simp at hj
    | some o' => rw [hq] at hj; exact ⟨o', rfl, by simpa using hj⟩
  refine ⟨?_, ?_, ?_, ?_, ?_, ?_⟩
  · intro i o ho e he hb
    have := (List.all_eq_true.1 (key i o ho).1.1.1.1.1) e (by simpa using he)
    rw [hb] at this
    simpa [Nat.blt_eq] using this
  · intro i o ho cs b e
    have := (key i o ho).1.1.1.1.2
    rw [e] at this
    simp at this
  · intro i o ho t ht j hj
    obtain ⟨o', h1, h2⟩ := get j t hj
    have := allIx_spec ((List.all_eq_true.1 (key i o ho).1.1.1.2) t ht) j o' (by simpa using h1)
    rw [h2] at this
    simp only [Nat.beq_refl, Bool.not_true, Bool.false_or, Nat.zero_add, Bool.or_eq_true, Bool.and_eq_true] at this
    rcases this with h3 | h3
    · exact .inl h3
    · exact .inr ⟨Nat.le_of_ble_eq_true h3.1, h3.2⟩
  · intro i j t hi hj
    obtain ⟨o, h1, h2⟩ := get i t hi
    obtain ⟨o', h3, h4⟩ := get j t hj
    have := (key i o h1).1.1.2
    rw [h2] at this
    have := allIx_spec this j o' (by simpa using h3)
    rw [h4] at this
    simpa using this
  · intro i j o o' h1 h2 h3 h4 h5
    have := (key i o h1).1.2
    rw [h3] at this
    simp only [Bool.not_true, Bool.false_or] at this
    have := allIx_spec this j o' (by simpa using h2)
    rw [h4] at this
    simp only [Nat.zero_add, Bool.not_true, Bool.false_or, Bool.or_eq_true, Bool.not_eq_true'] at this
    rcases this with h6 | h6
    · have : Nat.blt j i = true := by simpa [Nat.blt_eq] using h5
      rw [this] at h6; simp at h6
    · exact h6
  · intro i p o o' h1 h2 h3 h4 h5
    have := allIx_spec (key i o h1).2 p o' (by simpa using h2)
    simp only [Nat.zero_add, h3, Bool.not_true, Bool.false_or, Bool.or_eq_true] at this
    rcases this with (h6 | h6) | h6
    · have : cntB ld ops p < limAt ld ops i := Nat.le_of_ble_eq_true h6
      omega
    · exact h6
    · exact absurd (Nat.eq_of_beq_eq_true h6) h5
theorem cntL_le_cntB {ld : List Nat} {ops : Array Oper} {L : Nat → Bool} (h : ∀ (i : Nat) o, ops[i]? = some o → L i = true → loudB ld o = true) : ∀ p, p ≤ ops.size → cntL L p ≤ cntB ld ops p
  | 0, _ => Nat.le_refl _
  | p + 1, hp => by
    have ih := cntL_le_cntB h p (by omega)
    simp only [cntL, cntB]
    have ho : ops[p]? = some ops[p] := Array.getElem?_eq_getElem (by omega)
    rw [ho]
    cases hL : L p
    · simp only [Bool.false_eq_true, if_false]; omega
    · simp only [h p _ ho hL, cond_true, if_true]; omega
def cntD (L : Nat → Bool) (listed : Array Bool) : Nat → Nat
  | 0 => 0
  | i + 1 => cntD L listed i + (if L i && listed.getD i false then 1 else 0)
theorem cntD_prefix {L : Nat → Bool} {listed : Array Bool} {i : Nat} (h1 : ∀ j, j < i → L j = true → listed.getD j false = true) (h2 : ∀ j, i ≤ j → L j = true → listed.getD j false = false) : ∀ n, i ≤ n → cntD L listed n = cntL L i := by
  have low : ∀ n, n ≤ i → cntD L listed n = cntL L n := by
    intro n
    induction n with
    | zero => intro _; rfl
    | succ n ih =>
      intro hn
      simp only [cntD, cntL, ih (by omega)]
      cases hL : L n
      · simp
      · simp [h1 n (by omega) hL]
  intro n
  induction n with
  | zero => intro hn; have : i = 0 := by omega
            subst this; rfl
  | succ n ih =>
    intro hn
    rcases Nat.lt_or_ge n i with h3 | h3
    · have : i = n + 1 := by omega
      rw [← this]; exact low i (Nat.le_refl _)
    · simp only [cntD, ih h3]
      cases hL : L n
      · simp
      · simp [h2 n h3 hL]
theorem cntD_set {L : Nat → Bool} {listed : Array Bool} {i : Nat} (hi : i < listed.size) (hn : listed.getD i false = false) : ∀ n, cntD L (listed.setIfInBounds i true) n = cntD L listed n + (if L i && decide (i < n) then 1 else 0)
  | 0 => by simp [cntD]
  | n + 1 => by
    simp only [cntD, cntD_set hi hn n]
    by_cases e : i = n
    · subst e
      have h1 : (listed.setIfInBounds i true).getD i false = true := by simp [Array.getD, hi]
      rw [h1, hn]
      cases L i <;> simp
    · have h1 : (listed.setIfInBounds i true).getD n false = listed.getD n false := by
        simp only [Array.getD_eq_getD_getElem?, Array.getElem?_setIfInBounds, e, if_false]
      rw [h1]
      by_cases h2 : i < n
      · simp [h2, show i < n + 1 by omega]; omega
      · simp [h2, show ¬ i < n + 1 by omega]
theorem cntD_all {L : Nat → Bool} {listed : Array Bool} {n : Nat} (h : ∀ i, i < n → listed.getD i false = true) : ∀ k, k ≤ n → cntD L listed k = cntL L k
  | 0, _ => rfl
  | k + 1, hk => by simp only [cntD, cntL, cntD_all h k (by omega), h k (by omega)]; simp
theorem guardB_congr {ops : Array Oper} {g g' : Regs} {o : Oper} (h : ∀ t ∈ looksB ops o, lookR g' t = lookR g t) : guardB ops g' o = guardB ops g o := by
  unfold guardB
  unfold looksB at h
  cases hg : o.guard with
  | none => rfl
  | some p =>
    obtain ⟨j, want⟩ := p
    simp only
    cases hq : (ops[j]?).bind (·.dst) with
    | none => rfl
    | some t =>
      simp only
      rw [h t (by simp [hg, hq])]
theorem evA_congr {ops : Array Oper} {g g' : Regs} {o : Oper} (h : ∀ t ∈ looksB ops o, lookR g' t = lookR g t) : ∀ x ∈ o.op.operands, evA g' x = evA g x := by
  intro x hx
  cases x with
  | tmp t => exact h t (List.mem_append_left _ (List.mem_filterMap.2 ⟨.tmp t, by simpa using hx, rfl⟩))
  | _ => rfl
structure DInv (X : Ctx) (N : Nat) (ops : Array Oper) (Hs : Nat → Hp) (V : Nat → AVal) (L : Nat → Bool) (g0 : Regs) (listed : Array Bool) (a : Act) (w : World) : Prop where
  size : listed.size = ops.size
  defers : a.defers = X.defers
  tmps : a.tmps.size = N
  closed : Closed ops listed
  rel : ∃ R μ, RegRel R μ w (entL ops V listed ops.size ++ g0) a.tmps ∧ HRel X R μ (Hs (cntD L listed ops.size)) w
def unlN (listed : Array Bool) : Nat → Nat
  | 0 => 0
  | i + 1 => unlN listed i + (if listed.getD i false then 0 else 1)
theorem unlN_zero {listed : Array Bool} : ∀ {n : Nat}, unlN listed n = 0 → ∀ i, i < n → listed.getD i false = true
  | 0, _, i, hi => absurd hi (Nat.not_lt_zero _)
  | n + 1, h, i, hi => by
    simp only [unlN] at h
    cases hq : listed.getD n false with
    | false => rw [hq] at h; simp at h
    | true =>
      rcases Nat.lt_or_ge i n with h1 | h1
      · exact unlN_zero (n := n) (by omega) i h1
      · have : i = n := by omega
        subst this; exact hq
theorem getD_set_ne' {listed : Array Bool} {i j : Nat} (e : ¬ i = j) : (listed.setIfInBounds i true).getD j false = listed.getD j false := by
  simp only [Array.getD_eq_getD_getElem?, Array.getElem?_setIfInBounds, e, if_false]
theorem getD_set_eq' {listed : Array Bool} {i : Nat} (hi : i < listed.size) : (listed.setIfInBounds i true).getD i false = true := by simp [Array.getD, hi]
theorem unlN_set {listed : Array Bool} {i : Nat} (hi : i < listed.size) (hn : listed.getD i false = false) : ∀ n, unlN (listed.setIfInBounds i true) n + (if i < n then 1 else 0) = unlN listed n
  | 0 => by simp [unlN]
  | n + 1 => by
    have ih := unlN_set hi hn n
    simp only [unlN]
    by_cases e : i = n
    · subst e
      rw [getD_set_eq' hi, hn]
      simp at ih ⊢
      omega
    · rw [getD_set_ne' e]
      by_cases h2 : i < n
      · rw [if_pos h2] at ih
        rw [if_pos (show i < n + 1 by omega)]
        generalize (if listed.getD n false = true then 0 else 1) = z
        omega
      · rw [if_neg h2] at ih
        rw [if_neg (show ¬ i < n + 1 by omega)]
        generalize (if listed.getD n false = true then 0 else 1) = z
        omega
theorem cntD_le {L : Nat → Bool} {listed : Array Bool} : ∀ n, cntD L listed n ≤ cntL L n
  | 0 => Nat.le_refl _
  | n + 1 => by
    simp only [cntD, cntL]
    have := cntD_le (L := L) (listed := listed) n
    cases L n <;> cases listed.getD n false <;> simp <;> omega
theorem entL_set {ops : Array Oper} {V : Nat → AVal} {listed : Array Bool} {g : Regs} {i t : Nat} (hne : (ops[i]?).bind (·.dst) ≠ some t) : ∀ n, lookR (entL ops V (listed.setIfInBounds i true) n ++ g) t = lookR (entL ops V listed n ++ g) t
  | 0 => rfl
  | n + 1 => by
    have ih := entL_set (V := V) (listed := listed) (g := g) hne n
    simp only [entL]
    by_cases e : i = n
    · subst e
      cases hd : (ops[i]?).bind (·.dst) with
      | none => cases (listed.setIfInBounds i true).getD i false <;> cases listed.getD i false <;> exact ih
      | some d =>
        have hdt : ¬ d = t := fun e2 => hne (by rw [hd, e2])
        have : ∀ b : Bool, lookR ((match b, some d with | true, some d => (d, V i) :: entL ops V (listed.setIfInBounds i true) i | _, _ => entL ops V (listed.setIfInBounds i true) i) ++ g) t = lookR (entL ops V (listed.setIfInBounds i true) i ++ g) t := by
          intro b; cases b
          · rfl
          · simp only [List.cons_append, lookR, beq_ne hdt, cond_false]
        have h2 : ∀ b : Bool, lookR ((match b, some d with | true, some d => (d, V i) :: entL ops V listed i | _, _ => entL ops V listed i) ++ g) t = lookR (entL ops V listed i ++ g) t := by
          intro b; cases b
          · rfl
          · simp only [List.cons_append, lookR, beq_ne hdt, cond_false]
        rw [this, h2]; exact ih
    · rw [getD_set_ne' e]
      split
      · rename_i d _ _
        simp only [List.cons_append, lookR]
        by_cases e2 : d = t
        · subst e2; simp
        · rw [beq_ne e2]; exact ih
      · exact ih
theorem bef_lt {ops : Array Oper} (hlt : ∀ (i : Nat) o, ops[i]? = some o → ∀ e ∈ o.after, Region.binds .any e = true → e.on < i) {i : Nat} {o : Oper} (ho : ops[i]? = some o) {j : Nat} (hj : ((befB ops.toList []).getD i 0).testBit j = true) : j < i := by
  have hget : ∀ k, (((List.range i).map fun _ => true).toArray).getD k false = true ↔ k < i := by
    intro k
    simp only [Array.getD_eq_getD_getElem?, List.getElem?_toArray, List.getElem?_map]
    rcases Nat.lt_or_ge k i with h | h
    · simp [h]
    · simp [Nat.not_lt.2 h]
  have := bef_listed hlt (listed := ((List.range i).map fun _ => true).toArray) (fun k o' hk ho' e he hb => (hget _).2 (Nat.lt_trans (hlt k o' ho' e he hb) ((hget _).1 hk))) i o ho (fun e he hb => (hget _).2 (hlt i o ho e he hb)) j hj
  exact (hget j).1 this
theorem cntD_last {L : Nat → Bool} {listed : Array Bool} {c : Nat} : ∀ n, c < cntD L listed n → ∃ p, p < n ∧ L p = true ∧ listed.getD p false = true ∧ c ≤ cntL L p
  | 0, h => absurd h (Nat.not_lt_zero _)
  | n + 1, h => by
    simp only [cntD] at h
    cases hq : (L n && listed.getD n false) with
    | false =>
      rw [hq] at h
      obtain ⟨p, h1, h2⟩ := cntD_last n (by simpa using h)
      exact ⟨p, by omega, h2⟩
    | true =>
      rw [hq] at h
      simp only [Bool.and_eq_true] at hq
      have := cntD_le (L := L) (listed := listed) n
      simp only [if_true] at h
      exact ⟨n, by omega, hq.1, hq.2, by omega⟩
theorem draw_any {X : Ctx} {ld : List Nat} {ops : Array Oper} {Hs : Nat → Hp} {K : Nat} {V : Nat → AVal} {L : Nat → Bool} {G : Nat → Regs} (D : DrawFacts ld ops) (hK : cntL L ops.size = K)
    (hst : ∀ (i : Nat) o, ops[i]? = some o → StepAt P N ld ops Hs i o (G i) (G (i + 1)) (V i) (L i) (cntL L i)) {Q : Exit → Act → World → Prop}
    (hQ : ∀ a w R μ, a.defers = X.defers → a.tmps.size = N → RegRel R μ w (G ops.size) a.tmps → HRel X R μ (Hs K) w → Q .normal a w) :
    ∀ (fuel : Nat) (listed : Array Bool) (a : Act) (w : World), DInv X N ops Hs V L (G 0) listed a w → unlN listed ops.size ≤ fuel → wpAny P .any ops Q fuel listed a w := by
  -- what the registers are, text order against any order
  have hlookG : ∀ (i : Nat), i ≤ ops.size → ∀ t, (∃ j, j < i ∧ (ops[j]?).bind (·.dst) = some t ∧ lookR (G i) t = V j) ∨ ((∀ j, j < i → (ops[j]?).bind (·.dst) ≠ some t) ∧ lookR (G i) t = lookR (G 0) t) := by
    intro i
    induction i with
    | zero => intro _ t; exact .inr ⟨fun j hj => absurd hj (Nat.not_lt_zero _), rfl⟩
    | succ i ih =>
      intro hi t
      have ho : ops[i]? = some ops[i] := Array.getElem?_eq_getElem (by omega)
      have hstep : G (i + 1) = (match (ops[i]).dst with | some d => (d, V i) :: G i | none => G i) := by
        rcases hst i _ ho with ⟨_, _, _, d, h1, h2⟩ | ⟨_, _, ⟨d, h1, _, h2⟩, _⟩ | ⟨_, _, _, _, _, h2⟩
        · rw [h2, h1]
        · rw [h2, h1]
        · exact h2
      cases hd : (ops[i]).dst with
      | none =>
        rw [hd] at hstep
        simp only at hstep
        rw [hstep]
        rcases ih (by omega) t with ⟨j, h1, h2, h3⟩ | ⟨h1, h2⟩
        · exact .inl ⟨j, by omega, h2, h3⟩
        · refine .inr ⟨fun j hj => ?_, h2⟩
          rcases Nat.lt_or_ge j i with h3 | h3
          · exact h1 j h3
          · have : j = i := by omega
            subst this; rw [ho]; simp [hd]
      | some d =>
        rw [hd] at hstep
        simp only at hstep
        rw [hstep]
        simp only [lookR]
        by_cases e : d = t
        · subst e
          exact .inl ⟨i, by omega, by rw [ho]; simp [hd], by simp⟩
        · rw [beq_ne e]
          rcases ih (by omega) t with ⟨j, h1, h2, h3⟩ | ⟨h1, h2⟩
          · exact .inl ⟨j, by omega, h2, h3⟩
          · refine .inr ⟨fun j hj => ?_, h2⟩
            rcases Nat.lt_or_ge j i with h3 | h3
            · exact h1 j h3
            · have : j = i := by omega
              subst this; rw [ho]; simp [hd, e]
  have hidx : ∀ (j t : Nat), (ops[j]?).bind (·.dst) = some t → j < ops.size := by
    intro j t hj
    cases hq : ops[j]? with
    | none => rw [hq] at hj; simp at hj
    | some o => exact (Array.getElem?_eq_some_iff.1 hq).1
  have hdone : ∀ (listed : Array Bool) (a : Act) (w : World), DInv X N ops Hs V L (G 0) listed a w → (∀ i, i < ops.size → listed.getD i false = true) → Q .normal a w := by
    intro listed a w hI hall
    obtain ⟨R, μ, h1, h2⟩ := hI.rel
    refine hQ a w R μ hI.defers hI.tmps (fun t => ?_) (by rw [← hK, ← cntD_all hall ops.size (Nat.le_refl _)]; exact h2)
    have h3 := h1 t
    rcases hlookG ops.size (Nat.le_refl _) t with ⟨j, h4, h5, h6⟩ | ⟨h4, h6⟩
    · rw [entL_hit h5 (hall j h4) (fun j' hj' => D.uniq j' j t hj' h5) ops.size h4] at h3
      rw [h6]; exact h3
    · rw [entL_look ops.size (fun i hi hd => absurd hd (h4 i hi))] at h3
      rw [h6]; exact h3
  have hready : ∀ (listed : Array Bool), listed.size = ops.size → Region.ready .any ops listed = [] → ∀ i, i < ops.size → listed.getD i false = true := by
    intro listed hs hr i
    induction i using Nat.strongRecOn with
    | _ i ihi =>
      intro hi
      cases hq : listed.getD i false with
      | true => rfl
      | false =>
        have ho : ops[i]? = some ops[i] := Array.getElem?_eq_getElem hi
        have : i ∈ Region.ready .any ops listed := mem_ready.2 ⟨by
          have : listed.getD i true = listed.getD i false := by simp [Array.getD, hs, hi]
          rw [this]; exact hq, _, ho, fun e he hb => ihi e.on (D.lt i _ ho e he hb) (Nat.lt_trans (D.lt i _ ho e he hb) hi)⟩
        rw [hr] at this
        simp at this
  intro fuel
  induction fuel with
  | zero =>
    intro listed a w hI hc
    have hall := unlN_zero (Nat.le_zero.1 hc)
    refine ⟨?_, hdone listed a w hI hall⟩
    apply List.eq_nil_iff_forall_not_mem.2
    intro i hi
    obtain ⟨h1, o, h2, _⟩ := mem_ready.1 hi
    have hlt : i < ops.size := (Array.getElem?_eq_some_iff.1 h2).1
    have h3 := hall i hlt
    have : listed.getD i true = listed.getD i false := by simp [Array.getD, hI.size, hlt]
    rw [this, h3] at h1
    simp at h1
  | succ fuel ih =>
    intro listed a w hI hc
    refine ⟨fun hr => hdone listed a w hI (hready listed hI.size hr), fun i hi => ?_⟩
    obtain ⟨h1, o, ho, hdep⟩ := mem_ready.1 hi
    have hlt : i < ops.size := (Array.getElem?_eq_some_iff.1 ho).1
    have hlt' : i < listed.size := by rw [hI.size]; exact hlt
    have hun : listed.getD i false = false := by
      have : listed.getD i true = listed.getD i false := by simp [Array.getD, hlt']
      rw [← this]; exact h1
    have hbef : ∀ j, ((befB ops.toList []).getD i 0).testBit j = true → listed.getD j false = true := bef_listed D.lt hI.closed i o ho hdep
    have hagree : ∀ t ∈ looksB ops o, lookR (entL ops V listed ops.size ++ G 0) t = lookR (G i) t := by
      intro t ht
      rcases hlookG i (Nat.le_of_lt hlt) t with ⟨j, h4, h5, h6⟩ | ⟨h4, h6⟩
      · rw [h6]
        rcases D.looks i o ho t ht j h5 with h7 | h7
        · exact entL_hit h5 (hbef j h7) (fun j' hj' => D.uniq j' j t hj' h5) ops.size (by omega)
        · exact absurd h7.1 (by omega)
      · rw [h6]
        refine entL_look ops.size (fun j hj hd => ?_)
        rcases D.looks i o ho t ht j hd with h7 | h7
        · exact absurd hd (h4 j (bef_lt D.lt ho h7))
        · cases hq : listed.getD j false with
          | false => rfl
          | true =>
            have hoj : ops[j]? = some ops[j] := Array.getElem?_eq_getElem hj
            have := bef_listed D.lt hI.closed j _ hoj (fun e he hb => hI.closed j _ hq hoj e he hb) i h7.2
            rw [hun] at this; cases this
    obtain ⟨R, μ, hreg, hheap⟩ := hI.rel
    have hg := guardB_congr (ops := ops) hagree
    have hev := evA_congr hagree
    have hclosed : Closed ops (listed.setIfInBounds i true) := by
      intro k o' hk ho' e he hb
      by_cases e1 : i = k
      · subst e1
        rw [ho] at ho'; cases ho'
        have := hdep e he hb
        by_cases e2 : i = e.on
        · rw [← e2]; exact getD_set_eq' hlt'
        · rw [getD_set_ne' e2]; exact this
      · rw [getD_set_ne' e1] at hk
        have := hI.closed k o' hk ho' e he hb
        by_cases e2 : i = e.on
        · rw [← e2]; exact getD_set_eq' hlt'
        · rw [getD_set_ne' e2]; exact this
    have hcount : unlN (listed.setIfInBounds i true) ops.size ≤ fuel := by
      have := unlN_set hlt' hun ops.size
      rw [if_pos hlt] at this
      omega
    -- the registers behind it
    have hregs : ∀ (R' : Nat → Prop) (μ' : Mu) (w' : World) (cv : Value), RegRel R' μ' w' (entL ops V listed ops.size ++ G 0) a.tmps → (∀ d, o.dst = some d → ARel R' μ' w' (V i) cv) → (∀ d, o.dst = some d → (V i = .tuple [] ∧ cv = undef) ∨ d < a.tmps.size) →
        RegRel R' μ' w' (entL ops V (listed.setIfInBounds i true) ops.size ++ G 0) (a.put o.dst cv).tmps := by
      intro R' μ' w' cv hr hv hsz t
      cases hd : o.dst with
      | none =>
        rw [entL_set (by rw [ho]; simp [hd]) ops.size]
        exact hr t
      | some d =>
        by_cases e : d = t
        · subst e
          rw [entL_hit (i := i) (by rw [ho]; simp [hd]) (getD_set_eq' hlt') (fun j hj => D.uniq j i d hj (by rw [ho]; simp [hd])) ops.size hlt]
          rcases hsz d hd with ⟨h, rfl⟩ | h
          · rw [h]; exact arel_undefAt _ _
          · simp only [Act.put]
            have : (a.tmps.setIfInBounds d cv).getD d undef = cv := by simp [Array.getD, h]
            rw [this]; exact hv d hd
        · rw [entL_set (by rw [ho]; simp [hd, e]) ops.size]
          simp only [Act.put]
          have := hr t
          simpa only [Array.getD_eq_getD_getElem?, Array.getElem?_setIfInBounds, e, if_false] using this
    simp only [wpOp, ho]
    rcases hst i o ho with ⟨hL, hgd, hv, d, hd, _⟩ | ⟨hL, hgd, ⟨d, hd, hN, _⟩, hq⟩ | ⟨hL, hloud, hgd, hN, hq, _⟩
    · have hw := guardB_wanted (hg.trans hgd) hreg
      rw [hw]
      simp only [Bool.false_eq_true, if_false]
      refine ih _ _ _ ⟨by simp [hI.size], by rw [put_defers]; exact hI.defers, by rw [put_size]; exact hI.tmps, hclosed, R, μ, ?_, ?_⟩ hcount
      · exact hregs R μ w undef hreg (fun _ _ => by rw [hv]; exact arel_undef) (fun _ _ => .inl ⟨hv, rfl⟩)
      · rw [cntD_set hlt' hun, hL]; simpa using hheap
    · have hw := guardB_wanted (hg.trans hgd) hreg
      rw [hw]
      simp only [if_true]
      left
      have hle : cntD L listed ops.size ≤ limAt ld ops i := by
        refine Nat.le_of_not_lt fun hgt => ?_
        obtain ⟨p, hp, hLp, hlp, hcp⟩ := cntD_last (L := L) (listed := listed) ops.size hgt
        have hop : ops[p]? = some ops[p] := Array.getElem?_eq_getElem hp
        have hne : p ≠ i := by rintro rfl; rw [hun] at hlp; cases hlp
        have hlB : ∀ (q : Nat) o', ops[q]? = some o' → L q = true → loudB ld o' = true := by
          intro q o' hq hLq
          rcases hst q o' hq with ⟨h, _⟩ | ⟨h, _⟩ | ⟨_, h, _⟩
          · rw [hLq] at h; cases h
          · rw [hLq] at h; cases h
          · exact h
        have hbit := D.lim i p o _ ho hop (hlB p _ hop hLp) (Nat.le_trans hcp (cntL_le_cntB hlB p (Nat.le_of_lt hp))) hne
        have := bef_listed D.lt hI.closed p _ hop (fun e he hb => hI.closed p _ hlp hop e he hb) i hbit
        rw [hun] at this; cases this
      refine Oper.wp_mono ?_ (hq _ hle (entL ops V listed ops.size ++ G 0) hev X R μ a w Q hI.tmps hreg hheap)
      rintro a' w' ⟨cv, R', μ', rfl, h5, h6, h7⟩
      refine ih _ _ _ ⟨by simp [hI.size], by rw [put_defers]; exact hI.defers, by rw [put_size]; exact hI.tmps, hclosed, R', μ', ?_, ?_⟩ hcount
      · refine hregs R' μ' w' cv h6 (fun _ _ => h5) (fun d' hd' => .inr ?_)
        rw [hd] at hd'; cases hd'
        rw [hI.tmps]; exact Nat.le_of_ble_eq_true hN
      · rw [cntD_set hlt' hun, hL]; simpa using h7
    · have hw := guardB_wanted (hg.trans hgd) hreg
      rw [hw]
      simp only [if_true]
      left
      have hLloud : ∀ j, j < ops.size → L j = true → ∃ o', ops[j]? = some o' ∧ loudB ld o' = true := by
        intro j hj hLj
        have ho' : ops[j]? = some ops[j] := Array.getElem?_eq_getElem hj
        rcases hst j _ ho' with ⟨h, _⟩ | ⟨h, _⟩ | ⟨_, h, _⟩
        · rw [hLj] at h; simp at h
        · rw [hLj] at h; simp at h
        · exact ⟨_, ho', h⟩
      have hgetD : ∀ j, ops.size ≤ j → listed.getD j false = false := by
        intro j hj; simp [Array.getD, hI.size, Nat.not_lt.2 hj]
      have hcnt : cntD L listed ops.size = cntL L i := by
        refine cntD_prefix (fun j hj hLj => ?_) (fun j hj hLj => ?_) ops.size (Nat.le_of_lt hlt)
        · obtain ⟨o', ho', hl'⟩ := hLloud j (by omega) hLj
          exact hbef j (D.loud i j o o' ho ho' hloud hl' hj)
        · rcases Nat.lt_or_ge j ops.size with h8 | h8
          · rcases Nat.lt_or_ge i j with h9 | h9
            · obtain ⟨o', ho', hl'⟩ := hLloud j h8 hLj
              cases hq2 : listed.getD j false with
              | false => rfl
              | true =>
                have := bef_listed D.lt hI.closed j o' ho' (fun e he hb => hI.closed j o' hq2 ho' e he hb) i (D.loud j i o' o ho' ho hl' hloud h9)
                rw [hun] at this; simp at this
            · have : j = i := by omega
              subst this; exact hun
          · exact hgetD j h8
      rw [hcnt] at hheap
      refine Oper.wp_mono ?_ (hq (entL ops V listed ops.size ++ G 0) hev X R μ a w Q hI.tmps hreg hheap)
      rintro a' w' ⟨cv, R', μ', rfl, h5, h6, h7⟩
      refine ih _ _ _ ⟨by simp [hI.size], by rw [put_defers]; exact hI.defers, by rw [put_size]; exact hI.tmps, hclosed, R', μ', ?_, ?_⟩ hcount
      · refine hregs R' μ' w' cv h6 (fun _ _ => h5) (fun d' hd' => .inr ?_)
        rw [hI.tmps]; exact Nat.le_of_ble_eq_true (hN d' hd')
      · rw [cntD_set hlt' hun, hL, hcnt]; simpa [hlt] using h7
def deferB (o : Oper) : Bool := match o.op with | .defer _ => true | _ => false
theorem semAt_of_deferB {o : Oper} {ro : Option Nat} {ρ : Operand → Value} (h : deferB o = false) : o.semAt ro ρ = execOp ρ o :=
  Oper.semAt_eq ro ρ o fun c hc => by simp [deferB, hc] at h
theorem step_wp {ops : Array Oper} {o : Oper} {k : List Item} {b : Frame} {a : Act} {cs : List Frame} {w : World} {i : Nat} {idx : List Nat} {Kn : Act → World → Prop} {Q : Exit → Act → World → Prop} (hQ : ∀ e a w, Q e a w → e = .normal) (hnd : deferB o = false)
    (ho : ops[i]? = some o) (hw : Region.wanted o (yielded ops a.tmps) = true) (h : o.wp P a w Kn Q) :
    ∃ a' w', Kn a' w' ∧ Steps P (lone (b.atR a (.inRegion ops (i :: idx) :: k)) cs w) (lone (b.atR a' (.inRegion ops idx :: k)) cs w') := by
  have hst := stepGR_op (P := P) (b := b) (k := k) (cs := cs) (w := w) (rest := idx) ho hw
  rw [semAt_of_deferB hnd] at hst
  have hfin : ∀ v, (b.atR a (.inRegion ops (i :: idx) :: k)).finish v = b.atR (a.put o.dst v) (.inRegion ops idx :: k) := by
    intro v; rw [Frame.finish_atR, ho]; rfl
  unfold Oper.wp Oper.upon at h
  generalize hr : (execOp a.eval o).run P w = r at h
  cases r with
  | ok n w' =>
    cases n with
    | value v => exact ⟨_, w', h, .one (step_lone_go (by rw [hst, ← hfin]; simp [stepG.apply, hr]))⟩
    | skip => exact ⟨_, w', h, .one (step_lone_go (by rw [hst, ← hfin]; simp [stepG.apply, hr]))⟩
    | enter fn args =>
      obtain ⟨e, w'', fr, hR, hsteps, _, hleave⟩ := h (b.atR a (.inRegion ops (i :: idx) :: k) :: cs)
      have henter : step P (lone (b.atR a (.inRegion ops (i :: idx) :: k)) cs w) = .next (lone (Frame.enter P fn args .normal) (b.atR a (.inRegion ops (i :: idx) :: k) :: cs) w') :=
        step_lone_go (by rw [hst]; simp [stepG.apply, hr, Frame.atR])
      cases e with
      | returned v => exact ⟨_, w'', hR, .head henter (Steps.trans hsteps (.one (by rw [← hfin]; exact step_leave_returned hleave)))⟩
      | panicked chain => exact absurd (hQ _ _ _ hR) (by simp)
      | outgrown => obtain ⟨_, _, hf⟩ := hR; exact absurd (hQ _ _ _ hf) (by simp)
    | row row args =>
      obtain ⟨v, w'', hR, hsteps⟩ := h (b.atR a (.inRegion ops (i :: idx) :: k)) cs
      have henter : step P (lone (b.atR a (.inRegion ops (i :: idx) :: k)) cs w) = .next (lone (Frame.ofRow P row args .normal) (b.atR a (.inRegion ops (i :: idx) :: k) :: cs) w') :=
        step_lone_go (by rw [hst]; simp [stepG.apply, hr, Frame.atR])
      exact ⟨_, w'', hR, .head henter (by rw [← hfin]; exact hsteps)⟩
    | defer d =>
      refine ⟨_, w', h, .one (step_lone_go ?_)⟩
      have : ({ b.atR a (.inRegion ops (i :: idx) :: k) with defers := d :: a.defers } : Frame).finish undef =
          b.atR ({ a with defers := d :: a.defers }.put o.dst undef) (.inRegion ops idx :: k) := by
        have := Frame.finish_atR b { a with defers := d :: a.defers } ops i idx k undef
        rw [ho] at this; exact this
      rw [hst]; simp only [stepG.apply, Sem.runT_eq, hr, GStep.bare_after]
      exact congrArg (fun fr => GStep.go { frame := fr, callers := cs, status := .running, dying := none } w') this
    | _ => exact h.elim
  | halt x w' =>
    cases x <;> first
      | exact h.elim
      | exact absurd (hQ _ _ _ h) (by simp)
      | (obtain ⟨_, _, hf⟩ := h; exact absurd (hQ _ _ _ hf) (by simp))
theorem steps_ops {ops : Array Oper} {k : List Item} {b : Frame} {cs : List Frame} {Q : Exit → Act → World → Prop} (hQ : ∀ e a w, Q e a w → e = .normal) (hnd : ops.toList.all (fun o => !deferB o) = true) :
    ∀ (idx : List Nat) (a : Act) (w : World), wpOps P ops Q idx a w → ∃ a' w', Q .normal a' w' ∧ Steps P (lone (b.atR a (.inRegion ops idx :: k)) cs w) (lone (b.atR a' k) cs w')
  | [], a, w, h => ⟨a, w, h, .one stepR_region_end⟩
  | i :: idx, a, w, h => by
    simp only [wpOps] at h
    split at h
    · rename_i ho
      obtain ⟨a', w', h1, h2⟩ := steps_ops hQ hnd idx a w h
      refine ⟨a', w', h1, .head ?_ h2⟩
      have := stepR_op_skip (P := P) (b := b) (a := a) (k := k) (cs := cs) (w := w) (ops := ops) (i := i) (rest := idx) (by simp [ho])
      simpa [ho, Act.put] using this
    · rename_i o ho
      split at h
      · rename_i hw
        rcases h with h | ⟨_, hl⟩
        · have hmem : o ∈ ops.toList := by
            obtain ⟨hl, rfl⟩ := Array.getElem?_eq_some_iff.1 ho
            simp
          have := List.all_eq_true.1 hnd o hmem
          obtain ⟨a', w', h1, h2⟩ := step_wp (b := b) (k := k) (cs := cs) (idx := idx) hQ (by simpa using this) ho hw h
          obtain ⟨a2, w2, h3, h4⟩ := steps_ops hQ hnd idx a' w' h1
          exact ⟨a2, w2, h3, Steps.trans h2 h4⟩
        · obtain ⟨_, _, hf⟩ := hl
          exact absurd (hQ _ _ _ hf) (by simp)
      · rename_i hw
        obtain ⟨a', w', h1, h2⟩ := steps_ops hQ hnd idx _ w h
        refine ⟨a', w', h1, .head ?_ h2⟩
        have := stepR_op_skip (P := P) (b := b) (a := a) (k := k) (cs := cs) (w := w) (ops := ops) (i := i) (rest := idx) (by simp [ho, hw])
        simpa [ho] using this
def drawsOk (ld : List Nat) (ops : Array Oper) : Bool := drawOk ld ops && ops.toList.all (fun o => !deferB o)
theorem ag_draw (ld : List Nat) {id : Nat} {ops : Array Oper} {k : List Item} {g : Regs} {Hs : Nat → Hp} {K : Nat} {Post : AVal → Hp → Prop} (hm : P.follows .mixedOrders = true) (hok' : drawsOk ld ops = true)
    (hq : QGo P N ld ops Hs K (fun g' => AGo P f N m k g' (Hs K) Post) ops.toList 0 0 g) : AGo P f N m (.code (.region id ops true) :: k) g (Hs 0) Post := by
  have hok : drawOk ld ops = true := by simp only [drawsOk, Bool.and_eq_true] at hok'; exact hok'.1
  have hnd : ops.toList.all (fun o => !deferB o) = true := by simp only [drawsOk, Bool.and_eq_true] at hok'; exact hok'.2
  obtain ⟨G, L, V, hG0, hF, hcnt, hst⟩ := qgo_trace hq
  rw [Array.length_toList, Nat.zero_add] at hcnt
  rw [Array.length_toList] at hF
  intro X R μ a w b cs e1 e2 e3 e4 e5 e6 e7
  have hD : DInv X N ops Hs V L (G 0) (Array.replicate ops.size false) a { w with drawn := w.drawn + 1 } := by
    have hnone : ∀ i, (Array.replicate ops.size false).getD i false = false := by intro i; simp [Array.getD]
    refine ⟨by simp, e4, e5, fun i o hi => by rw [hnone] at hi; simp at hi, R, μ, ?_, ?_⟩
    · have : ∀ n, entL ops V (Array.replicate ops.size false) n = [] := by
        intro n
        induction n with
        | zero => rfl
        | succ n ih => simp only [entL, hnone, ih]
      rw [this, List.nil_append, hG0]
      have hon : Onward R w { w with drawn := w.drawn + 1 } := ⟨fun _ _ => rfl, fun _ c _ f h => ⟨c, f, h, rfl⟩⟩
      exact e6.mono (fun _ h => h) hon (fun _ _ h => h)
    · have : ∀ n, cntD L (Array.replicate ops.size false) n = 0 := by
        intro n
        induction n with
        | zero => rfl
        | succ n ih => simp only [cntD, ih, hnone]; simp
      rw [this]
      exact e7.drew _
  let Q : Exit → Act → World → Prop := fun e a' w' => e = .normal ∧ ∃ R' μ', a'.defers = X.defers ∧ a'.tmps.size = N ∧ RegRel R' μ' w' (G ops.size) a'.tmps ∧ HRel X R' μ' (Hs K) w'
  have hany : wpAny P .any ops Q ops.size (Array.replicate ops.size false) a { w with drawn := w.drawn + 1 } := by
    refine draw_any (X := X) (K := K) (V := V) (L := L) (G := G) (Hs := Hs) (N := N) (drawFacts hok) hcnt (fun i o ho => by have := hst i o (by simpa using ho); rwa [Nat.zero_add, Nat.zero_add] at this)
      (fun a w R μ h1 h2 h3 h4 => ⟨rfl, R, μ, h1, h2, h3, h4⟩) ops.size _ _ _ hD ?_
    have : ∀ n, unlN (Array.replicate ops.size false) n = n := by
      intro n
      induction n with
      | zero => rfl
      | succ n ih => simp only [unlN, ih]; simp [Array.getD]
    rw [this]
    exact Nat.le_refl _
  have hops : ∀ t, wpOps P ops Q (Region.schedule (P.follows .mixedOrders) ops t) a { w with drawn := w.drawn + 1 } := by
    intro t
    simp only [Region.schedule, hm, Bool.true_or, if_true]
    exact wpAny_sound ops.size t _ a _ hany
  obtain ⟨a', w', ⟨_, R', μ', h1, h2, h3, h4⟩, harr⟩ := steps_ops (b := b) (k := k) (cs := cs) (fun e _ _ h => h.1) hnd _ a _ (hops (w.tape w.drawn (.order b.fn id)))
  obtain ⟨v, w2, fr, h5, rest⟩ := hF X R' μ' a' w' b cs e1 e2 e3 h1 h2 h3 h4
  exact ⟨v, w2, fr, .head stepR_region_draw (Steps.trans harr h5), rest⟩
end
end Go.Proofs.YtccdhgmkjakjkaaGreat
namespace Go.Proofs.YtccdhgmkjakjkaaGreat
open Go
theorem optInt_congr {ev ev' : Operand → AVal} {o : Option Operand} (h : ∀ x, o = some x → ev x = ev' x) : optInt ev o = optInt ev' o := by
  cases o with
  | none => rfl
  | some x => simp only [optInt, h x rfl]
theorem pureOp_congr {T : TTab} {ev ev' : Operand → AVal} {op : Op} (h : ∀ x ∈ op.operands, ev x = ev' x) : pureOp T ev op = pureOp T ev' op := by
  cases op <;> simp only [Op.operands] at h <;> simp only [pureOp]
  case build t ps =>
    have : (ps.toList.map fun p => (p.1, ev p.2)) = ps.toList.map fun p => (p.1, ev' p.2) := List.map_congr_left fun p hp => by
      rw [h p.2 (by simpa using ⟨p.1, by simpa using hp⟩)]
    rw [this]
  case makeFunc fn first caps =>
    have : caps.toList.map ev = caps.toList.map ev' := List.map_congr_left fun x hx => h x (by simp; right; simpa using hx)
    rw [this]
  case call c =>
    have : c.args.toList.map ev = c.args.toList.map ev' := List.map_congr_left fun x hx => h x (by simp only [Call.operands]; simp; right; simpa using hx)
    rw [this]
  case slice t x lo hi mx =>
    rw [h x (by simp), optInt_congr (o := lo) (fun y hy => h y (by subst hy; simp)), optInt_congr (o := hi) (fun y hy => h y (by subst hy; simp)), optInt_congr (o := mx) (fun y hy => h y (by subst hy; simp))]
  all_goals first
    | rfl
    | (simp only [List.mem_toArray, List.mem_cons, List.not_mem_nil, or_false, forall_eq_or_imp, forall_eq] at h; simp only [h])
    | (simp_all; done)
theorem callA_congr {g g' : Regs} {o : Oper} (h : ∀ x ∈ o.op.operands, evA g' x = evA g x) : callA g' o = callA g o := by
  unfold callA
  split
  · rename_i c hop
    rw [hop] at h
    simp only [Op.operands, Call.operands] at h
    split
    · rename_i x hx
      rw [hx] at h
      rw [h x (by simp)]
      have : c.args.toList.map (evA g') = c.args.toList.map (evA g) := List.map_congr_left fun y hy => h y (by simp; right; simpa using hy)
      rw [this]
    · rfl
  · rfl
section
variable {P : Program} {T : TTab} {f N : Nat} {m : Md} {ops : Array Oper} {o : Oper} {rest : List Oper} {g : Regs} {ld : List Nat} {Hs : Nat → Hp} {K ix j : Nat} {F : Regs → Prop}
theorem aq_nil (hj : j = K) (hk : F g) : QGo P N ld ops Hs K F [] ix j g := ⟨hj, hk⟩
theorem aq_skip {d : Nat} {t : Bool} (hg : guardB ops g o = some t) (ht : t = false) (hd : o.dst = some d) (hk : QGo P N ld ops Hs K F rest (ix + 1) j ((d, .tuple []) :: g)) : QGo P N ld ops Hs K F (o :: rest) ix j g := by
  subst ht; exact .inl ⟨d, hg, hd, hk⟩
theorem aq_quiet {d : Nat} {v : AVal} {t : Bool} (hg : guardB ops g o = some t) (ht : t = true) (hd : o.dst = some d) (hN : Nat.blt d N = true) (hq : ∀ i, i ≤ limAt ld ops ix → QOp P N (Hs i) (Hs i) o g v) (hk : QGo P N ld ops Hs K F rest (ix + 1) j ((d, v) :: g)) : QGo P N ld ops Hs K F (o :: rest) ix j g := by
  subst ht; exact .inr (.inl ⟨d, v, hg, hd, hN, hq, hk⟩)
theorem wp_value {a : Act} {w w' : World} {u : Value} {K : Act → World → Prop} {Q : Exit → Act → World → Prop} (h : (execOp a.eval o).run P w = .ok (.value u) w') (hk : K (a.put o.dst u) w') : o.wp P a w K Q := by
  unfold Oper.wp; rw [h]; exact hk
theorem aq_pure (hTO : TOk P T) {d : Nat} {v : AVal} {c : Prop} {t : Bool} (hp : stepPure T N g o = some (d, v, c)) (hg : guardB ops g o = some t) (ht : t = true) (hc : c) (hk : QGo P N ld ops Hs K F rest (ix + 1) j ((d, v) :: g)) : QGo P N ld ops Hs K F (o :: rest) ix j g := by
  rw [stepPure_eq] at hp
  split at hp
  case h_2 => simp at hp
  rename_i d' hd
  cases hb : Nat.blt d' N <;> rw [hb] at hp <;> simp only [cond_true, cond_false, reduceCtorEq] at hp
  split at hp
  case h_2 => simp at hp
  rename_i v' c' hv
  simp only [Option.some.injEq, Prod.mk.injEq] at hp
  obtain ⟨rfl, rfl, rfl⟩ := hp
  refine aq_quiet hg ht hd hb (fun i _ => ?_) hk
  intro g' hag X R μ a w Q e5 e6 e7
  rw [← pureOp_congr hag] at hv
  obtain ⟨u, h1, h2⟩ := pureOp_sound (P := P) (w := w) hTO (evA_rel (a := a) e6) o hv hc
  exact wp_value h1 ⟨u, R, μ, rfl, h2, e6, e7⟩
theorem aq_load (hTO : TOk P T) {d : Nat} {v : AVal} {t : Bool} (hd : o.dst = some d) (hN : Nat.blt d N = true) (hp : ∀ i, i ≤ limAt ld ops ix → ∃ c, stepLoad T N g (Hs i) o = some (d, v, c) ∧ c) (hg : guardB ops g o = some t) (ht : t = true)
    (hk : QGo P N ld ops Hs K F rest (ix + 1) j ((d, v) :: g)) : QGo P N ld ops Hs K F (o :: rest) ix j g := by
  refine aq_quiet hg ht hd hN (fun i hi => ?_) hk
  intro g' hag X R μ a w Q e5 e6 e7
  obtain ⟨c, h1, hc⟩ := hp i hi
  rw [stepLoad_eq] at h1
  split at h1
  case h_2 => simp at h1
  rename_i d' ty x hd' hop
  cases hb : Nat.blt d' N <;> rw [hb] at h1 <;> simp only [cond_true, cond_false, reduceCtorEq] at h1
  split at h1
  case h_2 => simp at h1
  rename_i tyi bd off hT ha
  simp only [Option.map_eq_some_iff, Prod.mk.injEq] at h1
  obtain ⟨⟨u, q⟩, h2, h3, h4, h5⟩ := h1
  simp only at h4 h5
  subst h4; subst h5
  rw [hop] at hag
  rw [← hag x (by simp [Op.operands])] at ha
  obtain ⟨b, o0, vs, h6, h7, h8⟩ := addrF_sound e7 ha (evA_rel (a := a) e6 x)
  obtain ⟨cv, h9, h10⟩ := loadVar_sound (b := b) (o := o0) hTO hT (bodyRel_cells h7) h8 (loadF_sound h2 hc)
  refine wp_value (u := cv) (w' := w) ?_ ⟨cv, R, μ, rfl, h10, e6, e7⟩
  simp only [execOp, hop, h6, Instr.loadAt, Instr.sureAddr, Sem.run_bind, Sem.run_pure, Result.andThen_ok, h9]
theorem aq_load0 (hTO : TOk P T) {d : Nat} {v : AVal} {c : Prop} {t : Bool} (hp : stepLoad T N g (Hs 0) o = some (d, v, c)) (hl : limAt ld ops ix = 0) (hg : guardB ops g o = some t) (ht : t = true) (hc : c)
    (hk : QGo P N ld ops Hs K F rest (ix + 1) j ((d, v) :: g)) : QGo P N ld ops Hs K F (o :: rest) ix j g := by
  have hdN : o.dst = some d ∧ Nat.blt d N = true := by
    rw [stepLoad_eq] at hp
    split at hp
    case h_2 => simp at hp
    rename_i d' _ _ hd _
    cases hb : Nat.blt d' N <;> rw [hb] at hp <;> simp only [cond_true, cond_false, reduceCtorEq] at hp
    split at hp
    case h_2 => simp at hp
    simp only [Option.map_eq_some_iff, Prod.mk.injEq] at hp
    obtain ⟨_, _, h3, _⟩ := hp
    subst h3
    exact ⟨hd, hb⟩
  exact aq_load hTO hdN.1 hdN.2 (fun i hi => by rw [hl] at hi; rw [Nat.le_zero.1 hi]; exact ⟨c, hp, hc⟩) hg ht hk
theorem aq_loud {v : AVal} {t : Bool} (hq : QOp P N (Hs j) (Hs (j + 1)) o g v) (hl : loudB ld o = true) (hg : guardB ops g o = some t) (ht : t = true) (hN : ∀ d, o.dst = some d → Nat.blt d N = true)
    (hk : QGo P N ld ops Hs K F rest (ix + 1) (j + 1) (match o.dst with | some d => (d, v) :: g | none => g)) : QGo P N ld ops Hs K F (o :: rest) ix j g := by
  subst ht; exact .inr (.inr ⟨v, hl, hg, hN, hq, hk⟩)
theorem aq_loadAs (hTO : TOk P T) {b : Bool} {d : Nat} {t : TypeId} {ty : Ty} {x : Operand} {bd : Body} {off : Nat} (v : AVal) (hd : o.dst = some d) (hop : o.op = .load t x) (hN : Nat.blt d N = true) (hT : T.look t = some ty)
    (ha : ∀ h, addrF h (evA g x) = some (bd, off)) (hg : guardB ops g o = some b) (ht : b = true) (hl : LoadsTo ty bd.cells off v)
    (hk : QGo P N ld ops Hs K F rest (ix + 1) j ((d, v) :: g)) : QGo P N ld ops Hs K F (o :: rest) ix j g := by
  refine aq_quiet hg ht hd hN (fun i _ => ?_) hk
  intro g' hag X R μ a w Q e5 e6 e7
  rw [hop] at hag
  have ha' := ha (Hs i)
  rw [← hag x (by simp [Op.operands])] at ha'
  obtain ⟨b, o0, vs, h6, h7, h8⟩ := addrF_sound e7 ha' (evA_rel (a := a) e6 x)
  obtain ⟨cv, h9, h10⟩ := loadVar_sound (b := b) (o := o0) hTO hT (bodyRel_cells h7) h8 hl
  refine wp_value (u := cv) (w' := w) ?_ ⟨cv, R, μ, rfl, h10, e6, e7⟩
  simp only [execOp, hop, h6, Instr.loadAt, Instr.sureAddr, Sem.run_bind, Sem.run_pure, Result.andThen_ok, h9]
theorem aq_loadAs0 (hTO : TOk P T) {b : Bool} {d : Nat} {t : TypeId} {ty : Ty} {x : Operand} {bd : Body} {off : Nat} (v : AVal) (hd : o.dst = some d) (hop : o.op = .load t x) (hN : Nat.blt d N = true) (hT : T.look t = some ty)
    (ha : addrF (Hs 0) (evA g x) = some (bd, off)) (hl0 : limAt ld ops ix = 0) (hg : guardB ops g o = some b) (ht : b = true) (hl : LoadsTo ty bd.cells off v)
    (hk : QGo P N ld ops Hs K F rest (ix + 1) j ((d, v) :: g)) : QGo P N ld ops Hs K F (o :: rest) ix j g := by
  refine aq_quiet hg ht hd hN (fun i hi => ?_) hk
  rw [hl0] at hi
  rw [Nat.le_zero.1 hi]
  intro g' hag X R μ a w Q e5 e6 e7
  rw [hop] at hag
  have ha' := ha
  rw [← hag x (by simp [Op.operands])] at ha'
  obtain ⟨b, o0, vs, h6, h7, h8⟩ := addrF_sound e7 ha' (evA_rel (a := a) e6 x)
  obtain ⟨cv, h9, h10⟩ := loadVar_sound (b := b) (o := o0) hTO hT (bodyRel_cells h7) h8 hl
  refine wp_value (u := cv) (w' := w) ?_ ⟨cv, R, μ, rfl, h10, e6, e7⟩
  simp only [execOp, hop, h6, Instr.loadAt, Instr.sureAddr, Sem.run_bind, Sem.run_pure, Result.andThen_ok, h9]
theorem qop_call {n : FuncId} {as : List AVal} {hp : Hp} {ι : List Nat} {Q : AVal → Hp → Prop} {h h' : Hp} {v : AVal} (hs : Spec P n as hp Q) (hca : callA g o = some (n, AVal.rens (fun j => ι.getD j 0) as)) (hb : AVal.nbs hp.nxt as = true) (hh : Handed h hp ι)
    (hk : ∀ av h1, Q av h1 → ∀ (X : Ctx) (R : Nat → Prop) (μ : Mu) (w : World) (μ' : Mu) (cv : Value), HRel X R μ (h.kills ι) w → ARel R μ' w av cv →
      (∀ i, i < hp.nxt → ∀ p, μ[ι.getD i 0]? = some p → μ'[i]? = some p) → h.nxt = μ.length →
      (∀ β blk, h1.get β = some blk → ∃ b o, μ'[β]? = some (b, o) ∧ ¬ R b ∧ X.own b ∧ BlkRel R μ' w b o blk ∧ HRel.Free (h.kills ι) μ b) →
      (∀ β β' blk blk' b b' o o', h1.get β = some blk → h1.get β' = some blk' → μ'[β]? = some (b, o) → μ'[β']? = some (b', o') → b = b' → β = β') →
      ∃ R2 μ2, (∀ k, R k → R2 k) ∧ (∀ (β : Nat) p, μ[β]? = some p → μ2[β]? = some p) ∧ ARel R2 μ2 w v cv ∧ HRel X R2 μ2 h' w) : QOp P N h h' o g v := by
  intro g' hag X R μ a w Q' e5 e6 e7
  rw [← callA_congr hag] at hca
  obtain ⟨cargs, h1, h2⟩ := callA_run e6 hca hs.can
  have hH := handed_rel e7 hh
  have ha := ARels.unren (μ := muOf μ ι) (fun β hβ => muOf_get e7.len hh hβ) as cargs hb h2
  unfold Oper.wp
  rw [h1]
  refine (hs.run R (muOf μ ι) w cargs hH ha).mono ?_
  rintro e w' ⟨u, rfl, R', μ', av, h1', h3, h4, h5⟩
  obtain ⟨hon, hRR, hK, hlive⟩ := after_call e7 hh h4
  obtain ⟨R2, μ2, h6, h7, h8, h9⟩ := hk av h1' h5 X R' μ w' μ' u hK h3 (fun i hi p hp => h4.mu i p ((muOf_get e7.len hh hi).trans hp)) e7.len.symm hlive h4.inj
  exact ⟨u, R2, μ2, rfl, h8, (e6.mono hRR hon (fun _ _ h => h)).mono h6 (Onward.refl _ _) h7, h9⟩
theorem qop_pur {n : FuncId} {as : List AVal} {r : AVal} {h : Hp} (hs : Pur P n as r) (hca : callA g o = some (n, as)) (hb : AVal.nbs 0 as = true) (hr : AVal.nb 0 r = true) : QOp P N h h o g r := by
  refine qop_call (ι := []) hs (by rw [rens_below0 _ hb]; exact hca) hb handed_none ?_
  intro av h1 hq X R μ w μ' cv e7 h3 _ _ _ _
  subst hq
  refine ⟨R, μ, fun _ h => h, fun _ _ h => h, ?_, e7⟩
  have := ARel.ren (μ2 := μ) (ρ := id) (m := 0) (fun β hβ => absurd hβ (Nat.not_lt_zero _)) av cv hr h3
  rwa [ren_below0 av hr] at this
theorem aq_pur {n : FuncId} {as : List AVal} {r : AVal} {d : Nat} {t : Bool} (hs : Pur P n as r) (hca : callA g o = some (n, as)) (hd : o.dst = some d) (hN : Nat.blt d N = true) (hb : AVal.nbs 0 as = true) (hr : AVal.nb 0 r = true)
    (hg : guardB ops g o = some t) (ht : t = true) (hk : QGo P N ld ops Hs K F rest (ix + 1) j ((d, r) :: g)) : QGo P N ld ops Hs K F (o :: rest) ix j g :=
  aq_quiet hg ht hd hN (fun _ _ => qop_pur hs hca hb hr) hk
theorem own_to_ro {n : FuncId} {as : List AVal} {l z : Nat} {bd : Body} {v : RVal} {c : Prop} (hs : Own P n as l z bd) (hr : roOf bd 0 l z = some (v, c)) (hc : c) : Pur P n as (.r v) := by
  refine ⟨hs.can, fun R μ w cargs h1 h2 => (hs.run R μ w cargs h1 h2).mono ?_⟩
  rintro e w' ⟨u, rfl, R', μ', av, h', h3, h4, β, rfl, hg⟩
  have he := ent_freeze (m := .of (callCtx w ⟨0, [], false⟩ R μ).μ0.length) (g := [(0, .sl β 0 l z)]) (h := h') 0 (β := β) (off := 0) (n := l) (z := z) (bd := bd) rfl hg hr hc
  obtain ⟨R2, μ2, h5, h6⟩ := he (callCtx w ⟨0, [], false⟩ R μ) R' μ' w' #[u] rfl (fun t => by
    simp only [lookR]
    by_cases e : 0 = t
    · subst e; simpa using h3
    · rw [beq_ne e]; simp [ARel]) h4
  refine ⟨u, rfl, R2, μ2, .r v, h'.set β none, ?_, h6, rfl⟩
  have := h5 0
  simpa [lookR] using this
theorem Pur.mono_r {n : FuncId} {as : List AVal} {r r' : AVal} (hs : Pur P n as r) (h : r = r') : Pur P n as r' := h ▸ hs
end
end Go.Proofs.YtccdhgmkjakjkaaGreat
namespace Go.Proofs.YtccdhgmkjakjkaaGreat
open Go
section
variable {P : Program} {T : TTab} {f N : Nat} {m : Md} {ops : Array Oper} {o : Oper} {rest : List Oper} {k : List Item} {g : Regs} {h h' : Hp} {Post : AVal → Hp → Prop} {ld : List Nat} {Hs : Nat → Hp} {K ix j : Nat} {F : Regs → Prop}
theorem ar_q {t : Bool} {v : AVal} (hnd : deferB o = false) (hg : guardB ops g o = some t) (ht : t = true) (hN : ∀ d, o.dst = some d → Nat.blt d N = true) (hq : QOp P N h h' o g v)
    (hk : AReg P f N m ops rest k (match o.dst with | some d => (d, v) :: g | none => g) h' Post) : AReg P f N m ops (o :: rest) k g h Post := by
  subst ht
  intro idx hi X R μ a w b cs e1 e2 e3 e4 e5 e6 e7
  cases idx with
  | nil => simp at hi
  | cons i idx =>
    simp only [List.map_cons, List.cons.injEq] at hi
    obtain ⟨ho, hi⟩ := hi
    have hw := guardB_wanted hg e6
    obtain ⟨a', w', ⟨cv, R', μ', rfl, h1, h2, h3⟩, hsteps⟩ := step_wp (b := b) (cs := cs) (k := k) (idx := idx) (fun _ _ _ h => h.elim) hnd ho hw (hq g (fun _ _ => rfl) X R μ a w (fun _ _ _ => False) e5 e6 e7)
    have hreg : RegRel R' μ' w' (match o.dst with | some d => (d, v) :: g | none => g) (a.put o.dst cv).tmps := by
      cases hd : o.dst with
      | none => exact h2
      | some d => exact h2.put (by rw [e5]; exact Nat.le_of_ble_eq_true (hN d hd)) h1
    obtain ⟨u, w2, fr, h4, rest'⟩ := hk idx hi X R' μ' (a.put o.dst cv) w' b cs e1 e2 e3 (by rw [put_defers]; exact e4) (by rw [put_size]; exact e5) hreg h3
    exact ⟨u, w2, fr, Steps.trans hsteps h4, rest'⟩
theorem ar_qd {t : Bool} {v : AVal} {d : Nat} (hnd : deferB o = false) (hq : QOp P N h h' o g v) (hg : guardB ops g o = some t) (ht : t = true) (hd : o.dst = some d) (hN : Nat.blt d N = true)
    (hk : AReg P f N m ops rest k ((d, v) :: g) h' Post) : AReg P f N m ops (o :: rest) k g h Post :=
  ar_q hnd hg ht (fun d' h1 => by rw [hd] at h1; cases h1; exact hN) hq (by rw [hd]; exact hk)
theorem aq_qd {v : AVal} {t : Bool} {d : Nat} (hq : ∀ h, QOp P N h h o g v) (hg : guardB ops g o = some t) (ht : t = true) (hd : o.dst = some d) (hN : Nat.blt d N = true)
    (hk : QGo P N ld ops Hs K F rest (ix + 1) j ((d, v) :: g)) : QGo P N ld ops Hs K F (o :: rest) ix j g :=
  aq_quiet hg ht hd hN (fun i _ => hq (Hs i)) hk
theorem aq_qd0 {v : AVal} {t : Bool} {d : Nat} (hq : QOp P N (Hs 0) (Hs 0) o g v) (hl : limAt ld ops ix = 0) (hg : guardB ops g o = some t) (ht : t = true) (hd : o.dst = some d) (hN : Nat.blt d N = true)
    (hk : QGo P N ld ops Hs K F rest (ix + 1) j ((d, v) :: g)) : QGo P N ld ops Hs K F (o :: rest) ix j g :=
  aq_quiet hg ht hd hN (fun i hi => by rw [hl] at hi; rw [Nat.le_zero.1 hi]; exact hq) hk
theorem new_ro {X : Ctx} {R : Nat → Prop} {μ : Mu} {w : World} {tmps : Array Value} (H : HRel X R μ h w) (hr : RegRel R μ w g tmps) (cells : Array Value) (e : TypeId) (fz : Nat × Nat) :
    HRel X (fun k => R k ∨ k = w.heap.size) μ h ((World.drawnOnce w).alloc (.cells cells e fz)) ∧ RegRel (fun k => R k ∨ k = w.heap.size) μ ((World.drawnOnce w).alloc (.cells cells e fz)) g tmps := by
  have hg := grown_alloc (World.drawnOnce w) (.cells cells e fz)
  have H1 : HRel X R μ h ((World.drawnOnce w).alloc (.cells cells e fz)) := HRel.grow (H.drew _) hg (fun b hb => by simp at hb) (fun b hb => by simp at hb) (fun b hb => by simp at hb)
  have H0 : HRel X R μ h (World.drawnOnce w) := H.drew _
  have hon' := HRel.onward H0 hg (fun b hb => by simp at hb)
  have hon : Onward R w ((World.drawnOnce w).alloc (.cells cells e fz)) := ⟨hon'.same, hon'.shape⟩
  refine ⟨H1.freeze (.inr H.size) (fun β blk o hg1 hm => H.free_new (Nat.le_refl _) β blk o hg1 hm) ⟨cells, e, fz, ?_⟩, hr.mono (fun _ h => .inl h) hon (fun _ _ h => h)⟩
  show (w.heap.push _)[w.heap.size]? = _
  simp
def strBytesA (T : TTab) (g : Regs) (o : Oper) : Option (List UInt8) :=
  match o.op with
  | .convert src dst x =>
    match T.look src, T.look dst, evA g x with
    | some { k := .str, .. }, some { k := .slice e, .. }, .r (.str s) => match T.look e with | some { k := .int .u8, .. } => some s | _ => none
    | _, _, _ => none
  | _ => none
theorem qop_strBytes (hTO : TOk P T) {s : List UInt8} (hp : strBytesA T g o = some s) : QOp P N h h o g (.r (.bs s)) := by
  intro g' hag X R μ a w Q e5 e6 e7
  unfold strBytesA at hp
  split at hp
  case h_2 => simp at hp
  rename_i src dst x hop
  split at hp
  case h_2 => simp at hp
  rename_i e _ _ _ s' hS hD hx
  split at hp
  case h_2 => simp at hp
  rename_i hE
  simp only [Option.some.injEq] at hp
  subst hp
  obtain ⟨ds, hds, hk1⟩ := tyk_ok hTO hS
  obtain ⟨dd, hdd, hk2⟩ := tyk_ok hTO hD
  obtain ⟨de, hde, hk3⟩ := tyk_ok hTO hE
  simp only [TyK.ok] at hk1 hk2 hk3
  subst hk1; subst hk2; subst hk3
  have hxr := evA_rel (a := a) e6 x
  rw [hop] at hag
  rw [hag x (by simp [Op.operands]), hx] at hxr
  simp only [ARel, RRel] at hxr
  have hrun := run_bytes_of_string (P := P) w src dst e ⟨⟨s'⟩⟩ hds hdd hde
  have hge : s'.length ≤ grownCap w s'.length 0 e := grownCap_ge w _ _ _
  have hcells : bytesRow ⟨⟨s'⟩⟩ (grownCap w s'.length 0 e) = (⟨bytesV s'⟩ : Array Value) ++ Array.replicate (grownCap w s'.length 0 e - s'.length) (.int .u8 0) := by
    apply Array.ext'
    simp [bytesRow, bytesV, byteV, size_mk]
  rw [size_mk, hcells] at hrun
  generalize hcap : grownCap w s'.length 0 e = cap at hrun hge
  generalize hcs : (⟨bytesV s'⟩ : Array Value) ++ Array.replicate (cap - s'.length) (.int .u8 0) = cells at hrun
  obtain ⟨H1, H2⟩ := new_ro e7 e6 cells e (cells.size, cells.size + 1)
  refine wp_value (u := .slice (some ⟨w.heap.size, 0, none⟩) s'.length cap) (w' := (World.drawnOnce w).alloc (.cells cells e (cells.size, cells.size + 1))) ?_ ⟨_, _, μ, rfl, ?_, H2, H1⟩
  · simp only [execOp, hop, hxr, Sem.run_bind]
    rw [hrun]
    rfl
  · simp only [ARel, RRel]
    refine ⟨some ⟨w.heap.size, 0, none⟩, cap, rfl, hge, .inr ⟨w.heap.size, 0, rfl, .inr rfl, fun j v hj => ?_⟩⟩
    have hc : cells[j]? = some v := by
      obtain ⟨hl, _⟩ := List.getElem?_eq_some_iff.1 hj
      rw [← hcs, Array.getElem?_append_left (by simpa using hl)]
      simpa using hj
    simp only [World.cell?, Nat.zero_add]
    rw [show ((World.drawnOnce w).alloc (.cells cells e (cells.size, cells.size + 1))).heap[w.heap.size]? = _ from heap_new (World.drawnOnce w) _]
    simp [hc]
def makeA (T : TTab) (N : Nat) (g : Regs) (o : Oper) : Option (Nat × Nat × Int × Body × Prop) :=
  match o.dst, o.op with
  | some d, .makeSlice t l c => bif Nat.blt d N then
    match T.look t, evA g l, evA g c with
    | some { k := .slice e, .. }, .r (.int _ n), .r (.int _ n') =>
      match T.look e with
      | some te =>
        match te.k, te.zero with
        | .int .u8, _ => some (d, 1, n, .bytes (List.replicate n.toNat 0), ((0 ≤ n ∧ n ≤ 140737488355328) ∧ n = n' ∧ te.size = 1 ∧ te.bytes = 1) ∧ te.zero = [.int .u8 0])
        | _, [z] => some (d, 1, n, .plain (List.replicate n.toNat z), ((0 ≤ n ∧ n * te.bytes ≤ 140737488355328) ∧ n = n' ∧ te.size = 1 ∧ n ≤ 140737488355328) ∧ te.zero = [z])
        | _, _ => none
      | none => none
    | _, _, _ => none
    else none
  | _, _ => none
theorem madeCells_one (z : Value) (n : Nat) : (madeCells #[z] n).toList = List.replicate n z := by
  simp only [madeCells, Array.toList_map, Array.toList_range]
  apply List.ext_getElem
  · simp
  · intro i h1 h2
    simp [Nat.mod_one]
theorem opStep_make (hTO : TOk P T) {d z : Nat} {n : Int} {bd : Body} {c : Prop} (hp : makeA T N g o = some (d, z, n, bd, c)) (hc : c) : OpStep P N o g h ((d, .sl h.nxt 0 n.toNat z) :: g) (h.push bd) := by
  intro X R μ a w e5 e6 e7
  unfold makeA at hp
  split at hp
  case h_2 => simp at hp
  rename_i d' t l cc hd hop
  cases hb : Nat.blt d' N <;> rw [hb] at hp <;> simp only [cond_true, cond_false, reduceCtorEq] at hp
  have hlt : d' < a.tmps.size := by rw [e5]; exact Nat.le_of_ble_eq_true hb
  split at hp
  case h_2 => simp at hp
  rename_i e _ _ _ k1 n1 k2 n2 hT hl hcc
  split at hp
  case h_2 => simp at hp
  rename_i te hE
  obtain ⟨D, hD, hk⟩ := tyk_ok hTO hT
  simp only [TyK.ok] at hk
  subst hk
  have h1 := evA_rel (a := a) e6 l
  have h2 := evA_rel (a := a) e6 cc
  rw [hl] at h1
  rw [hcc] at h2
  simp only [ARel, RRel] at h1 h2
  have main : ∀ (zr : RVal) (bd' : Body), te.zero = [zr] → 0 ≤ n1 → n1 ≤ 140737488355328 → n1 * te.bytes ≤ 140737488355328 → n1 = n2 → te.size = 1 → (∀ zc, RRel R w zr zc → BodyRel R μ w bd' (List.replicate n1.toNat zc)) →
      ∃ v w' R' μ', ((execOp a.eval o).run P w = .ok (.value v) w' ∨ ((execOp a.eval o).run P w = .ok .skip w' ∧ v = undef)) ∧ RegRel R' μ' w' ((d', .sl h.nxt 0 n1.toNat 1) :: g) (a.put o.dst v).tmps ∧ HRel X R' μ' (h.push bd') w' := by
    intro zr bd' hz hn0 hnb hnby hnn hsz hbd
    subst hnn
    obtain ⟨_, i, _, hi, hs, hby, _, _, h0⟩ := (hTO e te hE).ex
    obtain ⟨zv, hz1, hz2, hz3⟩ := h0.resolve_left (by rw [hz]; simp)
    obtain ⟨zv', hz4, hz5, _⟩ := zero_ok (P := P) (w := w) (R := R) (μ := μ) hTO hE (by rw [hz]; simp)
    have hze : zv' = zv := by
      have : (zeroValue e).run P w = .ok zv w := by simp [zeroValue, run_typeInfo w hi, hz1]
      rw [this] at hz4; simp at hz4; exact hz4.symm
    subst hze
    have hcz : zv'.cells = #[zr.conc] := by apply Array.ext'; rw [hz2, hz]; rfl
    have hrel : RRel R w zr zr.conc := by
      rw [hz, hcz] at hz5
      simp only [List.map_cons, List.map_nil, ARels, ARel] at hz5
      obtain ⟨c1, r1, e1, h3, _⟩ := hz5
      simp only [List.cons.injEq] at e1
      rw [e1.1]; exact h3
    have hrun := run_make (P := P) w t e i zv' hD hi hz1 k1 k2 n1 n1 hn0 (Int.le_refl _) (by rw [hby, Int.mul_comm]; omega) (by omega)
    rw [hs, hsz, Nat.mul_one, hcz] at hrun
    obtain ⟨H1, H2, _⟩ := new_block e7 e6 (madeCells #[zr.conc] n1.toNat) e (0, 0) (by simp) (bd := bd') (hbd _ hrel) (fun j v hj => by
      rw [← madeCells_one] at hj; simpa using hj)
    refine ⟨.slice (some ⟨w.heap.size, 0, none⟩) n1.toNat n1.toNat, _, R, _, .inl ?_, ?_, H1⟩
    · simp only [execOp, hop, h1, h2, Sem.run_bind]
      rw [hrun]
      rfl
    · rw [hd]
      refine H2.put hlt ?_
      simp only [ARel]
      exact ⟨w.heap.size, 0, n1.toNat, _, e, (0, 0), new_name e7, rfl, Nat.le_refl _, by unfold maxLen; omega, heap_new w _, by rw [size_madeCells]; omega⟩
  split at hp
  · simp only [Option.some.injEq, Prod.mk.injEq] at hp
    obtain ⟨rfl, rfl, rfl, rfl, rfl⟩ := hp
    obtain ⟨⟨⟨hc1, hc2⟩, hc3, hc4, hc5⟩, hc6⟩ := hc
    refine main _ _ hc6 hc1 hc2 (by rw [hc5]; omega) hc3 hc4 (fun zc hzc => ?_)
    simp only [RRel] at hzc
    subst hzc
    simp [BodyRel, bytesV, byteV]
  · rename_i zr hzz
    simp only [Option.some.injEq, Prod.mk.injEq] at hp
    obtain ⟨rfl, rfl, rfl, rfl, rfl⟩ := hp
    obtain ⟨⟨⟨hc1, hc2⟩, hc3, hc4, hc5⟩, hc6⟩ := hc
    refine main _ _ hc6 hc1 hc5 hc2 hc3 hc4 (fun zc hzc => ?_)
    simp only [BodyRel]
    generalize n1.toNat = q
    induction q with
    | zero => simp [RRels]
    | succ q ih => simp only [List.replicate_succ, RRels]; exact ⟨_, _, rfl, hzc, ih⟩
  · simp at hp
theorem ar_make (hTO : TOk P T) {t : Bool} {d z : Nat} {n : Int} {bd : Body} {c : Prop} (hp : makeA T N g o = some (d, z, n, bd, c)) (hg : guardB ops g o = some t) (ht : t = true) (hc : c)
    (hk : AReg P f N m ops rest k ((d, .sl h.nxt 0 n.toNat z) :: g) (h.push bd) Post) : AReg P f N m ops (o :: rest) k g h Post :=
  ar_op hg ht (opStep_make hTO hp hc) hk
def arrSlA (T : TTab) (g : Regs) (h : Hp) (o : Oper) : Option (AVal × Prop) :=
  match o.op with
  | .slice t x none none none =>
    match T.look t, evA g x with
    | some { k := .arr n e, .. }, .ptr β off =>
      match T.look e, h.get β with
      | some te, some bd => some (.sl β off n te.size, off + n * te.size ≤ bd.cells.length ∧ n ≤ 9223372036854775807)
      | _, _ => none
    | _, _ => none
  | _ => none
theorem qop_arrSl (hTO : TOk P T) {v : AVal} {c : Prop} (hp : arrSlA T g h o = some (v, c)) (hc : c) : QOp P N h h o g v := by
  intro g' hag X R μ a w Q e5 e6 e7
  unfold arrSlA at hp
  split at hp
  case h_2 => simp at hp
  rename_i t x hop
  split at hp
  case h_2 => simp at hp
  rename_i n e _ _ _ β off hT hx
  split at hp
  case h_2 => simp at hp
  rename_i te bd hE hg
  simp only [Option.some.injEq] at hp
  obtain ⟨rfl, rfl⟩ := Prod.mk.inj hp
  obtain ⟨D, hD, hk⟩ := tyk_ok hTO hT
  simp only [TyK.ok] at hk
  subst hk
  have hxr := evA_rel (a := a) e6 x
  rw [hop] at hag
  rw [hag x (by simp [Op.operands]), hx] at hxr
  simp only [ARel] at hxr
  obtain ⟨b, o0, h2, hxe⟩ := hxr
  obtain ⟨b', o', h8, _, _, h9⟩ := e7.live β _ hg
  rw [h2] at h8; cases h8
  obtain ⟨cells', el', fz', vs, h10, h11, h12, h13, h14⟩ := h9.ex
  have hl := (bodyRel_cells h12).length
  refine wp_value (u := .slice (some ⟨b, o0 + off, none⟩) n n) (w' := w) ?_ ⟨_, R, μ, rfl, ?_, e6, e7⟩
  · simp only [execOp, hop, hxe, Option.map_none, Instr.sliceAt, Sem.run_bind, run_underlying hD, Result.andThen_ok, Instr.sureAddr, Sem.run_pure, Instr.sliceBounds, size_ok hTO hE]
    by_cases h0 : n = 0
    · subst h0; rfl
    · simp [Addr.add]
  · simp only [ARel]
    exact ⟨b, o0, n, cells', el', fz', h2, rfl, Nat.le_refl _, by unfold maxLen; exact hc.2, h10, by omega⟩
end
end Go.Proofs.YtccdhgmkjakjkaaGreat
namespace Go.Proofs.YtccdhgmkjakjkaaGreat
open Go
mutual
theorem ren_id : ∀ (v : AVal), AVal.ren id v = v
  | .sl _ _ _ _ => rfl
  | .ptr _ _ => rfl
  | .func f cs => by simp only [AVal.ren]; rw [rens_id cs]
  | .agg cs => by simp only [AVal.ren]; rw [rens_id cs]
  | .tuple cs => by simp only [AVal.ren]; rw [rens_id cs]
  | .r _ => rfl
  | .rp _ _ => rfl
  | .bp _ _ => rfl
  | .yld _ => rfl
  | .any => rfl
theorem rens_id : ∀ (v : List AVal), AVal.rens id v = v
  | [] => rfl
  | x :: xs => by simp only [AVal.rens]; rw [ren_id x, rens_id xs]
end
theorem Regs.nb_look {n : Nat} : ∀ {g : Regs} (t : Nat), Regs.nb n g = true → AVal.nb n (lookR g t) = true
  | [], t, _ => rfl
  | (s, v) :: r, t, h => by
    simp only [Regs.nb, Bool.and_eq_true] at h
    simp only [lookR]
    cases Nat.beq s t
    · exact Regs.nb_look t h.2
    · exact h.1
theorem RegRel.down {R : Nat → Prop} {μ μ0 : Mu} {w : World} {g : Regs} {tmps : Array Value} (hm : ∀ (β : Nat) p, μ0[β]? = some p → μ[β]? = some p) (hnb : Regs.nb μ0.length g = true) (h : RegRel R μ w g tmps) : RegRel R μ0 w g tmps := by
  intro t
  refine ARel.unren (μ2 := μ) (ρ := id) (m := μ0.length) (fun β hβ => ?_) _ _ (Regs.nb_look t hnb) (by rw [ren_id]; exact h t)
  have h1 : μ0[β]? = some μ0[β] := by simp [hβ]
  rw [h1]
  exact (hm β _ h1).symm
theorem HRel.recon {X X' : Ctx} {R : Nat → Prop} {μ : Mu} {h : Hp} {w : World} (H : HRel X R μ h w) (x1 : X'.w0 = X.w0) (x2 : X'.O = X.O) (x3 : X'.R0 = X.R0) (x4 : ∀ (β : Nat) p, X'.μ0[β]? = some p → μ[β]? = some p) (gh : Bool) (hi : X'.inv gh R w) :
    HRel X' R μ { h with gh := gh } w where
  os := by rw [x1]; exact H.os
  tape := by rw [x1]; exact H.tape
  output := by rw [x1]; exact H.output
  size := by rw [x1]; exact H.size
  keep := by rw [x1, x2]; exact H.keep
  shape := by rw [x1]; exact H.shape
  r0 := by rw [x3]; exact H.r0
  rO := by rw [x1, x2, x3]; exact H.rO
  rlt := H.rlt
  rc := H.rc
  mu := x4
  len := H.len
  live := by rw [x1, x2]; exact H.live
  inj := H.inj
  inv := hi
section
variable {P : Program} {T : TTab} {f N : Nat} {m : Md} {ops : Array Oper} {o : Oper} {rest : List Oper} {k : List Item} {g : Regs} {h h' : Hp} {Post : AVal → Hp → Prop}
def recOf (f : FuncId) (tmps : Array Value) (ps : Array Tmp) (assign body : Code) (D : Nat) (gh : Bool) : Loop :=
  { state := if gh then .done else .ready, pending := if gh then some .ret else none, fn := f, tmps := tmps, params := ps, assign := assign, body := body, defers := D }
def ctxI (X : Ctx) (μp : Mu) (g : Regs) (tmps : Array Value) (l D : Nat) (rec : Bool → Loop) : Ctx where
  w0 := X.w0
  O := X.O
  R0 := X.R0
  μ0 := μp
  mark := none
  inv := fun gh R w => RegRel R μp w g tmps ∧ w.heap[D]? = some (.deferred (some [])) ∧ w.heap[l]? = some (.loop (rec gh))
  mono := fun _ _ _ _ _ h hR hw ho => ⟨h.1.mono hR hw (fun _ _ h => h), ho _ _ h.2.1 (by intro c e f h; cases h), ho _ _ h.2.2 (by intro c e f h; cases h)⟩
  mkd := fun _ h => by cases h
def ctxR (X : Ctx) (μp : Mu) (g gI : Regs) (tmps tI : Array Value) (l D : Nat) (rec : Loop) : Ctx where
  w0 := X.w0
  O := X.O
  R0 := X.R0
  μ0 := μp
  mark := none
  inv := fun _ R w => (RegRel R μp w g tmps ∧ RegRel R μp w gI tI) ∧ w.heap[D]? = some (.deferred (some [])) ∧ w.heap[l]? = some (.loop { rec with state := .busy })
  mono := fun _ _ _ _ _ h hR hw ho => ⟨⟨h.1.1.mono hR hw (fun _ _ h => h), h.1.2.mono hR hw (fun _ _ h => h)⟩, ho _ _ h.2.1 (by intro c e f h; cases h), ho _ _ h.2.2 (by intro c e f h; cases h)⟩
  mkd := fun _ h => by cases h
def ctxD (X : Ctx) (μp : Mu) (D : Nat) (hD : X.w0.heap.size ≤ D) : Ctx where
  w0 := X.w0
  O := X.O
  R0 := X.R0
  μ0 := μp
  mark := some D
  inv := fun _ _ w => w.heap[D]? = some (.deferred (some []))
  mono := fun _ _ _ _ _ h _ _ ho => ho _ _ h (by intro c e f h; cases h)
  mkd := fun _ h _ _ _ hi => by cases h; exact ⟨hi, hD⟩
def AsgOk (P : Program) (N : Nat) (assign : Code) (g g1 : Regs) : Prop :=
  ∀ (R : Nat → Prop) (μ : Mu) (w : World) (b : Frame) (a : Act) (k : List Item) (cs : List Frame), a.tmps.size = N → RegRel R μ w g a.tmps →
    ∃ a', a'.defers = a.defers ∧ a'.tmps.size = N ∧ RegRel R μ w g1 a'.tmps ∧ Steps P (lone (b.atR a (.code assign :: k)) cs w) (lone (b.atR a' k) cs w)
theorem put_foldl : ∀ (ps : List Tmp) (as : List AVal) (cs : List Value) (R : Nat → Prop) (μ : Mu) (w : World) (g : Regs) (t : Array Value), t.size = N → ps.all (fun p => Nat.blt p N) = true → ARels R μ w as cs → as.length = ps.length → RegRel R μ w g t →
    ((ps.zip cs).foldl (fun t (p : Tmp × Value) => t.setIfInBounds p.1 p.2) t).size = N ∧ RegRel R μ w ((ps.zip as).foldl (fun g (p : Tmp × AVal) => p :: g) g) ((ps.zip cs).foldl (fun t (p : Tmp × Value) => t.setIfInBounds p.1 p.2) t)
  | [], _, _, R, μ, w, g, t, h1, _, _, _, h4 => by simpa using ⟨h1, h4⟩
  | p :: ps, [], cs, _, _, _, _, _, _, _, _, h, _ => by simp at h
  | p :: ps, a :: as, cs, R, μ, w, g, t, h1, h2, h3, hl, h4 => by
    simp only [ARels] at h3
    obtain ⟨c, r, rfl, h5, h6⟩ := h3
    simp only [List.all_cons, Bool.and_eq_true] at h2
    simp only [List.zip_cons_cons, List.foldl_cons]
    exact put_foldl ps as r R μ w ((p, a) :: g) _ (by simp [h1]) h2.2 h6 (by simpa using hl) (h4.put (by rw [h1]; exact Nat.le_of_ble_eq_true h2.1) h5)
theorem yields_of {X : Ctx} {μp : Mu} {a : Act} {ps : Array Tmp} {assign body : Code} {l D p : Nat} {Y : YRel} {g1 : List AVal → Regs} (hp : μp.length = p) (hX : X.w0.heap.size ≤ l) (hDl : D ≠ l) (hN : a.tmps.size = N) (hps : ps.toList.all (fun p => Nat.blt p N) = true)
    (hY : ∀ args h v h', Y args h v h' → args.length = ps.toList.length ∧ AsgOk P N assign ((ps.toList.zip args).foldl (fun g (p : Tmp × AVal) => p :: g) g) (g1 args))
    (hround : ∀ args h1 v h2, Y args h1 v h2 → AGo P f N ⟨p, true, false, none⟩ [.code body] (g1 args) h1 fun u h' => u = .r (.bool v) ∧ h' = h2) :
    Yields P (ctxI X μp g a.tmps l D (recOf f a.tmps ps assign body D)) l Y := by
  intro args h v h' hy hgh R μ w cargs gI tI hnb hrI H hargs
  obtain ⟨hlen, hasg⟩ := hY args h v h' hy
  have hinv := H.inv
  rw [hgh] at hinv
  obtain ⟨hrg, hD, hl⟩ := hinv
  have hrun := run_yield (P := P) (args := ⟨cargs⟩) hl (by
    have := hargs.length
    show cargs.length = _
    rw [this, hlen]; rfl)
  have hzip : ((recOf f a.tmps ps assign body D false).params.zip ⟨cargs⟩).foldl (fun tmps (t, a) => tmps.setIfInBounds t a) (recOf f a.tmps ps assign body D false).tmps
      = (ps.toList.zip cargs).foldl (fun t (p : Tmp × Value) => t.setIfInBounds p.1 p.2) a.tmps := by
    show (ps.zip (List.toArray cargs)).foldl (fun tmps (p : Tmp × Value) => tmps.setIfInBounds p.1 p.2) a.tmps = _
    rw [← Array.foldl_toList, Array.toList_zip]
  rw [hzip] at hrun
  obtain ⟨hsz, hreg0⟩ := put_foldl (N := N) ps.toList args cargs R μ w g a.tmps hN hps hargs hlen (hrg.mono (fun _ h => h) (Onward.refl R w) H.mu)
  generalize htm : (ps.toList.zip cargs).foldl (fun t (p : Tmp × Value) => t.setIfInBounds p.1 p.2) a.tmps = tm at hrun hsz hreg0
  refine ⟨_, _, _, _, _, hrun, ?_⟩
  let b : Frame := { (default : Frame) with fn := f, kind := .normal, roundOf := some l }
  let rb : Loop := { recOf f a.tmps ps assign body D false with state := .busy }
  obtain ⟨hon1, hH1⟩ := putObj_keeps (o' := .loop rb) H hl (by intro c e f h; cases h)
  have hll : l < w.heap.size := (Array.getElem?_eq_some_iff.1 hl).1
  have H1 := hH1 (ctxR X μp g gI a.tmps tI l D (recOf f a.tmps ps assign body D false)) rfl rfl rfl rfl hX h rfl rfl
    ⟨⟨hrg.mono (fun _ h => h) hon1 (fun _ _ h => h), (hrI.down H.mu hnb).mono (fun _ h => h) hon1 (fun _ _ h => h)⟩, (World.putObj_heap_other hDl).trans hD, World.putObj_heap_same hll⟩
  intro c cs
  have hfr : Frame.round l f tm assign body .normal = b.atR { tmps := tm, defers := [] } [.code assign, .beginRound, .code body] := rfl
  obtain ⟨a1, d1, s1, r1, st1⟩ := hasg R μ w b { tmps := tm, defers := [] } [.beginRound, .code body] (c :: cs) hsz hreg0
  have st2 := stepR_beginRound (P := P) (b := b) (a := a1) (k := [.code body]) (cs := c :: cs) (w := w) (l := l) rfl (run_beginRound hl rfl)
  obtain ⟨v', w2, fr, st3, ⟨hf1, hf2⟩, hdone, R', μ', av, h1', h3, h4, rfl, rfl⟩ := hround args h v h' hy (ctxR X μp g gI a.tmps tI l D (recOf f a.tmps ps assign body D false)) R μ a1 _ b (c :: cs)
    ⟨hp, fun h => by simp at h, fun _ => rfl, fun _ _ h => by simp at h⟩ rfl ⟨rfl, rfl⟩ (by rw [d1]; rfl) s1 (r1.mono (fun _ h => h) hon1 (fun _ _ h => h)) H1
  simp only [ARel, RRel] at h3
  subst h3
  have hro : fr.roundOf = some l := hf2
  unfold Done at hdone
  rw [hro] at hdone
  have h4' : HRel (ctxR X μp g gI a.tmps tI l D (recOf f a.tmps ps assign body D false)) R' μ' h1' w2 := h4
  obtain ⟨⟨hrg2, hrI2⟩, hD2, hl2⟩ := h4'.inv
  have hll2 : l < w2.heap.size := (Array.getElem?_eq_some_iff.1 hl2).1
  have hfin : ∀ (jump : Option Code), jump = (if v then none else some .ret) → ∃ w3, (Instr.endRound l jump).run P w2 = .ok (.bool v) w3 ∧ RegRel R' μ' w3 gI tI ∧ HRel (ctxI X μp g a.tmps l D (recOf f a.tmps ps assign body D)) R' μ' { h1' with gh := !v } w3 := by
    intro jump hj
    have hrun3 := run_endRound (P := P) jump hl2
    have e1 : (if jump.isNone then LoopState.ready else .done) = (if !v then .done else .ready) := by rw [hj]; cases v <;> rfl
    have e2 : jump = (if !v then some .ret else none) := by rw [hj]; cases v <;> rfl
    have e3 : jump.isNone = v := by rw [hj]; cases v <;> rfl
    obtain ⟨hon3, hH3⟩ := putObj_keeps (o' := .loop (recOf f a.tmps ps assign body D (!v))) h4' hl2 (by intro c e f h; cases h)
    refine ⟨w2.putObj l (.loop (recOf f a.tmps ps assign body D (!v))), ?_, ?_, ?_⟩
    · rw [hrun3, e1, e3, e2]; rfl
    · exact hrI2.mono (fun _ h => h) hon3 h4'.mu
    · exact hH3 (ctxI X μp g a.tmps l D (recOf f a.tmps ps assign body D)) rfl rfl rfl rfl hX { h1' with gh := !v } rfl rfl
        ⟨hrg2.mono (fun _ h => h) hon3 (fun _ _ h => h), (World.putObj_heap_other hDl).trans hD2, World.putObj_heap_same hll2⟩
  obtain ⟨b2, a2, hk2, hc⟩ := hdone
  rcases hc with ⟨rfl, hv⟩ | ⟨k3, rfl, hv⟩
  · have hv' : v = true := by simpa using hv
    obtain ⟨w3, h5, h6, h7⟩ := hfin none (by rw [hv']; rfl)
    refine ⟨R', μ', w3, ?_, h6, h7⟩
    exact (show Steps P (lone (b.atR { tmps := tm, defers := [] } [.code assign, .beginRound, .code body]) (c :: cs) w) _ from Steps.trans st1 (.head st2 (Steps.trans st3 (.one (stepR_round_end hro hk2 h5)))))
  · have hv' : v = false := by simpa using hv
    obtain ⟨w3, h5, h6, h7⟩ := hfin (some .ret) (by rw [hv']; rfl)
    refine ⟨R', μ', w3, ?_, h6, h7⟩
    exact (show Steps P (lone (b.atR { tmps := tm, defers := [] } [.code assign, .beginRound, .code body]) (c :: cs) w) _ from Steps.trans st1 (.head st2 (Steps.trans st3 (.one (stepR_round_ret hro hk2 h5)))))
theorem ag_range {it NI : Nat} {caps : List AVal} {fnI : Func} {cI : Code} {gop : Operand} {ps : Array Tmp} {assign body : Code} (p : Nat) (Y : YRel) (g1 : List AVal → Regs) (PostI : Hp → Prop)
    (hmp : m.plain = true) (hmr : m.rnd = false) (hlen : Nat.ble m.len p = true) (hph : Nat.ble p h.nxt = true) (hgh : h.gh = false) (hg : evA g gop = .func it caps) (hnbg : Regs.nb p g = true)
    (hfI : P.funcs[it]? = some fnI) (hbI : fnI.body = some cI) (hnm : (fnI.name == "runtime.NumGoroutine") = false) (hNI : fnI.ntmps = NI) (hnI : Nat.ble (caps.length + 1) NI = true)
    (hps : ps.toList.all (fun p => Nat.blt p N) = true)
    (hY : ∀ args h v h', Y args h v h' → args.length = ps.toList.length ∧ AsgOk P N assign ((ps.toList.zip args).foldl (fun g (p : Tmp × AVal) => p :: g) g) (g1 args))
    (hround : ∀ args h1 v h2, Y args h1 v h2 → AGo P f N ⟨p, true, false, none⟩ [.code body] (g1 args) h1 fun u h' => u = .r (.bool v) ∧ h' = h2)
    (hiter : ∀ l, AGo P it NI ⟨p, false, false, some (l, Y)⟩ [.code cI] (argRegs 0 (.yld l :: caps)) h fun _ h' => PostI h')
    (hk : ∀ h', PostI h' → AGo P f N ⟨m.len, false, false, none⟩ ((if h'.gh then [.code .ret] else []) ++ k) g { h' with gh := false } Post) :
    AGo P f N m (.code (.rangeFunc gop ps assign body) :: k) g h Post := by
  intro X R μ a w b cs e1 e2 e3 e4 e5 e6 e7
  have hro : b.roundOf = none := by have := e3.2; rw [hmr] at this; simpa using this
  have hpl := e1.plain hmp
  have hmk : X.mark = none := by rw [hpl]; rfl
  have hdf : a.defers = [] := by rw [e4]; unfold Ctx.defers; rw [hmk]
  have hgv := evA_rel (a := a) e6 gop
  rw [hg] at hgv
  simp only [ARel] at hgv
  obtain ⟨cc, hgv, hcc⟩ := hgv
  -- the record is laid
  let D := w.heap.size
  let l := w.heap.size + 1
  let w1 : World := (w.alloc (.deferred (some []))).alloc (.loop (recOf f a.tmps ps assign body D false))
  have hent := run_enterLoop_outer (P := P) (w := w) b.fn a.tmps ps assign body
  have hg1 := grown_alloc w (.deferred (some []))
  have hg2 := grown_alloc (w.alloc (.deferred (some []))) (.loop (recOf f a.tmps ps assign body D false))
  have Hw1 : HRel X R μ h w1 := (e7.grow hg1 (fun b hb => by simp at hb) (fun b hb => by simp at hb) (fun b hb => by simp at hb)).grow hg2 (fun b hb => by simp at hb) (fun b hb => by simp at hb) (fun b hb => by simp at hb)
  have hon1 : Onward R w w1 := by
    have h1 := e7.onward hg1 (fun b hb => by simp at hb)
    have h2 := (e7.grow hg1 (fun b hb => by simp at hb) (fun b hb => by simp at hb) (fun b hb => by simp at hb)).onward hg2 (fun b hb => by simp at hb)
    exact ⟨fun k hk => (h2.same k hk).trans (h1.same k hk), fun k c e f hk => by
      obtain ⟨c1, f1, h3, h4⟩ := h1.shape k c e f hk
      obtain ⟨c2, f2, h5, h6⟩ := h2.shape k c1 e f1 h3
      exact ⟨c2, f2, h5, h6.trans h4⟩⟩
  have hsz1 : (w.alloc (.deferred (some []))).heap.size = w.heap.size + 1 := by show (w.heap.push _).size = _; simp
  have hl1 : w1.heap[l]? = some (.loop (recOf f a.tmps ps assign body D false)) := by
    have := World.alloc_heap_new (w.alloc (.deferred (some []))) (.loop (recOf f a.tmps ps assign body D false))
    rw [hsz1] at this; exact this
  have hD1 : w1.heap[D]? = some (.deferred (some [])) := by
    have h1 := World.alloc_heap_new w (.deferred (some []))
    rw [← h1]
    exact hg2.block D (by rw [hsz1]; exact Nat.lt_succ_self _) (by simp)
  have hX : X.w0.heap.size ≤ l := by have := e7.size; omega
  have hXD : X.w0.heap.size ≤ D := e7.size
  have hDl : D ≠ l := by omega
  let μp := μ.take p
  have hμl : μ.length = h.nxt := e7.len
  have hph' : p ≤ μ.length := by rw [hμl]; exact Nat.le_of_ble_eq_true hph
  have hμpl : μp.length = p := by simp [μp]; omega
  have hμp : ∀ (β : Nat) q, μp[β]? = some q → μ[β]? = some q := by
    intro β q hq
    rw [List.getElem?_take] at hq
    split at hq
    · exact hq
    · simp at hq
  have hμ0 : ∀ (β : Nat) q, X.μ0[β]? = some q → μp[β]? = some q := by
    intro β q hq
    have h1 := e7.mu β q hq
    have h2 : β < m.len := by rw [← e1.len]; exact (List.getElem?_eq_some_iff.1 hq).1
    have h3 := Nat.le_of_ble_eq_true hlen
    rw [List.getElem?_take, if_pos (by omega)]; exact h1
  have hrp : RegRel R μp w1 g a.tmps := (e6.down hμp (by rw [hμpl]; exact hnbg)).mono (fun _ h => h) hon1 (fun _ _ h => h)
  have HI : HRel (ctxI X μp g a.tmps l D (recOf f a.tmps ps assign body D)) R μ h w1 :=
    Hw1.recon (X' := ctxI X μp g a.tmps l D (recOf f a.tmps ps assign body D)) rfl rfl rfl hμp h.gh (by rw [hgh]; exact ⟨hrp, hD1, hl1⟩)
  have hyl := yields_of (P := P) (f := f) (N := N) (X := X) (μp := μp) (a := a) (l := l) (D := D) hμpl hX hDl e5 hps hY hround
  -- the iterator is called
  have hpr : (program).run P w1 = .ok P w1 := rfl
  have hcl : Callable P it := ⟨fnI, hfI, hnm, by simp [hbI]⟩
  have hres : (resolve a.eval (rangeCall gop l) 0).run P w1 = .ok { target := .fn (.func it) ⟨cc⟩, args := #[.func (.yield l) #[] #[]] } w1 := by
    simp only [resolve, hgv, Deferred.ofValue, Sem.run_pure]
    congr 2; simp [Act.eval]
  have hinv2 : (invoke (.fn (.func it) ⟨cc⟩) #[.func (.yield l) #[] #[]]).run P w1 = .ok (.enter it ⟨.func (.yield l) #[] #[] :: cc⟩) w1 := by
    simp only [invoke, callFunc, Sem.run_bind, hpr, Result.andThen_ok, hfI, hnm, Bool.false_eq_true, if_false]
    rw [show fnI.body.isNone = false by simp [hbI]]
    simp
  have hent' : (Instr.enterLoop b.fn a.tmps ps assign body b.roundOf).run P w = .ok (l, [{ target := .collected D, args := #[] }]) w1 := by
    rw [hro, hent, e2]; rfl
  have st1 := stepR_rangeFunc (P := P) (b := b) (a := a) (k := k) (cs := cs) (w := w) (g := gop) hent' hres hinv2
  have hargsI : ARels R μ w1 (.yld l :: caps) (.func (.yield l) #[] #[] :: cc) := by
    simp only [ARels]
    exact ⟨_, _, rfl, by simp only [ARel], hcc.mono (fun _ h => h) hon1 (fun _ _ h => h)⟩
  let bI : Frame := { (default : Frame) with fn := it, kind := .normal }
  let aI : Act := { tmps := ⟨.func (.yield l) #[] #[] :: cc⟩ ++ Array.replicate (fnI.ntmps - (cc.length + 1)) undef, defers := [] }
  have hentI : Frame.enter P it ⟨.func (.yield l) #[] #[] :: cc⟩ .normal = bI.atR aI [.code cI] := by
    simp only [Frame.enter, Frame.atR, hfI, hbI, bI, aI, Option.map_some, Option.getD_some, Option.bind_some]
    rfl
  have hccl := hcc.length
  obtain ⟨v, w3, fr, st2, ⟨hf1, hf2⟩, hdone, R', μ', av, h', _, h4, hpost⟩ := hiter l (ctxI X μp g a.tmps l D (recOf f a.tmps ps assign body D)) R μ aI w1 bI (b.atR { a with defers := [{ target := .collected D, args := #[] }] ++ a.defers } (.inRangeFunc l :: k) :: cs)
    ⟨hμpl, fun h => by simp at h, fun h => by simp at h, fun l' Y' h => by cases h; exact hyl⟩ rfl ⟨rfl, rfl⟩ rfl (by
      have := Nat.le_of_ble_eq_true hnI
      simp [aI]; omega) (fun t => by
      have := argRegs_rel (.yld l :: caps) 0 [] (.func (.yield l) #[] #[] :: cc) (List.replicate (fnI.ntmps - (cc.length + 1)) undef) rfl hargsI t
      rw [Array.getD_eq_getD_getElem?, ← Array.getElem?_toList]
      simpa [aI] using this) HI
  have hleave : fr.leaving P w3 (.returned v) := by
    have : fr.roundOf = none := hf2
    unfold Done at hdone; rw [this] at hdone; exact hdone
  have h4' : HRel (ctxI X μp g a.tmps l D (recOf f a.tmps ps assign body D)) R' μ' h' w3 := h4
  obtain ⟨hrg3, hD3, hl3⟩ := h4'.inv
  have hll3 : l < w3.heap.size := (Array.getElem?_eq_some_iff.1 hl3).1
  have hend := run_endLoop (P := P) hl3 (by cases h'.gh <;> simp [recOf])
  obtain ⟨hon4, hH4⟩ := putObj_keeps (o' := .loop { recOf f a.tmps ps assign body D h'.gh with state := .exhausted }) h4' hl3 (by intro c e f h; cases h)
  generalize hw4 : w3.putObj l (.loop { recOf f a.tmps ps assign body D h'.gh with state := .exhausted }) = w4 at hend hon4 hH4
  have hD4 : w4.heap[D]? = some (.deferred (some [])) := by rw [← hw4]; exact (World.putObj_heap_other hDl).trans hD3
  have H4 := hH4 (ctxD X μp D hXD) rfl rfl rfl rfl hX h' rfl rfl hD4
  have H5 : HRel (ctxD X X.μ0 D hXD) R' μ' { h' with gh := false } w4 := H4.recon (X' := ctxD X X.μ0 D hXD) rfl rfl rfl (fun β q hq => h4'.mu β q (hμ0 β q hq)) false hD4
  obtain ⟨u, w5, fr5, st5, hf5, hd5, R5, μ5, av5, h5, h6, h7, h8⟩ := hk h' hpost (ctxD X X.μ0 D hXD) R' μ' { a with defers := [{ target := .collected D, args := #[] }] ++ a.defers } w4 b cs
    ⟨e1.len, fun h => by simp at h, fun h => by simp at h, fun _ _ h => by simp at h⟩ e2 ⟨e3.1, by rw [hro]; rfl⟩ (by rw [hdf]; rfl) e5 (hrg3.mono (fun _ h => h) hon4 h4'.mu) H5
  refine ⟨u, w5, fr5, .head st1 ?_, hf5, hd5, R5, μ5, av5, h5, h6, ?_, h8⟩
  · rw [hentI]
    refine Steps.trans st2 (.head (step_leave_returned hleave) ?_)
    rw [finish_atR_inRangeFunc]
    refine .head (stepR_endRangeFunc hend) ?_
    have : ((recOf f a.tmps ps assign body D h'.gh).pending.map Item.code).toList = if h'.gh then [.code .ret] else [] := by cases h'.gh <;> rfl
    rw [this]
    exact st5
  · have : X.fin = Ctx.plain X.w0 X.O X.R0 X.μ0 := by unfold Ctx.fin; rw [hmk]; exact hpl
    rw [this]
    exact h7
def yldA (g : Regs) (o : Oper) : Option (Nat × List AVal) :=
  match o.op with
  | .call c =>
    match c.callee with
    | .value x =>
      match evA g x with
      | .yld l => some (l, c.args.toList.map (evA g))
      | _ => none
    | _ => none
  | _ => none
theorem ar_yld {t v : Bool} {l d : Nat} {Y : YRel} {as : List AVal} (hY : Y as h v h') (hy : m.yl = some (l, Y)) (hca : yldA g o = some (l, as)) (hgh : h.gh = false) (hnb : Regs.nb m.len g = true) (hd : o.dst = some d) (hN : Nat.blt d N = true)
    (hg : guardB ops g o = some t) (ht : t = true) (hk : AReg P f N m ops rest k ((d, .r (.bool v)) :: g) { h' with gh := !v } Post) : AReg P f N m ops (o :: rest) k g h Post := by
  subst ht
  intro idx hi X R μ a w b cs e1 e2 e3 e4 e5 e6 e7
  cases idx with
  | nil => simp at hi
  | cons i idx =>
    simp only [List.map_cons, List.cons.injEq] at hi
    obtain ⟨ho, hi⟩ := hi
    have hw := guardB_wanted hg e6
    unfold yldA at hca
    split at hca
    case h_2 => simp at hca
    rename_i c hop
    split at hca
    case h_2 => simp at hca
    rename_i x hcal
    split at hca
    case h_2 => simp at hca
    rename_i l' hx
    simp only [Option.some.injEq, Prod.mk.injEq] at hca
    obtain ⟨rfl, rfl⟩ := hca
    have hxr := evA_rel (a := a) e6 x
    rw [hx] at hxr
    simp only [ARel] at hxr
    have hargs : ARels R μ w (c.args.toList.map (evA g)) (c.args.map a.eval).toList := by
      rw [Array.toList_map]
      exact ARels.map (fun x => evA_rel (a := a) e6 x) _
    obtain ⟨l2, f2, tm, as2, bo, hrun, hst⟩ := e1.yl _ _ hy _ _ _ _ hY hgh R μ w _ g a.tmps (by rw [e1.len]; exact hnb) e6 e7 hargs
    obtain ⟨R', μ', w', hsteps, hr, H⟩ := hst (b.atR a (.inRegion ops (i :: idx) :: k)) cs
    have hex : (execOp a.eval o).run P w = .ok (.round l2 f2 tm as2 bo) w := by
      simp only [execOp, hop, resolve, hcal, hxr, Deferred.ofValue, Sem.run_bind, Sem.run_pure, Result.andThen_ok, invoke]
      have e : (⟨(c.args.map a.eval).toList⟩ : Array Value) = c.args.map a.eval := rfl
      rw [e] at hrun
      rw [Array.empty_append]
      exact hrun
    have hsem : o.semAt b.roundOf a.eval = execOp a.eval o := Oper.semAt_eq _ _ o fun c hc => by rw [hop] at hc; cases hc
    have hst := stepGR_op (P := P) (b := b) (k := k) (cs := cs) (w := w) (rest := idx) ho hw
    have hfin : (b.atR a (.inRegion ops (i :: idx) :: k)).finish (.bool v) = b.atR (a.put o.dst (.bool v)) (.inRegion ops idx :: k) := by
      rw [Frame.finish_atR, ho]; rfl
    have henter : step P (lone (b.atR a (.inRegion ops (i :: idx) :: k)) cs w) = .next (lone (Frame.round l2 f2 tm as2 bo .normal) (b.atR a (.inRegion ops (i :: idx) :: k) :: cs) w) :=
      step_lone_go (by rw [hst, hsem]; simp [stepG.apply, hex, Frame.atR])
    obtain ⟨u, w2, fr2, h9, rest'⟩ := hk idx hi X R' μ' (a.put o.dst (.bool v)) w' b cs e1 e2 e3 (by rw [put_defers]; exact e4) (by rw [put_size]; exact e5) (by
      rw [hd]
      exact hr.put (by rw [e5]; exact Nat.le_of_ble_eq_true hN) (by simp only [ARel, RRel])) H
    rw [hfin] at hsteps
    exact ⟨u, w2, fr2, Steps.head henter (Steps.trans hsteps h9), rest'⟩
def asgA (T : TTab) (N : Nat) : List Oper → Regs → Option (Regs × Prop)
  | [], g => some (g, True)
  | o :: rest, g =>
    match o.guard, stepPure T N g o with
    | none, some (d, v, c) => match asgA T N rest ((d, v) :: g) with | some (g', c') => some (g', c ∧ c') | none => none
    | _, _ => none
theorem asg_ops (hTO : TOk P T) {ops : Array Oper} : ∀ (l : List Oper) (idx : List Nat) (g g1 : Regs) (q : Prop), idx.map (fun i => ops[i]?) = l.map some → asgA T N l g = some (g1, q) → q → ∀ (R : Nat → Prop) (μ : Mu) (w : World) (b : Frame) (a : Act) (k : List Item) (cs : List Frame), a.tmps.size = N → RegRel R μ w g a.tmps →
    ∃ a', a'.defers = a.defers ∧ a'.tmps.size = N ∧ RegRel R μ w g1 a'.tmps ∧ Steps P (lone (b.atR a (.inRegion ops idx :: k)) cs w) (lone (b.atR a' k) cs w)
  | [], idx, g, g1, q, hi, ha, hq, R, μ, w, b, a, k, cs, h1, h2 => by
    simp only [List.map_nil, List.map_eq_nil_iff] at hi
    subst hi
    simp only [asgA, Option.some.injEq, Prod.mk.injEq] at ha
    obtain ⟨rfl, _⟩ := ha
    exact ⟨a, rfl, h1, h2, .one stepR_region_end⟩
  | o :: rest, [], g, g1, q, hi, _, _, _, _, _, _, _, _, _, _, _ => by simp at hi
  | o :: rest, i :: idx, g, g1, q, hi, ha, hq, R, μ, w, b, a, k, cs, h1, h2 => by
    simp only [List.map_cons, List.cons.injEq] at hi
    obtain ⟨ho, hi⟩ := hi
    simp only [asgA] at ha
    split at ha
    case h_2 => simp at ha
    rename_i d v c hgd hp
    split at ha
    case h_2 => simp at ha
    rename_i g' c' hr
    simp only [Option.some.injEq, Prod.mk.injEq] at ha
    obtain ⟨rfl, rfl⟩ := ha
    have hw : Region.wanted o (yielded ops a.tmps) = true := by simp [Region.wanted, hgd]
    rw [stepPure_eq] at hp
    split at hp
    case h_2 => simp at hp
    rename_i d' hd
    cases hb : Nat.blt d' N <;> rw [hb] at hp <;> simp only [cond_true, cond_false, reduceCtorEq] at hp
    split at hp
    case h_2 => simp at hp
    rename_i v' c2 hv
    simp only [Option.some.injEq, Prod.mk.injEq] at hp
    obtain ⟨rfl, rfl, rfl⟩ := hp
    obtain ⟨u, h3, h4⟩ := pureOp_sound (P := P) (w := w) hTO (evA_rel (a := a) h2) o hv hq.1
    have hst := stepGR_op (P := P) (b := b) (k := k) (cs := cs) (w := w) (rest := idx) ho hw
    rw [semAt_of_value (.inl ⟨_, h3⟩)] at hst
    have hfin : (b.atR a (.inRegion ops (i :: idx) :: k)).finish u = b.atR (a.put o.dst u) (.inRegion ops idx :: k) := by
      rw [Frame.finish_atR, ho]; rfl
    obtain ⟨a', h5, h6, h7, h8⟩ := asg_ops hTO rest idx ((d', v') :: g) g' c' hi hr hq.2 R μ w b (a.put o.dst u) k cs (by rw [put_size]; exact h1) (by
      rw [hd]; exact h2.put (by rw [h1]; exact Nat.le_of_ble_eq_true hb) h4)
    exact ⟨a', by rw [h5, put_defers], h6, h7, .head (step_lone_go (by rw [hst, ← hfin]; simp [stepG.apply, h3])) h8⟩
theorem asgOk_region (hTO : TOk P T) {id : Nat} {ops : Array Oper} {g g1 : Regs} {q : Prop} (ha : asgA T N ops.toList g = some (g1, q)) (hq : q) : AsgOk P N (.region id ops false) g g1 := by
  intro R μ w b a k cs h1 h2
  obtain ⟨a', h3, h4, h5, h6⟩ := asg_ops hTO (ops := ops) ops.toList (List.range ops.size) g g1 q (by
    apply List.ext_getElem?
    intro i
    simp only [List.getElem?_map]
    by_cases hi : i < ops.size
    · simp [hi]
    · simp [hi]) ha hq R μ w b a k cs h1 h2
  exact ⟨a', h3, h4, h5, .head stepR_region h6⟩
theorem asgOk_seq {c1 c2 : Code} {g g1 g2 : Regs} (h1 : AsgOk P N c1 g g1) (h2 : AsgOk P N c2 g1 g2) : AsgOk P N (.seq c1 c2) g g2 := by
  intro R μ w b a k cs e1 e2
  obtain ⟨a1, h3, h4, h5, h6⟩ := h1 R μ w b a (.code c2 :: k) cs e1 e2
  obtain ⟨a2, h7, h8, h9, h10⟩ := h2 R μ w b a1 k cs h4 h5
  exact ⟨a2, h7.trans h3, h8, h9, .head stepR_seq (Steps.trans h6 h10)⟩
end
end Go.Proofs.YtccdhgmkjakjkaaGreat
namespace Go.Proofs.YtccdhgmkjakjkaaGreat
open Go
section
variable {P : Program} {T : TTab} {f N : Nat} {m : Md} {ops : Array Oper} {o : Oper} {rest : List Oper} {k : List Item} {g g' : Regs} {h h' : Hp} {Post : AVal → Hp → Prop} {ld : List Nat} {Hs : Nat → Hp} {K ix j : Nat} {F : Regs → Prop}
theorem qop_of2 {av : AVal} (hs : ∀ g', (∀ x ∈ o.op.operands, evA g' x = evA g x) → OpStep2 P N o g' h av h') : QOp P N h h' o g av := by
  intro g' hag X R μ a w Q e5 e6 e7
  obtain ⟨v, w', R', μ', h1, h2, h3, h4⟩ := hs g' hag X R μ a w e5 e6 e7
  unfold Oper.wp
  rcases h1 with h1 | ⟨h1, rfl⟩
  · rw [h1]; exact ⟨v, R', μ', rfl, h2, h3, h4⟩
  · rw [h1]; exact ⟨undef, R', μ', rfl, h2, h3, h4⟩
theorem stepStore_congr (hag : ∀ x ∈ o.op.operands, evA g' x = evA g x) : stepStore g' h T o = stepStore g h T o := by
  unfold stepStore
  split
  · rename_i t x y hd hop
    rw [hop] at hag
    rw [hag x (by simp [Op.operands]), hag y (by simp [Op.operands])]
  · rfl
theorem stepNew_congr {n : Nat} (hag : ∀ x ∈ o.op.operands, evA g' x = evA g x) : stepNew T N g' n o = stepNew T N g n o := by
  unfold stepNew
  split
  · rfl
  · rename_i d hd
    congr 1
    split
    · rfl
    · rename_i t x hop
      rw [hop] at hag
      rw [hag x (by simp [Op.operands])]
    · rename_i t len parts hop
      rw [hop] at hag
      have : (parts.toList.map fun p => (p.1, evA g' p.2)) = parts.toList.map fun p => (p.1, evA g p.2) := List.map_congr_left fun p hp => by
        rw [hag p.2 (by simp only [Op.operands]; simpa using ⟨p.1, by simpa using hp⟩)]
      rw [this]
    · rfl
theorem stepApp_congr (hag : ∀ x ∈ o.op.operands, evA g' x = evA g x) : stepApp T N g' h o = stepApp T N g h o := by
  unfold stepApp
  split
  · rename_i d c hd hop
    rw [hop] at hag
    congr 1
    split
    · rename_i s x t t2 hcal hargs htys
      have h1 : evA g' s = evA g s := hag s (by simp only [Op.operands, Call.operands]; simp only [hcal]; simp [← Array.mem_toList_iff, hargs])
      have h2 : evA g' x = evA g x := hag x (by simp only [Op.operands, Call.operands]; simp only [hcal]; simp [← Array.mem_toList_iff, hargs])
      rw [h1, h2]
    · rfl
  · rfl
theorem aq_store (hTO : TOk P T) {t : Bool} {c : Prop} {hj : Hp} (h0 : Hs j = hj) (hp : stepStore g hj T o = some (h', c)) (hh : Hs (j + 1) = h') (hg : guardB ops g o = some t) (ht : t = true) (hc : c)
    (hk : QGo P N ld ops Hs K F rest (ix + 1) (j + 1) g) : QGo P N ld ops Hs K F (o :: rest) ix j g := by
  have hd := stepStore_dst hp
  refine aq_loud (v := .any) (qop_of2 fun g' hag => ?_) (by simp only [loudB, hd]) hg ht (fun d h => by rw [hd] at h; cases h) (by rw [hd]; exact hk)
  rw [hh, h0]
  exact opStep2_store hTO (by rw [stepStore_congr hag]; exact hp) hc
theorem aq_new (hTO : TOk P T) {t : Bool} {d : Nat} {v : AVal} {blk : ABlk} {c : Prop} {hj : Hp} (h0 : Hs j = hj) (hp : stepNew T N g hj.nxt o = some (d, v, blk, c)) (hh : Hs (j + 1) = hj.push blk) (hl : loudB ld o = true) (hg : guardB ops g o = some t) (ht : t = true) (hc : c)
    (hk : QGo P N ld ops Hs K F rest (ix + 1) (j + 1) ((d, v) :: g)) : QGo P N ld ops Hs K F (o :: rest) ix j g := by
  have hd := stepNew_dst hp
  refine aq_loud (v := v) (qop_of2 fun g' hag => ?_) hl hg ht (fun d' h => by rw [hd.1] at h; cases h; exact hd.2) (by rw [hd.1]; exact hk)
  rw [hh, h0]
  exact opStep2_new hTO (by rw [stepNew_congr hag]; exact hp) hc
theorem aq_app (hTO : TOk P T) {t : Bool} {d n z : Nat} {β : Option Nat} {blk : Body} {c : Prop} {hj : Hp} (h0 : Hs j = hj) (hp : stepApp T N g hj o = some (d, (n, z), β, blk, c)) (hh : Hs (j + 1) = (killO hj β).push blk) (hl : loudB ld o = true) (hg : guardB ops g o = some t) (ht : t = true) (hc : c)
    (hk : QGo P N ld ops Hs K F rest (ix + 1) (j + 1) ((d, .sl hj.nxt 0 n z) :: g)) : QGo P N ld ops Hs K F (o :: rest) ix j g := by
  have hd := stepApp_dst hp
  refine aq_loud (v := .sl hj.nxt 0 n z) (qop_of2 fun g' hag => ?_) hl hg ht (fun d' h => by rw [hd.1] at h; cases h; exact hd.2) (by rw [hd.1]; exact hk)
  rw [hh, h0]
  exact opStep2_app hTO (by rw [stepApp_congr hag]; exact hp) hc
theorem aq_load1 (hTO : TOk P T) {d : Nat} {v : AVal} {c : Prop} {t : Bool} (hp : stepLoad T N g (Hs 0) o = some (d, v, c)) (hl : limAt ld ops ix = 1) (hd : o.dst = some d) (hN : Nat.blt d N = true) (hg : guardB ops g o = some t) (ht : t = true) (hc : c)
    (hp1 : ∃ c, stepLoad T N g (Hs 1) o = some (d, v, c) ∧ c) (hk : QGo P N ld ops Hs K F rest (ix + 1) j ((d, v) :: g)) : QGo P N ld ops Hs K F (o :: rest) ix j g := by
  refine aq_load hTO hd hN (fun i hi => ?_) hg ht hk
  rw [hl] at hi
  rcases i with _ | i
  · exact ⟨c, hp, hc⟩
  · have : i = 0 := by omega
    subst this; exact hp1
def hs1 (h0 h1 : Hp) : Nat → Hp
  | 0 => h0
  | _ => h1
def hs2 (h0 h1 h2 : Hp) : Nat → Hp
  | 0 => h0
  | 1 => h1
  | _ => h2
def hs3 (h0 h1 h2 h3 : Hp) : Nat → Hp
  | 0 => h0
  | 1 => h1
  | 2 => h2
  | _ => h3
theorem hs1_0 (a b : Hp) : hs1 a b 0 = a := rfl
theorem hs2_0 (a b c : Hp) : hs2 a b c 0 = a := rfl
theorem hs2_1 (a b c : Hp) : hs2 a b c 1 = b := rfl
theorem hs3_0 (a b c d : Hp) : hs3 a b c d 0 = a := rfl
theorem hs3_1 (a b c d : Hp) : hs3 a b c d 1 = b := rfl
theorem hs3_2 (a b c d : Hp) : hs3 a b c d 2 = c := rfl
theorem aq_store10 {h0 h1 : Hp} (hTO : TOk P T) {t : Bool} {c : Prop} (hp : stepStore g h0 T o = some (h', c)) (hh : h1 = h') (hg : guardB ops g o = some t) (ht : t = true) (hc : c) (hk : QGo P N ld ops (hs1 h0 h1) K F rest (ix + 1) 1 g) : QGo P N ld ops (hs1 h0 h1) K F (o :: rest) ix 0 g :=
  aq_store hTO (hs1_0 h0 h1) hp hh hg ht hc hk
theorem aq_app10 {h0 h1 : Hp} (hTO : TOk P T) {t : Bool} {d n z : Nat} {β : Option Nat} {blk : Body} {c : Prop} (hp : stepApp T N g h0 o = some (d, (n, z), β, blk, c)) (hh : h1 = (killO h0 β).push blk) (hl : loudB ld o = true) (hg : guardB ops g o = some t) (ht : t = true) (hc : c) (hk : QGo P N ld ops (hs1 h0 h1) K F rest (ix + 1) 1 ((d, .sl h0.nxt 0 n z) :: g)) : QGo P N ld ops (hs1 h0 h1) K F (o :: rest) ix 0 g :=
  aq_app hTO (hs1_0 h0 h1) hp hh hl hg ht hc hk
theorem aq_new20 {h0 h1 h2 : Hp} (hTO : TOk P T) {t : Bool} {d : Nat} {v : AVal} {blk : ABlk} {c : Prop} (hp : stepNew T N g h0.nxt o = some (d, v, blk, c)) (hh : h1 = h0.push blk) (hl : loudB ld o = true) (hg : guardB ops g o = some t) (ht : t = true) (hc : c) (hk : QGo P N ld ops (hs2 h0 h1 h2) K F rest (ix + 1) 1 ((d, v) :: g)) : QGo P N ld ops (hs2 h0 h1 h2) K F (o :: rest) ix 0 g :=
  aq_new hTO (hs2_0 h0 h1 h2) hp hh hl hg ht hc hk
theorem aq_app21 {h0 h1 h2 : Hp} (hTO : TOk P T) {t : Bool} {d n z : Nat} {β : Option Nat} {blk : Body} {c : Prop} (hp : stepApp T N g h1 o = some (d, (n, z), β, blk, c)) (hh : h2 = (killO h1 β).push blk) (hl : loudB ld o = true) (hg : guardB ops g o = some t) (ht : t = true) (hc : c) (hk : QGo P N ld ops (hs2 h0 h1 h2) K F rest (ix + 1) 2 ((d, .sl h1.nxt 0 n z) :: g)) : QGo P N ld ops (hs2 h0 h1 h2) K F (o :: rest) ix 1 g :=
  aq_app hTO (hs2_1 h0 h1 h2) hp hh hl hg ht hc hk
theorem aq_new30 {h0 h1 h2 h3 : Hp} (hTO : TOk P T) {t : Bool} {d : Nat} {v : AVal} {blk : ABlk} {c : Prop} (hp : stepNew T N g h0.nxt o = some (d, v, blk, c)) (hh : h1 = h0.push blk) (hl : loudB ld o = true) (hg : guardB ops g o = some t) (ht : t = true) (hc : c) (hk : QGo P N ld ops (hs3 h0 h1 h2 h3) K F rest (ix + 1) 1 ((d, v) :: g)) : QGo P N ld ops (hs3 h0 h1 h2 h3) K F (o :: rest) ix 0 g :=
  aq_new hTO (hs3_0 h0 h1 h2 h3) hp hh hl hg ht hc hk
theorem aq_app31 {h0 h1 h2 h3 : Hp} (hTO : TOk P T) {t : Bool} {d n z : Nat} {β : Option Nat} {blk : Body} {c : Prop} (hp : stepApp T N g h1 o = some (d, (n, z), β, blk, c)) (hh : h2 = (killO h1 β).push blk) (hl : loudB ld o = true) (hg : guardB ops g o = some t) (ht : t = true) (hc : c) (hk : QGo P N ld ops (hs3 h0 h1 h2 h3) K F rest (ix + 1) 2 ((d, .sl h1.nxt 0 n z) :: g)) : QGo P N ld ops (hs3 h0 h1 h2 h3) K F (o :: rest) ix 1 g :=
  aq_app hTO (hs3_1 h0 h1 h2 h3) hp hh hl hg ht hc hk
theorem aq_store32 {h0 h1 h2 h3 : Hp} (hTO : TOk P T) {t : Bool} {c : Prop} (hp : stepStore g h2 T o = some (h', c)) (hh : h3 = h') (hg : guardB ops g o = some t) (ht : t = true) (hc : c) (hk : QGo P N ld ops (hs3 h0 h1 h2 h3) K F rest (ix + 1) 3 g) : QGo P N ld ops (hs3 h0 h1 h2 h3) K F (o :: rest) ix 2 g :=
  aq_store hTO (hs3_2 h0 h1 h2 h3) hp hh hg ht hc hk
theorem ag_draw0 {id : Nat} (hm : P.follows .mixedOrders = true) (hok : drawsOk [] ops = true) (hq : QGo P N [] ops (fun _ => h) 0 (fun g' => AGo P f N m k g' h Post) ops.toList 0 0 g) : AGo P f N m (.code (.region id ops true) :: k) g h Post :=
  ag_draw [] (Hs := fun _ => h) hm hok hq
theorem ag_draw1 (ld : List Nat) {id : Nat} {h1 : Hp} (hm : P.follows .mixedOrders = true) (hok : drawsOk ld ops = true) (hq : QGo P N ld ops (hs1 h h1) 1 (fun g' => AGo P f N m k g' h1 Post) ops.toList 0 0 g) : AGo P f N m (.code (.region id ops true) :: k) g h Post :=
  ag_draw ld (Hs := hs1 h h1) hm hok hq
theorem ag_draw2 (ld : List Nat) {id : Nat} {h1 h2 : Hp} (hm : P.follows .mixedOrders = true) (hok : drawsOk ld ops = true) (hq : QGo P N ld ops (hs2 h h1 h2) 2 (fun g' => AGo P f N m k g' h2 Post) ops.toList 0 0 g) : AGo P f N m (.code (.region id ops true) :: k) g h Post :=
  ag_draw ld (Hs := hs2 h h1 h2) hm hok hq
theorem ag_draw3 (ld : List Nat) {id : Nat} {h1 h2 h3 : Hp} (hm : P.follows .mixedOrders = true) (hok : drawsOk ld ops = true) (hq : QGo P N ld ops (hs3 h h1 h2 h3) 3 (fun g' => AGo P f N m k g' h3 Post) ops.toList 0 0 g) : AGo P f N m (.code (.region id ops true) :: k) g h Post :=
  ag_draw ld (Hs := hs3 h h1 h2 h3) hm hok hq
theorem ag_join {α : Type} (S : α → Regs × Hp) (p : α → Prop) {c : Code} (h1 : (∀ x, p x → AGo P f N m k (S x).1 (S x).2 Post) → AGo P f N m (.code c :: k) g h Post) (h2 : ∀ x, p x → AGo P f N m k (S x).1 (S x).2 Post) : AGo P f N m (.code c :: k) g h Post := h1 h2
theorem ag_loopS {α : Type} (S : α → Regs × Hp) (p : α → Prop) (meas : α → Nat) {c : Code} (x0 : α) (he : Ent m g h (S x0).1 (S x0).2) (h0 : p x0)
    (round : ∀ x, p x → (∀ y, p y → meas y < meas x → AGo P f N m (.inLoop c :: k) (S y).1 (S y).2 Post) → AGo P f N m (.code c :: .inLoop c :: k) (S x).1 (S x).2 Post) : AGo P f N m (.code (.loop c) :: k) g h Post :=
  ag_loop_enter (ag_ent he (ag_loop_of S p meas round x0 h0))
end
end Go.Proofs.YtccdhgmkjakjkaaGreat
namespace Go.Proofs.YtccdhgmkjakjkaaGreat
open Go
section
variable {P : Program} {T : TTab} {f N : Nat} {m : Md} {ops : Array Oper} {o : Oper} {rest : List Oper} {k : List Item} {g g' : Regs} {h h' : Hp} {Post : AVal → Hp → Prop} {ld : List Nat} {Hs : Nat → Hp} {K ix j : Nat} {F : Regs → Prop}
def ctxK (X : Ctx) (μ : Mu) (g : Regs) (tmps : Array Value) : Ctx where
  w0 := X.w0
  O := X.O
  R0 := X.R0
  μ0 := μ
  mark := none
  inv := fun gh R w => X.inv gh R w ∧ RegRel R μ w g tmps
  mono := fun _ _ _ _ _ h hR hw ho => ⟨X.mono _ _ _ _ _ h.1 hR hw ho, h.2.mono hR hw (fun _ _ h => h)⟩
  mkd := fun _ h => by cases h
def KeepR (g : Regs) : Regs → Prop
  | [] => True
  | (t, v) :: r => lookR g t = v ∧ KeepR g r
theorem keepR_look : ∀ {g' : Regs}, KeepR g g' → ∀ t, lookR g' t = .any ∨ lookR g' t = lookR g t
  | [], _, t => .inl rfl
  | (s, v) :: r, hw, t => by
    simp only [KeepR] at hw
    simp only [lookR]
    by_cases e : s = t
    · subst e; simp only [Nat.beq_refl, cond_true]; exact .inr hw.1.symm
    · rw [beq_ne e]; exact keepR_look hw.2 t
theorem ent_keep (hk : KeepR g g') : Ent m g h g' h := by
  intro X R μ w tmps e1 e2 e3
  refine ⟨R, μ, fun t => ?_, e3⟩
  rcases keepR_look hk t with h1 | h1
  · rw [h1]; simp [ARel]
  · rw [h1]; exact e2 t
theorem inline_calls {n Nn : Nat} {fnI : Func} {cI : Code} {as : List AVal} {PostI : AVal → Hp → Prop} (hfI : P.funcs[n]? = some fnI) (hbI : fnI.body = some cI) (hNI : fnI.ntmps = Nn) (hnI : Nat.ble as.length Nn = true)
    (hgo : AGo P n Nn ⟨h.nxt, false, false, none⟩ [.code cI] (argRegs 0 as) h PostI) {X : Ctx} {R : Nat → Prop} {μ : Mu} {w : World} {g : Regs} {tmps : Array Value} (e6 : RegRel R μ w g tmps) (e7 : HRel X R μ h w) {cargs : List Value} (ha : ARels R μ w as cargs) :
    Calls P n ⟨cargs⟩ w fun e w' => ∃ v, e = .returned v ∧ ∃ R' μ' av h', ARel R' μ' w' av v ∧ RegRel R' μ' w' g tmps ∧ HRel X R' μ' h' w' ∧ PostI av h' := by
  intro cs
  have HK : HRel (ctxK X μ g tmps) R μ h w := e7.recon (X' := ctxK X μ g tmps) rfl rfl rfl (fun _ _ h => h) h.gh ⟨e7.inv, e6⟩
  let b : Frame := { (default : Frame) with fn := n, kind := .normal }
  have hl := ha.length
  have hn' := Nat.le_of_ble_eq_true hnI
  have henter : Frame.enter P n ⟨cargs⟩ .normal = b.atR { tmps := ⟨cargs⟩ ++ Array.replicate (fnI.ntmps - cargs.length) undef, defers := [] } [.code cI] := by
    simp only [Frame.enter, Frame.atR, hfI, hbI, b, Option.map_some, Option.getD_some, Option.bind_some]
    rfl
  obtain ⟨v, w', fr, h1, h2, h3, R', μ', av, h', h4, h5, h6⟩ := hgo (ctxK X μ g tmps) R μ { tmps := ⟨cargs⟩ ++ Array.replicate (fnI.ntmps - cargs.length) undef, defers := [] } w b cs
    ⟨e7.len, fun h => by simp at h, fun h => by simp at h, fun _ _ h => by simp at h⟩ rfl ⟨rfl, rfl⟩ rfl
    (by simp; omega) (fun t => by
      have := argRegs_rel as 0 [] cargs (List.replicate (fnI.ntmps - cargs.length) undef) rfl ha t
      rw [Array.getD_eq_getD_getElem?, ← Array.getElem?_toList]
      simpa using this) HK
  rw [← henter] at h1
  have h3' : fr.leaving P w' (.returned v) := by
    have hr : fr.roundOf = none := h2.2
    unfold Done at h3; rw [hr] at h3; exact h3
  have h5' : HRel (ctxK X μ g tmps) R' μ' h' w' := h5
  exact ⟨.returned v, w', fr, ⟨v, rfl, R', μ', av, h', h4, h5'.inv.2.mono (fun _ h => h) (Onward.refl _ _) h5'.mu, h5'.recon (X' := X) rfl rfl rfl (fun β q hq => h5'.mu β q (e7.mu β q hq)) h'.gh h5'.inv.1, h6⟩, h1, h2.1, h3'⟩
theorem ar_inline {t : Bool} {n Nn d : Nat} {fnI : Func} {cI : Code} {as : List AVal} {PostI : AVal → Hp → Prop} (hfI : P.funcs[n]? = some fnI) (hca : callA g o = some (n, as)) (hbI : fnI.body = some cI) (hnm : (fnI.name == "runtime.NumGoroutine") = false) (hNI : fnI.ntmps = Nn) (hnI : Nat.ble as.length Nn = true)
    (hd : o.dst = some d) (hN : Nat.blt d N = true) (hg : guardB ops g o = some t) (ht : t = true)
    (hgo : AGo P n Nn ⟨h.nxt, false, false, none⟩ [.code cI] (argRegs 0 as) h PostI)
    (hk : ∀ v h', PostI v h' → AReg P f N m ops rest k ((d, v) :: g) h' Post) : AReg P f N m ops (o :: rest) k g h Post := by
  subst ht
  intro idx hi X R μ a w b cs e1 e2 e3 e4 e5 e6 e7
  cases idx with
  | nil => simp at hi
  | cons i idx =>
    simp only [List.map_cons, List.cons.injEq] at hi
    obtain ⟨ho, hi⟩ := hi
    have hw := guardB_wanted hg e6
    obtain ⟨cargs, h1, h2⟩ := callA_run e6 hca ⟨fnI, hfI, hnm, by simp [hbI]⟩
    obtain ⟨e, w', fr, ⟨v, rfl, R', μ', av, h', h3, h4, h5, h6⟩, hcomes, hfn, hleave⟩ := inline_calls hfI hbI hNI hnI hgo e6 e7 h2 (b.atR a (.inRegion ops (i :: idx) :: k) :: cs)
    obtain ⟨u, w2, fr2, h9, rest'⟩ := hk av h' h6 idx hi X R' μ' (a.put o.dst v) w' b cs e1 e2 e3 (by rw [put_defers]; exact e4) (by rw [put_size]; exact e5) (by
      rw [hd]; exact h4.put (by rw [e5]; exact Nat.le_of_ble_eq_true hN) h3) h5
    have hst := stepGR_op (P := P) (b := b) (k := k) (cs := cs) (w := w) (rest := idx) ho hw
    have hfin : (b.atR a (.inRegion ops (i :: idx) :: k)).finish v = b.atR (a.put o.dst v) (.inRegion ops idx :: k) := by
      rw [Frame.finish_atR, ho]; rfl
    have henter : step P (lone (b.atR a (.inRegion ops (i :: idx) :: k)) cs w) = .next (lone (Frame.enter P n ⟨cargs⟩ .normal) (b.atR a (.inRegion ops (i :: idx) :: k) :: cs) w) :=
      step_lone_go (by rw [hst, semAt_of_enter h1]; simp [stepG.apply, h1, Frame.atR])
    refine ⟨u, w2, fr2, Steps.head henter (Steps.trans hcomes (Steps.head ?_ h9)), rest'⟩
    rw [← hfin]
    exact step_leave_returned hleave
theorem own_ro_bytes {n : FuncId} {as : List AVal} {l : Nat} {s : List UInt8} (hs : Own P n as l 1 (.bytes s)) (hl : l = s.length) : Pur P n as (.r (.bs s)) := by
  refine own_to_ro hs (v := .bs s) (c := 0 + l ≤ s.length ∧ 1 = 1) ?_ ⟨by omega, rfl⟩
  unfold roOf
  simp [cutA_eq, hl]
theorem own_ro_plain {n : FuncId} {as : List AVal} {l z : Nat} {xs : List RVal} (hs : Own P n as l z (.plain xs)) (hl : l * z = xs.length) : Pur P n as (.r (.ro l xs)) := by
  refine own_to_ro hs (v := .ro l xs) (c := True) ?_ trivial
  unfold roOf
  simp [cutA_eq, hl]
end
def fnL (n : Nat) (f : Nat → RVal) : List RVal := (List.range n).map f
theorem fnL_length (n : Nat) (f : Nat → RVal) : (fnL n f).length = n := by simp [fnL]
theorem fnL_get {n : Nat} {f : Nat → RVal} {i : Nat} (h : i < n) : (fnL n f)[i]? = some (f i) := by simp [fnL, h]
theorem fnL_set {n : Nat} {f g : Nat → RVal} {i : Nat} {v : RVal} (hv : g i = v) (h : ∀ j, j < n → j ≠ i → g j = f j) : (fnL n f).set i v = fnL n g := by
  apply List.ext_getElem?
  intro j
  rw [List.getElem?_set]
  by_cases e : i = j
  · subst e
    by_cases hj : i < n
    · simp [fnL, hj, hv]
    · simp [fnL, hj]
  · rw [if_neg e]
    by_cases hj : j < n
    · simp [fnL, hj, h j hj (Ne.symm e)]
    · simp [fnL, hj]
theorem loadsTo_fnL {ty : Ty} {n : Nat} {f : Nat → RVal} {off : Nat} {v : AVal} (ha : ty.k.agg = false) (h : off < n) (hv : AVal.r (f off) = v) : LoadsTo ty (Body.plain (fnL n f)).cells off v :=
  .inl ⟨ha, by simp [Body.cells, fnL_get h, hv]⟩
theorem eqI {k : IntKind} {a b : Int} (h : a = b) : AVal.r (.int k a) = AVal.r (.int k b) := by rw [h]
theorem eqStr {a b : List UInt8} (h : a = b) : AVal.r (.str a) = AVal.r (.str b) := by rw [h]
theorem eqBsv {a b : List UInt8} (h : a = b) : AVal.r (.bs a) = AVal.r (.bs b) := by rw [h]
theorem eqSl {β off n n' z : Nat} (h : n = n') : AVal.sl β off n z = AVal.sl β off n' z := by rw [h]
theorem eqBs {a b : List UInt8} (h : a = b) : some (Body.bytes a) = some (Body.bytes b) := by rw [h]
theorem eqPl {a b : List RVal} (h : a = b) : some (Body.plain a) = some (Body.plain b) := by rw [h]
theorem wu64 (n : Int) : IntKind.u64.wrap n = n % 18446744073709551616 := by simp [IntKind.wrap, IntKind.bits, IntKind.signed]
theorem wu32 (n : Int) : IntKind.u32.wrap n = n % 4294967296 := by simp [IntKind.wrap, IntKind.bits, IntKind.signed]
theorem wu8 (n : Int) : IntKind.u8.wrap n = n % 256 := by simp [IntKind.wrap, IntKind.bits, IntKind.signed]
theorem set_rep {α : Type} (a x : α) (acc : List α) : ∀ k : Nat, (List.replicate (k + 1) a ++ acc).set k x = List.replicate k a ++ x :: acc
  | 0 => rfl
  | k + 1 => by
    have := set_rep a x acc k
    rw [List.replicate_succ, List.cons_append, List.set_cons_succ, this]
    simp [List.replicate_succ]
end Go.Proofs.YtccdhgmkjakjkaaGreat
namespace Go.Proofs.YtccdhgmkjakjkaaGreat
open Go
mutual
theorem ARel.ren' {R : Nat → Prop} {μ μ2 : Mu} {w : World} {ρ : Nat → Nat} (hm : ∀ β p, μ[β]? = some p → μ2[ρ β]? = some p) : ∀ (v : AVal) (c : Value), ARel R μ w v c → ARel R μ2 w (AVal.ren ρ v) c
  | .sl β off n z, c, h => by
    simp only [ARel, AVal.ren] at h ⊢
    obtain ⟨b, o, cap, cells, e, fz, h1, rest⟩ := h
    exact ⟨b, o, cap, cells, e, fz, hm β _ h1, rest⟩
  | .ptr β off, c, h => by
    simp only [ARel, AVal.ren] at h ⊢
    obtain ⟨b, o, h1, h2⟩ := h
    exact ⟨b, o, hm β _ h1, h2⟩
  | .func f cs, c, h => by
    simp only [ARel, AVal.ren] at h ⊢
    obtain ⟨ds, h1, h2⟩ := h
    exact ⟨ds, h1, ARels.ren' hm cs ds h2⟩
  | .agg cs, c, h => by
    simp only [ARel, AVal.ren] at h ⊢
    obtain ⟨ds, h1, h2⟩ := h
    exact ⟨ds, h1, ARels.ren' hm cs ds h2⟩
  | .tuple cs, c, h => by
    simp only [ARel, AVal.ren] at h ⊢
    obtain ⟨ds, h1, h2⟩ := h
    exact ⟨ds, h1, ARels.ren' hm cs ds h2⟩
  | .r v, c, h => by simpa only [ARel, AVal.ren] using h
  | .rp xs o, c, h => by simpa only [ARel, AVal.ren] using h
  | .bp s o, c, h => by simpa only [ARel, AVal.ren] using h
  | .yld _, c, h => by simpa only [ARel, AVal.ren] using h
  | .any, c, h => by simp only [ARel, AVal.ren]
theorem ARels.ren' {R : Nat → Prop} {μ μ2 : Mu} {w : World} {ρ : Nat → Nat} (hm : ∀ β p, μ[β]? = some p → μ2[ρ β]? = some p) : ∀ (v : List AVal) (c : List Value), ARels R μ w v c → ARels R μ2 w (AVal.rens ρ v) c
  | [], c, h => by simpa only [ARels, AVal.rens] using h
  | x :: xs, c, h => by
    simp only [ARels, AVal.rens] at h ⊢
    obtain ⟨a, r, h1, h2, h3⟩ := h
    exact ⟨a, r, h1, ARel.ren' hm x a h2, ARels.ren' hm xs r h3⟩
end
theorem BlkRel.ren' {R : Nat → Prop} {μ μ2 : Mu} {w : World} {ρ : Nat → Nat} (hm : ∀ β p, μ[β]? = some p → μ2[ρ β]? = some p) {b o : Nat} {bd : Body} (h : BlkRel R μ w b o bd) : BlkRel R μ2 w b o (bd.ren ρ) := by
  obtain ⟨cells, el, fz, vs, h7, h8, h9, h10, h11⟩ := h.ex
  refine ⟨cells, el, fz, vs, h7, h8, ?_, h10, h11⟩
  cases bd with
  | mixed cs => exact ARels.ren' hm cs vs h9
  | plain xs => exact h9
  | bytes s => exact h9
def rhoO (h : Hp) (ι : List Nat) (i : Nat) : Nat :=
  match ι[i]? with
  | some γ => γ
  | none => h.nxt + (i - ι.length)
def mergeH (h h' : Hp) (ι : List Nat) : Hp := ⟨h.nxt + (h'.nxt - ι.length), h'.tab.map (fun e => (rhoO h ι e.1, e.2.map (Body.ren (rhoO h ι)))) ++ (h.kills ι).tab, h.gh⟩
theorem look_app2 {a b : List (Nat × Option ABlk)} {γ : Nat} : ∀ {blk : ABlk}, Hp.look (a ++ b) γ = some blk → Hp.look a γ = some blk ∨ Hp.look b γ = some blk := by
  induction a with
  | nil => exact fun h => .inr h
  | cons x l ih =>
    obtain ⟨i, v⟩ := x
    intro blk h
    rw [List.cons_append, look_kill] at h
    rw [look_kill]
    split at h
    · rename_i e; rw [if_pos e]; exact .inl h
    · rename_i e; rw [if_neg e]; exact ih h
theorem look_map {ρ : Nat → Nat} {φ : ABlk → ABlk} {γ : Nat} : ∀ {l : List (Nat × Option ABlk)} {blk : ABlk}, Hp.look (l.map fun e => (ρ e.1, e.2.map φ)) γ = some blk → ∃ i b, ρ i = γ ∧ Hp.look l i = some b ∧ blk = φ b
  | [], blk, h => by simp [Hp.look] at h
  | (i, v) :: l, blk, h => by
    simp only [List.map_cons, look_kill] at h
    split at h
    · rename_i e
      cases v with
      | none => simp at h
      | some b =>
        simp only [Option.map_some, Option.some.injEq] at h
        exact ⟨i, b, e, by simp [look_kill], h.symm⟩
    · rename_i e
      obtain ⟨j, b, h1, h2, h3⟩ := look_map h
      refine ⟨j, b, h1, ?_, h3⟩
      rw [look_kill, if_neg (fun e2 => e (by rw [e2]; exact h1))]
      exact h2
section
variable {X : Ctx} {R : Nat → Prop} {μ : Mu} {h hp : Hp} {w : World} {ι : List Nat}
theorem rho_ok (hl : μ.length = h.nxt) (hh : Handed h hp ι) {μ' : Mu} (hmu : ∀ (β : Nat) p, (muOf μ ι)[β]? = some p → μ'[β]? = some p) : ∀ (β : Nat) p, μ'[β]? = some p → (μ ++ μ'.drop ι.length)[rhoO h ι β]? = some p := by
  intro β p hp'
  unfold rhoO
  by_cases hb : β < ι.length
  · have hlt : ι[β] < μ.length := by rw [hl]; exact hh.lt _ (List.getElem_mem hb)
    have h1 : (muOf μ ι)[β]? = some (μ.getD ι[β] (0, 0)) := by simp [muOf, hb]
    have h2 := hmu β _ h1
    rw [hp'] at h2
    cases h2
    rw [List.getElem?_eq_getElem hb]
    simp only
    rw [List.getElem?_append_left hlt]
    simp [List.getD, List.getElem?_eq_getElem hlt]
  · rw [List.getElem?_eq_none (l := ι) (Nat.le_of_not_lt hb)]
    simp only
    rw [List.getElem?_append_right (by rw [hl]; omega), List.getElem?_drop, hl]
    rw [← hp']
    congr 1; omega
theorem HRel.merge (H : HRel X R μ h w) (hh : Handed h hp ι) {R' : Nat → Prop} {μ' : Mu} {h' : Hp} {w' : World} (H' : HRel (callCtx w hp R (muOf μ ι)) R' μ' h' w') :
    HRel X R' (μ ++ μ'.drop ι.length) (mergeH h h' ι) w' := by
  obtain ⟨hon, hRR, hK, hlive⟩ := after_call H hh H'
  have hrho := rho_ok H.len hh H'.mu
  have hap : ∀ (β : Nat) p, μ[β]? = some p → (μ ++ μ'.drop ι.length)[β]? = some p := by
    intro β q h
    obtain ⟨hl, _⟩ := List.getElem?_eq_some_iff.1 h
    rw [List.getElem?_append_left hl]; exact h
  have hlen' : ι.length ≤ μ'.length := by
    rcases Nat.eq_zero_or_pos ι.length with h0 | h0
    · omega
    · have hb : ι.length - 1 < ι.length := by omega
      have h1 : (muOf μ ι)[ι.length - 1]? = some (μ.getD ι[ι.length - 1] (0, 0)) := by simp [muOf, hb]
      have := H'.mu _ _ h1
      have := (List.getElem?_eq_some_iff.1 this).1
      omega
  have hsplit : ∀ γ blk, (mergeH h h' ι).get γ = some blk → (∃ i b, rhoO h ι i = γ ∧ h'.get i = some b ∧ blk = b.ren (rhoO h ι)) ∨ (h.kills ι).get γ = some blk := by
    intro γ blk hg
    rcases look_app2 hg with h1 | h1
    · obtain ⟨i, b, h2, h3, h4⟩ := look_map h1
      exact .inl ⟨i, b, h2, h3, h4⟩
    · exact .inr h1
  exact {
    os := hK.os
    tape := hK.tape
    output := hK.output
    size := hK.size
    keep := hK.keep
    shape := hK.shape
    r0 := hK.r0
    rO := hK.rO
    rlt := hK.rlt
    rc := hK.rc
    mu := fun β p hp => hap β p (hK.mu β p hp)
    len := by simp only [List.length_append, List.length_drop, mergeH, H.len, H'.len]
    live := by
      intro γ blk hg
      rcases hsplit γ blk hg with ⟨i, b0, h1, h2, rfl⟩ | h1
      · obtain ⟨b, o, h3, h4, h5, h6, h7⟩ := hlive i b0 h2
        exact ⟨b, o, by rw [← h1]; exact hrho i _ h3, h4, h5, h6.ren' hrho⟩
      · obtain ⟨b, o, h3, h4, h5, h6⟩ := hK.live γ blk h1
        exact ⟨b, o, hap _ _ h3, h4, h5, h6.mono (fun _ h => h) (Onward.refl R' w') hap rfl⟩
    inj := by
      intro γ γ' k k' b b' o o' g1 g2 m1 m2 e
      subst e
      rcases hsplit γ k g1 with ⟨i, b0, h1, h2, rfl⟩ | h1 <;> rcases hsplit γ' k' g2 with ⟨i', b0', h1', h2', rfl⟩ | h1'
      · obtain ⟨c, p, h3, _⟩ := hlive i b0 h2
        obtain ⟨c', p', h3', _⟩ := hlive i' b0' h2'
        have e1 := hrho i _ h3
        have e2 := hrho i' _ h3'
        rw [h1, m1] at e1; cases e1
        rw [h1', m2] at e2; cases e2
        have := H'.inj i i' b0 b0' b b o o' h2 h2' h3 h3' rfl
        subst this
        exact h1.symm.trans h1'
      · exfalso
        obtain ⟨c, p, h3, _, _, _, h7⟩ := hlive i b0 h2
        have e1 := hrho i _ h3
        rw [h1, m1] at e1; cases e1
        obtain ⟨c', p', h4, _⟩ := hK.live γ' k' h1'
        have e2 := hap _ _ h4
        rw [m2] at e2; cases e2
        exact h7 γ' k' o' h1' h4
      · exfalso
        obtain ⟨c, p, h3, _, _, _, h7⟩ := hlive i' b0' h2'
        have e1 := hrho i' _ h3
        rw [h1', m2] at e1; cases e1
        obtain ⟨c', p', h4, _⟩ := hK.live γ k h1
        have e2 := hap _ _ h4
        rw [m1] at e2; cases e2
        exact h7 γ k o h1 h4
      · obtain ⟨c, p, h4, _⟩ := hK.live γ k h1
        obtain ⟨c', p', h5, _⟩ := hK.live γ' k' h1'
        have e1 := hap _ _ h4
        have e2 := hap _ _ h5
        rw [m1] at e1; rw [m2] at e2; cases e1; cases e2
        exact hK.inj γ γ' k k' b b o o' h1 h1' h4 h5 rfl
    inv := hK.inv }
end
def HB (h : Hp) (ι : List Nat) (n : Nat) : List (Nat × Option ABlk) → Prop
  | [] => True
  | (i, some b) :: l => Nat.blt i n = true ∧ b.nb n = true ∧ h.get (ι.getD i 0) = some (b.ren fun j => ι.getD j 0) ∧ HB h ι n l
  | (_, none) :: l => HB h ι n l
theorem HB.blk {h : Hp} {ι : List Nat} {n : Nat} : ∀ {l : List (Nat × Option ABlk)}, HB h ι n l → ∀ i blk, Hp.look l i = some blk → i < n ∧ blk.nb n = true ∧ h.get (ι.getD i 0) = some (blk.ren fun j => ι.getD j 0)
  | [], _, i, blk, hg => by simp [Hp.look] at hg
  | (j, v) :: l, hb, i, blk, hg => by
    rw [look_kill] at hg
    split at hg
    · rename_i e
      subst e
      subst hg
      exact ⟨Nat.le_of_ble_eq_true hb.1, hb.2.1, hb.2.2.1⟩
    · cases v with
      | none => exact HB.blk (l := l) hb i blk hg
      | some b => exact HB.blk hb.2.2.2 i blk hg
theorem handed_of {h hp : Hp} {ι : List Nat} (h1 : ι.length = hp.nxt) (h2 : (ι.all fun γ => Nat.blt γ h.nxt) = true) (h3 : ι.Nodup) (h4 : HB h ι hp.nxt hp.tab) : Handed h hp ι :=
  ⟨h1, fun γ hγ => Nat.le_of_ble_eq_true (List.all_eq_true.1 h2 γ hγ), h3, fun i blk hg => HB.blk h4 i blk hg⟩
def forceT {α : Type} : List (Nat × Option ABlk) → (List (Nat × Option ABlk) → Option α) → Option α
  | [], k => k []
  | (i, none) :: l, k => forceT l fun l' => k ((i, none) :: l')
  | (i, some (.bytes s)) :: l, k => forceT l fun l' => k ((i, some (.bytes s)) :: l')
  | (i, some (.plain s)) :: l, k => forceT l fun l' => k ((i, some (.plain s)) :: l')
  | (i, some (.mixed s)) :: l, k => forceL s fun s' => forceT l fun l' => k ((i, some (.mixed s')) :: l')
theorem forceT_eq {α : Type} : ∀ (l : List (Nat × Option ABlk)) (k : List (Nat × Option ABlk) → Option α), forceT l k = k l
  | [], k => rfl
  | (i, none) :: l, k => by simp only [forceT, forceT_eq l]
  | (i, some (.bytes s)) :: l, k => by simp only [forceT, forceT_eq l]
  | (i, some (.plain s)) :: l, k => by simp only [forceT, forceT_eq l]
  | (i, some (.mixed s)) :: l, k => by simp only [forceT, forceL_eq, forceT_eq l]
def mergeO (h : Hp) (ι : List Nat) (v : AVal) (h' : Hp) : Option (AVal × Hp) :=
  forceV (AVal.ren (rhoO h ι) v) fun v => forceT (h'.tab.map (fun e => (rhoO h ι e.1, e.2.map (Body.ren (rhoO h ι)))) ++ (h.kills ι).tab) fun tab => some (v, ⟨h.nxt + (h'.nxt - ι.length), tab, h.gh⟩)
theorem mergeO_eq (h : Hp) (ι : List Nat) (v : AVal) (h' : Hp) : mergeO h ι v h' = some (AVal.ren (rhoO h ι) v, mergeH h h' ι) := by
  unfold mergeO
  rw [forceV_eq, forceT_eq]; rfl
section
variable {P : Program} {T : TTab} {f N : Nat} {m : Md} {ops : Array Oper} {o : Oper} {rest : List Oper} {k : List Item} {g : Regs} {h : Hp} {Post : AVal → Hp → Prop}
theorem obj_calls {n : FuncId} {as : List AVal} {hp : Hp} {ι : List Nat} {Q : AVal → Hp → Prop} (hs : Spec P n as hp Q) (hb : AVal.nbs hp.nxt as = true) (hh : Handed h hp ι) {X : Ctx} {R : Nat → Prop} {μ : Mu} {w : World} {g : Regs} {tmps : Array Value}
    (e6 : RegRel R μ w g tmps) (e7 : HRel X R μ h w) {cargs : List Value} (h2 : ARels R μ w (AVal.rens (fun j => ι.getD j 0) as) cargs) :
    Calls P n ⟨cargs⟩ w fun e w' => ∃ v, e = .returned v ∧ ∃ R' μ2 av h', ARel R' μ2 w' (AVal.ren (rhoO h ι) av) v ∧ RegRel R' μ2 w' g tmps ∧ HRel X R' μ2 (mergeH h h' ι) w' ∧ Q av h' := by
  have hH := handed_rel e7 hh
  have ha := ARels.unren (μ := muOf μ ι) (fun β hβ => muOf_get e7.len hh hβ) as cargs hb h2
  refine (hs.run R (muOf μ ι) w cargs hH ha).mono ?_
  rintro e w' ⟨v, rfl, R', μ', av, h', h3, h4, h5⟩
  obtain ⟨hon, hRR, hK, hlive⟩ := after_call e7 hh h4
  refine ⟨v, rfl, R', μ ++ μ'.drop ι.length, av, h', ARel.ren' (rho_ok e7.len hh h4.mu) _ _ h3, e6.mono hRR hon (fun β q h => ?_), e7.merge hh h4, h5⟩
  obtain ⟨hl, _⟩ := List.getElem?_eq_some_iff.1 h
  rw [List.getElem?_append_left hl]; exact h
theorem ar_obj {t : Bool} {n d : Nat} {as : List AVal} {hp : Hp} {Q : AVal → Hp → Prop} (ι : List Nat) (hs : Spec P n as hp Q) (hca : callA g o = some (n, AVal.rens (fun j => ι.getD j 0) as)) (hb : AVal.nbs hp.nxt as = true)
    (hh : Handed h hp ι) (hd : o.dst = some d) (hN : Nat.blt d N = true) (hg : guardB ops g o = some t) (ht : t = true)
    (hk : ∀ av h', Q av h' → ∃ v2 h2, mergeO h ι av h' = some (v2, h2) ∧ AReg P f N m ops rest k ((d, v2) :: g) h2 Post) : AReg P f N m ops (o :: rest) k g h Post := by
  subst ht
  intro idx hi X R μ a w b cs e1 e2 e3 e4 e5 e6 e7
  cases idx with
  | nil => simp at hi
  | cons i idx =>
    simp only [List.map_cons, List.cons.injEq] at hi
    obtain ⟨ho, hi⟩ := hi
    have hw := guardB_wanted hg e6
    obtain ⟨cargs, h1, h2⟩ := callA_run e6 hca hs.can
    obtain ⟨e, w', fr, ⟨v, rfl, R', μ', av, h', h3, h4, h5, h6⟩, hcomes, hfn, hleave⟩ := obj_calls hs hb hh e6 e7 h2 (b.atR a (.inRegion ops (i :: idx) :: k) :: cs)
    obtain ⟨v2, h2', hm, hk2⟩ := hk av h' h6
    rw [mergeO_eq] at hm
    cases hm
    obtain ⟨u, w2, fr2, h9, rest'⟩ := hk2 idx hi X R' μ' (a.put o.dst v) w' b cs e1 e2 e3 (by rw [put_defers]; exact e4) (by rw [put_size]; exact e5) (by
      rw [hd]; exact h4.put (by rw [e5]; exact Nat.le_of_ble_eq_true hN) h3) h5
    have hst := stepGR_op (P := P) (b := b) (k := k) (cs := cs) (w := w) (rest := idx) ho hw
    have hfin : (b.atR a (.inRegion ops (i :: idx) :: k)).finish v = b.atR (a.put o.dst v) (.inRegion ops idx :: k) := by
      rw [Frame.finish_atR, ho]; rfl
    have henter : step P (lone (b.atR a (.inRegion ops (i :: idx) :: k)) cs w) = .next (lone (Frame.enter P n ⟨cargs⟩ .normal) (b.atR a (.inRegion ops (i :: idx) :: k) :: cs) w) :=
      step_lone_go (by rw [hst, semAt_of_enter h1]; simp [stepG.apply, h1, Frame.atR])
    refine ⟨u, w2, fr2, Steps.head henter (Steps.trans hcomes (Steps.head ?_ h9)), rest'⟩
    rw [← hfin]
    exact step_leave_returned hleave
end
end Go.Proofs.YtccdhgmkjakjkaaGreat
namespace Go.Proofs.YtccdhgmkjakjkaaGreat
open Go
def slB : AVal → Bool
  | .r (.bs _) => true
  | .r (.ro _ _) => true
  | .r .nil => true
  | .sl _ _ _ _ => true
  | _ => false
theorem slB_val {R : Nat → Prop} {μ : Mu} {w : World} {v : AVal} {c : Value} (h : slB v = true) (hv : ARel R μ w v c) : ∃ a n cap, c = .slice a n cap ∧ n ≤ cap := by
  unfold slB at h
  split at h <;> (try simp only [ARel, RRel] at hv)
  · obtain ⟨a, cap, rfl, h1, _⟩ := hv; exact ⟨a, _, cap, rfl, h1⟩
  · obtain ⟨a, cap, cs, rfl, h1, _⟩ := hv; exact ⟨a, _, cap, rfl, h1⟩
  · obtain ⟨a, rfl⟩ := hv; exact ⟨a, 0, 0, rfl, Nat.le_refl _⟩
  · obtain ⟨b, o, cap, cells, e, fz, _, rfl, h1, _⟩ := hv; exact ⟨_, _, cap, rfl, h1⟩
  · cases h
section
variable {P : Program} {T : TTab} {f N : Nat} {m : Md} {ops : Array Oper} {o : Oper} {rest : List Oper} {k : List Item} {g g' : Regs} {h h' : Hp} {Post : AVal → Hp → Prop}
def app0A (T : TTab) (g : Regs) (h : Hp) (o : Oper) : Option Prop :=
  match o.op with
  | .call c =>
    match c.callee, c.args.toList, c.argTypes.toList with
    | .builtin .append, [s, x], [t, t2] =>
      match T.look t, T.look t2, evA g s with
      | some { k := .slice e, .. }, some ty2, .r .nil =>
        match T.look e with
        | some te =>
          match srcA te.size h (evA g x), ty2.k with
          | some (k, _, c2), .slice _ => some ((c2 ∧ k = 0) ∧ (te.zero ≠ [] ∧ te.zero.length = te.size))
          | some (k, _, c2), .str => some ((c2 ∧ k = 0) ∧ (te.zero ≠ [] ∧ te.zero.length = te.size))
          | _, _ => none
        | none => none
      | _, _, _ => none
    | _, _, _ => none
  | _ => none
theorem qop_app0 (hTO : TOk P T) {c : Prop} (hp : app0A T g h o = some c) (hc : c) : QOp P N h h o g (.r .nil) := by
  intro g' hag X R μ a w Q e5 e6 e7
  unfold app0A at hp
  split at hp
  case h_2 => simp at hp
  rename_i cl hop
  split at hp
  case h_2 => simp at hp
  rename_i s x t t2 hcal hargs htys
  split at hp
  case h_2 => simp at hp
  rename_i e _ _ _ ty2 hT hT2 hs0
  split at hp
  case h_2 => simp at hp
  rename_i te hE
  rw [hop] at hag
  have hmem : s ∈ (Op.call cl).operands ∧ x ∈ (Op.call cl).operands := by
    have h1 : s ∈ cl.args.toList := by rw [hargs]; simp
    have h2 : x ∈ cl.args.toList := by rw [hargs]; simp
    have h3 : s ∈ cl.args := Array.mem_toList_iff.1 h1
    have h4 : x ∈ cl.args := Array.mem_toList_iff.1 h2
    simp only [Op.operands, Call.operands, hcal]
    exact ⟨by simp [h3], by simp [h4]⟩
  have hrel : ∀ y ∈ (Op.call cl).operands, ARel R μ w (evA g y) (a.eval y) := fun y hy => by rw [← hag y hy]; exact evA_rel (a := a) e6 y
  have main : ∀ k bd c2, srcA te.size h (evA g x) = some (k, bd, c2) → ((∃ e2, ty2.k = .slice e2) ∨ ty2.k = .str) → (c2 ∧ k = 0) ∧ (te.zero ≠ [] ∧ te.zero.length = te.size) →
      o.wp P a w (fun a' w' => ∃ cv R' μ', a' = a.put o.dst cv ∧ ARel R' μ' w' (.r .nil) cv ∧ RegRel R' μ' w' g' a.tmps ∧ HRel X R' μ' h w') Q := by
    rintro k bd c2 hsr hk2 ⟨⟨hc2, rfl⟩, hc6, hc7⟩
    obtain ⟨ws, hsrc, hbw, hone⟩ := srcA_sound e7 hsr hc2 (hrel x hmem.2)
    have hsr2 := hrel s hmem.1
    rw [hs0] at hsr2
    simp only [ARel, RRel] at hsr2
    obtain ⟨ad, hsr2⟩ := hsr2
    have hr := run_append (ty := o.type) (old := []) hTO hT rfl hE hT2 hk2 hc6 hc7 hsrc hone (base := ad) (n := 0) (cap := 0) (.inl ⟨rfl, rfl, rfl⟩) (Nat.le_refl _) (by unfold maxLen; omega) (by omega) (by unfold maxLen; omega)
    rcases hr with ⟨w', h1, _, h3⟩ | ⟨_, _, _, _, _, _, h9⟩
    · have hw : w' = w := by
        rcases h3 with ⟨_, rfl⟩ | ⟨b, o', _, rfl⟩
        · rfl
        · have hw0 : ws = [] := List.length_eq_zero_iff.1 (by rw [(hsrc.len (P := P)).1]; simp)
          subst hw0
          simp [World.setCells]
      subst hw
      refine wp_value (u := .slice ad 0 0) (w' := w') ?_ ⟨_, R, μ, rfl, ?_, e6, e7⟩
      · have ha1 : cl.args.map a.eval = ⟨[a.eval s, a.eval x]⟩ := by apply Array.ext'; rw [Array.toList_map, hargs]; rfl
        have ha2 : cl.argTypes = ⟨[t, t2]⟩ := by apply Array.ext'; exact htys
        simp only [execOp, hop, resolve, hcal, Sem.run_bind, Sem.run_pure, Result.andThen_ok, invoke, builtin, ha1, ha2, hsr2, h1]
      · simp only [ARel, RRel]
        exact ⟨ad, rfl⟩
    · omega
  split at hp
  · rename_i k bd c2 e2 hsr hk
    simp only [Option.some.injEq] at hp
    subst hp
    exact main k bd c2 hsr (.inl ⟨_, hk⟩) hc
  · rename_i k bd c2 hsr hk
    simp only [Option.some.injEq] at hp
    subst hp
    exact main k bd c2 hsr (.inr hk) hc
  · simp at hp
end
end Go.Proofs.YtccdhgmkjakjkaaGreat
namespace Go.Proofs.YtccdhgmkjakjkaaGreat
open Go
set_option linter.unusedVariables false
section
variable {X : Ctx} {R : Nat → Prop} {μ : Mu} {h hp : Hp} {w : World} {ι : List Nat}
theorem get_kills_of {h : Hp} : ∀ {l : List Nat} {β : Nat} {blk : ABlk}, β ∉ l → h.get β = some blk → (h.kills l).get β = some blk
  | [], β, blk, _, hg => by simpa [Hp.kills, Hp.get] using hg
  | x :: l, β, blk, hn, hg => by
    simp only [List.mem_cons, not_or] at hn
    simp only [Hp.kills, Hp.get, List.map_cons, List.cons_append, look_kill]
    rw [if_neg (fun e => hn.1 e.symm)]
    exact get_kills_of (h := h) hn.2 hg
theorem HRel.after_ro (H : HRel X R μ h w) (hh : Handed h hp ι) (hc : ((List.range hp.nxt).all fun i => (hp.get i).isSome) = true) {R' : Nat → Prop} {μ' : Mu} {w' : World} (H' : HRel (callCtx w hp R (muOf μ ι)) R' μ' hp w') : HRel X R' μ h w' := by
  obtain ⟨hon, hRR, hK, hlive⟩ := after_call H hh H'
  exact {
    os := hK.os
    tape := hK.tape
    output := hK.output
    size := hK.size
    keep := hK.keep
    shape := hK.shape
    r0 := hK.r0
    rO := hK.rO
    rlt := hK.rlt
    rc := hK.rc
    mu := H.mu
    len := H.len
    live := by
      intro γ blk hg
      by_cases hm : γ ∈ ι
      · obtain ⟨i, hi, hγ⟩ := List.getElem_of_mem hm
        have hin : i < hp.nxt := by rw [← hh.len]; exact hi
        have hs := List.all_eq_true.1 hc i (List.mem_range.2 hin)
        obtain ⟨b0, hb0⟩ := Option.isSome_iff_exists.1 hs
        obtain ⟨_, hnb, h3⟩ := hh.blk i b0 hb0
        have hget : ι.getD i 0 = γ := by simp [List.getD, hi, hγ]
        rw [hget, hg] at h3
        cases h3
        obtain ⟨b, o, h4, h5, h6, h7, h8⟩ := hlive i b0 hb0
        have hmm : ∀ β, β < hp.nxt → ∀ p, μ'[β]? = some p → μ[ι.getD β 0]? = some p := by
          intro β hβ p hp'
          rw [← muOf_get H.len hh hβ]
          have hβ' : β < ι.length := by rw [hh.len]; exact hβ
          have h9 : (muOf μ ι)[β]? = some (μ.getD ι[β] (0, 0)) := by simp [muOf, hβ']
          have h10 := H'.mu β _ h9
          rw [hp'] at h10
          rw [h9, h10]
        refine ⟨b, o, by rw [← hget]; exact hmm i hin _ h4, h5, h6, ?_⟩
        obtain ⟨cells, el, fz, vs, h11, h12, h13, h14, h15⟩ := h7.ex
        exact ⟨cells, el, fz, vs, h11, h12, h13.ren (m := hp.nxt) (fun β hβ p hp' => hmm β hβ p hp') hnb, h14, h15⟩
      · exact hK.live γ blk (get_kills_of hm hg)
    inj := H.inj
    inv := hK.inv }
end
section
variable {P : Program} {T : TTab} {f N : Nat} {m : Md} {ops : Array Oper} {o : Oper} {rest : List Oper} {k : List Item} {g g' : Regs} {h h' : Hp} {Post : AVal → Hp → Prop}
theorem qop_objR {n : Nat} {as : List AVal} {hp : Hp} {v0 : AVal} {Q : AVal → Hp → Prop} (ι : List Nat) (hs : Spec P n as hp Q) (hQ : ∀ v h', Q v h' → v = v0 ∧ h' = hp) (hca : callA g o = some (n, AVal.rens (fun j => ι.getD j 0) as)) (hb : AVal.nbs hp.nxt as = true)
    (hh : Handed h hp ι) (hc : ((List.range hp.nxt).all fun i => (hp.get i).isSome) = true) (hv : AVal.nb 0 v0 = true) : QOp P N h h o g v0 := by
  intro g' hag X R μ a w Q' e5 e6 e7
  rw [← callA_congr hag] at hca
  obtain ⟨cargs, h1, h3⟩ := callA_run e6 hca hs.can
  unfold Oper.wp
  rw [h1]
  have hH := handed_rel e7 hh
  have ha := ARels.unren (μ := muOf μ ι) (fun β hβ => muOf_get e7.len hh hβ) as cargs hb h3
  refine (hs.run R (muOf μ ι) w cargs hH ha).mono ?_
  rintro e w' ⟨u, rfl, R', μ', av, h1', h4, h5, h6⟩
  obtain ⟨rfl, rfl⟩ := hQ _ _ h6
  obtain ⟨hon, hRR, hK, hlive⟩ := after_call e7 hh h5
  refine ⟨u, R', μ, rfl, ?_, e6.mono hRR hon (fun _ _ h => h), e7.after_ro hh hc h5⟩
  have := ARel.ren (μ2 := μ) (ρ := id) (m := 0) (fun β hβ => absurd hβ (Nat.not_lt_zero _)) av u hv h4
  rwa [ren_below0 av hv] at this
theorem eq_sl_nil_in {w : World} (d : Nat) {t : TypeId} {e : TypeId} (a : Option Addr) (n c : Nat) (h : P.underlying t = some (.slice e)) : (Op.equalIn (d + 1) t (.slice a n c) (.slice none 0 0)).run P w = .ok a.isNone w := by
  cases a <;> simp [Op.equalIn, run_underlying h]
theorem eq_sl_nil {w : World} {t : TypeId} {e : TypeId} (a : Option Addr) (n c : Nat) (h : P.underlying t = some (.slice e)) : (Op.equal t (.slice a n c) (.slice none 0 0)).run P w = .ok a.isNone w := eq_sl_nil_in 9999 a n c h
def nilEqA (T : TTab) (g : Regs) (o : Oper) : Option (AVal × Bool) :=
  match o.op with
  | .binOp op t x (.const (.slice none 0 0)) _ =>
    match T.look t with
    | some { k := .slice _, .. } => match op with | .eql => some (evA g x, true) | .neq => some (evA g x, false) | _ => none
    | _ => none
  | _ => none
theorem qop_nilEq (hTO : TOk P T) {v : AVal} {b q : Bool} (hp : nilEqA T g o = some (v, b))
    (hc : ∀ (R : Nat → Prop) (μ : Mu) (w : World) (c : Value), ARel R μ w v c → ∃ a n cap, c = .slice a n cap ∧ a.isNone = q) : QOp P N h h o g (.r (.bool (bif b then q else !q))) := by
  intro g' hag X R μ a w Q e5 e6 e7
  unfold nilEqA at hp
  split at hp
  case h_2 => simp at hp
  rename_i op t x ty hop
  split at hp
  case h_2 => simp at hp
  rename_i e _ _ _ hT
  rw [hop] at hag
  have hx := evA_rel (a := a) e6 x
  rw [hag x (by simp [Op.operands])] at hx
  obtain ⟨d, hd, hk⟩ := tyk_ok hTO hT
  simp only [TyK.ok] at hk
  subst hk
  have hev : a.eval (.const (.slice none 0 0)) = .slice none 0 0 := rfl
  have heq : ∀ (ad : Option Addr) (n cap : Nat), (Op.equal t (.slice ad n cap) (.slice none 0 0)).run P w = .ok ad.isNone w := by
    intro ad n cap
    exact eq_sl_nil ad n cap hd
  split at hp
  · simp only [Option.some.injEq, Prod.mk.injEq] at hp
    obtain ⟨rfl, rfl⟩ := hp
    obtain ⟨ad, n, cap, h1, h2⟩ := hc R μ w _ hx
    refine wp_value (u := .bool q) (w' := w) ?_ ⟨_, R, μ, rfl, by simp [ARel, RRel], e6, e7⟩
    simp only [execOp, hop, hev, h1, Sem.run_bind]
    have hg : (eqGuard .eql t x (.const (.slice none 0 0)) (.slice ad n cap) (.slice none 0 0)).run P w = .ok () w := by simp [eqGuard]
    rw [hg]
    simp only [Result.andThen_ok]
    rw [binOp_eql (by simp) (by simp) (by simp) (by simp)]
    simp only [Sem.run_bind, heq, Result.andThen_ok, Sem.run_pure, h2]
  · simp only [Option.some.injEq, Prod.mk.injEq] at hp
    obtain ⟨rfl, rfl⟩ := hp
    obtain ⟨ad, n, cap, h1, h2⟩ := hc R μ w _ hx
    refine wp_value (u := .bool !q) (w' := w) ?_ ⟨_, R, μ, rfl, by simp [ARel, RRel], e6, e7⟩
    simp only [execOp, hop, hev, h1, Sem.run_bind]
    have hg : (eqGuard .neq t x (.const (.slice none 0 0)) (.slice ad n cap) (.slice none 0 0)).run P w = .ok () w := by simp [eqGuard]
    rw [hg]
    simp only [Result.andThen_ok]
    rw [binOp_neq (by simp) (by simp) (by simp) (by simp)]
    simp only [Sem.run_bind, heq, Result.andThen_ok, Sem.run_pure, h2]
  · simp at hp
theorem some_sl {β off n z : Nat} : ∀ (R : Nat → Prop) (μ : Mu) (w : World) (c : Value), ARel R μ w (.sl β off n z) c → ∃ a n cap, c = .slice a n cap ∧ a.isNone = false := by
  intro R μ w c h
  simp only [ARel] at h
  obtain ⟨b, o, cap, cells, e, fz, _, rfl, _⟩ := h
  exact ⟨_, _, _, rfl, rfl⟩
def slE : AVal → Prop
  | .r (.bs s) => s = []
  | .r (.ro _ xs) => xs = []
  | .sl _ _ _ _ => False
  | _ => True
theorem slE_val {R : Nat → Prop} {μ : Mu} {w : World} {v : AVal} {n cap : Nat} (hv : ARel R μ w v (.slice none n cap)) : slE v := by
  unfold slE
  split
  · rename_i s
    simp only [ARel, RRel] at hv
    obtain ⟨a, cap', h1, _, h2⟩ := hv
    cases h1
    rcases h2 with h2 | ⟨b, o, h2, _⟩
    · simpa [bytesV] using h2
    · cases h2
  · simp only [ARel, RRel] at hv
    obtain ⟨a, cap', cs, h1, _, h2, h3⟩ := hv
    cases h1
    rcases h2 with h2 | ⟨b, o, h2, _⟩
    · subst h2
      have := RRels.length h3
      exact List.length_eq_zero_iff.1 this.symm
    · cases h2
  · simp only [ARel] at hv
    obtain ⟨b, o, cap, cells, e, fz, _, h1, _⟩ := hv
    cases h1
  · trivial
theorem ar_nilEq (hTO : TOk P T) {t : Bool} {d : Nat} {v : AVal} {b : Bool} (hp : nilEqA T g o = some (v, b)) (hv : slB v = true) (hnd : deferB o = false) (hg : guardB ops g o = some t) (ht : t = true) (hd : o.dst = some d) (hN : Nat.blt d N = true)
    (hk : ∀ q, (q = b → slE v) → AReg P f N m ops rest k ((d, .r (.bool q)) :: g) h Post) : AReg P f N m ops (o :: rest) k g h Post := by
  subst ht
  intro idx hi X R μ a w b' cs e1 e2 e3 e4 e5 e6 e7
  -- which it is, the machine's own value says
  have hx : ∃ x t' ty', ((o.op = .binOp .eql t' x (.const (.slice none 0 0)) ty' ∧ b = true) ∨ (o.op = .binOp .neq t' x (.const (.slice none 0 0)) ty' ∧ b = false)) ∧ evA g x = v := by
    unfold nilEqA at hp
    split at hp
    case h_2 => simp at hp
    rename_i op t' x ty' hop
    split at hp
    case h_2 => simp at hp
    split at hp
    · simp only [Option.some.injEq, Prod.mk.injEq] at hp; exact ⟨x, t', ty', .inl ⟨hop, hp.2.symm⟩, hp.1⟩
    · simp only [Option.some.injEq, Prod.mk.injEq] at hp; exact ⟨x, t', ty', .inr ⟨hop, hp.2.symm⟩, hp.1⟩
    · simp at hp
  obtain ⟨x, t', ty', hop, hev⟩ := hx
  have hxr := evA_rel (a := a) e6 x
  rw [hev] at hxr
  obtain ⟨ad, n, cap, hval, _⟩ := slB_val hv hxr
  cases idx with
  | nil => simp at hi
  | cons i idx =>
    simp only [List.map_cons, List.cons.injEq] at hi
    obtain ⟨ho, hi⟩ := hi
    have hw := guardB_wanted hg e6
    -- the comparison's run
    have hT : ∃ e ty0, T.look t' = some ty0 ∧ ty0.k = .slice e := by
      unfold nilEqA at hp
      rcases hop with ⟨hop, _⟩ | ⟨hop, _⟩ <;> rw [hop] at hp <;> simp only at hp <;> split at hp <;> first | (simp at hp; done) | (rename_i e _ _ _ hT; exact ⟨e, _, hT, rfl⟩)
    obtain ⟨e, ty0, hT, hk0⟩ := hT
    obtain ⟨dd, hdd, hkk⟩ := tyk_ok hTO hT
    rw [hk0] at hkk
    simp only [TyK.ok] at hkk
    subst hkk
    have hev2 : a.eval (.const (.slice none 0 0)) = .slice none 0 0 := rfl
    have heq : (Op.equal t' (.slice ad n cap) (.slice none 0 0)).run P w = .ok ad.isNone w := by
      exact eq_sl_nil ad n cap hdd
    have hrun : ∃ q, (execOp a.eval o).run P w = .ok (.value (.bool q)) w ∧ (q = b → ad.isNone = true) := by
      rcases hop with ⟨hop, rfl⟩ | ⟨hop, rfl⟩
      · refine ⟨ad.isNone, ?_, fun h => h⟩
        simp only [execOp, hop, hev2, hval, Sem.run_bind]
        have hg : (eqGuard .eql t' x (.const (.slice none 0 0)) (.slice ad n cap) (.slice none 0 0)).run P w = .ok () w := by simp [eqGuard]
        rw [hg]
        simp only [Result.andThen_ok]
        rw [binOp_eql (by simp) (by simp) (by simp) (by simp)]
        simp only [Sem.run_bind, heq, Result.andThen_ok, Sem.run_pure]
      · refine ⟨!ad.isNone, ?_, fun h => by simpa using h⟩
        simp only [execOp, hop, hev2, hval, Sem.run_bind]
        have hg : (eqGuard .neq t' x (.const (.slice none 0 0)) (.slice ad n cap) (.slice none 0 0)).run P w = .ok () w := by simp [eqGuard]
        rw [hg]
        simp only [Result.andThen_ok]
        rw [binOp_neq (by simp) (by simp) (by simp) (by simp)]
        simp only [Sem.run_bind, heq, Result.andThen_ok, Sem.run_pure]
    obtain ⟨q, hrun, hq⟩ := hrun
    obtain ⟨u, w2, fr, h4, rest'⟩ := hk q (fun h => by
      have := hq h
      cases ad with
      | none => rw [hval] at hxr; exact slE_val hxr
      | some _ => simp at this) idx hi X R μ (a.put o.dst (.bool q)) w b' cs e1 e2 e3 (by rw [put_defers]; exact e4) (by rw [put_size]; exact e5) (by
      rw [hd]; exact e6.put (by rw [e5]; exact Nat.le_of_ble_eq_true hN) (by simp [ARel, RRel])) e7
    have hst := stepGR_op (P := P) (b := b') (k := k) (cs := cs) (w := w) (rest := idx) ho hw
    have hfin : ∀ v, (b'.atR a (.inRegion ops (i :: idx) :: k)).finish v = b'.atR (a.put o.dst v) (.inRegion ops idx :: k) := by
      intro v; rw [Frame.finish_atR, ho]; rfl
    refine ⟨u, w2, fr, Steps.head (step_lone_go ?_) h4, rest'⟩
    rw [hst, ← hfin, semAt_of_value (.inl ⟨_, hrun⟩)]
    simp [stepG.apply, hrun]
end
end Go.Proofs.YtccdhgmkjakjkaaGreat
namespace Go.Proofs.YtccdhgmkjakjkaaGreat
open Go
set_option linter.unusedVariables false
set_option linter.unusedSimpArgs false
section
variable {P : Program} {T : TTab} {f N : Nat} {m : Md} {ops : Array Oper} {o : Oper} {rest : List Oper} {k : List Item} {g g' : Regs} {h h' : Hp} {Post : AVal → Hp → Prop}
def sliceNA (T : TTab) (g : Regs) (o : Oper) : Bool :=
  match o.op with
  | .slice t x lo hi mx =>
    match T.look t, evA g x, lo, mx with
    | some { k := .slice e, .. }, .r .nil, none, none =>
      match T.look e, optInt (evA g) hi with
      | some _, some (some 0) => true
      | _, _ => false
    | _, _, _, _ => false
  | _ => false
theorem qop_sliceN (hTO : TOk P T) (hp : sliceNA T g o = true) : QOp P N h h o g (.r .nil) := by
  intro g' hag X R μ a w Q e5 e6 e7
  unfold sliceNA at hp
  split at hp
  case h_2 => cases hp
  rename_i t x lo hi mx hop
  split at hp
  case h_2 => cases hp
  rename_i e _ _ _ hT hx
  split at hp
  case h_2 => cases hp
  rename_i te hE hhi
  rw [hop] at hag
  obtain ⟨d, hd, hk⟩ := tyk_ok hTO hT
  simp only [TyK.ok] at hk
  subst hk
  have hxr := evA_rel (a := a) e6 x
  rw [hag x (by simp [Op.operands]), hx] at hxr
  simp only [ARel, RRel] at hxr
  obtain ⟨ad, hv⟩ := hxr
  cases hi with
  | none => simp [optInt] at hhi
  | some y =>
    have hy := evA_rel (a := a) e6 y
    rw [hag y (by simp [Op.operands])] at hy
    simp only [optInt] at hhi
    split at hhi
    case h_2 => simp at hhi
    rename_i kk n hz
    simp only [Option.some.injEq] at hhi
    subst hhi
    rw [hz] at hy
    simp only [ARel, RRel] at hy
    refine wp_value (u := .slice ad 0 0) (w' := w) ?_ ⟨_, R, μ, rfl, ?_, e6, e7⟩
    · simp only [execOp, hop, hv, Sem.run_bind, Option.map_none, Option.map_some, hy]
      have : (Instr.sliceAt t (.slice ad 0 0) none (some (.int kk 0)) none).run P w = .ok (.slice ad 0 0) w := by
        have hb : (Instr.sliceBounds true 0 0 none (some (.int kk 0)) none).run P w = .ok (0, 0, 0) w := by
          simp only [Instr.sliceBounds, Sem.run_bind, Sem.run_pure, Result.andThen_ok, run_sliceBound (P := P) (w := w) (k := kk) (i := 0) (y := 0) (by omega)]; rfl
        simp only [Instr.sliceAt, Instr.slice, Sem.run_bind, run_underlying hd, Result.andThen_ok, hb, Sem.run_pure, size_ok hTO hE]
        rfl
      rw [this]
      rfl
    · simp only [ARel, RRel]
      exact ⟨ad, rfl⟩
def capNA (T : TTab) (g : Regs) (o : Oper) : Bool :=
  match o.op with
  | .call c =>
    match c.callee, c.args.toList, c.argTypes.toList with
    | .builtin .cap, [x], [t] =>
      match T.look t, evA g x with
      | some { k := .slice _, .. }, .r .nil => true
      | _, _ => false
    | _, _, _ => false
  | _ => false
theorem qop_capN (hTO : TOk P T) (hp : capNA T g o = true) : QOp P N h h o g (.r (.int .i64 0)) := by
  intro g' hag X R μ a w Q e5 e6 e7
  unfold capNA at hp
  split at hp
  case h_2 => cases hp
  rename_i cl hop
  split at hp
  case h_2 => cases hp
  rename_i x t hcal hargs htys
  split at hp
  case h_2 => cases hp
  rename_i e _ _ _ hT hx
  rw [hop] at hag
  obtain ⟨d, hd, hk⟩ := tyk_ok hTO hT
  simp only [TyK.ok] at hk
  subst hk
  have hmem : x ∈ (Op.call cl).operands := by
    have h1 : x ∈ cl.args := Array.mem_toList_iff.1 (by rw [hargs]; simp)
    simp only [Op.operands, Call.operands, hcal]
    simp [h1]
  have hxr := evA_rel (a := a) e6 x
  rw [hag x hmem, hx] at hxr
  simp only [ARel, RRel] at hxr
  obtain ⟨ad, hv⟩ := hxr
  refine wp_value (u := .int .i64 0) (w' := w) ?_ ⟨_, R, μ, rfl, by simp [ARel, RRel], e6, e7⟩
  have ha1 : cl.args.map a.eval = ⟨[a.eval x]⟩ := by apply Array.ext'; rw [Array.toList_map, hargs]; rfl
  have ha2 : cl.argTypes = ⟨[t]⟩ := by apply Array.ext'; exact htys
  simp only [execOp, hop, resolve, hcal, Sem.run_bind, Sem.run_pure, Result.andThen_ok, invoke, builtin, ha1, ha2, hv]
  simp [Builtin.cap_, run_underlying hd, goInt]
def appMakeA (T : TTab) (g : Regs) (o : Oper) : Option Int :=
  match o.op with
  | .call c =>
    match c.callee, c.args.toList, c.argTypes.toList with
    | .builtin .append, [s, x], [t, t2] =>
      match T.look t, T.look t2, evA g s, evA g x with
      | some { k := .slice e, .. }, some { k := .int _, .. }, .r .nil, .r (.int .i64 n) =>
        match T.look e with
        | some ⟨.int .u8, 1, 1, [.int .u8 0]⟩ => some n
        | _ => none
      | _, _, _, _ => none
    | _, _, _ => none
  | _ => none
theorem run_appMake (hTO : TOk P T) {w : World} {t t2 e ty : TypeId} {tyt tyt2 : Ty} {k2 : IntKind} (hT : T.look t = some tyt) (hk : tyt.k = .slice e) (hE : T.look e = some ⟨.int .u8, 1, 1, [.int .u8 0]⟩) (hT2 : T.look t2 = some tyt2) (hk2 : tyt2.k = .int k2)
    {base : Option Addr} {n : Nat} (h0 : 0 < n) (hn : n ≤ 140737488355328) :
    ∃ cells : Array Value, (Builtin.append_ ⟨[t, t2]⟩ ty ⟨[.slice base 0 0, .int .i64 (n : Int)]⟩).run P w = .ok (.slice (some ⟨w.heap.size, 0, none⟩) n cells.size) ((World.drawnOnce w).alloc (.cells cells e)) ∧ n ≤ cells.size ∧ cells.size ≤ maxLen ∧ ∀ j, j < n → cells[j]? = some (.int .u8 0) := by
  obtain ⟨D, hD, hDk⟩ := tyk_ok hTO hT
  rw [hk] at hDk
  simp only [TyK.ok] at hDk
  subst hDk
  obtain ⟨D2, hD2, hDk2⟩ := tyk_ok hTO hT2
  rw [hk2] at hDk2
  simp only [TyK.ok] at hDk2
  subst hDk2
  obtain ⟨_, i, _, hi, hsz, hby, _, _, _⟩ := (hTO e _ hE).ex
  have hfit : ¬ (Builtin.nextslicecap n 0 * i.bytes > 2 ^ 48) := by
    rw [hby]
    exact Nat.not_lt.2 (growslice_fits (need := n) (old := 0) (bytes := 1) h0 (by omega))
  let q := Question.appendCap n 0 e
  have hq : (choose q).run P w = .ok (q.cut (w.tape w.drawn q)) (World.drawnOnce w) := by
    simp [choose, Sem.run, q, Question.forced, World.drawnOnce]
  obtain ⟨zv, hz1, hz2, hz3⟩ := zero_ok (P := P) (w := World.drawnOnce w) (R := fun _ => False) (μ := []) hTO hE (by simp)
  have hzc : zv.cells = #[.int .u8 0] := by
    apply Array.ext'
    simp only [List.map_cons, List.map_nil, ARels, ARel, RRel] at hz2
    obtain ⟨c, r, h1, rfl, rfl⟩ := hz2
    exact h1
  have hqr : n ≤ q.cut (w.tape w.drawn q) ∧ q.cut (w.tape w.drawn q) ≤ maxLen := by
    simp only [q, Question.cut]
    have hlt := Nat.mod_lt (w.tape w.drawn (.appendCap n 0 e)) (show 0 < 2 ^ 63 - n by omega)
    simp only [maxLen]
    omega
  have hroomA : ∀ b : Nat, (askRoom b).run P (World.drawnOnce w) = .ok () (World.drawnOnce w) := by
    intro b
    unfold askRoom
    split <;> simp [mark, Sem.run]
  have hwrap : IntKind.i64.wrap (n : Int) = (n : Int) := by
    simp only [IntKind.wrap, IntKind.bits, IntKind.signed]
    simp
    omega
  have hmax : ¬ ((n : Int) > IntKind.i64.max) := by
    have e2 : IntKind.i64.max = 9223372036854775807 := by decide
    rw [e2]; omega
  have hfc : (Builtin.firstCells 1 0 (.slice base 0 0)).run P (World.drawnOnce w) = .ok #[] (World.drawnOnce w) := by
    cases base <;> simp [Builtin.firstCells, loadCells, loadCellsFrom]
  have hns : n * 1 ≠ 0 := by omega
  refine ⟨#[] ++ Builtin.zeroCells #[.int .u8 0] n ++ Builtin.zeroCells #[.int .u8 0] (q.cut (w.tape w.drawn q) - n), ?_, ?_, ?_, ?_⟩
  · have hcs : (#[] ++ Builtin.zeroCells #[.int .u8 0] n ++ Builtin.zeroCells #[.int .u8 0] (q.cut (w.tape w.drawn q) - n) : Array Value).size = q.cut (w.tape w.drawn q) := by
      simp only [Array.size_append, size_zeroCells]
      simp
      omega
    rw [hcs]
    simp only [Builtin.append_, List.getElem?_toArray, List.getElem?_cons_zero, List.getElem?_cons_succ, Sem.run_bind, run_underlying hD, size_ok hTO hE, run_underlying hD2, Result.andThen_ok, Sem.run_pure, asInt]
    have hby' : i.bytes = 1 := hby
    have c1 : ¬ ((n : Int) < 0) := by omega
    have c2 : ¬ ((n : Int) * ((1 : Nat) : Int) > 2 ^ 48) := by omega
    have c3 : ¬ (n ≤ 0) := by omega
    have c4 : ¬ ((n : Int) > IntKind.i64.max ∧ (True ∨ (1 : Nat) = 0)) := fun h => hmax h.1
    have c5 : ¬ (Builtin.nextslicecap n 0 * 1 > 2 ^ 48) := by rw [← hby']; exact hfit
    simp only [if_true, asIntOf, Sem.run_pure, Result.andThen_ok, hwrap, if_neg c1, run_typeInfo w hi, hby', if_neg c2, Int.toNat_natCast, if_neg c3, Sem.run_bind, Sem.run_ite, if_neg c4, if_neg c5, Nat.zero_add]
    rw [show (choose (Question.appendCap n 0 e)).run P w = _ from hq]
    simp only [Result.andThen_ok, run_typeInfo (World.drawnOnce w) hi, hroomA, hfc, hz1, hzc, if_neg hns, Sem.run_bind, Sem.run_pure, Bool.not_true, Bool.false_eq_true, if_false]
    simp only [newRow, newObj, Sem.run_bind, Sem.run_pure]
    rfl
  · simp only [Array.size_append, size_zeroCells]; simp
  · simp only [Array.size_append, size_zeroCells]; simp; omega
  · intro j hj
    simp only [Array.empty_append]
    rw [Array.getElem?_append_left (by simp only [size_zeroCells]; simpa using hj)]
    have : j % 1 = 0 := Nat.mod_one j
    simp [Builtin.zeroCells, hj, this]
theorem qop_appMake (hTO : TOk P T) {n : Nat} (hp : appMakeA T g o = some (n : Int)) (h0 : 0 < n) (hn : n ≤ 140737488355328) : QOp P N h (h.push (.bytes (List.replicate n 0))) o g (.sl h.nxt 0 n 1) := by
  intro g' hag X R μ a w Q e5 e6 e7
  unfold appMakeA at hp
  split at hp
  case h_2 => simp at hp
  rename_i cl hop
  split at hp
  case h_2 => simp at hp
  rename_i s x t t2 hcal hargs htys
  split at hp
  case h_2 => simp at hp
  rename_i e _ _ _ k2 _ _ _ n' hT hT2 hs hx
  split at hp
  case h_2 => simp at hp
  rename_i hE
  simp only [Option.some.injEq] at hp
  subst hp
  rw [hop] at hag
  have hmem : s ∈ (Op.call cl).operands ∧ x ∈ (Op.call cl).operands := by
    have h1 : s ∈ cl.args := Array.mem_toList_iff.1 (by rw [hargs]; simp)
    have h2 : x ∈ cl.args := Array.mem_toList_iff.1 (by rw [hargs]; simp)
    simp only [Op.operands, Call.operands, hcal]
    exact ⟨by simp [h1], by simp [h2]⟩
  have hsr := evA_rel (a := a) e6 s
  rw [hag s hmem.1, hs] at hsr
  have hxr := evA_rel (a := a) e6 x
  rw [hag x hmem.2, hx] at hxr
  simp only [ARel, RRel] at hsr hxr
  obtain ⟨ad, hsr⟩ := hsr
  obtain ⟨cells, h1, h2, h3, h4⟩ := run_appMake (ty := o.type) (base := ad) hTO hT rfl hE hT2 rfl h0 hn
  have e7' : HRel X R μ h (World.drawnOnce w) := e7.drew _
  have e6' : RegRel R μ (World.drawnOnce w) g' a.tmps := e6.mono (fun _ h => h) (onward_drawn R w) (fun _ _ h => h)
  obtain ⟨H1, H2, hon⟩ := new_block e7' e6' cells e (0, 0) (by simp) (bd := .bytes (List.replicate n 0)) (vs := bytesV (List.replicate n 0)) rfl (fun j v hj => by
    simp only [bytesV, List.map_replicate, List.getElem?_replicate] at hj
    split at hj
    · rename_i hlt
      cases hj
      rw [h4 j hlt]; rfl
    · cases hj)
  refine wp_value (u := .slice (some ⟨w.heap.size, 0, none⟩) n cells.size) (w' := (World.drawnOnce w).alloc (.cells cells e (0, 0))) ?_ ⟨_, R, _, rfl, ?_, H2, H1⟩
  · have ha1 : cl.args.map a.eval = ⟨[a.eval s, a.eval x]⟩ := by apply Array.ext'; rw [Array.toList_map, hargs]; rfl
    have ha2 : cl.argTypes = ⟨[t, t2]⟩ := by apply Array.ext'; exact htys
    simp only [execOp, hop, resolve, hcal, Sem.run_bind, Sem.run_pure, Result.andThen_ok, invoke, builtin, ha1, ha2, hsr, hxr]
    rw [h1]
    rfl
  · simp only [ARel]
    exact ⟨w.heap.size, 0, cells.size, cells, e, (0, 0), new_name e7', rfl, h2, h3, heap_new (World.drawnOnce w) _, by simp⟩
theorem ent_blk (β : Nat) (bd bd' : Body) (hg : h.get β = some bd) (he : ∀ (R : Nat → Prop) (μ : Mu) (w : World) (vs : List Value), BodyRel R μ w bd vs → BodyRel R μ w bd' vs) : Ent m g h g (h.set β (some bd')) := by
  intro X R μ w tmps e1 e2 e3
  obtain ⟨b, o, h1, h2, h3, h4⟩ := e3.live β bd hg
  obtain ⟨cells, el, fz, vs, h5, h6, h7, h8, h9⟩ := h4.ex
  exact ⟨R, μ, e2, e3.put h1 h2 h3 ⟨cells, el, fz, vs, h5, h6, he R μ w vs h7, h8, h9⟩ (fun γ blk' o' hne hg' => by
    intro hm
    exact hne (e3.inj γ β blk' bd b b o' o hg' hg hm h1 rfl))⟩
theorem rrel_nilb {R : Nat → Prop} {w : World} {c : Value} (h : RRel R w .nil c) : RRel R w (.bs []) c := by
  simp only [RRel] at h ⊢
  obtain ⟨a, rfl⟩ := h
  exact ⟨a, 0, rfl, Nat.le_refl _, .inl rfl⟩
theorem nil_bs {R : Nat → Prop} {μ : Mu} {w : World} {l : List AVal} {vs : List Value} (h : BodyRel R μ w (.mixed (.r .nil :: l)) vs) : BodyRel R μ w (.mixed (.r (.bs []) :: l)) vs := by
  simp only [BodyRel, ARels] at h ⊢
  obtain ⟨c, r, rfl, h1, h2⟩ := h
  exact ⟨c, r, rfl, by simp only [ARel] at h1 ⊢; exact rrel_nilb h1, h2⟩
end
end Go.Proofs.YtccdhgmkjakjkaaGreat
namespace Go.Proofs.YtccdhgmkjakjkaaGreat
open Go
set_option linter.unusedVariables false
section
variable {P : Program} {T : TTab} {f N : Nat} {m : Md} {fn : Func} {ops : Array Oper} {o : Oper} {rest : List Oper} {k : List Item} {g g' : Regs} {h h2 : Hp} {Post : AVal → Hp → Prop}
theorem reg_one {R : Nat → Prop} {μ : Mu} {w : World} {v : AVal} {d : Value} (h : ARel R μ w v d) : RegRel R μ w [(0, v)] #[d] := by
  intro t
  simp only [lookR]
  by_cases e : 0 = t
  · subst e; simpa using h
  · rw [beq_ne e]; simp [ARel]
theorem one_reg {R : Nat → Prop} {μ : Mu} {w : World} {v : AVal} {d : Value} (h : RegRel R μ w [(0, v)] #[d]) : ARel R μ w v d := by
  have := h 0
  simpa [lookR] using this
theorem fin_mu {X : Ctx} : X.fin.μ0 = X.μ0 := by
  unfold Ctx.fin
  split <;> rfl
theorem ag_retW {v v2 : AVal} {q : Prop} (hTO : TOk P T) (hf : P.funcs[f]? = some fn) (hres : resultsA T g h fn.results.toList = some (v, q)) (hmr : m.rnd = false) (hq : q) (he : Ent m [(0, v)] h [(0, v2)] h2) (hp : Post v2 h2) :
    AGo P f N m (.code .ret :: k) g h Post := by
  intro X R μ a w b cs e1 e2 e3 e4 e5 e6 e7
  have hro : b.roundOf = none := by have := e3.2; rw [hmr] at this; simpa using this
  obtain ⟨d, w', fr', h1, h2', h3, h4, h5, h6⟩ := leave_marks hTO hf hres hq e7 e6 { b.atR a (.code .ret :: k) with mode := .returning } cs e2 e3.1 rfl e4 rfl hro
  obtain ⟨R', μ', h7, h8⟩ := he X.fin R μ w' #[d] (by rw [fin_mu]; exact e1.len) (reg_one h5) h6
  exact ⟨d, w', fr', .head (stepR_ret hro) h1, ⟨h2', h3.trans hro.symm⟩, by unfold Done; rw [h3]; exact h4, R', μ', v2, h2, one_reg h7, h8, hp⟩
theorem ent_trans {g1 g2 g3 : Regs} {h1 h3 h4 : Hp} (a : Ent m g1 h1 g2 h3) (b : Ent m g2 h3 g3 h4) : Ent m g1 h1 g3 h4 := by
  intro X R μ w tmps e1 e2 e3
  obtain ⟨R', μ', h5, h6⟩ := a X R μ w tmps e1 e2 e3
  exact b X R' μ' w tmps e1 h5 h6
theorem ent_val (t : Nat) {v v' : AVal} (hl : lookR g t = v) (hv : ∀ (R : Nat → Prop) (μ : Mu) (w : World) (c : Value), ARel R μ w v c → ARel R μ w v' c) : Ent m g h ((t, v') :: g) h := by
  intro X R μ w tmps e1 e2 e3
  refine ⟨R, μ, ?_, e3⟩
  intro s
  simp only [lookR]
  by_cases e : t = s
  · subst e; simp only [Nat.beq_refl, cond_true]
    have := e2 t
    rw [hl] at this
    exact hv R μ w _ this
  · rw [beq_ne e]; exact e2 s
end
end Go.Proofs.YtccdhgmkjakjkaaGreat
namespace Go.Proofs.YtccdhgmkjakjkaaGreat
open Go
set_option linter.unusedVariables false
section
variable {P : Program} {T : TTab} {f N : Nat} {m : Md} {ops : Array Oper} {o : Oper} {rest : List Oper} {g : Regs} {ld : List Nat} {K ix : Nat} {F : Regs → Prop}
end
end Go.Proofs.YtccdhgmkjakjkaaGreat
namespace Go.Proofs.YtccdhgmkjakjkaaGreat
open Go
set_option linter.unusedVariables false
section
variable {P : Program} {T : TTab} {N : Nat} {o : Oper} {g : Regs}
theorem stepPure_index {d : Nat} {t e : TypeId} {x i : Operand} {ty te : Ty} {n : Nat} {cs : List AVal} {v : AVal} {k : IntKind} {ix : Int} (hop : o.op = .index t x i) (hd : o.dst = some d) (hN : Nat.blt d N = true) (hT : T.look t = some ty) (hk : ty.k = .arr n e) (he : T.look e = some te) (ha : te.k.agg = false)
    (hx : evA g x = .agg cs) (hi : evA g i = .r (.int k ix)) (hv : cs[mulz ix te.size]? = some v) : stepPure T N g o = some (d, v, 0 ≤ ix ∧ ix < n) := by
  rw [stepPure_eq, hd]
  simp only [hN, cond_true]
  have h1 : pureOp T (evA g) o.op = some (v, 0 ≤ ix ∧ ix < n) := by
    rw [hop]
    simp only [pureOp, hx, hi]
    obtain ⟨k1, sz, al, z⟩ := ty
    simp only at hk
    subst hk
    simp only [indexA, hT, he, partA, ha, Bool.false_eq_true, if_false, hv, Option.map_some]
  rw [h1]
theorem allR_maps : ∀ ys : List RVal, allR (ys.map .r) = some ys
  | [] => rfl
  | y :: ys => by simp only [List.map_cons, allR, allR_maps ys]
theorem setsP_all : ∀ (pre xs ys : List RVal), xs.length = ys.length → setsP (pre ++ xs) pre.length ys = pre ++ ys
  | pre, [], [], _ => rfl
  | pre, x :: xs, y :: ys, h => by
    simp only [setsP]
    have h1 : (pre ++ x :: xs).set pre.length y = (pre ++ [y]) ++ xs := by simp
    rw [h1]
    have := setsP_all (pre ++ [y]) xs ys (by simpa using h)
    rw [show (pre ++ [y]).length = pre.length + 1 by simp] at this
    rw [this]; simp
  | _, [], _ :: _, h => by simp at h
  | _, _ :: _, [], h => by simp at h
theorem stepStore_arr {h : Hp} {t : TypeId} {β : Nat} {ty : Ty} {x y : Operand} {xs ys : List RVal} (hd : o.dst = none) (hop : o.op = .store t x y) (hT : T.look t = some ty) (hx : evA g x = .ptr β 0) (hy : evA g y = .agg (ys.map .r)) (hb : h.get β = some (.plain xs)) (h1 : xs.length = ty.size) (h2 : ys.length = ty.size) (h3 : Nat.ble 2 ty.size = true) :
    stepStore g h T o = some (h.set β (some (.plain ys)), True) := by
  unfold stepStore
  rw [hd, hop]
  simp only [hT, hx, hy, cellsF_eq, AVal.cellsA, hb, List.length_map, h2, Nat.beq_refl, cond_true]
  have h4 := Nat.le_of_ble_eq_true h3
  match ys, h2 with
  | [], h2 => simp at h2; omega
  | [_], h2 => simp at h2; omega
  | a :: b :: l, h2 =>
    have e1 : setsP xs 0 (a :: b :: l) = a :: b :: l := setsP_all [] xs (a :: b :: l) (by rw [h1, h2])
    have e2 := allR_maps (a :: b :: l)
    simp only [List.map_cons] at e2 ⊢
    simp only [storeF, e2]
    have e3 : Nat.ble (0 + (AVal.r a :: AVal.r b :: l.map AVal.r).length) xs.length = true := by rw [Nat.ble_eq]; simp at h2 ⊢; omega
    rw [e3]
    simp only [cond_true, Option.map_some, e1]
theorem stepNew_box {d n : Nat} {t : TypeId} {x : Operand} {ys : List RVal} (hd : o.dst = some d) (hN : Nat.blt d N = true) (hop : o.op = .box t x) (hx : evA g x = .agg (ys.map .r)) : stepNew T N g n o = some (d, .ptr n 0, .mixed (ys.map .r), True) := by
  unfold stepNew
  rw [hd]
  simp only [hN, cond_true, hop, hx, cellsF_eq, AVal.cellsA]
theorem resV_arr {h : Hp} {a : Tmp} {t : TypeId} {β : Nat} {ty : Ty} {ys : List RVal} (hT : T.look t = some ty) (hg : lookR g a = .ptr β 0) (hb : h.get β = some (.plain ys)) (ha : ty.k.agg = true) (hl : ys.length = ty.size) : resV T g h (.cell a t) = some (.agg (ys.map .r), True) := by
  have hA : addrF h (lookR g a) = some (.plain ys, 0) := by rw [hg]; simp only [addrF, hb, Option.map_some]
  simp only [resV, hT, hA, loadF, ha, forceL_eq, List.drop_zero]
  rw [List.take_of_length_le (by omega)]
  have : Nat.beq (ys.map AVal.r).length ty.size = true := by simp [hl]
  rw [this]; rfl
theorem resultsA_arr {h : Hp} {a : Tmp} {t : TypeId} {β : Nat} {ty : Ty} {ys : List RVal} (hT : T.look t = some ty) (hg : lookR g a = .ptr β 0) (hb : h.get β = some (.plain ys)) (ha : ty.k.agg = true) (hl : ys.length = ty.size) : resultsA T g h [.cell a t] = some (.agg (ys.map .r), True ∧ True) := by
  unfold resultsA resVs
  rw [resV_arr hT hg hb ha hl]
  rfl
end
def U32 (x : Int) : Prop := 0 ≤ x ∧ x < 4294967296
def ad (x y : Int) : Int := IntKind.u32.wrap (x + y)
def xo (x y : Int) : Int := ibit .xor .u32 x y
def an (x y : Int) : Int := ibit .and .u32 x y
def oo (x y : Int) : Int := ibit .or .u32 x y
def sr (x : Int) (n : Nat) : Int := x.fdiv (2 ^ n)
def tu (x : Int) (n : Nat) : Int := oo (sr x n) (IntKind.u32.wrap (x * 2 ^ (32 - n)))
def sg0 (x : Int) : Int := xo (xo (tu x 7) (tu x 18)) (sr x 3)
def sg1 (x : Int) : Int := xo (xo (tu x 17) (tu x 19)) (sr x 10)
def bs0 (x : Int) : Int := xo (xo (tu x 2) (tu x 13)) (tu x 22)
def bs1 (x : Int) : Int := xo (xo (tu x 6) (tu x 11)) (tu x 25)
def chv (e f g : Int) : Int := xo (an e f) (an (xo 4294967295 e) g)
def mjv (a b c : Int) : Int := xo (xo (an a b) (an a c)) (an b c)
theorem oo_comm (x y : Int) : oo x y = oo y x := by unfold oo ibit; simp only [BitVec.or_comm]
theorem ad_assoc (x y z : Int) : ad (ad x y) z = ad x (ad y z) := by unfold ad; rw [wu32, wu32, wu32, wu32]; omega
theorem rot_s : ∀ n : Fin 32, 1 ≤ n.val → ibit .and .u64 (IntKind.u64.wrap (0 - (n.val : Int))) 31 = ((32 - n.val : Nat) : Int) := by decide +kernel
theorem rot_sub : ∀ n : Fin 32, 1 ≤ n.val → IntKind.u64.wrap (32 - ((32 - n.val : Nat) : Int)) = (n.val : Int) := by decide +kernel
structure Q8 where
  a : Int
  b : Int
  c : Int
  d : Int
  e : Int
  f : Int
  g : Int
  h : Int
def Q8.cells (s : Q8) : List RVal := [.int .u32 s.a, .int .u32 s.b, .int .u32 s.c, .int .u32 s.d, .int .u32 s.e, .int .u32 s.f, .int .u32 s.g, .int .u32 s.h]
def Q8.av (s : Q8) : AVal := .agg (s.cells.map .r)
def rt1 (s : Q8) : Int := ad (ad s.h (bs1 s.e)) (chv s.e s.f s.g)
def rt2 (s : Q8) : Int := ad (bs0 s.a) (mjv s.a s.b s.c)
def rnd (s : Q8) (kw : Int) : Q8 := ⟨ad (ad (rt1 s) kw) (rt2 s), s.a, s.b, s.c, ad s.d (ad (rt1 s) kw), s.e, s.f, s.g⟩
def q0 : Q8 := ⟨1779033703, 3144134277, 1013904242, 2773480762, 1359893119, 2600822924, 528734635, 1541459225⟩
def u64L (F : Nat → Int) : List RVal := fnL 64 fun k => .int .u32 (F k)
def a64 (F : Nat → Int) : AVal := .agg ((u64L F).map .r)
end Go.Proofs.YtccdhgmkjakjkaaGreat
namespace Go.Proofs.YtccdhgmkjakjkaaGreat
open Go
set_option linter.unusedVariables false
def nlA (v : AVal) : AVal := bif AVal.nb 0 v then v else .any
def nlR : Regs → Regs
  | [] => []
  | (t, v) :: g => (t, nlA v) :: nlR g
theorem nlR_look : ∀ (g : Regs) (t : Nat), lookR (nlR g) t = nlA (lookR g t)
  | [], _ => rfl
  | (a, v) :: g, t => by
    simp only [nlR, lookR]
    cases Nat.beq a t <;> simp only [cond_true, cond_false]
    exact nlR_look g t
theorem nlR_eval {g : Regs} {x : Operand} (h : AVal.nb 0 (evA g x) = true) : evA (nlR g) x = evA g x := by
  cases x with
  | tmp t => simp only [evA, nlR_look] at h ⊢; simp [nlA, h]
  | _ => rfl
theorem nlR_rel {R : Nat → Prop} {μ : Mu} {w : World} {g : Regs} {tmps : Array Value} (h : RegRel R μ w g tmps) : RegRel R [] w (nlR g) tmps := by
  intro t
  rw [nlR_look]
  unfold nlA
  cases hb : AVal.nb 0 (lookR g t) with
  | false => simp [ARel]
  | true =>
    simp only [cond_true]
    refine ARel.unren (μ := []) (μ2 := μ) (ρ := id) (m := 0) (fun β hβ => absurd hβ (Nat.not_lt_zero _)) _ _ hb ?_
    rw [ren_below0 _ hb]
    exact h t
section
variable {P : Program} {T : TTab} {N : Nat} {o : Oper} {g g' : Regs} {h : Hp}
theorem qop_roq {d off n z : Nat} {bd bd' : Body} {v : RVal} {c : Prop} (hd : o.dst = some d) (hN : Nat.blt d N = true) (hs : ∀ g', (∀ x ∈ o.op.operands, evA g' x = evA g x) → OpStep P N o g' ⟨0, [], false⟩ ((d, .sl 0 off n z) :: g') (Hp.push ⟨0, [], false⟩ bd))
    (hnb : (o.op.operands.toList.all fun x => AVal.nb 0 (evA g x)) = true) (he : ∀ (R : Nat → Prop) (μ : Mu) (w : World) (vs : List Value), BodyRel R μ w bd vs → BodyRel R μ w bd' vs) (hr : roOf bd' off n z = some (v, c)) (hc : c) : QOp P N h h o g (.r v) := by
  intro g' hag X R μ a w Q e5 e6 e7
  have H0 := handed_rel e7 (handed_none (h := h))
  have hcong : ∀ x ∈ o.op.operands, evA (nlR g') x = evA g x := by
    intro x hx
    have h1 := List.all_eq_true.1 hnb x (Array.mem_toList_iff.2 hx)
    rw [nlR_eval (by rw [hag x hx]; exact h1), hag x hx]
  obtain ⟨u, w', R', μ', h1, h2, h3⟩ := hs (nlR g') hcong (callCtx w ⟨0, [], false⟩ R (muOf μ [])) R (muOf μ []) a w e5 (nlR_rel e6) H0
  have h2d := h2 d
  have hlt : d < a.tmps.size := by rw [e5]; exact Nat.le_of_ble_eq_true hN
  simp only [lookR, Nat.beq_refl, cond_true] at h2d
  rw [hd] at h2d
  have hput : (a.put (some d) u).tmps.getD d undef = u := by simp [Act.put, Array.getD, hlt]
  rw [hput] at h2d
  have he1 := ent_blk (m := .of (callCtx w ⟨0, [], false⟩ R (muOf μ [])).μ0.length) (g := [(0, .sl 0 off n z)]) (h := Hp.push ⟨0, [], false⟩ bd) 0 bd bd' rfl he
  have he2 := ent_freeze (m := .of (callCtx w ⟨0, [], false⟩ R (muOf μ [])).μ0.length) (g := [(0, .sl 0 off n z)]) (h := Hp.set (Hp.push ⟨0, [], false⟩ bd) 0 (some bd')) 0 (β := 0) (off := off) (n := n) (z := z) (bd := bd') rfl rfl hr hc
  obtain ⟨R2, μ2, h5, h6⟩ := (he1.trans he2) (callCtx w ⟨0, [], false⟩ R (muOf μ [])) R' μ' w' #[u] rfl (fun t => by
    simp only [lookR]
    by_cases e : 0 = t
    · subst e; simpa using h2d
    · rw [beq_ne e]; simp [ARel]) h3
  have h50 : RRel R2 w' v u := by
    have := h5 0
    simpa [lookR, ARel] using this
  obtain ⟨hon, hRR, hK, _⟩ := after_call e7 (handed_none (h := h)) h6
  have hfin : ARel R2 μ w' (.r v) u := by simp only [ARel]; exact h50
  unfold Oper.wp
  rcases h1 with h1 | ⟨h1, rfl⟩
  · rw [h1]; exact ⟨u, R2, μ, rfl, hfin, e6.mono hRR hon (fun _ _ h => h), hK⟩
  · rw [h1]; exact ⟨undef, R2, μ, rfl, hfin, e6.mono hRR hon (fun _ _ h => h), hK⟩
def roAll (bd : Body) (n z : Nat) : Option (RVal × Prop) :=
  match bd with
  | .bytes s => some (.bs s, s.length = n ∧ z = 1)
  | .plain xs => some (.ro n xs, xs.length = n * z)
  | .mixed _ => none
theorem roAll_of {bd : Body} {n z : Nat} {v : RVal} {c : Prop} (h : roAll bd n z = some (v, c)) (hc : c) : ∃ c', roOf bd 0 n z = some (v, c') ∧ c' := by
  unfold roAll at h
  split at h
  · simp only [Option.some.injEq, Prod.mk.injEq] at h
    obtain ⟨rfl, rfl⟩ := h
    rename_i s
    exact ⟨_, by rw [roOf, cutA_eq, List.drop_zero, List.take_of_length_le (by omega)], And.intro (by omega) hc.2⟩
  · simp only [Option.some.injEq, Prod.mk.injEq] at h
    obtain ⟨rfl, rfl⟩ := h
    exact ⟨True, by rw [roOf, cutA_eq, List.drop_zero, List.take_of_length_le (by omega)], trivial⟩
  · simp at h
def buildRoA (T : TTab) (N : Nat) (g : Regs) (o : Oper) : Option (RVal × Prop) :=
  match stepNew T N g 0 o with
  | some (_, .sl 0 0 n z, blk, c) =>
    match roAll (appN blk).1 n z with
    | some (v, c') => some (v, c ∧ (appN blk).2 ∧ c')
    | none => none
  | _ => none
theorem qop_buildRo (hTO : TOk P T) {v : RVal} {c : Prop} (hp : buildRoA T N g o = some (v, c)) (hc : c) (hnb : (o.op.operands.toList.all fun x => AVal.nb 0 (evA g x)) = true) : QOp P N h h o g (.r v) := by
  unfold buildRoA at hp
  split at hp
  case h_2 => simp at hp
  rename_i d n z blk c0 hs
  split at hp
  case h_2 => simp at hp
  rename_i v' c' hr
  simp only [Option.some.injEq, Prod.mk.injEq] at hp
  obtain ⟨rfl, rfl⟩ := hp
  obtain ⟨hd, hN⟩ := stepNew_dst hs
  obtain ⟨_, hr, hcr⟩ := roAll_of hr hc.2.2
  exact qop_roq hd hN (fun g' hag => opStep_new (h := ⟨0, [], false⟩) hTO ((stepNew_congr hag).trans hs) hc.1) hnb (fun R μ w vs hb => appN_sound hc.2.1 hb) hr hcr
theorem makeA_congr (hag : ∀ x ∈ o.op.operands, evA g' x = evA g x) : makeA T N g' o = makeA T N g o := by
  unfold makeA
  split
  · rename_i t l c _ hop
    rw [hop] at hag
    rw [hag l (by simp [Op.operands]), hag c (by simp [Op.operands])]
  · rfl
def makeRoA (T : TTab) (N : Nat) (g : Regs) (o : Oper) : Option (RVal × Prop) :=
  match makeA T N g o with
  | some (_, z, n, bd, c) =>
    match roAll bd n.toNat z with
    | some (v, c') => some (v, c ∧ c')
    | none => none
  | _ => none
theorem makeA_dst {d z : Nat} {n : Int} {bd : Body} {c : Prop} (hp : makeA T N g o = some (d, z, n, bd, c)) : o.dst = some d ∧ Nat.blt d N = true := by
  unfold makeA at hp
  split at hp
  case h_2 => simp at hp
  rename_i d' t l cc hd hop
  cases hb : Nat.blt d' N <;> rw [hb] at hp <;> simp only [cond_true, cond_false, reduceCtorEq] at hp
  split at hp
  case h_2 => simp at hp
  split at hp
  case h_2 => simp at hp
  split at hp
  · simp only [Option.some.injEq, Prod.mk.injEq] at hp; exact ⟨by rw [← hp.1]; exact hd, by rw [← hp.1]; exact hb⟩
  · simp only [Option.some.injEq, Prod.mk.injEq] at hp; exact ⟨by rw [← hp.1]; exact hd, by rw [← hp.1]; exact hb⟩
  · simp at hp
theorem qop_makeRo (hTO : TOk P T) {v : RVal} {c : Prop} (hp : makeRoA T N g o = some (v, c)) (hc : c) (hnb : (o.op.operands.toList.all fun x => AVal.nb 0 (evA g x)) = true) : QOp P N h h o g (.r v) := by
  unfold makeRoA at hp
  split at hp
  case h_2 => simp at hp
  rename_i d z n bd c0 hs
  split at hp
  case h_2 => simp at hp
  rename_i v' c' hr
  simp only [Option.some.injEq, Prod.mk.injEq] at hp
  obtain ⟨rfl, rfl⟩ := hp
  obtain ⟨hd, hN⟩ := makeA_dst hs
  obtain ⟨_, hr, hcr⟩ := roAll_of hr hc.2
  exact qop_roq hd hN (fun g' hag => opStep_make (h := ⟨0, [], false⟩) hTO ((makeA_congr hag).trans hs) hc.1) hnb (fun R μ w vs hb => hb) hr hcr
theorem Spec.args {n : FuncId} {as as' : List AVal} {hp : Hp} {Q : AVal → Hp → Prop} (hs : Spec P n as hp Q) (ha : ∀ (R : Nat → Prop) (μ : Mu) (w : World) (cs : List Value), ARels R μ w as' cs → ARels R μ w as cs) : Spec P n as' hp Q :=
  ⟨hs.can, fun R μ w cargs h1 h2 => hs.run R μ w cargs h1 (ha R μ w cargs h2)⟩
end
def accA : List RVal → AVal
  | [] => .r .nil
  | _ :: r => .sl 0 0 (r.length + 1) 1
def accH : List RVal → Hp
  | [] => ⟨0, [], false⟩
  | x :: r => ⟨1, [(0, some (.plain (x :: r)))], false⟩
end Go.Proofs.YtccdhgmkjakjkaaGreat
namespace Go.Proofs.YtccdhgmkjakjkaaGreat
open Go
set_option linter.unusedVariables false
mutual
def AVal.nob (b n : Nat) : AVal → Bool
  | .sl β _ _ _ => Nat.blt β n && !Nat.beq β b
  | .ptr β _ => Nat.blt β n && !Nat.beq β b
  | .func _ cs => AVal.nobs b n cs
  | .agg cs => AVal.nobs b n cs
  | .tuple cs => AVal.nobs b n cs
  | .r _ => true
  | .rp _ _ => true
  | .bp _ _ => true
  | .yld _ => true
  | .any => true
def AVal.nobs (b n : Nat) : List AVal → Bool
  | [] => true
  | x :: xs => AVal.nob b n x && AVal.nobs b n xs
end
theorem nob_ne {b n β : Nat} (h : (Nat.blt β n && !Nat.beq β b) = true) : β ≠ b := by
  simp only [Bool.and_eq_true, Bool.not_eq_true'] at h
  intro e; subst e; simp at h
mutual
theorem ARel.other {R : Nat → Prop} {μ μ2 : Mu} {w : World} {b n : Nat} (hm : ∀ β, β ≠ b → ∀ p, μ[β]? = some p → μ2[β]? = some p) : ∀ (v : AVal) (c : Value), AVal.nob b n v = true → ARel R μ w v c → ARel R μ2 w v c
  | .r v, c, _, h => by simp only [ARel] at h ⊢; exact h
  | .sl β off k z, c, hn, h => by
    simp only [AVal.nob] at hn
    simp only [ARel] at h ⊢
    obtain ⟨b', o, cap, cells, e, fz, h1, h2⟩ := h
    exact ⟨b', o, cap, cells, e, fz, hm _ (nob_ne hn) _ h1, h2⟩
  | .ptr β off, c, hn, h => by
    simp only [AVal.nob] at hn
    simp only [ARel] at h ⊢
    obtain ⟨b', o, h1, h2⟩ := h
    exact ⟨b', o, hm _ (nob_ne hn) _ h1, h2⟩
  | .func f caps, c, hn, h => by
    simp only [AVal.nob] at hn
    simp only [ARel] at h ⊢
    obtain ⟨cs, h1, h2⟩ := h
    exact ⟨cs, h1, ARels.other hm caps cs hn h2⟩
  | .agg xs, c, hn, h => by
    simp only [AVal.nob] at hn
    simp only [ARel] at h ⊢
    obtain ⟨cs, h1, h2⟩ := h
    exact ⟨cs, h1, ARels.other hm xs cs hn h2⟩
  | .tuple xs, c, hn, h => by
    simp only [AVal.nob] at hn
    simp only [ARel] at h ⊢
    obtain ⟨cs, h1, h2⟩ := h
    exact ⟨cs, h1, ARels.other hm xs cs hn h2⟩
  | .rp xs o, c, _, h => by simp only [ARel] at h ⊢; exact h
  | .bp s o, c, _, h => by simp only [ARel] at h ⊢; exact h
  | .yld _, _, _, h => by simpa only [ARel] using h
  | .any, _, _, _ => by simp only [ARel]
theorem ARels.other {R : Nat → Prop} {μ μ2 : Mu} {w : World} {b n : Nat} (hm : ∀ β, β ≠ b → ∀ p, μ[β]? = some p → μ2[β]? = some p) : ∀ (v : List AVal) (c : List Value), AVal.nobs b n v = true → ARels R μ w v c → ARels R μ2 w v c
  | [], _, _, h => by simpa [ARels] using h
  | x :: xs, c, hn, h => by
    simp only [AVal.nobs, Bool.and_eq_true] at hn
    simp only [ARels] at h ⊢
    obtain ⟨d, r, h1, h2, h3⟩ := h
    exact ⟨d, r, h1, ARel.other hm x d hn.1 h2, ARels.other hm xs r hn.2 h3⟩
end
def Body.nob (b n : Nat) : Body → Bool
  | .mixed cs => AVal.nobs b n cs
  | _ => true
theorem BlkRel.other {R : Nat → Prop} {μ μ2 : Mu} {w : World} {b n bb oo : Nat} {bd : Body} (hm : ∀ β, β ≠ b → ∀ p, μ[β]? = some p → μ2[β]? = some p) (hn : bd.nob b n = true) (h : BlkRel R μ w bb oo bd) : BlkRel R μ2 w bb oo bd := by
  obtain ⟨cells, el, fz, vs, h1, h2, h3, h4⟩ := h.ex
  refine ⟨cells, el, fz, vs, h1, h2, ?_, h4⟩
  cases bd with
  | bytes s => exact h3
  | plain xs => exact h3
  | mixed cs => exact ARels.other hm cs vs hn h3
def Regs.nob (b n : Nat) : Regs → Bool
  | [] => true
  | (_, v) :: r => AVal.nob b n v && Regs.nob b n r
theorem Regs.nob_look {b n : Nat} : ∀ {g : Regs} (t : Nat), Regs.nob b n g = true → AVal.nob b n (lookR g t) = true
  | [], _, _ => rfl
  | (s, v) :: r, t, h => by
    simp only [Regs.nob, Bool.and_eq_true] at h
    simp only [lookR]
    by_cases e : s = t
    · subst e; simpa using h.1
    · rw [beq_ne e]; exact Regs.nob_look t h.2
def tabNob (a b n : Nat) : List (Nat × Option Body) → Bool
  | [] => true
  | (i, v) :: l => (Nat.beq i a || Nat.beq i b || (match v with | some bd => Body.nob b n bd | none => true)) && tabNob a b n l
theorem tabNob_look {a b n : Nat} : ∀ {l : List (Nat × Option Body)} {i : Nat} {bd : Body}, tabNob a b n l = true → i ≠ a → i ≠ b → Hp.look l i = some bd → bd.nob b n = true
  | [], i, bd, _, _, _, h => by simp [Hp.look] at h
  | (j, v) :: l, i, bd, ht, h1, h2, h => by
    simp only [tabNob, Bool.and_eq_true] at ht
    rw [look_kill] at h
    split at h
    · rename_i e
      subst e
      subst h
      rw [beq_ne h1, beq_ne h2] at ht
      simpa using ht.1
    · exact tabNob_look ht.2 h1 h2 h
mutual
theorem nb_up {n : Nat} : ∀ (v : AVal), AVal.nb 0 v = true → AVal.nb n v = true
  | .sl β _ _ _, h => by simp [AVal.nb] at h
  | .ptr β _, h => by simp [AVal.nb] at h
  | .func _ cs, h => by simp only [AVal.nb] at h ⊢; exact nbs_up cs h
  | .agg cs, h => by simp only [AVal.nb] at h ⊢; exact nbs_up cs h
  | .tuple cs, h => by simp only [AVal.nb] at h ⊢; exact nbs_up cs h
  | .r _, _ => rfl
  | .rp _ _, _ => rfl
  | .bp _ _, _ => rfl
  | .yld _, _ => rfl
  | .any, _ => rfl
theorem nbs_up {n : Nat} : ∀ (v : List AVal), AVal.nbs 0 v = true → AVal.nbs n v = true
  | [], _ => rfl
  | x :: xs, h => by
    simp only [AVal.nbs, Bool.and_eq_true] at h ⊢
    exact ⟨nb_up x h.1, nbs_up xs h.2⟩
end
def obS (sl : Option (List UInt8)) (b : Nat) (tl : List RVal) : Body := .mixed ((match sl with | none => .r .nil | some s => .sl b 0 s.length 1) :: tl.map .r)
def obB (sl : Option (List UInt8)) : Option Body := match sl with | none => none | some s => some (.bytes s)
def obAt (sl : Option (List UInt8)) (tl : List RVal) (a b : Nat) (h : Hp) : Hp := ⟨h.nxt, (b, obB sl) :: (a, some (obS sl b tl)) :: h.tab, h.gh⟩
def obP (sl : Option (List UInt8)) (tl : List RVal) : Hp :=
  match sl with
  | none => ⟨1, [(0, some (obS none 1 tl))], false⟩
  | some s => ⟨2, [(0, some (obS (some s) 1 tl)), (1, some (.bytes s))], false⟩
def obI (sl : Option (List UInt8)) (a b : Nat) : List Nat := match sl with | none => [a] | some _ => [a, b]
def ObIs (sl : Option (List UInt8)) (tl : List RVal) (h : Hp) : Prop := ∃ β, h.get 0 = some (obS sl β tl) ∧ ∀ s, sl = some s → β ≠ 0 ∧ h.get β = some (.bytes s)
theorem obS_nbs (tl : List RVal) (n : Nat) : AVal.nbs n (tl.map .r) = true := by
  induction tl with
  | nil => rfl
  | cons x l ih => simp [AVal.nbs, AVal.nb, ih]
theorem rens_r (ρ : Nat → Nat) (tl : List RVal) : AVal.rens ρ (tl.map .r) = tl.map .r := by
  induction tl with
  | nil => rfl
  | cons x l ih => simp [AVal.rens, AVal.ren, ih]
theorem handed_ob {sl : Option (List UInt8)} {tl : List RVal} {a b : Nat} {h : Hp} (hab : a ≠ b) (ha : a < h.nxt) (hb : b < h.nxt) : Handed (obAt sl tl a b h) (obP sl tl) (obI sl a b) := by
  cases sl with
  | none =>
    refine ⟨rfl, fun γ hγ => by simp [obI] at hγ; subst hγ; exact ha, by simp [obI], fun i blk hg => ?_⟩
    simp only [obP, Hp.get, look_kill] at hg
    split at hg
    · rename_i e
      subst e
      cases hg
      refine ⟨Nat.zero_lt_one, by simp [Body.nb, obS, AVal.nbs, AVal.nb, obS_nbs], ?_⟩
      simp [obAt, obI, Hp.get, look_kill, Ne.symm hab, obS, Body.ren, AVal.rens, AVal.ren, rens_r]
    · simp [Hp.look] at hg
  | some s =>
    refine ⟨rfl, fun γ hγ => by simp [obI] at hγ; rcases hγ with rfl | rfl; exact ha; exact hb, by simp [obI, hab], fun i blk hg => ?_⟩
    simp only [obP, Hp.get, look_kill] at hg
    split at hg
    · rename_i e
      subst e
      cases hg
      refine ⟨(by decide : 0 < 2), by simp [obP, Body.nb, obS, AVal.nbs, AVal.nb, obS_nbs], ?_⟩
      simp [obAt, obI, Hp.get, look_kill, Ne.symm hab, obS, Body.ren, AVal.rens, AVal.ren, rens_r]
    · split at hg
      · rename_i e
        subst e
        cases hg
        exact ⟨(by decide : 1 < 2), rfl, by simp [obAt, obI, Hp.get, look_kill, obB, Body.ren]⟩
      · simp [Hp.look] at hg
section
variable {P : Program} {T : TTab} {f N : Nat} {m : Md} {ops : Array Oper} {o : Oper} {rest : List Oper} {todo k : List Item} {g : Regs} {h h' : Hp} {Post : AVal → Hp → Prop}
theorem ob_after {sl sl' : Option (List UInt8)} {tl tl' : List RVal} {a b : Nat} {X : Ctx} {R R' : Nat → Prop} {μ μ' : Mu} {w w' : World} {tmps : Array Value} (hab : a ≠ b) (ha : a < h.nxt) (hb : b < h.nxt) (hXb : X.μ0.length ≤ b) (hgn : Regs.nob b h.nxt g = true) (htn : tabNob a b h.nxt h.tab = true)
    (e6 : RegRel R μ w g tmps) (e7 : HRel X R μ (obAt sl tl a b h) w) (H' : HRel (callCtx w (obP sl tl) R (muOf μ (obI sl a b))) R' μ' h' w') (hi : ObIs sl' tl' h') :
    ∃ μn, RegRel R' μn w' g tmps ∧ HRel X R' μn (obAt sl' tl' a b h) w' := by
  have hh := handed_ob (sl := sl) (tl := tl) (h := h) hab ha hb
  obtain ⟨hon, hRR, hK, hlive⟩ := after_call e7 hh H'
  obtain ⟨β, hi1, hi2⟩ := hi
  obtain ⟨bA, oA, hA1, hA2, hA3, hA4, hA5⟩ := hlive 0 _ hi1
  have hmua : μ[a]? = some (bA, oA) := by
    have hlt : a < μ.length := by rw [e7.len]; exact ha
    have h1 : (muOf μ (obI sl a b))[0]? = some μ[a] := by
      rw [muOf_get e7.len hh (by cases sl <;> simp [obP])]
      cases sl <;> simp [obI, hlt]
    have h2 := H'.mu 0 _ h1
    rw [hA1] at h2
    rw [List.getElem?_eq_getElem hlt, ← h2]
  have hblt : b < μ.length := by rw [e7.len]; exact hb
  have hget : ∀ γ blk, γ ≠ a → γ ≠ b → h.get γ = some blk → ((obAt sl tl a b h).kills (obI sl a b)).get γ = some blk := by
    intro γ blk h1 h2 hg
    refine get_kills_of ?_ ?_
    · cases sl <;> simp [obI, h1, h2]
    · simp only [obAt, Hp.get, look_kill, if_neg (Ne.symm h1), if_neg (Ne.symm h2)]; exact hg
  -- the caller's names behind the call
  have key : ∀ (μn : Mu), μn.length = μ.length → (∀ γ, γ ≠ b → ∀ p, μ[γ]? = some p → μn[γ]? = some p) → (∀ γ, γ ≠ b → ∀ p, μn[γ]? = some p → μ[γ]? = some p) →
      BlkRel R' μn w' bA oA (obS sl' b tl') →
      (∀ s, sl' = some s → ∃ bB oB, μn[b]? = some (bB, oB) ∧ ¬ R' bB ∧ X.own bB ∧ BlkRel R' μn w' bB oB (.bytes s) ∧ HRel.Free ((obAt sl tl a b h).kills (obI sl a b)) μ bB ∧ bB ≠ bA) →
      RegRel R' μn w' g tmps ∧ HRel X R' μn (obAt sl' tl' a b h) w' := by
    intro μn hlen hfw hbw hSA hSB
    have hg2 : RegRel R' μ w' g tmps := e6.mono hRR hon (fun _ _ h => h)
    refine ⟨fun t => ARel.other hfw _ _ (Regs.nob_look t hgn) (hg2 t), ?_⟩
    exact {
      os := hK.os
      tape := hK.tape
      output := hK.output
      size := hK.size
      keep := hK.keep
      shape := hK.shape
      r0 := hK.r0
      rO := hK.rO
      rlt := hK.rlt
      rc := hK.rc
      mu := fun γ p hp => hfw γ (by have := (List.getElem?_eq_some_iff.1 hp).1; omega) p (hK.mu γ p hp)
      len := by rw [hlen, e7.len]; rfl
      live := by
        intro γ blk hg
        simp only [obAt, Hp.get, look_kill] at hg
        split at hg
        · rename_i e
          subst e
          cases sl' with
          | none => simp [obB] at hg
          | some s =>
            simp only [obB, Option.some.injEq] at hg
            subst hg
            obtain ⟨bB, oB, h1, h2, h3, h4, _⟩ := hSB s rfl
            exact ⟨bB, oB, h1, h2, h3, h4⟩
        · rename_i e1
          split at hg
          · rename_i e
            subst e
            cases hg
            exact ⟨bA, oA, hfw _ hab _ hmua, hA2, hA3, hSA⟩
          · rename_i e2
            obtain ⟨b', o', h1, h2, h3, h4⟩ := hK.live γ blk (hget γ blk (Ne.symm e2) (Ne.symm e1) hg)
            exact ⟨b', o', hfw γ (Ne.symm e1) _ h1, h2, h3, h4.other hfw (tabNob_look htn (Ne.symm e2) (Ne.symm e1) hg)⟩
      inj := by
        have cls : ∀ γ blk bb oo, (obAt sl' tl' a b h).get γ = some blk → μn[γ]? = some (bb, oo) → (γ = b ∧ HRel.Free ((obAt sl tl a b h).kills (obI sl a b)) μ bb ∧ bb ≠ bA) ∨ (γ = a ∧ bb = bA) ∨ (γ ≠ a ∧ γ ≠ b ∧ ((obAt sl tl a b h).kills (obI sl a b)).get γ = some blk ∧ μ[γ]? = some (bb, oo)) := by
          intro γ blk bb oo hg hm
          simp only [obAt, Hp.get, look_kill] at hg
          split at hg
          · rename_i e
            subst e
            cases sl' with
            | none => simp [obB] at hg
            | some s =>
              obtain ⟨bB, oB, h1, _, _, _, h5, h6⟩ := hSB s rfl
              rw [hm] at h1; cases h1
              exact .inl ⟨rfl, h5, h6⟩
          · rename_i e1
            split at hg
            · rename_i e
              subst e
              have := hbw _ hab _ hm
              rw [hmua] at this; cases this
              exact .inr (.inl ⟨rfl, rfl⟩)
            · rename_i e2
              exact .inr (.inr ⟨Ne.symm e2, Ne.symm e1, hget γ blk (Ne.symm e2) (Ne.symm e1) hg, hbw γ (Ne.symm e1) _ hm⟩)
        intro γ γ' k k' bb bb' oo oo' g1 g2 m1 m2 e
        subst e
        rcases cls γ k bb oo g1 m1 with ⟨rfl, f1, n1⟩ | ⟨rfl, n1⟩ | ⟨d1, d2, f1, n1⟩ <;> rcases cls γ' k' bb oo' g2 m2 with ⟨rfl, f2, n2⟩ | ⟨rfl, n2⟩ | ⟨d3, d4, f2, n2⟩
        · rfl
        · exact absurd n2 n1
        · exact absurd n2 (f1 γ' k' oo' f2)
        · exact absurd n1 n2
        · rfl
        · subst n1; exact absurd n2 (hA5 γ' k' oo' f2)
        · exact absurd n1 (f2 γ k oo f1)
        · subst n2; exact absurd n1 (hA5 γ k oo f1)
        · exact hK.inj γ γ' k k' bb bb oo oo' f1 f2 n1 n2 rfl
      inv := hK.inv }
  cases sl' with
  | none =>
    refine ⟨μ, key μ rfl (fun _ _ _ h => h) (fun _ _ _ h => h) ?_ (fun s h => by simp at h)⟩
    obtain ⟨cells, el, fz, vs, h1, h2, h3, h4⟩ := hA4.ex
    refine ⟨cells, el, fz, vs, h1, h2, ?_, h4⟩
    simp only [obS, BodyRel, ARels, ARel] at h3 ⊢
    obtain ⟨c, r, h5, h6, h7⟩ := h3
    exact ⟨c, r, h5, h6, ARels.of_r.2 (ARels.of_r.1 h7)⟩
  | some s =>
    obtain ⟨hβ, hi3⟩ := hi2 s rfl
    obtain ⟨bB, oB, hB1, hB2, hB3, hB4, hB5⟩ := hlive β _ hi3
    have hne : bB ≠ bA := by
      intro e
      subst e
      exact hβ (H'.inj β 0 _ _ bB bB oB oA hi3 hi1 hB1 hA1 rfl)
    have hset : ∀ γ, γ ≠ b → (μ.set b (bB, oB))[γ]? = μ[γ]? := fun γ hγ => List.getElem?_set_ne (Ne.symm hγ)
    have hsb : (μ.set b (bB, oB))[b]? = some (bB, oB) := by simp [hblt]
    refine ⟨μ.set b (bB, oB), key _ (by simp) (fun γ hγ p hp => by rw [hset γ hγ]; exact hp) (fun γ hγ p hp => by rw [hset γ hγ] at hp; exact hp) ?_ ?_⟩
    · obtain ⟨cells, el, fz, vs, h1, h2, h3, h4⟩ := hA4.ex
      refine ⟨cells, el, fz, vs, h1, h2, ?_, h4⟩
      simp only [obS, BodyRel, ARels, ARel] at h3 ⊢
      obtain ⟨c, r, h5, ⟨b1, o1, cap, cells1, e1, fz1, h6, h7⟩, h8⟩ := h3
      rw [hB1] at h6; cases h6
      exact ⟨c, r, h5, ⟨bB, oB, cap, cells1, e1, fz1, hsb, h7⟩, ARels.of_r.2 (ARels.of_r.1 h8)⟩
    · rintro s' hs'
      cases hs'
      refine ⟨bB, oB, hsb, hB2, hB3, ?_, hB5, hne⟩
      obtain ⟨cells, el, fz, vs, h1, h2, h3, h4⟩ := hB4.ex
      exact ⟨cells, el, fz, vs, h1, h2, h3, h4⟩
def obOk (l a b n : Nat) : Bool := !Nat.beq a b && Nat.blt a n && Nat.blt b n && Nat.ble l b
theorem obOk_sound {l a b n : Nat} (h : obOk l a b n = true) : a ≠ b ∧ a < n ∧ b < n ∧ l ≤ b := by
  simp only [obOk, Bool.and_eq_true, Bool.not_eq_true'] at h
  obtain ⟨⟨⟨h1, h2⟩, h3⟩, h4⟩ := h
  exact ⟨fun e => by subst e; simp at h1, Nat.le_of_ble_eq_true h2, Nat.le_of_ble_eq_true h3, Nat.le_of_ble_eq_true h4⟩
theorem ar_ob {t : Bool} {n a b : Nat} {as : List AVal} {sl : Option (List UInt8)} {tl : List RVal} {Q : AVal → Option (List UInt8) → List RVal → Prop} (hs : Spec P n (.ptr 0 0 :: as) (obP sl tl) (fun v h' => ∃ sl' tl', Q v sl' tl' ∧ ObIs sl' tl' h'))
    (hca : callA g o = some (n, .ptr a 0 :: as)) (hb : AVal.nbs 0 as = true) (hok : obOk m.len a b h.nxt = true) (hgn : Regs.nob b h.nxt g = true) (htn : tabNob a b h.nxt h.tab = true) (hg : guardB ops g o = some t) (ht : t = true) (hN : ∀ d, o.dst = some d → Nat.blt d N = true)
    (hk : ∀ v sl' tl', Q v sl' tl' → AVal.nb 0 v = true ∧ AReg P f N m ops rest k (match o.dst with | some d => (d, v) :: g | none => g) (obAt sl' tl' a b h) Post) : AReg P f N m ops (o :: rest) k g (obAt sl tl a b h) Post := by
  subst ht
  obtain ⟨hab, ha, hbn, hml⟩ := obOk_sound hok
  intro idx hi X R μ a' w fb cs e1 e2 e3 e4 e5 e6 e7
  cases idx with
  | nil => simp at hi
  | cons i idx =>
    simp only [List.map_cons, List.cons.injEq] at hi
    obtain ⟨ho, hi⟩ := hi
    have hw := guardB_wanted hg e6
    obtain ⟨cargs, h1, h2⟩ := callA_run e6 hca hs.can
    have hh := handed_ob (sl := sl) (tl := tl) (h := h) hab ha hbn
    have hH := handed_rel e7 hh
    have hren : AVal.rens (fun j => (obI sl a b).getD j 0) (.ptr 0 0 :: as) = .ptr a 0 :: as := by
      simp only [AVal.rens, AVal.ren, rens_below0 _ hb]
      cases sl <;> rfl
    have hnbs : AVal.nbs (obP sl tl).nxt (.ptr 0 0 :: as) = true := by
      simp only [AVal.nbs, AVal.nb, Bool.and_eq_true]
      exact ⟨by cases sl <;> rfl, nbs_up as hb⟩
    have ha2 := ARels.unren (μ := muOf μ (obI sl a b)) (fun β hβ => muOf_get e7.len hh hβ) _ cargs hnbs (by rw [hren]; exact h2)
    obtain ⟨e, w', fr, ⟨v, rfl, R', μ', av, h', h3, h4, sl', tl', hq, hob⟩, hcomes, hfn, hleave⟩ := hs.run R (muOf μ (obI sl a b)) w cargs hH ha2 (fb.atR a' (.inRegion ops (i :: idx) :: k) :: cs)
    obtain ⟨μn, h5, h6⟩ := ob_after hab ha hbn (by rw [e1.len]; exact hml) hgn htn e6 e7 h4 hob
    obtain ⟨hv0, hk2⟩ := hk av sl' tl' hq
    have hav : ARel R' μn w' av v := by
      have := ARel.ren (μ2 := μn) (ρ := id) (m := 0) (fun β hβ => absurd hβ (Nat.not_lt_zero _)) av v hv0 h3
      rwa [ren_below0 av hv0] at this
    obtain ⟨u, w2, fr2, h9, rest'⟩ := hk2 idx hi X R' μn (a'.put o.dst v) w' fb cs e1 e2 e3 (by rw [put_defers]; exact e4) (by rw [put_size]; exact e5) (by
      cases hd : o.dst with
      | none => exact h5
      | some d => exact h5.put (by rw [e5]; exact Nat.le_of_ble_eq_true (hN d hd)) hav) h6
    have hst := stepGR_op (P := P) (b := fb) (k := k) (cs := cs) (w := w) (rest := idx) ho hw
    have hfin : (fb.atR a' (.inRegion ops (i :: idx) :: k)).finish v = fb.atR (a'.put o.dst v) (.inRegion ops idx :: k) := by
      rw [Frame.finish_atR, ho]; rfl
    have henter : step P (lone (fb.atR a' (.inRegion ops (i :: idx) :: k)) cs w) = .next (lone (Frame.enter P n ⟨cargs⟩ .normal) (fb.atR a' (.inRegion ops (i :: idx) :: k) :: cs) w) :=
      step_lone_go (by rw [hst, semAt_of_enter h1]; simp [stepG.apply, h1, Frame.atR])
    refine ⟨u, w2, fr2, Steps.head henter (Steps.trans hcomes (Steps.head ?_ h9)), rest'⟩
    rw [← hfin]
    exact step_leave_returned hleave
def SubT (h : Hp) : List (Nat × Option Body) → Prop
  | [] => True
  | (i, v) :: l => h.get i = v ∧ SubT h l
theorem subT_look {h : Hp} : ∀ {l : List (Nat × Option Body)}, SubT h l → ∀ {i : Nat} {bd : Body}, Hp.look l i = some bd → h.get i = some bd
  | [], _, i, bd, hg => by simp [Hp.look] at hg
  | (j, v) :: l, hs, i, bd, hg => by
    rw [look_kill] at hg
    split at hg
    · rename_i e
      subst e
      rw [hs.1, hg]
    · exact subT_look hs.2 hg
theorem ent_same (hn : h'.nxt = h.nxt) (hgh : h'.gh = h.gh) (hs : SubT h h'.tab) : Ent m g h g h' := by
  intro X R μ w tmps e1 e2 e3
  refine ⟨R, μ, e2, ?_⟩
  have hg : ∀ β blk, h'.get β = some blk → h.get β = some blk := fun β blk hg => subT_look hs hg
  exact { os := e3.os, tape := e3.tape, output := e3.output, size := e3.size, keep := e3.keep, shape := e3.shape, r0 := e3.r0, rO := e3.rO, rlt := e3.rlt, rc := e3.rc, mu := e3.mu, len := by rw [hn]; exact e3.len,
          live := fun β blk h => e3.live β blk (hg β blk h), inj := fun β β' k k' b b' o o' h1 h2 => e3.inj β β' k k' b b' o o' (hg β k h1) (hg β' k' h2), inv := by rw [hgh]; exact e3.inv }
theorem ent_dead : Ent m g h g ⟨h.nxt + 1, (h.nxt, none) :: h.tab, h.gh⟩ := by
  intro X R μ w tmps e1 e2 e3
  have hap : ∀ (β : Nat) p, μ[β]? = some p → (μ ++ [(0, 0)])[β]? = some p := mu_app
  have hg : ∀ β blk, Hp.get ⟨h.nxt + 1, (h.nxt, none) :: h.tab, h.gh⟩ β = some blk → h.get β = some blk := by
    intro β blk hg
    simp only [Hp.get, look_kill] at hg
    split at hg
    · simp at hg
    · exact hg
  refine ⟨R, μ ++ [(0, 0)], e2.mono (fun _ h => h) (Onward.refl R w) hap, ?_⟩
  have hold : ∀ β blk p, h.get β = some blk → (μ ++ [(0, 0)])[β]? = some p → μ[β]? = some p := by
    intro β blk p h1 h2
    obtain ⟨b, o, h3, _⟩ := e3.live β blk h1
    rw [hap _ _ h3] at h2
    rw [h3]; exact h2
  exact { os := e3.os, tape := e3.tape, output := e3.output, size := e3.size, keep := e3.keep, shape := e3.shape, r0 := e3.r0, rO := e3.rO, rlt := e3.rlt, rc := e3.rc, mu := fun β p hp => hap _ _ (e3.mu β p hp), len := by simp [e3.len],
          live := fun β blk h => by
            obtain ⟨b, o, h1, h2, h3, h4⟩ := e3.live β blk (hg β blk h)
            exact ⟨b, o, hap _ _ h1, h2, h3, h4.mono (fun _ h => h) (Onward.refl R w) hap rfl⟩
          inj := fun β β' k k' b b' o o' h1 h2 m1 m2 => e3.inj β β' k k' b b' o o' (hg β k h1) (hg β' k' h2) (hold β k _ (hg β k h1) m1) (hold β' k' _ (hg β' k' h2) m2), inv := e3.inv }
theorem ent_ob {sl : Option (List UInt8)} {tl : List RVal} (hm : m = .of (obP sl tl).nxt) (hg : Regs.nb 1 g = true) : Ent m g (obP sl tl) g (obAt sl tl 0 2 ⟨3, [], false⟩) := by
  subst hm
  cases sl with
  | none =>
    exact (ent_dead.trans ent_dead).trans (ent_same rfl rfl ⟨rfl, rfl, trivial⟩)
  | some s =>
    intro X R μ w tmps e1 e2 e3
    obtain ⟨b1, o1, hb1, hb2, hb3, hb4⟩ := e3.live 1 (.bytes s) rfl
    obtain ⟨b0, o0, ha1, ha2, ha3, ha4⟩ := e3.live 0 (obS (some s) 1 tl) rfl
    have hl : μ.length = 2 := e3.len
    have hap : ∀ (β : Nat) p, μ[β]? = some p → (μ ++ [(b1, o1)])[β]? = some p := mu_app
    have h2 : (μ ++ [(b1, o1)])[2]? = some (b1, o1) := by rw [← hl]; simp
    refine ⟨R, μ ++ [(b1, o1)], e2.mono (fun _ h => h) (Onward.refl R w) hap, ?_⟩
    exact { os := e3.os, tape := e3.tape, output := e3.output, size := e3.size, keep := e3.keep, shape := e3.shape, r0 := e3.r0, rO := e3.rO, rlt := e3.rlt, rc := e3.rc, mu := fun β p hp => hap _ _ (e3.mu β p hp), len := by simp [hl, obAt],
            live := fun β blk hg => by
              simp only [obAt, Hp.get, look_kill] at hg
              split at hg
              · rename_i e
                subst e
                simp only [obB, Option.some.injEq] at hg
                subst hg
                obtain ⟨cells, el, fz, vs, q1, q2, q3, q4⟩ := hb4.ex
                exact ⟨b1, o1, h2, hb2, hb3, ⟨cells, el, fz, vs, q1, q2, q3, q4⟩⟩
              · split at hg
                · rename_i e
                  subst e
                  cases hg
                  refine ⟨b0, o0, hap _ _ ha1, ha2, ha3, ?_⟩
                  obtain ⟨cells, el, fz, vs, q1, q2, q3, q4⟩ := ha4.ex
                  refine ⟨cells, el, fz, vs, q1, q2, ?_, q4⟩
                  simp only [obS, BodyRel, ARels, ARel] at q3 ⊢
                  obtain ⟨c, r, h5, ⟨b', o', cap, cells1, e1, fz1, h6, h7⟩, h8⟩ := q3
                  rw [hb1] at h6; cases h6
                  exact ⟨c, r, h5, ⟨b1, o1, cap, cells1, e1, fz1, h2, h7⟩, ARels.of_r.2 (ARels.of_r.1 h8)⟩
                · simp [Hp.look] at hg
            inj := fun β β' k k' c c' p p' g1 g2 m1 m2 e => by
              subst e
              have cls : ∀ γ blk bb oo, (obAt (some s) tl 0 2 ⟨3, [], false⟩).get γ = some blk → (μ ++ [(b1, o1)])[γ]? = some (bb, oo) → (γ = 2 ∧ bb = b1) ∨ (γ = 0 ∧ bb = b0) := by
                intro γ blk bb oo hg hm
                simp only [obAt, Hp.get, look_kill] at hg
                split at hg
                · rename_i e
                  subst e
                  rw [h2] at hm; cases hm
                  exact .inl ⟨rfl, rfl⟩
                · split at hg
                  · rename_i e
                    subst e
                    rw [hap _ _ ha1] at hm; cases hm
                    exact .inr ⟨rfl, rfl⟩
                  · simp [Hp.look] at hg
              have hne : b0 ≠ b1 := fun e => absurd (e3.inj 0 1 _ _ b0 b1 o0 o1 rfl rfl ha1 hb1 e) (by decide)
              rcases cls β k c p g1 m1 with ⟨rfl, q1⟩ | ⟨rfl, q1⟩ <;> rcases cls β' k' c p' g2 m2 with ⟨rfl, q2⟩ | ⟨rfl, q2⟩
              · rfl
              · exact absurd (q2.symm.trans q1) hne
              · exact absurd (q1.symm.trans q2) hne
              · rfl
            inv := e3.inv }
theorem ob_is {sl : Option (List UInt8)} {tl : List RVal} {a b : Nat} {h : Hp} (hab : b ≠ 0) (ha : a = 0) : ObIs sl tl (obAt sl tl a b h) := by
  subst ha
  refine ⟨b, ?_, fun s hs => ⟨hab, ?_⟩⟩
  · simp [obAt, Hp.get, look_kill, hab]
  · subst hs; simp [obAt, Hp.get, look_kill, obB]
end
end Go.Proofs.YtccdhgmkjakjkaaGreat
namespace Go.Proofs.YtccdhgmkjakjkaaGreat
open Go
set_option linter.unusedVariables false
def hsL : List Hp → Nat → Hp
  | [], _ => ⟨0, [], false⟩
  | h :: _, 0 => h
  | _ :: l, n + 1 => hsL l n
section
variable {P : Program} {T : TTab} {f N : Nat} {m : Md} {ops : Array Oper} {o : Oper} {rest : List Oper} {k : List Item} {g : Regs} {h h2 h' : Hp} {ld : List Nat} {K ix : Nat} {F : Regs → Prop} {Post : AVal → Hp → Prop}
theorem HRel.sub {X : Ctx} {R : Nat → Prop} {μ : Mu} {w : World} (hn : h'.nxt = h.nxt) (hgh : h'.gh = h.gh) (hs : SubT h h'.tab) (e3 : HRel X R μ h w) : HRel X R μ h' w := by
  have hg : ∀ β blk, h'.get β = some blk → h.get β = some blk := fun β blk hg => subT_look hs hg
  exact { os := e3.os, tape := e3.tape, output := e3.output, size := e3.size, keep := e3.keep, shape := e3.shape, r0 := e3.r0, rO := e3.rO, rlt := e3.rlt, rc := e3.rc, mu := e3.mu, len := by rw [hn]; exact e3.len,
          live := fun β blk h => e3.live β blk (hg β blk h), inj := fun β β' k k' b b' o o' h1 h2 => e3.inj β β' k k' b b' o o' (hg β k h1) (hg β' k' h2), inv := by rw [hgh]; exact e3.inv }
theorem aq_load2 {Hs : Nat → Hp} {j : Nat} (hTO : TOk P T) {d : Nat} {v : AVal} {c : Prop} {t : Bool} (hp : stepLoad T N g (Hs 0) o = some (d, v, c)) (hl : limAt ld ops ix = 2) (hd : o.dst = some d) (hN : Nat.blt d N = true) (hg : guardB ops g o = some t) (ht : t = true) (hc : c)
    (hp1 : ∃ c, stepLoad T N g (Hs 1) o = some (d, v, c) ∧ c) (hp2 : ∃ c, stepLoad T N g (Hs 2) o = some (d, v, c) ∧ c) (hk : QGo P N ld ops Hs K F rest (ix + 1) j ((d, v) :: g)) : QGo P N ld ops Hs K F (o :: rest) ix j g := by
  refine aq_load hTO hd hN (fun i hi => ?_) hg ht hk
  rw [hl] at hi
  rcases i with _ | _ | i
  · exact ⟨c, hp, hc⟩
  · exact hp1
  · have : i = 0 := by omega
    subst this; exact hp2
end
end Go.Proofs.YtccdhgmkjakjkaaGreat
namespace Go.Proofs.YtccdhgmkjakjkaaGreat
open Go
section
variable {P : Program} {T : TTab} {f N : Nat} {m : Md} {ops ops0 : Array Oper} {o : Oper} {rest : List Oper} {k : List Item} {g : Regs} {h h' : Hp} {Post : AVal → Hp → Prop} {x y : Code} {id : Nat}
theorem zB (hk : AReg P f N m ops ops.toList (.code y :: k) g h Post) : AGo P f N m (.code (.seq (.region id ops false) y) :: k) g h Post := ag_seq (ag_reg hk)
theorem zC (hk : AReg P f N m ops ops.toList (.code y :: k) g h Post) : AReg P f N m ops0 [] (.code (.seq (.region id ops false) y) :: k) g h Post := ar_nil (zB hk)
theorem zA (hk : AGo P f N m (.code x :: .code y :: k) g h Post) : AReg P f N m ops0 [] (.code (.seq x y) :: k) g h Post := ar_nil (ag_seq hk)
end
end Go.Proofs.YtccdhgmkjakjkaaGreat
namespace Go.Proofs.YtccdhgmkjakjkaaGreat
open Go
section
variable {m : Md} {g : Regs} {h : Hp}
end
section
variable {P : Program} {T : TTab} {N ix j K : Nat} {ops : Array Oper} {o : Oper} {rest : List Oper} {g : Regs} {ld : List Nat} {Hs : Nat → Hp} {F : Regs → Prop}
theorem aq_pureE (hTO : TOk P T) {d : Nat} {v : AVal} (v' : AVal) {c : Prop} {t : Bool} (hp : stepPure T N g o = some (d, v, c)) (he : v = v') (hg : guardB ops g o = some t) (ht : t = true) (hc : c) (hk : QGo P N ld ops Hs K F rest (ix + 1) j ((d, v') :: g)) : QGo P N ld ops Hs K F (o :: rest) ix j g := by
  subst he; exact aq_pure hTO hp hg ht hc hk
end
section
variable {P : Program} {f N : Nat} {m : Md} {todo k : List Item} {g : Regs} {h : Hp} {Post : AVal → Hp → Prop}
end
theorem obOk_of {sl : Option (List UInt8)} {tl : List RVal} {a b n : Nat} (h : obOk 2 a b n = true) : obOk (Md.of (obP sl tl).nxt).len a b n = true := by
  have h1 : (Md.of (obP sl tl).nxt).len ≤ 2 := by cases sl; exact (by decide : 1 ≤ 2); exact (by decide : 2 ≤ 2)
  obtain ⟨h2, h3, h4, h5⟩ := obOk_sound h
  simp only [obOk, Bool.and_eq_true, Bool.not_eq_true']
  exact ⟨⟨⟨beq_ne h2, Nat.ble_eq_true_of_le h3⟩, Nat.ble_eq_true_of_le h4⟩, Nat.ble_eq_true_of_le (Nat.le_trans h1 h5)⟩
end Go.Proofs.YtccdhgmkjakjkaaGreat
namespace Go.Proofs.YtccdhgmkjakjkaaGreat
open Go
section
variable {P : Program} {T : TTab} {N : Nat} {o : Oper} {g : Regs} {h : Hp}
def buildRoK (T : TTab) (N : Nat) (g : Regs) (o : Oper) : Option RVal :=
  match o.dst, o.op with
  | some d, .buildSlice t len parts =>
    match T.look t with
    | some { k := .slice e, .. } =>
      match T.look e with
      | some te =>
        match fillA (fun i => some (i * te.size, te.size)) ((List.replicate len (te.zero.map AVal.r)).flatten) (parts.toList.map fun p => (p.1, evA g p.2)) with
        | some (x :: cells) =>
          match allU (x :: cells), allR (x :: cells) with
          | none, some xs => bif Nat.blt d N && (Nat.ble (len * te.size) 16777216 && (Nat.beq te.zero.length te.size && (!te.zero.isEmpty && Nat.beq xs.length (len * te.size)))) then some (.ro len xs) else none
          | _, _ => none
        | _ => none
      | none => none
    | _ => none
  | _, _ => none
theorem buildRoK_sound {v : RVal} (hp : buildRoK T N g o = some v) : ∃ c, buildRoA T N g o = some (v, c) ∧ c := by
  unfold buildRoK at hp
  split at hp
  case h_2 => cases hp
  rename_i d t len parts hd hop
  split at hp
  case h_2 => cases hp
  rename_i hT
  split at hp
  case h_2 => cases hp
  rename_i te hE
  split at hp
  case h_2 => cases hp
  rename_i x cells hF
  split at hp
  case h_2 => cases hp
  rename_i xs hU hR
  cases hb : Nat.blt d N with
  | false => rw [hb] at hp; cases hp
  | true =>
  rw [hb, Bool.true_and] at hp
  cases hc : (Nat.ble (len * te.size) 16777216 && (Nat.beq te.zero.length te.size && (!te.zero.isEmpty && Nat.beq xs.length (len * te.size)))) with
  | false => rw [hc] at hp; cases hp
  | true =>
  rw [hc] at hp
  cases hp
  simp only [Bool.and_eq_true, Bool.not_eq_true'] at hc
  obtain ⟨h1, h2, h3, h4⟩ := hc
  have h3' : te.zero ≠ [] := by intro q; rw [q] at h3; cases h3
  refine ⟨((len * te.size ≤ 16777216 ∧ te.zero.length = te.size) ∧ te.zero ≠ []) ∧ True ∧ xs.length = len * te.size, ?_, ?_⟩
  · unfold buildRoA stepNew
    simp only [hd, hop, hb, cond_true, hT, hE, hF, forceL_eq, appN, hU, hR, roAll]
  · exact ⟨⟨⟨Nat.le_of_ble_eq_true h1, Nat.eq_of_beq_eq_true h2⟩, h3'⟩, trivial, Nat.eq_of_beq_eq_true h4⟩
theorem qop_buildRoK (hTO : TOk P T) {v : RVal} (hp : buildRoK T N g o = some v) (hnb : (o.op.operands.toList.all fun x => AVal.nb 0 (evA g x)) = true) : QOp P N h h o g (.r v) := by
  obtain ⟨c, h1, h2⟩ := buildRoK_sound hp
  exact qop_buildRo hTO h1 h2 hnb
end
end Go.Proofs.YtccdhgmkjakjkaaGreat

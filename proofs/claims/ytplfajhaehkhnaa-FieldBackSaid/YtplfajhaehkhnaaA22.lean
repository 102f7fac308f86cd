/-
  ABSTRACT MACHINE, 22: a callee walked in place; helpers.
-/
import Derived.Test.YtplfajhaehkhnaaA21
namespace Go.Proofs.Ytplfajhaehkhnaa
open Go

section
variable {P : Program} {T : TTab} {f N : Nat} {m : Md} {ops : Array Oper} {o : Oper} {rest : List Oper} {k : List Item} {g g' : Regs} {h h' : Hp} {Post : AVal → Hp → Prop} {ld : List Nat} {Hs : Nat → Hp} {K ix j : Nat} {F : Regs → Prop}

def ctxK (X : Ctx) (μ : Mu) (g : Regs) (tmps : Array Value) : Ctx where
  w0 := X.w0
  O := X.O
  R0 := X.R0
  μ0 := μ
  mark := none
  inv := fun gh R w => X.inv gh R w ∧ RegRel R μ w g tmps
  mono := fun _ _ _ _ _ h hR hw ho => ⟨X.mono _ _ _ _ _ h.1 hR hw ho, h.2.mono hR hw (fun _ _ h => h)⟩
  mkd := fun _ h => by cases h

/-- Fewer registers. -/
def KeepR (g : Regs) : Regs → Prop
  | [] => True
  | (t, v) :: r => lookR g t = v ∧ KeepR g r

theorem keepR_look : ∀ {g' : Regs}, KeepR g g' → ∀ t, lookR g' t = .any ∨ lookR g' t = lookR g t
  | [], _, t => .inl rfl
  | (s, v) :: r, hw, t => by
    simp only [KeepR] at hw
    simp only [lookR]
    by_cases e : s = t
    · subst e; simp only [Nat.beq_refl, cond_true]; exact .inr hw.1.symm
    · rw [beq_ne e]; exact keepR_look hw.2 t

theorem ent_keep (hk : KeepR g g') : Ent m g h g' h := by
  intro X R μ w tmps e1 e2 e3
  refine ⟨R, μ, fun t => ?_, e3⟩
  rcases keepR_look hk t with h1 | h1
  · rw [h1]; simp [ARel]
  · rw [h1]; exact e2 t

/-- A callee's walk over the caller's own heap: as a call. -/
theorem inline_calls {n Nn : Nat} {fnI : Func} {cI : Code} {as : List AVal} {PostI : AVal → Hp → Prop} (hfI : P.funcs[n]? = some fnI) (hbI : fnI.body = some cI) (hNI : fnI.ntmps = Nn) (hnI : Nat.ble as.length Nn = true)
    (hgo : AGo P n Nn ⟨h.nxt, false, false, none⟩ [.code cI] (argRegs 0 as) h PostI) {X : Ctx} {R : Nat → Prop} {μ : Mu} {w : World} {g : Regs} {tmps : Array Value} (e6 : RegRel R μ w g tmps) (e7 : HRel X R μ h w) {cargs : List Value} (ha : ARels R μ w as cargs) :
    Calls P n ⟨cargs⟩ w fun e w' => ∃ v, e = .returned v ∧ ∃ R' μ' av h', ARel R' μ' w' av v ∧ RegRel R' μ' w' g tmps ∧ HRel X R' μ' h' w' ∧ PostI av h' := by
  intro cs
  have HK : HRel (ctxK X μ g tmps) R μ h w := e7.recon (X' := ctxK X μ g tmps) rfl rfl rfl (fun _ _ h => h) h.gh ⟨e7.inv, e6⟩
  let b : Frame := { (default : Frame) with fn := n, kind := .normal }
  have hl := ha.length
  have hn' := Nat.le_of_ble_eq_true hnI
  have henter : Frame.enter P n ⟨cargs⟩ .normal = b.atR { tmps := ⟨cargs⟩ ++ Array.replicate (fnI.ntmps - cargs.length) undef, defers := [] } [.code cI] := by
    simp only [Frame.enter, Frame.atR, hfI, hbI, b, Option.map_some, Option.getD_some, Option.bind_some]
    rfl
  obtain ⟨v, w', fr, h1, h2, h3, R', μ', av, h', h4, h5, h6⟩ := hgo (ctxK X μ g tmps) R μ { tmps := ⟨cargs⟩ ++ Array.replicate (fnI.ntmps - cargs.length) undef, defers := [] } w b cs
    ⟨e7.len, fun h => by simp at h, fun h => by simp at h, fun _ _ h => by simp at h⟩ rfl ⟨rfl, rfl⟩ rfl
    (by simp; omega) (fun t => by
      have := argRegs_rel as 0 [] cargs (List.replicate (fnI.ntmps - cargs.length) undef) rfl ha t
      rw [Array.getD_eq_getD_getElem?, ← Array.getElem?_toList]
      simpa using this) HK
  rw [← henter] at h1
  have h3' : fr.leaving P w' (.returned v) := by
    have hr : fr.roundOf = none := h2.2
    unfold Done at h3; rw [hr] at h3; exact h3
  have h5' : HRel (ctxK X μ g tmps) R' μ' h' w' := h5
  exact ⟨.returned v, w', fr, ⟨v, rfl, R', μ', av, h', h4, h5'.inv.2.mono (fun _ h => h) (Onward.refl _ _) h5'.mu, h5'.recon (X' := X) rfl rfl rfl (fun β q hq => h5'.mu β q (e7.mu β q hq)) h'.gh h5'.inv.1, h6⟩, h1, h2.1, h3'⟩

/-- A callee walked in place. -/
theorem ar_inline {t : Bool} {n Nn d : Nat} {fnI : Func} {cI : Code} {as : List AVal} {PostI : AVal → Hp → Prop} (hfI : P.funcs[n]? = some fnI) (hca : callA g o = some (n, as)) (hbI : fnI.body = some cI) (hnm : (fnI.name == "runtime.NumGoroutine") = false) (hNI : fnI.ntmps = Nn) (hnI : Nat.ble as.length Nn = true)
    (hd : o.dst = some d) (hN : Nat.blt d N = true) (hg : guardB ops g o = some t) (ht : t = true)
    (hgo : AGo P n Nn ⟨h.nxt, false, false, none⟩ [.code cI] (argRegs 0 as) h PostI)
    (hk : ∀ v h', PostI v h' → AReg P f N m ops rest k ((d, v) :: g) h' Post) : AReg P f N m ops (o :: rest) k g h Post := by
  subst ht
  intro idx hi X R μ a w b cs e1 e2 e3 e4 e5 e6 e7
  cases idx with
  | nil => simp at hi
  | cons i idx =>
    simp only [List.map_cons, List.cons.injEq] at hi
    obtain ⟨ho, hi⟩ := hi
    have hw := guardB_wanted hg e6
    obtain ⟨cargs, h1, h2⟩ := callA_run e6 hca ⟨fnI, hfI, hnm, by simp [hbI]⟩
    obtain ⟨e, w', fr, ⟨v, rfl, R', μ', av, h', h3, h4, h5, h6⟩, hcomes, hfn, hleave⟩ := inline_calls hfI hbI hNI hnI hgo e6 e7 h2 (b.atR a (.inRegion ops (i :: idx) :: k) :: cs)
    obtain ⟨u, w2, fr2, h9, rest'⟩ := hk av h' h6 idx hi X R' μ' (a.put o.dst v) w' b cs e1 e2 e3 (by rw [put_defers]; exact e4) (by rw [put_size]; exact e5) (by
      rw [hd]; exact h4.put (by rw [e5]; exact Nat.le_of_ble_eq_true hN) h3) h5
    have hst := stepGR_op (P := P) (b := b) (k := k) (cs := cs) (w := w) (rest := idx) ho hw
    have hfin : (b.atR a (.inRegion ops (i :: idx) :: k)).finish v = b.atR (a.put o.dst v) (.inRegion ops idx :: k) := by
      rw [Frame.finish_atR, ho]; rfl
    have henter : step P (lone (b.atR a (.inRegion ops (i :: idx) :: k)) cs w) = .next (lone (Frame.enter P n ⟨cargs⟩ .normal) (b.atR a (.inRegion ops (i :: idx) :: k) :: cs) w) :=
      step_lone_go (by rw [hst, semAt_of_enter h1]; simp [stepG.apply, h1, Frame.atR])
    refine ⟨u, w2, fr2, Steps.head henter (Steps.trans hcomes (Steps.head ?_ h9)), rest'⟩
    rw [← hfin]
    exact step_leave_returned hleave

/-- The same, of an operation of a region that draws. -/
theorem qop_inline {n Nn : Nat} {fnI : Func} {cI : Code} {as : List AVal} {v : AVal} (hfI : P.funcs[n]? = some fnI) (hca : callA g o = some (n, as)) (hbI : fnI.body = some cI) (hnm : (fnI.name == "runtime.NumGoroutine") = false) (hNI : fnI.ntmps = Nn) (hnI : Nat.ble as.length Nn = true)
    (hgo : AGo P n Nn ⟨h.nxt, false, false, none⟩ [.code cI] (argRegs 0 as) h fun u h1 => u = v ∧ h1 = h') : QOp P N h h' o g v := by
  intro g' hag X R μ a w Q e5 e6 e7
  rw [← callA_congr hag] at hca
  obtain ⟨cargs, h1, h2⟩ := callA_run e6 hca ⟨fnI, hfI, hnm, by simp [hbI]⟩
  unfold Oper.wp
  rw [h1]
  refine (inline_calls hfI hbI hNI hnI hgo e6 e7 h2).mono ?_
  rintro e w' ⟨u, rfl, R', μ', av, h1', h3, h4, h5, rfl, rfl⟩
  exact ⟨u, R', μ', rfl, h3, h4, h5⟩

theorem own_ro_bytes {n : FuncId} {as : List AVal} {l : Nat} {s : List UInt8} (hs : Own P n as l 1 (.bytes s)) (hl : l = s.length) : Pur P n as (.r (.bs s)) := by
  refine own_to_ro hs (v := .bs s) (c := 0 + l ≤ s.length ∧ 1 = 1) ?_ ⟨by omega, rfl⟩
  unfold roOf
  simp [cutA_eq, hl]

theorem own_ro_plain {n : FuncId} {as : List AVal} {l z : Nat} {xs : List RVal} (hs : Own P n as l z (.plain xs)) (hl : l * z = xs.length) : Pur P n as (.r (.ro l xs)) := by
  refine own_to_ro hs (v := .ro l xs) (c := True) ?_ trivial
  unfold roOf
  simp [cutA_eq, hl]

end

/-- A list told by a function of the place. -/
def fnL (n : Nat) (f : Nat → RVal) : List RVal := (List.range n).map f
theorem fnL_length (n : Nat) (f : Nat → RVal) : (fnL n f).length = n := by simp [fnL]
theorem fnL_get {n : Nat} {f : Nat → RVal} {i : Nat} (h : i < n) : (fnL n f)[i]? = some (f i) := by simp [fnL, h]
theorem fnL_set {n : Nat} {f g : Nat → RVal} {i : Nat} {v : RVal} (hv : g i = v) (h : ∀ j, j < n → j ≠ i → g j = f j) : (fnL n f).set i v = fnL n g := by
  apply List.ext_getElem?
  intro j
  rw [List.getElem?_set]
  by_cases e : i = j
  · subst e
    by_cases hj : i < n
    · simp [fnL, hj, hv]
    · simp [fnL, hj]
  · rw [if_neg e]
    by_cases hj : j < n
    · simp [fnL, hj, h j hj (Ne.symm e)]
    · simp [fnL, hj]
theorem fnL_congr {n : Nat} {f g : Nat → RVal} (h : ∀ j, j < n → f j = g j) : fnL n f = fnL n g := by
  apply List.map_congr_left
  intro j hj
  exact h j (List.mem_range.1 hj)
/-- What is read at a place of such a list. -/
theorem loadsTo_fnL {ty : Ty} {n : Nat} {f : Nat → RVal} {off : Nat} {v : AVal} (ha : ty.k.agg = false) (h : off < n) (hv : AVal.r (f off) = v) : LoadsTo ty (Body.plain (fnL n f)).cells off v :=
  .inl ⟨ha, by simp [Body.cells, fnL_get h, hv]⟩

theorem eqI {k : IntKind} {a b : Int} (h : a = b) : AVal.r (.int k a) = AVal.r (.int k b) := by rw [h]
theorem eqIr {k : IntKind} {a b : Int} (h : a = b) : RVal.int k a = RVal.int k b := by rw [h]
theorem eqStr {a b : List UInt8} (h : a = b) : AVal.r (.str a) = AVal.r (.str b) := by rw [h]
theorem eqBsv {a b : List UInt8} (h : a = b) : AVal.r (.bs a) = AVal.r (.bs b) := by rw [h]
theorem eqSl {β off n n' z : Nat} (h : n = n') : AVal.sl β off n z = AVal.sl β off n' z := by rw [h]
theorem eqBs {a b : List UInt8} (h : a = b) : some (Body.bytes a) = some (Body.bytes b) := by rw [h]
theorem eqPl {a b : List RVal} (h : a = b) : some (Body.plain a) = some (Body.plain b) := by rw [h]

theorem wu64 (n : Int) : IntKind.u64.wrap n = n % 18446744073709551616 := by simp [IntKind.wrap, IntKind.bits, IntKind.signed]
theorem wu32 (n : Int) : IntKind.u32.wrap n = n % 4294967296 := by simp [IntKind.wrap, IntKind.bits, IntKind.signed]
theorem wu8 (n : Int) : IntKind.u8.wrap n = n % 256 := by simp [IntKind.wrap, IntKind.bits, IntKind.signed]

theorem set_rep {α : Type} (a x : α) (acc : List α) : ∀ k : Nat, (List.replicate (k + 1) a ++ acc).set k x = List.replicate k a ++ x :: acc
  | 0 => rfl
  | k + 1 => by
    have := set_rep a x acc k
    rw [List.replicate_succ, List.cons_append, List.set_cons_succ, this]
    simp [List.replicate_succ]

end Go.Proofs.Ytplfajhaehkhnaa

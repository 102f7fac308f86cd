/-
  ABSTRACT MACHINE, 12: a function's contract; its beginning and its end; calls.
-/
import Derived.Test.YtplfajhaehkhnaaA11
import Derived.RangeFuncRecord
namespace Go.Proofs.Ytplfajhaehkhnaa
open Go

/-- The blocks of a heap's live names. -/
def Owned (h : Hp) (μ : Mu) (b : Nat) : Prop := ∃ β blk o, h.get β = some blk ∧ μ[β]? = some (b, o)

def callCtx (w : World) (h : Hp) (R : Nat → Prop) (μ : Mu) : Ctx := Ctx.plain w (Owned h μ) R μ

structure Callable (P : Program) (f : FuncId) : Prop where
  ex : ∃ fn, P.funcs[f]? = some fn ∧ (fn.name == "runtime.NumGoroutine") = false ∧ fn.body.isNone = false

/-- CALLED WITH THESE ARGUMENTS, OVER THIS HEAP, the function returns, and what it returns, and the heap behind it, are as Post says; nothing else has turned. -/
structure Spec (P : Program) (f : FuncId) (args : List AVal) (h : Hp) (Post : AVal → Hp → Prop) : Prop where
  can : Callable P f
  run : ∀ (R : Nat → Prop) (μ : Mu) (w : World) (cargs : List Value), HRel (callCtx w h R μ) R μ h w → ARels R μ w args cargs →
    Calls P f ⟨cargs⟩ w fun e w' => ∃ v, e = .returned v ∧ ∃ R' μ' av h', ARel R' μ' w' av v ∧ HRel (callCtx w h R μ) R' μ' h' w' ∧ Post av h'

theorem Spec.mono {P : Program} {f : FuncId} {args : List AVal} {h : Hp} {Post Post' : AVal → Hp → Prop} (hs : Spec P f args h Post) (hp : ∀ v h, Post v h → Post' v h) : Spec P f args h Post' :=
  ⟨hs.can, fun R μ w cargs h1 h2 => (hs.run R μ w cargs h1 h2).mono fun _ _ ⟨v, h3, R', μ', av, h', h4, h5, h6⟩ => ⟨v, h3, R', μ', av, h', h4, h5, hp _ _ h6⟩⟩

def argRegs : Nat → List AVal → Regs
  | _, [] => []
  | i, v :: vs => (i, v) :: argRegs (i + 1) vs

theorem argRegs_rel {R : Nat → Prop} {μ : Mu} {w : World} : ∀ (args : List AVal) (i : Nat) (pre cs suf : List Value), pre.length = i → ARels R μ w args cs → ∀ t, ARel R μ w (lookR (argRegs i args) t) (((pre ++ cs ++ suf)[t]?).getD undef)
  | [], i, pre, cs, suf, _, _, t => by simp only [argRegs, lookR]; simp [ARel]
  | v :: vs, i, pre, cs, suf, hi, h, t => by
    simp only [ARels] at h
    obtain ⟨c, r, rfl, h1, h2⟩ := h
    simp only [argRegs, lookR]
    by_cases e : i = t
    · subst e
      simp only [Nat.beq_refl, cond_true]
      rw [← hi]
      simpa using h1
    · rw [beq_ne e]
      simp only [cond_false]
      have := argRegs_rel vs (i + 1) (pre ++ [c]) r suf (by simp [hi]) h2 t
      simpa using this

section
variable {P : Program} {T : TTab} {f N : Nat} {m : Md} {fn : Func} {c : Code} {args : List AVal} {h : Hp} {Post : AVal → Hp → Prop}

theorem mok_call {R : Nat → Prop} {μ : Mu} {w : World} {h : Hp} (hl : μ.length = h.nxt) : MOk P (callCtx w h R μ) (.of h.nxt) := ⟨hl, fun _ => rfl, fun h => (by simp [Md.of] at h), fun l Y h => by simp [Md.of] at h⟩

theorem spec_of_go (hf : P.funcs[f]? = some fn) (hb : fn.body = some c) (hnm : (fn.name == "runtime.NumGoroutine") = false) (hN : fn.ntmps = N) (hn : Nat.ble args.length N = true)
    (hgo : AGo P f N (.of h.nxt) [.code c] (argRegs 0 args) h Post) : Spec P f args h Post := by
  refine ⟨⟨fn, hf, hnm, by simp [hb]⟩, ?_⟩
  intro R μ w cargs hH ha cs
  let b : Frame := { (default : Frame) with fn := f, kind := .normal }
  have hl := ha.length
  have hn' := Nat.le_of_ble_eq_true hn
  have henter : Frame.enter P f ⟨cargs⟩ .normal = b.atR { tmps := ⟨cargs⟩ ++ Array.replicate (fn.ntmps - cargs.length) undef, defers := [] } [.code c] := by
    simp only [Frame.enter, Frame.atR, hf, hb, b, Option.map_some, Option.getD_some, Option.bind_some]
    rfl
  obtain ⟨v, w', fr, h1, h2, h3, R', μ', av, h', h4, h5, h6⟩ := hgo (callCtx w h R μ) R μ { tmps := ⟨cargs⟩ ++ Array.replicate (fn.ntmps - cargs.length) undef, defers := [] } w b cs (mok_call hH.len) rfl ⟨rfl, rfl⟩ rfl
    (by simp; omega) (fun t => by
      have := argRegs_rel args 0 [] cargs (List.replicate (fn.ntmps - cargs.length) undef) rfl ha t
      rw [Array.getD_eq_getD_getElem?, ← Array.getElem?_toList]
      simpa using this) hH
  rw [← henter] at h1
  have h3' : fr.leaving P w' (.returned v) := by
    have hr : fr.roundOf = none := h2.2
    unfold Done at h3; rw [hr] at h3; exact h3
  exact ⟨.returned v, w', fr, ⟨v, rfl, R', μ', av, h', h4, h5, h6⟩, h1, h2.1, h3'⟩

/-- What a result's variable holds. -/
def resV (T : TTab) (g : Regs) (h : Hp) : ResultVar → Option (AVal × Prop)
  | .tmp t => some (lookR g t, True)
  | .cell a t =>
    match T.look t, addrF h (lookR g a) with
    | some ty, some (bd, off) => loadF ty bd off
    | _, _ => none

def resVs (T : TTab) (g : Regs) (h : Hp) : List ResultVar → Option (List AVal × Prop)
  | [] => some ([], True)
  | x :: xs =>
    match resV T g h x, resVs T g h xs with
    | some (v, c), some (vs, cs) => some (v :: vs, c ∧ cs)
    | _, _ => none

def resultsA (T : TTab) (g : Regs) (h : Hp) (l : List ResultVar) : Option (AVal × Prop) :=
  match resVs T g h l with
  | some ([v], c) => some (v, c)
  | some (vs, c) => some (.tuple vs, c)
  | none => none

theorem resVs_sound (hTO : TOk P T) {X : Ctx} {R : Nat → Prop} {μ : Mu} {w : World} {g : Regs} {tmps : Array Value} (H : HRel X R μ h w) (hr : RegRel R μ w g tmps) :
    ∀ (l : List ResultVar) (vs : List AVal) (c : Prop), resVs T g h l = some (vs, c) → c →
      ∃ cs, (l.mapM fun x => (match x with | .tmp t => pure (tmps.getD t undef) | .cell a t => do loadVar t (← asAddr (tmps.getD a undef)) : Sem Value)).run P w = .ok cs w ∧ ARels R μ w vs cs
  | [], vs, c, h1, _ => by
    simp only [resVs, Option.some.injEq] at h1
    obtain ⟨rfl, _⟩ := Prod.mk.inj h1
    exact ⟨[], by simp, by simp [ARels]⟩
  | x :: xs, vs, c, h1, hc => by
    simp only [resVs] at h1
    split at h1
    case h_2 => simp at h1
    rename_i v c1 vs' c2 e1 e2
    simp only [Option.some.injEq] at h1
    obtain ⟨rfl, rfl⟩ := Prod.mk.inj h1
    obtain ⟨cs, h2, h3⟩ := resVs_sound hTO H hr xs vs' c2 e2 hc.2
    have hx : ∃ d, (match x with | .tmp t => pure (tmps.getD t undef) | .cell a t => do loadVar t (← asAddr (tmps.getD a undef)) : Sem Value).run P w = .ok d w ∧ ARel R μ w v d := by
      cases x with
      | tmp t =>
        simp only [resV, Option.some.injEq] at e1
        obtain ⟨rfl, _⟩ := Prod.mk.inj e1
        exact ⟨_, by simp, hr t⟩
      | cell a t =>
        simp only [resV] at e1
        split at e1
        case h_2 => simp at e1
        rename_i ty bd off hT ha
        obtain ⟨b, o, ds, h4, h5, h6⟩ := addrF_sound H ha (hr a)
        obtain ⟨d, h7, h8⟩ := loadVar_sound (b := b) (o := o) hTO hT (bodyRel_cells h5) h6 (loadF_sound e1 hc.1)
        refine ⟨d, ?_, h8⟩
        simp only [Sem.run_bind, h4, asAddr, Sem.run_pure, Result.andThen_ok, h7]
    obtain ⟨d, h4, h5⟩ := hx
    refine ⟨d :: cs, ?_, by simp only [ARels]; exact ⟨d, cs, rfl, h5, h3⟩⟩
    simp only [List.mapM_cons, Sem.run_bind]
    rw [h4]
    simp only [Result.andThen_ok]
    rw [h2]
    simp

theorem results_sound (hTO : TOk P T) {X : Ctx} {R : Nat → Prop} {μ : Mu} {w : World} {g : Regs} {tmps : Array Value} (H : HRel X R μ h w) (hr : RegRel R μ w g tmps) {v : AVal} {q : Prop}
    (hres : resultsA T g h fn.results.toList = some (v, q)) (hq : q) : ∃ d, (results fn tmps).run P w = .ok d w ∧ ARel R μ w v d := by
  unfold resultsA at hres
  have hrun : ∀ cs, (fn.results.toList.mapM fun x => (match x with | .tmp t => pure (tmps.getD t undef) | .cell a t => do loadVar t (← asAddr (tmps.getD a undef)) : Sem Value)).run P w = .ok cs w →
      (results fn tmps).run P w = .ok (if h : cs.toArray.size = 1 then cs.toArray[0] else .tuple cs.toArray) w := by
    intro cs hcs
    unfold results
    rw [Array.mapM_eq_mapM_toList, Sem.run_bind, Sem.run_map]
    refine (congrArg (fun r : Result (List Value) => (r.andThen fun a w' => Result.ok a.toArray w').andThen _) hcs).trans ?_
    simp only [Result.andThen_ok, Sem.run_pure]
  split at hres
  · rename_i u c' e
    simp only [Option.some.injEq] at hres
    obtain ⟨rfl, rfl⟩ := Prod.mk.inj hres
    obtain ⟨cs, h1, h2⟩ := resVs_sound hTO H hr _ _ _ e hq
    simp only [ARels] at h2
    obtain ⟨d, r, rfl, h3, rfl⟩ := h2
    exact ⟨d, by rw [hrun _ h1]; simp, h3⟩
  · rename_i vs c' hne e
    simp only [Option.some.injEq] at hres
    obtain ⟨rfl, rfl⟩ := Prod.mk.inj hres
    obtain ⟨cs, h1, h2⟩ := resVs_sound hTO H hr _ _ _ e hq
    refine ⟨.tuple cs.toArray, ?_, by simp only [ARel]; exact ⟨cs, rfl, h2⟩⟩
    rw [hrun _ h1]
    have hl := h2.length
    have : ¬ cs.toArray.size = 1 := by
      intro h3
      have h4 : vs.length = 1 := by rw [← hl]; simpa using h3
      obtain ⟨x, rfl⟩ := List.length_eq_one_iff.1 h4
      exact hne x rfl
    rw [dif_neg this]
  · simp at hres

/-- A block that holds no cells turns. -/
theorem putObj_keeps {X : Ctx} {R : Nat → Prop} {μ : Mu} {h : Hp} {w : World} (H : HRel X R μ h w) {D : Nat} {o o' : Obj} (hD : w.heap[D]? = some o) (hn : ∀ (c : Array Value) (e : TypeId) (f : Nat × Nat), o ≠ Obj.cells c e f) :
    Onward R w (w.putObj D o') ∧ ∀ X' : Ctx, X'.w0 = X.w0 → X'.O = X.O → X'.R0 = X.R0 → X'.μ0 = X.μ0 → X.w0.heap.size ≤ D → ∀ h' : Hp, h'.nxt = h.nxt → h'.tab = h.tab → X'.inv h'.gh R (w.putObj D o') → HRel X' R μ h' (w.putObj D o') := by
  have hne : ∀ k, k ≠ D → (w.putObj D o').heap[k]? = w.heap[k]? := by
    intro k hk
    show (w.heap.setIfInBounds D _)[k]? = _
    rw [Array.getElem?_setIfInBounds, if_neg (Ne.symm hk)]
  have hcell : ∀ (k : Nat) (c : Array Value) (e : TypeId) (fz : Nat × Nat), w.heap[k]? = some (Obj.cells c e fz) → k ≠ D := by
    rintro k c e fz hk rfl
    rw [hD] at hk; cases hk; exact hn c e fz rfl
  have hnR : ∀ k, R k → k ≠ D := by
    intro k hk
    obtain ⟨c, e, f, h1⟩ := H.rc k hk
    exact hcell k c e f h1
  have hon : Onward R w (w.putObj D o') := ⟨fun k hk => hne k (hnR k hk), fun k c e fz hk => ⟨c, fz, (hne k (hcell k c e fz hk)).trans hk, rfl⟩⟩
  have hsz : (w.putObj D o').heap.size = w.heap.size := by show (w.heap.setIfInBounds D _).size = _; simp
  refine ⟨hon, fun X' x1 x2 x3 x4 hl h' hn1 hn2 hi => ?_⟩
  exact {
    os := by rw [x1]; exact H.os
    tape := by rw [x1]; exact H.tape
    output := by rw [x1]; exact H.output
    size := by rw [x1, hsz]; exact H.size
    keep := fun k hk ho => by
      rw [x1] at hk ⊢
      rw [x2] at ho
      rw [hne k (by omega)]; exact H.keep k hk ho
    shape := fun k c e f hk => by
      rw [x1] at hk
      obtain ⟨c1, f1, h1, h2⟩ := H.shape k c e f hk
      obtain ⟨c2, f2, h3, h4⟩ := hon.shape k c1 e f1 h1
      exact ⟨c2, f2, h3, h4.trans h2⟩
    r0 := fun k hk => H.r0 k (by rwa [x3] at hk)
    rO := fun k hk => by rw [x1, x2, x3]; exact H.rO k hk
    rlt := fun k hk => by rw [hsz]; exact H.rlt k hk
    rc := fun k hk => by
      obtain ⟨c, e, f, h1⟩ := H.rc k hk
      exact ⟨c, e, f, (hne k (hnR k hk)).trans h1⟩
    mu := fun β p hp => H.mu β p (by rwa [x4] at hp)
    len := H.len.trans hn1.symm
    live := fun β blk hg => by
      have hg' : h.get β = some blk := by simpa [Hp.get, hn2] using hg
      obtain ⟨b, o2, h1, h2, h3, h4⟩ := H.live β blk hg'
      obtain ⟨cells, el, fz, vs, h5, _⟩ := h4.ex
      refine ⟨b, o2, h1, h2, by rw [x1, x2]; exact h3, h4.mono (fun _ h => h) hon (fun _ _ h => h) (hne b (hcell b _ _ _ h5))⟩
    inj := fun β β' blk blk' b b' o2 o2' g1 g2 => H.inj β β' blk blk' b b' o2 o2' (by simpa [Hp.get, hn2] using g1) (by simpa [Hp.get, hn2] using g2)
    inv := hi }

/-- The call is over: the deferred calls of a loop over an iterator, if there was one, are none. -/
theorem leave_marks {X : Ctx} {R : Nat → Prop} {μ : Mu} {g : Regs} {a : Act} {w : World} (hTO : TOk P T) (hf : P.funcs[f]? = some fn) {v : AVal} {q : Prop} (hres : resultsA T g h fn.results.toList = some (v, q)) (hq : q)
    (H : HRel X R μ h w) (hr : RegRel R μ w g a.tmps) (fr : Frame) (cs : List Frame) (h1 : fr.fn = f) (h2 : fr.kind = .normal) (h3 : fr.mode = .returning) (h4 : fr.defers = X.defers) (h5 : fr.tmps = a.tmps) (h6 : fr.roundOf = none) :
    ∃ d w' fr', Steps P (lone fr cs w) (lone fr' cs w') ∧ fr'.fn = f ∧ fr'.roundOf = none ∧ fr'.leaving P w' (.returned d) ∧ ARel R μ w' v d ∧ HRel X.fin R μ h w' := by
  unfold Ctx.defers at h4
  unfold Ctx.fin
  cases hm : X.mark with
  | none =>
    rw [hm] at h4
    obtain ⟨d, h7, h8⟩ := results_sound hTO H hr hres hq
    exact ⟨d, w, fr, .refl _ _, h1, h6, ⟨h3, h4, h2, fn, by rw [h1]; exact hf, by rw [h5]; exact h7⟩, h8, H⟩
  | some D =>
    rw [hm] at h4
    obtain ⟨hD, hDl⟩ := X.mkd D hm _ _ _ H.inv
    have hrun := run_takeDeferred (P := P) (w := w) (b := D) hD
    have hst := step_collected (P := P) (fr := fr) (cs := cs) (w := w) (d := { target := .collected D, args := #[] }) (r := D) (ds := []) (by rw [h3]; simp) h4 rfl hrun
    obtain ⟨hon, hH⟩ := putObj_keeps (o' := .deferred none) H hD (by intro c e f h; cases h)
    have H' := hH (Ctx.plain X.w0 X.O X.R0 X.μ0) rfl rfl rfl rfl hDl h rfl rfl trivial
    have hr' := hr.mono (fun _ h => h) hon (fun _ _ h => h)
    obtain ⟨d, h7, h8⟩ := results_sound hTO H' hr' hres hq
    exact ⟨d, _, _, .one hst, h1, h6, ⟨h3, rfl, h2, fn, by rw [show ({ fr with defers := [] ++ [] } : Frame).fn = f from h1]; exact hf, by rw [show ({ fr with defers := [] ++ [] } : Frame).tmps = a.tmps from h5]; exact h7⟩, h8, H'⟩

theorem ag_ret {k : List Item} {g : Regs} (hTO : TOk P T) (hf : P.funcs[f]? = some fn) {v : AVal} {q : Prop} (hres : resultsA T g h fn.results.toList = some (v, q)) (hmr : m.rnd = false) (hq : q) (hp : Post v h) :
    AGo P f N m (.code .ret :: k) g h Post := by
  intro X R μ a w b cs e1 e2 e3 e4 e5 e6 e7
  have hro : b.roundOf = none := by have := e3.2; rw [hmr] at this; simpa using this
  obtain ⟨d, w', fr', h1, h2, h3, h4, h5, h6⟩ := leave_marks hTO hf hres hq e7 e6 { b.atR a (.code .ret :: k) with mode := .returning } cs e2 e3.1 rfl e4 rfl hro
  exact ⟨d, w', fr', .head (stepR_ret hro) h1, ⟨h2, h3.trans hro.symm⟩, by unfold Done; rw [h3]; exact h4, R, μ, v, h, h5, h6, hp⟩

theorem ag_end {g : Regs} (hTO : TOk P T) (hf : P.funcs[f]? = some fn) {v : AVal} {q : Prop} (hres : resultsA T g h fn.results.toList = some (v, q)) (hmr : m.rnd = false) (hq : q) (hp : Post v h) :
    AGo P f N m [] g h Post := by
  intro X R μ a w b cs e1 e2 e3 e4 e5 e6 e7
  have hro : b.roundOf = none := by have := e3.2; rw [hmr] at this; simpa using this
  obtain ⟨d, w', fr', h1, h2, h3, h4, h5, h6⟩ := leave_marks hTO hf hres hq e7 e6 { b.atR a [] with mode := .returning } cs e2 e3.1 rfl e4 rfl hro
  exact ⟨d, w', fr', .head (stepR_end hro) h1, ⟨h2, h3.trans hro.symm⟩, by unfold Done; rw [h3]; exact h4, R, μ, v, h, h5, h6, hp⟩

/-- A round of a loop over an iterator is through. -/
theorem ag_rend {g : Regs} (hmr : m.rnd = true) (hp : Post (.r (.bool true)) h) : AGo P f N m [] g h Post := by
  intro X R μ a w b cs e1 e2 e3 e4 e5 e6 e7
  have hro : b.roundOf.isSome = true := by rw [e3.2, hmr]
  refine ⟨.bool true, w, b.atR a [], .refl _ _, ⟨e2, rfl⟩, ?_, R, μ, _, h, by simp [ARel, RRel], ?_, hp⟩
  · unfold Done
    obtain ⟨l, hl⟩ := Option.isSome_iff_exists.1 hro
    rw [show (b.atR a []).roundOf = some l from hl]
    exact ⟨b, a, e3.1, .inl ⟨rfl, rfl⟩⟩
  · unfold Ctx.fin; rw [e1.rnd hmr]; exact e7

/-- A round that returns. -/
theorem ag_rret {k : List Item} {g : Regs} (hmr : m.rnd = true) (hp : Post (.r (.bool false)) h) : AGo P f N m (.code .ret :: k) g h Post := by
  intro X R μ a w b cs e1 e2 e3 e4 e5 e6 e7
  have hro : b.roundOf.isSome = true := by rw [e3.2, hmr]
  refine ⟨.bool false, w, b.atR a (.code .ret :: k), .refl _ _, ⟨e2, rfl⟩, ?_, R, μ, _, h, by simp [ARel, RRel], ?_, hp⟩
  · unfold Done
    obtain ⟨l, hl⟩ := Option.isSome_iff_exists.1 hro
    rw [show (b.atR a (.code .ret :: k)).roundOf = some l from hl]
    exact ⟨b, a, e3.1, .inr ⟨k, rfl, rfl⟩⟩
  · unfold Ctx.fin; rw [e1.rnd hmr]; exact e7

end
end Go.Proofs.Ytplfajhaehkhnaa

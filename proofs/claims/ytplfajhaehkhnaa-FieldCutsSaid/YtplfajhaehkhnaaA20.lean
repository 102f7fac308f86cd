/-
  ABSTRACT MACHINE, 20: loops over iterators.
-/
import Derived.Test.YtplfajhaehkhnaaA19
import Derived.RangeFuncRecord
namespace Go.Proofs.Ytplfajhaehkhnaa
open Go

mutual
theorem ren_id : ∀ (v : AVal), AVal.ren id v = v
  | .sl _ _ _ _ => rfl
  | .ptr _ _ => rfl
  | .func f cs => by simp only [AVal.ren]; rw [rens_id cs]
  | .agg cs => by simp only [AVal.ren]; rw [rens_id cs]
  | .tuple cs => by simp only [AVal.ren]; rw [rens_id cs]
  | .r _ => rfl
  | .rp _ _ => rfl
  | .bp _ _ => rfl
  | .yld _ => rfl
  | .any => rfl
theorem rens_id : ∀ (v : List AVal), AVal.rens id v = v
  | [] => rfl
  | x :: xs => by simp only [AVal.rens]; rw [ren_id x, rens_id xs]
end

theorem Regs.nb_look {n : Nat} : ∀ {g : Regs} (t : Nat), Regs.nb n g = true → AVal.nb n (lookR g t) = true
  | [], t, _ => rfl
  | (s, v) :: r, t, h => by
    simp only [Regs.nb, Bool.and_eq_true] at h
    simp only [lookR]
    cases Nat.beq s t
    · exact Regs.nb_look t h.2
    · exact h.1

theorem RegRel.down {R : Nat → Prop} {μ μ0 : Mu} {w : World} {g : Regs} {tmps : Array Value} (hm : ∀ (β : Nat) p, μ0[β]? = some p → μ[β]? = some p) (hnb : Regs.nb μ0.length g = true) (h : RegRel R μ w g tmps) : RegRel R μ0 w g tmps := by
  intro t
  refine ARel.unren (μ2 := μ) (ρ := id) (m := μ0.length) (fun β hβ => ?_) _ _ (Regs.nb_look t hnb) (by rw [ren_id]; exact h t)
  have h1 : μ0[β]? = some μ0[β] := by simp [hβ]
  rw [h1]
  exact (hm β _ h1).symm

theorem HRel.recon {X X' : Ctx} {R : Nat → Prop} {μ : Mu} {h : Hp} {w : World} (H : HRel X R μ h w) (x1 : X'.w0 = X.w0) (x2 : X'.O = X.O) (x3 : X'.R0 = X.R0) (x4 : ∀ (β : Nat) p, X'.μ0[β]? = some p → μ[β]? = some p) (gh : Bool) (hi : X'.inv gh R w) :
    HRel X' R μ { h with gh := gh } w where
  os := by rw [x1]; exact H.os
  tape := by rw [x1]; exact H.tape
  output := by rw [x1]; exact H.output
  size := by rw [x1]; exact H.size
  keep := by rw [x1, x2]; exact H.keep
  shape := by rw [x1]; exact H.shape
  r0 := by rw [x3]; exact H.r0
  rO := by rw [x1, x2, x3]; exact H.rO
  rlt := H.rlt
  rc := H.rc
  mu := x4
  len := H.len
  live := by rw [x1, x2]; exact H.live
  inj := H.inj
  inv := hi

section
variable {P : Program} {T : TTab} {f N : Nat} {m : Md} {ops : Array Oper} {o : Oper} {rest : List Oper} {k : List Item} {g : Regs} {h h' : Hp} {Post : AVal → Hp → Prop}

/-- The loop's record between two rounds, or behind a round that has returned. -/
def recOf (f : FuncId) (tmps : Array Value) (ps : Array Tmp) (assign body : Code) (D : Nat) (gh : Bool) : Loop :=
  { state := if gh then .done else .ready, pending := if gh then some .ret else none, fn := f, tmps := tmps, params := ps, assign := assign, body := body, defers := D }

def ctxI (X : Ctx) (μp : Mu) (g : Regs) (tmps : Array Value) (l D : Nat) (rec : Bool → Loop) : Ctx where
  w0 := X.w0
  O := X.O
  R0 := X.R0
  μ0 := μp
  mark := none
  inv := fun gh R w => RegRel R μp w g tmps ∧ w.heap[D]? = some (.deferred (some [])) ∧ w.heap[l]? = some (.loop (rec gh))
  mono := fun _ _ _ _ _ h hR hw ho => ⟨h.1.mono hR hw (fun _ _ h => h), ho _ _ h.2.1 (by intro c e f h; cases h), ho _ _ h.2.2 (by intro c e f h; cases h)⟩
  mkd := fun _ h => by cases h

def ctxR (X : Ctx) (μp : Mu) (g gI : Regs) (tmps tI : Array Value) (l D : Nat) (rec : Loop) : Ctx where
  w0 := X.w0
  O := X.O
  R0 := X.R0
  μ0 := μp
  mark := none
  inv := fun _ R w => (RegRel R μp w g tmps ∧ RegRel R μp w gI tI) ∧ w.heap[D]? = some (.deferred (some [])) ∧ w.heap[l]? = some (.loop { rec with state := .busy })
  mono := fun _ _ _ _ _ h hR hw ho => ⟨⟨h.1.1.mono hR hw (fun _ _ h => h), h.1.2.mono hR hw (fun _ _ h => h)⟩, ho _ _ h.2.1 (by intro c e f h; cases h), ho _ _ h.2.2 (by intro c e f h; cases h)⟩
  mkd := fun _ h => by cases h

def ctxD (X : Ctx) (μp : Mu) (D : Nat) (hD : X.w0.heap.size ≤ D) : Ctx where
  w0 := X.w0
  O := X.O
  R0 := X.R0
  μ0 := μp
  mark := some D
  inv := fun _ _ w => w.heap[D]? = some (.deferred (some []))
  mono := fun _ _ _ _ _ h _ _ ho => ho _ _ h (by intro c e f h; cases h)
  mkd := fun _ h _ _ _ hi => by cases h; exact ⟨hi, hD⟩

/-- The assignment to the loop's left sides. -/
def AsgOk (P : Program) (N : Nat) (assign : Code) (g g1 : Regs) : Prop :=
  ∀ (R : Nat → Prop) (μ : Mu) (w : World) (b : Frame) (a : Act) (k : List Item) (cs : List Frame), a.tmps.size = N → RegRel R μ w g a.tmps →
    ∃ a', a'.defers = a.defers ∧ a'.tmps.size = N ∧ RegRel R μ w g1 a'.tmps ∧ Steps P (lone (b.atR a (.code assign :: k)) cs w) (lone (b.atR a' k) cs w)

theorem put_foldl : ∀ (ps : List Tmp) (as : List AVal) (cs : List Value) (R : Nat → Prop) (μ : Mu) (w : World) (g : Regs) (t : Array Value), t.size = N → ps.all (fun p => Nat.blt p N) = true → ARels R μ w as cs → as.length = ps.length → RegRel R μ w g t →
    ((ps.zip cs).foldl (fun t (p : Tmp × Value) => t.setIfInBounds p.1 p.2) t).size = N ∧ RegRel R μ w ((ps.zip as).foldl (fun g (p : Tmp × AVal) => p :: g) g) ((ps.zip cs).foldl (fun t (p : Tmp × Value) => t.setIfInBounds p.1 p.2) t)
  | [], _, _, R, μ, w, g, t, h1, _, _, _, h4 => by simpa using ⟨h1, h4⟩
  | p :: ps, [], cs, _, _, _, _, _, _, _, _, h, _ => by simp at h
  | p :: ps, a :: as, cs, R, μ, w, g, t, h1, h2, h3, hl, h4 => by
    simp only [ARels] at h3
    obtain ⟨c, r, rfl, h5, h6⟩ := h3
    simp only [List.all_cons, Bool.and_eq_true] at h2
    simp only [List.zip_cons_cons, List.foldl_cons]
    exact put_foldl ps as r R μ w ((p, a) :: g) _ (by simp [h1]) h2.2 h6 (by simpa using hl) (h4.put (by rw [h1]; exact Nat.le_of_ble_eq_true h2.1) h5)

theorem yields_of {X : Ctx} {μp : Mu} {a : Act} {ps : Array Tmp} {assign body : Code} {l D p : Nat} {Y : YRel} {g1 : List AVal → Regs} (hp : μp.length = p) (hX : X.w0.heap.size ≤ l) (hDl : D ≠ l) (hN : a.tmps.size = N) (hps : ps.toList.all (fun p => Nat.blt p N) = true)
    (hY : ∀ args h v h', Y args h v h' → args.length = ps.toList.length ∧ AsgOk P N assign ((ps.toList.zip args).foldl (fun g (p : Tmp × AVal) => p :: g) g) (g1 args))
    (hround : ∀ args h1 v h2, Y args h1 v h2 → AGo P f N ⟨p, true, false, none⟩ [.code body] (g1 args) h1 fun u h' => u = .r (.bool v) ∧ h' = h2) :
    Yields P (ctxI X μp g a.tmps l D (recOf f a.tmps ps assign body D)) l Y := by
  intro args h v h' hy hgh R μ w cargs gI tI hnb hrI H hargs
  obtain ⟨hlen, hasg⟩ := hY args h v h' hy
  have hinv := H.inv
  rw [hgh] at hinv
  obtain ⟨hrg, hD, hl⟩ := hinv
  have hrun := run_yield (P := P) (args := ⟨cargs⟩) hl (by
    have := hargs.length
    show cargs.length = _
    rw [this, hlen]; rfl)
  have hzip : ((recOf f a.tmps ps assign body D false).params.zip ⟨cargs⟩).foldl (fun tmps (t, a) => tmps.setIfInBounds t a) (recOf f a.tmps ps assign body D false).tmps
      = (ps.toList.zip cargs).foldl (fun t (p : Tmp × Value) => t.setIfInBounds p.1 p.2) a.tmps := by
    show (ps.zip (List.toArray cargs)).foldl (fun tmps (p : Tmp × Value) => tmps.setIfInBounds p.1 p.2) a.tmps = _
    rw [← Array.foldl_toList, Array.toList_zip]
  rw [hzip] at hrun
  obtain ⟨hsz, hreg0⟩ := put_foldl (N := N) ps.toList args cargs R μ w g a.tmps hN hps hargs hlen (hrg.mono (fun _ h => h) (Onward.refl R w) H.mu)
  generalize htm : (ps.toList.zip cargs).foldl (fun t (p : Tmp × Value) => t.setIfInBounds p.1 p.2) a.tmps = tm at hrun hsz hreg0
  refine ⟨_, _, _, _, _, hrun, ?_⟩
  let b : Frame := { (default : Frame) with fn := f, kind := .normal, roundOf := some l }
  let rb : Loop := { recOf f a.tmps ps assign body D false with state := .busy }
  obtain ⟨hon1, hH1⟩ := putObj_keeps (o' := .loop rb) H hl (by intro c e f h; cases h)
  have hll : l < w.heap.size := (Array.getElem?_eq_some_iff.1 hl).1
  have H1 := hH1 (ctxR X μp g gI a.tmps tI l D (recOf f a.tmps ps assign body D false)) rfl rfl rfl rfl hX h rfl rfl
    ⟨⟨hrg.mono (fun _ h => h) hon1 (fun _ _ h => h), (hrI.down H.mu hnb).mono (fun _ h => h) hon1 (fun _ _ h => h)⟩, (World.putObj_heap_other hDl).trans hD, World.putObj_heap_same hll⟩
  intro c cs
  have hfr : Frame.round l f tm assign body .normal = b.atR { tmps := tm, defers := [] } [.code assign, .beginRound, .code body] := rfl
  obtain ⟨a1, d1, s1, r1, st1⟩ := hasg R μ w b { tmps := tm, defers := [] } [.beginRound, .code body] (c :: cs) hsz hreg0
  have st2 := stepR_beginRound (P := P) (b := b) (a := a1) (k := [.code body]) (cs := c :: cs) (w := w) (l := l) rfl (run_beginRound hl rfl)
  obtain ⟨v', w2, fr, st3, ⟨hf1, hf2⟩, hdone, R', μ', av, h1', h3, h4, rfl, rfl⟩ := hround args h v h' hy (ctxR X μp g gI a.tmps tI l D (recOf f a.tmps ps assign body D false)) R μ a1 _ b (c :: cs)
    ⟨hp, fun h => by simp at h, fun _ => rfl, fun _ _ h => by simp at h⟩ rfl ⟨rfl, rfl⟩ (by rw [d1]; rfl) s1 (r1.mono (fun _ h => h) hon1 (fun _ _ h => h)) H1
  simp only [ARel, RRel] at h3
  subst h3
  have hro : fr.roundOf = some l := hf2
  unfold Done at hdone
  rw [hro] at hdone
  have h4' : HRel (ctxR X μp g gI a.tmps tI l D (recOf f a.tmps ps assign body D false)) R' μ' h1' w2 := h4
  obtain ⟨⟨hrg2, hrI2⟩, hD2, hl2⟩ := h4'.inv
  have hll2 : l < w2.heap.size := (Array.getElem?_eq_some_iff.1 hl2).1
  have hfin : ∀ (jump : Option Code), jump = (if v then none else some .ret) → ∃ w3, (Instr.endRound l jump).run P w2 = .ok (.bool v) w3 ∧ RegRel R' μ' w3 gI tI ∧ HRel (ctxI X μp g a.tmps l D (recOf f a.tmps ps assign body D)) R' μ' { h1' with gh := !v } w3 := by
    intro jump hj
    have hrun3 := run_endRound (P := P) jump hl2
    have e1 : (if jump.isNone then LoopState.ready else .done) = (if !v then .done else .ready) := by rw [hj]; cases v <;> rfl
    have e2 : jump = (if !v then some .ret else none) := by rw [hj]; cases v <;> rfl
    have e3 : jump.isNone = v := by rw [hj]; cases v <;> rfl
    obtain ⟨hon3, hH3⟩ := putObj_keeps (o' := .loop (recOf f a.tmps ps assign body D (!v))) h4' hl2 (by intro c e f h; cases h)
    refine ⟨w2.putObj l (.loop (recOf f a.tmps ps assign body D (!v))), ?_, ?_, ?_⟩
    · rw [hrun3, e1, e3, e2]; rfl
    · exact hrI2.mono (fun _ h => h) hon3 h4'.mu
    · exact hH3 (ctxI X μp g a.tmps l D (recOf f a.tmps ps assign body D)) rfl rfl rfl rfl hX { h1' with gh := !v } rfl rfl
        ⟨hrg2.mono (fun _ h => h) hon3 (fun _ _ h => h), (World.putObj_heap_other hDl).trans hD2, World.putObj_heap_same hll2⟩
  obtain ⟨b2, a2, hk2, hc⟩ := hdone
  rcases hc with ⟨rfl, hv⟩ | ⟨k3, rfl, hv⟩
  · have hv' : v = true := by simpa using hv
    obtain ⟨w3, h5, h6, h7⟩ := hfin none (by rw [hv']; rfl)
    refine ⟨R', μ', w3, ?_, h6, h7⟩
    exact (show Steps P (lone (b.atR { tmps := tm, defers := [] } [.code assign, .beginRound, .code body]) (c :: cs) w) _ from Steps.trans st1 (.head st2 (Steps.trans st3 (.one (stepR_round_end hro hk2 h5)))))
  · have hv' : v = false := by simpa using hv
    obtain ⟨w3, h5, h6, h7⟩ := hfin (some .ret) (by rw [hv']; rfl)
    refine ⟨R', μ', w3, ?_, h6, h7⟩
    exact (show Steps P (lone (b.atR { tmps := tm, defers := [] } [.code assign, .beginRound, .code body]) (c :: cs) w) _ from Steps.trans st1 (.head st2 (Steps.trans st3 (.one (stepR_round_ret hro hk2 h5)))))

/-- A LOOP OVER AN ITERATOR. -/
theorem ag_range {it NI : Nat} {caps : List AVal} {fnI : Func} {cI : Code} {gop : Operand} {ps : Array Tmp} {assign body : Code} (p : Nat) (Y : YRel) (g1 : List AVal → Regs) (PostI : Hp → Prop)
    (hmp : m.plain = true) (hmr : m.rnd = false) (hlen : Nat.ble m.len p = true) (hph : Nat.ble p h.nxt = true) (hgh : h.gh = false) (hg : evA g gop = .func it caps) (hnbg : Regs.nb p g = true)
    (hfI : P.funcs[it]? = some fnI) (hbI : fnI.body = some cI) (hnm : (fnI.name == "runtime.NumGoroutine") = false) (hNI : fnI.ntmps = NI) (hnI : Nat.ble (caps.length + 1) NI = true)
    (hps : ps.toList.all (fun p => Nat.blt p N) = true)
    (hY : ∀ args h v h', Y args h v h' → args.length = ps.toList.length ∧ AsgOk P N assign ((ps.toList.zip args).foldl (fun g (p : Tmp × AVal) => p :: g) g) (g1 args))
    (hround : ∀ args h1 v h2, Y args h1 v h2 → AGo P f N ⟨p, true, false, none⟩ [.code body] (g1 args) h1 fun u h' => u = .r (.bool v) ∧ h' = h2)
    (hiter : ∀ l, AGo P it NI ⟨p, false, false, some (l, Y)⟩ [.code cI] (argRegs 0 (.yld l :: caps)) h fun _ h' => PostI h')
    (hk : ∀ h', PostI h' → AGo P f N ⟨m.len, false, false, none⟩ ((if h'.gh then [.code .ret] else []) ++ k) g { h' with gh := false } Post) :
    AGo P f N m (.code (.rangeFunc gop ps assign body) :: k) g h Post := by
  intro X R μ a w b cs e1 e2 e3 e4 e5 e6 e7
  have hro : b.roundOf = none := by have := e3.2; rw [hmr] at this; simpa using this
  have hpl := e1.plain hmp
  have hmk : X.mark = none := by rw [hpl]; rfl
  have hdf : a.defers = [] := by rw [e4]; unfold Ctx.defers; rw [hmk]
  have hgv := evA_rel (a := a) e6 gop
  rw [hg] at hgv
  simp only [ARel] at hgv
  obtain ⟨cc, hgv, hcc⟩ := hgv
  -- the record is laid
  let D := w.heap.size
  let l := w.heap.size + 1
  let w1 : World := (w.alloc (.deferred (some []))).alloc (.loop (recOf f a.tmps ps assign body D false))
  have hent := run_enterLoop_outer (P := P) (w := w) b.fn a.tmps ps assign body
  have hg1 := grown_alloc w (.deferred (some []))
  have hg2 := grown_alloc (w.alloc (.deferred (some []))) (.loop (recOf f a.tmps ps assign body D false))
  have Hw1 : HRel X R μ h w1 := (e7.grow hg1 (fun b hb => by simp at hb) (fun b hb => by simp at hb) (fun b hb => by simp at hb)).grow hg2 (fun b hb => by simp at hb) (fun b hb => by simp at hb) (fun b hb => by simp at hb)
  have hon1 : Onward R w w1 := by
    have h1 := e7.onward hg1 (fun b hb => by simp at hb)
    have h2 := (e7.grow hg1 (fun b hb => by simp at hb) (fun b hb => by simp at hb) (fun b hb => by simp at hb)).onward hg2 (fun b hb => by simp at hb)
    exact ⟨fun k hk => (h2.same k hk).trans (h1.same k hk), fun k c e f hk => by
      obtain ⟨c1, f1, h3, h4⟩ := h1.shape k c e f hk
      obtain ⟨c2, f2, h5, h6⟩ := h2.shape k c1 e f1 h3
      exact ⟨c2, f2, h5, h6.trans h4⟩⟩
  have hsz1 : (w.alloc (.deferred (some []))).heap.size = w.heap.size + 1 := by show (w.heap.push _).size = _; simp
  have hl1 : w1.heap[l]? = some (.loop (recOf f a.tmps ps assign body D false)) := by
    have := World.alloc_heap_new (w.alloc (.deferred (some []))) (.loop (recOf f a.tmps ps assign body D false))
    rw [hsz1] at this; exact this
  have hD1 : w1.heap[D]? = some (.deferred (some [])) := by
    have h1 := World.alloc_heap_new w (.deferred (some []))
    rw [← h1]
    exact hg2.block D (by rw [hsz1]; exact Nat.lt_succ_self _) (by simp)
  have hX : X.w0.heap.size ≤ l := by have := e7.size; omega
  have hXD : X.w0.heap.size ≤ D := e7.size
  have hDl : D ≠ l := by omega
  let μp := μ.take p
  have hμl : μ.length = h.nxt := e7.len
  have hph' : p ≤ μ.length := by rw [hμl]; exact Nat.le_of_ble_eq_true hph
  have hμpl : μp.length = p := by simp [μp]; omega
  have hμp : ∀ (β : Nat) q, μp[β]? = some q → μ[β]? = some q := by
    intro β q hq
    rw [List.getElem?_take] at hq
    split at hq
    · exact hq
    · simp at hq
  have hμ0 : ∀ (β : Nat) q, X.μ0[β]? = some q → μp[β]? = some q := by
    intro β q hq
    have h1 := e7.mu β q hq
    have h2 : β < m.len := by rw [← e1.len]; exact (List.getElem?_eq_some_iff.1 hq).1
    have h3 := Nat.le_of_ble_eq_true hlen
    rw [List.getElem?_take, if_pos (by omega)]; exact h1
  have hrp : RegRel R μp w1 g a.tmps := (e6.down hμp (by rw [hμpl]; exact hnbg)).mono (fun _ h => h) hon1 (fun _ _ h => h)
  have HI : HRel (ctxI X μp g a.tmps l D (recOf f a.tmps ps assign body D)) R μ h w1 :=
    Hw1.recon (X' := ctxI X μp g a.tmps l D (recOf f a.tmps ps assign body D)) rfl rfl rfl hμp h.gh (by rw [hgh]; exact ⟨hrp, hD1, hl1⟩)
  have hyl := yields_of (P := P) (f := f) (N := N) (X := X) (μp := μp) (a := a) (l := l) (D := D) hμpl hX hDl e5 hps hY hround
  -- the iterator is called
  have hpr : (program).run P w1 = .ok P w1 := rfl
  have hcl : Callable P it := ⟨fnI, hfI, hnm, by simp [hbI]⟩
  have hres : (resolve a.eval (rangeCall gop l) 0).run P w1 = .ok { target := .fn (.func it) ⟨cc⟩, args := #[.func (.yield l) #[] #[]] } w1 := by
    simp only [resolve, hgv, Deferred.ofValue, Sem.run_pure]
    congr 2; simp [Act.eval]
  have hinv2 : (invoke (.fn (.func it) ⟨cc⟩) #[.func (.yield l) #[] #[]]).run P w1 = .ok (.enter it ⟨.func (.yield l) #[] #[] :: cc⟩) w1 := by
    simp only [invoke, callFunc, Sem.run_bind, hpr, Result.andThen_ok, hfI, hnm, Bool.false_eq_true, if_false]
    rw [show fnI.body.isNone = false by simp [hbI]]
    simp
  have hent' : (Instr.enterLoop b.fn a.tmps ps assign body b.roundOf).run P w = .ok (l, [{ target := .collected D, args := #[] }]) w1 := by
    rw [hro, hent, e2]; rfl
  have st1 := stepR_rangeFunc (P := P) (b := b) (a := a) (k := k) (cs := cs) (w := w) (g := gop) hent' hres hinv2
  have hargsI : ARels R μ w1 (.yld l :: caps) (.func (.yield l) #[] #[] :: cc) := by
    simp only [ARels]
    exact ⟨_, _, rfl, by simp only [ARel], hcc.mono (fun _ h => h) hon1 (fun _ _ h => h)⟩
  let bI : Frame := { (default : Frame) with fn := it, kind := .normal }
  let aI : Act := { tmps := ⟨.func (.yield l) #[] #[] :: cc⟩ ++ Array.replicate (fnI.ntmps - (cc.length + 1)) undef, defers := [] }
  have hentI : Frame.enter P it ⟨.func (.yield l) #[] #[] :: cc⟩ .normal = bI.atR aI [.code cI] := by
    simp only [Frame.enter, Frame.atR, hfI, hbI, bI, aI, Option.map_some, Option.getD_some, Option.bind_some]
    rfl
  have hccl := hcc.length
  obtain ⟨v, w3, fr, st2, ⟨hf1, hf2⟩, hdone, R', μ', av, h', _, h4, hpost⟩ := hiter l (ctxI X μp g a.tmps l D (recOf f a.tmps ps assign body D)) R μ aI w1 bI (b.atR { a with defers := [{ target := .collected D, args := #[] }] ++ a.defers } (.inRangeFunc l :: k) :: cs)
    ⟨hμpl, fun h => by simp at h, fun h => by simp at h, fun l' Y' h => by cases h; exact hyl⟩ rfl ⟨rfl, rfl⟩ rfl (by
      have := Nat.le_of_ble_eq_true hnI
      simp [aI]; omega) (fun t => by
      have := argRegs_rel (.yld l :: caps) 0 [] (.func (.yield l) #[] #[] :: cc) (List.replicate (fnI.ntmps - (cc.length + 1)) undef) rfl hargsI t
      rw [Array.getD_eq_getD_getElem?, ← Array.getElem?_toList]
      simpa [aI] using this) HI
  have hleave : fr.leaving P w3 (.returned v) := by
    have : fr.roundOf = none := hf2
    unfold Done at hdone; rw [this] at hdone; exact hdone
  have h4' : HRel (ctxI X μp g a.tmps l D (recOf f a.tmps ps assign body D)) R' μ' h' w3 := h4
  obtain ⟨hrg3, hD3, hl3⟩ := h4'.inv
  have hll3 : l < w3.heap.size := (Array.getElem?_eq_some_iff.1 hl3).1
  have hend := run_endLoop (P := P) hl3 (by cases h'.gh <;> simp [recOf])
  obtain ⟨hon4, hH4⟩ := putObj_keeps (o' := .loop { recOf f a.tmps ps assign body D h'.gh with state := .exhausted }) h4' hl3 (by intro c e f h; cases h)
  generalize hw4 : w3.putObj l (.loop { recOf f a.tmps ps assign body D h'.gh with state := .exhausted }) = w4 at hend hon4 hH4
  have hD4 : w4.heap[D]? = some (.deferred (some [])) := by rw [← hw4]; exact (World.putObj_heap_other hDl).trans hD3
  have H4 := hH4 (ctxD X μp D hXD) rfl rfl rfl rfl hX h' rfl rfl hD4
  have H5 : HRel (ctxD X X.μ0 D hXD) R' μ' { h' with gh := false } w4 := H4.recon (X' := ctxD X X.μ0 D hXD) rfl rfl rfl (fun β q hq => h4'.mu β q (hμ0 β q hq)) false hD4
  obtain ⟨u, w5, fr5, st5, hf5, hd5, R5, μ5, av5, h5, h6, h7, h8⟩ := hk h' hpost (ctxD X X.μ0 D hXD) R' μ' { a with defers := [{ target := .collected D, args := #[] }] ++ a.defers } w4 b cs
    ⟨e1.len, fun h => by simp at h, fun h => by simp at h, fun _ _ h => by simp at h⟩ e2 ⟨e3.1, by rw [hro]; rfl⟩ (by rw [hdf]; rfl) e5 (hrg3.mono (fun _ h => h) hon4 h4'.mu) H5
  refine ⟨u, w5, fr5, .head st1 ?_, hf5, hd5, R5, μ5, av5, h5, h6, ?_, h8⟩
  · rw [hentI]
    refine Steps.trans st2 (.head (step_leave_returned hleave) ?_)
    rw [finish_atR_inRangeFunc]
    refine .head (stepR_endRangeFunc hend) ?_
    have : ((recOf f a.tmps ps assign body D h'.gh).pending.map Item.code).toList = if h'.gh then [.code .ret] else [] := by cases h'.gh <;> rfl
    rw [this]
    exact st5
  · have : X.fin = Ctx.plain X.w0 X.O X.R0 X.μ0 := by unfold Ctx.fin; rw [hmk]; exact hpl
    rw [this]
    exact h7

/-- The loop whose 'yield' is called, and with what. -/
def yldA (g : Regs) (o : Oper) : Option (Nat × List AVal) :=
  match o.op with
  | .call c =>
    match c.callee with
    | .value x =>
      match evA g x with
      | .yld l => some (l, c.args.toList.map (evA g))
      | _ => none
    | _ => none
  | _ => none

/-- An iterator calls 'yield'. -/
theorem ar_yld {t v : Bool} {l d : Nat} {Y : YRel} {as : List AVal} (hY : Y as h v h') (hy : m.yl = some (l, Y)) (hca : yldA g o = some (l, as)) (hgh : h.gh = false) (hnb : Regs.nb m.len g = true) (hd : o.dst = some d) (hN : Nat.blt d N = true)
    (hg : guardB ops g o = some t) (ht : t = true) (hk : AReg P f N m ops rest k ((d, .r (.bool v)) :: g) { h' with gh := !v } Post) : AReg P f N m ops (o :: rest) k g h Post := by
  subst ht
  intro idx hi X R μ a w b cs e1 e2 e3 e4 e5 e6 e7
  cases idx with
  | nil => simp at hi
  | cons i idx =>
    simp only [List.map_cons, List.cons.injEq] at hi
    obtain ⟨ho, hi⟩ := hi
    have hw := guardB_wanted hg e6
    unfold yldA at hca
    split at hca
    case h_2 => simp at hca
    rename_i c hop
    split at hca
    case h_2 => simp at hca
    rename_i x hcal
    split at hca
    case h_2 => simp at hca
    rename_i l' hx
    simp only [Option.some.injEq, Prod.mk.injEq] at hca
    obtain ⟨rfl, rfl⟩ := hca
    have hxr := evA_rel (a := a) e6 x
    rw [hx] at hxr
    simp only [ARel] at hxr
    have hargs : ARels R μ w (c.args.toList.map (evA g)) (c.args.map a.eval).toList := by
      rw [Array.toList_map]
      exact ARels.map (fun x => evA_rel (a := a) e6 x) _
    obtain ⟨l2, f2, tm, as2, bo, hrun, hst⟩ := e1.yl _ _ hy _ _ _ _ hY hgh R μ w _ g a.tmps (by rw [e1.len]; exact hnb) e6 e7 hargs
    obtain ⟨R', μ', w', hsteps, hr, H⟩ := hst (b.atR a (.inRegion ops (i :: idx) :: k)) cs
    have hex : (execOp a.eval o).run P w = .ok (.round l2 f2 tm as2 bo) w := by
      simp only [execOp, hop, resolve, hcal, hxr, Deferred.ofValue, Sem.run_bind, Sem.run_pure, Result.andThen_ok, invoke]
      have e : (⟨(c.args.map a.eval).toList⟩ : Array Value) = c.args.map a.eval := rfl
      rw [e] at hrun
      rw [Array.empty_append]
      exact hrun
    have hsem : o.semAt b.roundOf a.eval = execOp a.eval o := Oper.semAt_eq _ _ o fun c hc => by rw [hop] at hc; cases hc
    have hst := stepGR_op (P := P) (b := b) (k := k) (cs := cs) (w := w) (rest := idx) ho hw
    have hfin : (b.atR a (.inRegion ops (i :: idx) :: k)).finish (.bool v) = b.atR (a.put o.dst (.bool v)) (.inRegion ops idx :: k) := by
      rw [Frame.finish_atR, ho]; rfl
    have henter : step P (lone (b.atR a (.inRegion ops (i :: idx) :: k)) cs w) = .next (lone (Frame.round l2 f2 tm as2 bo .normal) (b.atR a (.inRegion ops (i :: idx) :: k) :: cs) w) :=
      step_lone_go (by rw [hst, hsem]; simp [stepG.apply, hex, Frame.atR])
    obtain ⟨u, w2, fr2, h9, rest'⟩ := hk idx hi X R' μ' (a.put o.dst (.bool v)) w' b cs e1 e2 e3 (by rw [put_defers]; exact e4) (by rw [put_size]; exact e5) (by
      rw [hd]
      exact hr.put (by rw [e5]; exact Nat.le_of_ble_eq_true hN) (by simp only [ARel, RRel])) H
    rw [hfin] at hsteps
    exact ⟨u, w2, fr2, Steps.head henter (Steps.trans hsteps h9), rest'⟩

/-- The assignment is one region of operations without memory. -/
def asgA (T : TTab) (N : Nat) : List Oper → Regs → Option (Regs × Prop)
  | [], g => some (g, True)
  | o :: rest, g =>
    match o.guard, stepPure T N g o with
    | none, some (d, v, c) => match asgA T N rest ((d, v) :: g) with | some (g', c') => some (g', c ∧ c') | none => none
    | _, _ => none

theorem asg_ops (hTO : TOk P T) {ops : Array Oper} : ∀ (l : List Oper) (idx : List Nat) (g g1 : Regs) (q : Prop), idx.map (fun i => ops[i]?) = l.map some → asgA T N l g = some (g1, q) → q → ∀ (R : Nat → Prop) (μ : Mu) (w : World) (b : Frame) (a : Act) (k : List Item) (cs : List Frame), a.tmps.size = N → RegRel R μ w g a.tmps →
    ∃ a', a'.defers = a.defers ∧ a'.tmps.size = N ∧ RegRel R μ w g1 a'.tmps ∧ Steps P (lone (b.atR a (.inRegion ops idx :: k)) cs w) (lone (b.atR a' k) cs w)
  | [], idx, g, g1, q, hi, ha, hq, R, μ, w, b, a, k, cs, h1, h2 => by
    simp only [List.map_nil, List.map_eq_nil_iff] at hi
    subst hi
    simp only [asgA, Option.some.injEq, Prod.mk.injEq] at ha
    obtain ⟨rfl, _⟩ := ha
    exact ⟨a, rfl, h1, h2, .one stepR_region_end⟩
  | o :: rest, [], g, g1, q, hi, _, _, _, _, _, _, _, _, _, _, _ => by simp at hi
  | o :: rest, i :: idx, g, g1, q, hi, ha, hq, R, μ, w, b, a, k, cs, h1, h2 => by
    simp only [List.map_cons, List.cons.injEq] at hi
    obtain ⟨ho, hi⟩ := hi
    simp only [asgA] at ha
    split at ha
    case h_2 => simp at ha
    rename_i d v c hgd hp
    split at ha
    case h_2 => simp at ha
    rename_i g' c' hr
    simp only [Option.some.injEq, Prod.mk.injEq] at ha
    obtain ⟨rfl, rfl⟩ := ha
    have hw : Region.wanted o (yielded ops a.tmps) = true := by simp [Region.wanted, hgd]
    rw [stepPure_eq] at hp
    split at hp
    case h_2 => simp at hp
    rename_i d' hd
    cases hb : Nat.blt d' N <;> rw [hb] at hp <;> simp only [cond_true, cond_false, reduceCtorEq] at hp
    split at hp
    case h_2 => simp at hp
    rename_i v' c2 hv
    simp only [Option.some.injEq, Prod.mk.injEq] at hp
    obtain ⟨rfl, rfl, rfl⟩ := hp
    obtain ⟨u, h3, h4⟩ := pureOp_sound (P := P) (w := w) hTO (evA_rel (a := a) h2) o hv hq.1
    have hst := stepGR_op (P := P) (b := b) (k := k) (cs := cs) (w := w) (rest := idx) ho hw
    rw [semAt_of_value (.inl ⟨_, h3⟩)] at hst
    have hfin : (b.atR a (.inRegion ops (i :: idx) :: k)).finish u = b.atR (a.put o.dst u) (.inRegion ops idx :: k) := by
      rw [Frame.finish_atR, ho]; rfl
    obtain ⟨a', h5, h6, h7, h8⟩ := asg_ops hTO rest idx ((d', v') :: g) g' c' hi hr hq.2 R μ w b (a.put o.dst u) k cs (by rw [put_size]; exact h1) (by
      rw [hd]; exact h2.put (by rw [h1]; exact Nat.le_of_ble_eq_true hb) h4)
    exact ⟨a', by rw [h5, put_defers], h6, h7, .head (step_lone_go (by rw [hst, ← hfin]; simp [stepG.apply, h3])) h8⟩

theorem asgOk_region (hTO : TOk P T) {id : Nat} {ops : Array Oper} {g g1 : Regs} {q : Prop} (ha : asgA T N ops.toList g = some (g1, q)) (hq : q) : AsgOk P N (.region id ops false) g g1 := by
  intro R μ w b a k cs h1 h2
  obtain ⟨a', h3, h4, h5, h6⟩ := asg_ops hTO (ops := ops) ops.toList (List.range ops.size) g g1 q (by
    apply List.ext_getElem?
    intro i
    simp only [List.getElem?_map]
    by_cases hi : i < ops.size
    · simp [hi]
    · simp [hi]) ha hq R μ w b a k cs h1 h2
  exact ⟨a', h3, h4, h5, .head stepR_region h6⟩

theorem asgOk_seq {c1 c2 : Code} {g g1 g2 : Regs} (h1 : AsgOk P N c1 g g1) (h2 : AsgOk P N c2 g1 g2) : AsgOk P N (.seq c1 c2) g g2 := by
  intro R μ w b a k cs e1 e2
  obtain ⟨a1, h3, h4, h5, h6⟩ := h1 R μ w b a (.code c2 :: k) cs e1 e2
  obtain ⟨a2, h7, h8, h9, h10⟩ := h2 R μ w b a1 k cs h4 h5
  exact ⟨a2, h7.trans h3, h8, h9, .head stepR_seq (Steps.trans h6 h10)⟩

end
end Go.Proofs.Ytplfajhaehkhnaa

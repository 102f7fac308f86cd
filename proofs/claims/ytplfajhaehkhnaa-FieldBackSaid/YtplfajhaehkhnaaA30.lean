/-
  ABSTRACT MACHINE, 30: calls that only read an object; slices compared with nil; '[]byte' of a constant.
-/
import Derived.Test.YtplfajhaehkhnaaA29
import Derived.Lib.SlBytesConst
namespace Go.Proofs.Ytplfajhaehkhnaa
open Go
set_option linter.unusedVariables false

section
variable {X : Ctx} {R : Nat → Prop} {μ : Mu} {h hp : Hp} {w : World} {ι : List Nat}

theorem get_kills_of {h : Hp} : ∀ {l : List Nat} {β : Nat} {blk : ABlk}, β ∉ l → h.get β = some blk → (h.kills l).get β = some blk
  | [], β, blk, _, hg => by simpa [Hp.kills, Hp.get] using hg
  | x :: l, β, blk, hn, hg => by
    simp only [List.mem_cons, not_or] at hn
    simp only [Hp.kills, Hp.get, List.map_cons, List.cons_append, look_kill]
    rw [if_neg (fun e => hn.1 e.symm)]
    exact get_kills_of (h := h) hn.2 hg

/-- Behind a call that has left what it was handed as it was. -/
theorem HRel.after_ro (H : HRel X R μ h w) (hh : Handed h hp ι) (hc : ((List.range hp.nxt).all fun i => (hp.get i).isSome) = true) {R' : Nat → Prop} {μ' : Mu} {w' : World} (H' : HRel (callCtx w hp R (muOf μ ι)) R' μ' hp w') : HRel X R' μ h w' := by
  obtain ⟨hon, hRR, hK, hlive⟩ := after_call H hh H'
  exact {
    os := hK.os
    tape := hK.tape
    output := hK.output
    size := hK.size
    keep := hK.keep
    shape := hK.shape
    r0 := hK.r0
    rO := hK.rO
    rlt := hK.rlt
    rc := hK.rc
    mu := H.mu
    len := H.len
    live := by
      intro γ blk hg
      by_cases hm : γ ∈ ι
      · obtain ⟨i, hi, hγ⟩ := List.getElem_of_mem hm
        have hin : i < hp.nxt := by rw [← hh.len]; exact hi
        have hs := List.all_eq_true.1 hc i (List.mem_range.2 hin)
        obtain ⟨b0, hb0⟩ := Option.isSome_iff_exists.1 hs
        obtain ⟨_, hnb, h3⟩ := hh.blk i b0 hb0
        have hget : ι.getD i 0 = γ := by simp [List.getD, hi, hγ]
        rw [hget, hg] at h3
        cases h3
        obtain ⟨b, o, h4, h5, h6, h7, h8⟩ := hlive i b0 hb0
        have hmm : ∀ β, β < hp.nxt → ∀ p, μ'[β]? = some p → μ[ι.getD β 0]? = some p := by
          intro β hβ p hp'
          rw [← muOf_get H.len hh hβ]
          have hβ' : β < ι.length := by rw [hh.len]; exact hβ
          have h9 : (muOf μ ι)[β]? = some (μ.getD ι[β] (0, 0)) := by simp [muOf, hβ']
          have h10 := H'.mu β _ h9
          rw [hp'] at h10
          rw [h9, h10]
        refine ⟨b, o, by rw [← hget]; exact hmm i hin _ h4, h5, h6, ?_⟩
        obtain ⟨cells, el, fz, vs, h11, h12, h13, h14, h15⟩ := h7.ex
        exact ⟨cells, el, fz, vs, h11, h12, h13.ren (m := hp.nxt) (fun β hβ p hp' => hmm β hβ p hp') hnb, h14, h15⟩
      · exact hK.live γ blk (get_kills_of hm hg)
    inj := H.inj
    inv := hK.inv }
end

section
variable {P : Program} {T : TTab} {f N : Nat} {m : Md} {ops : Array Oper} {o : Oper} {rest : List Oper} {k : List Item} {g g' : Regs} {h h' : Hp} {Post : AVal → Hp → Prop}

/-- A call that only reads what it is handed. -/
theorem qop_objR {n : Nat} {as : List AVal} {hp : Hp} {v0 : AVal} {Q : AVal → Hp → Prop} (ι : List Nat) (hs : Spec P n as hp Q) (hQ : ∀ v h', Q v h' → v = v0 ∧ h' = hp) (hca : callA g o = some (n, AVal.rens (fun j => ι.getD j 0) as)) (hb : AVal.nbs hp.nxt as = true)
    (hh : Handed h hp ι) (hc : ((List.range hp.nxt).all fun i => (hp.get i).isSome) = true) (hv : AVal.nb 0 v0 = true) : QOp P N h h o g v0 := by
  intro g' hag X R μ a w Q' e5 e6 e7
  rw [← callA_congr hag] at hca
  obtain ⟨cargs, h1, h3⟩ := callA_run e6 hca hs.can
  unfold Oper.wp
  rw [h1]
  have hH := handed_rel e7 hh
  have ha := ARels.unren (μ := muOf μ ι) (fun β hβ => muOf_get e7.len hh hβ) as cargs hb h3
  refine (hs.run R (muOf μ ι) w cargs hH ha).mono ?_
  rintro e w' ⟨u, rfl, R', μ', av, h1', h4, h5, h6⟩
  obtain ⟨rfl, rfl⟩ := hQ _ _ h6
  obtain ⟨hon, hRR, hK, hlive⟩ := after_call e7 hh h5
  refine ⟨u, R', μ, rfl, ?_, e6.mono hRR hon (fun _ _ h => h), e7.after_ro hh hc h5⟩
  have := ARel.ren (μ2 := μ) (ρ := id) (m := 0) (fun β hβ => absurd hβ (Nat.not_lt_zero _)) av u hv h4
  rwa [ren_below0 av hv] at this

theorem eq_sl_nil_in {w : World} (d : Nat) {t : TypeId} {e : TypeId} (a : Option Addr) (n c : Nat) (h : P.underlying t = some (.slice e)) : (Op.equalIn (d + 1) t (.slice a n c) (.slice none 0 0)).run P w = .ok a.isNone w := by
  cases a <;> simp [Op.equalIn, run_underlying h]
theorem eq_sl_nil {w : World} {t : TypeId} {e : TypeId} (a : Option Addr) (n c : Nat) (h : P.underlying t = some (.slice e)) : (Op.equal t (.slice a n c) (.slice none 0 0)).run P w = .ok a.isNone w := eq_sl_nil_in 9999 a n c h

/-- A slice compared with nil. -/
def nilEqA (T : TTab) (g : Regs) (o : Oper) : Option (AVal × Bool) :=
  match o.op with
  | .binOp op t x (.const (.slice none 0 0)) _ =>
    match T.look t with
    | some { k := .slice _, .. } => match op with | .eql => some (evA g x, true) | .neq => some (evA g x, false) | _ => none
    | _ => none
  | _ => none

theorem qop_nilEq (hTO : TOk P T) {v : AVal} {b q : Bool} (hp : nilEqA T g o = some (v, b))
    (hc : ∀ (R : Nat → Prop) (μ : Mu) (w : World) (c : Value), ARel R μ w v c → ∃ a n cap, c = .slice a n cap ∧ a.isNone = q) : QOp P N h h o g (.r (.bool (bif b then q else !q))) := by
  intro g' hag X R μ a w Q e5 e6 e7
  unfold nilEqA at hp
  split at hp
  case h_2 => simp at hp
  rename_i op t x ty hop
  split at hp
  case h_2 => simp at hp
  rename_i e _ _ _ hT
  rw [hop] at hag
  have hx := evA_rel (a := a) e6 x
  rw [hag x (by simp [Op.operands])] at hx
  obtain ⟨d, hd, hk⟩ := tyk_ok hTO hT
  simp only [TyK.ok] at hk
  subst hk
  have hev : a.eval (.const (.slice none 0 0)) = .slice none 0 0 := rfl
  have heq : ∀ (ad : Option Addr) (n cap : Nat), (Op.equal t (.slice ad n cap) (.slice none 0 0)).run P w = .ok ad.isNone w := by
    intro ad n cap
    exact eq_sl_nil ad n cap hd
  split at hp
  · simp only [Option.some.injEq, Prod.mk.injEq] at hp
    obtain ⟨rfl, rfl⟩ := hp
    obtain ⟨ad, n, cap, h1, h2⟩ := hc R μ w _ hx
    refine wp_value (u := .bool q) (w' := w) ?_ ⟨_, R, μ, rfl, by simp [ARel, RRel], e6, e7⟩
    simp only [execOp, hop, hev, h1, Sem.run_bind]
    have hg : (eqGuard .eql t x (.const (.slice none 0 0)) (.slice ad n cap) (.slice none 0 0)).run P w = .ok () w := by simp [eqGuard]
    rw [hg]
    simp only [Result.andThen_ok]
    rw [binOp_eql (by simp) (by simp) (by simp) (by simp)]
    simp only [Sem.run_bind, heq, Result.andThen_ok, Sem.run_pure, h2]
  · simp only [Option.some.injEq, Prod.mk.injEq] at hp
    obtain ⟨rfl, rfl⟩ := hp
    obtain ⟨ad, n, cap, h1, h2⟩ := hc R μ w _ hx
    refine wp_value (u := .bool !q) (w' := w) ?_ ⟨_, R, μ, rfl, by simp [ARel, RRel], e6, e7⟩
    simp only [execOp, hop, hev, h1, Sem.run_bind]
    have hg : (eqGuard .neq t x (.const (.slice none 0 0)) (.slice ad n cap) (.slice none 0 0)).run P w = .ok () w := by simp [eqGuard]
    rw [hg]
    simp only [Result.andThen_ok]
    rw [binOp_neq (by simp) (by simp) (by simp) (by simp)]
    simp only [Sem.run_bind, heq, Result.andThen_ok, Sem.run_pure, h2]
  · simp at hp

theorem some_bs {s : List UInt8} (hs : s ≠ []) : ∀ (R : Nat → Prop) (μ : Mu) (w : World) (c : Value), ARel R μ w (.r (.bs s)) c → ∃ a n cap, c = .slice a n cap ∧ a.isNone = false := by
  intro R μ w c h
  simp only [ARel, RRel] at h
  obtain ⟨a, cap, rfl, _, h2⟩ := h
  rcases h2 with h2 | ⟨b, o, rfl, _⟩
  · exact absurd (by simpa [bytesV] using h2) hs
  · exact ⟨_, _, _, rfl, rfl⟩
theorem some_sl {β off n z : Nat} : ∀ (R : Nat → Prop) (μ : Mu) (w : World) (c : Value), ARel R μ w (.sl β off n z) c → ∃ a n cap, c = .slice a n cap ∧ a.isNone = false := by
  intro R μ w c h
  simp only [ARel] at h
  obtain ⟨b, o, cap, cells, e, fz, _, rfl, _⟩ := h
  exact ⟨_, _, _, rfl, rfl⟩

/-- What is known of a slice that is nil. -/
def slE : AVal → Prop
  | .r (.bs s) => s = []
  | .sl _ _ _ _ => False
  | _ => True
theorem slE_val {R : Nat → Prop} {μ : Mu} {w : World} {v : AVal} {n cap : Nat} (hv : ARel R μ w v (.slice none n cap)) : slE v := by
  unfold slE
  split
  · rename_i s
    simp only [ARel, RRel] at hv
    obtain ⟨a, cap', h1, _, h2⟩ := hv
    cases h1
    rcases h2 with h2 | ⟨b, o, h2, _⟩
    · simpa [bytesV] using h2
    · cases h2
  · simp only [ARel] at hv
    obtain ⟨b, o, cap, cells, e, fz, _, h1, _⟩ := hv
    cases h1
  · trivial

/-- Which slices are nil is not known of an empty one: both ways. -/
theorem ar_nilEq (hTO : TOk P T) {t : Bool} {d : Nat} {v : AVal} {b : Bool} (hp : nilEqA T g o = some (v, b)) (hv : slB v = true) (hnd : deferB o = false) (hg : guardB ops g o = some t) (ht : t = true) (hd : o.dst = some d) (hN : Nat.blt d N = true)
    (hk : ∀ q, (q = b → slE v) → AReg P f N m ops rest k ((d, .r (.bool q)) :: g) h Post) : AReg P f N m ops (o :: rest) k g h Post := by
  subst ht
  intro idx hi X R μ a w b' cs e1 e2 e3 e4 e5 e6 e7
  -- which it is, the machine's own value says
  have hx : ∃ x t' ty', ((o.op = .binOp .eql t' x (.const (.slice none 0 0)) ty' ∧ b = true) ∨ (o.op = .binOp .neq t' x (.const (.slice none 0 0)) ty' ∧ b = false)) ∧ evA g x = v := by
    unfold nilEqA at hp
    split at hp
    case h_2 => simp at hp
    rename_i op t' x ty' hop
    split at hp
    case h_2 => simp at hp
    split at hp
    · simp only [Option.some.injEq, Prod.mk.injEq] at hp; exact ⟨x, t', ty', .inl ⟨hop, hp.2.symm⟩, hp.1⟩
    · simp only [Option.some.injEq, Prod.mk.injEq] at hp; exact ⟨x, t', ty', .inr ⟨hop, hp.2.symm⟩, hp.1⟩
    · simp at hp
  obtain ⟨x, t', ty', hop, hev⟩ := hx
  have hxr := evA_rel (a := a) e6 x
  rw [hev] at hxr
  obtain ⟨ad, n, cap, hval, _⟩ := slB_val hv hxr
  cases idx with
  | nil => simp at hi
  | cons i idx =>
    simp only [List.map_cons, List.cons.injEq] at hi
    obtain ⟨ho, hi⟩ := hi
    have hw := guardB_wanted hg e6
    -- the comparison's run
    have hT : ∃ e ty0, T.look t' = some ty0 ∧ ty0.k = .slice e := by
      unfold nilEqA at hp
      rcases hop with ⟨hop, _⟩ | ⟨hop, _⟩ <;> rw [hop] at hp <;> simp only at hp <;> split at hp <;> first | (simp at hp; done) | (rename_i e _ _ _ hT; exact ⟨e, _, hT, rfl⟩)
    obtain ⟨e, ty0, hT, hk0⟩ := hT
    obtain ⟨dd, hdd, hkk⟩ := tyk_ok hTO hT
    rw [hk0] at hkk
    simp only [TyK.ok] at hkk
    subst hkk
    have hev2 : a.eval (.const (.slice none 0 0)) = .slice none 0 0 := rfl
    have heq : (Op.equal t' (.slice ad n cap) (.slice none 0 0)).run P w = .ok ad.isNone w := by
      exact eq_sl_nil ad n cap hdd
    have hrun : ∃ q, (execOp a.eval o).run P w = .ok (.value (.bool q)) w ∧ (q = b → ad.isNone = true) := by
      rcases hop with ⟨hop, rfl⟩ | ⟨hop, rfl⟩
      · refine ⟨ad.isNone, ?_, fun h => h⟩
        simp only [execOp, hop, hev2, hval, Sem.run_bind]
        have hg : (eqGuard .eql t' x (.const (.slice none 0 0)) (.slice ad n cap) (.slice none 0 0)).run P w = .ok () w := by simp [eqGuard]
        rw [hg]
        simp only [Result.andThen_ok]
        rw [binOp_eql (by simp) (by simp) (by simp) (by simp)]
        simp only [Sem.run_bind, heq, Result.andThen_ok, Sem.run_pure]
      · refine ⟨!ad.isNone, ?_, fun h => by simpa using h⟩
        simp only [execOp, hop, hev2, hval, Sem.run_bind]
        have hg : (eqGuard .neq t' x (.const (.slice none 0 0)) (.slice ad n cap) (.slice none 0 0)).run P w = .ok () w := by simp [eqGuard]
        rw [hg]
        simp only [Result.andThen_ok]
        rw [binOp_neq (by simp) (by simp) (by simp) (by simp)]
        simp only [Sem.run_bind, heq, Result.andThen_ok, Sem.run_pure]
    obtain ⟨q, hrun, hq⟩ := hrun
    obtain ⟨u, w2, fr, h4, rest'⟩ := hk q (fun h => by
      have := hq h
      cases ad with
      | none => rw [hval] at hxr; exact slE_val hxr
      | some _ => simp at this) idx hi X R μ (a.put o.dst (.bool q)) w b' cs e1 e2 e3 (by rw [put_defers]; exact e4) (by rw [put_size]; exact e5) (by
      rw [hd]; exact e6.put (by rw [e5]; exact Nat.le_of_ble_eq_true hN) (by simp [ARel, RRel])) e7
    have hst := stepGR_op (P := P) (b := b') (k := k) (cs := cs) (w := w) (rest := idx) ho hw
    have hfin : ∀ v, (b'.atR a (.inRegion ops (i :: idx) :: k)).finish v = b'.atR (a.put o.dst v) (.inRegion ops idx :: k) := by
      intro v; rw [Frame.finish_atR, ho]; rfl
    refine ⟨u, w2, fr, Steps.head (step_lone_go ?_) h4, rest'⟩
    rw [hst, ← hfin, semAt_of_value (.inl ⟨_, hrun⟩)]
    simp [stepG.apply, hrun]

/-- '[]byte' of a constant: the slice's block gets its mark. -/
def convSlA (T : TTab) (g : Regs) (h : Hp) (o : Oper) : Option ((Nat × Nat × Nat × Nat) × ABlk) :=
  match o.op with
  | .convert src dst x =>
    match T.look src, Nat.beq src dst, evA g x with
    | some { k := .slice e, .. }, true, .sl β off n z =>
      match T.look e, h.get β with
      | some { k := .int .u8, .. }, some blk => some ((β, off, n, z), blk)
      | _, _ => none
    | _, _, _ => none
  | _ => none

theorem qop_convSl (hTO : TOk P T) {β off n z : Nat} {blk : ABlk} (hp : convSlA T g h o = some ((β, off, n, z), blk)) : QOp P N h ⟨h.nxt, (β, some blk) :: (β, none) :: h.tab, h.gh⟩ o g (.sl β off n z) := by
  intro g' hag X R μ a w Q e5 e6 e7
  unfold convSlA at hp
  split at hp
  case h_2 => simp at hp
  rename_i src dst x hop
  split at hp
  case h_2 => simp at hp
  rename_i e _ _ _ β0 off0 n0 z0 hS hbq hx
  split at hp
  case h_2 => simp at hp
  rename_i blk0 hE hg
  simp only [Option.some.injEq, Prod.mk.injEq] at hp
  obtain ⟨⟨rfl, rfl, rfl, rfl⟩, rfl⟩ := hp
  have hsd : src = dst := Nat.eq_of_beq_eq_true hbq
  subst hsd
  obtain ⟨ds, hds, hk1⟩ := tyk_ok hTO hS
  obtain ⟨de, hde, hk2⟩ := tyk_ok hTO hE
  simp only [TyK.ok] at hk1 hk2
  subst hk1; subst hk2
  rw [hop] at hag
  have hxr := evA_rel (a := a) e6 x
  rw [hag x (by simp [Op.operands]), hx] at hxr
  have hxr0 := hxr
  simp only [ARel] at hxr
  obtain ⟨b, o1, cap, cells, el, fz, h2, hval, h4, h5, h6, h7⟩ := hxr
  obtain ⟨b', o', h8, hnR, hown, h9⟩ := e7.live β0 blk0 hg
  rw [h2] at h8; cases h8
  obtain ⟨cells', el', fz', vs, h10, h11, h12, h13, h14⟩ := h9.ex
  rw [h6] at h10; cases h10
  let fz2 : Nat × Nat := if fz.1 == fz.2 then (cells.size, cells.size + 1) else (min fz.1 cells.size, max fz.2 (cells.size + 1))
  let w' := w.freeze { block := b, off := cells.size } 1
  have hheap : ∀ j, w'.heap[j]? = if j = b then some (Obj.cells cells el fz2) else w.heap[j]? := by
    intro j
    show (w.freeze _ 1).heap[j]? = _
    unfold World.freeze
    rw [if_neg (by decide)]
    simp only [Array.getElem?_modify]
    by_cases e : b = j
    · subst e
      simp only [if_true, h6, Option.map_some]
      rfl
    · rw [if_neg e, if_neg (fun e2 => e e2.symm)]
  have hsize : w'.heap.size = w.heap.size := by
    show (w.freeze _ 1).heap.size = _
    unfold World.freeze
    rw [if_neg (by decide)]
    simp
  have hfz : fz2.1 ≤ fz2.2 ∧ ∀ i, fz2.1 ≤ i → i < fz2.2 → cells.size ≤ i := by
    obtain ⟨k1, k2⟩ := h11
    simp only [fz2]
    by_cases e : fz.1 = fz.2
    · simp only [e, beq_self_eq_true, if_true]
      exact ⟨by omega, fun i h _ => h⟩
    · rw [if_neg (by simpa using e)]
      have h15 := k2 fz.1 (Nat.le_refl _) (by omega)
      exact ⟨by simp only; omega, fun i h _ => by simp only at h; omega⟩
  have hgr : w.grownBy w' (some b) := ⟨rfl, rfl, rfl, by rw [hsize]; exact Nat.le_refl _, fun k _ hne => by rw [hheap k, if_neg (fun e => hne (by rw [e]))]⟩
  have hsh : ∀ b', some b = some b' → ¬ R b' ∧ ∀ (c : Array Value) (e : TypeId) (f : Nat × Nat), w.heap[b']? = some (Obj.cells c e f) → ∃ (c' : Array Value) (f' : Nat × Nat), w'.heap[b']? = some (Obj.cells c' e f') ∧ c'.size = c.size := by
    rintro b' rfl'
    cases rfl'
    refine ⟨hnR, fun c e f hcf => ?_⟩
    rw [h6] at hcf
    cases hcf
    exact ⟨_, _, by rw [hheap, if_pos rfl], rfl⟩
  have hon := e7.onward hgr hsh
  have Hk : HRel X R μ { h with tab := (β0, none) :: h.tab } w' := (e7.kill β0).grow hgr hsh (by
    rintro b' rfl'
    cases rfl'
    exact ⟨hown, e7.free_kill hg h2⟩) (by
    rintro b' rfl'
    cases rfl'
    exact ⟨cells, el, fz, h6⟩)
  have Hp := Hk.put (β := β0) (b := b) (o := o1) (blk := blk0) h2 hnR hown ⟨cells, el, fz2, vs, by rw [hheap, if_pos rfl], hfz, h12.mono (fun _ h => h) hon (fun _ _ h => h), h13, h14⟩
    (fun γ blk' o' _ hg' hm' => e7.free_kill hg h2 γ blk' o' hg' hm')
  refine wp_value (u := a.eval x) (w' := w') ?_ ⟨_, R, μ, rfl, ARel.mono (fun _ h => h) hon (fun _ _ h => h) _ _ hxr0, e6.mono (fun _ h => h) hon (fun _ _ h => h), Hp⟩
  simp only [execOp, hop, Sem.run_bind]
  have hc : (convert src src (a.eval x)).run P w = .ok (a.eval x) w' := by
    rw [hval]
    have hshp : w.shape? b = some (el, cells.size) := by unfold World.shape?; rw [h6]
    simp [convert, run_underlying hds, run_underlying hde, markStringish, hshp]
    rfl
  rw [hc]
  rfl

end
end Go.Proofs.Ytplfajhaehkhnaa

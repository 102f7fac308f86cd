/-
  THE ABSTRACT MACHINE: texts 17 to 39.
-/
import Derived.Test.YtopfpkmdkcjjlaaMA
import Derived.Orders
import Derived.Laws.IdiomStrings
import Derived.RangeFuncRecord
import Derived.Lib.SlBytesConst
namespace Go.Proofs.Ytopfpkmdkcjjlaa
open Go
section
variable {P : Program} {T : TTab} {f N : Nat} {m : Md}
/-- An operation that leaves the names alone: carried out in whatever registers agree on its operands. -/
def QOp (P : Program) (N : Nat) (h h' : Hp) (o : Oper) (g : Regs) (v : AVal) : Prop :=
  ∀ g' : Regs, (∀ x ∈ o.op.operands, evA g' x = evA g x) → ∀ (X : Ctx) (R : Nat → Prop) (μ : Mu) (a : Act) (w : World) (Q : Exit → Act → World → Prop), a.tmps.size = N → RegRel R μ w g' a.tmps → HRel X R μ h w →
    o.wp P a w (fun a' w' => ∃ cv R' μ', a' = a.put o.dst cv ∧ ARel R' μ' w' v cv ∧ RegRel R' μ' w' g' a.tmps ∧ HRel X R' μ' h' w') Q
def deferB (o : Oper) : Bool := match o.op with | .defer _ => true | _ => false
theorem semAt_of_deferB {o : Oper} {ro : Option Nat} {ρ : Operand → Value} (h : deferB o = false) : o.semAt ro ρ = execOp ρ o :=
  Oper.semAt_eq ro ρ o fun c hc => by simp [deferB, hc] at h
/-- One operation, by what it is shown to do. -/
theorem step_wp {ops : Array Oper} {o : Oper} {k : List Item} {b : Frame} {a : Act} {cs : List Frame} {w : World} {i : Nat} {idx : List Nat} {Kn : Act → World → Prop} {Q : Exit → Act → World → Prop} (hQ : ∀ e a w, Q e a w → e = .normal) (hnd : deferB o = false)
    (ho : ops[i]? = some o) (hw : Region.wanted o (yielded ops a.tmps) = true) (h : o.wp P a w Kn Q) :
    ∃ a' w', Kn a' w' ∧ Steps P (lone (b.atR a (.inRegion ops (i :: idx) :: k)) cs w) (lone (b.atR a' (.inRegion ops idx :: k)) cs w') := by
  have hst := stepGR_op (P := P) (b := b) (k := k) (cs := cs) (w := w) (rest := idx) ho hw
  rw [semAt_of_deferB hnd] at hst
  have hfin : ∀ v, (b.atR a (.inRegion ops (i :: idx) :: k)).finish v = b.atR (a.put o.dst v) (.inRegion ops idx :: k) := by
    intro v; rw [Frame.finish_atR, ho]; rfl
  unfold Oper.wp Oper.upon at h
  generalize hr : (execOp a.eval o).run P w = r at h
  cases r with
  | ok n w' =>
    cases n with
    | value v => exact ⟨_, w', h, .one (step_lone_go (by rw [hst, ← hfin]; simp [stepG.apply, hr]))⟩
    | skip => exact ⟨_, w', h, .one (step_lone_go (by rw [hst, ← hfin]; simp [stepG.apply, hr]))⟩
    | enter fn args =>
      obtain ⟨e, w'', fr, hR, hsteps, _, hleave⟩ := h (b.atR a (.inRegion ops (i :: idx) :: k) :: cs)
      have henter : step P (lone (b.atR a (.inRegion ops (i :: idx) :: k)) cs w) = .next (lone (Frame.enter P fn args .normal) (b.atR a (.inRegion ops (i :: idx) :: k) :: cs) w') :=
        step_lone_go (by rw [hst]; simp [stepG.apply, hr, Frame.atR])
      cases e with
      | returned v => exact ⟨_, w'', hR, .head henter (Steps.trans hsteps (.one (by rw [← hfin]; exact step_leave_returned hleave)))⟩
      | panicked chain => exact absurd (hQ _ _ _ hR) (by simp)
      | outgrown => obtain ⟨_, _, hf⟩ := hR; exact absurd (hQ _ _ _ hf) (by simp)
    | row row args =>
      obtain ⟨v, w'', hR, hsteps⟩ := h (b.atR a (.inRegion ops (i :: idx) :: k)) cs
      have henter : step P (lone (b.atR a (.inRegion ops (i :: idx) :: k)) cs w) = .next (lone (Frame.ofRow P row args .normal) (b.atR a (.inRegion ops (i :: idx) :: k) :: cs) w') :=
        step_lone_go (by rw [hst]; simp [stepG.apply, hr, Frame.atR])
      exact ⟨_, w'', hR, .head henter (by rw [← hfin]; exact hsteps)⟩
    | defer d =>
      refine ⟨_, w', h, .one (step_lone_go ?_)⟩
      have : ({ b.atR a (.inRegion ops (i :: idx) :: k) with defers := d :: a.defers } : Frame).finish undef =
          b.atR ({ a with defers := d :: a.defers }.put o.dst undef) (.inRegion ops idx :: k) := by
        have := Frame.finish_atR b { a with defers := d :: a.defers } ops i idx k undef
        rw [ho] at this; exact this
      rw [hst]; simp only [stepG.apply, Sem.runT_eq, hr, GStep.bare_after]
      exact congrArg (fun fr => GStep.go { frame := fr, callers := cs, status := .running, dying := none } w') this
    | _ => exact h.elim
  | halt x w' =>
    cases x <;> first
      | exact h.elim
      | exact absurd (hQ _ _ _ h) (by simp)
      | (obtain ⟨_, _, hf⟩ := h; exact absurd (hQ _ _ _ hf) (by simp))
end
end Go.Proofs.Ytopfpkmdkcjjlaa
namespace Go.Proofs.Ytopfpkmdkcjjlaa
open Go
section
variable {P : Program} {T : TTab} {f N : Nat} {m : Md} {ops : Array Oper} {o : Oper} {rest : List Oper} {g : Regs} {ld : List Nat} {Hs : Nat → Hp} {K ix j : Nat} {F : Regs → Prop}
theorem wp_value {a : Act} {w w' : World} {u : Value} {K : Act → World → Prop} {Q : Exit → Act → World → Prop} (h : (execOp a.eval o).run P w = .ok (.value u) w') (hk : K (a.put o.dst u) w') : o.wp P a w K Q := by
  unfold Oper.wp; rw [h]; exact hk
end
end Go.Proofs.Ytopfpkmdkcjjlaa
namespace Go.Proofs.Ytopfpkmdkcjjlaa
open Go
section
variable {P : Program} {T : TTab} {f N : Nat} {m : Md} {ops : Array Oper} {o : Oper} {rest : List Oper} {k : List Item} {g : Regs} {h h' : Hp} {Post : AVal → Hp → Prop} {ld : List Nat} {Hs : Nat → Hp} {K ix j : Nat} {F : Regs → Prop}
theorem ar_q {t : Bool} {v : AVal} (hnd : deferB o = false) (hg : guardB ops g o = some t) (ht : t = true) (hN : ∀ d, o.dst = some d → Nat.blt d N = true) (hq : QOp P N h h' o g v)
    (hk : AReg P f N m ops rest k (match o.dst with | some d => (d, v) :: g | none => g) h' Post) : AReg P f N m ops (o :: rest) k g h Post := by
  subst ht
  intro idx hi X R μ a w b cs e1 e2 e3 e4 e5 e6 e7
  cases idx with
  | nil => simp at hi
  | cons i idx =>
    simp only [List.map_cons, List.cons.injEq] at hi
    obtain ⟨ho, hi⟩ := hi
    have hw := guardB_wanted hg e6
    obtain ⟨a', w', ⟨cv, R', μ', rfl, h1, h2, h3⟩, hsteps⟩ := step_wp (b := b) (cs := cs) (k := k) (idx := idx) (fun _ _ _ h => h.elim) hnd ho hw (hq g (fun _ _ => rfl) X R μ a w (fun _ _ _ => False) e5 e6 e7)
    have hreg : RegRel R' μ' w' (match o.dst with | some d => (d, v) :: g | none => g) (a.put o.dst cv).tmps := by
      cases hd : o.dst with
      | none => exact h2
      | some d => exact h2.put (by rw [e5]; exact Nat.le_of_ble_eq_true (hN d hd)) h1
    obtain ⟨u, w2, fr, h4, rest'⟩ := hk idx hi X R' μ' (a.put o.dst cv) w' b cs e1 e2 e3 (by rw [put_defers]; exact e4) (by rw [put_size]; exact e5) hreg h3
    exact ⟨u, w2, fr, Steps.trans hsteps h4, rest'⟩
theorem ar_qd {t : Bool} {v : AVal} {d : Nat} (hnd : deferB o = false) (hq : QOp P N h h' o g v) (hg : guardB ops g o = some t) (ht : t = true) (hd : o.dst = some d) (hN : Nat.blt d N = true)
    (hk : AReg P f N m ops rest k ((d, v) :: g) h' Post) : AReg P f N m ops (o :: rest) k g h Post :=
  ar_q hnd hg ht (fun d' h1 => by rw [hd] at h1; cases h1; exact hN) hq (by rw [hd]; exact hk)
end
end Go.Proofs.Ytopfpkmdkcjjlaa
namespace Go.Proofs.Ytopfpkmdkcjjlaa
open Go
section
variable {P : Program} {T : TTab} {f N : Nat} {m : Md} {ops : Array Oper} {o : Oper} {rest : List Oper} {k : List Item} {g : Regs} {h h' : Hp} {Post : AVal → Hp → Prop}
end
end Go.Proofs.Ytopfpkmdkcjjlaa
namespace Go.Proofs.Ytopfpkmdkcjjlaa
open Go
section
variable {P : Program} {T : TTab} {f N : Nat} {m : Md} {ops : Array Oper} {o : Oper} {rest : List Oper} {k : List Item} {g g' : Regs} {h h' : Hp} {Post : AVal → Hp → Prop} {ld : List Nat} {Hs : Nat → Hp} {K ix j : Nat} {F : Regs → Prop}
theorem stepNew_congr {n : Nat} (hag : ∀ x ∈ o.op.operands, evA g' x = evA g x) : stepNew T N g' n o = stepNew T N g n o := by
  unfold stepNew
  split
  · rfl
  · rename_i d hd
    congr 1
    split
    · rfl
    · rename_i t x hop
      rw [hop] at hag
      rw [hag x (by simp [Op.operands])]
    · rename_i t len parts hop
      rw [hop] at hag
      have : (parts.toList.map fun p => (p.1, evA g' p.2)) = parts.toList.map fun p => (p.1, evA g p.2) := List.map_congr_left fun p hp => by
        rw [hag p.2 (by simp only [Op.operands]; simpa using ⟨p.1, by simpa using hp⟩)]
      rw [this]
    · rfl
/-- A loop, from its entry: 'S x' are the states at the head of a round. -/
theorem ag_loopS {α : Type} (S : α → Regs × Hp) (p : α → Prop) (meas : α → Nat) {c : Code} (x0 : α) (he : Ent m g h (S x0).1 (S x0).2) (h0 : p x0)
    (round : ∀ x, p x → (∀ y, p y → meas y < meas x → AGo P f N m (.inLoop c :: k) (S y).1 (S y).2 Post) → AGo P f N m (.code c :: .inLoop c :: k) (S x).1 (S x).2 Post) : AGo P f N m (.code (.loop c) :: k) g h Post :=
  ag_loop_enter (ag_ent he (ag_loop_of S p meas round x0 h0))
end
end Go.Proofs.Ytopfpkmdkcjjlaa
namespace Go.Proofs.Ytopfpkmdkcjjlaa
open Go
section
variable {P : Program} {T : TTab} {f N : Nat} {m : Md} {ops : Array Oper} {o : Oper} {rest : List Oper} {k : List Item} {g g' : Regs} {h h' : Hp} {Post : AVal → Hp → Prop} {ld : List Nat} {Hs : Nat → Hp} {K ix j : Nat} {F : Regs → Prop}
end
theorem eqI {k : IntKind} {a b : Int} (h : a = b) : AVal.r (.int k a) = AVal.r (.int k b) := by rw [h]
theorem eqBsv {a b : List UInt8} (h : a = b) : AVal.r (.bs a) = AVal.r (.bs b) := by rw [h]
theorem eqSl {β off n n' z : Nat} (h : n = n') : AVal.sl β off n z = AVal.sl β off n' z := by rw [h]
theorem eqPl {a b : List RVal} (h : a = b) : some (Body.plain a) = some (Body.plain b) := by rw [h]
theorem wu8 (n : Int) : IntKind.u8.wrap n = n % 256 := by simp [IntKind.wrap, IntKind.bits, IntKind.signed]
end Go.Proofs.Ytopfpkmdkcjjlaa
namespace Go.Proofs.Ytopfpkmdkcjjlaa
open Go
mutual
theorem ARel.ren' {R : Nat → Prop} {μ μ2 : Mu} {w : World} {ρ : Nat → Nat} (hm : ∀ β p, μ[β]? = some p → μ2[ρ β]? = some p) : ∀ (v : AVal) (c : Value), ARel R μ w v c → ARel R μ2 w (AVal.ren ρ v) c
  | .sl β off n z, c, h => by
    simp only [ARel, AVal.ren] at h ⊢
    obtain ⟨b, o, cap, cells, e, fz, h1, rest⟩ := h
    exact ⟨b, o, cap, cells, e, fz, hm β _ h1, rest⟩
  | .ptr β off, c, h => by
    simp only [ARel, AVal.ren] at h ⊢
    obtain ⟨b, o, h1, h2⟩ := h
    exact ⟨b, o, hm β _ h1, h2⟩
  | .func f cs, c, h => by
    simp only [ARel, AVal.ren] at h ⊢
    obtain ⟨ds, h1, h2⟩ := h
    exact ⟨ds, h1, ARels.ren' hm cs ds h2⟩
  | .agg cs, c, h => by
    simp only [ARel, AVal.ren] at h ⊢
    obtain ⟨ds, h1, h2⟩ := h
    exact ⟨ds, h1, ARels.ren' hm cs ds h2⟩
  | .tuple cs, c, h => by
    simp only [ARel, AVal.ren] at h ⊢
    obtain ⟨ds, h1, h2⟩ := h
    exact ⟨ds, h1, ARels.ren' hm cs ds h2⟩
  | .r v, c, h => by simpa only [ARel, AVal.ren] using h
  | .rp xs o, c, h => by simpa only [ARel, AVal.ren] using h
  | .bp s o, c, h => by simpa only [ARel, AVal.ren] using h
  | .yld _, c, h => by simpa only [ARel, AVal.ren] using h
  | .any, c, h => by simp only [ARel, AVal.ren]
theorem ARels.ren' {R : Nat → Prop} {μ μ2 : Mu} {w : World} {ρ : Nat → Nat} (hm : ∀ β p, μ[β]? = some p → μ2[ρ β]? = some p) : ∀ (v : List AVal) (c : List Value), ARels R μ w v c → ARels R μ2 w (AVal.rens ρ v) c
  | [], c, h => by simpa only [ARels, AVal.rens] using h
  | x :: xs, c, h => by
    simp only [ARels, AVal.rens] at h ⊢
    obtain ⟨a, r, h1, h2, h3⟩ := h
    exact ⟨a, r, h1, ARel.ren' hm x a h2, ARels.ren' hm xs r h3⟩
end
theorem BlkRel.ren' {R : Nat → Prop} {μ μ2 : Mu} {w : World} {ρ : Nat → Nat} (hm : ∀ β p, μ[β]? = some p → μ2[ρ β]? = some p) {b o : Nat} {bd : Body} (h : BlkRel R μ w b o bd) : BlkRel R μ2 w b o (bd.ren ρ) := by
  obtain ⟨cells, el, fz, vs, h7, h8, h9, h10, h11⟩ := h.ex
  refine ⟨cells, el, fz, vs, h7, h8, ?_, h10, h11⟩
  cases bd with
  | mixed cs => exact ARels.ren' hm cs vs h9
  | plain xs => exact h9
  | bytes s => exact h9
/-- A callee's names among the caller's. -/
def rhoO (h : Hp) (ι : List Nat) (i : Nat) : Nat :=
  match ι[i]? with
  | some γ => γ
  | none => h.nxt + (i - ι.length)
def mergeH (h h' : Hp) (ι : List Nat) : Hp := ⟨h.nxt + (h'.nxt - ι.length), h'.tab.map (fun e => (rhoO h ι e.1, e.2.map (Body.ren (rhoO h ι)))) ++ (h.kills ι).tab, h.gh⟩
theorem look_app2 {a b : List (Nat × Option ABlk)} {γ : Nat} : ∀ {blk : ABlk}, Hp.look (a ++ b) γ = some blk → Hp.look a γ = some blk ∨ Hp.look b γ = some blk := by
  induction a with
  | nil => exact fun h => .inr h
  | cons x l ih =>
    obtain ⟨i, v⟩ := x
    intro blk h
    rw [List.cons_append, look_kill] at h
    rw [look_kill]
    split at h
    · rename_i e; rw [if_pos e]; exact .inl h
    · rename_i e; rw [if_neg e]; exact ih h
theorem look_map {ρ : Nat → Nat} {φ : ABlk → ABlk} {γ : Nat} : ∀ {l : List (Nat × Option ABlk)} {blk : ABlk}, Hp.look (l.map fun e => (ρ e.1, e.2.map φ)) γ = some blk → ∃ i b, ρ i = γ ∧ Hp.look l i = some b ∧ blk = φ b
  | [], blk, h => by simp [Hp.look] at h
  | (i, v) :: l, blk, h => by
    simp only [List.map_cons, look_kill] at h
    split at h
    · rename_i e
      cases v with
      | none => simp at h
      | some b =>
        simp only [Option.map_some, Option.some.injEq] at h
        exact ⟨i, b, e, by simp [look_kill], h.symm⟩
    · rename_i e
      obtain ⟨j, b, h1, h2, h3⟩ := look_map h
      refine ⟨j, b, h1, ?_, h3⟩
      rw [look_kill, if_neg (fun e2 => e (by rw [e2]; exact h1))]
      exact h2
section
variable {X : Ctx} {R : Nat → Prop} {μ : Mu} {h hp : Hp} {w : World} {ι : List Nat}
theorem rho_ok (hl : μ.length = h.nxt) (hh : Handed h hp ι) {μ' : Mu} (hmu : ∀ (β : Nat) p, (muOf μ ι)[β]? = some p → μ'[β]? = some p) : ∀ (β : Nat) p, μ'[β]? = some p → (μ ++ μ'.drop ι.length)[rhoO h ι β]? = some p := by
  intro β p hp'
  unfold rhoO
  by_cases hb : β < ι.length
  · have hlt : ι[β] < μ.length := by rw [hl]; exact hh.lt _ (List.getElem_mem hb)
    have h1 : (muOf μ ι)[β]? = some (μ.getD ι[β] (0, 0)) := by simp [muOf, hb]
    have h2 := hmu β _ h1
    rw [hp'] at h2
    cases h2
    rw [List.getElem?_eq_getElem hb]
    simp only
    rw [List.getElem?_append_left hlt]
    simp [List.getD, List.getElem?_eq_getElem hlt]
  · rw [List.getElem?_eq_none (l := ι) (Nat.le_of_not_lt hb)]
    simp only
    rw [List.getElem?_append_right (by rw [hl]; omega), List.getElem?_drop, hl]
    rw [← hp']
    congr 1; omega
theorem HRel.merge (H : HRel X R μ h w) (hh : Handed h hp ι) {R' : Nat → Prop} {μ' : Mu} {h' : Hp} {w' : World} (H' : HRel (callCtx w hp R (muOf μ ι)) R' μ' h' w') :
    HRel X R' (μ ++ μ'.drop ι.length) (mergeH h h' ι) w' := by
  obtain ⟨hon, hRR, hK, hlive⟩ := after_call H hh H'
  have hrho := rho_ok H.len hh H'.mu
  have hap : ∀ (β : Nat) p, μ[β]? = some p → (μ ++ μ'.drop ι.length)[β]? = some p := by
    intro β q h
    obtain ⟨hl, _⟩ := List.getElem?_eq_some_iff.1 h
    rw [List.getElem?_append_left hl]; exact h
  have hlen' : ι.length ≤ μ'.length := by
    rcases Nat.eq_zero_or_pos ι.length with h0 | h0
    · omega
    · have hb : ι.length - 1 < ι.length := by omega
      have h1 : (muOf μ ι)[ι.length - 1]? = some (μ.getD ι[ι.length - 1] (0, 0)) := by simp [muOf, hb]
      have := H'.mu _ _ h1
      have := (List.getElem?_eq_some_iff.1 this).1
      omega
  have hsplit : ∀ γ blk, (mergeH h h' ι).get γ = some blk → (∃ i b, rhoO h ι i = γ ∧ h'.get i = some b ∧ blk = b.ren (rhoO h ι)) ∨ (h.kills ι).get γ = some blk := by
    intro γ blk hg
    rcases look_app2 hg with h1 | h1
    · obtain ⟨i, b, h2, h3, h4⟩ := look_map h1
      exact .inl ⟨i, b, h2, h3, h4⟩
    · exact .inr h1
  exact {
    os := hK.os
    tape := hK.tape
    output := hK.output
    size := hK.size
    keep := hK.keep
    shape := hK.shape
    r0 := hK.r0
    rO := hK.rO
    rlt := hK.rlt
    rc := hK.rc
    mu := fun β p hp => hap β p (hK.mu β p hp)
    len := by simp only [List.length_append, List.length_drop, mergeH, H.len, H'.len]
    live := by
      intro γ blk hg
      rcases hsplit γ blk hg with ⟨i, b0, h1, h2, rfl⟩ | h1
      · obtain ⟨b, o, h3, h4, h5, h6, h7⟩ := hlive i b0 h2
        exact ⟨b, o, by rw [← h1]; exact hrho i _ h3, h4, h5, h6.ren' hrho⟩
      · obtain ⟨b, o, h3, h4, h5, h6⟩ := hK.live γ blk h1
        exact ⟨b, o, hap _ _ h3, h4, h5, h6.mono (fun _ h => h) (Onward.refl R' w') hap rfl⟩
    inj := by
      intro γ γ' k k' b b' o o' g1 g2 m1 m2 e
      subst e
      rcases hsplit γ k g1 with ⟨i, b0, h1, h2, rfl⟩ | h1 <;> rcases hsplit γ' k' g2 with ⟨i', b0', h1', h2', rfl⟩ | h1'
      · obtain ⟨c, p, h3, _⟩ := hlive i b0 h2
        obtain ⟨c', p', h3', _⟩ := hlive i' b0' h2'
        have e1 := hrho i _ h3
        have e2 := hrho i' _ h3'
        rw [h1, m1] at e1; cases e1
        rw [h1', m2] at e2; cases e2
        have := H'.inj i i' b0 b0' b b o o' h2 h2' h3 h3' rfl
        subst this
        exact h1.symm.trans h1'
      · exfalso
        obtain ⟨c, p, h3, _, _, _, h7⟩ := hlive i b0 h2
        have e1 := hrho i _ h3
        rw [h1, m1] at e1; cases e1
        obtain ⟨c', p', h4, _⟩ := hK.live γ' k' h1'
        have e2 := hap _ _ h4
        rw [m2] at e2; cases e2
        exact h7 γ' k' o' h1' h4
      · exfalso
        obtain ⟨c, p, h3, _, _, _, h7⟩ := hlive i' b0' h2'
        have e1 := hrho i' _ h3
        rw [h1', m2] at e1; cases e1
        obtain ⟨c', p', h4, _⟩ := hK.live γ k h1
        have e2 := hap _ _ h4
        rw [m1] at e2; cases e2
        exact h7 γ k o h1 h4
      · obtain ⟨c, p, h4, _⟩ := hK.live γ k h1
        obtain ⟨c', p', h5, _⟩ := hK.live γ' k' h1'
        have e1 := hap _ _ h4
        have e2 := hap _ _ h5
        rw [m1] at e1; rw [m2] at e2; cases e1; cases e2
        exact hK.inj γ γ' k k' b b o o' h1 h1' h4 h5 rfl
    inv := hK.inv }
end
/-- What is handed, block by block. -/
def HB (h : Hp) (ι : List Nat) (n : Nat) : List (Nat × Option ABlk) → Prop
  | [] => True
  | (i, some b) :: l => Nat.blt i n = true ∧ b.nb n = true ∧ h.get (ι.getD i 0) = some (b.ren fun j => ι.getD j 0) ∧ HB h ι n l
  | (_, none) :: l => HB h ι n l
theorem HB.blk {h : Hp} {ι : List Nat} {n : Nat} : ∀ {l : List (Nat × Option ABlk)}, HB h ι n l → ∀ i blk, Hp.look l i = some blk → i < n ∧ blk.nb n = true ∧ h.get (ι.getD i 0) = some (blk.ren fun j => ι.getD j 0)
  | [], _, i, blk, hg => by simp [Hp.look] at hg
  | (j, v) :: l, hb, i, blk, hg => by
    rw [look_kill] at hg
    split at hg
    · rename_i e
      subst e
      subst hg
      exact ⟨Nat.le_of_ble_eq_true hb.1, hb.2.1, hb.2.2.1⟩
    · cases v with
      | none => exact HB.blk (l := l) hb i blk hg
      | some b => exact HB.blk hb.2.2.2 i blk hg
theorem handed_of {h hp : Hp} {ι : List Nat} (h1 : ι.length = hp.nxt) (h2 : (ι.all fun γ => Nat.blt γ h.nxt) = true) (h3 : ι.Nodup) (h4 : HB h ι hp.nxt hp.tab) : Handed h hp ι :=
  ⟨h1, fun γ hγ => Nat.le_of_ble_eq_true (List.all_eq_true.1 h2 γ hγ), h3, fun i blk hg => HB.blk h4 i blk hg⟩
def forceT {α : Type} : List (Nat × Option ABlk) → (List (Nat × Option ABlk) → Option α) → Option α
  | [], k => k []
  | (i, none) :: l, k => forceT l fun l' => k ((i, none) :: l')
  | (i, some (.bytes s)) :: l, k => forceT l fun l' => k ((i, some (.bytes s)) :: l')
  | (i, some (.plain s)) :: l, k => forceT l fun l' => k ((i, some (.plain s)) :: l')
  | (i, some (.mixed s)) :: l, k => forceL s fun s' => forceT l fun l' => k ((i, some (.mixed s')) :: l')
theorem forceT_eq {α : Type} : ∀ (l : List (Nat × Option ABlk)) (k : List (Nat × Option ABlk) → Option α), forceT l k = k l
  | [], k => rfl
  | (i, none) :: l, k => by simp only [forceT, forceT_eq l]
  | (i, some (.bytes s)) :: l, k => by simp only [forceT, forceT_eq l]
  | (i, some (.plain s)) :: l, k => by simp only [forceT, forceT_eq l]
  | (i, some (.mixed s)) :: l, k => by simp only [forceT, forceL_eq, forceT_eq l]
/-- What lies behind the call, reckoned. -/
def mergeO (h : Hp) (ι : List Nat) (v : AVal) (h' : Hp) : Option (AVal × Hp) :=
  forceV (AVal.ren (rhoO h ι) v) fun v => forceT (h'.tab.map (fun e => (rhoO h ι e.1, e.2.map (Body.ren (rhoO h ι)))) ++ (h.kills ι).tab) fun tab => some (v, ⟨h.nxt + (h'.nxt - ι.length), tab, h.gh⟩)
theorem mergeO_eq (h : Hp) (ι : List Nat) (v : AVal) (h' : Hp) : mergeO h ι v h' = some (AVal.ren (rhoO h ι) v, mergeH h h' ι) := by
  unfold mergeO
  rw [forceV_eq, forceT_eq]; rfl
section
variable {P : Program} {T : TTab} {f N : Nat} {m : Md} {ops : Array Oper} {o : Oper} {rest : List Oper} {k : List Item} {g : Regs} {h : Hp} {Post : AVal → Hp → Prop}
theorem obj_calls {n : FuncId} {as : List AVal} {hp : Hp} {ι : List Nat} {Q : AVal → Hp → Prop} (hs : Spec P n as hp Q) (hb : AVal.nbs hp.nxt as = true) (hh : Handed h hp ι) {X : Ctx} {R : Nat → Prop} {μ : Mu} {w : World} {g : Regs} {tmps : Array Value}
    (e6 : RegRel R μ w g tmps) (e7 : HRel X R μ h w) {cargs : List Value} (h2 : ARels R μ w (AVal.rens (fun j => ι.getD j 0) as) cargs) :
    Calls P n ⟨cargs⟩ w fun e w' => ∃ v, e = .returned v ∧ ∃ R' μ2 av h', ARel R' μ2 w' (AVal.ren (rhoO h ι) av) v ∧ RegRel R' μ2 w' g tmps ∧ HRel X R' μ2 (mergeH h h' ι) w' ∧ Q av h' := by
  have hH := handed_rel e7 hh
  have ha := ARels.unren (μ := muOf μ ι) (fun β hβ => muOf_get e7.len hh hβ) as cargs hb h2
  refine (hs.run R (muOf μ ι) w cargs hH ha).mono ?_
  rintro e w' ⟨v, rfl, R', μ', av, h', h3, h4, h5⟩
  obtain ⟨hon, hRR, hK, hlive⟩ := after_call e7 hh h4
  refine ⟨v, rfl, R', μ ++ μ'.drop ι.length, av, h', ARel.ren' (rho_ok e7.len hh h4.mu) _ _ h3, e6.mono hRR hon (fun β q h => ?_), e7.merge hh h4, h5⟩
  obtain ⟨hl, _⟩ := List.getElem?_eq_some_iff.1 h
  rw [List.getElem?_append_left hl]; exact h
/-- A CALL THAT IS HANDED OBJECTS. -/
theorem ar_obj {t : Bool} {n d : Nat} {as : List AVal} {hp : Hp} {Q : AVal → Hp → Prop} (ι : List Nat) (hs : Spec P n as hp Q) (hca : callA g o = some (n, AVal.rens (fun j => ι.getD j 0) as)) (hb : AVal.nbs hp.nxt as = true)
    (hh : Handed h hp ι) (hd : o.dst = some d) (hN : Nat.blt d N = true) (hg : guardB ops g o = some t) (ht : t = true)
    (hk : ∀ av h', Q av h' → ∃ v2 h2, mergeO h ι av h' = some (v2, h2) ∧ AReg P f N m ops rest k ((d, v2) :: g) h2 Post) : AReg P f N m ops (o :: rest) k g h Post := by
  subst ht
  intro idx hi X R μ a w b cs e1 e2 e3 e4 e5 e6 e7
  cases idx with
  | nil => simp at hi
  | cons i idx =>
    simp only [List.map_cons, List.cons.injEq] at hi
    obtain ⟨ho, hi⟩ := hi
    have hw := guardB_wanted hg e6
    obtain ⟨cargs, h1, h2⟩ := callA_run e6 hca hs.can
    obtain ⟨e, w', fr, ⟨v, rfl, R', μ', av, h', h3, h4, h5, h6⟩, hcomes, hfn, hleave⟩ := obj_calls hs hb hh e6 e7 h2 (b.atR a (.inRegion ops (i :: idx) :: k) :: cs)
    obtain ⟨v2, h2', hm, hk2⟩ := hk av h' h6
    rw [mergeO_eq] at hm
    cases hm
    obtain ⟨u, w2, fr2, h9, rest'⟩ := hk2 idx hi X R' μ' (a.put o.dst v) w' b cs e1 e2 e3 (by rw [put_defers]; exact e4) (by rw [put_size]; exact e5) (by
      rw [hd]; exact h4.put (by rw [e5]; exact Nat.le_of_ble_eq_true hN) h3) h5
    have hst := stepGR_op (P := P) (b := b) (k := k) (cs := cs) (w := w) (rest := idx) ho hw
    have hfin : (b.atR a (.inRegion ops (i :: idx) :: k)).finish v = b.atR (a.put o.dst v) (.inRegion ops idx :: k) := by
      rw [Frame.finish_atR, ho]; rfl
    have henter : step P (lone (b.atR a (.inRegion ops (i :: idx) :: k)) cs w) = .next (lone (Frame.enter P n ⟨cargs⟩ .normal) (b.atR a (.inRegion ops (i :: idx) :: k) :: cs) w) :=
      step_lone_go (by rw [hst, semAt_of_enter h1]; simp [stepG.apply, h1, Frame.atR])
    refine ⟨u, w2, fr2, Steps.head henter (Steps.trans hcomes (Steps.head ?_ h9)), rest'⟩
    rw [← hfin]
    exact step_leave_returned hleave
end
end Go.Proofs.Ytopfpkmdkcjjlaa
namespace Go.Proofs.Ytopfpkmdkcjjlaa
open Go
def slB : AVal → Bool
  | .r (.bs _) => true
  | .r (.ro _ _) => true
  | .r .nil => true
  | .sl _ _ _ _ => true
  | _ => false
theorem slB_val {R : Nat → Prop} {μ : Mu} {w : World} {v : AVal} {c : Value} (h : slB v = true) (hv : ARel R μ w v c) : ∃ a n cap, c = .slice a n cap ∧ n ≤ cap := by
  unfold slB at h
  split at h <;> (try simp only [ARel, RRel] at hv)
  · obtain ⟨a, cap, rfl, h1, _⟩ := hv; exact ⟨a, _, cap, rfl, h1⟩
  · obtain ⟨a, cap, cs, rfl, h1, _⟩ := hv; exact ⟨a, _, cap, rfl, h1⟩
  · obtain ⟨a, rfl⟩ := hv; exact ⟨a, 0, 0, rfl, Nat.le_refl _⟩
  · obtain ⟨b, o, cap, cells, e, fz, _, rfl, h1, _⟩ := hv; exact ⟨_, _, cap, rfl, h1⟩
  · cases h
section
variable {P : Program} {T : TTab} {f N : Nat} {m : Md} {ops : Array Oper} {o : Oper} {rest : List Oper} {k : List Item} {g g' : Regs} {h h' : Hp} {Post : AVal → Hp → Prop}
end
end Go.Proofs.Ytopfpkmdkcjjlaa
namespace Go.Proofs.Ytopfpkmdkcjjlaa
open Go
set_option linter.unusedVariables false
section
variable {X : Ctx} {R : Nat → Prop} {μ : Mu} {h hp : Hp} {w : World} {ι : List Nat}
end
section
variable {P : Program} {T : TTab} {f N : Nat} {m : Md} {ops : Array Oper} {o : Oper} {rest : List Oper} {k : List Item} {g g' : Regs} {h h' : Hp} {Post : AVal → Hp → Prop}
theorem eq_sl_nil_in {w : World} (d : Nat) {t : TypeId} {e : TypeId} (a : Option Addr) (n c : Nat) (h : P.underlying t = some (.slice e)) : (Op.equalIn (d + 1) t (.slice a n c) (.slice none 0 0)).run P w = .ok a.isNone w := by
  cases a <;> simp [Op.equalIn, run_underlying h]
theorem eq_sl_nil {w : World} {t : TypeId} {e : TypeId} (a : Option Addr) (n c : Nat) (h : P.underlying t = some (.slice e)) : (Op.equal t (.slice a n c) (.slice none 0 0)).run P w = .ok a.isNone w := eq_sl_nil_in 9999 a n c h
/-- A slice compared with nil. -/
def nilEqA (T : TTab) (g : Regs) (o : Oper) : Option (AVal × Bool) :=
  match o.op with
  | .binOp op t x (.const (.slice none 0 0)) _ =>
    match T.look t with
    | some { k := .slice _, .. } => match op with | .eql => some (evA g x, true) | .neq => some (evA g x, false) | _ => none
    | _ => none
  | _ => none
/-- What is known of a slice that is nil. -/
def slE : AVal → Prop
  | .r (.bs s) => s = []
  | .sl _ _ _ _ => False
  | _ => True
theorem slE_val {R : Nat → Prop} {μ : Mu} {w : World} {v : AVal} {n cap : Nat} (hv : ARel R μ w v (.slice none n cap)) : slE v := by
  unfold slE
  split
  · rename_i s
    simp only [ARel, RRel] at hv
    obtain ⟨a, cap', h1, _, h2⟩ := hv
    cases h1
    rcases h2 with h2 | ⟨b, o, h2, _⟩
    · simpa [bytesV] using h2
    · cases h2
  · simp only [ARel] at hv
    obtain ⟨b, o, cap, cells, e, fz, _, h1, _⟩ := hv
    cases h1
  · trivial
/-- Which slices are nil is not known of an empty one: both ways. -/
theorem ar_nilEq (hTO : TOk P T) {t : Bool} {d : Nat} {v : AVal} {b : Bool} (hp : nilEqA T g o = some (v, b)) (hv : slB v = true) (hnd : deferB o = false) (hg : guardB ops g o = some t) (ht : t = true) (hd : o.dst = some d) (hN : Nat.blt d N = true)
    (hk : ∀ q, (q = b → slE v) → AReg P f N m ops rest k ((d, .r (.bool q)) :: g) h Post) : AReg P f N m ops (o :: rest) k g h Post := by
  subst ht
  intro idx hi X R μ a w b' cs e1 e2 e3 e4 e5 e6 e7
  -- which it is, the machine's own value says
  have hx : ∃ x t' ty', ((o.op = .binOp .eql t' x (.const (.slice none 0 0)) ty' ∧ b = true) ∨ (o.op = .binOp .neq t' x (.const (.slice none 0 0)) ty' ∧ b = false)) ∧ evA g x = v := by
    unfold nilEqA at hp
    split at hp
    case h_2 => simp at hp
    rename_i op t' x ty' hop
    split at hp
    case h_2 => simp at hp
    split at hp
    · simp only [Option.some.injEq, Prod.mk.injEq] at hp; exact ⟨x, t', ty', .inl ⟨hop, hp.2.symm⟩, hp.1⟩
    · simp only [Option.some.injEq, Prod.mk.injEq] at hp; exact ⟨x, t', ty', .inr ⟨hop, hp.2.symm⟩, hp.1⟩
    · simp at hp
  obtain ⟨x, t', ty', hop, hev⟩ := hx
  have hxr := evA_rel (a := a) e6 x
  rw [hev] at hxr
  obtain ⟨ad, n, cap, hval, _⟩ := slB_val hv hxr
  cases idx with
  | nil => simp at hi
  | cons i idx =>
    simp only [List.map_cons, List.cons.injEq] at hi
    obtain ⟨ho, hi⟩ := hi
    have hw := guardB_wanted hg e6
    -- the comparison's run
    have hT : ∃ e ty0, T.look t' = some ty0 ∧ ty0.k = .slice e := by
      unfold nilEqA at hp
      rcases hop with ⟨hop, _⟩ | ⟨hop, _⟩ <;> rw [hop] at hp <;> simp only at hp <;> split at hp <;> first | (simp at hp; done) | (rename_i e _ _ _ hT; exact ⟨e, _, hT, rfl⟩)
    obtain ⟨e, ty0, hT, hk0⟩ := hT
    obtain ⟨dd, hdd, hkk⟩ := tyk_ok hTO hT
    rw [hk0] at hkk
    simp only [TyK.ok] at hkk
    subst hkk
    have hev2 : a.eval (.const (.slice none 0 0)) = .slice none 0 0 := rfl
    have heq : (Op.equal t' (.slice ad n cap) (.slice none 0 0)).run P w = .ok ad.isNone w := by
      exact eq_sl_nil ad n cap hdd
    have hrun : ∃ q, (execOp a.eval o).run P w = .ok (.value (.bool q)) w ∧ (q = b → ad.isNone = true) := by
      rcases hop with ⟨hop, rfl⟩ | ⟨hop, rfl⟩
      · refine ⟨ad.isNone, ?_, fun h => h⟩
        simp only [execOp, hop, hev2, hval, Sem.run_bind]
        have hg : (eqGuard .eql t' x (.const (.slice none 0 0)) (.slice ad n cap) (.slice none 0 0)).run P w = .ok () w := by simp [eqGuard]
        rw [hg]
        simp only [Result.andThen_ok]
        rw [binOp_eql (by simp) (by simp) (by simp) (by simp)]
        simp only [Sem.run_bind, heq, Result.andThen_ok, Sem.run_pure]
      · refine ⟨!ad.isNone, ?_, fun h => by simpa using h⟩
        simp only [execOp, hop, hev2, hval, Sem.run_bind]
        have hg : (eqGuard .neq t' x (.const (.slice none 0 0)) (.slice ad n cap) (.slice none 0 0)).run P w = .ok () w := by simp [eqGuard]
        rw [hg]
        simp only [Result.andThen_ok]
        rw [binOp_neq (by simp) (by simp) (by simp) (by simp)]
        simp only [Sem.run_bind, heq, Result.andThen_ok, Sem.run_pure]
    obtain ⟨q, hrun, hq⟩ := hrun
    obtain ⟨u, w2, fr, h4, rest'⟩ := hk q (fun h => by
      have := hq h
      cases ad with
      | none => rw [hval] at hxr; exact slE_val hxr
      | some _ => simp at this) idx hi X R μ (a.put o.dst (.bool q)) w b' cs e1 e2 e3 (by rw [put_defers]; exact e4) (by rw [put_size]; exact e5) (by
      rw [hd]; exact e6.put (by rw [e5]; exact Nat.le_of_ble_eq_true hN) (by simp [ARel, RRel])) e7
    have hst := stepGR_op (P := P) (b := b') (k := k) (cs := cs) (w := w) (rest := idx) ho hw
    have hfin : ∀ v, (b'.atR a (.inRegion ops (i :: idx) :: k)).finish v = b'.atR (a.put o.dst v) (.inRegion ops idx :: k) := by
      intro v; rw [Frame.finish_atR, ho]; rfl
    refine ⟨u, w2, fr, Steps.head (step_lone_go ?_) h4, rest'⟩
    rw [hst, ← hfin, semAt_of_value (.inl ⟨_, hrun⟩)]
    simp [stepG.apply, hrun]
/-- '[]byte' of a constant: the slice's block gets its mark. -/
def convSlA (T : TTab) (g : Regs) (h : Hp) (o : Oper) : Option ((Nat × Nat × Nat × Nat) × ABlk) :=
  match o.op with
  | .convert src dst x =>
    match T.look src, Nat.beq src dst, evA g x with
    | some { k := .slice e, .. }, true, .sl β off n z =>
      match T.look e, h.get β with
      | some { k := .int .u8, .. }, some blk => some ((β, off, n, z), blk)
      | _, _ => none
    | _, _, _ => none
  | _ => none
theorem qop_convSl (hTO : TOk P T) {β off n z : Nat} {blk : ABlk} (hp : convSlA T g h o = some ((β, off, n, z), blk)) : QOp P N h ⟨h.nxt, (β, some blk) :: (β, none) :: h.tab, h.gh⟩ o g (.sl β off n z) := by
  intro g' hag X R μ a w Q e5 e6 e7
  unfold convSlA at hp
  split at hp
  case h_2 => simp at hp
  rename_i src dst x hop
  split at hp
  case h_2 => simp at hp
  rename_i e _ _ _ β0 off0 n0 z0 hS hbq hx
  split at hp
  case h_2 => simp at hp
  rename_i blk0 hE hg
  simp only [Option.some.injEq, Prod.mk.injEq] at hp
  obtain ⟨⟨rfl, rfl, rfl, rfl⟩, rfl⟩ := hp
  have hsd : src = dst := Nat.eq_of_beq_eq_true hbq
  subst hsd
  obtain ⟨ds, hds, hk1⟩ := tyk_ok hTO hS
  obtain ⟨de, hde, hk2⟩ := tyk_ok hTO hE
  simp only [TyK.ok] at hk1 hk2
  subst hk1; subst hk2
  rw [hop] at hag
  have hxr := evA_rel (a := a) e6 x
  rw [hag x (by simp [Op.operands]), hx] at hxr
  have hxr0 := hxr
  simp only [ARel] at hxr
  obtain ⟨b, o1, cap, cells, el, fz, h2, hval, h4, h5, h6, h7⟩ := hxr
  obtain ⟨b', o', h8, hnR, hown, h9⟩ := e7.live β0 blk0 hg
  rw [h2] at h8; cases h8
  obtain ⟨cells', el', fz', vs, h10, h11, h12, h13, h14⟩ := h9.ex
  rw [h6] at h10; cases h10
  let fz2 : Nat × Nat := if fz.1 == fz.2 then (cells.size, cells.size + 1) else (min fz.1 cells.size, max fz.2 (cells.size + 1))
  let w' := w.freeze { block := b, off := cells.size } 1
  have hheap : ∀ j, w'.heap[j]? = if j = b then some (Obj.cells cells el fz2) else w.heap[j]? := by
    intro j
    show (w.freeze _ 1).heap[j]? = _
    unfold World.freeze
    rw [if_neg (by decide)]
    simp only [Array.getElem?_modify]
    by_cases e : b = j
    · subst e
      simp only [if_true, h6, Option.map_some]
      rfl
    · rw [if_neg e, if_neg (fun e2 => e e2.symm)]
  have hsize : w'.heap.size = w.heap.size := by
    show (w.freeze _ 1).heap.size = _
    unfold World.freeze
    rw [if_neg (by decide)]
    simp
  have hfz : fz2.1 ≤ fz2.2 ∧ ∀ i, fz2.1 ≤ i → i < fz2.2 → cells.size ≤ i := by
    obtain ⟨k1, k2⟩ := h11
    simp only [fz2]
    by_cases e : fz.1 = fz.2
    · simp only [e, beq_self_eq_true, if_true]
      exact ⟨by omega, fun i h _ => h⟩
    · rw [if_neg (by simpa using e)]
      have h15 := k2 fz.1 (Nat.le_refl _) (by omega)
      exact ⟨by simp only; omega, fun i h _ => by simp only at h; omega⟩
  have hgr : w.grownBy w' (some b) := ⟨rfl, rfl, rfl, by rw [hsize]; exact Nat.le_refl _, fun k _ hne => by rw [hheap k, if_neg (fun e => hne (by rw [e]))]⟩
  have hsh : ∀ b', some b = some b' → ¬ R b' ∧ ∀ (c : Array Value) (e : TypeId) (f : Nat × Nat), w.heap[b']? = some (Obj.cells c e f) → ∃ (c' : Array Value) (f' : Nat × Nat), w'.heap[b']? = some (Obj.cells c' e f') ∧ c'.size = c.size := by
    rintro b' rfl'
    cases rfl'
    refine ⟨hnR, fun c e f hcf => ?_⟩
    rw [h6] at hcf
    cases hcf
    exact ⟨_, _, by rw [hheap, if_pos rfl], rfl⟩
  have hon := e7.onward hgr hsh
  have Hk : HRel X R μ { h with tab := (β0, none) :: h.tab } w' := (e7.kill β0).grow hgr hsh (by
    rintro b' rfl'
    cases rfl'
    exact ⟨hown, e7.free_kill hg h2⟩) (by
    rintro b' rfl'
    cases rfl'
    exact ⟨cells, el, fz, h6⟩)
  have Hp := Hk.put (β := β0) (b := b) (o := o1) (blk := blk0) h2 hnR hown ⟨cells, el, fz2, vs, by rw [hheap, if_pos rfl], hfz, h12.mono (fun _ h => h) hon (fun _ _ h => h), h13, h14⟩
    (fun γ blk' o' _ hg' hm' => e7.free_kill hg h2 γ blk' o' hg' hm')
  refine wp_value (u := a.eval x) (w' := w') ?_ ⟨_, R, μ, rfl, ARel.mono (fun _ h => h) hon (fun _ _ h => h) _ _ hxr0, e6.mono (fun _ h => h) hon (fun _ _ h => h), Hp⟩
  simp only [execOp, hop, Sem.run_bind]
  have hc : (convert src src (a.eval x)).run P w = .ok (a.eval x) w' := by
    rw [hval]
    have hshp : w.shape? b = some (el, cells.size) := by unfold World.shape?; rw [h6]
    simp [convert, run_underlying hds, run_underlying hde, markStringish, hshp]
    rfl
  rw [hc]
  rfl
end
end Go.Proofs.Ytopfpkmdkcjjlaa
namespace Go.Proofs.Ytopfpkmdkcjjlaa
open Go
set_option linter.unusedVariables false
set_option linter.unusedSimpArgs false
section
variable {P : Program} {T : TTab} {f N : Nat} {m : Md} {ops : Array Oper} {o : Oper} {rest : List Oper} {k : List Item} {g g' : Regs} {h h' : Hp} {Post : AVal → Hp → Prop}
/-- A block is told more loosely. -/
theorem ent_blk (β : Nat) (bd bd' : Body) (hg : h.get β = some bd) (he : ∀ (R : Nat → Prop) (μ : Mu) (w : World) (vs : List Value), BodyRel R μ w bd vs → BodyRel R μ w bd' vs) : Ent m g h g (h.set β (some bd')) := by
  intro X R μ w tmps e1 e2 e3
  obtain ⟨b, o, h1, h2, h3, h4⟩ := e3.live β bd hg
  obtain ⟨cells, el, fz, vs, h5, h6, h7, h8, h9⟩ := h4.ex
  exact ⟨R, μ, e2, e3.put h1 h2 h3 ⟨cells, el, fz, vs, h5, h6, he R μ w vs h7, h8, h9⟩ (fun γ blk' o' hne hg' => by
    intro hm
    exact hne (e3.inj γ β blk' bd b b o' o hg' hg hm h1 rfl))⟩
end
end Go.Proofs.Ytopfpkmdkcjjlaa
namespace Go.Proofs.Ytopfpkmdkcjjlaa
open Go
set_option linter.unusedVariables false
section
variable {P : Program} {T : TTab} {f N : Nat} {m : Md} {fn : Func} {ops : Array Oper} {o : Oper} {rest : List Oper} {k : List Item} {g g' : Regs} {h h2 : Hp} {Post : AVal → Hp → Prop}
end
end Go.Proofs.Ytopfpkmdkcjjlaa
namespace Go.Proofs.Ytopfpkmdkcjjlaa
open Go
set_option linter.unusedVariables false
section
variable {P : Program} {T : TTab} {f N : Nat} {m : Md} {ops : Array Oper} {o : Oper} {rest : List Oper} {g : Regs} {ld : List Nat} {K ix : Nat} {F : Regs → Prop}
end
end Go.Proofs.Ytopfpkmdkcjjlaa
namespace Go.Proofs.Ytopfpkmdkcjjlaa
open Go
set_option linter.unusedVariables false
section
variable {P : Program} {T : TTab} {N : Nat} {o : Oper} {g : Regs}
end
def ad (x y : Int) : Int := IntKind.u32.wrap (x + y)
def xo (x y : Int) : Int := ibit .xor .u32 x y
def an (x y : Int) : Int := ibit .and .u32 x y
def oo (x y : Int) : Int := ibit .or .u32 x y
def sr (x : Int) (n : Nat) : Int := x.fdiv (2 ^ n)
def tu (x : Int) (n : Nat) : Int := oo (sr x n) (IntKind.u32.wrap (x * 2 ^ (32 - n)))
def bs0 (x : Int) : Int := xo (xo (tu x 2) (tu x 13)) (tu x 22)
def bs1 (x : Int) : Int := xo (xo (tu x 6) (tu x 11)) (tu x 25)
def chv (e f g : Int) : Int := xo (an e f) (an (xo 4294967295 e) g)
def mjv (a b c : Int) : Int := xo (xo (an a b) (an a c)) (an b c)
structure Q8 where
  a : Int
  b : Int
  c : Int
  d : Int
  e : Int
  f : Int
  g : Int
  h : Int
def Q8.cells (s : Q8) : List RVal := [.int .u32 s.a, .int .u32 s.b, .int .u32 s.c, .int .u32 s.d, .int .u32 s.e, .int .u32 s.f, .int .u32 s.g, .int .u32 s.h]
def Q8.av (s : Q8) : AVal := .agg (s.cells.map .r)
def rt1 (s : Q8) : Int := ad (ad s.h (bs1 s.e)) (chv s.e s.f s.g)
def rt2 (s : Q8) : Int := ad (bs0 s.a) (mjv s.a s.b s.c)
def rnd (s : Q8) (kw : Int) : Q8 := ⟨ad (ad (rt1 s) kw) (rt2 s), s.a, s.b, s.c, ad s.d (ad (rt1 s) kw), s.e, s.f, s.g⟩
end Go.Proofs.Ytopfpkmdkcjjlaa
namespace Go.Proofs.Ytopfpkmdkcjjlaa
open Go
set_option linter.unusedVariables false
/-- What names nothing; the same of registers. -/
def nlA (v : AVal) : AVal := bif AVal.nb 0 v then v else .any
def nlR : Regs → Regs
  | [] => []
  | (t, v) :: g => (t, nlA v) :: nlR g
theorem nlR_look : ∀ (g : Regs) (t : Nat), lookR (nlR g) t = nlA (lookR g t)
  | [], _ => rfl
  | (a, v) :: g, t => by
    simp only [nlR, lookR]
    cases Nat.beq a t <;> simp only [cond_true, cond_false]
    exact nlR_look g t
theorem nlR_eval {g : Regs} {x : Operand} (h : AVal.nb 0 (evA g x) = true) : evA (nlR g) x = evA g x := by
  cases x with
  | tmp t => simp only [evA, nlR_look] at h ⊢; simp [nlA, h]
  | _ => rfl
theorem nlR_rel {R : Nat → Prop} {μ : Mu} {w : World} {g : Regs} {tmps : Array Value} (h : RegRel R μ w g tmps) : RegRel R [] w (nlR g) tmps := by
  intro t
  rw [nlR_look]
  unfold nlA
  cases hb : AVal.nb 0 (lookR g t) with
  | false => simp [ARel]
  | true =>
    simp only [cond_true]
    refine ARel.unren (μ := []) (μ2 := μ) (ρ := id) (m := 0) (fun β hβ => absurd hβ (Nat.not_lt_zero _)) _ _ hb ?_
    rw [ren_below0 _ hb]
    exact h t
section
variable {P : Program} {T : TTab} {N : Nat} {o : Oper} {g g' : Regs} {h : Hp}
/-- An operation that makes a new slice out of what names nothing: the slice, read-only. -/
theorem qop_roq {d off n z : Nat} {bd bd' : Body} {v : RVal} {c : Prop} (hd : o.dst = some d) (hN : Nat.blt d N = true) (hs : ∀ g', (∀ x ∈ o.op.operands, evA g' x = evA g x) → OpStep P N o g' ⟨0, [], false⟩ ((d, .sl 0 off n z) :: g') (Hp.push ⟨0, [], false⟩ bd))
    (hnb : (o.op.operands.toList.all fun x => AVal.nb 0 (evA g x)) = true) (he : ∀ (R : Nat → Prop) (μ : Mu) (w : World) (vs : List Value), BodyRel R μ w bd vs → BodyRel R μ w bd' vs) (hr : roOf bd' off n z = some (v, c)) (hc : c) : QOp P N h h o g (.r v) := by
  intro g' hag X R μ a w Q e5 e6 e7
  have H0 := handed_rel e7 (handed_none (h := h))
  have hcong : ∀ x ∈ o.op.operands, evA (nlR g') x = evA g x := by
    intro x hx
    have h1 := List.all_eq_true.1 hnb x (Array.mem_toList_iff.2 hx)
    rw [nlR_eval (by rw [hag x hx]; exact h1), hag x hx]
  obtain ⟨u, w', R', μ', h1, h2, h3⟩ := hs (nlR g') hcong (callCtx w ⟨0, [], false⟩ R (muOf μ [])) R (muOf μ []) a w e5 (nlR_rel e6) H0
  have h2d := h2 d
  have hlt : d < a.tmps.size := by rw [e5]; exact Nat.le_of_ble_eq_true hN
  simp only [lookR, Nat.beq_refl, cond_true] at h2d
  rw [hd] at h2d
  have hput : (a.put (some d) u).tmps.getD d undef = u := by simp [Act.put, Array.getD, hlt]
  rw [hput] at h2d
  have he1 := ent_blk (m := .of (callCtx w ⟨0, [], false⟩ R (muOf μ [])).μ0.length) (g := [(0, .sl 0 off n z)]) (h := Hp.push ⟨0, [], false⟩ bd) 0 bd bd' rfl he
  have he2 := ent_freeze (m := .of (callCtx w ⟨0, [], false⟩ R (muOf μ [])).μ0.length) (g := [(0, .sl 0 off n z)]) (h := Hp.set (Hp.push ⟨0, [], false⟩ bd) 0 (some bd')) 0 (β := 0) (off := off) (n := n) (z := z) (bd := bd') rfl rfl hr hc
  obtain ⟨R2, μ2, h5, h6⟩ := (he1.trans he2) (callCtx w ⟨0, [], false⟩ R (muOf μ [])) R' μ' w' #[u] rfl (fun t => by
    simp only [lookR]
    by_cases e : 0 = t
    · subst e; simpa using h2d
    · rw [beq_ne e]; simp [ARel]) h3
  have h50 : RRel R2 w' v u := by
    have := h5 0
    simpa [lookR, ARel] using this
  obtain ⟨hon, hRR, hK, _⟩ := after_call e7 (handed_none (h := h)) h6
  have hfin : ARel R2 μ w' (.r v) u := by simp only [ARel]; exact h50
  unfold Oper.wp
  rcases h1 with h1 | ⟨h1, rfl⟩
  · rw [h1]; exact ⟨u, R2, μ, rfl, hfin, e6.mono hRR hon (fun _ _ h => h), hK⟩
  · rw [h1]; exact ⟨undef, R2, μ, rfl, hfin, e6.mono hRR hon (fun _ _ h => h), hK⟩
/-- What a slice of a whole block is as a read-only value. -/
def roAll (bd : Body) (n z : Nat) : Option (RVal × Prop) :=
  match bd with
  | .bytes s => some (.bs s, s.length = n ∧ z = 1)
  | .plain xs => some (.ro n xs, xs.length = n * z)
  | .mixed _ => none
theorem roAll_of {bd : Body} {n z : Nat} {v : RVal} {c : Prop} (h : roAll bd n z = some (v, c)) (hc : c) : ∃ c', roOf bd 0 n z = some (v, c') ∧ c' := by
  unfold roAll at h
  split at h
  · simp only [Option.some.injEq, Prod.mk.injEq] at h
    obtain ⟨rfl, rfl⟩ := h
    rename_i s
    exact ⟨_, by rw [roOf, cutA_eq, List.drop_zero, List.take_of_length_le (by omega)], And.intro (by omega) hc.2⟩
  · simp only [Option.some.injEq, Prod.mk.injEq] at h
    obtain ⟨rfl, rfl⟩ := h
    exact ⟨True, by rw [roOf, cutA_eq, List.drop_zero, List.take_of_length_le (by omega)], trivial⟩
  · simp at h
/-- '[]T{..}', read-only. -/
def buildRoA (T : TTab) (N : Nat) (g : Regs) (o : Oper) : Option (RVal × Prop) :=
  match stepNew T N g 0 o with
  | some (_, .sl 0 0 n z, blk, c) =>
    match roAll (appN blk).1 n z with
    | some (v, c') => some (v, c ∧ (appN blk).2 ∧ c')
    | none => none
  | _ => none
theorem qop_buildRo (hTO : TOk P T) {v : RVal} {c : Prop} (hp : buildRoA T N g o = some (v, c)) (hc : c) (hnb : (o.op.operands.toList.all fun x => AVal.nb 0 (evA g x)) = true) : QOp P N h h o g (.r v) := by
  unfold buildRoA at hp
  split at hp
  case h_2 => simp at hp
  rename_i d n z blk c0 hs
  split at hp
  case h_2 => simp at hp
  rename_i v' c' hr
  simp only [Option.some.injEq, Prod.mk.injEq] at hp
  obtain ⟨rfl, rfl⟩ := hp
  obtain ⟨hd, hN⟩ := stepNew_dst hs
  obtain ⟨_, hr, hcr⟩ := roAll_of hr hc.2.2
  exact qop_roq hd hN (fun g' hag => opStep_new (h := ⟨0, [], false⟩) hTO ((stepNew_congr hag).trans hs) hc.1) hnb (fun R μ w vs hb => appN_sound hc.2.1 hb) hr hcr
/-- A contract, for other arguments that hold no more. -/
theorem Spec.args {n : FuncId} {as as' : List AVal} {hp : Hp} {Q : AVal → Hp → Prop} (hs : Spec P n as hp Q) (ha : ∀ (R : Nat → Prop) (μ : Mu) (w : World) (cs : List Value), ARels R μ w as' cs → ARels R μ w as cs) : Spec P n as' hp Q :=
  ⟨hs.can, fun R μ w cargs h1 h2 => hs.run R μ w cargs h1 (ha R μ w cargs h2)⟩
end
end Go.Proofs.Ytopfpkmdkcjjlaa
namespace Go.Proofs.Ytopfpkmdkcjjlaa
open Go
set_option linter.unusedVariables false
mutual
/-- No name but those below n, and not b. -/
def AVal.nob (b n : Nat) : AVal → Bool
  | .sl β _ _ _ => Nat.blt β n && !Nat.beq β b
  | .ptr β _ => Nat.blt β n && !Nat.beq β b
  | .func _ cs => AVal.nobs b n cs
  | .agg cs => AVal.nobs b n cs
  | .tuple cs => AVal.nobs b n cs
  | .r _ => true
  | .rp _ _ => true
  | .bp _ _ => true
  | .yld _ => true
  | .any => true
def AVal.nobs (b n : Nat) : List AVal → Bool
  | [] => true
  | x :: xs => AVal.nob b n x && AVal.nobs b n xs
end
theorem nob_ne {b n β : Nat} (h : (Nat.blt β n && !Nat.beq β b) = true) : β ≠ b := by
  simp only [Bool.and_eq_true, Bool.not_eq_true'] at h
  intro e; subst e; simp at h
mutual
theorem ARel.other {R : Nat → Prop} {μ μ2 : Mu} {w : World} {b n : Nat} (hm : ∀ β, β ≠ b → ∀ p, μ[β]? = some p → μ2[β]? = some p) : ∀ (v : AVal) (c : Value), AVal.nob b n v = true → ARel R μ w v c → ARel R μ2 w v c
  | .r v, c, _, h => by simp only [ARel] at h ⊢; exact h
  | .sl β off k z, c, hn, h => by
    simp only [AVal.nob] at hn
    simp only [ARel] at h ⊢
    obtain ⟨b', o, cap, cells, e, fz, h1, h2⟩ := h
    exact ⟨b', o, cap, cells, e, fz, hm _ (nob_ne hn) _ h1, h2⟩
  | .ptr β off, c, hn, h => by
    simp only [AVal.nob] at hn
    simp only [ARel] at h ⊢
    obtain ⟨b', o, h1, h2⟩ := h
    exact ⟨b', o, hm _ (nob_ne hn) _ h1, h2⟩
  | .func f caps, c, hn, h => by
    simp only [AVal.nob] at hn
    simp only [ARel] at h ⊢
    obtain ⟨cs, h1, h2⟩ := h
    exact ⟨cs, h1, ARels.other hm caps cs hn h2⟩
  | .agg xs, c, hn, h => by
    simp only [AVal.nob] at hn
    simp only [ARel] at h ⊢
    obtain ⟨cs, h1, h2⟩ := h
    exact ⟨cs, h1, ARels.other hm xs cs hn h2⟩
  | .tuple xs, c, hn, h => by
    simp only [AVal.nob] at hn
    simp only [ARel] at h ⊢
    obtain ⟨cs, h1, h2⟩ := h
    exact ⟨cs, h1, ARels.other hm xs cs hn h2⟩
  | .rp xs o, c, _, h => by simp only [ARel] at h ⊢; exact h
  | .bp s o, c, _, h => by simp only [ARel] at h ⊢; exact h
  | .yld _, _, _, h => by simpa only [ARel] using h
  | .any, _, _, _ => by simp only [ARel]
theorem ARels.other {R : Nat → Prop} {μ μ2 : Mu} {w : World} {b n : Nat} (hm : ∀ β, β ≠ b → ∀ p, μ[β]? = some p → μ2[β]? = some p) : ∀ (v : List AVal) (c : List Value), AVal.nobs b n v = true → ARels R μ w v c → ARels R μ2 w v c
  | [], _, _, h => by simpa [ARels] using h
  | x :: xs, c, hn, h => by
    simp only [AVal.nobs, Bool.and_eq_true] at hn
    simp only [ARels] at h ⊢
    obtain ⟨d, r, h1, h2, h3⟩ := h
    exact ⟨d, r, h1, ARel.other hm x d hn.1 h2, ARels.other hm xs r hn.2 h3⟩
end
def Body.nob (b n : Nat) : Body → Bool
  | .mixed cs => AVal.nobs b n cs
  | _ => true
theorem BlkRel.other {R : Nat → Prop} {μ μ2 : Mu} {w : World} {b n bb oo : Nat} {bd : Body} (hm : ∀ β, β ≠ b → ∀ p, μ[β]? = some p → μ2[β]? = some p) (hn : bd.nob b n = true) (h : BlkRel R μ w bb oo bd) : BlkRel R μ2 w bb oo bd := by
  obtain ⟨cells, el, fz, vs, h1, h2, h3, h4⟩ := h.ex
  refine ⟨cells, el, fz, vs, h1, h2, ?_, h4⟩
  cases bd with
  | bytes s => exact h3
  | plain xs => exact h3
  | mixed cs => exact ARels.other hm cs vs hn h3
def Regs.nob (b n : Nat) : Regs → Bool
  | [] => true
  | (_, v) :: r => AVal.nob b n v && Regs.nob b n r
section
variable {P : Program} {T : TTab} {f N : Nat} {m : Md} {ops : Array Oper} {o : Oper} {rest : List Oper} {todo k : List Item} {g : Regs} {h h' : Hp} {Post : AVal → Hp → Prop}
/-- A table told in another order. -/
def SubT (h : Hp) : List (Nat × Option Body) → Prop
  | [] => True
  | (i, v) :: l => h.get i = v ∧ SubT h l
theorem subT_look {h : Hp} : ∀ {l : List (Nat × Option Body)}, SubT h l → ∀ {i : Nat} {bd : Body}, Hp.look l i = some bd → h.get i = some bd
  | [], _, i, bd, hg => by simp [Hp.look] at hg
  | (j, v) :: l, hs, i, bd, hg => by
    rw [look_kill] at hg
    split at hg
    · rename_i e
      subst e
      rw [hs.1, hg]
    · exact subT_look hs.2 hg
end
end Go.Proofs.Ytopfpkmdkcjjlaa
namespace Go.Proofs.Ytopfpkmdkcjjlaa
open Go
set_option linter.unusedVariables false
section
variable {P : Program} {T : TTab} {f N : Nat} {m : Md} {ops : Array Oper} {o : Oper} {rest : List Oper} {k : List Item} {g : Regs} {h h2 h' : Hp} {ld : List Nat} {K ix : Nat} {F : Regs → Prop} {Post : AVal → Hp → Prop}
theorem HRel.sub {X : Ctx} {R : Nat → Prop} {μ : Mu} {w : World} (hn : h'.nxt = h.nxt) (hgh : h'.gh = h.gh) (hs : SubT h h'.tab) (e3 : HRel X R μ h w) : HRel X R μ h' w := by
  have hg : ∀ β blk, h'.get β = some blk → h.get β = some blk := fun β blk hg => subT_look hs hg
  exact { os := e3.os, tape := e3.tape, output := e3.output, size := e3.size, keep := e3.keep, shape := e3.shape, r0 := e3.r0, rO := e3.rO, rlt := e3.rlt, rc := e3.rc, mu := e3.mu, len := by rw [hn]; exact e3.len,
          live := fun β blk h => e3.live β blk (hg β blk h), inj := fun β β' k k' b b' o o' h1 h2 => e3.inj β β' k k' b b' o o' (hg β k h1) (hg β' k' h2), inv := by rw [hgh]; exact e3.inv }
end
end Go.Proofs.Ytopfpkmdkcjjlaa
namespace Go.Proofs.Ytopfpkmdkcjjlaa
open Go
section
variable {P : Program} {T : TTab} {f N : Nat} {m : Md} {ops ops0 : Array Oper} {o : Oper} {rest : List Oper} {k : List Item} {g : Regs} {h h' : Hp} {Post : AVal → Hp → Prop} {x y : Code} {id : Nat}
theorem zB (hk : AReg P f N m ops ops.toList (.code y :: k) g h Post) : AGo P f N m (.code (.seq (.region id ops false) y) :: k) g h Post := ag_seq (ag_reg hk)
theorem zC (hk : AReg P f N m ops ops.toList (.code y :: k) g h Post) : AReg P f N m ops0 [] (.code (.seq (.region id ops false) y) :: k) g h Post := ar_nil (zB hk)
theorem zA (hk : AGo P f N m (.code x :: .code y :: k) g h Post) : AReg P f N m ops0 [] (.code (.seq x y) :: k) g h Post := ar_nil (ag_seq hk)
end
end Go.Proofs.Ytopfpkmdkcjjlaa
namespace Go.Proofs.Ytopfpkmdkcjjlaa
open Go
section
variable {m : Md} {g : Regs} {h : Hp}
end
section
variable {P : Program} {T : TTab} {N ix j K : Nat} {ops : Array Oper} {o : Oper} {rest : List Oper} {g : Regs} {ld : List Nat} {Hs : Nat → Hp} {F : Regs → Prop}
end
section
variable {P : Program} {f N : Nat} {m : Md} {todo k : List Item} {g : Regs} {h : Hp} {Post : AVal → Hp → Prop}
end
end Go.Proofs.Ytopfpkmdkcjjlaa


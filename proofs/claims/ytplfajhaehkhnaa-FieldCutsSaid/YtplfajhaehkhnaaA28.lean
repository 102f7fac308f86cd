/-
  ABSTRACT MACHINE, 28: a call that is handed blocks, and hands them back: objects.
-/
import Derived.Test.YtplfajhaehkhnaaA22
namespace Go.Proofs.Ytplfajhaehkhnaa
open Go

mutual
theorem ARel.ren' {R : Nat → Prop} {μ μ2 : Mu} {w : World} {ρ : Nat → Nat} (hm : ∀ β p, μ[β]? = some p → μ2[ρ β]? = some p) : ∀ (v : AVal) (c : Value), ARel R μ w v c → ARel R μ2 w (AVal.ren ρ v) c
  | .sl β off n z, c, h => by
    simp only [ARel, AVal.ren] at h ⊢
    obtain ⟨b, o, cap, cells, e, fz, h1, rest⟩ := h
    exact ⟨b, o, cap, cells, e, fz, hm β _ h1, rest⟩
  | .ptr β off, c, h => by
    simp only [ARel, AVal.ren] at h ⊢
    obtain ⟨b, o, h1, h2⟩ := h
    exact ⟨b, o, hm β _ h1, h2⟩
  | .func f cs, c, h => by
    simp only [ARel, AVal.ren] at h ⊢
    obtain ⟨ds, h1, h2⟩ := h
    exact ⟨ds, h1, ARels.ren' hm cs ds h2⟩
  | .agg cs, c, h => by
    simp only [ARel, AVal.ren] at h ⊢
    obtain ⟨ds, h1, h2⟩ := h
    exact ⟨ds, h1, ARels.ren' hm cs ds h2⟩
  | .tuple cs, c, h => by
    simp only [ARel, AVal.ren] at h ⊢
    obtain ⟨ds, h1, h2⟩ := h
    exact ⟨ds, h1, ARels.ren' hm cs ds h2⟩
  | .r v, c, h => by simpa only [ARel, AVal.ren] using h
  | .rp xs o, c, h => by simpa only [ARel, AVal.ren] using h
  | .bp s o, c, h => by simpa only [ARel, AVal.ren] using h
  | .yld _, c, h => by simpa only [ARel, AVal.ren] using h
  | .any, c, h => by simp only [ARel, AVal.ren]
theorem ARels.ren' {R : Nat → Prop} {μ μ2 : Mu} {w : World} {ρ : Nat → Nat} (hm : ∀ β p, μ[β]? = some p → μ2[ρ β]? = some p) : ∀ (v : List AVal) (c : List Value), ARels R μ w v c → ARels R μ2 w (AVal.rens ρ v) c
  | [], c, h => by simpa only [ARels, AVal.rens] using h
  | x :: xs, c, h => by
    simp only [ARels, AVal.rens] at h ⊢
    obtain ⟨a, r, h1, h2, h3⟩ := h
    exact ⟨a, r, h1, ARel.ren' hm x a h2, ARels.ren' hm xs r h3⟩
end

theorem BlkRel.ren' {R : Nat → Prop} {μ μ2 : Mu} {w : World} {ρ : Nat → Nat} (hm : ∀ β p, μ[β]? = some p → μ2[ρ β]? = some p) {b o : Nat} {bd : Body} (h : BlkRel R μ w b o bd) : BlkRel R μ2 w b o (bd.ren ρ) := by
  obtain ⟨cells, el, fz, vs, h7, h8, h9, h10, h11⟩ := h.ex
  refine ⟨cells, el, fz, vs, h7, h8, ?_, h10, h11⟩
  cases bd with
  | mixed cs => exact ARels.ren' hm cs vs h9
  | plain xs => exact h9
  | bytes s => exact h9

/-- A callee's names among the caller's. -/
def rhoO (h : Hp) (ι : List Nat) (i : Nat) : Nat :=
  match ι[i]? with
  | some γ => γ
  | none => h.nxt + (i - ι.length)

def mergeH (h h' : Hp) (ι : List Nat) : Hp := ⟨h.nxt + (h'.nxt - ι.length), h'.tab.map (fun e => (rhoO h ι e.1, e.2.map (Body.ren (rhoO h ι)))) ++ (h.kills ι).tab, h.gh⟩

theorem look_app2 {a b : List (Nat × Option ABlk)} {γ : Nat} : ∀ {blk : ABlk}, Hp.look (a ++ b) γ = some blk → Hp.look a γ = some blk ∨ Hp.look b γ = some blk := by
  induction a with
  | nil => exact fun h => .inr h
  | cons x l ih =>
    obtain ⟨i, v⟩ := x
    intro blk h
    rw [List.cons_append, look_kill] at h
    rw [look_kill]
    split at h
    · rename_i e; rw [if_pos e]; exact .inl h
    · rename_i e; rw [if_neg e]; exact ih h

theorem look_map {ρ : Nat → Nat} {φ : ABlk → ABlk} {γ : Nat} : ∀ {l : List (Nat × Option ABlk)} {blk : ABlk}, Hp.look (l.map fun e => (ρ e.1, e.2.map φ)) γ = some blk → ∃ i b, ρ i = γ ∧ Hp.look l i = some b ∧ blk = φ b
  | [], blk, h => by simp [Hp.look] at h
  | (i, v) :: l, blk, h => by
    simp only [List.map_cons, look_kill] at h
    split at h
    · rename_i e
      cases v with
      | none => simp at h
      | some b =>
        simp only [Option.map_some, Option.some.injEq] at h
        exact ⟨i, b, e, by simp [look_kill], h.symm⟩
    · rename_i e
      obtain ⟨j, b, h1, h2, h3⟩ := look_map h
      refine ⟨j, b, h1, ?_, h3⟩
      rw [look_kill, if_neg (fun e2 => e (by rw [e2]; exact h1))]
      exact h2

section
variable {X : Ctx} {R : Nat → Prop} {μ : Mu} {h hp : Hp} {w : World} {ι : List Nat}

theorem rho_ok (hl : μ.length = h.nxt) (hh : Handed h hp ι) {μ' : Mu} (hmu : ∀ (β : Nat) p, (muOf μ ι)[β]? = some p → μ'[β]? = some p) : ∀ (β : Nat) p, μ'[β]? = some p → (μ ++ μ'.drop ι.length)[rhoO h ι β]? = some p := by
  intro β p hp'
  unfold rhoO
  by_cases hb : β < ι.length
  · have hlt : ι[β] < μ.length := by rw [hl]; exact hh.lt _ (List.getElem_mem hb)
    have h1 : (muOf μ ι)[β]? = some (μ.getD ι[β] (0, 0)) := by simp [muOf, hb]
    have h2 := hmu β _ h1
    rw [hp'] at h2
    cases h2
    rw [List.getElem?_eq_getElem hb]
    simp only
    rw [List.getElem?_append_left hlt]
    simp [List.getD, List.getElem?_eq_getElem hlt]
  · rw [List.getElem?_eq_none (l := ι) (Nat.le_of_not_lt hb)]
    simp only
    rw [List.getElem?_append_right (by rw [hl]; omega), List.getElem?_drop, hl]
    rw [← hp']
    congr 1; omega

theorem HRel.merge (H : HRel X R μ h w) (hh : Handed h hp ι) {R' : Nat → Prop} {μ' : Mu} {h' : Hp} {w' : World} (H' : HRel (callCtx w hp R (muOf μ ι)) R' μ' h' w') :
    HRel X R' (μ ++ μ'.drop ι.length) (mergeH h h' ι) w' := by
  obtain ⟨hon, hRR, hK, hlive⟩ := after_call H hh H'
  have hrho := rho_ok H.len hh H'.mu
  have hap : ∀ (β : Nat) p, μ[β]? = some p → (μ ++ μ'.drop ι.length)[β]? = some p := by
    intro β q h
    obtain ⟨hl, _⟩ := List.getElem?_eq_some_iff.1 h
    rw [List.getElem?_append_left hl]; exact h
  have hlen' : ι.length ≤ μ'.length := by
    rcases Nat.eq_zero_or_pos ι.length with h0 | h0
    · omega
    · have hb : ι.length - 1 < ι.length := by omega
      have h1 : (muOf μ ι)[ι.length - 1]? = some (μ.getD ι[ι.length - 1] (0, 0)) := by simp [muOf, hb]
      have := H'.mu _ _ h1
      have := (List.getElem?_eq_some_iff.1 this).1
      omega
  have hsplit : ∀ γ blk, (mergeH h h' ι).get γ = some blk → (∃ i b, rhoO h ι i = γ ∧ h'.get i = some b ∧ blk = b.ren (rhoO h ι)) ∨ (h.kills ι).get γ = some blk := by
    intro γ blk hg
    rcases look_app2 hg with h1 | h1
    · obtain ⟨i, b, h2, h3, h4⟩ := look_map h1
      exact .inl ⟨i, b, h2, h3, h4⟩
    · exact .inr h1
  exact {
    os := hK.os
    tape := hK.tape
    output := hK.output
    size := hK.size
    keep := hK.keep
    shape := hK.shape
    r0 := hK.r0
    rO := hK.rO
    rlt := hK.rlt
    rc := hK.rc
    mu := fun β p hp => hap β p (hK.mu β p hp)
    len := by simp only [List.length_append, List.length_drop, mergeH, H.len, H'.len]
    live := by
      intro γ blk hg
      rcases hsplit γ blk hg with ⟨i, b0, h1, h2, rfl⟩ | h1
      · obtain ⟨b, o, h3, h4, h5, h6, h7⟩ := hlive i b0 h2
        exact ⟨b, o, by rw [← h1]; exact hrho i _ h3, h4, h5, h6.ren' hrho⟩
      · obtain ⟨b, o, h3, h4, h5, h6⟩ := hK.live γ blk h1
        exact ⟨b, o, hap _ _ h3, h4, h5, h6.mono (fun _ h => h) (Onward.refl R' w') hap rfl⟩
    inj := by
      intro γ γ' k k' b b' o o' g1 g2 m1 m2 e
      subst e
      rcases hsplit γ k g1 with ⟨i, b0, h1, h2, rfl⟩ | h1 <;> rcases hsplit γ' k' g2 with ⟨i', b0', h1', h2', rfl⟩ | h1'
      · obtain ⟨c, p, h3, _⟩ := hlive i b0 h2
        obtain ⟨c', p', h3', _⟩ := hlive i' b0' h2'
        have e1 := hrho i _ h3
        have e2 := hrho i' _ h3'
        rw [h1, m1] at e1; cases e1
        rw [h1', m2] at e2; cases e2
        have := H'.inj i i' b0 b0' b b o o' h2 h2' h3 h3' rfl
        subst this
        exact h1.symm.trans h1'
      · exfalso
        obtain ⟨c, p, h3, _, _, _, h7⟩ := hlive i b0 h2
        have e1 := hrho i _ h3
        rw [h1, m1] at e1; cases e1
        obtain ⟨c', p', h4, _⟩ := hK.live γ' k' h1'
        have e2 := hap _ _ h4
        rw [m2] at e2; cases e2
        exact h7 γ' k' o' h1' h4
      · exfalso
        obtain ⟨c, p, h3, _, _, _, h7⟩ := hlive i' b0' h2'
        have e1 := hrho i' _ h3
        rw [h1', m2] at e1; cases e1
        obtain ⟨c', p', h4, _⟩ := hK.live γ k h1
        have e2 := hap _ _ h4
        rw [m1] at e2; cases e2
        exact h7 γ k o h1 h4
      · obtain ⟨c, p, h4, _⟩ := hK.live γ k h1
        obtain ⟨c', p', h5, _⟩ := hK.live γ' k' h1'
        have e1 := hap _ _ h4
        have e2 := hap _ _ h5
        rw [m1] at e1; rw [m2] at e2; cases e1; cases e2
        exact hK.inj γ γ' k k' b b o o' h1 h1' h4 h5 rfl
    inv := hK.inv }
end

/-- What is handed, block by block. -/
def HB (h : Hp) (ι : List Nat) (n : Nat) : List (Nat × Option ABlk) → Prop
  | [] => True
  | (i, some b) :: l => Nat.blt i n = true ∧ b.nb n = true ∧ h.get (ι.getD i 0) = some (b.ren fun j => ι.getD j 0) ∧ HB h ι n l
  | (_, none) :: l => HB h ι n l

theorem HB.blk {h : Hp} {ι : List Nat} {n : Nat} : ∀ {l : List (Nat × Option ABlk)}, HB h ι n l → ∀ i blk, Hp.look l i = some blk → i < n ∧ blk.nb n = true ∧ h.get (ι.getD i 0) = some (blk.ren fun j => ι.getD j 0)
  | [], _, i, blk, hg => by simp [Hp.look] at hg
  | (j, v) :: l, hb, i, blk, hg => by
    rw [look_kill] at hg
    split at hg
    · rename_i e
      subst e
      subst hg
      exact ⟨Nat.le_of_ble_eq_true hb.1, hb.2.1, hb.2.2.1⟩
    · cases v with
      | none => exact HB.blk (l := l) hb i blk hg
      | some b => exact HB.blk hb.2.2.2 i blk hg

theorem handed_of {h hp : Hp} {ι : List Nat} (h1 : ι.length = hp.nxt) (h2 : (ι.all fun γ => Nat.blt γ h.nxt) = true) (h3 : ι.Nodup) (h4 : HB h ι hp.nxt hp.tab) : Handed h hp ι :=
  ⟨h1, fun γ hγ => Nat.le_of_ble_eq_true (List.all_eq_true.1 h2 γ hγ), h3, fun i blk hg => HB.blk h4 i blk hg⟩

def forceT {α : Type} : List (Nat × Option ABlk) → (List (Nat × Option ABlk) → Option α) → Option α
  | [], k => k []
  | (i, none) :: l, k => forceT l fun l' => k ((i, none) :: l')
  | (i, some (.bytes s)) :: l, k => forceT l fun l' => k ((i, some (.bytes s)) :: l')
  | (i, some (.plain s)) :: l, k => forceT l fun l' => k ((i, some (.plain s)) :: l')
  | (i, some (.mixed s)) :: l, k => forceL s fun s' => forceT l fun l' => k ((i, some (.mixed s')) :: l')
theorem forceT_eq {α : Type} : ∀ (l : List (Nat × Option ABlk)) (k : List (Nat × Option ABlk) → Option α), forceT l k = k l
  | [], k => rfl
  | (i, none) :: l, k => by simp only [forceT, forceT_eq l]
  | (i, some (.bytes s)) :: l, k => by simp only [forceT, forceT_eq l]
  | (i, some (.plain s)) :: l, k => by simp only [forceT, forceT_eq l]
  | (i, some (.mixed s)) :: l, k => by simp only [forceT, forceL_eq, forceT_eq l]

/-- What lies behind the call, reckoned. -/
def mergeO (h : Hp) (ι : List Nat) (v : AVal) (h' : Hp) : Option (AVal × Hp) :=
  forceV (AVal.ren (rhoO h ι) v) fun v => forceT (h'.tab.map (fun e => (rhoO h ι e.1, e.2.map (Body.ren (rhoO h ι)))) ++ (h.kills ι).tab) fun tab => some (v, ⟨h.nxt + (h'.nxt - ι.length), tab, h.gh⟩)
theorem mergeO_eq (h : Hp) (ι : List Nat) (v : AVal) (h' : Hp) : mergeO h ι v h' = some (AVal.ren (rhoO h ι) v, mergeH h h' ι) := by
  unfold mergeO
  rw [forceV_eq, forceT_eq]; rfl

section
variable {P : Program} {T : TTab} {f N : Nat} {m : Md} {ops : Array Oper} {o : Oper} {rest : List Oper} {k : List Item} {g : Regs} {h : Hp} {Post : AVal → Hp → Prop}

theorem obj_calls {n : FuncId} {as : List AVal} {hp : Hp} {ι : List Nat} {Q : AVal → Hp → Prop} (hs : Spec P n as hp Q) (hb : AVal.nbs hp.nxt as = true) (hh : Handed h hp ι) {X : Ctx} {R : Nat → Prop} {μ : Mu} {w : World} {g : Regs} {tmps : Array Value}
    (e6 : RegRel R μ w g tmps) (e7 : HRel X R μ h w) {cargs : List Value} (h2 : ARels R μ w (AVal.rens (fun j => ι.getD j 0) as) cargs) :
    Calls P n ⟨cargs⟩ w fun e w' => ∃ v, e = .returned v ∧ ∃ R' μ2 av h', ARel R' μ2 w' (AVal.ren (rhoO h ι) av) v ∧ RegRel R' μ2 w' g tmps ∧ HRel X R' μ2 (mergeH h h' ι) w' ∧ Q av h' := by
  have hH := handed_rel e7 hh
  have ha := ARels.unren (μ := muOf μ ι) (fun β hβ => muOf_get e7.len hh hβ) as cargs hb h2
  refine (hs.run R (muOf μ ι) w cargs hH ha).mono ?_
  rintro e w' ⟨v, rfl, R', μ', av, h', h3, h4, h5⟩
  obtain ⟨hon, hRR, hK, hlive⟩ := after_call e7 hh h4
  refine ⟨v, rfl, R', μ ++ μ'.drop ι.length, av, h', ARel.ren' (rho_ok e7.len hh h4.mu) _ _ h3, e6.mono hRR hon (fun β q h => ?_), e7.merge hh h4, h5⟩
  obtain ⟨hl, _⟩ := List.getElem?_eq_some_iff.1 h
  rw [List.getElem?_append_left hl]; exact h

/-- A CALL THAT IS HANDED OBJECTS. -/
theorem ar_obj {t : Bool} {n d : Nat} {as : List AVal} {hp : Hp} {Q : AVal → Hp → Prop} (ι : List Nat) (hs : Spec P n as hp Q) (hca : callA g o = some (n, AVal.rens (fun j => ι.getD j 0) as)) (hb : AVal.nbs hp.nxt as = true)
    (hh : Handed h hp ι) (hd : o.dst = some d) (hN : Nat.blt d N = true) (hg : guardB ops g o = some t) (ht : t = true)
    (hk : ∀ av h', Q av h' → ∃ v2 h2, mergeO h ι av h' = some (v2, h2) ∧ AReg P f N m ops rest k ((d, v2) :: g) h2 Post) : AReg P f N m ops (o :: rest) k g h Post := by
  subst ht
  intro idx hi X R μ a w b cs e1 e2 e3 e4 e5 e6 e7
  cases idx with
  | nil => simp at hi
  | cons i idx =>
    simp only [List.map_cons, List.cons.injEq] at hi
    obtain ⟨ho, hi⟩ := hi
    have hw := guardB_wanted hg e6
    obtain ⟨cargs, h1, h2⟩ := callA_run e6 hca hs.can
    obtain ⟨e, w', fr, ⟨v, rfl, R', μ', av, h', h3, h4, h5, h6⟩, hcomes, hfn, hleave⟩ := obj_calls hs hb hh e6 e7 h2 (b.atR a (.inRegion ops (i :: idx) :: k) :: cs)
    obtain ⟨v2, h2', hm, hk2⟩ := hk av h' h6
    rw [mergeO_eq] at hm
    cases hm
    obtain ⟨u, w2, fr2, h9, rest'⟩ := hk2 idx hi X R' μ' (a.put o.dst v) w' b cs e1 e2 e3 (by rw [put_defers]; exact e4) (by rw [put_size]; exact e5) (by
      rw [hd]; exact h4.put (by rw [e5]; exact Nat.le_of_ble_eq_true hN) h3) h5
    have hst := stepGR_op (P := P) (b := b) (k := k) (cs := cs) (w := w) (rest := idx) ho hw
    have hfin : (b.atR a (.inRegion ops (i :: idx) :: k)).finish v = b.atR (a.put o.dst v) (.inRegion ops idx :: k) := by
      rw [Frame.finish_atR, ho]; rfl
    have henter : step P (lone (b.atR a (.inRegion ops (i :: idx) :: k)) cs w) = .next (lone (Frame.enter P n ⟨cargs⟩ .normal) (b.atR a (.inRegion ops (i :: idx) :: k) :: cs) w) :=
      step_lone_go (by rw [hst, semAt_of_enter h1]; simp [stepG.apply, h1, Frame.atR])
    refine ⟨u, w2, fr2, Steps.head henter (Steps.trans hcomes (Steps.head ?_ h9)), rest'⟩
    rw [← hfin]
    exact step_leave_returned hleave

/-- The same, where nobody asks for the answer. -/
theorem ar_obj0 {t : Bool} {n : Nat} {as : List AVal} {hp : Hp} {Q : AVal → Hp → Prop} (ι : List Nat) (hs : Spec P n as hp Q) (hca : callA g o = some (n, AVal.rens (fun j => ι.getD j 0) as)) (hb : AVal.nbs hp.nxt as = true)
    (hh : Handed h hp ι) (hd : o.dst = none) (hg : guardB ops g o = some t) (ht : t = true)
    (hk : ∀ av h', Q av h' → ∃ v2 h2, mergeO h ι av h' = some (v2, h2) ∧ AReg P f N m ops rest k g h2 Post) : AReg P f N m ops (o :: rest) k g h Post := by
  subst ht
  intro idx hi X R μ a w b cs e1 e2 e3 e4 e5 e6 e7
  cases idx with
  | nil => simp at hi
  | cons i idx =>
    simp only [List.map_cons, List.cons.injEq] at hi
    obtain ⟨ho, hi⟩ := hi
    have hw := guardB_wanted hg e6
    obtain ⟨cargs, h1, h2⟩ := callA_run e6 hca hs.can
    obtain ⟨e, w', fr, ⟨v, rfl, R', μ', av, h', h3, h4, h5, h6⟩, hcomes, hfn, hleave⟩ := obj_calls hs hb hh e6 e7 h2 (b.atR a (.inRegion ops (i :: idx) :: k) :: cs)
    obtain ⟨v2, h2', hm, hk2⟩ := hk av h' h6
    rw [mergeO_eq] at hm
    cases hm
    obtain ⟨u, w2, fr2, h9, rest'⟩ := hk2 idx hi X R' μ' (a.put o.dst v) w' b cs e1 e2 e3 (by rw [put_defers]; exact e4) (by rw [put_size]; exact e5) (by
      rw [hd]; exact h4) h5
    have hst := stepGR_op (P := P) (b := b) (k := k) (cs := cs) (w := w) (rest := idx) ho hw
    have hfin : (b.atR a (.inRegion ops (i :: idx) :: k)).finish v = b.atR (a.put o.dst v) (.inRegion ops idx :: k) := by
      rw [Frame.finish_atR, ho]; rfl
    have henter : step P (lone (b.atR a (.inRegion ops (i :: idx) :: k)) cs w) = .next (lone (Frame.enter P n ⟨cargs⟩ .normal) (b.atR a (.inRegion ops (i :: idx) :: k) :: cs) w) :=
      step_lone_go (by rw [hst, semAt_of_enter h1]; simp [stepG.apply, h1, Frame.atR])
    refine ⟨u, w2, fr2, Steps.head henter (Steps.trans hcomes (Steps.head ?_ h9)), rest'⟩
    rw [← hfin]
    exact step_leave_returned hleave

/-- The same, of an operation of a region that draws: the answer and the heap behind it are told. -/
theorem qop_obj {n : Nat} {as : List AVal} {hp h0 h2 : Hp} {v0 v2 : AVal} {Q : AVal → Hp → Prop} (ι : List Nat) (hs : Spec P n as hp Q) (hQ : ∀ v h', Q v h' → v = v0 ∧ h' = h0) (hca : callA g o = some (n, AVal.rens (fun j => ι.getD j 0) as)) (hb : AVal.nbs hp.nxt as = true)
    (hh : Handed h hp ι) (hm : mergeO h ι v0 h0 = some (v2, h2)) : QOp P N h h2 o g v2 := by
  intro g' hag X R μ a w Q' e5 e6 e7
  rw [← callA_congr hag] at hca
  obtain ⟨cargs, h1, h3⟩ := callA_run e6 hca hs.can
  unfold Oper.wp
  rw [h1]
  refine (obj_calls hs hb hh e6 e7 h3).mono ?_
  rintro e w' ⟨u, rfl, R', μ', av, h1', h4, h5, h6, h7⟩
  obtain ⟨rfl, rfl⟩ := hQ _ _ h7
  rw [mergeO_eq] at hm
  cases hm
  exact ⟨u, R', μ', rfl, h4, h5, h6⟩

end
end Go.Proofs.Ytplfajhaehkhnaa

/-
  ABSTRACT MACHINE, 13: calls.
-/
import Derived.Test.YtplfajhaehkhnaaA12
namespace Go.Proofs.Ytplfajhaehkhnaa
open Go

mutual
/-- The same value with other names. -/
def AVal.ren (ρ : Nat → Nat) : AVal → AVal
  | .sl β off n z => .sl (ρ β) off n z
  | .ptr β off => .ptr (ρ β) off
  | .func f cs => .func f (AVal.rens ρ cs)
  | .agg cs => .agg (AVal.rens ρ cs)
  | .tuple cs => .tuple (AVal.rens ρ cs)
  | .r v => .r v
  | .rp xs o => .rp xs o
  | .bp s o => .bp s o
  | .yld l => .yld l
  | .any => .any
def AVal.rens (ρ : Nat → Nat) : List AVal → List AVal
  | [] => []
  | x :: xs => AVal.ren ρ x :: AVal.rens ρ xs
end

def Body.ren (ρ : Nat → Nat) : Body → Body
  | .mixed cs => .mixed (AVal.rens ρ cs)
  | b => b
def Body.nb (m : Nat) : Body → Bool
  | .mixed cs => AVal.nbs m cs
  | _ => true

mutual
theorem ARel.ren {R : Nat → Prop} {μ μ2 : Mu} {w : World} {ρ : Nat → Nat} {m : Nat} (hm : ∀ β, β < m → ∀ p, μ[β]? = some p → μ2[ρ β]? = some p) : ∀ (v : AVal) (c : Value), AVal.nb m v = true → ARel R μ w v c → ARel R μ2 w (AVal.ren ρ v) c
  | .sl β off n z, c, hb, h => by
    simp only [ARel, AVal.ren] at h ⊢
    obtain ⟨b, o, cap, cells, e, fz, h1, rest⟩ := h
    exact ⟨b, o, cap, cells, e, fz, hm β (Nat.le_of_ble_eq_true hb) _ h1, rest⟩
  | .ptr β off, c, hb, h => by
    simp only [ARel, AVal.ren] at h ⊢
    obtain ⟨b, o, h1, h2⟩ := h
    exact ⟨b, o, hm β (Nat.le_of_ble_eq_true hb) _ h1, h2⟩
  | .func f cs, c, hb, h => by
    simp only [ARel, AVal.ren] at h ⊢
    obtain ⟨ds, h1, h2⟩ := h
    exact ⟨ds, h1, ARels.ren hm cs ds hb h2⟩
  | .agg cs, c, hb, h => by
    simp only [ARel, AVal.ren] at h ⊢
    obtain ⟨ds, h1, h2⟩ := h
    exact ⟨ds, h1, ARels.ren hm cs ds hb h2⟩
  | .tuple cs, c, hb, h => by
    simp only [ARel, AVal.ren] at h ⊢
    obtain ⟨ds, h1, h2⟩ := h
    exact ⟨ds, h1, ARels.ren hm cs ds hb h2⟩
  | .r v, c, _, h => by simpa only [ARel, AVal.ren] using h
  | .rp xs o, c, _, h => by simpa only [ARel, AVal.ren] using h
  | .bp s o, c, _, h => by simpa only [ARel, AVal.ren] using h
  | .yld _, c, _, h => by simpa only [ARel, AVal.ren] using h
  | .any, c, _, h => by simp only [ARel, AVal.ren]
theorem ARels.ren {R : Nat → Prop} {μ μ2 : Mu} {w : World} {ρ : Nat → Nat} {m : Nat} (hm : ∀ β, β < m → ∀ p, μ[β]? = some p → μ2[ρ β]? = some p) : ∀ (v : List AVal) (c : List Value), AVal.nbs m v = true → ARels R μ w v c → ARels R μ2 w (AVal.rens ρ v) c
  | [], c, _, h => by simpa only [ARels, AVal.rens] using h
  | x :: xs, c, hb, h => by
    simp only [ARels, AVal.rens] at h ⊢
    simp only [AVal.nbs, Bool.and_eq_true] at hb
    obtain ⟨a, r, h1, h2, h3⟩ := h
    exact ⟨a, r, h1, ARel.ren hm x a hb.1 h2, ARels.ren hm xs r hb.2 h3⟩
end

mutual
theorem ARel.unren {R : Nat → Prop} {μ μ2 : Mu} {w : World} {ρ : Nat → Nat} {m : Nat} (hm : ∀ β, β < m → μ[β]? = μ2[ρ β]?) : ∀ (v : AVal) (c : Value), AVal.nb m v = true → ARel R μ2 w (AVal.ren ρ v) c → ARel R μ w v c
  | .sl β off n z, c, hb, h => by
    simp only [ARel, AVal.ren] at h ⊢
    obtain ⟨b, o, cap, cells, e, fz, h1, rest⟩ := h
    exact ⟨b, o, cap, cells, e, fz, (hm β (Nat.le_of_ble_eq_true hb)).trans h1, rest⟩
  | .ptr β off, c, hb, h => by
    simp only [ARel, AVal.ren] at h ⊢
    obtain ⟨b, o, h1, h2⟩ := h
    exact ⟨b, o, (hm β (Nat.le_of_ble_eq_true hb)).trans h1, h2⟩
  | .func f cs, c, hb, h => by
    simp only [ARel, AVal.ren] at h ⊢
    obtain ⟨ds, h1, h2⟩ := h
    exact ⟨ds, h1, ARels.unren hm cs ds hb h2⟩
  | .agg cs, c, hb, h => by
    simp only [ARel, AVal.ren] at h ⊢
    obtain ⟨ds, h1, h2⟩ := h
    exact ⟨ds, h1, ARels.unren hm cs ds hb h2⟩
  | .tuple cs, c, hb, h => by
    simp only [ARel, AVal.ren] at h ⊢
    obtain ⟨ds, h1, h2⟩ := h
    exact ⟨ds, h1, ARels.unren hm cs ds hb h2⟩
  | .r v, c, _, h => by simpa only [ARel, AVal.ren] using h
  | .rp xs o, c, _, h => by simpa only [ARel, AVal.ren] using h
  | .bp s o, c, _, h => by simpa only [ARel, AVal.ren] using h
  | .yld _, c, _, h => by simpa only [ARel, AVal.ren] using h
  | .any, c, _, h => by simp only [ARel]
theorem ARels.unren {R : Nat → Prop} {μ μ2 : Mu} {w : World} {ρ : Nat → Nat} {m : Nat} (hm : ∀ β, β < m → μ[β]? = μ2[ρ β]?) : ∀ (v : List AVal) (c : List Value), AVal.nbs m v = true → ARels R μ2 w (AVal.rens ρ v) c → ARels R μ w v c
  | [], c, _, h => by simpa only [ARels, AVal.rens] using h
  | x :: xs, c, hb, h => by
    simp only [ARels, AVal.rens] at h ⊢
    simp only [AVal.nbs, Bool.and_eq_true] at hb
    obtain ⟨a, r, h1, h2, h3⟩ := h
    exact ⟨a, r, h1, ARel.unren hm x a hb.1 h2, ARels.unren hm xs r hb.2 h3⟩
end

theorem BodyRel.ren {R : Nat → Prop} {μ μ2 : Mu} {w : World} {ρ : Nat → Nat} {m : Nat} (hm : ∀ β, β < m → ∀ p, μ[β]? = some p → μ2[ρ β]? = some p) {bd : Body} {vs : List Value} (hb : bd.nb m = true) (h : BodyRel R μ w bd vs) :
    BodyRel R μ2 w (bd.ren ρ) vs := by
  cases bd with
  | mixed cs => exact ARels.ren hm cs vs hb h
  | plain xs => exact h
  | bytes s => exact h

theorem BodyRel.unren {R : Nat → Prop} {μ μ2 : Mu} {w : World} {ρ : Nat → Nat} {m : Nat} (hm : ∀ β, β < m → μ[β]? = μ2[ρ β]?) {bd : Body} {vs : List Value} (hb : bd.nb m = true) (h : BodyRel R μ2 w (bd.ren ρ) vs) :
    BodyRel R μ w bd vs := by
  cases bd with
  | mixed cs => exact ARels.unren hm cs vs hb h
  | plain xs => exact h
  | bytes s => exact h

/-- The heap without the names of a list. -/
def Hp.kills (h : Hp) (l : List Nat) : Hp := { h with tab := l.map (fun β => (β, none)) ++ h.tab }

theorem get_kills {h : Hp} : ∀ {l : List Nat} {β : Nat} {blk : ABlk}, (h.kills l).get β = some blk → β ∉ l ∧ h.get β = some blk
  | [], β, blk, hg => by simpa [Hp.kills, Hp.get] using hg
  | x :: l, β, blk, hg => by
    simp only [Hp.kills, Hp.get, List.map_cons, List.cons_append, look_kill] at hg
    split at hg
    · simp at hg
    · rename_i hne
      obtain ⟨h1, h2⟩ := get_kills (h := h) (l := l) (β := β) (blk := blk) hg
      exact ⟨by simp [Ne.symm hne, h1], h2⟩

section
variable {X : Ctx} {R : Nat → Prop} {μ μc : Mu} {h hp : Hp} {w : World} {ι : List Nat}

/-- What a callee is handed is part of what the caller has: the callee's state. 'ι': the caller's names of the callee's. -/
structure Handed (h : Hp) (hp : Hp) (ι : List Nat) : Prop where
  len : ι.length = hp.nxt
  lt : ∀ γ ∈ ι, γ < h.nxt
  nodup : ι.Nodup
  blk : ∀ i blk, hp.get i = some blk → i < hp.nxt ∧ blk.nb hp.nxt = true ∧ h.get (ι.getD i 0) = some (blk.ren fun j => ι.getD j 0)

def muOf (μ : Mu) (ι : List Nat) : Mu := ι.map fun γ => μ.getD γ (0, 0)

theorem muOf_get (hl : μ.length = h.nxt) (hh : Handed h hp ι) {i : Nat} (hi : i < hp.nxt) : (muOf μ ι)[i]? = μ[ι.getD i 0]? := by
  have hi' : i < ι.length := by rw [hh.len]; exact hi
  have h1 : ι[i] < μ.length := by rw [hl]; exact hh.lt _ (List.getElem_mem hi')
  simp [muOf, List.getD, hi', h1]

theorem handed_rel (H : HRel X R μ h w) (hh : Handed h hp ι) : HRel (callCtx w hp R (muOf μ ι)) R (muOf μ ι) hp w where
  inv := trivial
  rc := H.rc
  os := rfl
  tape := rfl
  output := rfl
  size := Nat.le_refl _
  keep _ _ _ := rfl
  shape _ c _ f hk := ⟨c, f, hk, rfl⟩
  r0 _ hk := hk
  rO _ hk := .inl hk
  rlt := H.rlt
  mu _ _ hp := hp
  len := by simp [muOf, hh.len]
  live := by
    intro i blk hg
    obtain ⟨h1, h2, h3⟩ := hh.blk i blk hg
    obtain ⟨b, o, h4, h5, h6, h7⟩ := H.live _ _ h3
    have h8 : (muOf μ ι)[i]? = some (b, o) := (muOf_get H.len hh h1).trans h4
    obtain ⟨cells, el, fz, vs, h9, h10, h11, h12, h13⟩ := h7.ex
    exact ⟨b, o, h8, h5, .inl ⟨i, blk, o, hg, h8⟩, ⟨cells, el, fz, vs, h9, h10, h11.unren (fun β hβ => muOf_get H.len hh hβ) h2, h12, h13⟩⟩
  inj := by
    intro i j k k' b b' o o' g1 g2 m1 m2 e
    obtain ⟨h1, _, h3⟩ := hh.blk i k g1
    obtain ⟨h4, _, h6⟩ := hh.blk j k' g2
    have := H.inj _ _ _ _ b b' o o' h3 h6 ((muOf_get H.len hh h1).symm.trans m1) ((muOf_get H.len hh h4).symm.trans m2) e
    have hi : i < ι.length := by rw [hh.len]; exact h1
    have hj : j < ι.length := by rw [hh.len]; exact h4
    simp only [List.getD, List.getElem?_eq_getElem hi, List.getElem?_eq_getElem hj, Option.getD_some] at this
    exact (List.getElem?_inj hi hh.nodup).1 (by rw [List.getElem?_eq_getElem hi, List.getElem?_eq_getElem hj, this])

/-- Behind a call: what is the caller's own. -/
theorem after_call (H : HRel X R μ h w) (hh : Handed h hp ι) {R' : Nat → Prop} {μ' : Mu} {h' : Hp} {w' : World} (H' : HRel (callCtx w hp R (muOf μ ι)) R' μ' h' w') :
    Onward R w w' ∧ (∀ k, R k → R' k) ∧ HRel X R' μ (h.kills ι) w' ∧
    (∀ β blk, h'.get β = some blk → ∃ b o, μ'[β]? = some (b, o) ∧ ¬ R' b ∧ X.own b ∧ BlkRel R' μ' w' b o blk ∧ HRel.Free (h.kills ι) μ b) := by
  have hO : ∀ b, Owned hp (muOf μ ι) b → ∃ γ blk o, γ ∈ ι ∧ h.get γ = some blk ∧ μ[γ]? = some (b, o) := by
    rintro b ⟨i, blk, o, g1, m1⟩
    obtain ⟨h1, _, h3⟩ := hh.blk i blk g1
    have hi : i < ι.length := by rw [hh.len]; exact h1
    exact ⟨ι.getD i 0, _, o, by simp [List.getD, hi], h3, (muOf_get H.len hh h1).symm.trans m1⟩
  have hOR : ∀ b, Owned hp (muOf μ ι) b → ¬ R b ∧ X.own b ∧ b < w.heap.size := by
    intro b hb
    obtain ⟨γ, blk, o, _, g1, m1⟩ := hO b hb
    obtain ⟨b', o', h1, h2, h3, h4⟩ := H.live γ blk g1
    rw [m1] at h1; cases h1
    obtain ⟨cells, el, fz, vs, h5, _⟩ := h4.ex
    obtain ⟨hl, _⟩ := Array.getElem?_eq_some_iff.1 h5
    exact ⟨h2, h3, hl⟩
  have hfree : ∀ b, (Owned hp (muOf μ ι) b ∨ w.heap.size ≤ b) → HRel.Free (h.kills ι) μ b := by
    intro b hb γ blk o g1 m1
    obtain ⟨hn, g2⟩ := get_kills g1
    rcases hb with hb | hb
    · obtain ⟨γ', blk', o', hm, g3, m3⟩ := hO b hb
      have := H.inj γ γ' blk blk' b b o o' g2 g3 m1 m3 rfl
      subst this
      exact hn hm
    · exact H.free_new hb γ blk o g2 m1
  have hon : Onward R w w' := ⟨fun k hk => H'.keep k (H.rlt k hk) (fun ho => (hOR k ho).1 hk), H'.shape⟩
  refine ⟨hon, H'.r0, ?_, ?_⟩
  · exact {
      os := H'.os.trans H.os
      tape := H'.tape.trans H.tape
      output := H'.output.trans H.output
      size := Nat.le_trans H.size H'.size
      keep := fun k hk ho => by
        rw [H'.keep k (Nat.lt_of_lt_of_le hk H.size) (fun hw => by rcases (hOR k hw).2.1 with h1 | h1; exact ho h1; omega)]
        exact H.keep k hk ho
      shape := fun k c e f hk => by
        obtain ⟨c1, f1, h1, h2⟩ := H.shape k c e f hk
        obtain ⟨c2, f2, h3, h4⟩ := H'.shape k c1 e f1 h1
        exact ⟨c2, f2, h3, h4.trans h2⟩
      r0 := fun k hk => H'.r0 k (H.r0 k hk)
      rO := fun k hk => by
        rcases H'.rO k hk with h1 | h1 | h1
        · exact H.rO k h1
        · rcases (hOR k h1).2.1 with h2 | h2
          · exact .inr (.inl h2)
          · exact .inr (.inr h2)
        · exact .inr (.inr (Nat.le_trans H.size h1))
      rlt := H'.rlt
      rc := H'.rc
      inv := X.mono _ _ _ _ _ H.inv H'.r0 hon (fun k o hk hn => by
        obtain ⟨hl, _⟩ := Array.getElem?_eq_some_iff.1 hk
        refine (H'.keep k hl (fun ho => ?_)).trans hk
        obtain ⟨γ, blk, o2, _, g1, m1⟩ := hO k ho
        obtain ⟨b', o', h1, _, _, h4⟩ := H.live γ blk g1
        rw [m1] at h1; cases h1
        obtain ⟨cells, el, fz, vs, h5, _⟩ := h4.ex
        rw [h5] at hk; cases hk; exact hn _ _ _ rfl)
      mu := H.mu
      len := H.len
      live := fun β blk hg => by
        obtain ⟨hn, g2⟩ := get_kills hg
        obtain ⟨b, o, h1, h2, h3, h4⟩ := H.live β blk g2
        obtain ⟨cells, el, fz, vs, h5, _⟩ := h4.ex
        obtain ⟨hl, _⟩ := Array.getElem?_eq_some_iff.1 h5
        have hno : ¬ Owned hp (muOf μ ι) b := fun ho => hfree b (.inl ho) β blk o hg h1
        refine ⟨b, o, h1, ?_, h3, h4.mono H'.r0 hon (fun _ _ h => h) (H'.keep b hl hno)⟩
        intro hR
        rcases H'.rO b hR with h6 | h6 | h6
        · exact h2 h6
        · exact hno h6
        · exact absurd hl (Nat.not_lt.2 h6)
      inj := fun β β' k k' b b' o o' g1 g2 => H.inj β β' k k' b b' o o' (get_kills g1).2 (get_kills g2).2 }
  · intro β blk hg
    obtain ⟨b, o, h1, h2, h3, h4⟩ := H'.live β blk hg
    refine ⟨b, o, h1, h2, ?_, h4, hfree b h3⟩
    rcases h3 with h3 | h3
    · exact (hOR b h3).2.1
    · exact .inr (Nat.le_trans H.size h3)

end

section
variable {P : Program} {T : TTab} {f N : Nat} {m : Md} {ops : Array Oper} {o : Oper} {rest : List Oper} {k : List Item} {g : Regs} {h : Hp} {Post : AVal → Hp → Prop}

/-- The callee and what it is called with. -/
def callA (g : Regs) (o : Oper) : Option (FuncId × List AVal) :=
  match o.op with
  | .call c =>
    match c.callee with
    | .value x =>
      match evA g x with
      | .func n caps => some (n, c.args.toList.map (evA g) ++ caps)
      | _ => none
    | _ => none
  | _ => none

theorem callA_run {R : Nat → Prop} {μ : Mu} {w : World} {a : Act} (hr : RegRel R μ w g a.tmps) {n : FuncId} {as : List AVal} (hc : callA g o = some (n, as)) (hn : Callable P n) :
    ∃ cs, (execOp a.eval o).run P w = .ok (.enter n ⟨cs⟩) w ∧ ARels R μ w as cs := by
  unfold callA at hc
  split at hc
  case h_2 => simp at hc
  rename_i c hop
  split at hc
  case h_2 => simp at hc
  rename_i x hcal
  split at hc
  case h_2 => simp at hc
  rename_i n' caps hx
  simp only [Option.some.injEq] at hc
  obtain ⟨rfl, rfl⟩ := Prod.mk.inj hc
  have hxr := evA_rel (a := a) hr x
  rw [hx] at hxr
  simp only [ARel] at hxr
  obtain ⟨cc, h1, h2⟩ := hxr
  obtain ⟨fn, hf, hnm, hb⟩ := hn.ex
  refine ⟨(c.args.map a.eval).toList ++ cc, ?_, ?_⟩
  · simp only [execOp, hop, resolve, hcal, h1, Deferred.ofValue, Sem.run_bind, Sem.run_pure, Result.andThen_ok, invoke, callFunc]
    have hpr : (program).run P w = .ok P w := rfl
    rw [hpr]
    simp only [Result.andThen_ok, hf, hnm, hb, Bool.false_eq_true, if_false, Sem.run_pure]
    congr 2
    simp
  · rw [Array.toList_map]
    exact (ARels.map (fun x => evA_rel (a := a) hr x) _).append h2

theorem semAt_of_enter {ro : Option Nat} {ρ : Operand → Value} {w w' : World} {n : FuncId} {cs : Array Value} (h : (execOp ρ o).run P w = .ok (.enter n cs) w') : o.semAt ro ρ = execOp ρ o := by
  refine Oper.semAt_eq ro ρ o fun c hc => ?_
  simp only [execOp, hc, Sem.run_bind, Sem.run_pure] at h
  cases hr : (resolve ρ c o.type).run P w with
  | ok d w2 => rw [hr] at h; simp at h
  | halt x w2 => rw [hr] at h; simp at h

/-- A CALL, IN FULL: what is to be shown of every state behind it. -/
theorem ar_callG {t : Bool} {n : FuncId} {as : List AVal} {hp : Hp} {ι : List Nat} {Q : AVal → Hp → Prop} (hs : Spec P n as hp Q) (hca : callA g o = some (n, AVal.rens (fun j => ι.getD j 0) as)) (hb : AVal.nbs hp.nxt as = true)
    (hh : Handed h hp ι) (hg : guardB ops g o = some t) (ht : t = true)
    (hk : ∀ av h', Q av h' → ∀ (X : Ctx) (R : Nat → Prop) (μ : Mu) (w : World) (μ' : Mu) (v : Value) (a : Act), a.tmps.size = N → RegRel R μ w g a.tmps → HRel X R μ (h.kills ι) w →
      ARel R μ' w av v → (∀ i, i < hp.nxt → ∀ p, μ[ι.getD i 0]? = some p → μ'[i]? = some p) → h.nxt = μ.length →
      (∀ β blk, h'.get β = some blk → ∃ b o, μ'[β]? = some (b, o) ∧ ¬ R b ∧ X.own b ∧ BlkRel R μ' w b o blk ∧ HRel.Free (h.kills ι) μ b) →
      (∀ β β' blk blk' b b' o o', h'.get β = some blk → h'.get β' = some blk' → μ'[β]? = some (b, o) → μ'[β']? = some (b', o') → b = b' → β = β') →
      ∃ μ2 g2 h2, RegRel R μ2 w g2 (a.put o.dst v).tmps ∧ HRel X R μ2 h2 w ∧ AReg P f N m ops rest k g2 h2 Post) :
    AReg P f N m ops (o :: rest) k g h Post := by
  subst ht
  intro idx hi X R μ a w b cs e1 e2 e3 e4 e5 e6 e7
  cases idx with
  | nil => simp at hi
  | cons i idx =>
    simp only [List.map_cons, List.cons.injEq] at hi
    obtain ⟨ho, hi⟩ := hi
    have hw := guardB_wanted hg e6
    obtain ⟨cargs, h1, h2⟩ := callA_run e6 hca hs.can
    have hH := handed_rel e7 hh
    have ha := ARels.unren (μ := muOf μ ι) (fun β hβ => muOf_get e7.len hh hβ) as cargs hb h2
    obtain ⟨e, w', fr, ⟨v, rfl, R', μ', av, h', h3, h4, h5⟩, hcomes, hfn, hleave⟩ := hs.run R (muOf μ ι) w cargs hH ha (b.atR a (.inRegion ops (i :: idx) :: k) :: cs)
    obtain ⟨hon, hRR, hK, hlive⟩ := after_call e7 hh h4
    obtain ⟨μ2, g2, h2', h6, h7, h8⟩ := hk av h' h5 X R' μ w' μ' v a e5 (e6.mono hRR hon (fun _ _ h => h)) hK h3 (fun i hi p hp => by
      have := (muOf_get e7.len hh hi).trans hp
      exact h4.mu i p this) e7.len.symm hlive h4.inj
    obtain ⟨u, w2, fr2, h9, rest'⟩ := h8 idx hi X R' μ2 (a.put o.dst v) w' b cs e1 e2 e3 (by rw [put_defers]; exact e4) (by rw [put_size]; exact e5) h6 h7
    have hst := stepGR_op (P := P) (b := b) (k := k) (cs := cs) (w := w) (rest := idx) ho hw
    have hfin : (b.atR a (.inRegion ops (i :: idx) :: k)).finish v = b.atR (a.put o.dst v) (.inRegion ops idx :: k) := by
      rw [Frame.finish_atR, ho]; rfl
    have henter : step P (lone (b.atR a (.inRegion ops (i :: idx) :: k)) cs w) = .next (lone (Frame.enter P n ⟨cargs⟩ .normal) (b.atR a (.inRegion ops (i :: idx) :: k) :: cs) w) :=
      step_lone_go (by rw [hst, semAt_of_enter h1]; simp [stepG.apply, h1, Frame.atR])
    refine ⟨u, w2, fr2, Steps.head henter (Steps.trans hcomes (Steps.head ?_ h9)), rest'⟩
    rw [← hfin]
    exact step_leave_returned hleave

theorem handed_none : Handed h ⟨0, [], false⟩ [] := ⟨rfl, by simp, by simp, fun i blk hg => by simp [Hp.get, Hp.look] at hg⟩

theorem kills_nil : h.kills [] = h := rfl

mutual
theorem ren_below0 {ρ : Nat → Nat} : ∀ (v : AVal), AVal.nb 0 v = true → AVal.ren ρ v = v
  | .sl _ _ _ _, h => by simp [AVal.nb, Nat.blt, Nat.ble] at h
  | .ptr _ _, h => by simp [AVal.nb, Nat.blt, Nat.ble] at h
  | .func f cs, h => by simp only [AVal.ren]; rw [rens_below0 cs h]
  | .agg cs, h => by simp only [AVal.ren]; rw [rens_below0 cs h]
  | .tuple cs, h => by simp only [AVal.ren]; rw [rens_below0 cs h]
  | .r _, _ => rfl
  | .rp _ _, _ => rfl
  | .bp _ _, _ => rfl
  | .yld _, _ => rfl
  | .any, _ => rfl
theorem rens_below0 {ρ : Nat → Nat} : ∀ (v : List AVal), AVal.nbs 0 v = true → AVal.rens ρ v = v
  | [], _ => rfl
  | x :: xs, h => by
    simp only [AVal.nbs, Bool.and_eq_true] at h
    simp only [AVal.rens]; rw [ren_below0 x h.1, rens_below0 xs h.2]
end

/-- A function of values alone: its answer. -/
def Pur (P : Program) (f : FuncId) (args : List AVal) (r : AVal) : Prop := Spec P f args ⟨0, [], false⟩ fun v _ => v = r

/-- A call of a function of values alone. -/
theorem ar_pur {t : Bool} {n : FuncId} {as : List AVal} {r : AVal} {d : Nat} (hs : Pur P n as r) (hca : callA g o = some (n, as)) (hd : o.dst = some d) (hN : Nat.blt d N = true) (hb : AVal.nbs 0 as = true) (hr : AVal.nb 0 r = true)
    (hg : guardB ops g o = some t) (ht : t = true) (hk : AReg P f N m ops rest k ((d, r) :: g) h Post) : AReg P f N m ops (o :: rest) k g h Post := by
  refine ar_callG (ι := []) hs (by rw [rens_below0 _ hb]; exact hca) hb handed_none hg ht ?_
  intro av h' hq X R μ w μ' v a e5 e6 e7 h1 _ _ _ _
  subst hq
  refine ⟨μ, (d, av) :: g, h, ?_, e7, hk⟩
  rw [hd]
  refine e6.put (by rw [e5]; exact Nat.le_of_ble_eq_true hN) ?_
  have := ARel.ren (μ2 := μ) (ρ := id) (m := 0) (fun β hβ => absurd hβ (Nat.not_lt_zero _)) av v hr h1
  rwa [ren_below0 av hr] at this

/-- A call whose answer nobody asks for. -/
theorem ar_pur0 {t : Bool} {n : FuncId} {as : List AVal} {Q : AVal → Hp → Prop} (hs : Spec P n as ⟨0, [], false⟩ Q) (hca : callA g o = some (n, as)) (hd : o.dst = none) (hb : AVal.nbs 0 as = true)
    (hg : guardB ops g o = some t) (ht : t = true) (hk : AReg P f N m ops rest k g h Post) : AReg P f N m ops (o :: rest) k g h Post := by
  refine ar_callG (ι := []) hs (by rw [rens_below0 _ hb]; exact hca) hb handed_none hg ht ?_
  intro av h' hq X R μ w μ' v a e5 e6 e7 h1 _ _ _ _
  refine ⟨μ, g, h, ?_, e7, hk⟩
  rw [hd]
  exact e6

/-- A function that hands back a new slice: of one block, whatever its name. -/
def Own (P : Program) (f : FuncId) (args : List AVal) (n z : Nat) (bd : Body) : Prop :=
  Spec P f args ⟨0, [], false⟩ fun v h => ∃ β, v = .sl β 0 n z ∧ h.get β = some bd

theorem ar_own {t : Bool} {n : FuncId} {as : List AVal} {l z : Nat} {bd : Body} {d : Nat} (hs : Own P n as l z bd) (hca : callA g o = some (n, as)) (hd : o.dst = some d) (hN : Nat.blt d N = true) (hb : AVal.nbs 0 as = true)
    (hbd : bd.nb 0 = true) (hg : guardB ops g o = some t) (ht : t = true) (hk : AReg P f N m ops rest k ((d, .sl h.nxt 0 l z) :: g) (h.push bd) Post) : AReg P f N m ops (o :: rest) k g h Post := by
  refine ar_callG (ι := []) hs (by rw [rens_below0 _ hb]; exact hca) hb handed_none hg ht ?_
  rintro av h' ⟨β, rfl, hg'⟩ X R μ w μ' v a e5 e6 e7 h1 _ hlen hlive _
  obtain ⟨b, o', h2, h3, h4, h5, h6⟩ := hlive β _ hg'
  rw [kills_nil] at e7 h6
  have hbr : BlkRel R (μ ++ [(b, o')]) w b o' bd := by
    obtain ⟨cells, el, fz, vs, h7, h8, h9, h10, h11⟩ := h5.ex
    refine ⟨cells, el, fz, vs, h7, h8, ?_, h10, h11⟩
    have := BodyRel.ren (μ2 := μ ++ [(b, o')]) (ρ := id) (m := 0) (fun β hβ => absurd hβ (Nat.not_lt_zero _)) hbd h9
    cases bd with
    | mixed cs => simp only [Body.ren] at this; rw [rens_below0 cs hbd] at this; exact this
    | plain xs => exact this
    | bytes s => exact this
  have H2 := e7.add h3 h4 hbr h6
  refine ⟨μ ++ [(b, o')], (d, .sl h.nxt 0 l z) :: g, h.push bd, ?_, H2, hk⟩
  rw [hd]
  refine (e6.mono (fun _ h => h) (Onward.refl R w) mu_app).put (by rw [e5]; exact Nat.le_of_ble_eq_true hN) ?_
  simp only [ARel] at h1 ⊢
  obtain ⟨b2, o2, cap, cells, el, fz, h7, rest2⟩ := h1
  rw [h2] at h7
  cases h7
  exact ⟨b, o', cap, cells, el, fz, by rw [hlen]; simp, rest2⟩

end
end Go.Proofs.Ytplfajhaehkhnaa

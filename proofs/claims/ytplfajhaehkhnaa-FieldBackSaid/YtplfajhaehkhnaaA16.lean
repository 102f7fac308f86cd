/-
  ABSTRACT MACHINE, 16: what a state entails: fewer names, other names, read-only; and more operations.
-/
import Derived.Test.YtplfajhaehkhnaaA15
import Derived.Laws.MakeOwn
namespace Go.Proofs.Ytplfajhaehkhnaa
open Go

/-- Whatever is in the one state is in the other one. -/
def Ent (m : Md) (g : Regs) (h : Hp) (g' : Regs) (h' : Hp) : Prop :=
  ∀ (X : Ctx) (R : Nat → Prop) (μ : Mu) (w : World) (tmps : Array Value), X.μ0.length = m.len → RegRel R μ w g tmps → HRel X R μ h w → ∃ R' μ', RegRel R' μ' w g' tmps ∧ HRel X R' μ' h' w

section
variable {P : Program} {T : TTab} {f N : Nat} {m : Md} {ops : Array Oper} {o : Oper} {rest : List Oper} {todo k : List Item} {g g' g'' : Regs} {h h' h'' : Hp} {Post : AVal → Hp → Prop}

theorem ag_ent (he : Ent m g h g' h') (hk : AGo P f N m todo g' h' Post) : AGo P f N m todo g h Post := by
  intro X R μ a w b cs e1 e2 e3 e4 e5 e6 e7
  obtain ⟨R', μ', h1, h2⟩ := he X R μ w a.tmps e1.len e6 e7
  exact hk X R' μ' a w b cs e1 e2 e3 e4 e5 h1 h2

theorem ar_ent (he : Ent m g h g' h') (hk : AReg P f N m ops rest k g' h' Post) : AReg P f N m ops rest k g h Post := fun idx hi => ag_ent he (hk idx hi)

theorem Ent.trans (h1 : Ent m g h g' h') (h2 : Ent m g' h' g'' h'') : Ent m g h g'' h'' := by
  intro X R μ w tmps e1 e2 e3
  obtain ⟨R', μ', h3, h4⟩ := h1 X R μ w tmps e1 e2 e3
  exact h2 X R' μ' w tmps e1 h3 h4

/-- Registers: each is as it was, under the new names. -/
def WeakR (ι : List Nat) (n : Nat) (g : Regs) : Regs → Prop
  | [] => True
  | (t, v) :: r => (AVal.nb n v = true ∧ AVal.ren (fun j => ι.getD j 0) v = lookR g t) ∧ WeakR ι n g r

theorem weakR_look {ι : List Nat} {n : Nat} {g : Regs} : ∀ {g' : Regs}, WeakR ι n g g' → ∀ t, lookR g' t = .any ∨ (AVal.nb n (lookR g' t) = true ∧ AVal.ren (fun j => ι.getD j 0) (lookR g' t) = lookR g t)
  | [], _, t => .inl rfl
  | (s, v) :: r, hw, t => by
    simp only [WeakR] at hw
    simp only [lookR]
    by_cases e : s = t
    · subst e; simp only [Nat.beq_refl, cond_true]; exact .inr hw.1
    · rw [beq_ne e]; exact weakR_look hw.2 t

/-- Blocks: each is as it was, under the new names. -/
def WeakB (ι : List Nat) (n : Nat) (h : Hp) : List (Nat × Option Body) → Prop
  | [] => True
  | (_, none) :: r => WeakB ι n h r
  | (i, some b) :: r => (Nat.blt i n = true ∧ b.nb n = true ∧ h.get (ι.getD i 0) = some (b.ren fun j => ι.getD j 0)) ∧ WeakB ι n h r

theorem weakB_get {ι : List Nat} {n : Nat} {h : Hp} : ∀ {tab : List (Nat × Option Body)}, WeakB ι n h tab → ∀ i b, Hp.look tab i = some b → i < n ∧ b.nb n = true ∧ h.get (ι.getD i 0) = some (b.ren fun j => ι.getD j 0)
  | [], _, i, b, hg => by simp [Hp.look] at hg
  | (s, none) :: r, hw, i, b, hg => by
    simp only [WeakB] at hw
    rw [look_kill] at hg
    split at hg
    · simp at hg
    · exact weakB_get hw i b hg
  | (s, some c) :: r, hw, i, b, hg => by
    simp only [WeakB] at hw
    rw [look_kill] at hg
    split at hg
    · rename_i e
      subst e
      cases hg
      exact ⟨Nat.le_of_ble_eq_true hw.1.1, hw.1.2⟩
    · exact weakB_get hw.2 i b hg

def nodupB : List Nat → Bool
  | [] => true
  | x :: l => l.all (fun y => !Nat.beq x y) && nodupB l

theorem nodupB_sound : ∀ {l : List Nat}, nodupB l = true → l.Nodup
  | [], _ => by simp
  | x :: l, h => by
    simp only [nodupB, Bool.and_eq_true, List.all_eq_true, Bool.not_eq_true'] at h
    refine List.nodup_cons.2 ⟨fun hm => ?_, nodupB_sound h.2⟩
    have := h.1 x hm
    simp at this

def idB (m : Nat) : List Nat → Nat → Bool
  | _, 0 => true
  | ι, n + 1 => Nat.beq (ι.getD n (m + 1)) n && idB m ι n

theorem idB_sound {m : Nat} {ι : List Nat} : ∀ {n : Nat}, idB m ι n = true → ∀ i, i < n → n ≤ m → ι[i]? = some i
  | 0, _, i, hi, _ => absurd hi (Nat.not_lt_zero _)
  | n + 1, h, i, hi, hm => by
    simp only [idB, Bool.and_eq_true] at h
    rcases Nat.lt_or_ge i n with h1 | h1
    · exact idB_sound h.2 i h1 (by omega)
    · have e : i = n := by omega
      subst e
      have h2 := Nat.eq_of_beq_eq_true h.1
      simp only [List.getD] at h2
      cases hq : ι[i]? with
      | none => rw [hq] at h2; simp at h2; omega
      | some v => rw [hq] at h2; simp at h2; rw [h2]

/-- Fewer names, in another order: 'ι' tells the old name of each new one; the first m are what the call was handed. -/
theorem ent_weak (ι : List Nat) (hl : Nat.beq ι.length h'.nxt = true) (hlt : ι.all (fun γ => Nat.blt γ h.nxt) = true) (hnd : nodupB ι = true) (hid : idB m.len ι m.len = true) (hr : WeakR ι h'.nxt g g') (hb : WeakB ι h'.nxt h h'.tab) (hgh : h'.gh = h.gh) : Ent m g h g' h' := by
  intro X R μ w tmps e1 e2 e3
  have hh : Handed h h' ι := ⟨Nat.eq_of_beq_eq_true hl, fun γ hγ => Nat.le_of_ble_eq_true (List.all_eq_true.1 hlt γ hγ), nodupB_sound hnd, fun i blk hg => weakB_get hb i blk hg⟩
  have hH := handed_rel e3 hh
  refine ⟨R, muOf μ ι, ?_, ?_⟩
  · intro t
    rcases weakR_look hr t with h1 | ⟨h1, h2⟩
    · rw [h1]; simp [ARel]
    · exact ARel.unren (fun β hβ => muOf_get e3.len hh hβ) _ _ h1 (by rw [h2]; exact e2 t)
  · exact {
      os := e3.os
      tape := e3.tape
      output := e3.output
      size := e3.size
      keep := e3.keep
      shape := e3.shape
      r0 := e3.r0
      rO := e3.rO
      rlt := e3.rlt
      mu := fun β p hp => by
        have hβ : β < m.len := by rw [← e1]; exact (List.getElem?_eq_some_iff.1 hp).1
        have h1 := idB_sound hid β hβ (Nat.le_refl _)
        have h2 : β < h'.nxt := by rw [← hh.len]; exact (List.getElem?_eq_some_iff.1 h1).1
        rw [muOf_get e3.len hh h2]
        simp only [List.getD, h1, Option.getD_some]
        exact e3.mu β p hp
      rc := e3.rc
      inv := by rw [hgh]; exact e3.inv
      len := hH.len
      live := fun β blk hg => by
        obtain ⟨b, o, h1, h2, _, h4⟩ := hH.live β blk hg
        obtain ⟨h5, _, h6⟩ := hh.blk β blk hg
        obtain ⟨b', o', h7, _, h8, _⟩ := e3.live _ _ h6
        have h9 := (muOf_get e3.len hh h5).symm.trans h1
        rw [h7] at h9
        cases h9
        exact ⟨b, o, h1, h2, h8, h4⟩
      inj := hH.inj }

/-- One register is told anew: an equal value. -/
theorem ent_reg (t : Nat) (v : AVal) (he : lookR g t = v) : Ent m g h ((t, v) :: g) h := by
  intro X R μ w tmps e1 e2 e3
  refine ⟨R, μ, ?_, e3⟩
  intro s
  simp only [lookR]
  by_cases e : t = s
  · subst e; simp only [Nat.beq_refl, cond_true]; rw [← he]; exact e2 t
  · rw [beq_ne e]; exact e2 s

/-- A nil slice is an empty read-only one. -/
theorem ent_nil (t : Nat) (v : RVal) (he : lookR g t = .r .nil) (hv : v = .bs [] ∨ v = .ro 0 []) : Ent m g h ((t, .r v) :: g) h := by
  intro X R μ w tmps e1 e2 e3
  refine ⟨R, μ, ?_, e3⟩
  intro s
  simp only [lookR]
  by_cases e : t = s
  · subst e
    simp only [Nat.beq_refl, cond_true]
    have := e2 t
    rw [he] at this
    simp only [ARel, RRel] at this
    obtain ⟨ad, this⟩ := this
    rw [this]
    rcases hv with rfl | rfl
    · simp only [ARel, RRel]
      exact ⟨ad, 0, rfl, Nat.le_refl _, .inl rfl⟩
    · simp only [ARel, RRel]
      exact ⟨ad, 0, [], rfl, Nat.le_refl _, .inl rfl, by simp [RRels]⟩
  · rw [beq_ne e]; exact e2 s

theorem bodyRel_of_cells {R : Nat → Prop} {μ : Mu} {w : World} {bd bd' : Body} (he : bd.cells = bd'.cells) {vs : List Value} (h : BodyRel R μ w bd vs) : BodyRel R μ w bd' vs := by
  have h1 := bodyRel_cells h
  rw [he] at h1
  cases bd' with
  | bytes s =>
    simp only [Body.cells] at h1
    simp only [BodyRel]
    clear he h
    induction s generalizing vs with
    | nil => simpa [ARels, bytesV] using h1
    | cons b s ih =>
      simp only [List.map_cons, ARels] at h1
      obtain ⟨c, r, rfl, h2, h3⟩ := h1
      simp only [ARel, RRel] at h2
      rw [h2, ih h3]
      rfl
  | plain xs => exact ARels.of_r.1 h1
  | mixed cs => exact h1

/-- One block is told anew: the same cells. -/
theorem ent_body (β : Nat) (bd bd' : Body) (hg : h.get β = some bd) (he : bd.cells = bd'.cells) : Ent m g h g (h.set β (some bd')) := by
  intro X R μ w tmps e1 e2 e3
  obtain ⟨b, o, h1, h2, h3, h4⟩ := e3.live β bd hg
  obtain ⟨cells, el, fz, vs, h5, h6, h7, h8, h9⟩ := h4.ex
  exact ⟨R, μ, e2, e3.put h1 h2 h3 ⟨cells, el, fz, vs, h5, h6, bodyRel_of_cells he h7, h8, h9⟩ (fun γ blk' o' hne hg' => by
    intro hm
    exact hne (e3.inj γ β blk' bd b b o' o hg' hg hm h1 rfl))⟩

/-- A name is forgotten. -/
theorem ent_kill (β : Nat) : Ent m g h g (h.set β none) := fun _ R μ _ _ _ e2 e3 => ⟨R, μ, e2, e3.kill β⟩

/-- What a slice over a body is as a read-only value. -/
def roOf (bd : Body) (off n z : Nat) : Option (RVal × Prop) :=
  match bd with
  | .bytes s => some (.bs (cutA s off n), off + n ≤ s.length ∧ z = 1)
  | .plain xs => some (.ro n (cutA xs off (n * z)), True)
  | .mixed _ => none

/-- An owned slice becomes read-only, for good. -/
theorem ent_freeze (t : Nat) {β off n z : Nat} {bd : Body} {v : RVal} {c : Prop} (hl : lookR g t = .sl β off n z) (hg : h.get β = some bd) (hr : roOf bd off n z = some (v, c)) (hc : c) : Ent m g h ((t, .r v) :: g) (h.set β none) := by
  intro X R μ w tmps e1 e2 e3
  obtain ⟨b, o, h1, h2, h3, h4⟩ := e3.live β bd hg
  obtain ⟨cells, el, fz, vs, h5, h6, h7, h8, h9⟩ := h4.ex
  obtain ⟨hlt, _⟩ := Array.getElem?_eq_some_iff.1 h5
  have hfree := e3.free_kill hg h1
  have H := (e3.kill β).freeze h3 hfree ⟨cells, el, fz, h5⟩
  refine ⟨fun k => R k ∨ k = b, μ, ?_, H⟩
  intro s
  simp only [lookR]
  by_cases e : t = s
  · subst e
    simp only [Nat.beq_refl, cond_true]
    have ht := e2 t
    rw [hl] at ht
    simp only [ARel] at ht ⊢
    obtain ⟨b', o', cap, cells', el', fz', h10, h11, h12, h13, h14, h15⟩ := ht
    rw [h1] at h10; cases h10
    rw [h11]
    have hrow : ∀ k, RowAt (fun k => R k ∨ k = b) w (some ⟨b, o + off, none⟩) ((vs.drop off).take k) := by
      intro k
      refine .inr ⟨b, o + off, rfl, .inr rfl, fun j v hj => ?_⟩
      rw [List.getElem?_take] at hj
      split at hj
      · rw [List.getElem?_drop] at hj
        simp [World.cell?, h5, Nat.add_assoc, h8 _ _ hj]
      · simp at hj
    unfold roOf at hr
    split at hr
    · rename_i s'
      simp only [Option.some.injEq] at hr
      obtain ⟨rfl, rfl⟩ := Prod.mk.inj hr
      simp only [BodyRel] at h7
      subst h7
      simp only [RRel]
      refine ⟨some ⟨b, o + off, none⟩, cap, ?_, ?_, ?_⟩
      · rw [cutA_eq]; simp only [List.length_take, List.length_drop]; congr 1; omega
      · rw [cutA_eq]; simp only [List.length_take, List.length_drop]; omega
      · have := hrow n
        rw [cutA_eq]
        simpa [bytesV] using this
    · rename_i xs
      simp only [Option.some.injEq] at hr
      obtain ⟨rfl, rfl⟩ := Prod.mk.inj hr
      simp only [BodyRel] at h7
      simp only [RRel]
      refine ⟨some ⟨b, o + off, none⟩, cap, (vs.drop off).take (n * z), rfl, h12, hrow _, ?_⟩
      rw [cutA_eq]
      exact RRels.mono (fun _ h => .inl h) (Onward.refl R w) _ _ ((RRels.drop off h7).take _)
    · simp at hr
  · rw [beq_ne e]
    exact (e2 s).mono (fun _ h => .inl h) (Onward.refl R w) (fun _ _ h => h)

end
end Go.Proofs.Ytplfajhaehkhnaa

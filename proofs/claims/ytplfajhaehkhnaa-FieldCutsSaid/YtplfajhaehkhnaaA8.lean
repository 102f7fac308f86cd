/-
  ABSTRACT MACHINE, 8: what becomes of the heap; operations without memory as steps.
-/
import Derived.Test.YtplfajhaehkhnaaA7
namespace Go.Proofs.Ytplfajhaehkhnaa
open Go

theorem BodyRel.mono {R R' : Nat → Prop} {μ μ' : Mu} {w w' : World} (hR : ∀ k, R k → R' k) (hw : Onward R w w') (hm : ∀ (β : Nat) p, μ[β]? = some p → μ'[β]? = some p) {bd : Body} {vs : List Value}
    (h : BodyRel R μ w bd vs) : BodyRel R' μ' w' bd vs := by
  cases bd with
  | bytes s => exact h
  | plain xs => exact RRels.mono hR hw xs vs h
  | mixed cs => exact ARels.mono hR hw hm cs vs h

theorem BlkRel.mono {R R' : Nat → Prop} {μ μ' : Mu} {w w' : World} (hR : ∀ k, R k → R' k) (hw : Onward R w w') (hm : ∀ (β : Nat) p, μ[β]? = some p → μ'[β]? = some p) {b o : Nat} {blk : ABlk}
    (hb : w'.heap[b]? = w.heap[b]?) (h : BlkRel R μ w b o blk) : BlkRel R' μ' w' b o blk := by
  obtain ⟨cells, el, fz, vs, h1, h2, h3, h4, h5⟩ := h.ex
  exact ⟨cells, el, fz, vs, hb.trans h1, h2, h3.mono hR hw hm, h4, h5⟩

theorem look_kill {tab : List (Nat × Option ABlk)} {β γ : Nat} {v : Option ABlk} : Hp.look ((β, v) :: tab) γ = if β = γ then v else Hp.look tab γ := by
  simp only [Hp.look]
  by_cases e : β = γ
  · subst e; simp
  · rw [beq_ne e]; simp [e]

theorem mu_app {μ : Mu} {p : Nat × Nat} : ∀ (β : Nat) q, μ[β]? = some q → (μ ++ [p])[β]? = some q := by
  intro β q h
  obtain ⟨hl, _⟩ := List.getElem?_eq_some_iff.1 h
  rw [List.getElem?_append_left hl]; exact h

section
variable {X : Ctx} {R : Nat → Prop} {μ : Mu} {h : Hp} {w w' : World}

theorem HRel.kill (H : HRel X R μ h w) (β : Nat) : HRel X R μ { h with tab := (β, none) :: h.tab } w where
  inv := H.inv
  os := H.os
  tape := H.tape
  output := H.output
  size := H.size
  keep := H.keep
  shape := H.shape
  r0 := H.r0
  rO := H.rO
  rlt := H.rlt
  rc := H.rc
  mu := H.mu
  len := H.len
  live := by
    intro γ blk hg
    simp only [Hp.get, look_kill] at hg
    split at hg
    · simp at hg
    · exact H.live γ blk hg
  inj := by
    intro γ γ' blk blk' b b' o o' h1 h2
    simp only [Hp.get, look_kill] at h1 h2
    split at h1
    · simp at h1
    · split at h2
      · simp at h2
      · exact H.inj γ γ' blk blk' b b' o o' h1 h2

/-- No live block lies in block b. -/
def HRel.Free (h : Hp) (μ : Mu) (b : Nat) : Prop := ∀ β blk o, h.get β = some blk → μ[β]? ≠ some (b, o)

theorem HRel.free_kill (H : HRel X R μ h w) {β : Nat} {blk : ABlk} {b o : Nat} (hg : h.get β = some blk) (hm : μ[β]? = some (b, o)) : HRel.Free { h with tab := (β, none) :: h.tab } μ b := by
  intro γ blk' o' h1 h2
  simp only [Hp.get, look_kill] at h1
  split at h1
  · simp at h1
  · rename_i hne
    exact hne (H.inj β γ blk blk' b b o o' hg h1 hm h2 rfl)

theorem HRel.free_new (H : HRel X R μ h w) {b : Nat} (hb : w.heap.size ≤ b) : HRel.Free h μ b := by
  intro γ blk o h1 h2
  obtain ⟨b', o', h3, _, _, h4⟩ := H.live γ blk h1
  rw [h2] at h3
  cases h3
  obtain ⟨cells, el, fz, vs, h5, _⟩ := h4.ex
  obtain ⟨hl, _⟩ := Array.getElem?_eq_some_iff.1 h5
  omega

/-- A block that the call may write. -/
def Ctx.own (X : Ctx) (b : Nat) : Prop := X.O b ∨ X.w0.heap.size ≤ b

theorem HRel.onward (H : HRel X R μ h w) {row : Option Nat} (hg : w.grownBy w' row) (hs : ∀ b, row = some b → ¬ R b ∧ ∀ (c : Array Value) (e : TypeId) (f : Nat × Nat), w.heap[b]? = some (Obj.cells c e f) → ∃ (c' : Array Value) (f' : Nat × Nat), w'.heap[b]? = some (Obj.cells c' e f') ∧ c'.size = c.size) :
    Onward R w w' where
  same k hk := hg.block k (H.rlt k hk) (fun e => (hs k e.symm).1 hk)
  shape k c e f hk := by
    obtain ⟨hl, _⟩ := Array.getElem?_eq_some_iff.1 hk
    by_cases hr : row = some k
    · exact (hs k hr).2 c e f hk
    · exact ⟨c, f, (hg.block k hl (fun e => hr e.symm)).trans hk, rfl⟩

theorem HRel.grow (H : HRel X R μ h w) {row : Option Nat} (hg : w.grownBy w' row)
    (hs : ∀ b, row = some b → ¬ R b ∧ ∀ (c : Array Value) (e : TypeId) (f : Nat × Nat), w.heap[b]? = some (Obj.cells c e f) → ∃ (c' : Array Value) (f' : Nat × Nat), w'.heap[b]? = some (Obj.cells c' e f') ∧ c'.size = c.size)
    (hr : ∀ b, row = some b → X.own b ∧ HRel.Free h μ b) (hc : ∀ b, row = some b → ∃ (c : Array Value) (e : TypeId) (f : Nat × Nat), w.heap[b]? = some (Obj.cells c e f)) : HRel X R μ h w' where
  inv := X.mono _ _ _ _ _ H.inv (fun _ h => h) (H.onward hg hs) (fun k o hk hn => by
    obtain ⟨hl, _⟩ := Array.getElem?_eq_some_iff.1 hk
    by_cases hr : row = some k
    · obtain ⟨c, e, f, h1⟩ := hc k hr
      rw [h1] at hk; cases hk; exact absurd rfl (hn c e f)
    · exact (hg.block k hl (fun e => hr e.symm)).trans hk)
  os := hg.os.trans H.os
  tape := hg.tape.trans H.tape
  output := hg.output.trans H.output
  size := Nat.le_trans H.size hg.size
  keep k hk ho := by
    rw [hg.block k (Nat.lt_of_lt_of_le hk H.size) (fun e => by rcases (hr k e.symm).1 with h1 | h1; exact ho h1; omega)]
    exact H.keep k hk ho
  shape k c e f hk := by
    obtain ⟨c1, f1, h1, h2⟩ := H.shape k c e f hk
    obtain ⟨c2, f2, h3, h4⟩ := (H.onward hg hs).shape k c1 e f1 h1
    exact ⟨c2, f2, h3, h4.trans h2⟩
  r0 := H.r0
  rO := H.rO
  rlt k hk := Nat.lt_of_lt_of_le (H.rlt k hk) hg.size
  rc k hk := by
    obtain ⟨c, e, f, h1⟩ := H.rc k hk
    exact ⟨c, e, f, ((H.onward hg hs).same k hk).trans h1⟩
  mu := H.mu
  len := H.len
  live β blk hb := by
    obtain ⟨b, o, h1, h2, h3, h4⟩ := H.live β blk hb
    refine ⟨b, o, h1, h2, h3, h4.mono (fun _ h => h) (H.onward hg hs) (fun _ _ h => h) ?_⟩
    obtain ⟨cells, el, fz, vs, h5, _⟩ := h4.ex
    obtain ⟨hl, _⟩ := Array.getElem?_eq_some_iff.1 h5
    exact hg.block b hl (fun e => (hr b e.symm).2 β blk o hb h1)
  inj := H.inj

theorem HRel.add (H : HRel X R μ h w) {b o : Nat} {blk : ABlk} (h1 : ¬ R b) (h2 : X.own b) (h3 : BlkRel R (μ ++ [(b, o)]) w b o blk) (h4 : HRel.Free h μ b) :
    HRel X R (μ ++ [(b, o)]) { h with nxt := h.nxt + 1, tab := (h.nxt, some blk) :: h.tab } w where
  inv := H.inv
  os := H.os
  tape := H.tape
  output := H.output
  size := H.size
  keep := H.keep
  shape := H.shape
  r0 := H.r0
  rO := H.rO
  rlt := H.rlt
  rc := H.rc
  mu β p hp := mu_app _ _ (H.mu β p hp)
  len := by simp [H.len]
  live := by
    intro γ blk' hg
    simp only [Hp.get, look_kill] at hg
    split at hg
    · rename_i e
      subst e
      cases hg
      exact ⟨b, o, by rw [← H.len]; simp, h1, h2, h3⟩
    · obtain ⟨b', o', h5, h6, h7, h8⟩ := H.live γ blk' hg
      exact ⟨b', o', mu_app _ _ h5, h6, h7, h8.mono (fun _ h => h) (Onward.refl R w) mu_app rfl⟩
  inj := by
    have hold : ∀ γ blk', h.get γ = some blk' → ∃ p, μ[γ]? = some p := fun γ blk' hg => by
      obtain ⟨b', o', h5, _⟩ := H.live γ blk' hg; exact ⟨_, h5⟩
    intro γ γ' k k' c c' p p' g1 g2 m1 m2 e
    subst e
    have hn : ∀ q, (μ ++ [(b, o)])[h.nxt]? = some q → q = (b, o) := by intro q hq; rw [← H.len] at hq; simpa using hq.symm
    have ho : ∀ γ k q, h.get γ = some k → (μ ++ [(b, o)])[γ]? = some q → μ[γ]? = some q := by
      intro γ k q hg hq
      obtain ⟨p, hp⟩ := hold γ k hg
      rw [mu_app _ _ hp] at hq
      rw [hp]; exact hq
    simp only [Hp.get, look_kill] at g1 g2
    split at g1
    · rename_i e1
      subst e1
      split at g2
      · rename_i e2; exact e2
      · have := hn _ m1
        cases this
        exact absurd (ho γ' k' _ g2 m2) (h4 γ' k' p' g2)
    · split at g2
      · rename_i e2
        subst e2
        have := hn _ m2
        cases this
        exact absurd (ho γ k _ g1 m1) (h4 γ k p g1)
      · exact H.inj γ γ' k k' c c p p' g1 g2 (ho γ k _ g1 m1) (ho γ' k' _ g2 m2) rfl

theorem HRel.put (H : HRel X R μ h w) {β b o : Nat} {blk : ABlk} (hm : μ[β]? = some (b, o)) (h1 : ¬ R b) (h2 : X.own b) (h3 : BlkRel R μ w b o blk) (h4 : ∀ γ blk o, γ ≠ β → h.get γ = some blk → μ[γ]? ≠ some (b, o)) :
    HRel X R μ { h with tab := (β, some blk) :: h.tab } w where
  inv := H.inv
  os := H.os
  tape := H.tape
  output := H.output
  size := H.size
  keep := H.keep
  shape := H.shape
  r0 := H.r0
  rO := H.rO
  rlt := H.rlt
  rc := H.rc
  mu := H.mu
  len := H.len
  live := by
    intro γ blk' hg
    simp only [Hp.get, look_kill] at hg
    split at hg
    · rename_i e
      subst e
      cases hg
      exact ⟨b, o, hm, h1, h2, h3⟩
    · exact H.live γ blk' hg
  inj := by
    intro γ γ' k k' c c' p p' g1 g2 m1 m2 e
    subst e
    simp only [Hp.get, look_kill] at g1 g2
    split at g1
    · rename_i e1
      subst e1
      split at g2
      · rename_i e2; exact e2
      · rename_i hne
        rw [hm] at m1
        cases m1
        exact absurd m2 (h4 γ' k' p' (fun e => hne e.symm) g2)
    · split at g2
      · rename_i hne e2
        subst e2
        rw [hm] at m2
        cases m2
        exact absurd m1 (h4 γ k p (fun e => hne e.symm) g1)
      · exact H.inj γ γ' k k' c c p p' g1 g2 m1 m2 rfl

theorem HRel.freeze (H : HRel X R μ h w) {b : Nat} (h2 : X.own b) (h4 : HRel.Free h μ b) (hl : ∃ (c : Array Value) (e : TypeId) (f : Nat × Nat), w.heap[b]? = some (Obj.cells c e f)) : HRel X (fun k => R k ∨ k = b) μ h w where
  inv := X.mono _ _ _ _ _ H.inv (fun _ h => .inl h) (Onward.refl R w) (Others.refl w)
  os := H.os
  tape := H.tape
  output := H.output
  size := H.size
  keep := H.keep
  shape := H.shape
  r0 k hk := .inl (H.r0 k hk)
  rO k hk := by
    rcases hk with hk | hk
    · exact H.rO k hk
    · subst hk; exact .inr h2
  rlt k hk := by
    rcases hk with hk | hk
    · exact H.rlt k hk
    · subst hk; obtain ⟨c, e, f, h1⟩ := hl; exact (Array.getElem?_eq_some_iff.1 h1).1
  rc k hk := by
    rcases hk with hk | hk
    · exact H.rc k hk
    · subst hk; exact hl
  mu := H.mu
  len := H.len
  live := by
    intro γ blk' hg
    obtain ⟨b', o', h5, h6, h7, h8⟩ := H.live γ blk' hg
    refine ⟨b', o', h5, ?_, h7, h8.mono (fun _ h => .inl h) (Onward.refl R w) (fun _ _ h => h) rfl⟩
    rintro (h9 | h9)
    · exact h6 h9
    · subst h9; exact h4 γ blk' o' hg h5
  inj := H.inj

/-- A draw turns nothing. -/
theorem HRel.drew (H : HRel X R μ h w) (n : Nat) : HRel X R μ h { w with drawn := n } where
  inv := X.mono _ _ _ _ _ H.inv (fun _ h => h) ⟨fun _ _ => rfl, fun _ c _ f h => ⟨c, f, h, rfl⟩⟩ (fun _ _ h _ => h)
  os := H.os
  tape := H.tape
  output := H.output
  size := H.size
  keep := H.keep
  shape := H.shape
  r0 := H.r0
  rO := H.rO
  rlt := H.rlt
  rc := H.rc
  mu := H.mu
  len := H.len
  live β blk hb := by
    obtain ⟨b, o, h1, h2, h3, h4⟩ := H.live β blk hb
    have hon : Onward R w { w with drawn := n } := ⟨fun _ _ => rfl, fun _ c _ f h => ⟨c, f, h, rfl⟩⟩
    exact ⟨b, o, h1, h2, h3, h4.mono (fun _ h => h) hon (fun _ _ h => h) rfl⟩
  inj := H.inj

end
end Go.Proofs.Ytplfajhaehkhnaa

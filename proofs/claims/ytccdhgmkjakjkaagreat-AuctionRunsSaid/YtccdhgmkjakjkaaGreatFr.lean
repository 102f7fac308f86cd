/-
  ABSTRACT MACHINE, beside the others: heaps whose names are told by functions; calls that are handed the beginning of a heap under its own names; renaming by a function.
-/
import Derived.Test.YtccdhgmkjakjkaaGreatMB
namespace Go.Proofs.YtccdhgmkjakjkaaGreat
open Go
set_option linter.unusedVariables false
theorem look_ne {β γ : Nat} {v : Option ABlk} {tab : List (Nat × Option ABlk)} (h : β ≠ γ) : Hp.look ((β, v) :: tab) γ = Hp.look tab γ := by rw [look_kill, if_neg h]
theorem look_eq {β : Nat} {v : Option ABlk} {tab : List (Nat × Option ABlk)} : Hp.look ((β, v) :: tab) β = v := by rw [look_kill, if_pos rfl]
mutual
theorem ren_nb {ρ : Nat → Nat} {n : Nat} (hρ : ∀ j, j < n → ρ j = j) : ∀ v : AVal, AVal.nb n v = true → AVal.ren ρ v = v
 | .sl β _ _ _, h => by simp only [AVal.ren]; rw [hρ β (Nat.le_of_ble_eq_true h)]
 | .ptr β _, h => by simp only [AVal.ren]; rw [hρ β (Nat.le_of_ble_eq_true h)]
 | .func _ cs, h => by simp only [AVal.ren]; rw [rens_nb hρ cs h]
 | .agg cs, h => by simp only [AVal.ren]; rw [rens_nb hρ cs h]
 | .tuple cs, h => by simp only [AVal.ren]; rw [rens_nb hρ cs h]
 | .r _, _ => rfl
 | .rp _ _, _ => rfl
 | .bp _ _, _ => rfl
 | .yld _, _ => rfl
 | .any, _ => rfl
theorem rens_nb {ρ : Nat → Nat} {n : Nat} (hρ : ∀ j, j < n → ρ j = j) : ∀ v : List AVal, AVal.nbs n v = true → AVal.rens ρ v = v
 | [], _ => rfl
 | x :: xs, h => by
  simp only [AVal.nbs, Bool.and_eq_true] at h
  simp only [AVal.rens]; rw [ren_nb hρ x h.1, rens_nb hρ xs h.2]
end
theorem bren_nb {ρ : Nat → Nat} {n : Nat} (hρ : ∀ j, j < n → ρ j = j) (b : Body) (h : b.nb n = true) : b.ren ρ = b := by
 cases b with
 | mixed cs => simp only [Body.ren]; rw [rens_nb hρ cs h]
 | plain _ => rfl
 | bytes _ => rfl
mutual
theorem nb_mono {n k : Nat} (hk : n ≤ k) : ∀ v : AVal, AVal.nb n v = true → AVal.nb k v = true
 | .sl β _ _ _, h => Nat.ble_eq_true_of_le (Nat.le_trans (Nat.le_of_ble_eq_true h) hk)
 | .ptr β _, h => Nat.ble_eq_true_of_le (Nat.le_trans (Nat.le_of_ble_eq_true h) hk)
 | .func _ cs, h => nbs_mono hk cs h
 | .agg cs, h => nbs_mono hk cs h
 | .tuple cs, h => nbs_mono hk cs h
 | .r _, _ => rfl
 | .rp _ _, _ => rfl
 | .bp _ _, _ => rfl
 | .yld _, _ => rfl
 | .any, _ => rfl
theorem nbs_mono {n k : Nat} (hk : n ≤ k) : ∀ v : List AVal, AVal.nbs n v = true → AVal.nbs k v = true
 | [], _ => rfl
 | x :: xs, h => by
  simp only [AVal.nbs, Bool.and_eq_true] at h ⊢
  exact ⟨nb_mono hk x h.1, nbs_mono hk xs h.2⟩
end
theorem bnb_mono {n k : Nat} (hk : n ≤ k) (b : Body) (h : b.nb n = true) : b.nb k = true := by
 cases b with
 | mixed cs => exact nbs_mono hk cs h
 | plain _ => rfl
 | bytes _ => rfl
structure SubH (h hp : Hp) : Prop where
 le : hp.nxt ≤ h.nxt
 blk : ∀ i blk, hp.get i = some blk → i < hp.nxt ∧ blk.nb hp.nxt = true ∧ h.get i = some blk
theorem range_getD {n j : Nat} (h : j < n) : (List.range n).getD j 0 = j := by simp [List.getD, h]
theorem SubH.handed {h hp : Hp} (hs : SubH h hp) : Handed h hp (List.range hp.nxt) where
 len := List.length_range
 lt γ hγ := Nat.lt_of_lt_of_le (List.mem_range.1 hγ) hs.le
 nodup := List.nodup_range
 blk i blk hg := by
  obtain ⟨h1, h2, h3⟩ := hs.blk i blk hg
  refine ⟨h1, h2, ?_⟩
  rw [range_getD h1, bren_nb (fun j hj => range_getD hj) blk h2]
  exact h3
section
variable {X : Ctx} {R : Nat → Prop} {μ : Mu} {h hp : Hp} {w : World}
theorem SubH.mu (H : HRel X R μ h w) (hs : SubH h hp) {j : Nat} (hj : j < hp.nxt) : (muOf μ (List.range hp.nxt))[j]? = μ[j]? := by
 rw [muOf_get H.len hs.handed hj, range_getD hj]
theorem sub_kept (H : HRel X R μ h w) (hs : SubH h hp) {R' : Nat → Prop} {μ' : Mu} {h' : Hp} {w' : World} (H' : HRel (callCtx w hp R (muOf μ (List.range hp.nxt))) R' μ' h' w') {β : Nat} {blk : ABlk} (hg : h.get β = some blk) (hn : hp.get β = none) :
  ∃ b o, μ[β]? = some (b, o) ∧ ¬ R' b ∧ X.own b ∧ BlkRel R' μ w' b o blk ∧ b < w.heap.size ∧ ¬ Owned hp (muOf μ (List.range hp.nxt)) b := by
 obtain ⟨hon, hRR, hK, hlive⟩ := after_call H hs.handed H'
 obtain ⟨b, o, h1, h2, h3, h4⟩ := H.live β blk hg
 obtain ⟨cells, el, fz, vs, h5, _⟩ := h4.ex
 obtain ⟨hl, _⟩ := Array.getElem?_eq_some_iff.1 h5
 have hno : ¬ Owned hp (muOf μ (List.range hp.nxt)) b := by
  rintro ⟨i, blk1, o1, g1, m1⟩
  obtain ⟨h6, _, h7⟩ := hs.blk i blk1 g1
  rw [hs.mu H h6] at m1
  have := H.inj i β blk1 blk b b o1 o h7 hg m1 h1 rfl
  subst this
  rw [hn] at g1; cases g1
 refine ⟨b, o, h1, ?_, h3, h4.mono H'.r0 hon (fun _ _ h => h) (H'.keep b hl hno), hl, hno⟩
 intro hR
 rcases H'.rO b hR with h6 | h6 | h6
 ·exact h2 h6
 ·exact hno h6
 ·exact absurd hl (Nat.not_lt.2 h6)
theorem HRel.after_sub (H : HRel X R μ h w) (hs : SubH h hp) {R' : Nat → Prop} {μ' : Mu} {w' : World} (H' : HRel (callCtx w hp R (muOf μ (List.range hp.nxt))) R' μ' hp w') : HRel X R' μ h w' := by
 obtain ⟨hon, hRR, hK, hlive⟩ := after_call H hs.handed H'
 have hmm : ∀ β, β < hp.nxt → ∀ p, μ'[β]? = some p → μ[β]? = some p := by
  intro β hβ p hp'
  have h1 := hs.mu H hβ
  have hl : β < μ.length := by rw [H.len]; exact Nat.lt_of_lt_of_le hβ hs.le
  have h2 : μ[β]? = some μ[β] := List.getElem?_eq_getElem hl
  rw [h2] at h1
  have h3 := H'.mu β _ h1
  rw [hp'] at h3
  rw [h2, h3]
 exact {
  os := hK.os
  tape := hK.tape
  output := hK.output
  size := hK.size
  keep := hK.keep
  shape := hK.shape
  r0 := hK.r0
  rO := hK.rO
  rlt := hK.rlt
  rc := hK.rc
  mu := H.mu
  len := H.len
  live := by
   intro γ blk hg
   cases hq : hp.get γ with
   | none =>
    obtain ⟨b, o, h1, h2, h3, h4, _⟩ := sub_kept H hs H' hg hq
    exact ⟨b, o, h1, h2, h3, h4⟩
   | some b0 =>
    obtain ⟨hin, hnb, h3⟩ := hs.blk γ b0 hq
    rw [hg] at h3
    cases h3
    obtain ⟨b, o, h4, h5, h6, h7, h8⟩ := hlive γ blk hq
    refine ⟨b, o, hmm γ hin _ h4, h5, h6, ?_⟩
    obtain ⟨cells, el, fz, vs, h11, h12, h13, h14, h15⟩ := h7.ex
    have h16 := h13.ren (μ2 := μ) (ρ := id) (m := hp.nxt) (fun β hβ p hp' => hmm β hβ p hp') hnb
    rw [bren_nb (ρ := id) (fun _ _ => rfl) blk hnb] at h16
    exact ⟨cells, el, fz, vs, h11, h12, h16, h14, h15⟩
  inj := H.inj
  inv := hK.inv }
def overH (h hp h' : Hp) : Hp := ⟨h'.nxt, h'.tab ++ (hp.tab.map (fun e => (e.1, none)) ++ h.tab), h.gh⟩
theorem look_over {l tab : List (Nat × Option ABlk)} {β : Nat} {blk : ABlk} : Hp.look (l.map (fun e => (e.1, none)) ++ tab) β = some blk → Hp.look l β = none ∧ Hp.look tab β = some blk := by
 induction l with
 | nil => intro h; exact ⟨rfl, h⟩
 | cons x l ih =>
  intro h
  simp only [List.map_cons, List.cons_append, look_kill] at h
  split at h
  ·simp at h
  ·rename_i hne
   obtain ⟨h1, h2⟩ := ih h
   refine ⟨?_, h2⟩
   obtain ⟨i, v⟩ := x
   rw [look_ne hne]; exact h1
theorem HRel.over (H : HRel X R μ h w) (hs : SubH h hp) (hn : hp.nxt = h.nxt) {R' : Nat → Prop} {μ' : Mu} {h' : Hp} {w' : World} (H' : HRel (callCtx w hp R (muOf μ (List.range hp.nxt))) R' μ' h' w') :
  HRel X R' μ' (overH h hp h') w' ∧ (∀ (β : Nat) p, μ[β]? = some p → μ'[β]? = some p) := by
 obtain ⟨hon, hRR, hK, hlive⟩ := after_call H hs.handed H'
 have hmm : ∀ (β : Nat) p, μ[β]? = some p → μ'[β]? = some p := by
  intro β p hp'
  obtain ⟨hl, _⟩ := List.getElem?_eq_some_iff.1 hp'
  exact H'.mu β p (by show (muOf μ (List.range hp.nxt))[β]? = some p; rw [hs.mu H (by rw [hn, ← H.len]; exact hl)]; exact hp')
 refine ⟨?_, hmm⟩
 have hsp : ∀ β blk, (overH h hp h').get β = some blk → h'.get β = some blk ∨ (hp.get β = none ∧ h.get β = some blk) := by
  intro β blk hg
  rcases look_app2 hg with h1 | h1
  ·exact .inl h1
  ·exact .inr (look_over h1)
 exact {
  os := hK.os
  tape := hK.tape
  output := hK.output
  size := hK.size
  keep := hK.keep
  shape := hK.shape
  r0 := hK.r0
  rO := hK.rO
  rlt := hK.rlt
  rc := hK.rc
  mu := fun β p hp' => hmm β p (H.mu β p hp')
  len := H'.len
  live := by
   intro γ blk hg
   rcases hsp γ blk hg with h1 | ⟨h1, h2⟩
   ·obtain ⟨b, o, h4, h5, h6, h7, h8⟩ := hlive γ blk h1
    exact ⟨b, o, h4, h5, h6, h7⟩
   ·obtain ⟨b, o, h3, h4, h5, h6, _⟩ := sub_kept H hs H' h2 h1
    exact ⟨b, o, hmm _ _ h3, h4, h5, h6.mono (fun _ h => h) (Onward.refl R' w') hmm rfl⟩
  inj := by
   intro γ γ' k k' b b' o o' g1 g2 m1 m2 e
   subst e
   have hx : ∀ {γ γ' k k' o o'}, h'.get γ = some k → hp.get γ' = none → h.get γ' = some k' → μ'[γ]? = some (b, o) → μ'[γ']? = some (b, o') → False := by
    intro γ γ' k k' o o' q1 q2 q3 n1 n2
    obtain ⟨b1, o1, h3, _, _, _, h7, h8⟩ := sub_kept H hs H' q3 q2
    rw [hmm _ _ h3] at n2; cases n2
    obtain ⟨b2, o2, h9, _, h10, _⟩ := H'.live γ k q1
    rw [n1] at h9; cases h9
    rcases h10 with h10 | h10
    ·exact h8 h10
    ·exact absurd h7 (Nat.not_lt.2 h10)
   rcases hsp γ k g1 with h1 | ⟨h1, h2⟩ <;> rcases hsp γ' k' g2 with h3 | ⟨h3, h4⟩
   ·exact H'.inj γ γ' k k' b b o o' h1 h3 m1 m2 rfl
   ·exact (hx h1 h3 h4 m1 m2).elim
   ·exact (hx h3 h1 h2 m2 m1).elim
   ·obtain ⟨b1, o1, h5, _⟩ := sub_kept H hs H' h2 h1
    obtain ⟨b2, o2, h6, _⟩ := sub_kept H hs H' h4 h3
    rw [hmm _ _ h5] at m1; rw [hmm _ _ h6] at m2
    cases m1; cases m2
    exact H.inj γ γ' k k' b b o o' h2 h4 h5 h6 rfl
  inv := hK.inv }
end
section
variable {P : Program} {T : TTab} {f N : Nat} {m : Md} {ops : Array Oper} {o : Oper} {rest : List Oper} {k : List Item} {g g' : Regs} {h h' hp : Hp} {Post : AVal → Hp → Prop}
theorem qop_subH {n : Nat} {as : List AVal} {v0 : AVal} {Q : AVal → Hp → Prop} (hs : Spec P n as hp Q) (hQ : ∀ v h', Q v h' → v = v0 ∧ h' = hp) (hca : callA g o = some (n, as)) (hb : AVal.nbs hp.nxt as = true) (hh : SubH h hp) (hv : AVal.nb hp.nxt v0 = true) : QOp P N h h o g v0 := by
 intro g' hag X R μ a w Q' e5 e6 e7
 rw [← callA_congr hag] at hca
 obtain ⟨cargs, h1, h3⟩ := callA_run e6 hca hs.can
 unfold Oper.wp
 rw [h1]
 have hH := handed_rel e7 hh.handed
 have ha := ARels.unren (μ := muOf μ (List.range hp.nxt)) (fun β hβ => muOf_get e7.len hh.handed hβ) as cargs hb (by rw [rens_nb (fun j hj => range_getD hj) as hb]; exact h3)
 refine (hs.run R (muOf μ (List.range hp.nxt)) w cargs hH ha).mono ?_
 rintro e w' ⟨u, rfl, R', μ', av, h1', h4, h5, h6⟩
 obtain ⟨rfl, rfl⟩ := hQ _ _ h6
 obtain ⟨hon, hRR, hK, hlive⟩ := after_call e7 hh.handed h5
 refine ⟨u, R', μ, rfl, ?_, e6.mono hRR hon (fun _ _ h => h), e7.after_sub hh h5⟩
 have := ARel.ren (μ2 := μ) (ρ := id) (m := h1'.nxt) (fun β hβ p hp' => by
  have h7 := hh.mu e7 hβ
  have hl : β < μ.length := by rw [e7.len]; exact Nat.lt_of_lt_of_le hβ hh.le
  have h8 : μ[β]? = some μ[β] := List.getElem?_eq_getElem hl
  rw [h8] at h7
  have h9 := h5.mu β _ h7
  rw [hp'] at h9
  show μ[β]? = some p
  rw [h8, h9]) av u hv h4
 rwa [ren_nb (ρ := id) (fun _ _ => rfl) av hv] at this
theorem ar_over {t : Bool} {n d : Nat} {as : List AVal} {Q : AVal → Hp → Prop} (hs : Spec P n as hp Q) (hca : callA g o = some (n, as)) (hb : AVal.nbs hp.nxt as = true) (hh : SubH h hp) (hn : hp.nxt = h.nxt)
  (hd : o.dst = some d) (hN : Nat.blt d N = true) (hg : guardB ops g o = some t) (ht : t = true)
  (hk : ∀ av h', Q av h' → AReg P f N m ops rest k ((d, av) :: g) (overH h hp h') Post) : AReg P f N m ops (o :: rest) k g h Post := by
 subst ht
 intro idx hi X R μ a w b cs e1 e2 e3 e4 e5 e6 e7
 cases idx with
 | nil => simp at hi
 | cons i idx =>
  simp only [List.map_cons, List.cons.injEq] at hi
  obtain ⟨ho, hi⟩ := hi
  have hw := guardB_wanted hg e6
  obtain ⟨cargs, h1, h2⟩ := callA_run e6 hca hs.can
  have hH := handed_rel e7 hh.handed
  have ha := ARels.unren (μ := muOf μ (List.range hp.nxt)) (fun β hβ => muOf_get e7.len hh.handed hβ) as cargs hb (by rw [rens_nb (fun j hj => range_getD hj) as hb]; exact h2)
  obtain ⟨e, w', fr, ⟨v, rfl, R', μ', av, h', h3, h5, h6⟩, hcomes, hfn, hleave⟩ := hs.run R (muOf μ (List.range hp.nxt)) w cargs hH ha (b.atR a (.inRegion ops (i :: idx) :: k) :: cs)
  obtain ⟨hon, hRR, _, _⟩ := after_call e7 hh.handed h5
  obtain ⟨hO, hmm⟩ := e7.over hh hn h5
  obtain ⟨u, w2, fr2, h9, rest'⟩ := hk av h' h6 idx hi X R' μ' (a.put o.dst v) w' b cs e1 e2 e3 (by rw [put_defers]; exact e4) (by rw [put_size]; exact e5) (by
   rw [hd]; exact (e6.mono hRR hon hmm).put (by rw [e5]; exact Nat.le_of_ble_eq_true hN) h3) hO
  have hst := stepGR_op (P := P) (b := b) (k := k) (cs := cs) (w := w) (rest := idx) ho hw
  have hfin : (b.atR a (.inRegion ops (i :: idx) :: k)).finish v = b.atR (a.put o.dst v) (.inRegion ops idx :: k) := by
   rw [Frame.finish_atR, ho]; rfl
  have henter : step P (lone (b.atR a (.inRegion ops (i :: idx) :: k)) cs w) = .next (lone (Frame.enter P n ⟨cargs⟩ .normal) (b.atR a (.inRegion ops (i :: idx) :: k) :: cs) w) :=
   step_lone_go (by rw [hst, semAt_of_enter h1]; simp [stepG.apply, h1, Frame.atR])
  refine ⟨u, w2, fr2, Steps.head henter (Steps.trans hcomes (Steps.head ?_ h9)), rest'⟩
  rw [← hfin]
  exact step_leave_returned hleave
def WeakF (ρ : Nat → Nat) (n : Nat) (g : Regs) : Regs → Prop
 | [] => True
 | (t, v) :: r => (AVal.nb n v = true ∧ AVal.ren ρ v = lookR g t) ∧ WeakF ρ n g r
theorem weakF_look {ρ : Nat → Nat} {n : Nat} {g : Regs} : ∀ {g' : Regs}, WeakF ρ n g g' → ∀ t, lookR g' t = .any ∨ (AVal.nb n (lookR g' t) = true ∧ AVal.ren ρ (lookR g' t) = lookR g t)
 | [], _, t => .inl rfl
 | (s, v) :: r, hw, t => by
  simp only [WeakF] at hw
  simp only [lookR]
  by_cases e : s = t
  ·subst e; simp only [Nat.beq_refl, cond_true]; exact .inr hw.1
  ·rw [beq_ne e]; exact weakF_look hw.2 t
theorem ent_ren (ρ : Nat → Nat) (hm : m.len ≤ h'.nxt) (hid : ∀ i, i < m.len → ρ i = i) (hlt : ∀ i, i < h'.nxt → ρ i < h.nxt)
  (hb : ∀ i blk, h'.get i = some blk → i < h'.nxt ∧ blk.nb h'.nxt = true ∧ h.get (ρ i) = some (blk.ren ρ)) (hinj : ∀ i j b c, h'.get i = some b → h'.get j = some c → ρ i = ρ j → i = j)
  (hr : WeakF ρ h'.nxt g g') (hgh : h'.gh = h.gh) : Ent m g h g' h' := by
 intro X R μ w tmps e1 e2 e3
 have hget : ∀ i, i < h'.nxt → ((List.range h'.nxt).map fun i => μ.getD (ρ i) (0, 0))[i]? = μ[ρ i]? := by
  intro i hi
  have hl : ρ i < μ.length := by rw [e3.len]; exact hlt i hi
  simp [hi, List.getD, hl]
 refine ⟨R, (List.range h'.nxt).map fun i => μ.getD (ρ i) (0, 0), ?_, ?_⟩
 ·intro t
  rcases weakF_look hr t with h1 | ⟨h1, h2⟩
  ·rw [h1]; simp [ARel]
  ·exact ARel.unren (fun β hβ => hget β hβ) _ _ h1 (by rw [h2]; exact e2 t)
 ·exact {
   os := e3.os
   tape := e3.tape
   output := e3.output
   size := e3.size
   keep := e3.keep
   shape := e3.shape
   r0 := e3.r0
   rO := e3.rO
   rlt := e3.rlt
   mu := fun β p hp => by
    have hβ : β < m.len := by rw [← e1]; exact (List.getElem?_eq_some_iff.1 hp).1
    rw [hget β (Nat.lt_of_lt_of_le hβ hm), hid β hβ]
    exact e3.mu β p hp
   rc := e3.rc
   inv := by rw [hgh]; exact e3.inv
   len := by simp
   live := fun β blk hg => by
    obtain ⟨h1, h2, h3⟩ := hb β blk hg
    obtain ⟨b, o, h4, h5, h6, h7⟩ := e3.live _ _ h3
    obtain ⟨cells, el, fz, vs, h9, h10, h11, h12, h13⟩ := h7.ex
    exact ⟨b, o, (hget β h1).trans h4, h5, h6, ⟨cells, el, fz, vs, h9, h10, h11.unren (fun β hβ => hget β hβ) h2, h12, h13⟩⟩
   inj := by
    intro i j k k' b b' o o' g1 g2 m1 m2 e
    obtain ⟨h1, _, h3⟩ := hb i k g1
    obtain ⟨h4, _, h6⟩ := hb j k' g2
    exact hinj i j k k' g1 g2 (e3.inj _ _ _ _ b b' o o' h3 h6 ((hget i h1).symm.trans m1) ((hget j h4).symm.trans m2) e) }
def SymOk (S : List (Nat × Option ABlk)) (n : Nat) : Prop := ∀ i blk, Hp.look S i = some blk → i < n ∧ blk.nb n = true
def rhoS (n : Nat) (ι : List Nat) (i : Nat) : Nat := bif Nat.blt i n then i else ι.getD (i - n) 0
theorem rhoS_lt {n i : Nat} {ι : List Nat} (h : i < n) : rhoS n ι i = i := by
 have : Nat.blt i n = true := Nat.ble_eq_true_of_le h
 simp [rhoS, this]
theorem rhoS_ge {n i : Nat} {ι : List Nat} (h : n ≤ i) : rhoS n ι i = ι.getD (i - n) 0 := by
 have : Nat.blt i n = false := by
  cases hq : Nat.blt i n with
  | false => rfl
  | true => have := Nat.le_of_ble_eq_true hq; omega
 simp [rhoS, this]
theorem look_pre {n : Nat} {S : List (Nat × Option ABlk)} : ∀ {pre : List (Nat × Option ABlk)}, pre.all (fun p => Nat.ble n p.1) = true → ∀ {i : Nat}, i < n → Hp.look (pre ++ S) i = Hp.look S i
 | [], _, _, _ => rfl
 | (j, v) :: pre, h, i, hi => by
  simp only [List.all_cons, Bool.and_eq_true] at h
  have := Nat.le_of_ble_eq_true h.1
  rw [List.cons_append, look_ne (by omega)]
  exact look_pre h.2 hi
theorem get_pre {n : Nat} {S : List (Nat × Option ABlk)} (q : Nat) (h1 : h.tab.drop q = S) (h2 : (h.tab.take q).all (fun p => Nat.ble n p.1) = true) {i : Nat} (hi : i < n) : h.get i = Hp.look S i := by
 show Hp.look h.tab i = _
 have h3 := List.take_append_drop q h.tab
 rw [h1] at h3
 rw [← h3]
 exact look_pre h2 hi
theorem subH_pre {S : List (Nat × Option ABlk)} (q : Nat) (hS : SymOk S hp.nxt) (h0 : hp.tab = S) (h1 : h.tab.drop q = S) (h2 : (h.tab.take q).all (fun p => Nat.ble hp.nxt p.1) = true) (h3 : hp.nxt ≤ h.nxt) : SubH h hp where
 le := h3
 blk i blk hg := by
  have hg' : Hp.look S i = some blk := by rw [← h0]; exact hg
  obtain ⟨h4, h5⟩ := hS i blk hg'
  exact ⟨h4, h5, by rw [get_pre q h1 h2 h4]; exact hg'⟩
def WeakB2 (ρ : Nat → Nat) (n : Nat) (h : Hp) : List (Nat × Option Body) → Prop
 | [] => True
 | (_, none) :: r => WeakB2 ρ n h r
 | (i, some b) :: r => (Nat.blt i n = true ∧ b.nb n = true ∧ h.get (ρ i) = some (b.ren ρ)) ∧ WeakB2 ρ n h r
theorem weakB2_get {ρ : Nat → Nat} {n : Nat} {h : Hp} : ∀ {tab : List (Nat × Option Body)}, WeakB2 ρ n h tab → ∀ i b, Hp.look tab i = some b → i < n ∧ b.nb n = true ∧ h.get (ρ i) = some (b.ren ρ)
 | [], _, i, b, hg => by simp [Hp.look] at hg
 | (s, none) :: r, hw, i, b, hg => by
  simp only [WeakB2] at hw
  rw [look_kill] at hg
  split at hg
  ·simp at hg
  ·exact weakB2_get hw i b hg
 | (s, some c) :: r, hw, i, b, hg => by
  simp only [WeakB2] at hw
  rw [look_kill] at hg
  split at hg
  ·rename_i e
   subst e
   cases hg
   exact ⟨Nat.le_of_ble_eq_true hw.1.1, hw.1.2⟩
  ·exact weakB2_get hw.2 i b hg
theorem ent_weakS {S : List (Nat × Option ABlk)} {n : Nat} (ι : List Nat) (q q' : Nat) (hS : SymOk S n) (h1 : h.tab.drop q = S) (h2 : (h.tab.take q).all (fun p => Nat.ble n p.1) = true) (h1' : h'.tab.drop q' = S)
  (h2' : WeakB2 (rhoS n ι) h'.nxt h (h'.tab.take q')) (h3' : (h'.tab.take q').all (fun p => Nat.ble n p.1) = true)
  (hl : Nat.beq (n + ι.length) h'.nxt = true) (hle : Nat.ble n h.nxt = true) (hlt : ι.all (fun γ => Nat.blt γ h.nxt) = true) (hge : ι.all (fun γ => Nat.ble n γ) = true) (hnd : nodupB ι = true) (hm : Nat.ble m.len n = true) (hr : WeakF (rhoS n ι) h'.nxt g g') (hgh : h'.gh = h.gh) : Ent m g h g' h' := by
 have hl' := Nat.eq_of_beq_eq_true hl
 have hle' := Nat.le_of_ble_eq_true hle
 have hι : ∀ i, n ≤ i → i < h'.nxt → ∃ p : i - n < ι.length, rhoS n ι i = ι[i - n] := by
  intro i hi hi2
  have p : i - n < ι.length := by omega
  exact ⟨p, by rw [rhoS_ge hi]; simp [List.getD, p]⟩
 have hsp : ∀ i blk, h'.get i = some blk → (i < n ∧ blk.nb n = true ∧ Hp.look S i = some blk) ∨ (n ≤ i ∧ i < h'.nxt ∧ blk.nb h'.nxt = true ∧ h.get (rhoS n ι i) = some (blk.ren (rhoS n ι))) := by
  intro i blk hg
  by_cases hi : i < n
  ·rw [get_pre q' h1' h3' hi] at hg
   exact .inl ⟨hi, (hS i blk hg).2, hg⟩
  ·have h3 := List.take_append_drop q' h'.tab
   rw [h1'] at h3
   have hg2 : Hp.look (h'.tab.take q' ++ S) i = some blk := by rw [h3]; exact hg
   rcases look_app2 hg2 with h4 | h4
   ·exact .inr ⟨by omega, weakB2_get h2' i blk h4⟩
   ·exact absurd (hS i blk h4).1 hi
 refine ent_ren (rhoS n ι) (by have := Nat.le_of_ble_eq_true hm; omega) (fun i hi => rhoS_lt (by have := Nat.le_of_ble_eq_true hm; omega)) ?_ ?_ ?_ hr hgh
 ·intro i hi
  by_cases h4 : i < n
  ·rw [rhoS_lt h4]; omega
  ·obtain ⟨p, h5⟩ := hι i (by omega) hi
   rw [h5]
   exact Nat.le_of_ble_eq_true (List.all_eq_true.1 hlt _ (List.getElem_mem p))
 ·intro i blk hg
  rcases hsp i blk hg with ⟨h4, h5, h6⟩ | ⟨h4, h5, h6, h7⟩
  ·refine ⟨by omega, bnb_mono (by omega) blk h5, ?_⟩
   rw [rhoS_lt h4, bren_nb (fun j hj => rhoS_lt hj) blk h5, get_pre q h1 h2 h4]
   exact h6
  ·exact ⟨h5, h6, h7⟩
 ·intro i j b c g1 g2 e
  have key : ∀ i j, i < n → n ≤ j → j < h'.nxt → rhoS n ι i = rhoS n ι j → False := by
   intro i j hi hj hj2 e
   obtain ⟨p, h5⟩ := hι j hj hj2
   rw [rhoS_lt hi, h5] at e
   have := Nat.le_of_ble_eq_true (List.all_eq_true.1 hge _ (List.getElem_mem p))
   omega
  rcases hsp i b g1 with ⟨h4, _, _⟩ | ⟨h4, h5, _⟩ <;> rcases hsp j c g2 with ⟨h6, _, _⟩ | ⟨h6, h7, _⟩
  ·rw [rhoS_lt h4, rhoS_lt h6] at e; exact e
  ·exact (key i j h4 h6 h7 e).elim
  ·exact (key j i h6 h4 h5 e.symm).elim
  ·obtain ⟨p, h8⟩ := hι i h4 h5
   obtain ⟨p', h9⟩ := hι j h6 h7
   rw [h8, h9] at e
   have e2 : ι[i - n]? = ι[j - n]? := by rw [List.getElem?_eq_getElem p, List.getElem?_eq_getElem p', e]
   have := (List.getElem?_inj p (nodupB_sound hnd)).1 e2
   omega
end
end Go.Proofs.YtccdhgmkjakjkaaGreat

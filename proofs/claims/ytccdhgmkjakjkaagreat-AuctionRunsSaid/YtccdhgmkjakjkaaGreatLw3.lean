/-
  AUCTIONS OF ANY SIZE: the law's heap behind a bid. (Printed by gen.py out of w_lw3.py.)
-/
import Derived.Test.YtccdhgmkjakjkaaGreatLw2
namespace Go.Proofs.YtccdhgmkjakjkaaGreat
open Go
set_option maxRecDepth 20000
set_option linter.unusedVariables false
set_option linter.unusedVariables false
set_option linter.unusedSimpArgs false
section
variable {m : Md} {g g' : Regs} {h : Hp} {rv : RVal} {es : List EV} {bx : Body} {q : Nat} {e : EV} {b : BidV}
def lwB (rv : RVal) (es : List EV) (q : Nat) (e : EV) (b : BidV) (bx : Body) : Hp := ⟨52, (51, some (.plain (bidsC (e.L ++ [b])))) :: (50, some bx) :: (40, ownB es) :: (q + 10, some (.mixed (entC e.a e.t (.sl 51 0 (e.L.length + 1) 16)))) :: (q + 20, none) :: (obT 0 es ++ rmT rv es), false⟩
theorem lwB_inv (hl : es.length ≤ 8) {j : Nat} {x : ABlk} (hg : (lwB rv es q e b bx).get j = some x) : (j = 51 ∧ x = .plain (bidsC (e.L ++ [b]))) ∨ (j = 50 ∧ x = bx) ∨ (j = 40 ∧ ownB es = some x) ∨ (j = q + 10 ∧ x = .mixed (entC e.a e.t (.sl 51 0 (e.L.length + 1) 16))) ∨ (∃ i e', es[i]? = some e' ∧ j = i + 41 ∧ bblk e'.L = some x) ∨ (j ≠ q + 10 ∧ j ≠ q + 20 ∧ j < 40 ∧ x.nb 40 = true ∧ Hp.look (rmT rv es) j = some x) := by
 have hg' : Hp.look ((51, some (.plain (bidsC (e.L ++ [b])))) :: (50, some bx) :: (40, ownB es) :: (q + 10, some (.mixed (entC e.a e.t (.sl 51 0 (e.L.length + 1) 16)))) :: (q + 20, none) :: (obT 0 es ++ rmT rv es)) j = some x := hg
 rw [look_kill] at hg'; split at hg'
 ·rename_i c; cases hg'; exact .inl ⟨c.symm, rfl⟩
 rw [look_kill] at hg'; split at hg'
 ·rename_i c; cases hg'; exact .inr (.inl ⟨c.symm, rfl⟩)
 rw [look_kill] at hg'; split at hg'
 ·rename_i c; exact .inr (.inr (.inl ⟨c.symm, hg'⟩))
 rw [look_kill] at hg'; split at hg'
 ·rename_i c; cases hg'; exact .inr (.inr (.inr (.inl ⟨c.symm, rfl⟩)))
 rename_i c1
 rw [look_kill] at hg'; split at hg'
 ·cases hg'
 rename_i c2
 rcases look_obInv hg' with ⟨i, e', h1, h2, h3⟩ | ⟨_, h2⟩
 ·exact .inr (.inr (.inr (.inr (.inl ⟨i, e', h1, by omega, h3⟩))))
 ·obtain ⟨h3, h4⟩ := symOk_rm hl (Nat.le_refl 40) j x h2
  exact .inr (.inr (.inr (.inr (.inr ⟨Ne.symm c1, Ne.symm c2, h3, h4, h2⟩))))
theorem lwB_lo {j : Nat} (h1 : j < 40) (h2 : j ≠ q + 10) (h3 : j ≠ q + 20) : (lwB rv es q e b bx).get j = Hp.look (rmT rv es) j := by
 show Hp.look ((51, _) :: (50, _) :: (40, _) :: (q + 10, _) :: (q + 20, _) :: (obT 0 es ++ rmT rv es)) j = _
 rw [look_ne (by omega), look_ne (by omega), look_ne (by omega), look_ne (by omega), look_ne (by omega)]
 exact look_skip fun p hp => by have := obT_key hp; omega
theorem lwB_ob {i : Nat} {e' : EV} (hq : q < 8) (hi : i < 8) (he : es[i]? = some e') : (lwB rv es q e b bx).get (i + 41) = bblk e'.L := by
 show Hp.look ((51, _) :: (50, _) :: (40, _) :: (q + 10, _) :: (q + 20, _) :: (obT 0 es ++ rmT rv es)) (i + 41) = _
 rw [look_ne (by omega), look_ne (by omega), look_ne (by omega), look_ne (by omega), look_ne (by omega)]
 have := look_ob (k := 0) (X := rmT rv es) he
 simpa only [Nat.zero_add] using this
theorem ent_lwB (hl : es.length ≤ 8) (hq : q < 8) (hh : h = overH ⟨51, (50, some bx) :: lwT rv es, false⟩ (rmH 51 rv es) (bidH 51 rv es q e b)) : Ent m g h g (lwB rv es q e b bx) := by
 subst hh
 have hk1 : ∀ {j}, 40 ≤ j → j ≠ 51 → ∀ p ∈ (bidH 51 rv es q e b).tab, p.1 ≠ j := by
  intro j hj h1 p hp
  simp only [bidH, List.mem_cons] at hp
  rcases hp with rfl | rfl | rfl | hp
  ·exact Ne.symm h1
  ·show q + 10 ≠ j; omega
  ·show q + 20 ≠ j; omega
  ·have := rmT_key hl hp; omega
 have hk2 : ∀ {j}, 40 ≤ j → ∀ p ∈ (rmH 51 rv es).tab, p.1 ≠ j := fun hj p hp => by have := rmT_key hl hp; omega
 refine ent_le rfl ?_ rfl
 intro j x hg
 rcases lwB_inv hl hg with ⟨rfl, rfl⟩ | ⟨rfl, rfl⟩ | ⟨rfl, h1⟩ | ⟨rfl, rfl⟩ | ⟨i, e', h1, rfl, h2⟩ | ⟨h1, h2, h3, h4, h5⟩
 ·exact over_lo rfl
 ·rw [over_hi (hk1 (by omega) (by omega)) (hk2 (by omega))]; rfl
 ·rw [over_hi (hk1 (by omega) (by omega)) (hk2 (by omega))]; exact h1
 ·refine over_lo ?_
  show Hp.look ((51, _) :: (q + 10, _) :: (q + 20, _) :: rmT rv es) (q + 10) = _
  rw [look_ne (by omega), look_eq]
 ·have h3 := (List.getElem?_eq_some_iff.1 h1).1
  rw [over_hi (hk1 (by omega) (by omega)) (hk2 (by omega)), get_ob 1 h1 (by omega) rfl rfl]; exact h2
 ·refine over_lo ?_
  show Hp.look ((51, _) :: (q + 10, _) :: (q + 20, _) :: rmT rv es) j = _
  rw [look_ne (by omega), look_ne (by omega), look_ne (by omega)]; exact h5
theorem ownC_renset {ρ : Nat → Nat} {a : AskV} {t : Int} {L L' : List BidV} : ∀ {es : List EV} {k q : Nat}, es[q]? = some ⟨a, t, L⟩ → (∀ j, k ≤ j → j < k + es.length → j ≠ k + q → ρ (j + 41) = j + 41) → AVal.rens ρ (ownC k (es.set q ⟨a, t, L'⟩)) = (ownC k es).set (q * 11 + 10) (AVal.ren ρ (bslot (k + q + 41) L'))
 | [], _, _, h, _ => by simp at h
 | x :: es, k, 0, h, hρ => by
  simp at h; subst h
  simp only [List.set_cons_zero, ownC]
  rw [rens_app, rens_entC, ownC_ren fun j h1 h2 => hρ j (by omega) (by simp; omega) (by omega)]
  rfl
 | x :: es, k, q + 1, h, hρ => by
  simp only [List.set_cons_succ, ownC]
  rw [rens_app, rens_entC, bslot_ren (hρ k (Nat.le_refl _) (by simp) (by omega))]
  rw [ownC_renset (es := es) (k := k + 1) (q := q) (by simpa using h) fun j h1 h2 h3 => hρ j (by omega) (by simp; omega) (by omega)]
  rw [show k + 1 + q + 41 = k + (q + 1) + 41 by omega, show (q + 1) * 11 + 10 = (entC x.a x.t (bslot (k + 41) x.L)).length + (q * 11 + 10) by rw [entC_len]; omega]
  rw [List.set_append_right _ _ (by omega)]
  rw [show (entC x.a x.t (bslot (k + 41) x.L)).length + (q * 11 + 10) - (entC x.a x.t (bslot (k + 41) x.L)).length = q * 11 + 10 by omega]
theorem openV_set {x : EV} : openV (es.set q x) = openV es := by
 cases es with
 | nil => rfl
 | cons y l => cases q <;> simp [openV, List.set]
theorem openB_set {x : EV} : openB (es.set q x) = openB es := by
 cases es with
 | nil => rfl
 | cons y l => cases q <;> simp [openB, List.set]
theorem ownV_set {x : EV} : ownV (es.set q x) = ownV es := by
 cases es with
 | nil => rfl
 | cons y l => cases q <;> simp [ownV, List.set]
theorem ownB_some (hne : es ≠ []) : ownB es = some (.mixed (ownC 0 es)) := by
 cases es with
 | nil => exact absurd rfl hne
 | cons y l => rfl
def rhoB2 (q j : Nat) : Nat := bif Nat.beq j (q + 41) then 52 else bif Nat.beq j (q + 20) then 51 else j
theorem rhoB2_ne {j : Nat} (h1 : j ≠ q + 41) (h2 : j ≠ q + 20) : rhoB2 q j = j := by simp [rhoB2, beq_not h1, beq_not h2]
theorem rhoB2_a : rhoB2 q (q + 41) = 52 := by simp [rhoB2]
theorem rhoB2_b : rhoB2 q (q + 20) = 51 := by simp [rhoB2, beq_not (show q + 20 ≠ q + 41 by omega)]
theorem ent_lwBid (hm : m.len = 0) (hl : es.length ≤ 8) (he : es[q]? = some e) (hbx : bx.nb 0 = true) (hnx : h.nxt = 53) (hgh : h.gh = false) (h52 : h.get 52 = some (.plain (bidsC (e.L ++ [b])))) (h40 : h.get 40 = some (.mixed ((ownC 0 es).set (q * 11 + 10) (.sl 52 0 (e.L.length + 1) 16))))
  (hrest : ∀ j x, j ≠ 40 → j ≠ q + 41 → (lwB rv es q e b bx).get j = some x → h.get j = some x) (hr : WeakF (rhoB2 q) 51 g g') : Ent m g h g' ⟨51, (50, some bx) :: lwT rv (es.set q ⟨e.a, e.t, e.L ++ [b]⟩), false⟩ := by
 obtain ⟨a, t, L⟩ := e
 have hq := (List.getElem?_eq_some_iff.1 he).1
 have hl9 : (es.set q ⟨a, t, L ++ [b]⟩).length ≤ 8 := by simp; exact hl
 have hbr : ∀ ρ : Nat → Nat, bx.ren ρ = bx := fun ρ => bren_nb (n := 0) (fun c hc => absurd hc (Nat.not_lt_zero _)) bx hbx
 have hset : ∀ {i e'}, (es.set q ⟨a, t, L ++ [b]⟩)[i]? = some e' → (i ≠ q ∧ es[i]? = some e' ∧ i < es.length) ∨ (i = q ∧ e' = ⟨a, t, L ++ [b]⟩) := by
  intro i e' h1
  by_cases c : i = q
  ·subst c; rw [List.getElem?_set_self hq] at h1; cases h1; exact .inr ⟨rfl, rfl⟩
  ·rw [List.getElem?_set_ne (Ne.symm c)] at h1
   exact .inl ⟨c, h1, (List.getElem?_eq_some_iff.1 h1).1⟩
 have hbs : ∀ (β : Nat) (L : List BidV), bslot β (L ++ [b]) = .sl β 0 (L.length + 1) 16 := by intro β L; cases L <;> simp [bslot]
 have hbb : ∀ (L : List BidV), bblk (L ++ [b]) = some (.plain (bidsC (L ++ [b]))) := by intro L; cases L <;> rfl
 have hinv : ∀ {j x}, Hp.look ((50, some bx) :: lwT rv (es.set q ⟨a, t, L ++ [b]⟩)) j = some x → j < 51 ∧ x.nb 51 = true ∧ h.get (rhoB2 q j) = some (x.ren (rhoB2 q)) := by
  intro j x hg
  by_cases e50 : 50 = j
  ·subst e50; rw [look_eq] at hg; cases hg
   rw [rhoB2_ne (by omega) (by omega), hbr]
   exact ⟨by omega, bnb_mono (Nat.zero_le _) _ hbx, hrest 50 _ (by omega) (by omega) rfl⟩
  ·rw [look_ne e50] at hg
   rcases lw_inv hl9 hg with ⟨rfl, h1⟩ | ⟨i, e', h1, rfl, h3⟩ | ⟨h1, h2, h3⟩
   ·rw [ownB_some (by intro c; have := congrArg List.length c; simp at this; rw [this] at hq; simp at hq)] at h1; cases h1
    refine ⟨by omega, ownC_nb (by omega), ?_⟩
    rw [rhoB2_ne (by omega) (by omega), h40]
    show _ = some (Body.mixed (AVal.rens _ (ownC 0 (es.set q ⟨a, t, L ++ [b]⟩))))
    rw [ownC_renset he (fun j _ hj hne => rhoB2_ne (by omega) (by omega)), Nat.zero_add, hbs]
    simp only [AVal.ren, rhoB2_a]
   ·rcases hset h1 with ⟨h4, h5, h6⟩ | ⟨rfl, rfl⟩
    ·refine ⟨by omega, bblk_nb h3, ?_⟩
     rw [rhoB2_ne (by omega) (by omega), hrest (i + 41) x (by omega) (by omega) (by rw [lwB_ob (by omega) (by omega) h5]; exact h3)]
     rw [bren_nb (n := 0) (fun c hc => absurd hc (Nat.not_lt_zero _)) x (bblk_nb h3)]
    ·rw [hbb] at h3; cases h3
     rw [rhoB2_a]; exact ⟨by omega, rfl, h52⟩
   ·refine ⟨by omega, bnb_mono (by omega) x h2, ?_⟩
    have hq' : Hp.look (rmT rv (es.set q ⟨a, t, L ++ [b]⟩)) j = some x := h3
    rw [rmT, openV_set, openB_set, look_kill] at hq'
    split at hq'
    ·rename_i c; subst c; cases hq'
     have : AVal.ren (rhoB2 q) (openV es) = openV es := by
      cases es with
      | nil => rfl
      | cons y l => simp only [openV, AVal.ren]; rw [rhoB2_ne (by omega) (by omega)]
     rw [rhoB2_ne (by omega) (by omega), hrest 0 (.mixed [.r rv, openV es, .r (.bool true)]) (by omega) (by omega) (by rw [lwB_lo (by omega) (by omega) (by omega)]; rfl)]
     show _ = some (Body.mixed [.r rv, AVal.ren (rhoB2 q) (openV es), .r (.bool true)])
     rw [this]
    ·rename_i q0
     rw [look_kill] at hq'
     split at hq'
     ·rename_i c; subst c
      rw [rhoB2_ne (by omega) (by omega), hrest 1 x (by omega) (by omega) (by rw [lwB_lo (by omega) (by omega) (by omega)]; exact hq')]
      cases es with
      | nil => cases hq'
      | cons y l =>
       cases hq'
       show _ = some (Body.mixed (AVal.rens _ (ptrsA 0 (l.length + 1))))
       rw [ptrsA_ren (fun j _ hj => rhoB2_ne (by simp at hl; omega) (by simp at hl; omega))]
     ·rename_i q1
      obtain ⟨i, e', h4, h5⟩ := look_inv hq'
      simp only [Nat.zero_add] at h5
      rcases hset h4 with ⟨h6, h7, h8⟩ | ⟨rfl, rfl⟩
      ·obtain ⟨h9, h10⟩ := ents_lo (X := []) h7 (by omega)
       rcases h5 with ⟨rfl, rfl⟩ | ⟨rfl, h5⟩
       ·rw [rhoB2_ne (by omega) (by omega), hrest (i + 10) (entB i e') (by omega) (by omega) (by rw [lwB_lo (by omega) (by omega) (by omega), rmT, look_ne (by omega), look_ne (by omega)]; exact h9)]
        show _ = some (Body.mixed (AVal.rens _ (entC e'.a e'.t (bslot (i + 20) e'.L))))
        rw [rens_entC, bslot_ren (rhoB2_ne (by omega) (by omega))]; rfl
       ·rw [rhoB2_ne (by omega) (by omega), hrest (i + 20) x (by omega) (by omega) (by rw [lwB_lo (by omega) (by omega) (by omega), rmT, look_ne (by omega), look_ne (by omega), h10]; exact h5)]
        rw [bren_nb (n := 0) (fun c hc => absurd hc (Nat.not_lt_zero _)) x (bblk_nb h5)]
      ·rcases h5 with ⟨rfl, rfl⟩ | ⟨rfl, h5⟩
       ·rw [rhoB2_ne (by omega) (by omega), hrest (i + 10) (.mixed (entC a t (.sl 51 0 (L.length + 1) 16))) (by omega) (by omega) (by
         show Hp.look ((51, _) :: (50, _) :: (40, _) :: (i + 10, _) :: _) (i + 10) = _
         rw [look_ne (by omega), look_ne (by omega), look_ne (by omega), look_eq])]
        show _ = some (Body.mixed (AVal.rens _ (entC a t (bslot (i + 20) (L ++ [b])))))
        rw [rens_entC, hbs]
        simp only [AVal.ren, rhoB2_b]
       ·rw [hbb] at h5; cases h5
        rw [rhoB2_b, hrest 51 _ (by omega) (by omega) rfl]; rfl
 refine ent_ren (rhoB2 q) (by rw [hm]; exact Nat.zero_le _) (fun i hi => by rw [hm] at hi; exact absurd hi (Nat.not_lt_zero _)) ?_ (fun j x hg => hinv hg) ?_ hr hgh.symm
 ·intro j hj
  have hj' : j < 51 := hj
  rw [hnx]
  simp only [rhoB2]
  cases Nat.beq j (q + 41) <;> cases Nat.beq j (q + 20) <;> simp <;> omega
 ·intro x y _ _ hx hy hxy
  have h1 := (hinv hx).1
  have h2 := (hinv hy).1
  have key : ∀ j, j < 51 → (j = q + 41 ∧ rhoB2 q j = 52) ∨ (j = q + 20 ∧ rhoB2 q j = 51) ∨ (rhoB2 q j = j) := by
   intro j hj
   by_cases q1 : j = q + 41
   ·subst q1; exact .inl ⟨rfl, rhoB2_a⟩
   ·by_cases q2 : j = q + 20
    ·subst q2; exact .inr (.inl ⟨rfl, rhoB2_b⟩)
    ·exact .inr (.inr (rhoB2_ne q1 q2))
  rcases key x h1 with ⟨a1, a2⟩ | ⟨a1, a2⟩ | a2 <;> rcases key y h2 with ⟨b1, b2⟩ | ⟨b1, b2⟩ | b2 <;> omega
end
end Go.Proofs.YtccdhgmkjakjkaaGreat

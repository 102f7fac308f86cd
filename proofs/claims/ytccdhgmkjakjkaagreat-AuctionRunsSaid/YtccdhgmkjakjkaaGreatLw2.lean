/-
  AUCTIONS OF ANY SIZE: the law's heap behind an ask that was opened, and behind a bid. (Printed by gen.py out of w_lw2.py.)
-/
import Derived.Test.YtccdhgmkjakjkaaGreatLw
namespace Go.Proofs.YtccdhgmkjakjkaaGreat
open Go
set_option maxRecDepth 20000
set_option linter.unusedVariables false
set_option linter.unusedVariables false
set_option linter.unusedSimpArgs false
section
variable {m : Md} {g g' : Regs} {h : Hp} {rv : RVal} {es : List EV} {bx : Body}
def lwO (rv : RVal) (es : List EV) (a : AskV) (t : Int) (bx : Body) : Hp := ⟨53, (52, some (.mixed (ptrsA 0 es.length ++ [.ptr 51 0]))) :: (51, some (.mixed (entC a t (.r .nil)))) :: (50, some bx) :: (40, ownB es) :: (0, some (.mixed [.r rv, .sl 52 0 (es.length + 1) 1, .r (.bool true)])) :: (1, none) :: (obT 0 es ++ entsT 0 es), false⟩
theorem lwO_inv {a : AskV} {t : Int} {j : Nat} {b : ABlk} (hg : (lwO rv es a t bx).get j = some b) : (j = 52 ∧ b = .mixed (ptrsA 0 es.length ++ [.ptr 51 0])) ∨ (j = 51 ∧ b = .mixed (entC a t (.r .nil))) ∨ (j = 50 ∧ b = bx) ∨ (j = 40 ∧ ownB es = some b) ∨ (j = 0 ∧ b = .mixed [.r rv, .sl 52 0 (es.length + 1) 1, .r (.bool true)]) ∨ (∃ i e, es[i]? = some e ∧ ((j = i + 41 ∧ bblk e.L = some b) ∨ (j = i + 10 ∧ b = entB i e) ∨ (j = i + 20 ∧ bblk e.L = some b))) := by
 have hg' : Hp.look ((52, some (.mixed (ptrsA 0 es.length ++ [.ptr 51 0]))) :: (51, some (.mixed (entC a t (.r .nil)))) :: (50, some bx) :: (40, ownB es) :: (0, some (.mixed [.r rv, .sl 52 0 (es.length + 1) 1, .r (.bool true)])) :: (1, none) :: (obT 0 es ++ entsT 0 es)) j = some b := hg
 rw [look_kill] at hg'; split at hg'
 ·rename_i q; cases hg'; exact .inl ⟨q.symm, rfl⟩
 rw [look_kill] at hg'; split at hg'
 ·rename_i q; cases hg'; exact .inr (.inl ⟨q.symm, rfl⟩)
 rw [look_kill] at hg'; split at hg'
 ·rename_i q; cases hg'; exact .inr (.inr (.inl ⟨q.symm, rfl⟩))
 rw [look_kill] at hg'; split at hg'
 ·rename_i q; exact .inr (.inr (.inr (.inl ⟨q.symm, hg'⟩)))
 rw [look_kill] at hg'; split at hg'
 ·rename_i q; cases hg'; exact .inr (.inr (.inr (.inr (.inl ⟨q.symm, rfl⟩))))
 rw [look_kill] at hg'; split at hg'
 ·cases hg'
 refine .inr (.inr (.inr (.inr (.inr ?_))))
 rcases look_obInv hg' with ⟨i, e, h1, h2, h3⟩ | ⟨_, h2⟩
 ·exact ⟨i, e, h1, .inl ⟨by omega, h3⟩⟩
 ·obtain ⟨i, e, h3, h4⟩ := look_inv h2
  refine ⟨i, e, h3, .inr ?_⟩
  rcases h4 with ⟨h4, h5⟩ | ⟨h4, h5⟩
  ·exact .inl ⟨by omega, by rw [h5, Nat.zero_add]⟩
  ·exact .inr ⟨by omega, h5⟩
theorem ents_lo {i : Nat} {e : EV} {X : List (Nat × Option ABlk)} (he : es[i]? = some e) (hi : i < 8) : Hp.look (entsT 0 es) (i + 10) = some (entB i e) ∧ Hp.look (entsT 0 es) (i + 20) = bblk e.L := by
 have h1 := look_ent (k := 0) he (by omega)
 have h2 := look_bds (k := 0) he
 simp only [Nat.zero_add] at h1 h2
 exact ⟨h1, h2⟩
theorem ent_lwO {a : AskV} {t : Int} (hl : es.length ≤ 8) (hh : h = overH ⟨51, (50, some bx) :: lwT rv es, false⟩ (rmH 51 rv es) (openH 51 rv es a t)) : Ent m g h g (lwO rv es a t bx) := by
 subst hh
 have hk1 : ∀ {j}, 40 ≤ j → j ≠ 51 → j ≠ 52 → ∀ p ∈ (openH 51 rv es a t).tab, p.1 ≠ j := by
  intro j hj h1 h2 p hp
  simp only [openH, List.mem_cons] at hp
  rcases hp with rfl | rfl | rfl | rfl | hp
  ·exact Ne.symm h1
  ·exact Ne.symm h2
  ·show 0 ≠ j; omega
  ·show 1 ≠ j; omega
  ·have := entsT_key hp; omega
 have hk2 : ∀ {j}, 40 ≤ j → ∀ p ∈ (rmH 51 rv es).tab, p.1 ≠ j := fun hj p hp => by have := rmT_key hl hp; omega
 refine ent_le rfl ?_ rfl
 intro j b hg
 rcases lwO_inv hg with ⟨rfl, rfl⟩ | ⟨rfl, rfl⟩ | ⟨rfl, rfl⟩ | ⟨rfl, h1⟩ | ⟨rfl, rfl⟩ | ⟨i, e, h1, h2⟩
 ·exact over_lo rfl
 ·exact over_lo rfl
 ·rw [over_hi (hk1 (by omega) (by omega) (by omega)) (hk2 (by omega))]; rfl
 ·rw [over_hi (hk1 (by omega) (by omega) (by omega)) (hk2 (by omega))]; exact h1
 ·exact over_lo rfl
 ·have h3 := (List.getElem?_eq_some_iff.1 h1).1
  obtain ⟨h4, h5⟩ := ents_lo (X := []) h1 (by omega)
  rcases h2 with ⟨rfl, h2⟩ | ⟨rfl, rfl⟩ | ⟨rfl, h2⟩
  ·rw [over_hi (hk1 (by omega) (by omega) (by omega)) (hk2 (by omega)), get_ob 1 h1 (by omega) rfl rfl]; exact h2
  ·refine over_lo ?_
   show Hp.look ((51, _) :: (52, _) :: (0, _) :: (1, _) :: entsT 0 es) (i + 10) = _
   rw [look_ne (by omega), look_ne (by omega), look_ne (by omega), look_ne (by omega)]; exact h4
  ·refine over_lo ?_
   show Hp.look ((51, _) :: (52, _) :: (0, _) :: (1, _) :: entsT 0 es) (i + 20) = _
   rw [look_ne (by omega), look_ne (by omega), look_ne (by omega), look_ne (by omega), h5]; exact h2
theorem ownC_snoc {x : EV} : ∀ {es : List EV} {k : Nat}, ownC k (es ++ [x]) = ownC k es ++ entC x.a x.t (bslot (k + es.length + 41) x.L)
 | [], k => by simp [ownC]
 | e :: es, k => by
  simp only [List.cons_append, ownC, List.length_cons]
  rw [ownC_snoc, List.append_assoc, show k + 1 + es.length + 41 = k + (es.length + 1) + 41 by omega]
theorem ownV_snoc {x : EV} : ownV (es ++ [x]) = .sl 40 0 (es.length + 1) 11 := by
 cases es with
 | nil => rfl
 | cons y l => simp [ownV]
theorem ownB_snoc {x : EV} : ownB (es ++ [x]) = some (.mixed (ownC 0 (es ++ [x]))) := by cases es <;> rfl
theorem rens_entC {ρ : Nat → Nat} {a : AskV} {t : Int} {v : AVal} : AVal.rens ρ (entC a t v) = entC a t (AVal.ren ρ v) := rfl
theorem bslot_ren {ρ : Nat → Nat} {β : Nat} (hβ : ρ β = β) (L : List BidV) : AVal.ren ρ (bslot β L) = bslot β L := by
 cases L with
 | nil => rfl
 | cons b L => simp only [bslot, AVal.ren, hβ]
theorem ownC_ren {ρ : Nat → Nat} : ∀ {es : List EV} {k : Nat}, (∀ j, k ≤ j → j < k + es.length → ρ (j + 41) = j + 41) → AVal.rens ρ (ownC k es) = ownC k es
 | [], _, _ => rfl
 | e :: es, k, h => by
  rw [ownC, rens_app, rens_entC, bslot_ren (h k (Nat.le_refl _) (by simp)), ownC_ren fun j h1 h2 => h j (by omega) (by simp; omega)]
def rhoO2 (n j : Nat) : Nat := bif Nat.beq j 1 then 52 else bif Nat.beq j 40 then 54 else bif Nat.beq j (n + 10) then 51 else j
theorem rhoO2_ne {n j : Nat} (h1 : j ≠ 1) (h2 : j ≠ 40) (h3 : j ≠ n + 10) : rhoO2 n j = j := by simp [rhoO2, beq_not h1, beq_not h2, beq_not h3]
theorem rhoO2_n {n : Nat} (hn : n < 8) : rhoO2 n (n + 10) = 51 := by simp [rhoO2, beq_not (show n + 10 ≠ 1 by omega), beq_not (show n + 10 ≠ 40 by omega)]
theorem ent_lwOpen {a : AskV} {t : Int} (hm : m.len = 0) (hl : es.length < 8) (hbx : bx.nb 0 = true) (hnx : h.nxt = 55) (hgh : h.gh = false) (h54 : h.get 54 = some (.mixed (ownC 0 es ++ entC a t (.r .nil)))) (hrest : ∀ j b, j ≠ 40 → (lwO rv es a t bx).get j = some b → h.get j = some b) (hr : WeakF (rhoO2 es.length) 51 g g') :
  Ent m g h g' ⟨51, (50, some bx) :: lwT rv (es ++ [⟨a, t, []⟩]), false⟩ := by
 have hl9 : (es ++ [(⟨a, t, []⟩ : EV)]).length ≤ 8 := by simp; omega
 have hbr : ∀ ρ : Nat → Nat, bx.ren ρ = bx := fun ρ => bren_nb (n := 0) (fun q hq => absurd hq (Nat.not_lt_zero _)) bx hbx
 have hsnoc : ∀ {i e}, (es ++ [(⟨a, t, []⟩ : EV)])[i]? = some e → (es[i]? = some e ∧ i < es.length) ∨ (i = es.length ∧ e = ⟨a, t, []⟩) := by
  intro i e he
  rcases Nat.lt_or_ge i es.length with q | q
  ·rw [List.getElem?_append_left q] at he; exact .inl ⟨he, q⟩
  ·rw [List.getElem?_append_right q] at he
   have h1 := (List.getElem?_eq_some_iff.1 he).1
   simp at h1
   have : i - es.length = 0 := by omega
   rw [this] at he; simp at he
   exact .inr ⟨by omega, he.symm⟩
 have hent : ∀ {i e}, es[i]? = some e → (lwO rv es a t bx).get (i + 10) = some (entB i e) ∧ (lwO rv es a t bx).get (i + 20) = bblk e.L ∧ (lwO rv es a t bx).get (i + 41) = bblk e.L := by
  intro i e he
  have h3 := (List.getElem?_eq_some_iff.1 he).1
  obtain ⟨h4, h5⟩ := ents_lo (X := []) he (by omega)
  have hs : ∀ {j}, j < 40 → Hp.look (obT 0 es ++ entsT 0 es) j = Hp.look (entsT 0 es) j := fun hj => look_skip fun p hp => by have := obT_key hp; omega
  refine ⟨?_, ?_, ?_⟩
  ·show Hp.look ((52, _) :: (51, _) :: (50, _) :: (40, _) :: (0, _) :: (1, _) :: (obT 0 es ++ entsT 0 es)) (i + 10) = _
   rw [look_ne (by omega), look_ne (by omega), look_ne (by omega), look_ne (by omega), look_ne (by omega), look_ne (by omega), hs (by omega)]; exact h4
  ·show Hp.look ((52, _) :: (51, _) :: (50, _) :: (40, _) :: (0, _) :: (1, _) :: (obT 0 es ++ entsT 0 es)) (i + 20) = _
   rw [look_ne (by omega), look_ne (by omega), look_ne (by omega), look_ne (by omega), look_ne (by omega), look_ne (by omega), hs (by omega)]; exact h5
  ·show Hp.look ((52, _) :: (51, _) :: (50, _) :: (40, _) :: (0, _) :: (1, _) :: (obT 0 es ++ entsT 0 es)) (i + 41) = _
   rw [look_ne (by omega), look_ne (by omega), look_ne (by omega), look_ne (by omega), look_ne (by omega), look_ne (by omega)]
   have := look_ob (k := 0) (X := entsT 0 es) he
   simpa only [Nat.zero_add] using this
 have hinv : ∀ {j b}, Hp.look ((50, some bx) :: lwT rv (es ++ [⟨a, t, []⟩])) j = some b → j < 51 ∧ b.nb 51 = true ∧ (j = 0 ∨ j = 1 ∨ j = 40 ∨ j = es.length + 10 ∨ (j ≠ 1 ∧ j ≠ 40 ∧ j ≠ es.length + 10)) ∧ h.get (rhoO2 es.length j) = some (b.ren (rhoO2 es.length)) := by
  intro j b hg
  by_cases e50 : 50 = j
  ·subst e50; rw [look_eq] at hg; cases hg
   rw [rhoO2_ne (by omega) (by omega) (by omega), hbr]
   exact ⟨by omega, bnb_mono (Nat.zero_le _) _ hbx, by omega, hrest 50 _ (by omega) rfl⟩
  ·rw [look_ne e50] at hg
   rcases lw_inv hl9 hg with ⟨rfl, h1⟩ | ⟨i, e, h1, rfl, h3⟩ | ⟨h1, h2, h3⟩
   ·rw [ownB_snoc] at h1; cases h1
    refine ⟨by omega, ownC_nb (by omega), by omega, ?_⟩
    show h.get 54 = _
    rw [h54]
    show _ = some (Body.mixed (AVal.rens _ (ownC 0 (es ++ [(⟨a, t, []⟩ : EV)]))))
    rw [ownC_ren (fun j _ hj => rhoO2_ne (by omega) (by omega) (by omega)), ownC_snoc]; rfl
   ·rcases hsnoc h1 with ⟨h4, h5⟩ | ⟨_, rfl⟩
    ·refine ⟨by omega, bblk_nb h3, by omega, ?_⟩
     rw [rhoO2_ne (by omega) (by omega) (by omega), hrest (i + 41) b (by omega) (by rw [(hent h4).2.2]; exact h3)]
     rw [bren_nb (n := 0) (fun q hq => absurd hq (Nat.not_lt_zero _)) b (bblk_nb h3)]
    ·cases h3
   ·refine ⟨by omega, bnb_mono (by omega) b h2, by omega, ?_⟩
    have hq : Hp.look (rmT rv (es ++ [⟨a, t, []⟩])) j = some b := h3
    rw [rmT, look_kill] at hq
    split at hq
    ·rename_i q; subst q; cases hq
     rw [rhoO2_ne (by omega) (by omega) (by omega), hrest 0 _ (by omega) rfl]
     have : openV (es ++ [(⟨a, t, []⟩ : EV)]) = .sl 1 0 (es.length + 1) 1 := by cases es <;> simp [openV]
     rw [this]; rfl
    ·rename_i q0
     rw [look_kill] at hq
     split at hq
     ·rename_i q; subst q
      have : openB (es ++ [(⟨a, t, []⟩ : EV)]) = some (.mixed (ptrsA 0 (es.length + 1))) := by cases es <;> simp [openB]
      rw [this] at hq; cases hq
      show h.get 52 = _
      rw [hrest 52 _ (by omega) rfl, ptrsA_snoc]
      show _ = some (Body.mixed (AVal.rens _ (ptrsA 0 es.length ++ [.ptr (0 + es.length + 10) 0])))
      rw [rens_app, ptrsA_ren (fun j _ hj => rhoO2_ne (by omega) (by omega) (by omega)), Nat.zero_add]
      show _ = some (Body.mixed (ptrsA 0 es.length ++ [.ptr (rhoO2 es.length (es.length + 10)) 0]))
      rw [rhoO2_n hl]
     ·obtain ⟨i, e, h4, h5⟩ := look_inv hq
      simp only [Nat.zero_add] at h5
      rcases hsnoc h4 with ⟨h6, h7⟩ | ⟨rfl, rfl⟩
      ·rcases h5 with ⟨rfl, rfl⟩ | ⟨rfl, h5⟩
       ·rw [rhoO2_ne (by omega) (by omega) (by omega), hrest _ _ (by omega) (hent h6).1]
        show _ = some (Body.mixed (AVal.rens _ (entC e.a e.t (bslot (i + 20) e.L))))
        rw [rens_entC, bslot_ren (rhoO2_ne (by omega) (by omega) (by omega))]; rfl
       ·rw [rhoO2_ne (by omega) (by omega) (by omega), hrest _ b (by omega) (by rw [(hent h6).2.1]; exact h5)]
        rw [bren_nb (n := 0) (fun q hq => absurd hq (Nat.not_lt_zero _)) b (bblk_nb h5)]
      ·rcases h5 with ⟨rfl, rfl⟩ | ⟨rfl, h5⟩
       ·rw [rhoO2_n hl, hrest 51 _ (by omega) rfl]; rfl
       ·cases h5
 refine ent_ren (rhoO2 es.length) (by rw [hm]; exact Nat.zero_le _) (fun i hi => by rw [hm] at hi; exact absurd hi (Nat.not_lt_zero _)) ?_ (fun j b hg => ⟨(hinv hg).1, (hinv hg).2.1, (hinv hg).2.2.2⟩) ?_ hr hgh.symm
 ·intro j hj
  have hj' : j < 51 := hj
  rw [hnx]
  simp only [rhoO2]
  cases Nat.beq j 1 <;> cases Nat.beq j 40 <;> cases Nat.beq j (es.length + 10) <;> simp <;> omega
 ·intro x y _ _ hx hy hxy
  have h1 := (hinv hx).1
  have h2 := (hinv hy).1
  have key : ∀ j, j < 51 → (j = 1 ∧ rhoO2 es.length j = 52) ∨ (j = 40 ∧ rhoO2 es.length j = 54) ∨ (j = es.length + 10 ∧ rhoO2 es.length j = 51) ∨ (rhoO2 es.length j = j) := by
   intro j hj
   by_cases q1 : j = 1
   ·subst q1; exact .inl ⟨rfl, rfl⟩
   ·by_cases q2 : j = 40
    ·subst q2; exact .inr (.inl ⟨rfl, rfl⟩)
    ·by_cases q3 : j = es.length + 10
     ·subst q3; exact .inr (.inr (.inl ⟨rfl, rhoO2_n hl⟩))
     ·exact .inr (.inr (.inr (rhoO2_ne q1 q2 q3)))
  rcases key x h1 with ⟨a1, a2⟩ | ⟨a1, a2⟩ | ⟨a1, a2⟩ | a2 <;> rcases key y h2 with ⟨b1, b2⟩ | ⟨b1, b2⟩ | ⟨b1, b2⟩ | b2 <;> omega
end
end Go.Proofs.YtccdhgmkjakjkaaGreat

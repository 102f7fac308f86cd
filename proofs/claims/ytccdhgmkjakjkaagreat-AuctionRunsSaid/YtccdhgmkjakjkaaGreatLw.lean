/-
  AUCTIONS OF ANY SIZE: the law's heap: the room, and the law's own list, told by functions of the entries' places. (Printed by gen.py out of w_lw.py.)
-/
import Derived.Test.YtccdhgmkjakjkaaGreatSau7
namespace Go.Proofs.YtccdhgmkjakjkaaGreat
open Go
set_option maxRecDepth 20000
set_option linter.unusedVariables false
set_option linter.unusedVariables false
set_option linter.unusedSimpArgs false
def obT : Nat → List EV → List (Nat × Option ABlk)
 | _, [] => []
 | k, e :: es => (k + 41, bblk e.L) :: obT (k + 1) es
def lwT (rv : RVal) (es : List EV) : List (Nat × Option ABlk) := (40, ownB es) :: (obT 0 es ++ rmT rv es)
theorem look_skip {X : List (Nat × Option ABlk)} {γ : Nat} : ∀ {l : List (Nat × Option ABlk)}, (∀ p ∈ l, p.1 ≠ γ) → Hp.look (l ++ X) γ = Hp.look X γ
 | [], _ => rfl
 | (j, v) :: l, h => by
  rw [List.cons_append, look_ne (h (j, v) (by simp))]
  exact look_skip fun p hp => h p (by simp [hp])
theorem look_left {X : List (Nat × Option ABlk)} {γ : Nat} {b : ABlk} : ∀ {l : List (Nat × Option ABlk)}, Hp.look l γ = some b → Hp.look (l ++ X) γ = some b
 | [], h => by simp [Hp.look] at h
 | (j, v) :: l, h => by
  rw [List.cons_append]
  by_cases e : j = γ
  ·subst e; rw [look_eq] at h ⊢; exact h
  ·rw [look_ne e] at h ⊢; exact look_left h
theorem entsT_key : ∀ {es : List EV} {k : Nat} {p : Nat × Option ABlk}, p ∈ entsT k es → p.1 < k + es.length + 20
 | [], _, _, h => by simp [entsT] at h
 | e :: es, k, p, h => by
  simp only [entsT, List.mem_cons] at h
  simp only [List.length_cons]
  rcases h with rfl | rfl | h
  ·show k + 10 < _; omega
  ·show k + 20 < _; omega
  ·have := entsT_key h; omega
theorem obT_key : ∀ {es : List EV} {k : Nat} {p : Nat × Option ABlk}, p ∈ obT k es → k + 41 ≤ p.1 ∧ p.1 < k + es.length + 41
 | [], _, _, h => by simp [obT] at h
 | e :: es, k, p, h => by
  simp only [obT, List.mem_cons] at h
  simp only [List.length_cons]
  rcases h with rfl | h
  ·show k + 41 ≤ k + 41 ∧ k + 41 < _; omega
  ·have := obT_key h; omega
theorem rmT_key {rv : RVal} {es : List EV} (hl : es.length ≤ 8) {p : Nat × Option ABlk} (h : p ∈ rmT rv es) : p.1 < 40 := by
 simp only [rmT, List.mem_cons] at h
 rcases h with rfl | rfl | h
 ·show 0 < 40; omega
 ·show 1 < 40; omega
 ·have := entsT_key h; omega
theorem look_ob {X : List (Nat × Option ABlk)} : ∀ {es : List EV} {k i : Nat} {e : EV}, es[i]? = some e → Hp.look (obT k es ++ X) (k + i + 41) = bblk e.L
 | [], _, _, _, h => by simp at h
 | x :: es, k, 0, e, h => by
  simp at h; subst h
  show Hp.look ((k + 41, bblk x.L) :: (obT (k + 1) es ++ X)) (k + 41) = _
  rw [look_eq]
 | x :: es, k, i + 1, e, h => by
  show Hp.look ((k + 41, bblk x.L) :: (obT (k + 1) es ++ X)) (k + (i + 1) + 41) = _
  rw [look_ne (by omega), show k + (i + 1) + 41 = k + 1 + i + 41 by omega]
  exact look_ob (by simpa using h)
theorem look_obInv {X : List (Nat × Option ABlk)} : ∀ {es : List EV} {k γ : Nat} {b : ABlk}, Hp.look (obT k es ++ X) γ = some b → (∃ i e, es[i]? = some e ∧ γ = k + i + 41 ∧ bblk e.L = some b) ∨ ((∀ p ∈ obT k es, p.1 ≠ γ) ∧ Hp.look X γ = some b)
 | [], _, _, _, h => .inr ⟨by simp [obT], h⟩
 | x :: es, k, γ, b, h => by
  have h' : Hp.look ((k + 41, bblk x.L) :: (obT (k + 1) es ++ X)) γ = some b := h
  by_cases e : k + 41 = γ
  ·rw [e, look_eq] at h'; exact .inl ⟨0, x, rfl, by omega, h'⟩
  ·rw [look_ne e] at h'
   rcases look_obInv h' with ⟨i, e', h1, h2, h3⟩ | ⟨h1, h2⟩
   ·exact .inl ⟨i + 1, e', by simpa using h1, by omega, h3⟩
   ·refine .inr ⟨?_, h2⟩
    intro p hp
    simp only [obT, List.mem_cons] at hp
    rcases hp with rfl | hp
    ·exact e
    ·exact h1 p hp
theorem lw_inv {rv : RVal} {es : List EV} (hl : es.length ≤ 8) {j : Nat} {b : ABlk} (h : Hp.look (lwT rv es) j = some b) : (j = 40 ∧ ownB es = some b) ∨ (∃ i e, es[i]? = some e ∧ j = i + 41 ∧ bblk e.L = some b) ∨ (j < 40 ∧ b.nb 40 = true ∧ Hp.look (rmT rv es) j = some b) := by
 rw [lwT, look_kill] at h
 split at h
 ·rename_i e; exact .inl ⟨e.symm, h⟩
 ·rcases look_obInv h with ⟨i, e, h1, h2, h3⟩ | ⟨_, h2⟩
  ·exact .inr (.inl ⟨i, e, h1, by omega, h3⟩)
  ·obtain ⟨h3, h4⟩ := symOk_rm hl (Nat.le_refl 40) j b h2
   exact .inr (.inr ⟨h3, h4, h2⟩)
theorem lw_lo {rv : RVal} {es : List EV} {j : Nat} (hj : j < 40) : Hp.look (lwT rv es) j = Hp.look (rmT rv es) j := by
 rw [lwT, look_ne (by omega)]
 exact look_skip fun p hp => by have := obT_key hp; omega
theorem lw_ob {rv : RVal} {es : List EV} {i : Nat} {e : EV} (he : es[i]? = some e) : Hp.look (lwT rv es) (i + 41) = bblk e.L := by
 rw [lwT, look_ne (by omega)]
 have := look_ob (k := 0) (X := rmT rv es) he
 simpa only [Nat.zero_add] using this
theorem symOk_lw {rv : RVal} {es : List EV} {n : Nat} (hl : es.length ≤ 8) (hn : 50 ≤ n) : SymOk (lwT rv es) n := by
 intro j b h
 rcases lw_inv hl h with ⟨rfl, h1⟩ | ⟨i, e, h1, rfl, h3⟩ | ⟨h1, h2, h3⟩
 ·cases es with
  | nil => cases h1
  | cons x l => cases h1; exact ⟨by omega, ownC_nb (by omega)⟩
 ·have := (List.getElem?_eq_some_iff.1 h1).1
  exact ⟨by omega, bblk_nb h3⟩
 ·exact ⟨by omega, bnb_mono (by omega) b h2⟩
theorem ownV_nb {n : Nat} (hn : 40 < n) (es : List EV) : AVal.nb n (ownV es) = true := by
 cases es with
 | nil => rfl
 | cons x l => exact blt_of hn
section
variable {m : Md} {g g' : Regs} {h h' hp : Hp} {rv : RVal} {es : List EV}
theorem subH_lw (n q : Nat) (hl : es.length ≤ 8) (hn : 40 ≤ n) (h1 : h.tab.drop q = lwT rv es) (h2 : (h.tab.take q).all (fun p => Nat.ble 50 p.1) = true) (h3 : n ≤ h.nxt) : SubH h (rmH n rv es) where
 le := h3
 blk j b hg := by
  obtain ⟨h4, h5⟩ := symOk_rm hl (Nat.le_refl 40) j b hg
  refine ⟨by show j < n; omega, bnb_mono hn b h5, ?_⟩
  rw [get_pre (n := 50) q h1 h2 (by omega), lw_lo h4]; exact hg
theorem subH_own (hl : es.length ≤ 8) (h1 : 50 ≤ h.nxt) (h2 : h.get 40 = ownB es) : SubH h (own0H es) where
 le := h1
 blk j b hg := by
  have hg' : Hp.look [(40, ownB es)] j = some b := hg
  obtain ⟨h3, h4⟩ := symOk_own hl (Nat.le_refl 50) j b hg'
  refine ⟨h3, h4, ?_⟩
  rw [look_kill] at hg'
  split at hg'
  ·rename_i e; subst e; rw [h2]; exact hg'
  ·simp [Hp.look] at hg'
theorem get_ob {i : Nat} {e : EV} (q : Nat) (he : es[i]? = some e) (hi : i < 8) (h1 : h.tab.drop q = lwT rv es) (h2 : (h.tab.take q).all (fun p => Nat.ble 50 p.1) = true) : h.get (i + 41) = bblk e.L := by
 rw [get_pre (n := 50) q h1 h2 (by omega)]; exact lw_ob he
theorem ent_le (hn : h'.nxt = h.nxt) (hg : ∀ j b, h'.get j = some b → h.get j = some b) (hgh : h'.gh = h.gh) : Ent m g h g h' := by
 intro X R μ w tmps e1 e2 e3
 exact ⟨R, μ, e2, { os := e3.os, tape := e3.tape, output := e3.output, size := e3.size, keep := e3.keep, shape := e3.shape, r0 := e3.r0, rO := e3.rO, rlt := e3.rlt, rc := e3.rc, mu := e3.mu, len := (by rw [hn]; exact e3.len), live := fun β blk h => e3.live β blk (hg β blk h), inj := fun β β' k k' b b' o o' h1 h2 => e3.inj β β' k k' b b' o o' (hg β k h1) (hg β' k' h2), inv := by rw [hgh]; exact e3.inv }⟩
theorem ent_lw0 (hm : m.len = 0) (hr : WeakF (fun _ => 0) 50 g g') : Ent m g ⟨1, [(0, some (.mixed [.r rv, .r .nil, .r (.bool true)]))], false⟩ g' ⟨50, lwT rv [], false⟩ := by
 have hin : ∀ {j b}, Hp.look (lwT rv []) j = some b → j = 0 ∧ b = .mixed [.r rv, .r .nil, .r (.bool true)] := by
  intro j b h
  rcases lw_inv (by decide) h with ⟨_, h1⟩ | ⟨i, e, h1, _⟩ | ⟨h1, h2, h3⟩
  ·cases h1
  ·simp at h1
  ·rw [rmT, look_kill] at h3
   split at h3
   ·rename_i q; cases h3; exact ⟨q.symm, rfl⟩
   ·rw [look_kill] at h3
    split at h3
    ·cases h3
    ·simp [entsT, Hp.look] at h3
 refine ent_ren (fun _ => 0) (by rw [hm]; exact Nat.zero_le _) (fun i hi => by rw [hm] at hi; exact absurd hi (Nat.not_lt_zero _)) (fun _ _ => by show 0 < 1; omega) ?_ ?_ hr rfl
 ·intro j b hg
  obtain ⟨rfl, rfl⟩ := hin hg
  exact ⟨by show 0 < 50; omega, rfl, rfl⟩
 ·intro a c _ _ ha hc _
  rw [(hin ha).1, (hin hc).1]
theorem over_lo {j : Nat} {b : ABlk} (hg : h'.get j = some b) : (overH h hp h').get j = some b := look_left hg
theorem over_hi {j : Nat} (h1 : ∀ p ∈ h'.tab, p.1 ≠ j) (h2 : ∀ p ∈ hp.tab, p.1 ≠ j) : (overH h hp h').get j = h.get j := by
 show Hp.look (h'.tab ++ (hp.tab.map (fun e => (e.1, none)) ++ h.tab)) j = Hp.look h.tab j
 rw [look_skip h1, look_skip]
 intro p hp'
 simp only [List.mem_map] at hp'
 obtain ⟨x, hx, rfl⟩ := hp'
 exact h2 x hx
end
end Go.Proofs.YtccdhgmkjakjkaaGreat

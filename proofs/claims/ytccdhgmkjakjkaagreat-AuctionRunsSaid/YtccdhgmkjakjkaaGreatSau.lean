/-
  AUCTIONS OF ANY SIZE: what a room holds, told by functions of the entries' places. (Printed by gen.py out of w_sym.py.)
  WALKS: auctions of any size: find. (Printed by gen.py out of w_sau.py.)
-/
import Derived.Test.YtccdhgmkjakjkaaGreatAuc7
import Derived.Test.YtccdhgmkjakjkaaGreatFr
namespace Go.Proofs.YtccdhgmkjakjkaaGreat
open Go
set_option linter.unusedVariables false
set_option linter.unusedVariables false
set_option linter.unusedSimpArgs false
structure EV where
 a : AskV
 t : Int
 L : List BidV
def bslot (β : Nat) : List BidV → AVal
 | [] => .r .nil
 | _ :: L => .sl β 0 (L.length + 1) 16
def bblk : List BidV → Option ABlk
 | [] => none
 | b :: L => some (.plain (bidsC (b :: L)))
def entB (i : Nat) (e : EV) : Body := .mixed (entC e.a e.t (bslot (i + 20) e.L))
def entsT : Nat → List EV → List (Nat × Option ABlk)
 | _, [] => []
 | k, e :: es => (k + 10, some (entB k e)) :: (k + 20, bblk e.L) :: entsT (k + 1) es
def ptrsA : Nat → Nat → List AVal
 | _, 0 => []
 | k, n + 1 => .ptr (k + 10) 0 :: ptrsA (k + 1) n
def openV : List EV → AVal
 | [] => .r .nil
 | _ :: l => .sl 1 0 (l.length + 1) 1
def openB : List EV → Option ABlk
 | [] => none
 | _ :: l => some (.mixed (ptrsA 0 (l.length + 1)))
def rmT (rv : RVal) (es : List EV) : List (Nat × Option ABlk) := (0, some (.mixed [.r rv, openV es, .r (.bool true)])) :: (1, openB es) :: entsT 0 es
def rmH (n : Nat) (rv : RVal) (es : List EV) : Hp := ⟨n, rmT rv es, false⟩
def rmA (rv : RVal) (es : List EV) (a : AskV) : Hp := ⟨41, (40, some (.mixed ((askC a).map .r))) :: rmT rv es, false⟩
theorem blt_of {i n : Nat} (h : i < n) : Nat.blt i n = true := Nat.ble_eq_true_of_le h
theorem ptrsA_get : ∀ {n k i : Nat}, i < n → (ptrsA k n)[i]? = some (.ptr (k + i + 10) 0)
 | n + 1, k, 0, _ => rfl
 | n + 1, k, i + 1, h => by
  show (ptrsA (k + 1) n)[i]? = _
  rw [ptrsA_get (by omega)]
  rw [show k + 1 + i + 10 = k + (i + 1) + 10 by omega]
theorem ptrs_get {n i : Nat} (h : i < n) : (ptrsA 0 n)[i]? = some (.ptr (i + 10) 0) := by rw [ptrsA_get h, Nat.zero_add]
theorem ptrsA_len : ∀ (n k : Nat), (ptrsA k n).length = n
 | 0, _ => rfl
 | n + 1, k => by simp [ptrsA, ptrsA_len n]
theorem ptrsA_nb {m : Nat} : ∀ {n k : Nat}, k + n + 10 ≤ m → AVal.nbs m (ptrsA k n) = true
 | 0, _, _ => rfl
 | n + 1, k, h => by
  simp only [ptrsA, AVal.nbs, AVal.nb, Bool.and_eq_true]
  exact ⟨blt_of (by omega), ptrsA_nb (by omega)⟩
theorem look_ent : ∀ {es : List EV} {k i : Nat} {e : EV}, es[i]? = some e → k + i < 10 → Hp.look (entsT k es) (k + i + 10) = some (entB (k + i) e)
 | [], _, _, _, h, _ => by simp at h
 | x :: es, k, 0, e, h, _ => by
  simp at h; subst h
  show Hp.look (entsT k (x :: es)) (k + 10) = some (entB k x)
  rw [entsT, look_eq]
 | x :: es, k, i + 1, e, h, hi => by
  rw [entsT, look_ne (by omega), look_ne (by omega)]
  have := look_ent (es := es) (k := k + 1) (i := i) (e := e) (by simpa using h) (by omega)
  rw [show k + (i + 1) = k + 1 + i by omega]; exact this
theorem look_bds : ∀ {es : List EV} {k i : Nat} {e : EV}, es[i]? = some e → Hp.look (entsT k es) (k + i + 20) = bblk e.L
 | [], _, _, _, h => by simp at h
 | x :: es, k, 0, e, h => by
  simp at h; subst h
  rw [entsT, look_ne (by omega), Nat.add_zero, look_eq]
 | x :: es, k, i + 1, e, h => by
  rw [entsT, look_ne (by omega), look_ne (by omega)]
  have := look_bds (es := es) (k := k + 1) (i := i) (e := e) (by simpa using h)
  rw [show k + (i + 1) = k + 1 + i by omega]; exact this
theorem look_inv : ∀ {es : List EV} {k γ : Nat} {blk : ABlk}, Hp.look (entsT k es) γ = some blk → ∃ i e, es[i]? = some e ∧ ((γ = k + i + 10 ∧ blk = entB (k + i) e) ∨ (γ = k + i + 20 ∧ bblk e.L = some blk))
 | [], _, _, _, h => by simp [entsT, Hp.look] at h
 | x :: es, k, γ, blk, h => by
  rw [entsT, look_kill] at h
  split at h
  ·rename_i e; cases h; exact ⟨0, x, rfl, .inl ⟨by omega, rfl⟩⟩
  ·rw [look_kill] at h
   split at h
   ·exact ⟨0, x, rfl, .inr ⟨by omega, h⟩⟩
   ·obtain ⟨i, e, h1, h2⟩ := look_inv h
    refine ⟨i + 1, e, by simpa using h1, ?_⟩
    rw [show k + (i + 1) = k + 1 + i by omega]; exact h2
theorem bslot_nb {m β : Nat} {L : List BidV} (h : β < m) : AVal.nb m (bslot β L) = true := by
 cases L with
 | nil => rfl
 | cons b L => exact blt_of h
theorem entC_nb {m : Nat} {a : AskV} {t : Int} {v : AVal} (h : AVal.nb m v = true) : AVal.nbs m (entC a t v) = true := by
 show (true && (true && (true && (true && (true && (true && (true && (true && (true && (true && (AVal.nb m v && true))))))))))) = true
 rw [h]; rfl
theorem bblk_nb {m : Nat} {L : List BidV} {blk : ABlk} (h : bblk L = some blk) : blk.nb m = true := by
 cases L with
 | nil => cases h
 | cons b L => cases h; rfl
theorem symOk_rm {rv : RVal} {es : List EV} {n : Nat} (hl : es.length ≤ 8) (hn : 40 ≤ n) : SymOk (rmT rv es) n := by
 intro i blk h
 rw [rmT, look_kill] at h
 split at h
 ·rename_i e; cases h
  refine ⟨by omega, ?_⟩
  show (true && (AVal.nb n (openV es) && (true && true))) = true
  cases es with
  | nil => rfl
  | cons x l =>
   have : AVal.nb n (openV (x :: l)) = true := blt_of (show 1 < n by omega)
   rw [this]; rfl
 ·rw [look_kill] at h
  split at h
  ·rename_i e
   refine ⟨by omega, ?_⟩
   cases es with
   | nil => cases h
   | cons x l => cases h; exact ptrsA_nb (by simp at hl; omega)
  ·obtain ⟨j, e, h1, h2⟩ := look_inv h
   obtain ⟨h3, _⟩ := List.getElem?_eq_some_iff.1 h1
   rcases h2 with ⟨h2, rfl⟩ | ⟨h2, h4⟩
   ·exact ⟨by omega, entC_nb (bslot_nb (by omega))⟩
   ·exact ⟨by omega, bblk_nb h4⟩
theorem symOk_cons {S : List (Nat × Option ABlk)} {n k : Nat} {b : Option ABlk} (hS : SymOk S n) (hk : k < n) (hb : ∀ blk, b = some blk → blk.nb n = true) : SymOk ((k, b) :: S) n := by
 intro i blk h
 rw [look_kill] at h
 split at h
 ·exact ⟨by omega, hb blk h⟩
 ·exact hS i blk h
theorem symOk_rmA {rv : RVal} {es : List EV} {a : AskV} (hl : es.length ≤ 8) : SymOk (rmA rv es a).tab 41 := symOk_cons (symOk_rm hl (by omega)) (by omega) fun blk h => by cases h; rfl
theorem subH_self {h : Hp} (hS : SymOk h.tab h.nxt) : SubH h h where
 le := Nat.le_refl _
 blk i blk hg := ⟨(hS i blk hg).1, (hS i blk hg).2, hg⟩
section
variable {g : Regs} {h : Hp} {x : Operand}
theorem ha_ptr {β off : Nat} {bd : Body} (h1 : evA g x = .ptr β off) (h2 : h.get β = some bd) : addrF h (evA g x) = some (bd, off) := by rw [h1]; simp only [addrF, h2, Option.map_some]
theorem get_ent {rv : RVal} {es : List EV} {i : Nat} {e : EV} (q : Nat) (he : es[i]? = some e) (hi : i < 8) (h1 : h.tab.drop q = rmT rv es) (h2 : (h.tab.take q).all (fun p => Nat.ble 40 p.1) = true) : h.get (i + 10) = some (entB i e) := by
 rw [get_pre q h1 h2 (by omega), rmT, look_ne (by omega), look_ne (by omega)]
 have := look_ent (k := 0) he (by omega)
 simpa only [Nat.zero_add] using this
theorem get_bds {rv : RVal} {es : List EV} {i : Nat} {e : EV} (q : Nat) (he : es[i]? = some e) (hi : i < 8) (h1 : h.tab.drop q = rmT rv es) (h2 : (h.tab.take q).all (fun p => Nat.ble 40 p.1) = true) : h.get (i + 20) = bblk e.L := by
 rw [get_pre q h1 h2 (by omega), rmT, look_ne (by omega), look_ne (by omega)]
 have := look_bds (k := 0) he
 simpa only [Nat.zero_add] using this
end
def aeq (x y : AskV) : Bool := (eqlA T 34 (askA x) (askA y)).getD false
def fixP {α : Type} (p : α → Bool) : List α → Option Nat
 | [] => none
 | e :: es => bif p e then some 0 else (fixP p es).map (· + 1)
theorem fixP_hit {α : Type} {p : α → Bool} : ∀ {es : List α} {i : Nat} {e : α}, es[i]? = some e → p e = true → (∀ j e, j < i → es[j]? = some e → p e = false) → fixP p es = some i
 | [], _, _, h, _, _ => by simp at h
 | x :: es, 0, e, h, h1, _ => by simp at h; subst h; simp [fixP, h1]
 | x :: es, i + 1, e, h, h1, h2 => by
  have h3 := h2 0 x (by omega) rfl
  simp only [fixP, h3, cond_false]
  rw [fixP_hit (es := es) (i := i) (by simpa using h) h1 fun j e hj he => h2 (j + 1) e (by omega) (by simpa using he)]
  rfl
theorem fixP_miss {α : Type} {p : α → Bool} : ∀ {es : List α}, (∀ (j : Nat) e, es[j]? = some e → p e = false) → fixP p es = none
 | [], _ => rfl
 | x :: es, h => by
  have h3 := h 0 x rfl
  simp only [fixP, h3, cond_false]
  rw [fixP_miss (es := es) fun j e he => h (j + 1) e (by simpa using he)]
  rfl
theorem fixP_inv {α : Type} {p : α → Bool} : ∀ {es : List α} {i : Nat}, fixP p es = some i → ∃ e, es[i]? = some e
 | [], _, h => by simp [fixP] at h
 | x :: es, i, h => by
  simp only [fixP] at h
  cases hx : p x <;> rw [hx] at h <;> simp only [cond_true, cond_false] at h
  ·cases hq : fixP p es with
   | none => rw [hq] at h; cases h
   | some j =>
    rw [hq] at h; cases h
    obtain ⟨e, he⟩ := fixP_inv hq
    exact ⟨e, by simpa using he⟩
  ·cases h; exact ⟨x, rfl⟩
def fixR (r : Int) (L : List BidV) : Option Nat := fixP (fun p => decide (p.r = r)) L
def fixA (a : AskV) (es : List EV) : Option Nat := fixP (fun e => aeq e.a a) es
theorem fix_hit {a : AskV} {es : List EV} {i : Nat} {e : EV} (h1 : es[i]? = some e) (h2 : aeq e.a a = true) (h3 : ∀ j e, j < i → es[j]? = some e → aeq e.a a = false) : fixA a es = some i := fixP_hit h1 h2 h3
theorem fix_miss {a : AskV} {es : List EV} (h : ∀ (j : Nat) e, es[j]? = some e → aeq e.a a = false) : fixA a es = none := fixP_miss h
theorem fix_inv {a : AskV} {es : List EV} {i : Nat} (h : fixA a es = some i) : ∃ e, es[i]? = some e := fixP_inv h
theorem fix_lt {a : AskV} {es : List EV} {i : Nat} (h : fixA a es = some i) : i < es.length := by
 obtain ⟨e, he⟩ := fix_inv h
 exact (List.getElem?_eq_some_iff.1 he).1
def ixI (a : AskV) (es : List EV) : Int := match fixA a es with | some i => i | none => -1
theorem ixI_hit {a : AskV} {es : List EV} {i : Nat} (h : fixA a es = some i) : ixI a es = i := by rw [ixI, h]
theorem ixI_miss {a : AskV} {es : List EV} (h : fixA a es = none) : ixI a es = -1 := by rw [ixI, h]
end Go.Proofs.YtccdhgmkjakjkaaGreat
namespace Go.Proofs.YtccdhgmkjakjkaaGreat
open Go
set_option maxRecDepth 20000
set_option linter.unusedVariables false
set_option linter.unusedSimpArgs false
theorem w_fcS (rv : RVal) (es : List EV) (a : AskV) (hl : es.length ≤ 8) (i : Nat) (e : EV) (he : es[i]? = some e)  : Spec Tryz.prog 40 [.ptr (i + 10) 0, .ptr 40 0] (rmA rv es a) (fun v h' => v = .r (.bool (aeq e.a a)) ∧ h' = rmA rv es a) := by
 have hi : i < 8 := by have := (List.getElem?_eq_some_iff.1 he).1; omega
 refine spec_of_go (N := 10) Tryz.func40 rfl (by decide) rfl rfl ?_
 refine zB ?_
 refine pF ?_
 refine qD ?_
 iterate 3 refine qA ?_
 refine aq_loadAs0 tOk (askA e.a) rfl rfl rfl rfl (ha_ptr (β := i + 10) rfl (get_ent 1 he (by omega) rfl rfl)) (by kernel_rfl) rfl rfl (.inr ⟨rfl, _, rfl, rfl, rfl⟩) ?_
 refine qL ?_
 refine aq_pureE tOk (.r (.bool (aeq e.a a))) rfl (by show AVal.r (.bool _) = _; exact eqB (rfl)) rfl (by rfl) trivial ?_
 refine qE ?_
 refine ag_ret tOk Tryz.func40 rfl rfl (by simp) ?_
 exact ⟨rfl, rfl⟩
theorem w_IxS0 (rv : RVal) (a : AskV) : Spec Tryz.prog 39 [.r .nil, .func 40 [.ptr 40 0]] (rmA rv [] a) (fun v h' => v = .r (.int .i64 (-1)) ∧ h' = rmA rv [] a) := by
 refine spec_of_go (N := 19) Tryz.func39 rfl (by decide) rfl rfl ?_
 refine zB ?_
 refine pF ?_
 refine zB ?_
 iterate 2 refine pA ?_
 refine pE ?_
 refine ag_block ?_
 refine ag_unroll ?_
 refine zB ?_
 refine pF ?_
 refine vD ?_
 refine ag_exit rfl ?_
 refine zB ?_
 refine pE ?_
 refine ag_ret tOk Tryz.func39 rfl rfl (by simp) ?_
 exact ⟨rfl, rfl⟩
def stsIx_0 (rv : RVal) (e0 : EV) (l : List EV) (a : AskV) : Nat → Regs × Hp := fun i => ([(0, .sl 1 0 (l.length + 1) 1), (1, .func 40 [.ptr 40 0]), (7, .r (.int .i64 ((l.length + 1 : Nat) : Int))), (8, .r (.int .i64 (i : Int)))], rmA rv (e0 :: l) a)
def prsIx_0 (rv : RVal) (e0 : EV) (l : List EV) (a : AskV) : Nat → Prop := fun i => i ≤ l.length + 1 ∧ ∀ (j : Nat) e, j < i → (e0 :: l)[j]? = some e → aeq e.a a = false
theorem w_IxS (rv : RVal) (e0 : EV) (l : List EV) (a : AskV) (hl : (e0 :: l).length ≤ 8) : Spec Tryz.prog 39 [.sl 1 0 (l.length + 1) 1, .func 40 [.ptr 40 0]] (rmA rv (e0 :: l) a) (fun v h' => v = .r (.int .i64 (ixI a (e0 :: l))) ∧ h' = rmA rv (e0 :: l) a) := by
 have hl2 : l.length + 1 ≤ 8 := hl
 refine spec_of_go (N := 19) Tryz.func39 rfl (by decide) rfl rfl ?_
 refine zB ?_
 refine pF ?_
 refine zB ?_
 iterate 2 refine pA ?_
 refine pE ?_
 refine ag_block ?_
 refine ag_loopS (stsIx_0 rv e0 l a) (prsIx_0 rv e0 l a) (fun (i : Nat) => l.length + 1 - i) 0 (ent_keep ?_) (show prsIx_0 rv e0 l a 0 from ?_) ?_
 ·exact ⟨rfl, rfl, rfl, rfl, trivial⟩
 ·exact ⟨Nat.zero_le _, fun j e hj => absurd hj (Nat.not_lt_zero _)⟩
 rintro i hp hrec
 obtain ⟨hi, hno⟩ : _ := hp
 refine zB ?_
 refine pF ?_
 refine ag_if rfl ?_ ?_
 ·intro h9
  have hi2 : i < (e0 :: l).length := by simp; omega
  obtain ⟨e, he⟩ : ∃ e, (e0 :: l)[i]? = some e := ⟨_, List.getElem?_eq_getElem hi2⟩
  refine sS ?_
  refine bX ?_
  refine pA ?_
  refine pG ?_
  iterate 3 refine pA ?_
  refine pC ?_ ?_
  ·exact ⟨by omega, by simp; omega⟩
  refine ar_loadAs tOk (.ptr (i + 10) 0) rfl rfl rfl rfl rfl rfl rfl (.inl ⟨rfl, by simp [Body.cells, addo_eq, mulz_eq]; exact ptrs_get (by omega)⟩) ?_
  refine ar_qd rfl (qop_subH (w_fcS rv (e0 :: l) a hl i e he) (fun _ _ h => h) rfl (by show (Nat.blt (i + 10) 41 && (Nat.blt 40 41 && true)) = true; rw [blt_of (by omega)]; rfl) (subH_self (symOk_rmA hl)) (rfl)) rfl rfl rfl rfl ?_
  refine ar_nil ?_
  refine ag_cond rfl ?_ ?_
  ·intro h16
   refine zB ?_
   refine pA ?_
   refine pE ?_
   refine ag_ret tOk Tryz.func39 rfl rfl (by simp) ?_
   exact ⟨eqI (by rw [ixI_hit (fix_hit he h16 hno)]), rfl⟩
  ·intro h16
   have hq : aeq e.a a = false := h16
   refine ag_skip ?_
   refine iR ?_
   refine pC ?_ ?_
   ·unfold inI64; omega
   refine pE ?_
   refine ag_ent (ent_keep (g' := (stsIx_0 rv e0 l a (i + 1)).1) ?_) ?_
   ·exact ⟨rfl, rfl, rfl, by exact eqI (by omega), trivial⟩
   have hnx := hrec (i + 1)
   refine hnx ?_ ?_
   ·exact ⟨by omega, fun j e hj hje => (by
     rcases Nat.lt_or_ge j i with q | q
     ·exact hno j e q hje
     ·obtain rfl : j = i := by omega
      rw [he] at hje; cases hje; exact hq)⟩
   ·show l.length + 1 - (i + 1) < l.length + 1 - i; omega
 ·intro h9
  refine ag_exit rfl ?_
  refine zB ?_
  refine pE ?_
  refine ag_ret tOk Tryz.func39 rfl rfl (by simp) ?_
  exact ⟨eqI (by rw [ixI_miss (fix_miss fun j e hj => hno j e (by have := (List.getElem?_eq_some_iff.1 hj).1; simp at this; omega) hj)]), rfl⟩
end Go.Proofs.YtccdhgmkjakjkaaGreat

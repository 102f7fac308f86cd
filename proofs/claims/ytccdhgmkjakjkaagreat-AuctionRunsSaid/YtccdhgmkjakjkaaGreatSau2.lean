/-
  WALKS: auctions of any size: find, root, Asks, Bids. (Printed by gen.py out of w_sau2.py.)
-/
import Derived.Test.YtccdhgmkjakjkaaGreatSau
namespace Go.Proofs.YtccdhgmkjakjkaaGreat
open Go
set_option maxRecDepth 20000
set_option linter.unusedVariables false
set_option linter.unusedVariables false
set_option linter.unusedSimpArgs false
theorem w_findS0 (rv : RVal) (a : AskV) : Spec Tryz.prog 21 [.ptr 0 0, askA a] (rmH 40 rv []) (fun v h' => v = .r .nilp ∧ h' = rmH 40 rv []) := by
 have hl : ([] : List EV).length ≤ 8 := by decide
 refine spec_of_go (N := 23) Tryz.func21 rfl (by decide) rfl rfl ?_
 refine zB ?_
 refine pM ?_
 refine pF ?_
 refine zB ?_
 refine pA ?_
 refine pE ?_
 refine vC ?_
 refine ag_skip ?_
 refine zB ?_
 iterate 3 refine pA ?_
 refine pB ?_
 refine pA ?_
 refine ar_qd rfl (qop_subH (w_IxS0 rv a) (fun _ _ h => h) rfl (rfl) (subH_self (symOk_rmA hl)) (rfl)) rfl rfl rfl rfl ?_
 refine pF ?_
 refine zB ?_
 refine pA ?_
 refine pE ?_
 refine vA ?_
 refine zB ?_
 refine pE ?_
 refine ag_retW (v := .r .nilp) tOk Tryz.func21 rfl rfl (by first | trivial | exact ⟨trivial, trivial⟩ | simp) (ent_weakS (S := rmT rv []) (n := 40) (g' := [(0, .r .nilp)]) (h' := rmH 40 rv []) [] 1 0 (symOk_rm hl (by omega)) rfl rfl rfl ?_ rfl rfl rfl rfl rfl rfl rfl ?_ rfl) ?_
 ·trivial
 ·exact ⟨⟨rfl, rfl⟩, trivial⟩
 exact ⟨rfl, rfl⟩
theorem w_findSH (rv : RVal) (e0 : EV) (l : List EV) (a : AskV) (hl : (e0 :: l).length ≤ 8) (i : Nat) (hf : fixA a (e0 :: l) = some i) : Spec Tryz.prog 21 [.ptr 0 0, askA a] (rmH 40 rv (e0 :: l)) (fun v h' => v = .ptr (i + 10) 0 ∧ h' = rmH 40 rv (e0 :: l)) := by
 have hl2 : l.length + 1 ≤ 8 := hl
 have hi := fix_lt hf
 simp only [List.length_cons] at hi
 refine spec_of_go (N := 23) Tryz.func21 rfl (by decide) rfl rfl ?_
 refine zB ?_
 refine pM ?_
 refine pF ?_
 refine zB ?_
 refine pA ?_
 refine pE ?_
 refine vC ?_
 refine ag_skip ?_
 refine zB ?_
 iterate 3 refine pA ?_
 refine pB ?_
 refine pA ?_
 refine ar_qd rfl (qop_subH (w_IxS rv e0 l a hl) (fun _ _ h => h) rfl (rfl) (subH_self (symOk_rmA hl)) (rfl)) rfl rfl rfl rfl ?_
 refine ar_ent (ent_reg 13 (.r (.int .i64 (i))) (by show AVal.r (.int _ _) = _; exact eqI (ixI_hit hf))) ?_
 refine pF ?_
 refine zB ?_
 refine pA ?_
 refine pE ?_
 refine ag_false rfl (decide_eq_false (by omega)) ?_
 refine ag_skip ?_
 refine zB ?_
 iterate 3 refine pA ?_
 refine pB ?_
 refine pA ?_
 refine pC ?_ ?_
 ·exact ⟨by omega, by simp; omega⟩
 refine ar_loadAs tOk (.ptr (i + 10) 0) rfl rfl rfl rfl rfl rfl rfl (.inl ⟨rfl, by simp [Body.cells, addo_eq, mulz_eq]; exact ptrs_get (by omega)⟩) ?_
 refine pE ?_
 refine ag_retW (v := .ptr (i + 10) 0) tOk Tryz.func21 rfl rfl (by first | trivial | exact ⟨trivial, trivial⟩ | simp) (ent_weakS (S := rmT rv (e0 :: l)) (n := 40) (g' := [(0, .ptr (i + 10) 0)]) (h' := rmH 40 rv (e0 :: l)) [] 1 0 (symOk_rm hl (by omega)) rfl rfl rfl ?_ rfl rfl rfl rfl rfl rfl rfl ?_ rfl) ?_
 ·trivial
 ·exact ⟨⟨blt_of (show i + 10 < 40 by omega), by show AVal.ptr (rhoS 40 [] (i + 10)) 0 = _; rw [rhoS_lt (by omega)]; rfl⟩, trivial⟩
 exact ⟨rfl, rfl⟩
theorem w_findSM (rv : RVal) (e0 : EV) (l : List EV) (a : AskV) (hl : (e0 :: l).length ≤ 8) (hf : fixA a (e0 :: l) = none) : Spec Tryz.prog 21 [.ptr 0 0, askA a] (rmH 40 rv (e0 :: l)) (fun v h' => v = .r .nilp ∧ h' = rmH 40 rv (e0 :: l)) := by
 have hl2 : l.length + 1 ≤ 8 := hl
 refine spec_of_go (N := 23) Tryz.func21 rfl (by decide) rfl rfl ?_
 refine zB ?_
 refine pM ?_
 refine pF ?_
 refine zB ?_
 refine pA ?_
 refine pE ?_
 refine vC ?_
 refine ag_skip ?_
 refine zB ?_
 iterate 3 refine pA ?_
 refine pB ?_
 refine pA ?_
 refine ar_qd rfl (qop_subH (w_IxS rv e0 l a hl) (fun _ _ h => h) rfl (rfl) (subH_self (symOk_rmA hl)) (rfl)) rfl rfl rfl rfl ?_
 refine ar_ent (ent_reg 13 (.r (.int .i64 (-1))) (by show AVal.r (.int _ _) = _; exact eqI (ixI_miss hf))) ?_
 refine pF ?_
 refine zB ?_
 refine pA ?_
 refine pE ?_
 refine vA ?_
 refine zB ?_
 refine pE ?_
 refine ag_retW (v := .r .nilp) tOk Tryz.func21 rfl rfl (by first | trivial | exact ⟨trivial, trivial⟩ | simp) (ent_weakS (S := rmT rv (e0 :: l)) (n := 40) (g' := [(0, .r .nilp)]) (h' := rmH 40 rv (e0 :: l)) [] 1 0 (symOk_rm hl (by omega)) rfl rfl rfl ?_ rfl rfl rfl rfl rfl rfl rfl ?_ rfl) ?_
 ·trivial
 ·exact ⟨⟨rfl, rfl⟩, trivial⟩
 exact ⟨rfl, rfl⟩
theorem w_findHit {rv : RVal} {es : List EV} {a : AskV} (hl : es.length ≤ 8) {i : Nat} (hf : fixA a es = some i) : Spec Tryz.prog 21 [.ptr 0 0, askA a] (rmH 40 rv es) (fun v h' => v = .ptr (i + 10) 0 ∧ h' = rmH 40 rv es) := by
 cases es with
 | nil => cases hf
 | cons e0 l => exact w_findSH rv e0 l a hl i hf
theorem w_findMiss {rv : RVal} {es : List EV} {a : AskV} (hl : es.length ≤ 8) (hf : fixA a es = none) : Spec Tryz.prog 21 [.ptr 0 0, askA a] (rmH 40 rv es) (fun v h' => v = .r .nilp ∧ h' = rmH 40 rv es) := by
 cases es with
 | nil => exact w_findS0 rv a
 | cons e0 l => exact w_findSM rv e0 l a hl hf
def rm0H (rv : RVal) (es : List EV) : Hp := ⟨2, [(0, some (.mixed [.r rv, openV es, .r (.bool true)]))], false⟩
theorem subH_rm0 {h : Hp} {rv : RVal} {es : List EV} (h1 : 2 ≤ h.nxt) (h2 : h.get 0 = some (.mixed [.r rv, openV es, .r (.bool true)])) : SubH h (rm0H rv es) where
 le := h1
 blk i blk hg := by
  have hg' : Hp.look [(0, some (Body.mixed [.r rv, openV es, .r (.bool true)]))] i = some blk := hg
  rw [look_kill] at hg'
  split at hg'
  ·rename_i e; subst e; cases hg'
   refine ⟨by show 0 < 2; omega, ?_, h2⟩
   cases es with
   | nil => rfl
   | cons x l => rfl
  ·simp [Hp.look] at hg'
theorem bidsC_len : ∀ L : List BidV, (bidsC L).length = L.length * 16
 | [] => rfl
 | b :: L => by
  have h1 : bidsC (b :: L) = bidC b ++ bidsC L := rfl
  have h2 : (bidC b).length = 16 := rfl
  rw [h1, List.length_append, bidsC_len L, h2, List.length_cons]; omega
theorem bidsC_get : ∀ {L : List BidV} {i : Nat} {p : BidV}, L[i]? = some p → ((bidsC L).drop (i * 16)).take 16 = bidC p
 | [], _, _, h => by simp at h
 | b :: L, 0, p, h => by
  simp at h; subst h
  have h1 : bidsC (b :: L) = bidC b ++ bidsC L := rfl
  have h2 : (bidC b).length = 16 := rfl
  rw [h1, Nat.zero_mul, List.drop_zero, ← h2, List.take_left]
 | b :: L, i + 1, p, h => by
  have h1 : bidsC (b :: L) = bidC b ++ bidsC L := rfl
  have h2 : (bidC b).length = 16 := rfl
  rw [h1, show (i + 1) * 16 = (bidC b).length + i * 16 by omega, List.drop_length_add_append]
  exact bidsC_get (by simpa using h)
theorem bidsC_app (L M : List BidV) : bidsC (L ++ M) = bidsC L ++ bidsC M := by simp [bidsC]
theorem bids_loads {ty : Ty} {L : List BidV} {i off : Nat} {p : BidV} (hL : L[i]? = some p) (ho : off = i * 16) (ha : ty.k.agg = true) (hs : ty.size = 16) : LoadsTo ty (Body.plain (bidsC L)).cells off (bidA p) := by
 refine .inr ⟨ha, (bidC p).map .r, rfl, ?_, ?_⟩
 ·rw [ho, hs, Body.cells, ← List.map_drop, ← List.map_take, bidsC_get hL]
 ·rw [hs]; rfl
def asksC (es : List EV) : List RVal := es.flatMap fun e => askC e.a
theorem asksC_len : ∀ L : List EV, (asksC L).length = L.length * 9
 | [] => rfl
 | b :: L => by
  have h1 : asksC (b :: L) = askC b.a ++ asksC L := rfl
  have h2 : (askC b.a).length = 9 := rfl
  rw [h1, List.length_append, asksC_len L, h2, List.length_cons]; omega
theorem asksC_next {es : List EV} {k : Nat} {e : EV} (h : es[k]? = some e) : asksC (es.take (k + 1)) = asksC (es.take k) ++ askC e.a := by
 obtain ⟨h1, h2⟩ := List.getElem?_eq_some_iff.1 h
 rw [List.take_add_one, h]; simp [asksC]
theorem w_rootS2 (R S : List UInt8) (es : List EV)  : Spec Tryz.prog 30 [.ptr 0 0, .r (.int .i64 2)] (rm0H (rvT R S) es) (fun v h' => v = .r (.str R) ∧ h' = rm0H (rvT R S) es) := by
 refine spec_of_go (N := 26) Tryz.func30 rfl (by decide) rfl rfl ?_
 refine zB ?_
 refine pF ?_
 refine zB ?_
 refine pA ?_
 refine ar_qd rfl (qop_subW rfl rfl rfl) rfl rfl rfl rfl ?_
 refine ar_ent (ent_reg 7 (.r (.int .i64 0)) (by show AVal.r (.int _ _) = _; exact eqI19 (by decide))) ?_
 refine pG ?_
 iterate 3 refine pA ?_
 refine ar_ent (ent_reg 10 (.r (.bool true)) (by show AVal.r (.bool _) = _; exact eqB (by decide))) ?_
 iterate 4 refine pA ?_
 refine pB ?_
 iterate 2 refine pA ?_
 refine pE ?_
 refine vA ?_
 refine zB ?_
 iterate 3 refine pA ?_
 refine pB ?_
 refine pA ?_
 refine pC ?_ ?_
 ·exact ⟨by decide, by simp⟩
 refine pB ?_
 refine pE ?_
 refine ag_ret tOk Tryz.func30 rfl rfl (by simp) ?_
 exact ⟨rfl, rfl⟩
theorem w_rootS3 (R S : List UInt8) (es : List EV)  : Spec Tryz.prog 30 [.ptr 0 0, .r (.int .i64 3)] (rm0H (rvT R S) es) (fun v h' => v = .r (.str S) ∧ h' = rm0H (rvT R S) es) := by
 refine spec_of_go (N := 26) Tryz.func30 rfl (by decide) rfl rfl ?_
 refine zB ?_
 refine pF ?_
 refine zB ?_
 refine pA ?_
 refine ar_qd rfl (qop_subW rfl rfl rfl) rfl rfl rfl rfl ?_
 refine ar_ent (ent_reg 7 (.r (.int .i64 1)) (by show AVal.r (.int _ _) = _; exact eqI19 (by decide))) ?_
 refine pG ?_
 iterate 3 refine pA ?_
 refine ar_ent (ent_reg 10 (.r (.bool true)) (by show AVal.r (.bool _) = _; exact eqB (by decide))) ?_
 iterate 4 refine pA ?_
 refine pB ?_
 iterate 2 refine pA ?_
 refine pE ?_
 refine vA ?_
 refine zB ?_
 iterate 3 refine pA ?_
 refine pB ?_
 refine pA ?_
 refine pC ?_ ?_
 ·exact ⟨by decide, by simp⟩
 refine pB ?_
 refine pE ?_
 refine ag_ret tOk Tryz.func30 rfl rfl (by simp) ?_
 exact ⟨rfl, rfl⟩
theorem w_rootSX (R S : List UInt8) (es : List EV) (r : Int) (hr : -9223372036854775808 ≤ r ∧ r ≤ 9223372036854775807) (h2 : r ≠ 2) (h3 : r ≠ 3) : Spec Tryz.prog 30 [.ptr 0 0, .r (.int .i64 r)] (rm0H (rvT R S) es) (fun v h' => v = .r (.str []) ∧ h' = rm0H (rvT R S) es) := by
 have hw := wrap_out hr h2 h3
 obtain ⟨W, hW⟩ : ∃ W, W = IntKind.i64.wrap (r - 2) := ⟨_, rfl⟩
 rw [← hW] at hw
 refine spec_of_go (N := 26) Tryz.func30 rfl (by decide) rfl rfl ?_
 refine zB ?_
 refine pF ?_
 refine zB ?_
 refine pA ?_
 refine ar_qd rfl (qop_subW rfl rfl rfl) rfl rfl rfl rfl ?_
 refine ar_ent (ent_reg 7 (.r (.int .i64 W)) (by show AVal.r (.int _ _) = _; exact eqI19 (hW.symm))) ?_
 refine pG ?_
 iterate 3 refine pA ?_
 refine ar_guard (t := decide (W ≥ 0)) (fun ht => ?_) (fun ht => ?_)
 ·refine ar_ent (ent_reg 10 (.r (.bool true)) (by show AVal.r (.bool _) = _; exact eqB ht)) ?_
  have hw2 : ¬ W < 2 := by have := of_decide_eq_true ht; omega
  iterate 4 refine pA ?_
  refine pB ?_
  iterate 2 refine pA ?_
  refine pE ?_
  refine ag_false rfl (decide_eq_false hw2) ?_
  refine ag_skip ?_
  refine zB ?_
  refine pE ?_
  refine ag_ret tOk Tryz.func30 rfl rfl (by simp) ?_
  exact ⟨rfl, rfl⟩
 ·refine ar_ent (ent_reg 10 (.r (.bool false)) (by show AVal.r (.bool _) = _; exact eqB ht)) ?_
  skip
  repeat (first | refine ar_skip rfl rfl rfl ?_ | refine ar_pure tOk rfl rfl rfl trivial ?_)
  refine ar_nil ?_
  refine vC ?_
  refine ag_skip ?_
  refine zB ?_
  refine pE ?_
  refine ag_ret tOk Tryz.func30 rfl rfl (by simp) ?_
  exact ⟨rfl, rfl⟩
theorem w_rootS (R S : List UInt8) (es : List EV) (r : Int) (hr : -9223372036854775808 ≤ r ∧ r ≤ 9223372036854775807) : Spec Tryz.prog 30 [.ptr 0 0, .r (.int .i64 r)] (rm0H (rvT R S) es) (fun v h' => v = .r (.str (rtO R S r)) ∧ h' = rm0H (rvT R S) es) := by
 by_cases h2 : r = 2
 ·subst h2; exact w_rootS2 R S es
 ·by_cases h3 : r = 3
  ·subst h3; exact w_rootS3 R S es
  ·rw [rtO, if_neg h2, if_neg h3]; exact w_rootSX R S es r hr h2 h3
theorem w_AsksS0 (rv : RVal) : Spec Tryz.prog 15 [.ptr 0 0] (rmH 40 rv []) (fun v h' => v = .r (.ro 0 (asksC [])) ∧ h' = rmH 40 rv []) := by
 refine spec_of_go (N := 26) Tryz.func15 rfl (by decide) rfl rfl ?_
 refine zB ?_
 refine pF ?_
 refine zB ?_
 refine pA ?_
 refine pE ?_
 refine vC ?_
 refine ag_skip ?_
 refine zB ?_
 refine pF ?_
 refine zB ?_
 iterate 3 refine pA ?_
 refine pB ?_
 refine pA ?_
 refine pE ?_
 refine ag_block ?_
 refine ag_unroll ?_
 refine zB ?_
 refine pF ?_
 refine vD ?_
 refine ag_exit rfl ?_
 refine zB ?_
 refine pA ?_
 refine pE ?_
 refine ag_ent (ent_nil 2 (.ro 0 []) rfl (.inr rfl)) ?_
 refine ag_ret tOk Tryz.func15 rfl rfl (by simp) ?_
 exact ⟨rfl, rfl⟩
def asA : Nat → AVal
 | 0 => .r .nil
 | k + 1 => .sl 40 0 (k + 1) 9
def asH (rv : RVal) (es : List EV) : Nat → Hp
 | 0 => rmH 40 rv es
 | k + 1 => ⟨41, (40, some (.plain (asksC (es.take (k + 1))))) :: rmT rv es, false⟩
def stsA_0 (rv : RVal) (e0 : EV) (l : List EV)  : Nat → Regs × Hp := fun i => ([(0, .ptr 0 0), (11, .sl 1 0 (l.length + 1) 1), (12, .r (.int .i64 ((l.length + 1 : Nat) : Int))), (13, .r (.int .i64 (i : Int))), (3, asA i)], asH rv (e0 :: l) i)
def prsA_0 (rv : RVal) (e0 : EV) (l : List EV)  : Nat → Prop := fun i => i ≤ l.length + 1
theorem w_AsksS (rv : RVal) (e0 : EV) (l : List EV) (hl : (e0 :: l).length ≤ 8)  : Spec Tryz.prog 15 [.ptr 0 0] (rmH 40 rv (e0 :: l)) (fun v h' => v = .r (.ro (l.length + 1) (asksC (e0 :: l))) ∧ h' = rmH 40 rv (e0 :: l)) := by
 have hl2 : l.length + 1 ≤ 8 := hl
 refine spec_of_go (N := 26) Tryz.func15 rfl (by decide) rfl rfl ?_
 refine zB ?_
 refine pF ?_
 refine zB ?_
 refine pA ?_
 refine pE ?_
 refine vC ?_
 refine ag_skip ?_
 refine zB ?_
 refine pF ?_
 refine zB ?_
 iterate 3 refine pA ?_
 refine pB ?_
 refine pA ?_
 refine pE ?_
 refine ag_block ?_
 refine ag_loopS (stsA_0 rv e0 l) (prsA_0 rv e0 l) (fun (i : Nat) => l.length + 1 - i) 0 (ent_keep ?_) (show prsA_0 rv e0 l 0 from ?_) ?_
 ·exact ⟨rfl, rfl, rfl, rfl, rfl, trivial⟩
 ·exact Nat.zero_le _
 rintro i hi hrec
 cases i with
 | zero =>
  refine zB ?_
  refine pF ?_
  refine ag_if rfl ?_ ?_
  ·intro h14
   have hi2 : 0 < (e0 :: l).length := by simp <;> omega
   obtain ⟨e, he⟩ : ∃ e, (e0 :: l)[0]? = some e := ⟨_, List.getElem?_eq_getElem hi2⟩
   refine sS ?_
   refine bX ?_
   refine pC ?_ ?_
   ·exact ⟨by omega, by simp <;> omega⟩
   refine ar_loadAs tOk (.ptr (0 + 10) 0) rfl rfl rfl rfl rfl rfl rfl (.inl ⟨rfl, by simp [Body.cells, addo_eq, mulz_eq]; exact ptrs_get (by omega)⟩) ?_
   refine pE ?_
   refine ag_reg ?_
   iterate 4 refine pA ?_
   refine ar_loadAs tOk (askA e.a) rfl rfl rfl rfl (ha_ptr (β := 0 + 10) rfl (get_ent 0 he (by omega) rfl rfl)) rfl rfl (.inr ⟨rfl, _, rfl, rfl, rfl⟩) ?_
   refine ar_qd rfl (qop_buildRoK tOk (v := .ro 1 (askC e.a)) (by kernel_rfl) (by kernel_rfl)) rfl rfl rfl rfl ?_
   refine pP ?_ ?_
   ·refine ⟨⟨?_, ?_, ?_⟩, ⟨?_, ?_⟩, ⟨?_, ?_⟩, ?_⟩ <;> first | trivial | omega | (simp; done) | (simp [asksC_len]; omega) | (simp; omega)
   refine pE ?_
   refine iR ?_
   refine pC ?_ ?_
   ·unfold inI64; omega
   refine pE ?_
   refine ag_ent (ent_weakS (S := rmT rv (e0 :: l)) (n := 40) (g' := (stsA_0 rv e0 l (0 + 1)).1) (h' := (stsA_0 rv e0 l (0 + 1)).2) [40] 1 1 (symOk_rm hl (by omega)) rfl rfl rfl ?_ rfl rfl rfl rfl rfl rfl rfl ?_ rfl) ?_
   ·exact ⟨⟨rfl, rfl, by exact eqPl (by simp only [asksC_next he, cutA_eq]; simp [asksC, asksC_len])⟩, trivial⟩
   ·exact ⟨⟨rfl, rfl⟩, ⟨rfl, rfl⟩, ⟨rfl, rfl⟩, ⟨rfl, by exact eqI (by omega)⟩, ⟨rfl, rfl⟩, trivial⟩
   have hnx := hrec (0 + 1)
   refine hnx ?_ ?_
   ·show 0 + 1 ≤ l.length + 1; omega
   ·show l.length + 1 - (0 + 1) < l.length + 1 - 0; omega
  ·intro h14
   exact absurd (show ((0 : Nat) : Int) < ((l.length + 1 : Nat) : Int) by omega) h14
 | succ k =>
  have hi : k + 1 ≤ l.length + 1 := hi
  refine zB ?_
  refine pF ?_
  refine ag_if rfl ?_ ?_
  ·intro h14
   have hi2 : k + 1 < (e0 :: l).length := by simp <;> omega
   obtain ⟨e, he⟩ : ∃ e, (e0 :: l)[k + 1]? = some e := ⟨_, List.getElem?_eq_getElem hi2⟩
   refine sS ?_
   refine bX ?_
   refine pC ?_ ?_
   ·exact ⟨by omega, by simp <;> omega⟩
   refine ar_loadAs tOk (.ptr (k + 1 + 10) 0) rfl rfl rfl rfl rfl rfl rfl (.inl ⟨rfl, by simp [Body.cells, addo_eq, mulz_eq]; exact ptrs_get (by omega)⟩) ?_
   refine pE ?_
   refine ag_reg ?_
   iterate 4 refine pA ?_
   refine ar_loadAs tOk (askA e.a) rfl rfl rfl rfl (ha_ptr (β := k + 1 + 10) rfl (get_ent 1 he (by omega) rfl rfl)) rfl rfl (.inr ⟨rfl, _, rfl, rfl, rfl⟩) ?_
   refine ar_qd rfl (qop_buildRoK tOk (v := .ro 1 (askC e.a)) (by kernel_rfl) (by kernel_rfl)) rfl rfl rfl rfl ?_
   refine pP ?_ ?_
   ·refine ⟨⟨?_, ?_, ?_⟩, ⟨?_, ?_⟩, ⟨?_, ?_⟩, ?_⟩ <;> first | trivial | omega | (simp; done) | (simp [asksC_len]; omega) | (simp; omega)
   refine pE ?_
   refine iR ?_
   refine pC ?_ ?_
   ·unfold inI64; omega
   refine pE ?_
   refine ag_ent (ent_weakS (S := rmT rv (e0 :: l)) (n := 40) (g' := (stsA_0 rv e0 l (k + 1 + 1)).1) (h' := (stsA_0 rv e0 l (k + 1 + 1)).2) [41] 3 1 (symOk_rm hl (by omega)) rfl rfl rfl ?_ rfl rfl rfl rfl rfl rfl rfl ?_ rfl) ?_
   ·exact ⟨⟨rfl, rfl, by exact eqPl (by rw [asksC_next he, cutA_eq, List.drop_zero, List.take_of_length_le (by rw [asksC_len, List.length_take]; exact Nat.mul_le_mul_right _ (Nat.min_le_left _ _))])⟩, trivial⟩
   ·exact ⟨⟨rfl, rfl⟩, ⟨rfl, rfl⟩, ⟨rfl, rfl⟩, ⟨rfl, by exact eqI (by omega)⟩, ⟨rfl, rfl⟩, trivial⟩
   have hnx := hrec (k + 1 + 1)
   refine hnx ?_ ?_
   ·show k + 1 + 1 ≤ l.length + 1; omega
   ·show l.length + 1 - (k + 1 + 1) < l.length + 1 - (k + 1); omega
  ·intro h14
   refine ag_exit rfl ?_
   refine zB ?_
   refine pA ?_
   refine pE ?_
   obtain rfl : k = l.length := by omega
   refine ag_ent (ent_freeze 2 rfl rfl rfl trivial) ?_
   refine ag_retW (v := .r (.ro (l.length + 1) (cutA (asksC ((e0 :: l).take (l.length + 1))) 0 ((l.length + 1) * 9)))) tOk Tryz.func15 rfl rfl (by first | trivial | exact ⟨trivial, trivial⟩ | simp) (ent_weakS (S := rmT rv (e0 :: l)) (n := 40) (g' := [(0, .r (.ro (l.length + 1) (asksC (e0 :: l))))]) (h' := rmH 40 rv (e0 :: l)) [] 2 0 (symOk_rm hl (by omega)) rfl rfl rfl ?_ rfl rfl rfl rfl rfl rfl rfl ?_ rfl) ?_
   ·trivial
   ·exact ⟨⟨rfl, by show AVal.r (.ro _ _) = AVal.r (.ro _ _); rw [cutA_eq, List.drop_zero, List.take_of_length_le (by rw [asksC_len, List.length_take]; exact Nat.mul_le_mul_right _ (Nat.min_le_left _ _)), List.take_of_length_le (by simp)]⟩, trivial⟩
   exact ⟨rfl, rfl⟩
theorem w_AsksV {rv : RVal} {es : List EV} (hl : es.length ≤ 8) : Spec Tryz.prog 15 [.ptr 0 0] (rmH 40 rv es) (fun v h' => v = .r (.ro es.length (asksC es)) ∧ h' = rmH 40 rv es) := by
 cases es with
 | nil => exact w_AsksS0 rv
 | cons e0 l => exact w_AsksS rv e0 l hl
theorem w_CloneBN  : Pur Tryz.prog 34 [.r .nil] (.r (.ro 0 [])) := by
 refine spec_of_go (N := 8) Tryz.func34 rfl (by decide) rfl rfl ?_
 refine zB ?_
 refine pF ?_
 refine zB ?_
 refine pA ?_
 refine ar_nilEq tOk rfl rfl rfl rfl rfl rfl rfl (fun q hq => ?_)
 refine ar_nil ?_
 refine ag_cond rfl ?_ ?_
 ·intro h4
  refine zB ?_
  refine pE ?_
  refine ag_ent (ent_nil 2 (.ro 0 []) rfl (.inr rfl)) ?_
  refine ag_ret tOk Tryz.func34 rfl rfl (by simp) ?_
  rfl
 ·intro h4
  refine ag_skip ?_
  refine zB ?_
  refine pN ?_ ?_
  ·simp
  refine pA ?_
  refine ar_ent (ent_nil 6 (.ro 0 []) rfl (.inr rfl)) ?_
  refine pP ?_ ?_
  ·refine ⟨⟨?_, ?_, ?_⟩, ⟨?_, ?_⟩, ⟨?_, ?_⟩, ?_⟩ <;> first | trivial | decide | omega | (simp; done) | (simp; omega)
  refine pE ?_
  refine ag_ent (ent_freeze 2 rfl rfl rfl trivial) ?_
  refine ag_ret tOk Tryz.func34 rfl rfl (by simp) ?_
  rfl
theorem w_CloneBd (L : List BidV) (n : Nat) (hn : n = L.length) (h25 : n ≤ 25) : Spec Tryz.prog 34 [.sl 0 0 n 16] (⟨1, [(0, some (.plain (bidsC L)))], false⟩) (fun v h' => v = .r (.ro n (bidsC L)) ∧ h' = ⟨1, [(0, some (.plain (bidsC L)))], false⟩) := by
 refine spec_of_go (N := 8) Tryz.func34 rfl (by decide) rfl rfl ?_
 refine zB ?_
 refine pF ?_
 refine zB ?_
 refine pA ?_
 refine ar_qd rfl (qop_nilEq tOk rfl some_sl) rfl rfl rfl rfl ?_
 refine ar_nil ?_
 refine ag_false rfl (rfl) ?_
 refine ag_skip ?_
 refine zB ?_
 refine pN ?_ ?_
 ·simp
 refine pA ?_
 refine pP ?_ ?_
 ·refine ⟨⟨?_, ?_, ?_⟩, ⟨?_, ?_⟩, ⟨?_, ?_⟩, ?_⟩ <;> first | trivial | decide | omega | (simp; done) | (simp [bidsC_len]; omega) | (simp; omega)
 refine pE ?_
 refine ag_ent (ent_freeze 2 rfl rfl rfl trivial) ?_
 refine ag_ent (ent_weak (g' := [(2, .r (.ro n (bidsC L)))]) (h' := ⟨1, [(0, some (.plain (bidsC L)))], false⟩) [0] rfl rfl rfl rfl ?_ ?_ rfl) ?_
 ·exact ⟨⟨rfl, by show AVal.r (.ro _ _) = AVal.r (.ro _ _); subst hn; simp [cutA_eq, ← bidsC_len]⟩, trivial⟩
 ·exact ⟨⟨rfl, rfl, rfl⟩, trivial⟩
 refine ag_ret tOk Tryz.func34 rfl rfl (by simp) ?_
 exact ⟨rfl, rfl⟩
end Go.Proofs.YtccdhgmkjakjkaaGreat

/-
  WALKS: auctions of any size: Bids, Bid. (Printed by gen.py out of w_sau3.py.)
-/
import Derived.Test.YtccdhgmkjakjkaaGreatSau2
namespace Go.Proofs.YtccdhgmkjakjkaaGreat
open Go
set_option maxRecDepth 20000
set_option linter.unusedVariables false
set_option linter.unusedVariables false
set_option linter.unusedSimpArgs false
theorem w_BidsMiss (rv : RVal) (es : List EV) (a : AskV) (hl : es.length ≤ 8) (hf : fixA a es = none) : Spec Tryz.prog 16 [.ptr 0 0, askA a] (rmH 40 rv es) (fun v h' => v = .r (.ro 0 []) ∧ h' = rmH 40 rv es) := by
 refine spec_of_go (N := 16) Tryz.func16 rfl (by decide) rfl rfl ?_
 refine zB ?_
 refine pM ?_
 refine pG ?_
 refine pA ?_
 refine pB ?_
 refine ar_qd rfl (qop_subH (w_findMiss (rv := rv) hl hf) (fun _ _ h => h) rfl (rfl) (subH_pre (S := rmT rv es) 1 (symOk_rm hl (by show 40 ≤ 40; omega)) rfl rfl rfl (by show 40 ≤ 41; omega)) (rfl)) rfl rfl rfl rfl ?_
 refine pF ?_
 refine zB ?_
 refine pA ?_
 refine pE ?_
 refine vB ?_
 refine zB ?_
 refine pE ?_
 refine ag_ent (ent_nil 4 (.ro 0 []) rfl (.inr rfl)) ?_
 refine ag_retW (v := .r (.ro 0 [])) tOk Tryz.func16 rfl rfl (by first | trivial | exact ⟨trivial, trivial⟩ | simp) (ent_weakS (S := rmT rv es) (n := 40) (g' := [(0, .r (.ro 0 []))]) (h' := rmH 40 rv es) [] 1 0 (symOk_rm hl (by omega)) rfl rfl rfl ?_ rfl rfl rfl rfl rfl rfl rfl ?_ rfl) ?_
 ·trivial
 ·exact ⟨⟨rfl, rfl⟩, trivial⟩
 exact ⟨rfl, rfl⟩
theorem w_BidsHit0 (rv : RVal) (es : List EV) (a : AskV) (hl : es.length ≤ 8) (i : Nat) (hf : fixA a es = some i) (ea : AskV) (et : Int) (he : es[i]? = some ⟨ea, et, []⟩) : Spec Tryz.prog 16 [.ptr 0 0, askA a] (rmH 40 rv es) (fun v h' => v = .r (.ro 0 []) ∧ h' = rmH 40 rv es) := by
 have hi := fix_lt hf
 have hi8 : i < 8 := by omega
 refine spec_of_go (N := 16) Tryz.func16 rfl (by decide) rfl rfl ?_
 refine zB ?_
 refine pM ?_
 refine pG ?_
 refine pA ?_
 refine pB ?_
 refine ar_qd rfl (qop_subH (w_findHit (rv := rv) hl hf) (fun _ _ h => h) rfl (rfl) (subH_pre (S := rmT rv es) 1 (symOk_rm hl (by show 40 ≤ 40; omega)) rfl rfl rfl (by show 40 ≤ 41; omega)) (blt_of (show i + 10 < 40 by omega))) rfl rfl rfl rfl ?_
 refine pF ?_
 refine zB ?_
 refine pA ?_
 refine pE ?_
 refine vC ?_
 refine ag_skip ?_
 refine zB ?_
 iterate 3 refine pA ?_
 refine ar_loadAs tOk (.r .nil) rfl rfl rfl rfl (ha_ptr (β := i + 10) rfl (get_ent 1 he (hi8) rfl rfl)) rfl rfl (.inl ⟨rfl, rfl⟩) ?_
 refine ar_pur (w_CloneBN) rfl rfl rfl rfl rfl rfl rfl ?_
 refine pE ?_
 refine ag_retW (v := .r (.ro 0 [])) tOk Tryz.func16 rfl rfl (by first | trivial | exact ⟨trivial, trivial⟩ | simp) (ent_weakS (S := rmT rv es) (n := 40) (g' := [(0, .r (.ro 0 []))]) (h' := rmH 40 rv es) [] 1 0 (symOk_rm hl (by omega)) rfl rfl rfl ?_ rfl rfl rfl rfl rfl rfl rfl ?_ rfl) ?_
 ·trivial
 ·exact ⟨⟨rfl, rfl⟩, trivial⟩
 exact ⟨rfl, rfl⟩
theorem w_BidsHit1 (rv : RVal) (es : List EV) (a : AskV) (hl : es.length ≤ 8) (i : Nat) (hf : fixA a es = some i) (ea : AskV) (et : Int) (p : BidV) (L : List BidV) (h25 : L.length + 1 ≤ 25) (he : es[i]? = some ⟨ea, et, (p :: L)⟩) : Spec Tryz.prog 16 [.ptr 0 0, askA a] (rmH 40 rv es) (fun v h' => v = .r (.ro (L.length + 1) (bidsC (p :: L))) ∧ h' = rmH 40 rv es) := by
 have hi := fix_lt hf
 have hi8 : i < 8 := by omega
 refine spec_of_go (N := 16) Tryz.func16 rfl (by decide) rfl rfl ?_
 refine zB ?_
 refine pM ?_
 refine pG ?_
 refine pA ?_
 refine pB ?_
 refine ar_qd rfl (qop_subH (w_findHit (rv := rv) hl hf) (fun _ _ h => h) rfl (rfl) (subH_pre (S := rmT rv es) 1 (symOk_rm hl (by show 40 ≤ 40; omega)) rfl rfl rfl (by show 40 ≤ 41; omega)) (blt_of (show i + 10 < 40 by omega))) rfl rfl rfl rfl ?_
 refine pF ?_
 refine zB ?_
 refine pA ?_
 refine pE ?_
 refine vC ?_
 refine ag_skip ?_
 refine zB ?_
 iterate 3 refine pA ?_
 refine ar_loadAs tOk (.sl (i + 20) 0 (L.length + 1) 16) rfl rfl rfl rfl (ha_ptr (β := i + 10) rfl (get_ent 1 he (hi8) rfl rfl)) rfl rfl (.inl ⟨rfl, rfl⟩) ?_
 refine ar_qd rfl (qop_objR [i + 20] (w_CloneBd (p :: L) (L.length + 1) rfl h25) (by rintro _ _ ⟨rfl, rfl⟩; exact ⟨rfl, rfl⟩) rfl rfl (handed_of rfl (by show (Nat.blt (i + 20) 41 && true) = true; rw [blt_of (by omega)]; rfl) (by simp) ⟨rfl, rfl, get_bds 1 he hi8 rfl rfl, trivial⟩) rfl rfl) rfl rfl rfl rfl ?_
 refine pE ?_
 refine ag_retW (v := .r (.ro (L.length + 1) (bidsC (p :: L)))) tOk Tryz.func16 rfl rfl (by first | trivial | exact ⟨trivial, trivial⟩ | simp) (ent_weakS (S := rmT rv es) (n := 40) (g' := [(0, .r (.ro (L.length + 1) (bidsC (p :: L))))]) (h' := rmH 40 rv es) [] 1 0 (symOk_rm hl (by omega)) rfl rfl rfl ?_ rfl rfl rfl rfl rfl rfl rfl ?_ rfl) ?_
 ·trivial
 ·exact ⟨⟨rfl, rfl⟩, trivial⟩
 exact ⟨rfl, rfl⟩
theorem w_BidsHit {rv : RVal} {es : List EV} {a : AskV} (hl : es.length ≤ 8) {i : Nat} {e : EV} (hf : fixA a es = some i) (he : es[i]? = some e) (h25 : e.L.length ≤ 25) : Spec Tryz.prog 16 [.ptr 0 0, askA a] (rmH 40 rv es) (fun v h' => v = .r (.ro e.L.length (bidsC e.L)) ∧ h' = rmH 40 rv es) := by
 obtain ⟨ea, et, L⟩ := e
 cases L with
 | nil => exact w_BidsHit0 rv es a hl i hf ea et he
 | cons p L => exact w_BidsHit1 rv es a hl i hf ea et p L h25 he
def stsIB_0 (L : List BidV) (n : Nat) (b : BidV) : Nat → Regs × Hp := fun i => ([(0, .sl 0 0 n 16), (1, .func 28 [.ptr 1 0]), (7, .r (.int .i64 (n : Int))), (8, .r (.int .i64 (i : Int)))], ⟨2, [(0, some (.plain (bidsC L))), (1, some (.mixed ((bidC b).map .r)))], false⟩)
def prsIB_0 (L : List BidV) (n : Nat) (b : BidV) : Nat → Prop := fun i => i ≤ n ∧ ∀ (j : Nat) p, j < i → L[j]? = some p → decide (p.r = b.r) = false
theorem w_IxBS (L : List BidV) (n : Nat) (hn : n = L.length) (h25 : n ≤ 25) (b : BidV) : Spec Tryz.prog 48 [.sl 0 0 n 16, .func 28 [.ptr 1 0]] (⟨2, [(0, some (.plain (bidsC L))), (1, some (.mixed ((bidC b).map .r)))], false⟩) (fun v h' => v = .r (.int .i64 (match fixR b.r L with | some i => (i : Int) | none => -1)) ∧ h' = ⟨2, [(0, some (.plain (bidsC L))), (1, some (.mixed ((bidC b).map .r)))], false⟩) := by
 refine spec_of_go (N := 19) Tryz.func48 rfl (by decide) rfl rfl ?_
 refine zB ?_
 refine pF ?_
 refine zB ?_
 iterate 2 refine pA ?_
 refine pE ?_
 refine ag_block ?_
 refine ag_loopS (stsIB_0 L n b) (prsIB_0 L n b) (fun (i : Nat) => n - i) 0 (ent_keep ?_) (show prsIB_0 L n b 0 from ?_) ?_
 ·exact ⟨rfl, rfl, rfl, rfl, trivial⟩
 ·exact ⟨Nat.zero_le _, fun j e hj => absurd hj (Nat.not_lt_zero _)⟩
 rintro i hp hrec
 obtain ⟨hi, hno⟩ : _ := hp
 refine zB ?_
 refine pF ?_
 refine ag_if rfl ?_ ?_
 ·intro h9
  have hi2 : i < L.length := by omega
  obtain ⟨p, hp⟩ : ∃ p, L[i]? = some p := ⟨_, List.getElem?_eq_getElem hi2⟩
  refine sS ?_
  refine bX ?_
  refine pA ?_
  refine pG ?_
  iterate 3 refine pA ?_
  refine pC ?_ ?_
  ·exact ⟨by omega, by omega⟩
  refine ar_loadAs tOk (bidA p) rfl rfl rfl rfl rfl rfl rfl (bids_loads hp (by simp [addo_eq, mulz_eq]) rfl rfl) ?_
  refine ar_qd rfl (qop_objR [1] (w_bf p b) (by rintro _ _ ⟨rfl, rfl⟩; exact ⟨rfl, rfl⟩) rfl rfl (handed_of rfl rfl (by decide) ⟨rfl, rfl, rfl, trivial⟩) rfl rfl) rfl rfl rfl rfl ?_
  refine ar_nil ?_
  refine ag_if rfl ?_ ?_
  ·intro h16
   refine zB ?_
   refine pA ?_
   refine pE ?_
   refine ag_ret tOk Tryz.func48 rfl rfl (by simp) ?_
   exact ⟨eqI (by rw [fixR, fixP_hit hp (decide_eq_true h16) hno]), rfl⟩
  ·intro h16
   refine ag_skip ?_
   refine iR ?_
   refine pC ?_ ?_
   ·unfold inI64; omega
   refine pE ?_
   refine ag_ent (ent_keep (g' := (stsIB_0 L n b (i + 1)).1) ?_) ?_
   ·exact ⟨rfl, rfl, rfl, by exact eqI (by omega), trivial⟩
   have hnx := hrec (i + 1)
   refine hnx ?_ ?_
   ·exact ⟨by omega, fun j e hj hje => (by
     rcases Nat.lt_or_ge j i with q | q
     ·exact hno j e q hje
     ·obtain rfl : j = i := by omega
      rw [hp] at hje; cases hje; exact decide_eq_false h16)⟩
   ·show n - (i + 1) < n - i; omega
 ·intro h9
  refine ag_exit rfl ?_
  refine zB ?_
  refine pE ?_
  refine ag_ret tOk Tryz.func48 rfl rfl (by simp) ?_
  exact ⟨eqI (by rw [fixR, fixP_miss fun j e hj => hno j e (by have := (List.getElem?_eq_some_iff.1 hj).1; omega) hj]), rfl⟩
theorem w_CBS (L : List BidV) (n : Nat) (hn : n = L.length) (h25 : n ≤ 25) (b : BidV) : Spec Tryz.prog 27 [.sl 0 0 n 16, .func 28 [.ptr 1 0]] (⟨2, [(0, some (.plain (bidsC L))), (1, some (.mixed ((bidC b).map .r)))], false⟩) (fun v h' => v = .r (.bool (fixR b.r L).isSome) ∧ h' = ⟨2, [(0, some (.plain (bidsC L))), (1, some (.mixed ((bidC b).map .r)))], false⟩) := by
 refine spec_of_go (N := 9) Tryz.func27 rfl (by decide) rfl rfl ?_
 refine zB ?_
 refine pG ?_
 iterate 2 refine pA ?_
 refine ar_qd rfl (qop_objR [0, 1] (w_IxBS L n hn h25 b) (by rintro _ _ ⟨rfl, rfl⟩; exact ⟨rfl, rfl⟩) rfl rfl (handed_of rfl rfl (by decide) ⟨rfl, rfl, rfl, rfl, rfl, rfl, trivial⟩) rfl rfl) rfl rfl rfl rfl ?_
 refine pA ?_
 refine pE ?_
 refine ag_ret tOk Tryz.func27 rfl rfl (by simp) ?_
 exact ⟨eqB (by cases fixR b.r L with
  | none => rfl
  | some i => exact decide_eq_true (by show (i : Int) ≥ 0; omega)), rfl⟩
end Go.Proofs.YtccdhgmkjakjkaaGreat

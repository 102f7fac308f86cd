/-
  WALKS: the law AuctionOrder. (Printed by gen.py out of w_auc7.py.)
-/
import Derived.Test.YtnodpljgcdkbkaaAuc6
namespace Go.Proofs.Ytnodpljgcdkbkaa
open Go
set_option maxRecDepth 20000
set_option linter.unusedVariables false
set_option linter.unusedSimpArgs false
theorem acc_T {R S : List UInt8} {now : Int} {b : BidV} (h : acB19 R S now b = true) : ¬ now > b.e ∧ valB (rtO R S b.r) b = true := by
  simp only [acB19, Bool.and_eq_true, decide_eq_true_eq] at h
  exact ⟨by omega, h.2⟩
theorem acc_F {R S : List UInt8} {now : Int} {b : BidV} (h : acB19 R S now b = false) (hl : ¬ now > b.e) : valB (rtO R S b.r) b = false := by
  simp only [acB19, Bool.and_eq_false_iff, decide_eq_false_iff_not] at h
  rcases h with h | h
  · omega
  · exact h
theorem w_Bid1F (R S : List UInt8) (a : AskV) (t : Int) (b : BidV) (hba : b.a = a) (hb : b.ok) (hr : -9223372036854775808 ≤ b.r ∧ b.r ≤ 9223372036854775807) (now : Int) (h : acB19 R S now b = false) : Spec Try.prog 35 [.ptr 0 0, bidA b, .r (.int .i64 now)] (rm1 (rvT R S) a t) (fun v h' => v = .r (.bool false) ∧ h' = rm1 (rvT R S) a t) := by
  subst hba
  by_cases hl : now > b.e
  · exact w_Bid1L R S t b now hl
  · exact w_Bid1B R S t b now hb hr hl (acc_F h hl)
theorem w_Bid1T (R S : List UInt8) (a : AskV) (t : Int) (b : BidV) (hba : b.a = a) (hb : b.ok) (hr : -9223372036854775808 ≤ b.r ∧ b.r ≤ 9223372036854775807) (now : Int) (h : acB19 R S now b = true) : Spec Try.prog 35 [.ptr 0 0, bidA b, .r (.int .i64 now)] (rm1 (rvT R S) a t) (fun v h' => v = .r (.bool true) ∧ h' = rm2 (rvT R S) a t [b]) := by
  subst hba
  exact w_Bid1O R S t b now hb hr (acc_T h).1 (acc_T h).2
theorem w_Bid2F (R S : List UInt8) (a : AskV) (t : Int) (p b : BidV) (hpb : p.r ≠ b.r) (hba : b.a = a) (hb : b.ok) (hr : -9223372036854775808 ≤ b.r ∧ b.r ≤ 9223372036854775807) (now : Int) (h : acB19 R S now b = false) : Spec Try.prog 35 [.ptr 0 0, bidA b, .r (.int .i64 now)] (rm2 (rvT R S) a t [p]) (fun v h' => v = .r (.bool false) ∧ h' = rm2 (rvT R S) a t [p]) := by
  subst hba
  by_cases hl : now > b.e
  · exact w_Bid2L R S t p b now hpb hl
  · exact w_Bid2B R S t p b now hpb hb hr hl (acc_F h hl)
theorem w_Bid2T (R S : List UInt8) (a : AskV) (t : Int) (p b : BidV) (hpb : p.r ≠ b.r) (hba : b.a = a) (hb : b.ok) (hr : -9223372036854775808 ≤ b.r ∧ b.r ≤ 9223372036854775807) (now : Int) (h : acB19 R S now b = true) : Spec Try.prog 35 [.ptr 0 0, bidA b, .r (.int .i64 now)] (rm2 (rvT R S) a t [p]) (fun v h' => v = .r (.bool true) ∧ h' = rm3 (rvT R S) a t [p, b]) := by
  subst hba
  exact w_Bid2O R S t p b now hpb hb hr (acc_T h).1 (acc_T h).2
def bestV (now : Int) (L : List BidV) : BidV × Bool := if now ≤ 1 then (bid0, false) else match L with
  | [] => (bid0, false)
  | [p] => (p, true)
  | p :: q :: _ => (if betV q p then q else p, true)
theorem w_BestX1 (R S : List UInt8) (a : AskV) (now : Int) (hm : now ≤ 9223372036854775807) : Spec Try.prog 33 [.ptr 0 0, askA a, .r (.int .i64 now), .r (.int .i64 1)] (rm1 (rvT R S) a 1) (fun v h' => v = .tuple [bidA (bestV now []).1, .r (.bool (bestV now []).2)] ∧ h' = rm1 (rvT R S) a 1) := by
  by_cases h1 : now ≤ 1
  · rw [bestV, if_pos h1]
    by_cases h2 : now = 1
    · exact w_Best1B R S a now h2
    · exact w_Best1A R S a now (by omega)
  · rw [bestV, if_neg h1]; exact w_BestC0 R S a now ⟨by omega, hm⟩
theorem w_BestX2 (R S : List UInt8) (a : AskV) (now : Int) (hm : now ≤ 9223372036854775807) (p : BidV) (hp : now ≤ p.e) : Spec Try.prog 33 [.ptr 0 0, askA a, .r (.int .i64 now), .r (.int .i64 1)] (rm2 (rvT R S) a 1 [p]) (fun v h' => v = .tuple [bidA (bestV now [p]).1, .r (.bool (bestV now [p]).2)] ∧ h' = rm2 (rvT R S) a 1 [p]) := by
  by_cases h1 : now ≤ 1
  · rw [bestV, if_pos h1]
    by_cases h2 : now = 1
    · exact w_Best2B R S a [p] now h2
    · exact w_Best2A R S a [p] now (by omega)
  · rw [bestV, if_neg h1]; exact w_BestC1 R S a now ⟨by omega, hm⟩ p hp
theorem w_BestX3 (R S : List UInt8) (a : AskV) (now : Int) (hm : now ≤ 9223372036854775807) (p q : BidV) (hp : now ≤ p.e) (hq : now ≤ q.e) : Spec Try.prog 33 [.ptr 0 0, askA a, .r (.int .i64 now), .r (.int .i64 1)] (rm2 (rvT R S) a 1 [p, q]) (fun v h' => v = .tuple [bidA (bestV now [p, q]).1, .r (.bool (bestV now [p, q]).2)] ∧ h' = rm2 (rvT R S) a 1 [p, q]) := by
  by_cases h1 : now ≤ 1
  · rw [bestV, if_pos h1]
    by_cases h2 : now = 1
    · exact w_Best2B R S a [p, q] now h2
    · exact w_Best2A R S a [p, q] now (by omega)
  · rw [bestV, if_neg h1]
    cases hb : betV q p with
    | true => exact w_BestC2T R S a now ⟨by omega, hm⟩ p q hp hq hb
    | false => exact w_BestC2F R S a now ⟨by omega, hm⟩ p q hp hq hb
theorem cAB_neg (a b : BidV) : cAB b a = - cAB a b := by
  unfold cAB cmpW
  rcases Int.lt_trichotomy a.x3 b.x3 with q | q | q
  · rw [cmpL_lt q, cmpL_gt q]; try rfl
  · rw [cmpL_eq q, cmpL_eq q.symm]
    rcases Int.lt_trichotomy a.x2 b.x2 with r | r | r
    · rw [cmpL_lt r, cmpL_gt r]; try rfl
    · rw [cmpL_eq r, cmpL_eq r.symm]
      rcases Int.lt_trichotomy a.x1 b.x1 with s | s | s
      · rw [cmpL_lt s, cmpL_gt s]; try rfl
      · rw [cmpL_eq s, cmpL_eq s.symm]
        rcases Int.lt_trichotomy a.x0 b.x0 with t | t | t
        · rw [cmpL_lt t, cmpL_gt t]; try rfl
        · rw [cmpL_eq t, cmpL_eq t.symm]; try rfl
        · rw [cmpL_gt t, cmpL_lt t]; try rfl
      · rw [cmpL_gt s, cmpL_lt s]; try rfl
    · rw [cmpL_gt r, cmpL_lt r]; try rfl
  · rw [cmpL_gt q, cmpL_lt q]; try rfl
theorem bet_swap {a b : BidV} (h : a.r ≠ b.r) : betV b a = !betV a b := by
  have hn := cAB_neg a b
  unfold betV
  by_cases h1 : cAB a b > 0 ∨ (cAB a b = 0 ∧ a.r < b.r)
  · rw [decide_eq_true h1, decide_eq_false (by omega)]; rfl
  · rw [decide_eq_false h1, decide_eq_true (by omega)]; rfl
theorem best_swap {a b : BidV} (h : a.r ≠ b.r) (now : Int) : bestV now [b, a] = bestV now [a, b] := by
  unfold bestV
  by_cases h1 : now ≤ 1
  · rw [if_pos h1, if_pos h1]
  · rw [if_neg h1, if_neg h1]
    simp only [bet_swap h]
    cases betV a b <;> rfl
def bA (b : BidV) (a : AskV) : BidV := ⟨b.r, a, b.x0, b.x1, b.x2, b.x3, b.e, b.sig⟩
theorem bA_ok {b : BidV} {a : AskV} (hb : b.ok) (ha : a.ok) : (bA b a).ok := ⟨ha, hb.h0, hb.h1, hb.h2, hb.h3, hb.sig⟩
set_option maxHeartbeats 2000000 in
theorem w_AuctionOrder (a b : BidV) (ha : a.ok) (hb : b.ok) (hra : -9223372036854775808 ≤ a.r ∧ a.r ≤ 9223372036854775807) (hrb : -9223372036854775808 ≤ b.r ∧ b.r ≤ 9223372036854775807) (now : Int) (hnm : now ≤ 9223372036854775807) : Pur Try.prog 9 [bidA a, bidA b, .r (.int .i64 now)] (.r (.bool true)) := by
  obtain ⟨R, hR⟩ : ∃ r, r = rootL (seedL 2) := ⟨_, rfl⟩
  obtain ⟨S, hS⟩ : ∃ r, r = rootL (seedL 3) := ⟨_, rfl⟩
  have cR := w_Root (seedL 2) (by rw [seedL_length]; decide)
  have cS := w_Root (seedL 3) (by rw [seedL_length]; decide)
  rw [← hR] at cR
  rw [← hS] at cS
  clear hR hS
  have hB := bA_ok hb ha.a
  refine spec_of_go (N := 89) Try.func9 rfl (by decide) rfl rfl ?_
  refine zB ?_
  iterate 2 refine ar_new tOk rfl rfl rfl trivial ?_
  refine pA ?_
  refine zA ?_
  refine zB ?_
  refine ar_pur (w_alive19) rfl rfl rfl rfl rfl rfl rfl ?_
  refine pA ?_
  refine ar_nil ?_
  refine ag_false rfl (rfl) ?_
  refine ag_skip ?_
  refine zB ?_
  refine ar_pur (w_bSeed 2) rfl rfl rfl rfl rfl rfl rfl ?_
  refine ar_pur (cR) rfl rfl rfl rfl rfl rfl rfl ?_
  refine ar_pur (w_bSeed 3) rfl rfl rfl rfl rfl rfl rfl ?_
  refine ar_pur (cS) rfl rfl rfl rfl rfl rfl rfl ?_
  refine ar_qd rfl (qop_buildRo tOk rfl ?_ rfl) rfl rfl rfl rfl ?_
  · repeat any_goals (first | trivial | decide | omega | (simp; done) | (rw [wu8]; omega) | refine ⟨?_, ?_⟩)
  refine pA ?_
  refine zC ?_
  refine pA ?_
  refine ar_obj [] (w_New2 R S) rfl rfl (handed_of rfl rfl (by decide) trivial) rfl rfl rfl rfl ?_
  rintro _ _ ⟨rfl, rfl⟩
  refine ⟨_, _, rfl, ?_⟩
  refine pA ?_
  refine ar_obj [] (w_New2 R S) rfl rfl (handed_of rfl rfl (by decide) trivial) rfl rfl rfl rfl ?_
  rintro _ _ ⟨rfl, rfl⟩
  refine ⟨_, _, rfl, ?_⟩
  iterate 2 refine pA ?_
  refine ar_nil ?_
  refine ag_ent (ent_weak (g' := [(2, .r (.int .i64 now)), (3, .ptr 0 0), (4, .ptr 1 0), (8, .ptr 2 0), (9, .ptr 3 0)]) (h' := ⟨4, [(0, some (.mixed ((bidC a).map .r))), (1, some (.mixed ((bidC b).map .r))), (2, some (.mixed [.r (rvT R S), .r .nil, .r (.bool true)])), (3, some (.mixed [.r (rvT R S), .r .nil, .r (.bool true)]))], false⟩) [0, 1, 2, 3] rfl rfl rfl rfl ?_ ?_ rfl) ?_
  · exact ⟨⟨rfl, rfl⟩, ⟨rfl, rfl⟩, ⟨rfl, rfl⟩, ⟨rfl, rfl⟩, ⟨rfl, rfl⟩, trivial⟩
  · exact ⟨⟨rfl, rfl, rfl⟩, ⟨rfl, rfl, rfl⟩, ⟨rfl, rfl, rfl⟩, ⟨rfl, rfl, rfl⟩, trivial⟩
  iterate 2 refine ag_seq ?_
  by_cases hk : askE a.a = 0
  · skip
    refine ag_reg ?_
    iterate 2 refine pA ?_
    refine pB ?_
    refine ar_obj [2] (w_OpenS (rvT R S) a.a 1 hk (by decide)) rfl rfl (handed_of rfl rfl (by decide) ⟨rfl, rfl, rfl, trivial⟩) rfl rfl rfl rfl ?_
    rintro _ _ ⟨rfl, rfl⟩
    refine ⟨_, _, rfl, ?_⟩
    refine ar_ent (ent_same (h' := ⟨6, [(0, some (.mixed ((bidC a).map .r))), (1, some (.mixed ((bidC b).map .r))), (2, some (.mixed [.r (rvT R S), .sl 4 0 1 1, .r (.bool true)])), (4, some (.mixed [.ptr 5 0])), (5, some (.mixed (entC a.a 1 (.r .nil)))), (3, some (.mixed [.r (rvT R S), .r .nil, .r (.bool true)]))], false⟩) rfl rfl ⟨rfl, rfl, rfl, rfl, rfl, rfl, trivial⟩) ?_
    iterate 2 refine pA ?_
    refine ar_ent (ent_reg 30 (.r (.bool false)) (by show AVal.r (.bool _) = _; exact eqB (by rfl))) ?_
    iterate 2 refine pA ?_
    refine pB ?_
    refine ar_obj [3] (w_OpenS (rvT R S) a.a 1 hk (by decide)) rfl rfl (handed_of rfl rfl (by decide) ⟨rfl, rfl, rfl, trivial⟩) rfl rfl rfl rfl ?_
    rintro _ _ ⟨rfl, rfl⟩
    refine ⟨_, _, rfl, ?_⟩
    refine ar_ent (ent_same (h' := ⟨8, [(0, some (.mixed ((bidC a).map .r))), (1, some (.mixed ((bidC b).map .r))), (2, some (.mixed [.r (rvT R S), .sl 4 0 1 1, .r (.bool true)])), (4, some (.mixed [.ptr 5 0])), (5, some (.mixed (entC a.a 1 (.r .nil)))), (3, some (.mixed [.r (rvT R S), .sl 6 0 1 1, .r (.bool true)])), (6, some (.mixed [.ptr 7 0])), (7, some (.mixed (entC a.a 1 (.r .nil))))], false⟩) rfl rfl ⟨rfl, rfl, rfl, rfl, rfl, rfl, rfl, rfl, trivial⟩) ?_
    iterate 2 refine pA ?_
    refine ar_nil ?_
    refine ag_false rfl (by rfl) ?_
    refine ag_skip ?_
    refine ag_seq ?_
    refine ag_ent (ent_weak (g' := [(2, .r (.int .i64 now)), (3, .ptr 0 0), (4, .ptr 1 0), (8, .ptr 2 0), (9, .ptr 5 0)]) (h' := ⟨8, [(0, some (.mixed ((bidC a).map .r))), (1, some (.mixed ((bidC b).map .r))), (2, some (.mixed [.r (rvT R S), .sl 3 0 1 1, .r (.bool true)])), (3, some (.mixed [.ptr 4 0])), (4, some (.mixed (entC a.a 1 (.r .nil)))), (5, some (.mixed [.r (rvT R S), .sl 6 0 1 1, .r (.bool true)])), (6, some (.mixed [.ptr 7 0])), (7, some (.mixed (entC a.a 1 (.r .nil))))], false⟩) [0, 1, 2, 4, 5, 3, 6, 7] rfl rfl rfl rfl ?_ ?_ rfl) ?_
    · exact ⟨⟨rfl, rfl⟩, ⟨rfl, rfl⟩, ⟨rfl, rfl⟩, ⟨rfl, rfl⟩, ⟨rfl, rfl⟩, trivial⟩
    · exact ⟨⟨rfl, rfl, rfl⟩, ⟨rfl, rfl, rfl⟩, ⟨rfl, rfl, rfl⟩, ⟨rfl, rfl, rfl⟩, ⟨rfl, rfl, rfl⟩, ⟨rfl, rfl, rfl⟩, ⟨rfl, rfl, rfl⟩, ⟨rfl, rfl, rfl⟩, trivial⟩
    refine ag_reg ?_
    refine pA ?_
    refine pB ?_
    refine pA ?_
    refine ar_store (h' := ⟨8, [(1, some (.mixed ((bidC (bA b a.a)).map .r))), (0, some (.mixed ((bidC a).map .r))), (1, some (.mixed ((bidC b).map .r))), (2, some (.mixed [.r (rvT R S), .sl 3 0 1 1, .r (.bool true)])), (3, some (.mixed [.ptr 4 0])), (4, some (.mixed (entC a.a 1 (.r .nil)))), (5, some (.mixed [.r (rvT R S), .sl 6 0 1 1, .r (.bool true)])), (6, some (.mixed [.ptr 7 0])), (7, some (.mixed (entC a.a 1 (.r .nil))))], false⟩) (c := True) tOk (by kernel_rfl) rfl rfl trivial ?_
    refine zA ?_
    refine zB ?_
    refine pA ?_
    refine pB ?_
    refine pA ?_
    refine pB ?_
    refine pA ?_
    refine ar_nil ?_
    refine ag_if rfl ?_ ?_
    · intro h48
      refine zB ?_
      refine pA ?_
      refine ar_nil ?_
      refine ag_ret tOk Try.func9 rfl rfl (by simp) ?_
      rfl
    · intro h48
      have hne : a.r ≠ (bA b a.a).r := fun q => h48 q
      refine ag_skip ?_
      refine ag_seq ?_
      rcases ha2 : acB19 R S now a with _ | _ <;> rcases hb2 : acB19 R S now (bA b a.a) with _ | _
      · skip
        have cX := w_BestX1 R S a.a now hnm
        have cY := w_BestX1 R S a.a now hnm
        generalize bestV now [] = z at cX cY
        obtain ⟨P, f⟩ := z
        simp only at cX cY
        refine ag_reg ?_
        refine pA ?_
        refine pB ?_
        refine pA ?_
        refine ar_qd rfl (qop_objR [2, 3, 4] (w_Bid1F R S a.a 1 a rfl ha hra now ha2) (by rintro _ _ ⟨rfl, rfl⟩; exact ⟨rfl, rfl⟩) rfl rfl (handed_of rfl rfl (by decide) ⟨rfl, rfl, rfl, rfl, rfl, rfl, rfl, rfl, rfl, trivial⟩) rfl rfl) rfl rfl rfl rfl ?_
        refine ar_nil ?_
        refine ag_ent (ent_weak (g' := [(2, .r (.int .i64 now)), (3, .ptr 0 0), (4, .ptr 1 0), (8, .ptr 2 0), (9, .ptr 5 0)]) (h' := ⟨8, [(0, some (.mixed ((bidC a).map .r))), (1, some (.mixed ((bidC (bA b a.a)).map .r))), (2, some (.mixed [.r (rvT R S), .sl 3 0 1 1, .r (.bool true)])), (3, some (.mixed [.ptr 4 0])), (4, some (.mixed (entC a.a 1 (.r .nil)))), (5, some (.mixed [.r (rvT R S), .sl 6 0 1 1, .r (.bool true)])), (6, some (.mixed [.ptr 7 0])), (7, some (.mixed (entC a.a 1 (.r .nil))))], false⟩) [0, 1, 2, 3, 4, 5, 6, 7] rfl rfl rfl rfl ?_ ?_ rfl) ?_
        · exact ⟨⟨rfl, rfl⟩, ⟨rfl, rfl⟩, ⟨rfl, rfl⟩, ⟨rfl, rfl⟩, ⟨rfl, rfl⟩, trivial⟩
        · exact ⟨⟨rfl, rfl, rfl⟩, ⟨rfl, rfl, rfl⟩, ⟨rfl, rfl, rfl⟩, ⟨rfl, rfl, rfl⟩, ⟨rfl, rfl, rfl⟩, ⟨rfl, rfl, rfl⟩, ⟨rfl, rfl, rfl⟩, ⟨rfl, rfl, rfl⟩, trivial⟩
        refine zB ?_
        refine pA ?_
        refine pB ?_
        refine pA ?_
        refine ar_qd rfl (qop_objR [2, 3, 4] (w_Bid1F R S a.a 1 (bA b a.a) rfl hB hrb now hb2) (by rintro _ _ ⟨rfl, rfl⟩; exact ⟨rfl, rfl⟩) rfl rfl (handed_of rfl rfl (by decide) ⟨rfl, rfl, rfl, rfl, rfl, rfl, rfl, rfl, rfl, trivial⟩) rfl rfl) rfl rfl rfl rfl ?_
        refine ar_nil ?_
        refine ag_ent (ent_weak (g' := [(2, .r (.int .i64 now)), (3, .ptr 0 0), (4, .ptr 1 0), (8, .ptr 2 0), (9, .ptr 5 0)]) (h' := ⟨8, [(0, some (.mixed ((bidC a).map .r))), (1, some (.mixed ((bidC (bA b a.a)).map .r))), (2, some (.mixed [.r (rvT R S), .sl 3 0 1 1, .r (.bool true)])), (3, some (.mixed [.ptr 4 0])), (4, some (.mixed (entC a.a 1 (.r .nil)))), (5, some (.mixed [.r (rvT R S), .sl 6 0 1 1, .r (.bool true)])), (6, some (.mixed [.ptr 7 0])), (7, some (.mixed (entC a.a 1 (.r .nil))))], false⟩) [0, 1, 2, 3, 4, 5, 6, 7] rfl rfl rfl rfl ?_ ?_ rfl) ?_
        · exact ⟨⟨rfl, rfl⟩, ⟨rfl, rfl⟩, ⟨rfl, rfl⟩, ⟨rfl, rfl⟩, ⟨rfl, rfl⟩, trivial⟩
        · exact ⟨⟨rfl, rfl, rfl⟩, ⟨rfl, rfl, rfl⟩, ⟨rfl, rfl, rfl⟩, ⟨rfl, rfl, rfl⟩, ⟨rfl, rfl, rfl⟩, ⟨rfl, rfl, rfl⟩, ⟨rfl, rfl, rfl⟩, ⟨rfl, rfl, rfl⟩, trivial⟩
        refine zB ?_
        refine pA ?_
        refine pB ?_
        refine pA ?_
        refine ar_qd rfl (qop_objR [5, 6, 7] (w_Bid1F R S a.a 1 (bA b a.a) rfl hB hrb now hb2) (by rintro _ _ ⟨rfl, rfl⟩; exact ⟨rfl, rfl⟩) rfl rfl (handed_of rfl rfl (by decide) ⟨rfl, rfl, rfl, rfl, rfl, rfl, rfl, rfl, rfl, trivial⟩) rfl rfl) rfl rfl rfl rfl ?_
        refine ar_nil ?_
        refine ag_ent (ent_weak (g' := [(2, .r (.int .i64 now)), (3, .ptr 0 0), (4, .ptr 1 0), (8, .ptr 2 0), (9, .ptr 5 0)]) (h' := ⟨8, [(0, some (.mixed ((bidC a).map .r))), (1, some (.mixed ((bidC (bA b a.a)).map .r))), (2, some (.mixed [.r (rvT R S), .sl 3 0 1 1, .r (.bool true)])), (3, some (.mixed [.ptr 4 0])), (4, some (.mixed (entC a.a 1 (.r .nil)))), (5, some (.mixed [.r (rvT R S), .sl 6 0 1 1, .r (.bool true)])), (6, some (.mixed [.ptr 7 0])), (7, some (.mixed (entC a.a 1 (.r .nil))))], false⟩) [0, 1, 2, 3, 4, 5, 6, 7] rfl rfl rfl rfl ?_ ?_ rfl) ?_
        · exact ⟨⟨rfl, rfl⟩, ⟨rfl, rfl⟩, ⟨rfl, rfl⟩, ⟨rfl, rfl⟩, ⟨rfl, rfl⟩, trivial⟩
        · exact ⟨⟨rfl, rfl, rfl⟩, ⟨rfl, rfl, rfl⟩, ⟨rfl, rfl, rfl⟩, ⟨rfl, rfl, rfl⟩, ⟨rfl, rfl, rfl⟩, ⟨rfl, rfl, rfl⟩, ⟨rfl, rfl, rfl⟩, ⟨rfl, rfl, rfl⟩, trivial⟩
        refine zB ?_
        refine pA ?_
        refine pB ?_
        refine pA ?_
        refine ar_qd rfl (qop_objR [5, 6, 7] (w_Bid1F R S a.a 1 a rfl ha hra now ha2) (by rintro _ _ ⟨rfl, rfl⟩; exact ⟨rfl, rfl⟩) rfl rfl (handed_of rfl rfl (by decide) ⟨rfl, rfl, rfl, rfl, rfl, rfl, rfl, rfl, rfl, trivial⟩) rfl rfl) rfl rfl rfl rfl ?_
        refine ar_nil ?_
        refine ag_ent (ent_weak (g' := [(2, .r (.int .i64 now)), (3, .ptr 0 0), (4, .ptr 1 0), (8, .ptr 2 0), (9, .ptr 5 0)]) (h' := ⟨8, [(0, some (.mixed ((bidC a).map .r))), (1, some (.mixed ((bidC (bA b a.a)).map .r))), (2, some (.mixed [.r (rvT R S), .sl 3 0 1 1, .r (.bool true)])), (3, some (.mixed [.ptr 4 0])), (4, some (.mixed (entC a.a 1 (.r .nil)))), (5, some (.mixed [.r (rvT R S), .sl 6 0 1 1, .r (.bool true)])), (6, some (.mixed [.ptr 7 0])), (7, some (.mixed (entC a.a 1 (.r .nil))))], false⟩) [0, 1, 2, 3, 4, 5, 6, 7] rfl rfl rfl rfl ?_ ?_ rfl) ?_
        · exact ⟨⟨rfl, rfl⟩, ⟨rfl, rfl⟩, ⟨rfl, rfl⟩, ⟨rfl, rfl⟩, ⟨rfl, rfl⟩, trivial⟩
        · exact ⟨⟨rfl, rfl, rfl⟩, ⟨rfl, rfl, rfl⟩, ⟨rfl, rfl, rfl⟩, ⟨rfl, rfl, rfl⟩, ⟨rfl, rfl, rfl⟩, ⟨rfl, rfl, rfl⟩, ⟨rfl, rfl, rfl⟩, ⟨rfl, rfl, rfl⟩, trivial⟩
        refine zB ?_
        iterate 2 refine pA ?_
        refine pB ?_
        refine pA ?_
        refine ar_qd rfl (qop_objR [2, 3, 4] (cX) (by rintro _ _ ⟨rfl, rfl⟩; exact ⟨rfl, rfl⟩) rfl rfl (handed_of rfl rfl (by decide) ⟨rfl, rfl, rfl, rfl, rfl, rfl, rfl, rfl, rfl, trivial⟩) rfl rfl) rfl rfl rfl rfl ?_
        iterate 3 refine pA ?_
        refine ar_new tOk rfl rfl rfl ?_ ?_
        · simp
        refine ar_store (h' := ⟨9, [(8, some (.mixed ((bidC P).map .r))), (8, some (.mixed ((bidC bid0).map .r))), (0, some (.mixed ((bidC a).map .r))), (1, some (.mixed ((bidC (bA b a.a)).map .r))), (2, some (.mixed [.r (rvT R S), .sl 3 0 1 1, .r (.bool true)])), (3, some (.mixed [.ptr 4 0])), (4, some (.mixed (entC a.a 1 (.r .nil)))), (5, some (.mixed [.r (rvT R S), .sl 6 0 1 1, .r (.bool true)])), (6, some (.mixed [.ptr 7 0])), (7, some (.mixed (entC a.a 1 (.r .nil))))], false⟩) (c := True) tOk (by kernel_rfl) rfl rfl trivial ?_
        refine pA ?_
        refine ar_nil ?_
        refine ag_ent (ent_weak (g' := [(2, .r (.int .i64 now)), (3, .ptr 0 0), (4, .ptr 1 0), (8, .ptr 2 0), (9, .ptr 5 0), (10, .ptr 8 0), (11, .r (.bool f))]) (h' := ⟨9, [(0, some (.mixed ((bidC a).map .r))), (1, some (.mixed ((bidC (bA b a.a)).map .r))), (2, some (.mixed [.r (rvT R S), .sl 3 0 1 1, .r (.bool true)])), (3, some (.mixed [.ptr 4 0])), (4, some (.mixed (entC a.a 1 (.r .nil)))), (5, some (.mixed [.r (rvT R S), .sl 6 0 1 1, .r (.bool true)])), (6, some (.mixed [.ptr 7 0])), (7, some (.mixed (entC a.a 1 (.r .nil)))), (8, some (.mixed ((bidC P).map .r)))], false⟩) [0, 1, 2, 3, 4, 5, 6, 7, 8] rfl rfl rfl rfl ?_ ?_ rfl) ?_
        · exact ⟨⟨rfl, rfl⟩, ⟨rfl, rfl⟩, ⟨rfl, rfl⟩, ⟨rfl, rfl⟩, ⟨rfl, rfl⟩, ⟨rfl, rfl⟩, ⟨rfl, rfl⟩, trivial⟩
        · exact ⟨⟨rfl, rfl, rfl⟩, ⟨rfl, rfl, rfl⟩, ⟨rfl, rfl, rfl⟩, ⟨rfl, rfl, rfl⟩, ⟨rfl, rfl, rfl⟩, ⟨rfl, rfl, rfl⟩, ⟨rfl, rfl, rfl⟩, ⟨rfl, rfl, rfl⟩, ⟨rfl, rfl, rfl⟩, trivial⟩
        refine zB ?_
        iterate 2 refine pA ?_
        refine pB ?_
        refine pA ?_
        refine ar_qd rfl (qop_objR [5, 6, 7] (cY) (by rintro _ _ ⟨rfl, rfl⟩; exact ⟨rfl, rfl⟩) rfl rfl (handed_of rfl rfl (by decide) ⟨rfl, rfl, rfl, rfl, rfl, rfl, rfl, rfl, rfl, trivial⟩) rfl rfl) rfl rfl rfl rfl ?_
        iterate 3 refine pA ?_
        refine ar_new tOk rfl rfl rfl ?_ ?_
        · simp
        refine ar_store (h' := ⟨10, [(9, some (.mixed ((bidC P).map .r))), (9, some (.mixed ((bidC bid0).map .r))), (0, some (.mixed ((bidC a).map .r))), (1, some (.mixed ((bidC (bA b a.a)).map .r))), (2, some (.mixed [.r (rvT R S), .sl 3 0 1 1, .r (.bool true)])), (3, some (.mixed [.ptr 4 0])), (4, some (.mixed (entC a.a 1 (.r .nil)))), (5, some (.mixed [.r (rvT R S), .sl 6 0 1 1, .r (.bool true)])), (6, some (.mixed [.ptr 7 0])), (7, some (.mixed (entC a.a 1 (.r .nil)))), (8, some (.mixed ((bidC P).map .r)))], false⟩) (c := True) tOk (by kernel_rfl) rfl rfl trivial ?_
        refine pA ?_
        refine zC ?_
        iterate 2 refine pB ?_
        iterate 2 refine pA ?_
        refine ar_ent (ent_reg 84 (.r (.bool true)) (by show AVal.r (.bool _) = _; exact eqB (by simp))) ?_
        iterate 5 refine pA ?_
        refine ar_nil ?_
        refine ag_ret tOk Try.func9 rfl rfl (by simp) ?_
        exact eqB (by simp)
      · skip
        have hbe : now ≤ (bA b a.a).e := by have := (acc_T hb2).1; omega
        have cX := w_BestX2 R S a.a now hnm (bA b a.a) hbe
        have cY := w_BestX2 R S a.a now hnm (bA b a.a) hbe
        generalize bestV now [(bA b a.a)] = z at cX cY
        obtain ⟨P, f⟩ := z
        simp only at cX cY
        refine ag_reg ?_
        refine pA ?_
        refine pB ?_
        refine pA ?_
        refine ar_qd rfl (qop_objR [2, 3, 4] (w_Bid1F R S a.a 1 a rfl ha hra now ha2) (by rintro _ _ ⟨rfl, rfl⟩; exact ⟨rfl, rfl⟩) rfl rfl (handed_of rfl rfl (by decide) ⟨rfl, rfl, rfl, rfl, rfl, rfl, rfl, rfl, rfl, trivial⟩) rfl rfl) rfl rfl rfl rfl ?_
        refine ar_nil ?_
        refine ag_ent (ent_weak (g' := [(2, .r (.int .i64 now)), (3, .ptr 0 0), (4, .ptr 1 0), (8, .ptr 2 0), (9, .ptr 5 0)]) (h' := ⟨8, [(0, some (.mixed ((bidC a).map .r))), (1, some (.mixed ((bidC (bA b a.a)).map .r))), (2, some (.mixed [.r (rvT R S), .sl 3 0 1 1, .r (.bool true)])), (3, some (.mixed [.ptr 4 0])), (4, some (.mixed (entC a.a 1 (.r .nil)))), (5, some (.mixed [.r (rvT R S), .sl 6 0 1 1, .r (.bool true)])), (6, some (.mixed [.ptr 7 0])), (7, some (.mixed (entC a.a 1 (.r .nil))))], false⟩) [0, 1, 2, 3, 4, 5, 6, 7] rfl rfl rfl rfl ?_ ?_ rfl) ?_
        · exact ⟨⟨rfl, rfl⟩, ⟨rfl, rfl⟩, ⟨rfl, rfl⟩, ⟨rfl, rfl⟩, ⟨rfl, rfl⟩, trivial⟩
        · exact ⟨⟨rfl, rfl, rfl⟩, ⟨rfl, rfl, rfl⟩, ⟨rfl, rfl, rfl⟩, ⟨rfl, rfl, rfl⟩, ⟨rfl, rfl, rfl⟩, ⟨rfl, rfl, rfl⟩, ⟨rfl, rfl, rfl⟩, ⟨rfl, rfl, rfl⟩, trivial⟩
        refine zB ?_
        refine pA ?_
        refine pB ?_
        refine pA ?_
        refine ar_obj [2, 3, 4] (w_Bid1T R S a.a 1 (bA b a.a) rfl hB hrb now hb2) rfl rfl (handed_of rfl rfl (by decide) ⟨rfl, rfl, rfl, rfl, rfl, rfl, rfl, rfl, rfl, trivial⟩) rfl rfl rfl rfl ?_
        rintro _ _ ⟨rfl, rfl⟩
        refine ⟨_, _, rfl, ?_⟩
        refine ar_ent (ent_same (h' := ⟨9, [(0, some (.mixed ((bidC a).map .r))), (1, some (.mixed ((bidC (bA b a.a)).map .r))), (2, some (.mixed [.r (rvT R S), .sl 3 0 1 1, .r (.bool true)])), (3, some (.mixed [.ptr 4 0])), (4, some (.mixed (entC a.a 1 (.sl 8 0 1 16)))), (5, some (.mixed [.r (rvT R S), .sl 6 0 1 1, .r (.bool true)])), (6, some (.mixed [.ptr 7 0])), (7, some (.mixed (entC a.a 1 (.r .nil)))), (8, some (.plain (bidsC [(bA b a.a)])))], false⟩) rfl rfl ⟨rfl, rfl, rfl, rfl, rfl, rfl, rfl, rfl, rfl, trivial⟩) ?_
        refine ar_nil ?_
        refine ag_ent (ent_weak (g' := [(2, .r (.int .i64 now)), (3, .ptr 0 0), (4, .ptr 1 0), (8, .ptr 2 0), (9, .ptr 5 0)]) (h' := ⟨9, [(0, some (.mixed ((bidC a).map .r))), (1, some (.mixed ((bidC (bA b a.a)).map .r))), (2, some (.mixed [.r (rvT R S), .sl 3 0 1 1, .r (.bool true)])), (3, some (.mixed [.ptr 4 0])), (4, some (.mixed (entC a.a 1 (.sl 8 0 1 16)))), (5, some (.mixed [.r (rvT R S), .sl 6 0 1 1, .r (.bool true)])), (6, some (.mixed [.ptr 7 0])), (7, some (.mixed (entC a.a 1 (.r .nil)))), (8, some (.plain (bidsC [(bA b a.a)])))], false⟩) [0, 1, 2, 3, 4, 5, 6, 7, 8] rfl rfl rfl rfl ?_ ?_ rfl) ?_
        · exact ⟨⟨rfl, rfl⟩, ⟨rfl, rfl⟩, ⟨rfl, rfl⟩, ⟨rfl, rfl⟩, ⟨rfl, rfl⟩, trivial⟩
        · exact ⟨⟨rfl, rfl, rfl⟩, ⟨rfl, rfl, rfl⟩, ⟨rfl, rfl, rfl⟩, ⟨rfl, rfl, rfl⟩, ⟨rfl, rfl, rfl⟩, ⟨rfl, rfl, rfl⟩, ⟨rfl, rfl, rfl⟩, ⟨rfl, rfl, rfl⟩, ⟨rfl, rfl, rfl⟩, trivial⟩
        refine zB ?_
        refine pA ?_
        refine pB ?_
        refine pA ?_
        refine ar_obj [5, 6, 7] (w_Bid1T R S a.a 1 (bA b a.a) rfl hB hrb now hb2) rfl rfl (handed_of rfl rfl (by decide) ⟨rfl, rfl, rfl, rfl, rfl, rfl, rfl, rfl, rfl, trivial⟩) rfl rfl rfl rfl ?_
        rintro _ _ ⟨rfl, rfl⟩
        refine ⟨_, _, rfl, ?_⟩
        refine ar_ent (ent_same (h' := ⟨10, [(0, some (.mixed ((bidC a).map .r))), (1, some (.mixed ((bidC (bA b a.a)).map .r))), (2, some (.mixed [.r (rvT R S), .sl 3 0 1 1, .r (.bool true)])), (3, some (.mixed [.ptr 4 0])), (4, some (.mixed (entC a.a 1 (.sl 8 0 1 16)))), (5, some (.mixed [.r (rvT R S), .sl 6 0 1 1, .r (.bool true)])), (6, some (.mixed [.ptr 7 0])), (7, some (.mixed (entC a.a 1 (.sl 9 0 1 16)))), (8, some (.plain (bidsC [(bA b a.a)]))), (9, some (.plain (bidsC [(bA b a.a)])))], false⟩) rfl rfl ⟨rfl, rfl, rfl, rfl, rfl, rfl, rfl, rfl, rfl, rfl, trivial⟩) ?_
        refine ar_nil ?_
        refine ag_ent (ent_weak (g' := [(2, .r (.int .i64 now)), (3, .ptr 0 0), (4, .ptr 1 0), (8, .ptr 2 0), (9, .ptr 5 0)]) (h' := ⟨10, [(0, some (.mixed ((bidC a).map .r))), (1, some (.mixed ((bidC (bA b a.a)).map .r))), (2, some (.mixed [.r (rvT R S), .sl 3 0 1 1, .r (.bool true)])), (3, some (.mixed [.ptr 4 0])), (4, some (.mixed (entC a.a 1 (.sl 8 0 1 16)))), (5, some (.mixed [.r (rvT R S), .sl 6 0 1 1, .r (.bool true)])), (6, some (.mixed [.ptr 7 0])), (7, some (.mixed (entC a.a 1 (.sl 9 0 1 16)))), (8, some (.plain (bidsC [(bA b a.a)]))), (9, some (.plain (bidsC [(bA b a.a)])))], false⟩) [0, 1, 2, 3, 4, 5, 6, 7, 8, 9] rfl rfl rfl rfl ?_ ?_ rfl) ?_
        · exact ⟨⟨rfl, rfl⟩, ⟨rfl, rfl⟩, ⟨rfl, rfl⟩, ⟨rfl, rfl⟩, ⟨rfl, rfl⟩, trivial⟩
        · exact ⟨⟨rfl, rfl, rfl⟩, ⟨rfl, rfl, rfl⟩, ⟨rfl, rfl, rfl⟩, ⟨rfl, rfl, rfl⟩, ⟨rfl, rfl, rfl⟩, ⟨rfl, rfl, rfl⟩, ⟨rfl, rfl, rfl⟩, ⟨rfl, rfl, rfl⟩, ⟨rfl, rfl, rfl⟩, ⟨rfl, rfl, rfl⟩, trivial⟩
        refine zB ?_
        refine pA ?_
        refine pB ?_
        refine pA ?_
        refine ar_qd rfl (qop_objR [5, 6, 7, 9] (w_Bid2F R S a.a 1 (bA b a.a) a hne.symm rfl ha hra now ha2) (by rintro _ _ ⟨rfl, rfl⟩; exact ⟨rfl, rfl⟩) rfl rfl (handed_of rfl rfl (by decide) ⟨rfl, rfl, rfl, rfl, rfl, rfl, rfl, rfl, rfl, rfl, rfl, rfl, trivial⟩) rfl rfl) rfl rfl rfl rfl ?_
        refine ar_nil ?_
        refine ag_ent (ent_weak (g' := [(2, .r (.int .i64 now)), (3, .ptr 0 0), (4, .ptr 1 0), (8, .ptr 2 0), (9, .ptr 5 0)]) (h' := ⟨10, [(0, some (.mixed ((bidC a).map .r))), (1, some (.mixed ((bidC (bA b a.a)).map .r))), (2, some (.mixed [.r (rvT R S), .sl 3 0 1 1, .r (.bool true)])), (3, some (.mixed [.ptr 4 0])), (4, some (.mixed (entC a.a 1 (.sl 8 0 1 16)))), (5, some (.mixed [.r (rvT R S), .sl 6 0 1 1, .r (.bool true)])), (6, some (.mixed [.ptr 7 0])), (7, some (.mixed (entC a.a 1 (.sl 9 0 1 16)))), (8, some (.plain (bidsC [(bA b a.a)]))), (9, some (.plain (bidsC [(bA b a.a)])))], false⟩) [0, 1, 2, 3, 4, 5, 6, 7, 8, 9] rfl rfl rfl rfl ?_ ?_ rfl) ?_
        · exact ⟨⟨rfl, rfl⟩, ⟨rfl, rfl⟩, ⟨rfl, rfl⟩, ⟨rfl, rfl⟩, ⟨rfl, rfl⟩, trivial⟩
        · exact ⟨⟨rfl, rfl, rfl⟩, ⟨rfl, rfl, rfl⟩, ⟨rfl, rfl, rfl⟩, ⟨rfl, rfl, rfl⟩, ⟨rfl, rfl, rfl⟩, ⟨rfl, rfl, rfl⟩, ⟨rfl, rfl, rfl⟩, ⟨rfl, rfl, rfl⟩, ⟨rfl, rfl, rfl⟩, ⟨rfl, rfl, rfl⟩, trivial⟩
        refine zB ?_
        iterate 2 refine pA ?_
        refine pB ?_
        refine pA ?_
        refine ar_qd rfl (qop_objR [2, 3, 4, 8] (cX) (by rintro _ _ ⟨rfl, rfl⟩; exact ⟨rfl, rfl⟩) rfl rfl (handed_of rfl rfl (by decide) ⟨rfl, rfl, rfl, rfl, rfl, rfl, rfl, rfl, rfl, rfl, rfl, rfl, trivial⟩) rfl rfl) rfl rfl rfl rfl ?_
        iterate 3 refine pA ?_
        refine ar_new tOk rfl rfl rfl ?_ ?_
        · simp
        refine ar_store (h' := ⟨11, [(10, some (.mixed ((bidC P).map .r))), (10, some (.mixed ((bidC bid0).map .r))), (0, some (.mixed ((bidC a).map .r))), (1, some (.mixed ((bidC (bA b a.a)).map .r))), (2, some (.mixed [.r (rvT R S), .sl 3 0 1 1, .r (.bool true)])), (3, some (.mixed [.ptr 4 0])), (4, some (.mixed (entC a.a 1 (.sl 8 0 1 16)))), (5, some (.mixed [.r (rvT R S), .sl 6 0 1 1, .r (.bool true)])), (6, some (.mixed [.ptr 7 0])), (7, some (.mixed (entC a.a 1 (.sl 9 0 1 16)))), (8, some (.plain (bidsC [(bA b a.a)]))), (9, some (.plain (bidsC [(bA b a.a)])))], false⟩) (c := True) tOk (by kernel_rfl) rfl rfl trivial ?_
        refine pA ?_
        refine ar_nil ?_
        refine ag_ent (ent_weak (g' := [(2, .r (.int .i64 now)), (3, .ptr 0 0), (4, .ptr 1 0), (8, .ptr 2 0), (9, .ptr 5 0), (10, .ptr 10 0), (11, .r (.bool f))]) (h' := ⟨11, [(0, some (.mixed ((bidC a).map .r))), (1, some (.mixed ((bidC (bA b a.a)).map .r))), (2, some (.mixed [.r (rvT R S), .sl 3 0 1 1, .r (.bool true)])), (3, some (.mixed [.ptr 4 0])), (4, some (.mixed (entC a.a 1 (.sl 8 0 1 16)))), (5, some (.mixed [.r (rvT R S), .sl 6 0 1 1, .r (.bool true)])), (6, some (.mixed [.ptr 7 0])), (7, some (.mixed (entC a.a 1 (.sl 9 0 1 16)))), (8, some (.plain (bidsC [(bA b a.a)]))), (9, some (.plain (bidsC [(bA b a.a)]))), (10, some (.mixed ((bidC P).map .r)))], false⟩) [0, 1, 2, 3, 4, 5, 6, 7, 8, 9, 10] rfl rfl rfl rfl ?_ ?_ rfl) ?_
        · exact ⟨⟨rfl, rfl⟩, ⟨rfl, rfl⟩, ⟨rfl, rfl⟩, ⟨rfl, rfl⟩, ⟨rfl, rfl⟩, ⟨rfl, rfl⟩, ⟨rfl, rfl⟩, trivial⟩
        · exact ⟨⟨rfl, rfl, rfl⟩, ⟨rfl, rfl, rfl⟩, ⟨rfl, rfl, rfl⟩, ⟨rfl, rfl, rfl⟩, ⟨rfl, rfl, rfl⟩, ⟨rfl, rfl, rfl⟩, ⟨rfl, rfl, rfl⟩, ⟨rfl, rfl, rfl⟩, ⟨rfl, rfl, rfl⟩, ⟨rfl, rfl, rfl⟩, ⟨rfl, rfl, rfl⟩, trivial⟩
        refine zB ?_
        iterate 2 refine pA ?_
        refine pB ?_
        refine pA ?_
        refine ar_qd rfl (qop_objR [5, 6, 7, 9] (cY) (by rintro _ _ ⟨rfl, rfl⟩; exact ⟨rfl, rfl⟩) rfl rfl (handed_of rfl rfl (by decide) ⟨rfl, rfl, rfl, rfl, rfl, rfl, rfl, rfl, rfl, rfl, rfl, rfl, trivial⟩) rfl rfl) rfl rfl rfl rfl ?_
        iterate 3 refine pA ?_
        refine ar_new tOk rfl rfl rfl ?_ ?_
        · simp
        refine ar_store (h' := ⟨12, [(11, some (.mixed ((bidC P).map .r))), (11, some (.mixed ((bidC bid0).map .r))), (0, some (.mixed ((bidC a).map .r))), (1, some (.mixed ((bidC (bA b a.a)).map .r))), (2, some (.mixed [.r (rvT R S), .sl 3 0 1 1, .r (.bool true)])), (3, some (.mixed [.ptr 4 0])), (4, some (.mixed (entC a.a 1 (.sl 8 0 1 16)))), (5, some (.mixed [.r (rvT R S), .sl 6 0 1 1, .r (.bool true)])), (6, some (.mixed [.ptr 7 0])), (7, some (.mixed (entC a.a 1 (.sl 9 0 1 16)))), (8, some (.plain (bidsC [(bA b a.a)]))), (9, some (.plain (bidsC [(bA b a.a)]))), (10, some (.mixed ((bidC P).map .r)))], false⟩) (c := True) tOk (by kernel_rfl) rfl rfl trivial ?_
        refine pA ?_
        refine zC ?_
        iterate 2 refine pB ?_
        iterate 2 refine pA ?_
        refine ar_ent (ent_reg 84 (.r (.bool true)) (by show AVal.r (.bool _) = _; exact eqB (by simp))) ?_
        iterate 5 refine pA ?_
        refine ar_nil ?_
        refine ag_ret tOk Try.func9 rfl rfl (by simp) ?_
        exact eqB (by simp)
      · skip
        have hae : now ≤ a.e := by have := (acc_T ha2).1; omega
        have cX := w_BestX2 R S a.a now hnm a hae
        have cY := w_BestX2 R S a.a now hnm a hae
        generalize bestV now [a] = z at cX cY
        obtain ⟨P, f⟩ := z
        simp only at cX cY
        refine ag_reg ?_
        refine pA ?_
        refine pB ?_
        refine pA ?_
        refine ar_obj [2, 3, 4] (w_Bid1T R S a.a 1 a rfl ha hra now ha2) rfl rfl (handed_of rfl rfl (by decide) ⟨rfl, rfl, rfl, rfl, rfl, rfl, rfl, rfl, rfl, trivial⟩) rfl rfl rfl rfl ?_
        rintro _ _ ⟨rfl, rfl⟩
        refine ⟨_, _, rfl, ?_⟩
        refine ar_ent (ent_same (h' := ⟨9, [(0, some (.mixed ((bidC a).map .r))), (1, some (.mixed ((bidC (bA b a.a)).map .r))), (2, some (.mixed [.r (rvT R S), .sl 3 0 1 1, .r (.bool true)])), (3, some (.mixed [.ptr 4 0])), (4, some (.mixed (entC a.a 1 (.sl 8 0 1 16)))), (5, some (.mixed [.r (rvT R S), .sl 6 0 1 1, .r (.bool true)])), (6, some (.mixed [.ptr 7 0])), (7, some (.mixed (entC a.a 1 (.r .nil)))), (8, some (.plain (bidsC [a])))], false⟩) rfl rfl ⟨rfl, rfl, rfl, rfl, rfl, rfl, rfl, rfl, rfl, trivial⟩) ?_
        refine ar_nil ?_
        refine ag_ent (ent_weak (g' := [(2, .r (.int .i64 now)), (3, .ptr 0 0), (4, .ptr 1 0), (8, .ptr 2 0), (9, .ptr 5 0)]) (h' := ⟨9, [(0, some (.mixed ((bidC a).map .r))), (1, some (.mixed ((bidC (bA b a.a)).map .r))), (2, some (.mixed [.r (rvT R S), .sl 3 0 1 1, .r (.bool true)])), (3, some (.mixed [.ptr 4 0])), (4, some (.mixed (entC a.a 1 (.sl 8 0 1 16)))), (5, some (.mixed [.r (rvT R S), .sl 6 0 1 1, .r (.bool true)])), (6, some (.mixed [.ptr 7 0])), (7, some (.mixed (entC a.a 1 (.r .nil)))), (8, some (.plain (bidsC [a])))], false⟩) [0, 1, 2, 3, 4, 5, 6, 7, 8] rfl rfl rfl rfl ?_ ?_ rfl) ?_
        · exact ⟨⟨rfl, rfl⟩, ⟨rfl, rfl⟩, ⟨rfl, rfl⟩, ⟨rfl, rfl⟩, ⟨rfl, rfl⟩, trivial⟩
        · exact ⟨⟨rfl, rfl, rfl⟩, ⟨rfl, rfl, rfl⟩, ⟨rfl, rfl, rfl⟩, ⟨rfl, rfl, rfl⟩, ⟨rfl, rfl, rfl⟩, ⟨rfl, rfl, rfl⟩, ⟨rfl, rfl, rfl⟩, ⟨rfl, rfl, rfl⟩, ⟨rfl, rfl, rfl⟩, trivial⟩
        refine zB ?_
        refine pA ?_
        refine pB ?_
        refine pA ?_
        refine ar_qd rfl (qop_objR [2, 3, 4, 8] (w_Bid2F R S a.a 1 a (bA b a.a) hne rfl hB hrb now hb2) (by rintro _ _ ⟨rfl, rfl⟩; exact ⟨rfl, rfl⟩) rfl rfl (handed_of rfl rfl (by decide) ⟨rfl, rfl, rfl, rfl, rfl, rfl, rfl, rfl, rfl, rfl, rfl, rfl, trivial⟩) rfl rfl) rfl rfl rfl rfl ?_
        refine ar_nil ?_
        refine ag_ent (ent_weak (g' := [(2, .r (.int .i64 now)), (3, .ptr 0 0), (4, .ptr 1 0), (8, .ptr 2 0), (9, .ptr 5 0)]) (h' := ⟨9, [(0, some (.mixed ((bidC a).map .r))), (1, some (.mixed ((bidC (bA b a.a)).map .r))), (2, some (.mixed [.r (rvT R S), .sl 3 0 1 1, .r (.bool true)])), (3, some (.mixed [.ptr 4 0])), (4, some (.mixed (entC a.a 1 (.sl 8 0 1 16)))), (5, some (.mixed [.r (rvT R S), .sl 6 0 1 1, .r (.bool true)])), (6, some (.mixed [.ptr 7 0])), (7, some (.mixed (entC a.a 1 (.r .nil)))), (8, some (.plain (bidsC [a])))], false⟩) [0, 1, 2, 3, 4, 5, 6, 7, 8] rfl rfl rfl rfl ?_ ?_ rfl) ?_
        · exact ⟨⟨rfl, rfl⟩, ⟨rfl, rfl⟩, ⟨rfl, rfl⟩, ⟨rfl, rfl⟩, ⟨rfl, rfl⟩, trivial⟩
        · exact ⟨⟨rfl, rfl, rfl⟩, ⟨rfl, rfl, rfl⟩, ⟨rfl, rfl, rfl⟩, ⟨rfl, rfl, rfl⟩, ⟨rfl, rfl, rfl⟩, ⟨rfl, rfl, rfl⟩, ⟨rfl, rfl, rfl⟩, ⟨rfl, rfl, rfl⟩, ⟨rfl, rfl, rfl⟩, trivial⟩
        refine zB ?_
        refine pA ?_
        refine pB ?_
        refine pA ?_
        refine ar_qd rfl (qop_objR [5, 6, 7] (w_Bid1F R S a.a 1 (bA b a.a) rfl hB hrb now hb2) (by rintro _ _ ⟨rfl, rfl⟩; exact ⟨rfl, rfl⟩) rfl rfl (handed_of rfl rfl (by decide) ⟨rfl, rfl, rfl, rfl, rfl, rfl, rfl, rfl, rfl, trivial⟩) rfl rfl) rfl rfl rfl rfl ?_
        refine ar_nil ?_
        refine ag_ent (ent_weak (g' := [(2, .r (.int .i64 now)), (3, .ptr 0 0), (4, .ptr 1 0), (8, .ptr 2 0), (9, .ptr 5 0)]) (h' := ⟨9, [(0, some (.mixed ((bidC a).map .r))), (1, some (.mixed ((bidC (bA b a.a)).map .r))), (2, some (.mixed [.r (rvT R S), .sl 3 0 1 1, .r (.bool true)])), (3, some (.mixed [.ptr 4 0])), (4, some (.mixed (entC a.a 1 (.sl 8 0 1 16)))), (5, some (.mixed [.r (rvT R S), .sl 6 0 1 1, .r (.bool true)])), (6, some (.mixed [.ptr 7 0])), (7, some (.mixed (entC a.a 1 (.r .nil)))), (8, some (.plain (bidsC [a])))], false⟩) [0, 1, 2, 3, 4, 5, 6, 7, 8] rfl rfl rfl rfl ?_ ?_ rfl) ?_
        · exact ⟨⟨rfl, rfl⟩, ⟨rfl, rfl⟩, ⟨rfl, rfl⟩, ⟨rfl, rfl⟩, ⟨rfl, rfl⟩, trivial⟩
        · exact ⟨⟨rfl, rfl, rfl⟩, ⟨rfl, rfl, rfl⟩, ⟨rfl, rfl, rfl⟩, ⟨rfl, rfl, rfl⟩, ⟨rfl, rfl, rfl⟩, ⟨rfl, rfl, rfl⟩, ⟨rfl, rfl, rfl⟩, ⟨rfl, rfl, rfl⟩, ⟨rfl, rfl, rfl⟩, trivial⟩
        refine zB ?_
        refine pA ?_
        refine pB ?_
        refine pA ?_
        refine ar_obj [5, 6, 7] (w_Bid1T R S a.a 1 a rfl ha hra now ha2) rfl rfl (handed_of rfl rfl (by decide) ⟨rfl, rfl, rfl, rfl, rfl, rfl, rfl, rfl, rfl, trivial⟩) rfl rfl rfl rfl ?_
        rintro _ _ ⟨rfl, rfl⟩
        refine ⟨_, _, rfl, ?_⟩
        refine ar_ent (ent_same (h' := ⟨10, [(0, some (.mixed ((bidC a).map .r))), (1, some (.mixed ((bidC (bA b a.a)).map .r))), (2, some (.mixed [.r (rvT R S), .sl 3 0 1 1, .r (.bool true)])), (3, some (.mixed [.ptr 4 0])), (4, some (.mixed (entC a.a 1 (.sl 8 0 1 16)))), (5, some (.mixed [.r (rvT R S), .sl 6 0 1 1, .r (.bool true)])), (6, some (.mixed [.ptr 7 0])), (7, some (.mixed (entC a.a 1 (.sl 9 0 1 16)))), (8, some (.plain (bidsC [a]))), (9, some (.plain (bidsC [a])))], false⟩) rfl rfl ⟨rfl, rfl, rfl, rfl, rfl, rfl, rfl, rfl, rfl, rfl, trivial⟩) ?_
        refine ar_nil ?_
        refine ag_ent (ent_weak (g' := [(2, .r (.int .i64 now)), (3, .ptr 0 0), (4, .ptr 1 0), (8, .ptr 2 0), (9, .ptr 5 0)]) (h' := ⟨10, [(0, some (.mixed ((bidC a).map .r))), (1, some (.mixed ((bidC (bA b a.a)).map .r))), (2, some (.mixed [.r (rvT R S), .sl 3 0 1 1, .r (.bool true)])), (3, some (.mixed [.ptr 4 0])), (4, some (.mixed (entC a.a 1 (.sl 8 0 1 16)))), (5, some (.mixed [.r (rvT R S), .sl 6 0 1 1, .r (.bool true)])), (6, some (.mixed [.ptr 7 0])), (7, some (.mixed (entC a.a 1 (.sl 9 0 1 16)))), (8, some (.plain (bidsC [a]))), (9, some (.plain (bidsC [a])))], false⟩) [0, 1, 2, 3, 4, 5, 6, 7, 8, 9] rfl rfl rfl rfl ?_ ?_ rfl) ?_
        · exact ⟨⟨rfl, rfl⟩, ⟨rfl, rfl⟩, ⟨rfl, rfl⟩, ⟨rfl, rfl⟩, ⟨rfl, rfl⟩, trivial⟩
        · exact ⟨⟨rfl, rfl, rfl⟩, ⟨rfl, rfl, rfl⟩, ⟨rfl, rfl, rfl⟩, ⟨rfl, rfl, rfl⟩, ⟨rfl, rfl, rfl⟩, ⟨rfl, rfl, rfl⟩, ⟨rfl, rfl, rfl⟩, ⟨rfl, rfl, rfl⟩, ⟨rfl, rfl, rfl⟩, ⟨rfl, rfl, rfl⟩, trivial⟩
        refine zB ?_
        iterate 2 refine pA ?_
        refine pB ?_
        refine pA ?_
        refine ar_qd rfl (qop_objR [2, 3, 4, 8] (cX) (by rintro _ _ ⟨rfl, rfl⟩; exact ⟨rfl, rfl⟩) rfl rfl (handed_of rfl rfl (by decide) ⟨rfl, rfl, rfl, rfl, rfl, rfl, rfl, rfl, rfl, rfl, rfl, rfl, trivial⟩) rfl rfl) rfl rfl rfl rfl ?_
        iterate 3 refine pA ?_
        refine ar_new tOk rfl rfl rfl ?_ ?_
        · simp
        refine ar_store (h' := ⟨11, [(10, some (.mixed ((bidC P).map .r))), (10, some (.mixed ((bidC bid0).map .r))), (0, some (.mixed ((bidC a).map .r))), (1, some (.mixed ((bidC (bA b a.a)).map .r))), (2, some (.mixed [.r (rvT R S), .sl 3 0 1 1, .r (.bool true)])), (3, some (.mixed [.ptr 4 0])), (4, some (.mixed (entC a.a 1 (.sl 8 0 1 16)))), (5, some (.mixed [.r (rvT R S), .sl 6 0 1 1, .r (.bool true)])), (6, some (.mixed [.ptr 7 0])), (7, some (.mixed (entC a.a 1 (.sl 9 0 1 16)))), (8, some (.plain (bidsC [a]))), (9, some (.plain (bidsC [a])))], false⟩) (c := True) tOk (by kernel_rfl) rfl rfl trivial ?_
        refine pA ?_
        refine ar_nil ?_
        refine ag_ent (ent_weak (g' := [(2, .r (.int .i64 now)), (3, .ptr 0 0), (4, .ptr 1 0), (8, .ptr 2 0), (9, .ptr 5 0), (10, .ptr 10 0), (11, .r (.bool f))]) (h' := ⟨11, [(0, some (.mixed ((bidC a).map .r))), (1, some (.mixed ((bidC (bA b a.a)).map .r))), (2, some (.mixed [.r (rvT R S), .sl 3 0 1 1, .r (.bool true)])), (3, some (.mixed [.ptr 4 0])), (4, some (.mixed (entC a.a 1 (.sl 8 0 1 16)))), (5, some (.mixed [.r (rvT R S), .sl 6 0 1 1, .r (.bool true)])), (6, some (.mixed [.ptr 7 0])), (7, some (.mixed (entC a.a 1 (.sl 9 0 1 16)))), (8, some (.plain (bidsC [a]))), (9, some (.plain (bidsC [a]))), (10, some (.mixed ((bidC P).map .r)))], false⟩) [0, 1, 2, 3, 4, 5, 6, 7, 8, 9, 10] rfl rfl rfl rfl ?_ ?_ rfl) ?_
        · exact ⟨⟨rfl, rfl⟩, ⟨rfl, rfl⟩, ⟨rfl, rfl⟩, ⟨rfl, rfl⟩, ⟨rfl, rfl⟩, ⟨rfl, rfl⟩, ⟨rfl, rfl⟩, trivial⟩
        · exact ⟨⟨rfl, rfl, rfl⟩, ⟨rfl, rfl, rfl⟩, ⟨rfl, rfl, rfl⟩, ⟨rfl, rfl, rfl⟩, ⟨rfl, rfl, rfl⟩, ⟨rfl, rfl, rfl⟩, ⟨rfl, rfl, rfl⟩, ⟨rfl, rfl, rfl⟩, ⟨rfl, rfl, rfl⟩, ⟨rfl, rfl, rfl⟩, ⟨rfl, rfl, rfl⟩, trivial⟩
        refine zB ?_
        iterate 2 refine pA ?_
        refine pB ?_
        refine pA ?_
        refine ar_qd rfl (qop_objR [5, 6, 7, 9] (cY) (by rintro _ _ ⟨rfl, rfl⟩; exact ⟨rfl, rfl⟩) rfl rfl (handed_of rfl rfl (by decide) ⟨rfl, rfl, rfl, rfl, rfl, rfl, rfl, rfl, rfl, rfl, rfl, rfl, trivial⟩) rfl rfl) rfl rfl rfl rfl ?_
        iterate 3 refine pA ?_
        refine ar_new tOk rfl rfl rfl ?_ ?_
        · simp
        refine ar_store (h' := ⟨12, [(11, some (.mixed ((bidC P).map .r))), (11, some (.mixed ((bidC bid0).map .r))), (0, some (.mixed ((bidC a).map .r))), (1, some (.mixed ((bidC (bA b a.a)).map .r))), (2, some (.mixed [.r (rvT R S), .sl 3 0 1 1, .r (.bool true)])), (3, some (.mixed [.ptr 4 0])), (4, some (.mixed (entC a.a 1 (.sl 8 0 1 16)))), (5, some (.mixed [.r (rvT R S), .sl 6 0 1 1, .r (.bool true)])), (6, some (.mixed [.ptr 7 0])), (7, some (.mixed (entC a.a 1 (.sl 9 0 1 16)))), (8, some (.plain (bidsC [a]))), (9, some (.plain (bidsC [a]))), (10, some (.mixed ((bidC P).map .r)))], false⟩) (c := True) tOk (by kernel_rfl) rfl rfl trivial ?_
        refine pA ?_
        refine zC ?_
        iterate 2 refine pB ?_
        iterate 2 refine pA ?_
        refine ar_ent (ent_reg 84 (.r (.bool true)) (by show AVal.r (.bool _) = _; exact eqB (by simp))) ?_
        iterate 5 refine pA ?_
        refine ar_nil ?_
        refine ag_ret tOk Try.func9 rfl rfl (by simp) ?_
        exact eqB (by simp)
      · skip
        have hae : now ≤ a.e := by have := (acc_T ha2).1; omega
        have hbe : now ≤ (bA b a.a).e := by have := (acc_T hb2).1; omega
        have cX := w_BestX3 R S a.a now hnm a (bA b a.a) hae hbe
        have cY := w_BestX3 R S a.a now hnm (bA b a.a) a hbe hae
        rw [best_swap hne] at cY
        generalize bestV now [a, (bA b a.a)] = z at cX cY
        obtain ⟨P, f⟩ := z
        simp only at cX cY
        refine ag_reg ?_
        refine pA ?_
        refine pB ?_
        refine pA ?_
        refine ar_obj [2, 3, 4] (w_Bid1T R S a.a 1 a rfl ha hra now ha2) rfl rfl (handed_of rfl rfl (by decide) ⟨rfl, rfl, rfl, rfl, rfl, rfl, rfl, rfl, rfl, trivial⟩) rfl rfl rfl rfl ?_
        rintro _ _ ⟨rfl, rfl⟩
        refine ⟨_, _, rfl, ?_⟩
        refine ar_ent (ent_same (h' := ⟨9, [(0, some (.mixed ((bidC a).map .r))), (1, some (.mixed ((bidC (bA b a.a)).map .r))), (2, some (.mixed [.r (rvT R S), .sl 3 0 1 1, .r (.bool true)])), (3, some (.mixed [.ptr 4 0])), (4, some (.mixed (entC a.a 1 (.sl 8 0 1 16)))), (5, some (.mixed [.r (rvT R S), .sl 6 0 1 1, .r (.bool true)])), (6, some (.mixed [.ptr 7 0])), (7, some (.mixed (entC a.a 1 (.r .nil)))), (8, some (.plain (bidsC [a])))], false⟩) rfl rfl ⟨rfl, rfl, rfl, rfl, rfl, rfl, rfl, rfl, rfl, trivial⟩) ?_
        refine ar_nil ?_
        refine ag_ent (ent_weak (g' := [(2, .r (.int .i64 now)), (3, .ptr 0 0), (4, .ptr 1 0), (8, .ptr 2 0), (9, .ptr 5 0)]) (h' := ⟨9, [(0, some (.mixed ((bidC a).map .r))), (1, some (.mixed ((bidC (bA b a.a)).map .r))), (2, some (.mixed [.r (rvT R S), .sl 3 0 1 1, .r (.bool true)])), (3, some (.mixed [.ptr 4 0])), (4, some (.mixed (entC a.a 1 (.sl 8 0 1 16)))), (5, some (.mixed [.r (rvT R S), .sl 6 0 1 1, .r (.bool true)])), (6, some (.mixed [.ptr 7 0])), (7, some (.mixed (entC a.a 1 (.r .nil)))), (8, some (.plain (bidsC [a])))], false⟩) [0, 1, 2, 3, 4, 5, 6, 7, 8] rfl rfl rfl rfl ?_ ?_ rfl) ?_
        · exact ⟨⟨rfl, rfl⟩, ⟨rfl, rfl⟩, ⟨rfl, rfl⟩, ⟨rfl, rfl⟩, ⟨rfl, rfl⟩, trivial⟩
        · exact ⟨⟨rfl, rfl, rfl⟩, ⟨rfl, rfl, rfl⟩, ⟨rfl, rfl, rfl⟩, ⟨rfl, rfl, rfl⟩, ⟨rfl, rfl, rfl⟩, ⟨rfl, rfl, rfl⟩, ⟨rfl, rfl, rfl⟩, ⟨rfl, rfl, rfl⟩, ⟨rfl, rfl, rfl⟩, trivial⟩
        refine zB ?_
        refine pA ?_
        refine pB ?_
        refine pA ?_
        refine ar_obj [2, 3, 4, 8] (w_Bid2T R S a.a 1 a (bA b a.a) hne rfl hB hrb now hb2) rfl rfl (handed_of rfl rfl (by decide) ⟨rfl, rfl, rfl, rfl, rfl, rfl, rfl, rfl, rfl, rfl, rfl, rfl, trivial⟩) rfl rfl rfl rfl ?_
        rintro _ _ ⟨rfl, rfl⟩
        refine ⟨_, _, rfl, ?_⟩
        refine ar_ent (ent_same (h' := ⟨10, [(0, some (.mixed ((bidC a).map .r))), (1, some (.mixed ((bidC (bA b a.a)).map .r))), (2, some (.mixed [.r (rvT R S), .sl 3 0 1 1, .r (.bool true)])), (3, some (.mixed [.ptr 4 0])), (4, some (.mixed (entC a.a 1 (.sl 9 0 2 16)))), (5, some (.mixed [.r (rvT R S), .sl 6 0 1 1, .r (.bool true)])), (6, some (.mixed [.ptr 7 0])), (7, some (.mixed (entC a.a 1 (.r .nil)))), (9, some (.plain (bidsC [a, (bA b a.a)])))], false⟩) rfl rfl ⟨rfl, rfl, rfl, rfl, rfl, rfl, rfl, rfl, rfl, trivial⟩) ?_
        refine ar_nil ?_
        refine ag_ent (ent_weak (g' := [(2, .r (.int .i64 now)), (3, .ptr 0 0), (4, .ptr 1 0), (8, .ptr 2 0), (9, .ptr 5 0)]) (h' := ⟨9, [(0, some (.mixed ((bidC a).map .r))), (1, some (.mixed ((bidC (bA b a.a)).map .r))), (2, some (.mixed [.r (rvT R S), .sl 3 0 1 1, .r (.bool true)])), (3, some (.mixed [.ptr 4 0])), (4, some (.mixed (entC a.a 1 (.sl 8 0 2 16)))), (5, some (.mixed [.r (rvT R S), .sl 6 0 1 1, .r (.bool true)])), (6, some (.mixed [.ptr 7 0])), (7, some (.mixed (entC a.a 1 (.r .nil)))), (8, some (.plain (bidsC [a, (bA b a.a)])))], false⟩) [0, 1, 2, 3, 4, 5, 6, 7, 9] rfl rfl rfl rfl ?_ ?_ rfl) ?_
        · exact ⟨⟨rfl, rfl⟩, ⟨rfl, rfl⟩, ⟨rfl, rfl⟩, ⟨rfl, rfl⟩, ⟨rfl, rfl⟩, trivial⟩
        · exact ⟨⟨rfl, rfl, rfl⟩, ⟨rfl, rfl, rfl⟩, ⟨rfl, rfl, rfl⟩, ⟨rfl, rfl, rfl⟩, ⟨rfl, rfl, rfl⟩, ⟨rfl, rfl, rfl⟩, ⟨rfl, rfl, rfl⟩, ⟨rfl, rfl, rfl⟩, ⟨rfl, rfl, rfl⟩, trivial⟩
        refine zB ?_
        refine pA ?_
        refine pB ?_
        refine pA ?_
        refine ar_obj [5, 6, 7] (w_Bid1T R S a.a 1 (bA b a.a) rfl hB hrb now hb2) rfl rfl (handed_of rfl rfl (by decide) ⟨rfl, rfl, rfl, rfl, rfl, rfl, rfl, rfl, rfl, trivial⟩) rfl rfl rfl rfl ?_
        rintro _ _ ⟨rfl, rfl⟩
        refine ⟨_, _, rfl, ?_⟩
        refine ar_ent (ent_same (h' := ⟨10, [(0, some (.mixed ((bidC a).map .r))), (1, some (.mixed ((bidC (bA b a.a)).map .r))), (2, some (.mixed [.r (rvT R S), .sl 3 0 1 1, .r (.bool true)])), (3, some (.mixed [.ptr 4 0])), (4, some (.mixed (entC a.a 1 (.sl 8 0 2 16)))), (5, some (.mixed [.r (rvT R S), .sl 6 0 1 1, .r (.bool true)])), (6, some (.mixed [.ptr 7 0])), (7, some (.mixed (entC a.a 1 (.sl 9 0 1 16)))), (8, some (.plain (bidsC [a, (bA b a.a)]))), (9, some (.plain (bidsC [(bA b a.a)])))], false⟩) rfl rfl ⟨rfl, rfl, rfl, rfl, rfl, rfl, rfl, rfl, rfl, rfl, trivial⟩) ?_
        refine ar_nil ?_
        refine ag_ent (ent_weak (g' := [(2, .r (.int .i64 now)), (3, .ptr 0 0), (4, .ptr 1 0), (8, .ptr 2 0), (9, .ptr 5 0)]) (h' := ⟨10, [(0, some (.mixed ((bidC a).map .r))), (1, some (.mixed ((bidC (bA b a.a)).map .r))), (2, some (.mixed [.r (rvT R S), .sl 3 0 1 1, .r (.bool true)])), (3, some (.mixed [.ptr 4 0])), (4, some (.mixed (entC a.a 1 (.sl 8 0 2 16)))), (5, some (.mixed [.r (rvT R S), .sl 6 0 1 1, .r (.bool true)])), (6, some (.mixed [.ptr 7 0])), (7, some (.mixed (entC a.a 1 (.sl 9 0 1 16)))), (8, some (.plain (bidsC [a, (bA b a.a)]))), (9, some (.plain (bidsC [(bA b a.a)])))], false⟩) [0, 1, 2, 3, 4, 5, 6, 7, 8, 9] rfl rfl rfl rfl ?_ ?_ rfl) ?_
        · exact ⟨⟨rfl, rfl⟩, ⟨rfl, rfl⟩, ⟨rfl, rfl⟩, ⟨rfl, rfl⟩, ⟨rfl, rfl⟩, trivial⟩
        · exact ⟨⟨rfl, rfl, rfl⟩, ⟨rfl, rfl, rfl⟩, ⟨rfl, rfl, rfl⟩, ⟨rfl, rfl, rfl⟩, ⟨rfl, rfl, rfl⟩, ⟨rfl, rfl, rfl⟩, ⟨rfl, rfl, rfl⟩, ⟨rfl, rfl, rfl⟩, ⟨rfl, rfl, rfl⟩, ⟨rfl, rfl, rfl⟩, trivial⟩
        refine zB ?_
        refine pA ?_
        refine pB ?_
        refine pA ?_
        refine ar_obj [5, 6, 7, 9] (w_Bid2T R S a.a 1 (bA b a.a) a hne.symm rfl ha hra now ha2) rfl rfl (handed_of rfl rfl (by decide) ⟨rfl, rfl, rfl, rfl, rfl, rfl, rfl, rfl, rfl, rfl, rfl, rfl, trivial⟩) rfl rfl rfl rfl ?_
        rintro _ _ ⟨rfl, rfl⟩
        refine ⟨_, _, rfl, ?_⟩
        refine ar_ent (ent_same (h' := ⟨11, [(0, some (.mixed ((bidC a).map .r))), (1, some (.mixed ((bidC (bA b a.a)).map .r))), (2, some (.mixed [.r (rvT R S), .sl 3 0 1 1, .r (.bool true)])), (3, some (.mixed [.ptr 4 0])), (4, some (.mixed (entC a.a 1 (.sl 8 0 2 16)))), (5, some (.mixed [.r (rvT R S), .sl 6 0 1 1, .r (.bool true)])), (6, some (.mixed [.ptr 7 0])), (7, some (.mixed (entC a.a 1 (.sl 10 0 2 16)))), (8, some (.plain (bidsC [a, (bA b a.a)]))), (10, some (.plain (bidsC [(bA b a.a), a])))], false⟩) rfl rfl ⟨rfl, rfl, rfl, rfl, rfl, rfl, rfl, rfl, rfl, rfl, trivial⟩) ?_
        refine ar_nil ?_
        refine ag_ent (ent_weak (g' := [(2, .r (.int .i64 now)), (3, .ptr 0 0), (4, .ptr 1 0), (8, .ptr 2 0), (9, .ptr 5 0)]) (h' := ⟨10, [(0, some (.mixed ((bidC a).map .r))), (1, some (.mixed ((bidC (bA b a.a)).map .r))), (2, some (.mixed [.r (rvT R S), .sl 3 0 1 1, .r (.bool true)])), (3, some (.mixed [.ptr 4 0])), (4, some (.mixed (entC a.a 1 (.sl 8 0 2 16)))), (5, some (.mixed [.r (rvT R S), .sl 6 0 1 1, .r (.bool true)])), (6, some (.mixed [.ptr 7 0])), (7, some (.mixed (entC a.a 1 (.sl 9 0 2 16)))), (8, some (.plain (bidsC [a, (bA b a.a)]))), (9, some (.plain (bidsC [(bA b a.a), a])))], false⟩) [0, 1, 2, 3, 4, 5, 6, 7, 8, 10] rfl rfl rfl rfl ?_ ?_ rfl) ?_
        · exact ⟨⟨rfl, rfl⟩, ⟨rfl, rfl⟩, ⟨rfl, rfl⟩, ⟨rfl, rfl⟩, ⟨rfl, rfl⟩, trivial⟩
        · exact ⟨⟨rfl, rfl, rfl⟩, ⟨rfl, rfl, rfl⟩, ⟨rfl, rfl, rfl⟩, ⟨rfl, rfl, rfl⟩, ⟨rfl, rfl, rfl⟩, ⟨rfl, rfl, rfl⟩, ⟨rfl, rfl, rfl⟩, ⟨rfl, rfl, rfl⟩, ⟨rfl, rfl, rfl⟩, ⟨rfl, rfl, rfl⟩, trivial⟩
        refine zB ?_
        iterate 2 refine pA ?_
        refine pB ?_
        refine pA ?_
        refine ar_qd rfl (qop_objR [2, 3, 4, 8] (cX) (by rintro _ _ ⟨rfl, rfl⟩; exact ⟨rfl, rfl⟩) rfl rfl (handed_of rfl rfl (by decide) ⟨rfl, rfl, rfl, rfl, rfl, rfl, rfl, rfl, rfl, rfl, rfl, rfl, trivial⟩) rfl rfl) rfl rfl rfl rfl ?_
        iterate 3 refine pA ?_
        refine ar_new tOk rfl rfl rfl ?_ ?_
        · simp
        refine ar_store (h' := ⟨11, [(10, some (.mixed ((bidC P).map .r))), (10, some (.mixed ((bidC bid0).map .r))), (0, some (.mixed ((bidC a).map .r))), (1, some (.mixed ((bidC (bA b a.a)).map .r))), (2, some (.mixed [.r (rvT R S), .sl 3 0 1 1, .r (.bool true)])), (3, some (.mixed [.ptr 4 0])), (4, some (.mixed (entC a.a 1 (.sl 8 0 2 16)))), (5, some (.mixed [.r (rvT R S), .sl 6 0 1 1, .r (.bool true)])), (6, some (.mixed [.ptr 7 0])), (7, some (.mixed (entC a.a 1 (.sl 9 0 2 16)))), (8, some (.plain (bidsC [a, (bA b a.a)]))), (9, some (.plain (bidsC [(bA b a.a), a])))], false⟩) (c := True) tOk (by kernel_rfl) rfl rfl trivial ?_
        refine pA ?_
        refine ar_nil ?_
        refine ag_ent (ent_weak (g' := [(2, .r (.int .i64 now)), (3, .ptr 0 0), (4, .ptr 1 0), (8, .ptr 2 0), (9, .ptr 5 0), (10, .ptr 10 0), (11, .r (.bool f))]) (h' := ⟨11, [(0, some (.mixed ((bidC a).map .r))), (1, some (.mixed ((bidC (bA b a.a)).map .r))), (2, some (.mixed [.r (rvT R S), .sl 3 0 1 1, .r (.bool true)])), (3, some (.mixed [.ptr 4 0])), (4, some (.mixed (entC a.a 1 (.sl 8 0 2 16)))), (5, some (.mixed [.r (rvT R S), .sl 6 0 1 1, .r (.bool true)])), (6, some (.mixed [.ptr 7 0])), (7, some (.mixed (entC a.a 1 (.sl 9 0 2 16)))), (8, some (.plain (bidsC [a, (bA b a.a)]))), (9, some (.plain (bidsC [(bA b a.a), a]))), (10, some (.mixed ((bidC P).map .r)))], false⟩) [0, 1, 2, 3, 4, 5, 6, 7, 8, 9, 10] rfl rfl rfl rfl ?_ ?_ rfl) ?_
        · exact ⟨⟨rfl, rfl⟩, ⟨rfl, rfl⟩, ⟨rfl, rfl⟩, ⟨rfl, rfl⟩, ⟨rfl, rfl⟩, ⟨rfl, rfl⟩, ⟨rfl, rfl⟩, trivial⟩
        · exact ⟨⟨rfl, rfl, rfl⟩, ⟨rfl, rfl, rfl⟩, ⟨rfl, rfl, rfl⟩, ⟨rfl, rfl, rfl⟩, ⟨rfl, rfl, rfl⟩, ⟨rfl, rfl, rfl⟩, ⟨rfl, rfl, rfl⟩, ⟨rfl, rfl, rfl⟩, ⟨rfl, rfl, rfl⟩, ⟨rfl, rfl, rfl⟩, ⟨rfl, rfl, rfl⟩, trivial⟩
        refine zB ?_
        iterate 2 refine pA ?_
        refine pB ?_
        refine pA ?_
        refine ar_qd rfl (qop_objR [5, 6, 7, 9] (cY) (by rintro _ _ ⟨rfl, rfl⟩; exact ⟨rfl, rfl⟩) rfl rfl (handed_of rfl rfl (by decide) ⟨rfl, rfl, rfl, rfl, rfl, rfl, rfl, rfl, rfl, rfl, rfl, rfl, trivial⟩) rfl rfl) rfl rfl rfl rfl ?_
        iterate 3 refine pA ?_
        refine ar_new tOk rfl rfl rfl ?_ ?_
        · simp
        refine ar_store (h' := ⟨12, [(11, some (.mixed ((bidC P).map .r))), (11, some (.mixed ((bidC bid0).map .r))), (0, some (.mixed ((bidC a).map .r))), (1, some (.mixed ((bidC (bA b a.a)).map .r))), (2, some (.mixed [.r (rvT R S), .sl 3 0 1 1, .r (.bool true)])), (3, some (.mixed [.ptr 4 0])), (4, some (.mixed (entC a.a 1 (.sl 8 0 2 16)))), (5, some (.mixed [.r (rvT R S), .sl 6 0 1 1, .r (.bool true)])), (6, some (.mixed [.ptr 7 0])), (7, some (.mixed (entC a.a 1 (.sl 9 0 2 16)))), (8, some (.plain (bidsC [a, (bA b a.a)]))), (9, some (.plain (bidsC [(bA b a.a), a]))), (10, some (.mixed ((bidC P).map .r)))], false⟩) (c := True) tOk (by kernel_rfl) rfl rfl trivial ?_
        refine pA ?_
        refine zC ?_
        iterate 2 refine pB ?_
        iterate 2 refine pA ?_
        refine ar_ent (ent_reg 84 (.r (.bool true)) (by show AVal.r (.bool _) = _; exact eqB (by simp))) ?_
        iterate 5 refine pA ?_
        refine ar_nil ?_
        refine ag_ret tOk Try.func9 rfl rfl (by simp) ?_
        exact eqB (by simp)
  · skip
    refine ag_reg ?_
    iterate 2 refine pA ?_
    refine pB ?_
    refine ar_qd rfl (qop_objR [2] (w_OpenB (rvT R S) a.a 1 hk) (by rintro _ _ ⟨rfl, rfl⟩; exact ⟨rfl, rfl⟩) rfl rfl (handed_of rfl rfl (by decide) ⟨rfl, rfl, rfl, trivial⟩) rfl rfl) rfl rfl rfl rfl ?_
    iterate 2 refine pA ?_
    refine ar_ent (ent_reg 30 (.r (.bool true)) (by show AVal.r (.bool _) = _; exact eqB (decide_eq_true hk))) ?_
    iterate 5 refine ar_skip rfl rfl rfl ?_
    refine pA ?_
    refine ar_nil ?_
    refine ag_true rfl (by rfl) ?_
    refine zB ?_
    refine pA ?_
    refine pB ?_
    refine ar_pur (w_rAsk a.a) rfl rfl rfl rfl rfl rfl rfl ?_
    iterate 2 refine pA ?_
    refine ar_nil ?_
    refine ag_ret tOk Try.func9 rfl rfl (by simp) ?_
    exact eqB (decide_eq_true hk)
end Go.Proofs.Ytnodpljgcdkbkaa


/-
  WALKS: which bids may be; asks come back. (Printed by gen.py out of w_bchk.py.)
-/
import Derived.Test.YtccdhgmkjakjkaaGreatAsk
namespace Go.Proofs.YtccdhgmkjakjkaaGreat
open Go
set_option maxRecDepth 20000
set_option linter.unusedVariables false
set_option linter.unusedSimpArgs false
structure BidV where
 r : Int
 a : AskV
 x0 : Int
 x1 : Int
 x2 : Int
 x3 : Int
 e : Int
 sig : List UInt8
def bidC (b : BidV) : List RVal := [.int .i64 b.r, .int .i64 b.a.u, .int .i64 b.a.s, .int .i64 b.a.c, .int .i64 b.a.t, .int .u64 b.a.m0, .int .u64 b.a.m1, .int .u64 b.a.m2, .int .u64 b.a.m3, .str b.a.id, .int .u64 b.x0, .int .u64 b.x1, .int .u64 b.x2, .int .u64 b.x3, .int .i64 b.e, .str b.sig]
def bidA (b : BidV) : AVal := .agg ((bidC b).map .r)
def bid0 : BidV := ⟨0, ask0, 0, 0, 0, 0, 0, []⟩
structure BidV.ok (b : BidV) : Prop where
 a : b.a.ok
 h0 : U64 b.x0
 h1 : U64 b.x1
 h2 : U64 b.x2
 h3 : U64 b.x3
 sig : b.sig.length ≤ 140737488351232
def amB (b : BidV) : Prop := b.x0 = 0 ∧ b.x1 = 0 ∧ b.x2 = 0 ∧ b.x3 = 0
instance (b : BidV) : Decidable (amB b) := by unfold amB; infer_instance
def cB (b : BidV) : Int := cmpW b.x0 b.x1 b.x2 b.x3 b.a.m0 b.a.m1 b.a.m2 b.a.m3
def bidBad (b : BidV) : Prop := askBad b.a ∨ amB b ∨ cB b > 0 ∨ b.e < 0 ∨ b.e > 1099511627776 ∨ b.sig.length > 1024
instance (b : BidV) : Decidable (bidBad b) := by unfold bidBad; infer_instance
def bidE (b : BidV) : Int := if bidBad b then 39 else invE (stI b.a b.r)
theorem bid_1 {b : BidV} (h : askBad b.a) : bidE b = 39 := by rw [bidE, if_pos (.inl h)]
theorem bid_2 {b : BidV} (h : amB b) : bidE b = 39 := by rw [bidE, if_pos (.inr (.inl h))]
theorem bid_3 {b : BidV} (h : cB b > 0) : bidE b = 39 := by rw [bidE, if_pos (.inr (.inr (.inl h)))]
theorem bid_4 {b : BidV} (h : b.e < 0 ∨ b.e > 1099511627776 ∨ b.sig.length > 1024) : bidE b = 39 := by rw [bidE, if_pos (.inr (.inr (.inr h)))]
theorem bid_5 {b : BidV} (h1 : ¬ askBad b.a) (h2 : ¬ amB b) (h3 : ¬ cB b > 0) (h4 : ¬ (b.e < 0 ∨ b.e > 1099511627776 ∨ b.sig.length > 1024)) : bidE b = invE (stI b.a b.r) := by
 rw [bidE, if_neg (by rintro (q | q | q | q); exact h1 q; exact h2 q; exact h3 q; exact h4 q)]
theorem w_bCheck (b : BidV) : Pur Tryz.prog 49 [bidA b] (.r (.int .i64 (bidE b))) := by
 refine spec_of_go (N := 46) Tryz.func49 rfl (by decide) rfl rfl ?_
 refine zB ?_
 refine pM ?_
 refine pG ?_
 refine pA ?_
 refine pB ?_
 refine pC ?_ ?_
 ·simp
 iterate 2 refine pA ?_
 refine ar_guard (t := decide (b.x0 = 0) && (decide (b.x1 = 0) && (decide (b.x2 = 0) && decide (b.x3 = 0)))) (fun ht => ?_) (fun ht => ?_)
 ·refine ar_ent (ent_reg 8 (.r (.bool true)) (by show AVal.r (.bool _) = _; exact eqB ht)) ?_
  have hz : amB b := by unfold amB; simpa using ht
  repeat (first | refine ar_skip rfl rfl rfl ?_ | refine ar_pure tOk rfl rfl rfl trivial ?_)
  refine zA ?_
  refine zB ?_
  refine pA ?_
  refine pB ?_
  refine ar_pur (w_bAsk b.a) rfl rfl rfl rfl rfl rfl rfl ?_
  iterate 2 refine pA ?_
  refine ar_guard (t := decide (askE b.a ≠ 0)) (fun ht => ?_) (fun ht => ?_)
  ·refine ar_ent (ent_reg 21 (.r (.bool true)) (by show AVal.r (.bool _) = _; exact eqB ht)) ?_
   have hk := askE_ne (of_decide_eq_true ht)
   repeat (first | refine ar_skip rfl rfl rfl ?_ | refine ar_pure tOk rfl rfl rfl trivial ?_)
   refine ar_nil ?_
   refine vB ?_
   refine zB ?_
   refine pE ?_
   refine ag_ret tOk Tryz.func49 rfl rfl (by simp) ?_
   exact eqI (bid_1 hk).symm
  ·refine ar_ent (ent_reg 21 (.r (.bool false)) (by show AVal.r (.bool _) = _; exact eqB ht)) ?_
   have hk0 := askE_z (of_decide_eq_false ht)
   iterate 3 refine pA ?_
   repeat (first | refine ar_skip rfl rfl rfl ?_ | refine ar_pure tOk rfl rfl rfl trivial ?_)
   refine ar_nil ?_
   refine vB ?_
   refine zB ?_
   refine pE ?_
   refine ag_ret tOk Tryz.func49 rfl rfl (by simp) ?_
   exact eqI (bid_2 hz).symm
 ·refine ar_ent (ent_reg 8 (.r (.bool false)) (by show AVal.r (.bool _) = _; exact eqB ht)) ?_
  have hz0 : ¬ amB b := by unfold amB; simpa using ht
  refine pA ?_
  refine pB ?_
  iterate 2 refine pA ?_
  refine pB ?_
  refine ar_pur (w_Cmp _ _ _ _ _ _ _ _) rfl rfl rfl rfl rfl rfl rfl ?_
  iterate 2 refine pA ?_
  refine pE ?_
  refine ag_ent (ent_reg 3 (.r (.bool (decide (cB b > 0)))) (by show AVal.r (.bool _) = _; exact eqB (by rfl))) ?_
  refine sZ ?_
  refine pA ?_
  refine pB ?_
  refine ar_pur (w_bAsk b.a) rfl rfl rfl rfl rfl rfl rfl ?_
  iterate 2 refine pA ?_
  refine ar_guard (t := decide (askE b.a ≠ 0)) (fun ht => ?_) (fun ht => ?_)
  ·refine ar_ent (ent_reg 21 (.r (.bool true)) (by show AVal.r (.bool _) = _; exact eqB ht)) ?_
   have hk := askE_ne (of_decide_eq_true ht)
   repeat (first | refine ar_skip rfl rfl rfl ?_ | refine ar_pure tOk rfl rfl rfl trivial ?_)
   refine ar_nil ?_
   refine vB ?_
   refine zB ?_
   refine pE ?_
   refine ag_ret tOk Tryz.func49 rfl rfl (by simp) ?_
   exact eqI (bid_1 hk).symm
  ·refine ar_ent (ent_reg 21 (.r (.bool false)) (by show AVal.r (.bool _) = _; exact eqB ht)) ?_
   have hk0 := askE_z (of_decide_eq_false ht)
   iterate 3 refine pA ?_
   refine ar_guard (t := decide (cB b > 0)) (fun ht => ?_) (fun ht => ?_)
   ·refine ar_ent (ent_reg 24 (.r (.bool true)) (by show AVal.r (.bool _) = _; exact eqB ht)) ?_
    have hk := of_decide_eq_true ht
    repeat (first | refine ar_skip rfl rfl rfl ?_ | refine ar_pure tOk rfl rfl rfl trivial ?_)
    refine ar_nil ?_
    refine vB ?_
    refine zB ?_
    refine pE ?_
    refine ag_ret tOk Tryz.func49 rfl rfl (by simp) ?_
    exact eqI (bid_3 hk).symm
   ·refine ar_ent (ent_reg 24 (.r (.bool false)) (by show AVal.r (.bool _) = _; exact eqB ht)) ?_
    have hk1 := of_decide_eq_false ht
    refine pA ?_
    refine pB ?_
    iterate 3 refine pA ?_
    refine ar_guard (t := decide (b.e < 0)) (fun ht => ?_) (fun ht => ?_)
    ·refine ar_ent (ent_reg 29 (.r (.bool true)) (by show AVal.r (.bool _) = _; exact eqB ht)) ?_
     have hk := of_decide_eq_true ht
     repeat (first | refine ar_skip rfl rfl rfl ?_ | refine ar_pure tOk rfl rfl rfl trivial ?_)
     refine ar_nil ?_
     refine vB ?_
     refine zB ?_
     refine pE ?_
     refine ag_ret tOk Tryz.func49 rfl rfl (by simp) ?_
     exact eqI (bid_4 (by omega)).symm
    ·refine ar_ent (ent_reg 29 (.r (.bool false)) (by show AVal.r (.bool _) = _; exact eqB ht)) ?_
     have hk2 := of_decide_eq_false ht
     refine pA ?_
     refine pB ?_
     iterate 3 refine pA ?_
     refine ar_guard (t := decide (b.e > 1099511627776)) (fun ht => ?_) (fun ht => ?_)
     ·refine ar_ent (ent_reg 34 (.r (.bool true)) (by show AVal.r (.bool _) = _; exact eqB ht)) ?_
      have hk := of_decide_eq_true ht
      repeat (first | refine ar_skip rfl rfl rfl ?_ | refine ar_pure tOk rfl rfl rfl trivial ?_)
      refine ar_nil ?_
      refine vB ?_
      refine zB ?_
      refine pE ?_
      refine ag_ret tOk Tryz.func49 rfl rfl (by simp) ?_
      exact eqI (bid_4 (by omega)).symm
     ·refine ar_ent (ent_reg 34 (.r (.bool false)) (by show AVal.r (.bool _) = _; exact eqB ht)) ?_
      have hk3 := of_decide_eq_false ht
      refine pA ?_
      refine pB ?_
      iterate 2 refine pA ?_
      refine pE ?_
      refine ag_if rfl ?_ ?_
      ·intro h39
       refine zB ?_
       refine pE ?_
       refine ag_ret tOk Tryz.func49 rfl rfl (by simp) ?_
       exact eqI (bid_4 (by omega)).symm
      ·intro h39
       refine ag_skip ?_
       refine zB ?_
       refine pA ?_
       refine pB ?_
       refine pA ?_
       refine pB ?_
       refine ar_pur (w_bStand b.a b.r) rfl rfl rfl rfl rfl rfl rfl ?_
       refine ar_pur (w_Check (stI b.a b.r)) rfl rfl rfl rfl rfl rfl rfl ?_
       refine pE ?_
       refine ag_ret tOk Tryz.func49 rfl rfl (by simp) ?_
       exact eqI (bid_5 hk0 hz0 hk1 (by omega)).symm
end Go.Proofs.YtccdhgmkjakjkaaGreat

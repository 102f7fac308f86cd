/-
  WALKS: which messages may be. (Printed by gen.py out of w_mail.py.)
-/
import Derived.Test.YtccdhgmkjakjkaaGreatBChk
import Derived.Test.YtccdhgmkjakjkaaGreatRCmp
namespace Go.Proofs.YtccdhgmkjakjkaaGreat
open Go
set_option maxRecDepth 20000
set_option linter.unusedVariables false
set_option linter.unusedSimpArgs false
theorem bid_6 {b : BidV} (h : invE (stI b.a b.r) ≠ 0) : bidE b = 39 := by
 unfold bidE
 split
 ·rfl
 ·rw [invE, if_pos (invE_n8 h)]
theorem bid_7 {b : BidV} (h1 : ¬ askBad b.a) (h2 : ¬ amB b) (h3 : ¬ cB b > 0) (h4 : ¬ (b.e < 0 ∨ b.e > 1099511627776 ∨ b.sig.length > 1024)) (h5 : ¬ invE (stI b.a b.r) ≠ 0) : bidE b = 0 := by
 rw [bid_5 h1 h2 h3 h4]; omega
theorem w_rBid (b : BidV) (hb : b.ok) : Pur Tryz.prog 24 [bidA b] (.r (.int .i64 (bidE b))) := by
 have cI := w_rInv (stR b.a b.r)
 rw [stR_E] at cI
 refine spec_of_go (N := 47) Tryz.func24 rfl (by decide) rfl rfl ?_
 refine zB ?_
 refine pM ?_
 refine pF ?_
 refine zB ?_
 refine pA ?_
 refine pB ?_
 refine ar_pur (w_rAsk b.a) rfl rfl rfl rfl rfl rfl rfl ?_
 iterate 2 refine pA ?_
 refine ar_guard (t := decide (askE b.a ≠ 0)) (fun ht => ?_) (fun ht => ?_)
 ·refine ar_ent (ent_reg 7 (.r (.bool true)) (by show AVal.r (.bool _) = _; exact eqB ht)) ?_
  have hk := askE_ne (of_decide_eq_true ht)
  repeat (first | refine ar_skip rfl rfl rfl ?_ | refine ar_pure tOk rfl rfl rfl trivial ?_)
  refine ar_nil ?_
  refine vB ?_
  refine zB ?_
  refine pE ?_
  refine ag_ret tOk Tryz.func24 rfl rfl (by simp) ?_
  exact eqI (bid_1 hk).symm
 ·refine ar_ent (ent_reg 7 (.r (.bool false)) (by show AVal.r (.bool _) = _; exact eqB ht)) ?_
  have hk0 := askE_z (of_decide_eq_false ht)
  refine pA ?_
  refine pB ?_
  refine pA ?_
  refine pB ?_
  refine ar_pur (w_rStand b.a b.r) rfl rfl rfl rfl rfl rfl rfl ?_
  refine ar_pur (cI) rfl rfl rfl rfl rfl rfl rfl ?_
  iterate 3 refine pA ?_
  refine ar_guard (t := decide (invE (stI b.a b.r) ≠ 0)) (fun ht => ?_) (fun ht => ?_)
  ·refine ar_ent (ent_reg 16 (.r (.bool true)) (by show AVal.r (.bool _) = _; exact eqB ht)) ?_
   have hk := of_decide_eq_true ht
   repeat (first | refine ar_skip rfl rfl rfl ?_ | refine ar_pure tOk rfl rfl rfl trivial ?_)
   refine ar_nil ?_
   refine vB ?_
   refine zB ?_
   refine pE ?_
   refine ag_ret tOk Tryz.func24 rfl rfl (by simp) ?_
   exact eqI (bid_6 hk).symm
  ·refine ar_ent (ent_reg 16 (.r (.bool false)) (by show AVal.r (.bool _) = _; exact eqB ht)) ?_
   have hk1 := of_decide_eq_false ht
   refine pA ?_
   refine pB ?_
   refine pC ?_ ?_
   ·simp
   iterate 3 refine pA ?_
   refine ar_guard (t := decide (b.x0 = 0) && (decide (b.x1 = 0) && (decide (b.x2 = 0) && decide (b.x3 = 0)))) (fun ht => ?_) (fun ht => ?_)
   ·refine ar_ent (ent_reg 22 (.r (.bool true)) (by show AVal.r (.bool _) = _; exact eqB ht)) ?_
    have hk : amB b := by unfold amB; simpa using ht
    repeat (first | refine ar_skip rfl rfl rfl ?_ | refine ar_pure tOk rfl rfl rfl trivial ?_)
    refine ar_nil ?_
    refine vB ?_
    refine zB ?_
    refine pE ?_
    refine ag_ret tOk Tryz.func24 rfl rfl (by simp) ?_
    exact eqI (bid_2 hk).symm
   ·refine ar_ent (ent_reg 22 (.r (.bool false)) (by show AVal.r (.bool _) = _; exact eqB ht)) ?_
    have hk2 : ¬ amB b := by unfold amB; simpa using ht
    refine pA ?_
    refine pB ?_
    iterate 2 refine pA ?_
    refine pB ?_
    refine ar_pur (w_rCmp _ _ _ _ _ _ _ _ hb.h0 hb.h1 hb.h2 hb.h3 hb.a.m0 hb.a.m1 hb.a.m2 hb.a.m3) rfl rfl rfl rfl rfl rfl rfl ?_
    iterate 3 refine pA ?_
    refine ar_guard (t := decide (cB b > 0)) (fun ht => ?_) (fun ht => ?_)
    ·refine ar_ent (ent_reg 31 (.r (.bool true)) (by show AVal.r (.bool _) = _; exact eqB ht)) ?_
     have hk := of_decide_eq_true ht
     repeat (first | refine ar_skip rfl rfl rfl ?_ | refine ar_pure tOk rfl rfl rfl trivial ?_)
     refine ar_nil ?_
     refine vB ?_
     refine zB ?_
     refine pE ?_
     refine ag_ret tOk Tryz.func24 rfl rfl (by simp) ?_
     exact eqI (bid_3 hk).symm
    ·refine ar_ent (ent_reg 31 (.r (.bool false)) (by show AVal.r (.bool _) = _; exact eqB ht)) ?_
     have hk3 := of_decide_eq_false ht
     refine pA ?_
     refine pB ?_
     iterate 3 refine pA ?_
     refine ar_guard (t := decide (b.e < 0)) (fun ht => ?_) (fun ht => ?_)
     ·refine ar_ent (ent_reg 36 (.r (.bool true)) (by show AVal.r (.bool _) = _; exact eqB ht)) ?_
      have hk := of_decide_eq_true ht
      repeat (first | refine ar_skip rfl rfl rfl ?_ | refine ar_pure tOk rfl rfl rfl trivial ?_)
      refine ar_nil ?_
      refine vB ?_
      refine zB ?_
      refine pE ?_
      refine ag_ret tOk Tryz.func24 rfl rfl (by simp) ?_
      exact eqI (bid_4 (by omega)).symm
     ·refine ar_ent (ent_reg 36 (.r (.bool false)) (by show AVal.r (.bool _) = _; exact eqB ht)) ?_
      have hk4 := of_decide_eq_false ht
      refine pA ?_
      refine pB ?_
      iterate 3 refine pA ?_
      refine ar_guard (t := decide (b.e > 1099511627776)) (fun ht => ?_) (fun ht => ?_)
      ·refine ar_ent (ent_reg 41 (.r (.bool true)) (by show AVal.r (.bool _) = _; exact eqB ht)) ?_
       have hk := of_decide_eq_true ht
       repeat (first | refine ar_skip rfl rfl rfl ?_ | refine ar_pure tOk rfl rfl rfl trivial ?_)
       refine ar_nil ?_
       refine vB ?_
       refine zB ?_
       refine pE ?_
       refine ag_ret tOk Tryz.func24 rfl rfl (by simp) ?_
       exact eqI (bid_4 (by omega)).symm
      ·refine ar_ent (ent_reg 41 (.r (.bool false)) (by show AVal.r (.bool _) = _; exact eqB ht)) ?_
       have hk5 := of_decide_eq_false ht
       refine pA ?_
       refine pB ?_
       iterate 2 refine pA ?_
       refine pE ?_
       refine ag_if rfl ?_ ?_
       ·intro h46
        refine zB ?_
        refine pE ?_
        refine ag_ret tOk Tryz.func24 rfl rfl (by simp) ?_
        exact eqI (bid_4 (by omega)).symm
       ·intro h46
        refine ag_skip ?_
        refine zB ?_
        refine pE ?_
        refine ag_ret tOk Tryz.func24 rfl rfl (by simp) ?_
        exact eqI (bid_7 hk0 hk2 hk3 (by omega) hk1).symm
structure MsgV where
 k : Int
 a : AskV
 b : BidV
 i : InvV
 v : VarV
 g0 : Int
 g1 : Int
 g2 : Int
 g3 : Int
 sig : List UInt8
structure MsgV.ok (m : MsgV) : Prop where
 a : m.a.ok
 b : m.b.ok
 i : m.i.ok
 v : m.v.ok
 g0 : U64 m.g0
 g1 : U64 m.g1
 g2 : U64 m.g2
 g3 : U64 m.g3
 sig : m.sig.length ≤ 140737488351232
end Go.Proofs.YtccdhgmkjakjkaaGreat

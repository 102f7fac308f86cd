/-
  WALKS: transfers (deal.in, Check, Sound, Put, PutVar, and the reference's). (Printed by gen.py out of w_deal.py.)
-/
import Derived.Test.YtccdhgmkjakjkaaGreatFObj
namespace Go.Proofs.YtccdhgmkjakjkaaGreat
open Go
set_option maxRecDepth 20000
set_option linter.unusedVariables false
set_option linter.unusedSimpArgs false
structure InvV where
 u : Int
 root : List UInt8
 r : Int
 s : Int
 c : Int
 t : Int
 id : List UInt8
structure VarV where
 x0 : Int
 x1 : Int
 x2 : Int
 x3 : Int
 e : Int
def invC (v : InvV) : List RVal := [.int .i64 v.u, .str v.root, .int .i64 v.r, .int .i64 v.s, .int .i64 v.c, .int .i64 v.t, .str v.id]
def invA (v : InvV) : AVal := .agg ((invC v).map .r)
def invBad (v : InvV) : Prop := v.u < 0 ∨ v.u > 1 ∨ v.r < 2 ∨ v.r > 3 ∨ v.s < 0 ∨ v.s > 1 ∨ v.c < 0 ∨ v.c > 1 ∨ v.t < 0 ∨ v.t > 7 ∨ v.root.length ≠ 8 ∨ v.id.length < 1 ∨ v.id.length > 16
instance (v : InvV) : Decidable (invBad v) := by unfold invBad; infer_instance
def invE (v : InvV) : Int := if invBad v then 39 else 0
structure InvV.ok (v : InvV) : Prop where
 root : v.root.length ≤ 140737488351232
 id : v.id.length ≤ 140737488351232
structure VarV.ok (v : VarV) : Prop where
 h0 : U64 v.x0
 h1 : U64 v.x1
 h2 : U64 v.x2
 h3 : U64 v.x3
theorem w_inD (n a b : Int) : Pur Tryz.prog 56 [.r (.int .i64 n), .r (.int .i64 a), .r (.int .i64 b)] (.r (.bool (decide (a ≤ n ∧ n ≤ b)))) := by
 refine spec_of_go (N := 15) Tryz.func56 rfl (by decide) rfl rfl ?_
 refine zB ?_
 refine pG ?_
 iterate 4 refine pA ?_
 refine ar_guard (t := decide (n ≥ a)) (fun ht => ?_) (fun ht => ?_)
 ·refine ar_ent (ent_reg 10 (.r (.bool true)) (by show AVal.r (.bool _) = _; rw [ht])) ?_
  have h1 := of_decide_eq_true ht
  iterate 4 refine pA ?_
  refine pE ?_
  refine ag_ret tOk Tryz.func56 rfl rfl (by simp) ?_
  exact eqB (by simp; omega)
 ·refine ar_ent (ent_reg 10 (.r (.bool false)) (by show AVal.r (.bool _) = _; rw [ht])) ?_
  have h1 := of_decide_eq_false ht
  iterate 3 refine ar_skip rfl rfl rfl ?_
  refine pA ?_
  refine pE ?_
  refine ag_ret tOk Tryz.func56 rfl rfl (by simp) ?_
  exact eqB (by simp; omega)
theorem w_rInv (v : InvV) : Pur Tryz.prog 22 [invA v] (.r (.int .i64 (invE v))) := by
 refine spec_of_go (N := 69) Tryz.func22 rfl (by decide) rfl rfl ?_
 refine zB ?_
 refine pM ?_
 refine pF ?_
 refine zB ?_
 refine pA ?_
 refine pB ?_
 iterate 2 refine pA ?_
 refine ar_guard (t := decide (v.u < 0)) (fun ht => ?_) (fun ht => ?_)
 ·refine ar_ent (ent_reg 6 (.r (.bool true)) (by show AVal.r (.bool _) = _; exact eqB ht)) ?_
  have hk := of_decide_eq_true ht
  repeat (first | refine ar_skip rfl rfl rfl ?_ | refine ar_pure tOk rfl rfl rfl trivial ?_)
  refine ar_nil ?_
  refine vB ?_
  refine zB ?_
  refine pE ?_
  refine ag_ret tOk Tryz.func22 rfl rfl (by simp) ?_
  exact eqI (by rw [invE, if_pos (by unfold invBad; omega)])
 ·refine ar_ent (ent_reg 6 (.r (.bool false)) (by show AVal.r (.bool _) = _; exact eqB ht)) ?_
  have hk0 := of_decide_eq_false ht
  refine pA ?_
  refine pB ?_
  iterate 3 refine pA ?_
  refine ar_guard (t := decide (v.u > 1)) (fun ht => ?_) (fun ht => ?_)
  ·refine ar_ent (ent_reg 11 (.r (.bool true)) (by show AVal.r (.bool _) = _; exact eqB ht)) ?_
   have hk := of_decide_eq_true ht
   repeat (first | refine ar_skip rfl rfl rfl ?_ | refine ar_pure tOk rfl rfl rfl trivial ?_)
   refine ar_nil ?_
   refine vB ?_
   refine zB ?_
   refine pE ?_
   refine ag_ret tOk Tryz.func22 rfl rfl (by simp) ?_
   exact eqI (by rw [invE, if_pos (by unfold invBad; omega)])
  ·refine ar_ent (ent_reg 11 (.r (.bool false)) (by show AVal.r (.bool _) = _; exact eqB ht)) ?_
   have hk1 := of_decide_eq_false ht
   refine pA ?_
   refine pB ?_
   iterate 3 refine pA ?_
   refine ar_guard (t := decide (v.r < 2)) (fun ht => ?_) (fun ht => ?_)
   ·refine ar_ent (ent_reg 16 (.r (.bool true)) (by show AVal.r (.bool _) = _; exact eqB ht)) ?_
    have hk := of_decide_eq_true ht
    repeat (first | refine ar_skip rfl rfl rfl ?_ | refine ar_pure tOk rfl rfl rfl trivial ?_)
    refine ar_nil ?_
    refine vB ?_
    refine zB ?_
    refine pE ?_
    refine ag_ret tOk Tryz.func22 rfl rfl (by simp) ?_
    exact eqI (by rw [invE, if_pos (by unfold invBad; omega)])
   ·refine ar_ent (ent_reg 16 (.r (.bool false)) (by show AVal.r (.bool _) = _; exact eqB ht)) ?_
    have hk2 := of_decide_eq_false ht
    refine pA ?_
    refine pB ?_
    iterate 3 refine pA ?_
    refine ar_guard (t := decide (v.r > 3)) (fun ht => ?_) (fun ht => ?_)
    ·refine ar_ent (ent_reg 21 (.r (.bool true)) (by show AVal.r (.bool _) = _; exact eqB ht)) ?_
     have hk := of_decide_eq_true ht
     repeat (first | refine ar_skip rfl rfl rfl ?_ | refine ar_pure tOk rfl rfl rfl trivial ?_)
     refine ar_nil ?_
     refine vB ?_
     refine zB ?_
     refine pE ?_
     refine ag_ret tOk Tryz.func22 rfl rfl (by simp) ?_
     exact eqI (by rw [invE, if_pos (by unfold invBad; omega)])
    ·refine ar_ent (ent_reg 21 (.r (.bool false)) (by show AVal.r (.bool _) = _; exact eqB ht)) ?_
     have hk3 := of_decide_eq_false ht
     refine pA ?_
     refine pB ?_
     iterate 3 refine pA ?_
     refine ar_guard (t := decide (v.s < 0)) (fun ht => ?_) (fun ht => ?_)
     ·refine ar_ent (ent_reg 26 (.r (.bool true)) (by show AVal.r (.bool _) = _; exact eqB ht)) ?_
      have hk := of_decide_eq_true ht
      repeat (first | refine ar_skip rfl rfl rfl ?_ | refine ar_pure tOk rfl rfl rfl trivial ?_)
      refine ar_nil ?_
      refine vB ?_
      refine zB ?_
      refine pE ?_
      refine ag_ret tOk Tryz.func22 rfl rfl (by simp) ?_
      exact eqI (by rw [invE, if_pos (by unfold invBad; omega)])
     ·refine ar_ent (ent_reg 26 (.r (.bool false)) (by show AVal.r (.bool _) = _; exact eqB ht)) ?_
      have hk4 := of_decide_eq_false ht
      refine pA ?_
      refine pB ?_
      iterate 3 refine pA ?_
      refine ar_guard (t := decide (v.s > 1)) (fun ht => ?_) (fun ht => ?_)
      ·refine ar_ent (ent_reg 31 (.r (.bool true)) (by show AVal.r (.bool _) = _; exact eqB ht)) ?_
       have hk := of_decide_eq_true ht
       repeat (first | refine ar_skip rfl rfl rfl ?_ | refine ar_pure tOk rfl rfl rfl trivial ?_)
       refine ar_nil ?_
       refine vB ?_
       refine zB ?_
       refine pE ?_
       refine ag_ret tOk Tryz.func22 rfl rfl (by simp) ?_
       exact eqI (by rw [invE, if_pos (by unfold invBad; omega)])
      ·refine ar_ent (ent_reg 31 (.r (.bool false)) (by show AVal.r (.bool _) = _; exact eqB ht)) ?_
       have hk5 := of_decide_eq_false ht
       refine pA ?_
       refine pB ?_
       iterate 3 refine pA ?_
       refine ar_guard (t := decide (v.c < 0)) (fun ht => ?_) (fun ht => ?_)
       ·refine ar_ent (ent_reg 36 (.r (.bool true)) (by show AVal.r (.bool _) = _; exact eqB ht)) ?_
        have hk := of_decide_eq_true ht
        repeat (first | refine ar_skip rfl rfl rfl ?_ | refine ar_pure tOk rfl rfl rfl trivial ?_)
        refine ar_nil ?_
        refine vB ?_
        refine zB ?_
        refine pE ?_
        refine ag_ret tOk Tryz.func22 rfl rfl (by simp) ?_
        exact eqI (by rw [invE, if_pos (by unfold invBad; omega)])
       ·refine ar_ent (ent_reg 36 (.r (.bool false)) (by show AVal.r (.bool _) = _; exact eqB ht)) ?_
        have hk6 := of_decide_eq_false ht
        refine pA ?_
        refine pB ?_
        iterate 3 refine pA ?_
        refine ar_guard (t := decide (v.c > 1)) (fun ht => ?_) (fun ht => ?_)
        ·refine ar_ent (ent_reg 41 (.r (.bool true)) (by show AVal.r (.bool _) = _; exact eqB ht)) ?_
         have hk := of_decide_eq_true ht
         repeat (first | refine ar_skip rfl rfl rfl ?_ | refine ar_pure tOk rfl rfl rfl trivial ?_)
         refine ar_nil ?_
         refine vB ?_
         refine zB ?_
         refine pE ?_
         refine ag_ret tOk Tryz.func22 rfl rfl (by simp) ?_
         exact eqI (by rw [invE, if_pos (by unfold invBad; omega)])
        ·refine ar_ent (ent_reg 41 (.r (.bool false)) (by show AVal.r (.bool _) = _; exact eqB ht)) ?_
         have hk7 := of_decide_eq_false ht
         refine pA ?_
         refine pB ?_
         iterate 3 refine pA ?_
         refine ar_guard (t := decide (v.t < 0)) (fun ht => ?_) (fun ht => ?_)
         ·refine ar_ent (ent_reg 46 (.r (.bool true)) (by show AVal.r (.bool _) = _; exact eqB ht)) ?_
          have hk := of_decide_eq_true ht
          repeat (first | refine ar_skip rfl rfl rfl ?_ | refine ar_pure tOk rfl rfl rfl trivial ?_)
          refine ar_nil ?_
          refine vB ?_
          refine zB ?_
          refine pE ?_
          refine ag_ret tOk Tryz.func22 rfl rfl (by simp) ?_
          exact eqI (by rw [invE, if_pos (by unfold invBad; omega)])
         ·refine ar_ent (ent_reg 46 (.r (.bool false)) (by show AVal.r (.bool _) = _; exact eqB ht)) ?_
          have hk8 := of_decide_eq_false ht
          refine pA ?_
          refine pB ?_
          iterate 3 refine pA ?_
          refine ar_guard (t := decide (v.t > 7)) (fun ht => ?_) (fun ht => ?_)
          ·refine ar_ent (ent_reg 51 (.r (.bool true)) (by show AVal.r (.bool _) = _; exact eqB ht)) ?_
           have hk := of_decide_eq_true ht
           repeat (first | refine ar_skip rfl rfl rfl ?_ | refine ar_pure tOk rfl rfl rfl trivial ?_)
           refine ar_nil ?_
           refine vB ?_
           refine zB ?_
           refine pE ?_
           refine ag_ret tOk Tryz.func22 rfl rfl (by simp) ?_
           exact eqI (by rw [invE, if_pos (by unfold invBad; omega)])
          ·refine ar_ent (ent_reg 51 (.r (.bool false)) (by show AVal.r (.bool _) = _; exact eqB ht)) ?_
           have hk9 := of_decide_eq_false ht
           refine pA ?_
           refine pB ?_
           iterate 4 refine pA ?_
           refine ar_guard (t := decide ((v.root.length : Int) ≠ 8)) (fun ht => ?_) (fun ht => ?_)
           ·refine ar_ent (ent_reg 57 (.r (.bool true)) (by show AVal.r (.bool _) = _; exact eqB ht)) ?_
            have hk := of_decide_eq_true ht
            repeat (first | refine ar_skip rfl rfl rfl ?_ | refine ar_pure tOk rfl rfl rfl trivial ?_)
            refine ar_nil ?_
            refine vB ?_
            refine zB ?_
            refine pE ?_
            refine ag_ret tOk Tryz.func22 rfl rfl (by simp) ?_
            exact eqI (by rw [invE, if_pos (by unfold invBad; omega)])
           ·refine ar_ent (ent_reg 57 (.r (.bool false)) (by show AVal.r (.bool _) = _; exact eqB ht)) ?_
            have hk10 := of_decide_eq_false ht
            refine pA ?_
            refine pB ?_
            iterate 4 refine pA ?_
            refine ar_guard (t := decide ((v.id.length : Int) < 1)) (fun ht => ?_) (fun ht => ?_)
            ·refine ar_ent (ent_reg 63 (.r (.bool true)) (by show AVal.r (.bool _) = _; exact eqB ht)) ?_
             have hk := of_decide_eq_true ht
             repeat (first | refine ar_skip rfl rfl rfl ?_ | refine ar_pure tOk rfl rfl rfl trivial ?_)
             refine ar_nil ?_
             refine vB ?_
             refine zB ?_
             refine pE ?_
             refine ag_ret tOk Tryz.func22 rfl rfl (by simp) ?_
             exact eqI (by rw [invE, if_pos (by unfold invBad; omega)])
            ·refine ar_ent (ent_reg 63 (.r (.bool false)) (by show AVal.r (.bool _) = _; exact eqB ht)) ?_
             have hk11 := of_decide_eq_false ht
             refine pA ?_
             refine pB ?_
             iterate 2 refine pA ?_
             refine pE ?_
             refine ag_if rfl ?_ ?_
             ·intro h68
              refine zB ?_
              refine pE ?_
              refine ag_ret tOk Tryz.func22 rfl rfl (by simp) ?_
              exact eqI (by rw [invE, if_pos (by unfold invBad; omega)])
             ·intro h68
              refine ag_skip ?_
              refine zB ?_
              refine pE ?_
              refine ag_ret tOk Tryz.func22 rfl rfl (by simp) ?_
              exact eqI (by rw [invE, if_neg (by unfold invBad; omega)])
theorem w_Check (v : InvV) : Pur Tryz.prog 37 [invA v] (.r (.int .i64 (invE v))) := by
 refine spec_of_go (N := 43) Tryz.func37 rfl (by decide) rfl rfl ?_
 refine zB ?_
 refine pM ?_
 refine pG ?_
 refine pA ?_
 refine pB ?_
 refine ar_pur (w_inD _ _ _) rfl rfl rfl rfl rfl rfl rfl ?_
 refine pA ?_
 refine ar_guard (t := decide (0 ≤ v.u ∧ v.u ≤ 1)) (fun ht => ?_) (fun ht => ?_)
 ·refine ar_ent (ent_reg 7 (.r (.bool true)) (by show AVal.r (.bool _) = _; exact eqB ht)) ?_
  have hk0 := of_decide_eq_true ht
  refine pA ?_
  refine pB ?_
  refine ar_pur (w_inD _ _ _) rfl rfl rfl rfl rfl rfl rfl ?_
  iterate 2 refine pA ?_
  refine ar_guard (t := decide (2 ≤ v.r ∧ v.r ≤ 3)) (fun ht => ?_) (fun ht => ?_)
  ·refine ar_ent (ent_reg 12 (.r (.bool true)) (by show AVal.r (.bool _) = _; exact eqB ht)) ?_
   have hk1 := of_decide_eq_true ht
   refine pA ?_
   refine pB ?_
   refine ar_pur (w_inD _ _ _) rfl rfl rfl rfl rfl rfl rfl ?_
   iterate 2 refine pA ?_
   refine ar_guard (t := decide (0 ≤ v.s ∧ v.s ≤ 1)) (fun ht => ?_) (fun ht => ?_)
   ·refine ar_ent (ent_reg 17 (.r (.bool true)) (by show AVal.r (.bool _) = _; exact eqB ht)) ?_
    have hk2 := of_decide_eq_true ht
    refine pA ?_
    refine pB ?_
    refine ar_pur (w_inD _ _ _) rfl rfl rfl rfl rfl rfl rfl ?_
    refine pA ?_
    refine pF ?_
    refine zB ?_
    iterate 3 refine pA ?_
    refine ar_guard (t := !decide (0 ≤ v.c ∧ v.c ≤ 1)) (fun ht => ?_) (fun ht => ?_)
    ·refine ar_ent (ent_reg 24 (.r (.bool true)) (by show AVal.r (.bool _) = _; exact eqB ht)) ?_
     have hk : ¬ (0 ≤ v.c ∧ v.c ≤ 1) := by simp at ht; omega
     repeat (first | refine ar_skip rfl rfl rfl ?_ | refine ar_pure tOk rfl rfl rfl trivial ?_)
     refine ar_nil ?_
     refine vB ?_
     refine zB ?_
     refine pE ?_
     refine ag_ret tOk Tryz.func37 rfl rfl (by simp) ?_
     exact eqI (by rw [invE, if_pos (by unfold invBad; omega)])
    ·refine ar_ent (ent_reg 24 (.r (.bool false)) (by show AVal.r (.bool _) = _; exact eqB ht)) ?_
     have hj0 : 0 ≤ v.c ∧ v.c ≤ 1 := by simpa using ht
     refine pA ?_
     refine pB ?_
     refine ar_pur (w_inD _ _ _) rfl rfl rfl rfl rfl rfl rfl ?_
     iterate 3 refine pA ?_
     refine ar_guard (t := !decide (0 ≤ v.t ∧ v.t ≤ 7)) (fun ht => ?_) (fun ht => ?_)
     ·refine ar_ent (ent_reg 30 (.r (.bool true)) (by show AVal.r (.bool _) = _; exact eqB ht)) ?_
      have hk : ¬ (0 ≤ v.t ∧ v.t ≤ 7) := by simp at ht; omega
      repeat (first | refine ar_skip rfl rfl rfl ?_ | refine ar_pure tOk rfl rfl rfl trivial ?_)
      refine ar_nil ?_
      refine vB ?_
      refine zB ?_
      refine pE ?_
      refine ag_ret tOk Tryz.func37 rfl rfl (by simp) ?_
      exact eqI (by rw [invE, if_pos (by unfold invBad; omega)])
     ·refine ar_ent (ent_reg 30 (.r (.bool false)) (by show AVal.r (.bool _) = _; exact eqB ht)) ?_
      have hj1 : 0 ≤ v.t ∧ v.t ≤ 7 := by simpa using ht
      refine pA ?_
      refine pB ?_
      iterate 4 refine pA ?_
      refine ar_guard (t := decide ((v.root.length : Int) ≠ 8)) (fun ht => ?_) (fun ht => ?_)
      ·refine ar_ent (ent_reg 36 (.r (.bool true)) (by show AVal.r (.bool _) = _; exact eqB ht)) ?_
       have hk : ¬ ((v.root.length : Int) = 8) := by simp at ht; omega
       repeat (first | refine ar_skip rfl rfl rfl ?_ | refine ar_pure tOk rfl rfl rfl trivial ?_)
       refine ar_nil ?_
       refine vB ?_
       refine zB ?_
       refine pE ?_
       refine ag_ret tOk Tryz.func37 rfl rfl (by simp) ?_
       exact eqI (by rw [invE, if_pos (by unfold invBad; omega)])
      ·refine ar_ent (ent_reg 36 (.r (.bool false)) (by show AVal.r (.bool _) = _; exact eqB ht)) ?_
       have hj2 : (v.root.length : Int) = 8 := by simpa using ht
       refine pA ?_
       refine pB ?_
       refine pA ?_
       refine ar_pur (w_inD _ _ _) rfl rfl rfl rfl rfl rfl rfl ?_
       refine pA ?_
       refine pE ?_
       refine ag_cond rfl ?_ ?_
       ·intro h42
        have hk : ¬ (1 ≤ (v.id.length : Int) ∧ (v.id.length : Int) ≤ 16) := by simp at h42; omega
        refine zB ?_
        refine pE ?_
        refine ag_ret tOk Tryz.func37 rfl rfl (by simp) ?_
        exact eqI (by rw [invE, if_pos (by unfold invBad; omega)])
       ·intro h42
        have hk : 1 ≤ (v.id.length : Int) ∧ (v.id.length : Int) ≤ 16 := by simpa using h42
        refine ag_skip ?_
        refine zB ?_
        refine pE ?_
        refine ag_ret tOk Tryz.func37 rfl rfl (by simp) ?_
        exact eqI (by rw [invE, if_neg (by unfold invBad; omega)])
   ·refine ar_ent (ent_reg 17 (.r (.bool false)) (by show AVal.r (.bool _) = _; exact eqB ht)) ?_
    have hk := of_decide_eq_false ht
    repeat (first | refine ar_skip rfl rfl rfl ?_ | refine ar_pure tOk rfl rfl rfl trivial ?_)
    refine zA ?_
    refine zB ?_
    iterate 3 refine pA ?_
    repeat (first | refine ar_skip rfl rfl rfl ?_ | refine ar_pure tOk rfl rfl rfl trivial ?_)
    refine ar_nil ?_
    refine vB ?_
    refine zB ?_
    refine pE ?_
    refine ag_ret tOk Tryz.func37 rfl rfl (by simp) ?_
    exact eqI (by rw [invE, if_pos (by unfold invBad; omega)])
  ·refine ar_ent (ent_reg 12 (.r (.bool false)) (by show AVal.r (.bool _) = _; exact eqB ht)) ?_
   have hk := of_decide_eq_false ht
   repeat (first | refine ar_skip rfl rfl rfl ?_ | refine ar_pure tOk rfl rfl rfl trivial ?_)
   refine zA ?_
   refine zB ?_
   iterate 3 refine pA ?_
   repeat (first | refine ar_skip rfl rfl rfl ?_ | refine ar_pure tOk rfl rfl rfl trivial ?_)
   refine ar_nil ?_
   refine vB ?_
   refine zB ?_
   refine pE ?_
   refine ag_ret tOk Tryz.func37 rfl rfl (by simp) ?_
   exact eqI (by rw [invE, if_pos (by unfold invBad; omega)])
 ·refine ar_ent (ent_reg 7 (.r (.bool false)) (by show AVal.r (.bool _) = _; exact eqB ht)) ?_
  have hk := of_decide_eq_false ht
  repeat (first | refine ar_skip rfl rfl rfl ?_ | refine ar_pure tOk rfl rfl rfl trivial ?_)
  refine zA ?_
  refine zB ?_
  iterate 3 refine pA ?_
  repeat (first | refine ar_skip rfl rfl rfl ?_ | refine ar_pure tOk rfl rfl rfl trivial ?_)
  refine ar_nil ?_
  refine vB ?_
  refine zB ?_
  refine pE ?_
  refine ag_ret tOk Tryz.func37 rfl rfl (by simp) ?_
  exact eqI (by rw [invE, if_pos (by unfold invBad; omega)])
end Go.Proofs.YtccdhgmkjakjkaaGreat

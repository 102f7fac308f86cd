/-
  WALKS: asks. (Printed by gen.py out of w_ask.py.)
-/
import Derived.Test.YtccdhgmkjakjkaaGreatDeal
import Derived.Test.YtccdhgmkjakjkaaGreatFObj
import Derived.Test.YtccdhgmkjakjkaaGreatCmp
namespace Go.Proofs.YtccdhgmkjakjkaaGreat
open Go
set_option maxRecDepth 20000
set_option linter.unusedVariables false
set_option linter.unusedSimpArgs false
structure AskV where
 u : Int
 s : Int
 c : Int
 t : Int
 m0 : Int
 m1 : Int
 m2 : Int
 m3 : Int
 id : List UInt8
def askC (a : AskV) : List RVal := [.int .i64 a.u, .int .i64 a.s, .int .i64 a.c, .int .i64 a.t, .int .u64 a.m0, .int .u64 a.m1, .int .u64 a.m2, .int .u64 a.m3, .str a.id]
def askA (a : AskV) : AVal := .agg ((askC a).map .r)
def ask0 : AskV := ⟨0, 0, 0, 0, 0, 0, 0, 0, []⟩
structure AskV.ok (a : AskV) : Prop where
 m0 : U64 a.m0
 m1 : U64 a.m1
 m2 : U64 a.m2
 m3 : U64 a.m3
 id : a.id.length ≤ 140737488351232
def stI (a : AskV) (r : Int) : InvV := ⟨a.u, [114, 111, 111, 116, 114, 111, 111, 116], r, a.s, a.c, a.t, a.id⟩
def stR (a : AskV) (r : Int) : InvV := ⟨a.u, [49, 50, 51, 52, 53, 54, 55, 56], r, a.s, a.c, a.t, a.id⟩
theorem stR_E (a : AskV) (r : Int) : invE (stR a r) = invE (stI a r) := by
 have h : invBad (stR a r) ↔ invBad (stI a r) := Iff.rfl
 unfold invE
 simp only [h]
def amA (a : AskV) : Prop := a.m0 = 0 ∧ a.m1 = 0 ∧ a.m2 = 0 ∧ a.m3 = 0
instance (a : AskV) : Decidable (amA a) := by unfold amA; infer_instance
def askBad (a : AskV) : Prop := amA a ∨ invBad (stI a 2)
instance (a : AskV) : Decidable (askBad a) := by unfold askBad; infer_instance
def askE (a : AskV) : Int := if askBad a then 39 else 0
theorem askE_ne {a : AskV} (h : askE a ≠ 0) : askBad a := by
 by_cases p : askBad a
 ·exact p
 ·exact absurd (by rw [askE, if_neg p]) h
theorem askE_z {a : AskV} (h : ¬ askE a ≠ 0) : ¬ askBad a := fun p => h (by rw [askE, if_pos p]; decide)
theorem askE_2 {a : AskV} (h : ¬ amA a) : invE (stI a 2) = askE a := by
 by_cases p : invBad (stI a 2)
 ·rw [invE, if_pos p, askE, if_pos (.inr p)]
 ·rw [invE, if_neg p, askE, if_neg (by rintro (q | q); exact h q; exact p q)]
theorem invE_n8 {v : InvV} (h : invE v ≠ 0) : invBad v := by
 by_cases p : invBad v
 ·exact p
 ·exact absurd (by rw [invE, if_neg p]) h
theorem invE_z8 {v : InvV} (h : ¬ invE v ≠ 0) : ¬ invBad v := fun p => h (by rw [invE, if_pos p]; decide)
theorem w_bStand (a : AskV) (r : Int) : Pur Tryz.prog 38 [askA a, .r (.int .i64 r)] (invA (stI a r)) := by
 refine spec_of_go (N := 17) Tryz.func38 rfl (by decide) rfl rfl ?_
 refine zB ?_
 refine pM ?_
 refine pN ?_ ?_
 ·simp
 refine zC ?_
 refine pA ?_
 refine pB ?_
 iterate 2 refine pA ?_
 refine pB ?_
 refine pA ?_
 refine pB ?_
 refine pA ?_
 refine pB ?_
 refine pA ?_
 refine pB ?_
 refine pC ?_ ?_
 ·simp
 refine ar_store tOk rfl rfl rfl trivial ?_
 refine ar_nil ?_
 refine ag_ret tOk Tryz.func38 rfl rfl (by first | trivial | exact ⟨trivial, trivial⟩ | simp) ?_
 rfl
theorem w_rStand (a : AskV) (r : Int) : Pur Tryz.prog 23 [askA a, .r (.int .i64 r)] (invA (stR a r)) := by
 refine spec_of_go (N := 17) Tryz.func23 rfl (by decide) rfl rfl ?_
 refine zB ?_
 refine pM ?_
 refine pN ?_ ?_
 ·simp
 refine zC ?_
 refine pA ?_
 refine pB ?_
 iterate 2 refine pA ?_
 refine pB ?_
 refine pA ?_
 refine pB ?_
 refine pA ?_
 refine pB ?_
 refine pA ?_
 refine pB ?_
 refine pC ?_ ?_
 ·simp
 refine ar_store tOk rfl rfl rfl trivial ?_
 refine ar_nil ?_
 refine ag_ret tOk Tryz.func23 rfl rfl (by first | trivial | exact ⟨trivial, trivial⟩ | simp) ?_
 rfl
theorem w_bAsk (a : AskV) : Pur Tryz.prog 20 [askA a] (.r (.int .i64 (askE a))) := by
 refine spec_of_go (N := 10) Tryz.func20 rfl (by decide) rfl rfl ?_
 refine zB ?_
 refine pM ?_
 refine pF ?_
 refine zB ?_
 refine pA ?_
 refine pB ?_
 refine pC ?_ ?_
 ·simp
 refine pE ?_
 refine ag_cond rfl ?_ ?_
 ·intro h6
  have hz : amA a := by unfold amA; simpa using h6
  refine zB ?_
  refine pE ?_
  refine ag_ret tOk Tryz.func20 rfl rfl (by simp) ?_
  exact eqI (by rw [askE, if_pos (.inl hz)])
 ·intro h6
  have hz : ¬ amA a := by unfold amA; simpa using h6
  refine ag_skip ?_
  refine zB ?_
  refine pB ?_
  refine ar_pur (w_bStand a 2) rfl rfl rfl rfl rfl rfl rfl ?_
  refine ar_pur (w_Check (stI a 2)) rfl rfl rfl rfl rfl rfl rfl ?_
  refine pE ?_
  refine ag_ret tOk Tryz.func20 rfl rfl (by simp) ?_
  exact eqI (askE_2 hz)
theorem w_rAsk (a : AskV) : Pur Tryz.prog 10 [askA a] (.r (.int .i64 (askE a))) := by
 have cI := w_rInv (stR a 2)
 rw [stR_E] at cI
 refine spec_of_go (N := 13) Tryz.func10 rfl (by decide) rfl rfl ?_
 refine zB ?_
 refine pM ?_
 refine pF ?_
 refine zB ?_
 refine pA ?_
 refine pB ?_
 refine pC ?_ ?_
 ·simp
 iterate 2 refine pA ?_
 refine ar_guard (t := decide (a.m0 = 0) && (decide (a.m1 = 0) && (decide (a.m2 = 0) && decide (a.m3 = 0)))) (fun ht => ?_) (fun ht => ?_)
 ·refine ar_ent (ent_reg 7 (.r (.bool true)) (by show AVal.r (.bool _) = _; exact eqB ht)) ?_
  have hk : amA a := by unfold amA; simpa using ht
  repeat (first | refine ar_skip rfl rfl rfl ?_ | refine ar_pure tOk rfl rfl rfl trivial ?_)
  refine ar_nil ?_
  refine vB ?_
  refine zB ?_
  refine pE ?_
  refine ag_ret tOk Tryz.func10 rfl rfl (by simp) ?_
  exact eqI (by rw [askE, if_pos (.inl hk)])
 ·refine ar_ent (ent_reg 7 (.r (.bool false)) (by show AVal.r (.bool _) = _; exact eqB ht)) ?_
  have hk0 : ¬ amA a := by unfold amA; simpa using ht
  refine pB ?_
  refine ar_pur (w_rStand a 2) rfl rfl rfl rfl rfl rfl rfl ?_
  refine ar_pur (cI) rfl rfl rfl rfl rfl rfl rfl ?_
  refine pA ?_
  refine pE ?_
  refine ag_if rfl ?_ ?_
  ·intro h12
   refine zB ?_
   refine pE ?_
   refine ag_ret tOk Tryz.func10 rfl rfl (by simp) ?_
   exact eqI (by rw [← askE_2 hk0, invE, if_pos (invE_n8 h12)])
  ·intro h12
   refine ag_skip ?_
   refine zB ?_
   refine pE ?_
   refine ag_ret tOk Tryz.func10 rfl rfl (by simp) ?_
   exact eqI (by rw [← askE_2 hk0, invE, if_neg (invE_z8 h12)])
def pAsk (w : W) (a : AskV) : W := wtxt (wwid (wnum (wnum (wnum (wnum w a.u) a.s) a.c) a.t) a.m0 a.m1 a.m2 a.m3) a.id
theorem wok_ask {w : W} {a : AskV} (h : wok w) : wok (pAsk w a) := wok_txt (wok_wid (wok_num (wok_num (wok_num (wok_num h)))))
theorem w_bPut (w : W) (sl : Option (List UInt8)) (tl : List RVal) (hr : oRel w sl tl) (a : AskV) (ha : a.ok) : Spec Tryz.prog 72 [.ptr 0 0, askA a] (obP sl tl) (fun u h' => ∃ sl' tl', OQ (pAsk w a) u sl' tl' ∧ ObIs sl' tl' h') := by
 refine spec_of_go (N := 30) Tryz.func72 rfl (by decide) rfl rfl ?_
 refine ag_ent (ent_ob rfl rfl) ?_
 refine zB ?_
 refine pM ?_
 refine ar_nil ?_
 refine ag_ent (ent_same (h' := obAt sl tl 0 2 ⟨4, [(3, some (.mixed ((askC a).map .r)))], false⟩) rfl rfl ⟨rfl, rfl, rfl, trivial⟩) ?_
 refine sZ ?_
 refine pA ?_
 refine pB ?_
 refine pA ?_
 refine pB ?_
 refine pA ?_
 refine pB ?_
 refine pA ?_
 refine pB ?_
 refine pC ?_ ?_
 ·simp
 refine pE ?_
 refine ag_block ?_
 refine ag_unroll ?_
 refine zB ?_
 refine pF ?_
 refine vA ?_
 refine sS ?_
 refine bX ?_
 refine pC ?_ ?_
 ·decide
 refine pE ?_
 refine ag_reg ?_
 iterate 2 refine pA ?_
 refine ar_ob (w_ONum _ a.u sl tl hr) rfl rfl (obOk_of rfl) rfl rfl rfl rfl (by intro d hd; cases hd; rfl) ?_
 rintro _ sl tl ⟨rfl, hr⟩
 refine ⟨rfl, ?_⟩
 refine ar_nil ?_
 refine iR ?_
 refine pC ?_ ?_
 ·unfold inI64; decide
 refine pE ?_
 refine ag_again ?_
 refine zB ?_
 refine pF ?_
 refine vA ?_
 refine sS ?_
 refine bX ?_
 refine pC ?_ ?_
 ·decide
 refine pE ?_
 refine ag_reg ?_
 iterate 2 refine pA ?_
 refine ar_ob (w_ONum _ a.s sl tl hr) rfl rfl (obOk_of rfl) rfl rfl rfl rfl (by intro d hd; cases hd; rfl) ?_
 rintro _ sl tl ⟨rfl, hr⟩
 refine ⟨rfl, ?_⟩
 refine ar_nil ?_
 refine iR ?_
 refine pC ?_ ?_
 ·unfold inI64; decide
 refine pE ?_
 refine ag_again ?_
 refine zB ?_
 refine pF ?_
 refine vA ?_
 refine sS ?_
 refine bX ?_
 refine pC ?_ ?_
 ·decide
 refine pE ?_
 refine ag_reg ?_
 iterate 2 refine pA ?_
 refine ar_ob (w_ONum _ a.c sl tl hr) rfl rfl (obOk_of rfl) rfl rfl rfl rfl (by intro d hd; cases hd; rfl) ?_
 rintro _ sl tl ⟨rfl, hr⟩
 refine ⟨rfl, ?_⟩
 refine ar_nil ?_
 refine iR ?_
 refine pC ?_ ?_
 ·unfold inI64; decide
 refine pE ?_
 refine ag_again ?_
 refine zB ?_
 refine pF ?_
 refine vA ?_
 refine sS ?_
 refine bX ?_
 refine pC ?_ ?_
 ·decide
 refine pE ?_
 refine ag_reg ?_
 iterate 2 refine pA ?_
 refine ar_ob (w_ONum _ a.t sl tl hr) rfl rfl (obOk_of rfl) rfl rfl rfl rfl (by intro d hd; cases hd; rfl) ?_
 rintro _ sl tl ⟨rfl, hr⟩
 refine ⟨rfl, ?_⟩
 refine ar_nil ?_
 refine iR ?_
 refine pC ?_ ?_
 ·unfold inI64; decide
 refine pE ?_
 refine ag_again ?_
 refine zB ?_
 refine pF ?_
 refine vD ?_
 refine ag_exit rfl ?_
 refine zB ?_
 iterate 2 refine pA ?_
 refine pB ?_
 refine ar_ob (w_OWide _ a.m0 a.m1 a.m2 a.m3 ha.m0 ha.m1 ha.m2 ha.m3 sl tl hr) rfl rfl (obOk_of rfl) rfl rfl rfl rfl (by intro d hd; cases hd; rfl) ?_
 rintro _ sl tl ⟨rfl, hr⟩
 refine ⟨rfl, ?_⟩
 refine ar_nil ?_
 refine ag_reg ?_
 iterate 2 refine pA ?_
 refine pB ?_
 refine ar_ob (w_OText _ a.id ha.id sl tl hr) rfl rfl (obOk_of rfl) rfl rfl rfl rfl (by intro d hd; cases hd; rfl) ?_
 rintro _ sl tl ⟨rfl, hr⟩
 refine ⟨rfl, ?_⟩
 refine ar_nil ?_
 refine ag_end tOk Tryz.func72 rfl rfl (by simp) ?_
 exact ⟨sl, tl, ⟨rfl, hr⟩, ob_is (by decide) rfl⟩
theorem w_rPutAsk (w : W) (hw : wok w) (a : AskV) (ha : a.ok) : Pur Tryz.prog 46 [wV w, askA a] (wV (pAsk w a)) := by
 have h1 := wok_num (n := a.u) hw
 have h2 := wok_num (n := a.s) h1
 have h3 := wok_num (n := a.c) h2
 have h4 := wok_num (n := a.t) h3
 refine spec_of_go (N := 25) Tryz.func46 rfl (by decide) rfl rfl ?_
 refine zB ?_
 iterate 2 refine pM ?_
 refine pN ?_ ?_
 ·simp
 refine zA ?_
 apply ag_draw1 [] (by kernel_rfl) (by kernel_rfl)
 refine qL ?_
 refine qA ?_
 refine qL ?_
 refine aq_pur (w_rNumC _ _ hw) rfl rfl rfl rfl rfl rfl rfl ?_
 refine qA ?_
 refine qL ?_
 refine aq_pur (w_rNumC _ _ h1) rfl rfl rfl rfl rfl rfl rfl ?_
 refine qA ?_
 refine qL ?_
 refine aq_pur (w_rNumC _ _ h2) rfl rfl rfl rfl rfl rfl rfl ?_
 refine qA ?_
 refine qL ?_
 refine aq_pur (w_rNumC _ _ h3) rfl rfl rfl rfl rfl rfl rfl ?_
 refine aq_store10 tOk rfl rfl rfl rfl trivial ?_
 refine aq_nil rfl ?_
 refine ag_seq ?_
 apply ag_draw1 [] (by kernel_rfl) (by kernel_rfl)
 refine qL ?_
 refine qA ?_
 refine qL ?_
 refine aq_pur (w_rWideC _ a.m0 a.m1 a.m2 a.m3 ha.m0 ha.m1 ha.m2 ha.m3 h4) rfl rfl rfl rfl rfl rfl rfl ?_
 refine qA ?_
 refine qL ?_
 refine aq_pur (w_rTextC _ _ (wok_wid h4)) rfl rfl rfl rfl rfl rfl rfl ?_
 refine aq_store10 tOk rfl rfl rfl rfl trivial ?_
 refine aq_nil rfl ?_
 refine ag_ret tOk Tryz.func46 rfl rfl (by first | trivial | exact ⟨trivial, trivial⟩ | simp) ?_
 rfl
end Go.Proofs.YtccdhgmkjakjkaaGreat

/-
  WALKS: transactions put and read, by kinds. (Printed by gen.py out of w_txs2.py.)
-/
import Derived.Test.YtancdgbclbkpkaaDeal2
import Derived.Test.YtancdgbclbkpkaaTxs
namespace Go.Proofs.Ytancdgbclbkpkaa
open Go
set_option maxRecDepth 20000
set_option linter.unusedVariables false
set_option linter.unusedSimpArgs false
def pHd (w : W) (t : TxV) : W := wwid (wnum (wnum (wnum (wnum w t.k) t.f) t.n) t.a) t.m0 t.m1 t.m2 t.m3
def pTx (w : W) (t : TxV) : W :=
  if t.k = 1 then wnum (pHd w t) t.inv.t else if t.k = 2 then wnum (pHd w t) t.inv.r
  else if t.k = 4 then pVar (pInv (pHd w t) t.inv) t.var
  else if t.k = 5 ∨ t.k = 6 then wtxt (wwid (pVar (pInv (pHd w t) t.inv) t.var) t.g0 t.g1 t.g2 t.g3) t.sig else pHd w t
theorem wok_pHd {w : W} {t : TxV} (h : wok w) : wok (pHd w t) := wok_wid (wok_num (wok_num (wok_num (wok_num h))))
theorem wok_pTx {w : W} {t : TxV} (h : wok w) : wok (pTx w t) := by
  have h0 := wok_pHd (t := t) h
  unfold pTx
  repeat' split
  · exact wok_num h0
  · exact wok_num h0
  · exact wok_var (wok_inv h0)
  · exact wok_txt (wok_wid (wok_var (wok_inv h0)))
  · exact h0
theorem w_xPut1 (w : W) (sl : Option (List UInt8)) (tl : List RVal) (hr : oRel w sl tl) (t : TxV) (ht : t.ok) (hk : t.k = 1) : Spec Try.prog 68 [.ptr 0 0, txA t] (obP sl tl) (fun u h' => ∃ sl' tl', OQ (wnum (pHd w t) t.inv.t) u sl' tl' ∧ ObIs sl' tl' h') := by
  refine spec_of_go (N := 70) Try.func68 rfl (by decide) rfl rfl ?_
  refine ag_ent (ent_ob rfl rfl) ?_
  refine zB ?_
  refine ar_new tOk rfl rfl rfl trivial ?_
  refine ar_nil ?_
  refine ag_ent (ent_same (h' := obAt sl tl 0 2 ⟨4, [(3, some (.mixed ((txC t).map .r)))], false⟩) rfl rfl ⟨rfl, rfl, rfl, trivial⟩) ?_
  refine ag_seq ?_
  refine zB ?_
  refine pA ?_
  refine pB ?_
  refine pA ?_
  refine pB ?_
  refine pA ?_
  refine pB ?_
  refine pA ?_
  refine pB ?_
  refine ar_pure tOk rfl rfl rfl ?_ ?_
  · simp
  refine pA ?_
  refine ar_nil ?_
  refine ag_block ?_
  refine ag_unroll ?_
  refine zB ?_
  refine pA ?_
  refine zA ?_
  refine ag_true rfl (by decide) ?_
  refine ag_skip ?_
  refine ag_seq ?_
  refine ag_block ?_
  refine zB ?_
  refine ar_pure tOk rfl rfl rfl ?_ ?_
  · decide
  refine pA ?_
  refine ar_nil ?_
  refine ag_reg ?_
  iterate 2 refine pA ?_
  refine ar_ob (w_ONum _ t.k sl tl hr) rfl rfl (obOk_of rfl) rfl rfl rfl rfl (by intro d hd; cases hd; rfl) ?_
  rintro _ sl tl ⟨rfl, hr⟩
  refine ⟨rfl, ?_⟩
  refine ar_nil ?_
  refine ag_inBlock ?_
  refine ag_reg ?_
  refine ar_pure tOk rfl rfl rfl ?_ ?_
  · unfold inI64; decide
  refine pA ?_
  refine ar_nil ?_
  refine ag_again ?_
  refine zB ?_
  refine pA ?_
  refine zA ?_
  refine ag_true rfl (by decide) ?_
  refine ag_skip ?_
  refine ag_seq ?_
  refine ag_block ?_
  refine zB ?_
  refine ar_pure tOk rfl rfl rfl ?_ ?_
  · decide
  refine pA ?_
  refine ar_nil ?_
  refine ag_reg ?_
  iterate 2 refine pA ?_
  refine ar_ob (w_ONum _ t.f sl tl hr) rfl rfl (obOk_of rfl) rfl rfl rfl rfl (by intro d hd; cases hd; rfl) ?_
  rintro _ sl tl ⟨rfl, hr⟩
  refine ⟨rfl, ?_⟩
  refine ar_nil ?_
  refine ag_inBlock ?_
  refine ag_reg ?_
  refine ar_pure tOk rfl rfl rfl ?_ ?_
  · unfold inI64; decide
  refine pA ?_
  refine ar_nil ?_
  refine ag_again ?_
  refine zB ?_
  refine pA ?_
  refine zA ?_
  refine ag_true rfl (by decide) ?_
  refine ag_skip ?_
  refine ag_seq ?_
  refine ag_block ?_
  refine zB ?_
  refine ar_pure tOk rfl rfl rfl ?_ ?_
  · decide
  refine pA ?_
  refine ar_nil ?_
  refine ag_reg ?_
  iterate 2 refine pA ?_
  refine ar_ob (w_ONum _ t.n sl tl hr) rfl rfl (obOk_of rfl) rfl rfl rfl rfl (by intro d hd; cases hd; rfl) ?_
  rintro _ sl tl ⟨rfl, hr⟩
  refine ⟨rfl, ?_⟩
  refine ar_nil ?_
  refine ag_inBlock ?_
  refine ag_reg ?_
  refine ar_pure tOk rfl rfl rfl ?_ ?_
  · unfold inI64; decide
  refine pA ?_
  refine ar_nil ?_
  refine ag_again ?_
  refine zB ?_
  refine pA ?_
  refine zA ?_
  refine ag_true rfl (by decide) ?_
  refine ag_skip ?_
  refine ag_seq ?_
  refine ag_block ?_
  refine zB ?_
  refine ar_pure tOk rfl rfl rfl ?_ ?_
  · decide
  refine pA ?_
  refine ar_nil ?_
  refine ag_reg ?_
  iterate 2 refine pA ?_
  refine ar_ob (w_ONum _ t.a sl tl hr) rfl rfl (obOk_of rfl) rfl rfl rfl rfl (by intro d hd; cases hd; rfl) ?_
  rintro _ sl tl ⟨rfl, hr⟩
  refine ⟨rfl, ?_⟩
  refine ar_nil ?_
  refine ag_inBlock ?_
  refine ag_reg ?_
  refine ar_pure tOk rfl rfl rfl ?_ ?_
  · unfold inI64; decide
  refine pA ?_
  refine ar_nil ?_
  refine ag_again ?_
  refine zB ?_
  refine pA ?_
  refine zA ?_
  refine ag_false rfl (by decide) ?_
  refine ag_exit rfl ?_
  refine zB ?_
  iterate 2 refine pA ?_
  refine pB ?_
  refine ar_ob (w_OWide _ t.m0 t.m1 t.m2 t.m3 ht.m0 ht.m1 ht.m2 ht.m3 sl tl hr) rfl rfl (obOk_of rfl) rfl rfl rfl rfl (by intro d hd; cases hd; rfl) ?_
  rintro _ sl tl ⟨rfl, hr⟩
  refine ⟨rfl, ?_⟩
  refine zA ?_
  refine zB ?_
  refine pA ?_
  refine pB ?_
  refine ar_nil ?_
  refine ag_block ?_
  refine zB ?_
  iterate 2 refine pA ?_
  refine ar_nil ?_
  refine ag_true rfl (decide_eq_true (show t.k = 1 by omega)) ?_
  refine ag_reg ?_
  iterate 3 refine pA ?_
  refine pB ?_
  refine ar_ob (w_ONum _ t.inv.t sl tl hr) rfl rfl (obOk_of rfl) rfl rfl rfl rfl (by intro d hd; cases hd; rfl) ?_
  rintro _ sl tl ⟨rfl, hr⟩
  refine ⟨rfl, ?_⟩
  refine ar_nil ?_
  refine ag_inBlock ?_
  refine zB ?_
  refine pA ?_
  refine pB ?_
  iterate 2 refine pA ?_
  refine ar_ent (ent_reg 57 (.r (.bool false)) (by show AVal.r (.bool _) = _; exact eqB (decide_eq_false (show ¬ t.k = 5 by omega)))) ?_
  refine pA ?_
  refine pB ?_
  iterate 2 refine pA ?_
  refine ar_nil ?_
  refine ag_false rfl (decide_eq_false (show ¬ t.k = 6 by omega)) ?_
  refine ag_skip ?_
  refine ag_end tOk Try.func68 rfl rfl (by simp) ?_
  exact ⟨sl, tl, ⟨rfl, hr⟩, ob_is (by decide) rfl⟩
theorem w_rPut1 (w : W) (hw : wok w) (t : TxV) (ht : t.ok) (hk : t.k = 1) : Pur Try.prog 38 [wV w, txA t] (wV (wnum (pHd w t) t.inv.t)) := by
  have h1 := wok_num (n := t.k) hw
  have h2 := wok_num (n := t.f) h1
  have h3 := wok_num (n := t.n) h2
  have h4 := wok_num (n := t.a) h3
  have h5 : wok (pHd w t) := wok_pHd hw
  have h6 : wok (pInv (pHd w t) t.inv) := wok_inv h5
  have h7 : wok (pVar (pInv (pHd w t) t.inv) t.var) := wok_var h6
  refine spec_of_go (N := 68) Try.func38 rfl (by decide) rfl rfl ?_
  refine zB ?_
  iterate 2 refine ar_new tOk rfl rfl rfl trivial ?_
  refine ar_new tOk rfl rfl rfl ?_ ?_
  · simp
  refine zA ?_
  apply ag_draw1 [] (by kernel_rfl) (by kernel_rfl)
  refine aq_load0 tOk rfl (by kernel_rfl) rfl rfl trivial ?_
  refine aq_pure tOk rfl rfl rfl trivial ?_
  refine aq_load0 tOk rfl (by kernel_rfl) rfl rfl trivial ?_
  refine aq_pur (w_rNumC _ _ hw) rfl rfl rfl rfl rfl rfl rfl ?_
  refine aq_pure tOk rfl rfl rfl trivial ?_
  refine aq_load0 tOk rfl (by kernel_rfl) rfl rfl trivial ?_
  refine aq_pur (w_rNumC _ _ h1) rfl rfl rfl rfl rfl rfl rfl ?_
  refine aq_pure tOk rfl rfl rfl trivial ?_
  refine aq_load0 tOk rfl (by kernel_rfl) rfl rfl trivial ?_
  refine aq_pur (w_rNumC _ _ h2) rfl rfl rfl rfl rfl rfl rfl ?_
  refine aq_pure tOk rfl rfl rfl trivial ?_
  refine aq_load0 tOk rfl (by kernel_rfl) rfl rfl trivial ?_
  refine aq_pur (w_rNumC _ _ h3) rfl rfl rfl rfl rfl rfl rfl ?_
  refine aq_pure tOk rfl rfl rfl trivial ?_
  refine aq_load0 tOk rfl (by kernel_rfl) rfl rfl trivial ?_
  refine aq_pur (w_rWideC _ t.m0 t.m1 t.m2 t.m3 ht.m0 ht.m1 ht.m2 ht.m3 h4) rfl rfl rfl rfl rfl rfl rfl ?_
  refine aq_store10 tOk rfl rfl rfl rfl trivial ?_
  refine aq_nil rfl ?_
  refine ag_seq ?_
  refine zB ?_
  refine pA ?_
  refine pB ?_
  refine pA ?_
  refine ar_nil ?_
  refine ag_true rfl (decide_eq_true (show t.k = 1 by omega)) ?_
  refine ag_reg ?_
  refine pB ?_
  iterate 2 refine pA ?_
  refine pB ?_
  refine ar_pur (w_rNumC _ _ h5) rfl rfl rfl rfl rfl rfl rfl ?_
  refine ar_store tOk rfl rfl rfl trivial ?_
  refine zA ?_
  refine zB ?_
  refine pA ?_
  refine pB ?_
  refine pA ?_
  refine ar_nil ?_
  refine ag_false rfl (decide_eq_false (show ¬ t.k = 2 by omega)) ?_
  refine ag_skip ?_
  refine ag_seq ?_
  refine zB ?_
  refine pA ?_
  refine pB ?_
  iterate 2 refine pA ?_
  refine ar_ent (ent_reg 40 (.r (.bool false)) (by show AVal.r (.bool _) = _; exact eqB (decide_eq_false (show ¬ t.k ≥ 4 by omega)))) ?_
  iterate 3 refine ar_skip rfl rfl rfl ?_
  refine pA ?_
  refine ar_nil ?_
  refine ag_false rfl (by rfl) ?_
  refine ag_skip ?_
  refine ag_seq ?_
  refine zB ?_
  refine pA ?_
  refine pB ?_
  iterate 2 refine pA ?_
  refine ar_ent (ent_reg 55 (.r (.bool false)) (by show AVal.r (.bool _) = _; exact eqB (decide_eq_false (show ¬ t.k = 5 by omega)))) ?_
  refine pA ?_
  refine pB ?_
  iterate 2 refine pA ?_
  refine ar_nil ?_
  refine ag_false rfl (decide_eq_false (show ¬ t.k = 6 by omega)) ?_
  refine ag_skip ?_
  refine zB ?_
  refine pB ?_
  refine ar_store tOk rfl rfl rfl trivial ?_
  refine ar_nil ?_
  refine ag_ret tOk Try.func38 rfl rfl (by first | trivial | exact ⟨trivial, trivial⟩ | simp) ?_
  rfl
theorem w_xPut2 (w : W) (sl : Option (List UInt8)) (tl : List RVal) (hr : oRel w sl tl) (t : TxV) (ht : t.ok) (hk : t.k = 2) : Spec Try.prog 68 [.ptr 0 0, txA t] (obP sl tl) (fun u h' => ∃ sl' tl', OQ (wnum (pHd w t) t.inv.r) u sl' tl' ∧ ObIs sl' tl' h') := by
  refine spec_of_go (N := 70) Try.func68 rfl (by decide) rfl rfl ?_
  refine ag_ent (ent_ob rfl rfl) ?_
  refine zB ?_
  refine ar_new tOk rfl rfl rfl trivial ?_
  refine ar_nil ?_
  refine ag_ent (ent_same (h' := obAt sl tl 0 2 ⟨4, [(3, some (.mixed ((txC t).map .r)))], false⟩) rfl rfl ⟨rfl, rfl, rfl, trivial⟩) ?_
  refine ag_seq ?_
  refine zB ?_
  refine pA ?_
  refine pB ?_
  refine pA ?_
  refine pB ?_
  refine pA ?_
  refine pB ?_
  refine pA ?_
  refine pB ?_
  refine ar_pure tOk rfl rfl rfl ?_ ?_
  · simp
  refine pA ?_
  refine ar_nil ?_
  refine ag_block ?_
  refine ag_unroll ?_
  refine zB ?_
  refine pA ?_
  refine zA ?_
  refine ag_true rfl (by decide) ?_
  refine ag_skip ?_
  refine ag_seq ?_
  refine ag_block ?_
  refine zB ?_
  refine ar_pure tOk rfl rfl rfl ?_ ?_
  · decide
  refine pA ?_
  refine ar_nil ?_
  refine ag_reg ?_
  iterate 2 refine pA ?_
  refine ar_ob (w_ONum _ t.k sl tl hr) rfl rfl (obOk_of rfl) rfl rfl rfl rfl (by intro d hd; cases hd; rfl) ?_
  rintro _ sl tl ⟨rfl, hr⟩
  refine ⟨rfl, ?_⟩
  refine ar_nil ?_
  refine ag_inBlock ?_
  refine ag_reg ?_
  refine ar_pure tOk rfl rfl rfl ?_ ?_
  · unfold inI64; decide
  refine pA ?_
  refine ar_nil ?_
  refine ag_again ?_
  refine zB ?_
  refine pA ?_
  refine zA ?_
  refine ag_true rfl (by decide) ?_
  refine ag_skip ?_
  refine ag_seq ?_
  refine ag_block ?_
  refine zB ?_
  refine ar_pure tOk rfl rfl rfl ?_ ?_
  · decide
  refine pA ?_
  refine ar_nil ?_
  refine ag_reg ?_
  iterate 2 refine pA ?_
  refine ar_ob (w_ONum _ t.f sl tl hr) rfl rfl (obOk_of rfl) rfl rfl rfl rfl (by intro d hd; cases hd; rfl) ?_
  rintro _ sl tl ⟨rfl, hr⟩
  refine ⟨rfl, ?_⟩
  refine ar_nil ?_
  refine ag_inBlock ?_
  refine ag_reg ?_
  refine ar_pure tOk rfl rfl rfl ?_ ?_
  · unfold inI64; decide
  refine pA ?_
  refine ar_nil ?_
  refine ag_again ?_
  refine zB ?_
  refine pA ?_
  refine zA ?_
  refine ag_true rfl (by decide) ?_
  refine ag_skip ?_
  refine ag_seq ?_
  refine ag_block ?_
  refine zB ?_
  refine ar_pure tOk rfl rfl rfl ?_ ?_
  · decide
  refine pA ?_
  refine ar_nil ?_
  refine ag_reg ?_
  iterate 2 refine pA ?_
  refine ar_ob (w_ONum _ t.n sl tl hr) rfl rfl (obOk_of rfl) rfl rfl rfl rfl (by intro d hd; cases hd; rfl) ?_
  rintro _ sl tl ⟨rfl, hr⟩
  refine ⟨rfl, ?_⟩
  refine ar_nil ?_
  refine ag_inBlock ?_
  refine ag_reg ?_
  refine ar_pure tOk rfl rfl rfl ?_ ?_
  · unfold inI64; decide
  refine pA ?_
  refine ar_nil ?_
  refine ag_again ?_
  refine zB ?_
  refine pA ?_
  refine zA ?_
  refine ag_true rfl (by decide) ?_
  refine ag_skip ?_
  refine ag_seq ?_
  refine ag_block ?_
  refine zB ?_
  refine ar_pure tOk rfl rfl rfl ?_ ?_
  · decide
  refine pA ?_
  refine ar_nil ?_
  refine ag_reg ?_
  iterate 2 refine pA ?_
  refine ar_ob (w_ONum _ t.a sl tl hr) rfl rfl (obOk_of rfl) rfl rfl rfl rfl (by intro d hd; cases hd; rfl) ?_
  rintro _ sl tl ⟨rfl, hr⟩
  refine ⟨rfl, ?_⟩
  refine ar_nil ?_
  refine ag_inBlock ?_
  refine ag_reg ?_
  refine ar_pure tOk rfl rfl rfl ?_ ?_
  · unfold inI64; decide
  refine pA ?_
  refine ar_nil ?_
  refine ag_again ?_
  refine zB ?_
  refine pA ?_
  refine zA ?_
  refine ag_false rfl (by decide) ?_
  refine ag_exit rfl ?_
  refine zB ?_
  iterate 2 refine pA ?_
  refine pB ?_
  refine ar_ob (w_OWide _ t.m0 t.m1 t.m2 t.m3 ht.m0 ht.m1 ht.m2 ht.m3 sl tl hr) rfl rfl (obOk_of rfl) rfl rfl rfl rfl (by intro d hd; cases hd; rfl) ?_
  rintro _ sl tl ⟨rfl, hr⟩
  refine ⟨rfl, ?_⟩
  refine zA ?_
  refine zB ?_
  refine pA ?_
  refine pB ?_
  refine ar_nil ?_
  refine ag_block ?_
  refine zB ?_
  iterate 2 refine pA ?_
  refine ar_nil ?_
  refine ag_false rfl (decide_eq_false (show ¬ t.k = 1 by omega)) ?_
  refine zB ?_
  iterate 2 refine pA ?_
  refine ar_nil ?_
  refine ag_true rfl (decide_eq_true (show t.k = 2 by omega)) ?_
  refine ag_reg ?_
  iterate 3 refine pA ?_
  refine pB ?_
  refine ar_ob (w_ONum _ t.inv.r sl tl hr) rfl rfl (obOk_of rfl) rfl rfl rfl rfl (by intro d hd; cases hd; rfl) ?_
  rintro _ sl tl ⟨rfl, hr⟩
  refine ⟨rfl, ?_⟩
  refine ar_nil ?_
  refine ag_inBlock ?_
  refine zB ?_
  refine pA ?_
  refine pB ?_
  iterate 2 refine pA ?_
  refine ar_ent (ent_reg 57 (.r (.bool false)) (by show AVal.r (.bool _) = _; exact eqB (decide_eq_false (show ¬ t.k = 5 by omega)))) ?_
  refine pA ?_
  refine pB ?_
  iterate 2 refine pA ?_
  refine ar_nil ?_
  refine ag_false rfl (decide_eq_false (show ¬ t.k = 6 by omega)) ?_
  refine ag_skip ?_
  refine ag_end tOk Try.func68 rfl rfl (by simp) ?_
  exact ⟨sl, tl, ⟨rfl, hr⟩, ob_is (by decide) rfl⟩
theorem w_rPut2 (w : W) (hw : wok w) (t : TxV) (ht : t.ok) (hk : t.k = 2) : Pur Try.prog 38 [wV w, txA t] (wV (wnum (pHd w t) t.inv.r)) := by
  have h1 := wok_num (n := t.k) hw
  have h2 := wok_num (n := t.f) h1
  have h3 := wok_num (n := t.n) h2
  have h4 := wok_num (n := t.a) h3
  have h5 : wok (pHd w t) := wok_pHd hw
  have h6 : wok (pInv (pHd w t) t.inv) := wok_inv h5
  have h7 : wok (pVar (pInv (pHd w t) t.inv) t.var) := wok_var h6
  refine spec_of_go (N := 68) Try.func38 rfl (by decide) rfl rfl ?_
  refine zB ?_
  iterate 2 refine ar_new tOk rfl rfl rfl trivial ?_
  refine ar_new tOk rfl rfl rfl ?_ ?_
  · simp
  refine zA ?_
  apply ag_draw1 [] (by kernel_rfl) (by kernel_rfl)
  refine aq_load0 tOk rfl (by kernel_rfl) rfl rfl trivial ?_
  refine aq_pure tOk rfl rfl rfl trivial ?_
  refine aq_load0 tOk rfl (by kernel_rfl) rfl rfl trivial ?_
  refine aq_pur (w_rNumC _ _ hw) rfl rfl rfl rfl rfl rfl rfl ?_
  refine aq_pure tOk rfl rfl rfl trivial ?_
  refine aq_load0 tOk rfl (by kernel_rfl) rfl rfl trivial ?_
  refine aq_pur (w_rNumC _ _ h1) rfl rfl rfl rfl rfl rfl rfl ?_
  refine aq_pure tOk rfl rfl rfl trivial ?_
  refine aq_load0 tOk rfl (by kernel_rfl) rfl rfl trivial ?_
  refine aq_pur (w_rNumC _ _ h2) rfl rfl rfl rfl rfl rfl rfl ?_
  refine aq_pure tOk rfl rfl rfl trivial ?_
  refine aq_load0 tOk rfl (by kernel_rfl) rfl rfl trivial ?_
  refine aq_pur (w_rNumC _ _ h3) rfl rfl rfl rfl rfl rfl rfl ?_
  refine aq_pure tOk rfl rfl rfl trivial ?_
  refine aq_load0 tOk rfl (by kernel_rfl) rfl rfl trivial ?_
  refine aq_pur (w_rWideC _ t.m0 t.m1 t.m2 t.m3 ht.m0 ht.m1 ht.m2 ht.m3 h4) rfl rfl rfl rfl rfl rfl rfl ?_
  refine aq_store10 tOk rfl rfl rfl rfl trivial ?_
  refine aq_nil rfl ?_
  refine ag_seq ?_
  refine zB ?_
  refine pA ?_
  refine pB ?_
  refine pA ?_
  refine ar_nil ?_
  refine ag_false rfl (decide_eq_false (show ¬ t.k = 1 by omega)) ?_
  refine ag_skip ?_
  refine ag_seq ?_
  refine zB ?_
  refine pA ?_
  refine pB ?_
  refine pA ?_
  refine ar_nil ?_
  refine ag_true rfl (decide_eq_true (show t.k = 2 by omega)) ?_
  refine ag_reg ?_
  refine pB ?_
  iterate 2 refine pA ?_
  refine pB ?_
  refine ar_pur (w_rNumC _ _ h5) rfl rfl rfl rfl rfl rfl rfl ?_
  refine ar_store tOk rfl rfl rfl trivial ?_
  refine zA ?_
  refine zB ?_
  refine pA ?_
  refine pB ?_
  iterate 2 refine pA ?_
  refine ar_ent (ent_reg 40 (.r (.bool false)) (by show AVal.r (.bool _) = _; exact eqB (decide_eq_false (show ¬ t.k ≥ 4 by omega)))) ?_
  iterate 3 refine ar_skip rfl rfl rfl ?_
  refine pA ?_
  refine ar_nil ?_
  refine ag_false rfl (by rfl) ?_
  refine ag_skip ?_
  refine ag_seq ?_
  refine zB ?_
  refine pA ?_
  refine pB ?_
  iterate 2 refine pA ?_
  refine ar_ent (ent_reg 55 (.r (.bool false)) (by show AVal.r (.bool _) = _; exact eqB (decide_eq_false (show ¬ t.k = 5 by omega)))) ?_
  refine pA ?_
  refine pB ?_
  iterate 2 refine pA ?_
  refine ar_nil ?_
  refine ag_false rfl (decide_eq_false (show ¬ t.k = 6 by omega)) ?_
  refine ag_skip ?_
  refine zB ?_
  refine pB ?_
  refine ar_store tOk rfl rfl rfl trivial ?_
  refine ar_nil ?_
  refine ag_ret tOk Try.func38 rfl rfl (by first | trivial | exact ⟨trivial, trivial⟩ | simp) ?_
  rfl
theorem w_xPut4 (w : W) (sl : Option (List UInt8)) (tl : List RVal) (hr : oRel w sl tl) (t : TxV) (ht : t.ok) (hk : t.k = 4) : Spec Try.prog 68 [.ptr 0 0, txA t] (obP sl tl) (fun u h' => ∃ sl' tl', OQ (pVar (pInv (pHd w t) t.inv) t.var) u sl' tl' ∧ ObIs sl' tl' h') := by
  refine spec_of_go (N := 70) Try.func68 rfl (by decide) rfl rfl ?_
  refine ag_ent (ent_ob rfl rfl) ?_
  refine zB ?_
  refine ar_new tOk rfl rfl rfl trivial ?_
  refine ar_nil ?_
  refine ag_ent (ent_same (h' := obAt sl tl 0 2 ⟨4, [(3, some (.mixed ((txC t).map .r)))], false⟩) rfl rfl ⟨rfl, rfl, rfl, trivial⟩) ?_
  refine ag_seq ?_
  refine zB ?_
  refine pA ?_
  refine pB ?_
  refine pA ?_
  refine pB ?_
  refine pA ?_
  refine pB ?_
  refine pA ?_
  refine pB ?_
  refine ar_pure tOk rfl rfl rfl ?_ ?_
  · simp
  refine pA ?_
  refine ar_nil ?_
  refine ag_block ?_
  refine ag_unroll ?_
  refine zB ?_
  refine pA ?_
  refine zA ?_
  refine ag_true rfl (by decide) ?_
  refine ag_skip ?_
  refine ag_seq ?_
  refine ag_block ?_
  refine zB ?_
  refine ar_pure tOk rfl rfl rfl ?_ ?_
  · decide
  refine pA ?_
  refine ar_nil ?_
  refine ag_reg ?_
  iterate 2 refine pA ?_
  refine ar_ob (w_ONum _ t.k sl tl hr) rfl rfl (obOk_of rfl) rfl rfl rfl rfl (by intro d hd; cases hd; rfl) ?_
  rintro _ sl tl ⟨rfl, hr⟩
  refine ⟨rfl, ?_⟩
  refine ar_nil ?_
  refine ag_inBlock ?_
  refine ag_reg ?_
  refine ar_pure tOk rfl rfl rfl ?_ ?_
  · unfold inI64; decide
  refine pA ?_
  refine ar_nil ?_
  refine ag_again ?_
  refine zB ?_
  refine pA ?_
  refine zA ?_
  refine ag_true rfl (by decide) ?_
  refine ag_skip ?_
  refine ag_seq ?_
  refine ag_block ?_
  refine zB ?_
  refine ar_pure tOk rfl rfl rfl ?_ ?_
  · decide
  refine pA ?_
  refine ar_nil ?_
  refine ag_reg ?_
  iterate 2 refine pA ?_
  refine ar_ob (w_ONum _ t.f sl tl hr) rfl rfl (obOk_of rfl) rfl rfl rfl rfl (by intro d hd; cases hd; rfl) ?_
  rintro _ sl tl ⟨rfl, hr⟩
  refine ⟨rfl, ?_⟩
  refine ar_nil ?_
  refine ag_inBlock ?_
  refine ag_reg ?_
  refine ar_pure tOk rfl rfl rfl ?_ ?_
  · unfold inI64; decide
  refine pA ?_
  refine ar_nil ?_
  refine ag_again ?_
  refine zB ?_
  refine pA ?_
  refine zA ?_
  refine ag_true rfl (by decide) ?_
  refine ag_skip ?_
  refine ag_seq ?_
  refine ag_block ?_
  refine zB ?_
  refine ar_pure tOk rfl rfl rfl ?_ ?_
  · decide
  refine pA ?_
  refine ar_nil ?_
  refine ag_reg ?_
  iterate 2 refine pA ?_
  refine ar_ob (w_ONum _ t.n sl tl hr) rfl rfl (obOk_of rfl) rfl rfl rfl rfl (by intro d hd; cases hd; rfl) ?_
  rintro _ sl tl ⟨rfl, hr⟩
  refine ⟨rfl, ?_⟩
  refine ar_nil ?_
  refine ag_inBlock ?_
  refine ag_reg ?_
  refine ar_pure tOk rfl rfl rfl ?_ ?_
  · unfold inI64; decide
  refine pA ?_
  refine ar_nil ?_
  refine ag_again ?_
  refine zB ?_
  refine pA ?_
  refine zA ?_
  refine ag_true rfl (by decide) ?_
  refine ag_skip ?_
  refine ag_seq ?_
  refine ag_block ?_
  refine zB ?_
  refine ar_pure tOk rfl rfl rfl ?_ ?_
  · decide
  refine pA ?_
  refine ar_nil ?_
  refine ag_reg ?_
  iterate 2 refine pA ?_
  refine ar_ob (w_ONum _ t.a sl tl hr) rfl rfl (obOk_of rfl) rfl rfl rfl rfl (by intro d hd; cases hd; rfl) ?_
  rintro _ sl tl ⟨rfl, hr⟩
  refine ⟨rfl, ?_⟩
  refine ar_nil ?_
  refine ag_inBlock ?_
  refine ag_reg ?_
  refine ar_pure tOk rfl rfl rfl ?_ ?_
  · unfold inI64; decide
  refine pA ?_
  refine ar_nil ?_
  refine ag_again ?_
  refine zB ?_
  refine pA ?_
  refine zA ?_
  refine ag_false rfl (by decide) ?_
  refine ag_exit rfl ?_
  refine zB ?_
  iterate 2 refine pA ?_
  refine pB ?_
  refine ar_ob (w_OWide _ t.m0 t.m1 t.m2 t.m3 ht.m0 ht.m1 ht.m2 ht.m3 sl tl hr) rfl rfl (obOk_of rfl) rfl rfl rfl rfl (by intro d hd; cases hd; rfl) ?_
  rintro _ sl tl ⟨rfl, hr⟩
  refine ⟨rfl, ?_⟩
  refine zA ?_
  refine zB ?_
  refine pA ?_
  refine pB ?_
  refine ar_nil ?_
  refine ag_block ?_
  refine zB ?_
  iterate 2 refine pA ?_
  refine ar_nil ?_
  refine ag_false rfl (decide_eq_false (show ¬ t.k = 1 by omega)) ?_
  refine zB ?_
  iterate 2 refine pA ?_
  refine ar_nil ?_
  refine ag_false rfl (decide_eq_false (show ¬ t.k = 2 by omega)) ?_
  refine ag_seq ?_
  refine zB ?_
  iterate 2 refine pA ?_
  refine ar_nil ?_
  refine ag_true rfl (decide_eq_true (show t.k = 4 by omega)) ?_
  refine ag_skip ?_
  refine ag_true rfl (decide_eq_true (show t.k = 4 by omega)) ?_
  refine zB ?_
  iterate 2 refine pA ?_
  refine pB ?_
  refine ar_ob (w_dPut _ sl tl hr t.inv ht.inv) rfl rfl (obOk_of rfl) rfl rfl rfl rfl (by intro d hd; cases hd; rfl) ?_
  rintro _ sl tl ⟨rfl, hr⟩
  refine ⟨rfl, ?_⟩
  refine ar_nil ?_
  refine ag_reg ?_
  iterate 2 refine pA ?_
  refine pB ?_
  refine ar_ob (w_dPutVar _ sl tl hr t.var ht.var) rfl rfl (obOk_of rfl) rfl rfl rfl rfl (by intro d hd; cases hd; rfl) ?_
  rintro _ sl tl ⟨rfl, hr⟩
  refine ⟨rfl, ?_⟩
  refine ar_nil ?_
  refine ag_inBlock ?_
  refine zB ?_
  refine pA ?_
  refine pB ?_
  iterate 2 refine pA ?_
  refine ar_ent (ent_reg 57 (.r (.bool false)) (by show AVal.r (.bool _) = _; exact eqB (decide_eq_false (show ¬ t.k = 5 by omega)))) ?_
  refine pA ?_
  refine pB ?_
  iterate 2 refine pA ?_
  refine ar_nil ?_
  refine ag_false rfl (decide_eq_false (show ¬ t.k = 6 by omega)) ?_
  refine ag_skip ?_
  refine ag_end tOk Try.func68 rfl rfl (by simp) ?_
  exact ⟨sl, tl, ⟨rfl, hr⟩, ob_is (by decide) rfl⟩
theorem w_rPut4 (w : W) (hw : wok w) (t : TxV) (ht : t.ok) (hk : t.k = 4) : Pur Try.prog 38 [wV w, txA t] (wV (pVar (pInv (pHd w t) t.inv) t.var)) := by
  have h1 := wok_num (n := t.k) hw
  have h2 := wok_num (n := t.f) h1
  have h3 := wok_num (n := t.n) h2
  have h4 := wok_num (n := t.a) h3
  have h5 : wok (pHd w t) := wok_pHd hw
  have h6 : wok (pInv (pHd w t) t.inv) := wok_inv h5
  have h7 : wok (pVar (pInv (pHd w t) t.inv) t.var) := wok_var h6
  refine spec_of_go (N := 68) Try.func38 rfl (by decide) rfl rfl ?_
  refine zB ?_
  iterate 2 refine ar_new tOk rfl rfl rfl trivial ?_
  refine ar_new tOk rfl rfl rfl ?_ ?_
  · simp
  refine zA ?_
  apply ag_draw1 [] (by kernel_rfl) (by kernel_rfl)
  refine aq_load0 tOk rfl (by kernel_rfl) rfl rfl trivial ?_
  refine aq_pure tOk rfl rfl rfl trivial ?_
  refine aq_load0 tOk rfl (by kernel_rfl) rfl rfl trivial ?_
  refine aq_pur (w_rNumC _ _ hw) rfl rfl rfl rfl rfl rfl rfl ?_
  refine aq_pure tOk rfl rfl rfl trivial ?_
  refine aq_load0 tOk rfl (by kernel_rfl) rfl rfl trivial ?_
  refine aq_pur (w_rNumC _ _ h1) rfl rfl rfl rfl rfl rfl rfl ?_
  refine aq_pure tOk rfl rfl rfl trivial ?_
  refine aq_load0 tOk rfl (by kernel_rfl) rfl rfl trivial ?_
  refine aq_pur (w_rNumC _ _ h2) rfl rfl rfl rfl rfl rfl rfl ?_
  refine aq_pure tOk rfl rfl rfl trivial ?_
  refine aq_load0 tOk rfl (by kernel_rfl) rfl rfl trivial ?_
  refine aq_pur (w_rNumC _ _ h3) rfl rfl rfl rfl rfl rfl rfl ?_
  refine aq_pure tOk rfl rfl rfl trivial ?_
  refine aq_load0 tOk rfl (by kernel_rfl) rfl rfl trivial ?_
  refine aq_pur (w_rWideC _ t.m0 t.m1 t.m2 t.m3 ht.m0 ht.m1 ht.m2 ht.m3 h4) rfl rfl rfl rfl rfl rfl rfl ?_
  refine aq_store10 tOk rfl rfl rfl rfl trivial ?_
  refine aq_nil rfl ?_
  refine ag_seq ?_
  refine zB ?_
  refine pA ?_
  refine pB ?_
  refine pA ?_
  refine ar_nil ?_
  refine ag_false rfl (decide_eq_false (show ¬ t.k = 1 by omega)) ?_
  refine ag_skip ?_
  refine ag_seq ?_
  refine zB ?_
  refine pA ?_
  refine pB ?_
  refine pA ?_
  refine ar_nil ?_
  refine ag_false rfl (decide_eq_false (show ¬ t.k = 2 by omega)) ?_
  refine ag_skip ?_
  refine ag_seq ?_
  refine zB ?_
  refine pA ?_
  refine pB ?_
  iterate 2 refine pA ?_
  refine ar_ent (ent_reg 40 (.r (.bool true)) (by show AVal.r (.bool _) = _; exact eqB (decide_eq_true (show t.k ≥ 4 by omega)))) ?_
  refine pA ?_
  refine pB ?_
  iterate 2 refine pA ?_
  refine ar_nil ?_
  refine ag_true rfl (decide_eq_true (show t.k ≤ 6 by omega)) ?_
  apply ag_draw1 [] (by kernel_rfl) (by kernel_rfl)
  refine aq_load0 tOk rfl (by kernel_rfl) rfl rfl trivial ?_
  refine aq_pure tOk rfl rfl rfl trivial ?_
  refine aq_load0 tOk rfl (by kernel_rfl) rfl rfl trivial ?_
  refine aq_pur (w_rPutInv _ h5 t.inv) rfl rfl rfl rfl rfl rfl rfl ?_
  refine aq_pure tOk rfl rfl rfl trivial ?_
  refine aq_load0 tOk rfl (by kernel_rfl) rfl rfl trivial ?_
  refine aq_pur (w_rPutVar _ h6 t.var ht.var) rfl rfl rfl rfl rfl rfl rfl ?_
  refine aq_store10 tOk rfl rfl rfl rfl trivial ?_
  refine aq_nil rfl ?_
  refine ag_seq ?_
  refine zB ?_
  refine pA ?_
  refine pB ?_
  iterate 2 refine pA ?_
  refine ar_ent (ent_reg 55 (.r (.bool false)) (by show AVal.r (.bool _) = _; exact eqB (decide_eq_false (show ¬ t.k = 5 by omega)))) ?_
  refine pA ?_
  refine pB ?_
  iterate 2 refine pA ?_
  refine ar_nil ?_
  refine ag_false rfl (decide_eq_false (show ¬ t.k = 6 by omega)) ?_
  refine ag_skip ?_
  refine zB ?_
  refine pB ?_
  refine ar_store tOk rfl rfl rfl trivial ?_
  refine ar_nil ?_
  refine ag_ret tOk Try.func38 rfl rfl (by first | trivial | exact ⟨trivial, trivial⟩ | simp) ?_
  rfl
theorem w_xPut5 (w : W) (sl : Option (List UInt8)) (tl : List RVal) (hr : oRel w sl tl) (t : TxV) (ht : t.ok) (hk : t.k = 5) : Spec Try.prog 68 [.ptr 0 0, txA t] (obP sl tl) (fun u h' => ∃ sl' tl', OQ (wtxt (wwid (pVar (pInv (pHd w t) t.inv) t.var) t.g0 t.g1 t.g2 t.g3) t.sig) u sl' tl' ∧ ObIs sl' tl' h') := by
  refine spec_of_go (N := 70) Try.func68 rfl (by decide) rfl rfl ?_
  refine ag_ent (ent_ob rfl rfl) ?_
  refine zB ?_
  refine ar_new tOk rfl rfl rfl trivial ?_
  refine ar_nil ?_
  refine ag_ent (ent_same (h' := obAt sl tl 0 2 ⟨4, [(3, some (.mixed ((txC t).map .r)))], false⟩) rfl rfl ⟨rfl, rfl, rfl, trivial⟩) ?_
  refine ag_seq ?_
  refine zB ?_
  refine pA ?_
  refine pB ?_
  refine pA ?_
  refine pB ?_
  refine pA ?_
  refine pB ?_
  refine pA ?_
  refine pB ?_
  refine ar_pure tOk rfl rfl rfl ?_ ?_
  · simp
  refine pA ?_
  refine ar_nil ?_
  refine ag_block ?_
  refine ag_unroll ?_
  refine zB ?_
  refine pA ?_
  refine zA ?_
  refine ag_true rfl (by decide) ?_
  refine ag_skip ?_
  refine ag_seq ?_
  refine ag_block ?_
  refine zB ?_
  refine ar_pure tOk rfl rfl rfl ?_ ?_
  · decide
  refine pA ?_
  refine ar_nil ?_
  refine ag_reg ?_
  iterate 2 refine pA ?_
  refine ar_ob (w_ONum _ t.k sl tl hr) rfl rfl (obOk_of rfl) rfl rfl rfl rfl (by intro d hd; cases hd; rfl) ?_
  rintro _ sl tl ⟨rfl, hr⟩
  refine ⟨rfl, ?_⟩
  refine ar_nil ?_
  refine ag_inBlock ?_
  refine ag_reg ?_
  refine ar_pure tOk rfl rfl rfl ?_ ?_
  · unfold inI64; decide
  refine pA ?_
  refine ar_nil ?_
  refine ag_again ?_
  refine zB ?_
  refine pA ?_
  refine zA ?_
  refine ag_true rfl (by decide) ?_
  refine ag_skip ?_
  refine ag_seq ?_
  refine ag_block ?_
  refine zB ?_
  refine ar_pure tOk rfl rfl rfl ?_ ?_
  · decide
  refine pA ?_
  refine ar_nil ?_
  refine ag_reg ?_
  iterate 2 refine pA ?_
  refine ar_ob (w_ONum _ t.f sl tl hr) rfl rfl (obOk_of rfl) rfl rfl rfl rfl (by intro d hd; cases hd; rfl) ?_
  rintro _ sl tl ⟨rfl, hr⟩
  refine ⟨rfl, ?_⟩
  refine ar_nil ?_
  refine ag_inBlock ?_
  refine ag_reg ?_
  refine ar_pure tOk rfl rfl rfl ?_ ?_
  · unfold inI64; decide
  refine pA ?_
  refine ar_nil ?_
  refine ag_again ?_
  refine zB ?_
  refine pA ?_
  refine zA ?_
  refine ag_true rfl (by decide) ?_
  refine ag_skip ?_
  refine ag_seq ?_
  refine ag_block ?_
  refine zB ?_
  refine ar_pure tOk rfl rfl rfl ?_ ?_
  · decide
  refine pA ?_
  refine ar_nil ?_
  refine ag_reg ?_
  iterate 2 refine pA ?_
  refine ar_ob (w_ONum _ t.n sl tl hr) rfl rfl (obOk_of rfl) rfl rfl rfl rfl (by intro d hd; cases hd; rfl) ?_
  rintro _ sl tl ⟨rfl, hr⟩
  refine ⟨rfl, ?_⟩
  refine ar_nil ?_
  refine ag_inBlock ?_
  refine ag_reg ?_
  refine ar_pure tOk rfl rfl rfl ?_ ?_
  · unfold inI64; decide
  refine pA ?_
  refine ar_nil ?_
  refine ag_again ?_
  refine zB ?_
  refine pA ?_
  refine zA ?_
  refine ag_true rfl (by decide) ?_
  refine ag_skip ?_
  refine ag_seq ?_
  refine ag_block ?_
  refine zB ?_
  refine ar_pure tOk rfl rfl rfl ?_ ?_
  · decide
  refine pA ?_
  refine ar_nil ?_
  refine ag_reg ?_
  iterate 2 refine pA ?_
  refine ar_ob (w_ONum _ t.a sl tl hr) rfl rfl (obOk_of rfl) rfl rfl rfl rfl (by intro d hd; cases hd; rfl) ?_
  rintro _ sl tl ⟨rfl, hr⟩
  refine ⟨rfl, ?_⟩
  refine ar_nil ?_
  refine ag_inBlock ?_
  refine ag_reg ?_
  refine ar_pure tOk rfl rfl rfl ?_ ?_
  · unfold inI64; decide
  refine pA ?_
  refine ar_nil ?_
  refine ag_again ?_
  refine zB ?_
  refine pA ?_
  refine zA ?_
  refine ag_false rfl (by decide) ?_
  refine ag_exit rfl ?_
  refine zB ?_
  iterate 2 refine pA ?_
  refine pB ?_
  refine ar_ob (w_OWide _ t.m0 t.m1 t.m2 t.m3 ht.m0 ht.m1 ht.m2 ht.m3 sl tl hr) rfl rfl (obOk_of rfl) rfl rfl rfl rfl (by intro d hd; cases hd; rfl) ?_
  rintro _ sl tl ⟨rfl, hr⟩
  refine ⟨rfl, ?_⟩
  refine zA ?_
  refine zB ?_
  refine pA ?_
  refine pB ?_
  refine ar_nil ?_
  refine ag_block ?_
  refine zB ?_
  iterate 2 refine pA ?_
  refine ar_nil ?_
  refine ag_false rfl (decide_eq_false (show ¬ t.k = 1 by omega)) ?_
  refine zB ?_
  iterate 2 refine pA ?_
  refine ar_nil ?_
  refine ag_false rfl (decide_eq_false (show ¬ t.k = 2 by omega)) ?_
  refine ag_seq ?_
  refine zB ?_
  iterate 2 refine pA ?_
  refine ar_nil ?_
  refine ag_false rfl (decide_eq_false (show ¬ t.k = 4 by omega)) ?_
  refine zB ?_
  iterate 2 refine pA ?_
  refine ar_nil ?_
  refine ag_true rfl (decide_eq_true (show t.k = 5 by omega)) ?_
  refine ag_skip ?_
  refine ag_true rfl (decide_eq_true (show t.k = 5 by omega)) ?_
  refine zB ?_
  iterate 2 refine pA ?_
  refine pB ?_
  refine ar_ob (w_dPut _ sl tl hr t.inv ht.inv) rfl rfl (obOk_of rfl) rfl rfl rfl rfl (by intro d hd; cases hd; rfl) ?_
  rintro _ sl tl ⟨rfl, hr⟩
  refine ⟨rfl, ?_⟩
  refine ar_nil ?_
  refine ag_reg ?_
  iterate 2 refine pA ?_
  refine pB ?_
  refine ar_ob (w_dPutVar _ sl tl hr t.var ht.var) rfl rfl (obOk_of rfl) rfl rfl rfl rfl (by intro d hd; cases hd; rfl) ?_
  rintro _ sl tl ⟨rfl, hr⟩
  refine ⟨rfl, ?_⟩
  refine ar_nil ?_
  refine ag_inBlock ?_
  refine zB ?_
  refine pA ?_
  refine pB ?_
  iterate 2 refine pA ?_
  refine ar_ent (ent_reg 57 (.r (.bool true)) (by show AVal.r (.bool _) = _; exact eqB (decide_eq_true (show t.k = 5 by omega)))) ?_
  iterate 3 refine ar_skip rfl rfl rfl ?_
  refine pA ?_
  refine ar_nil ?_
  refine ag_true rfl (by rfl) ?_
  refine zB ?_
  iterate 2 refine pA ?_
  refine pB ?_
  refine ar_ob (w_OWide _ t.g0 t.g1 t.g2 t.g3 ht.g0 ht.g1 ht.g2 ht.g3 sl tl hr) rfl rfl (obOk_of rfl) rfl rfl rfl rfl (by intro d hd; cases hd; rfl) ?_
  rintro _ sl tl ⟨rfl, hr⟩
  refine ⟨rfl, ?_⟩
  refine ar_nil ?_
  refine ag_reg ?_
  iterate 2 refine pA ?_
  refine pB ?_
  refine ar_ob (w_OText _ t.sig ht.sig sl tl hr) rfl rfl (obOk_of rfl) rfl rfl rfl rfl (by intro d hd; cases hd; rfl) ?_
  rintro _ sl tl ⟨rfl, hr⟩
  refine ⟨rfl, ?_⟩
  refine ar_nil ?_
  refine ag_end tOk Try.func68 rfl rfl (by simp) ?_
  exact ⟨sl, tl, ⟨rfl, hr⟩, ob_is (by decide) rfl⟩
theorem w_rPut5 (w : W) (hw : wok w) (t : TxV) (ht : t.ok) (hk : t.k = 5) : Pur Try.prog 38 [wV w, txA t] (wV (wtxt (wwid (pVar (pInv (pHd w t) t.inv) t.var) t.g0 t.g1 t.g2 t.g3) t.sig)) := by
  have h1 := wok_num (n := t.k) hw
  have h2 := wok_num (n := t.f) h1
  have h3 := wok_num (n := t.n) h2
  have h4 := wok_num (n := t.a) h3
  have h5 : wok (pHd w t) := wok_pHd hw
  have h6 : wok (pInv (pHd w t) t.inv) := wok_inv h5
  have h7 : wok (pVar (pInv (pHd w t) t.inv) t.var) := wok_var h6
  refine spec_of_go (N := 68) Try.func38 rfl (by decide) rfl rfl ?_
  refine zB ?_
  iterate 2 refine ar_new tOk rfl rfl rfl trivial ?_
  refine ar_new tOk rfl rfl rfl ?_ ?_
  · simp
  refine zA ?_
  apply ag_draw1 [] (by kernel_rfl) (by kernel_rfl)
  refine aq_load0 tOk rfl (by kernel_rfl) rfl rfl trivial ?_
  refine aq_pure tOk rfl rfl rfl trivial ?_
  refine aq_load0 tOk rfl (by kernel_rfl) rfl rfl trivial ?_
  refine aq_pur (w_rNumC _ _ hw) rfl rfl rfl rfl rfl rfl rfl ?_
  refine aq_pure tOk rfl rfl rfl trivial ?_
  refine aq_load0 tOk rfl (by kernel_rfl) rfl rfl trivial ?_
  refine aq_pur (w_rNumC _ _ h1) rfl rfl rfl rfl rfl rfl rfl ?_
  refine aq_pure tOk rfl rfl rfl trivial ?_
  refine aq_load0 tOk rfl (by kernel_rfl) rfl rfl trivial ?_
  refine aq_pur (w_rNumC _ _ h2) rfl rfl rfl rfl rfl rfl rfl ?_
  refine aq_pure tOk rfl rfl rfl trivial ?_
  refine aq_load0 tOk rfl (by kernel_rfl) rfl rfl trivial ?_
  refine aq_pur (w_rNumC _ _ h3) rfl rfl rfl rfl rfl rfl rfl ?_
  refine aq_pure tOk rfl rfl rfl trivial ?_
  refine aq_load0 tOk rfl (by kernel_rfl) rfl rfl trivial ?_
  refine aq_pur (w_rWideC _ t.m0 t.m1 t.m2 t.m3 ht.m0 ht.m1 ht.m2 ht.m3 h4) rfl rfl rfl rfl rfl rfl rfl ?_
  refine aq_store10 tOk rfl rfl rfl rfl trivial ?_
  refine aq_nil rfl ?_
  refine ag_seq ?_
  refine zB ?_
  refine pA ?_
  refine pB ?_
  refine pA ?_
  refine ar_nil ?_
  refine ag_false rfl (decide_eq_false (show ¬ t.k = 1 by omega)) ?_
  refine ag_skip ?_
  refine ag_seq ?_
  refine zB ?_
  refine pA ?_
  refine pB ?_
  refine pA ?_
  refine ar_nil ?_
  refine ag_false rfl (decide_eq_false (show ¬ t.k = 2 by omega)) ?_
  refine ag_skip ?_
  refine ag_seq ?_
  refine zB ?_
  refine pA ?_
  refine pB ?_
  iterate 2 refine pA ?_
  refine ar_ent (ent_reg 40 (.r (.bool true)) (by show AVal.r (.bool _) = _; exact eqB (decide_eq_true (show t.k ≥ 4 by omega)))) ?_
  refine pA ?_
  refine pB ?_
  iterate 2 refine pA ?_
  refine ar_nil ?_
  refine ag_true rfl (decide_eq_true (show t.k ≤ 6 by omega)) ?_
  apply ag_draw1 [] (by kernel_rfl) (by kernel_rfl)
  refine aq_load0 tOk rfl (by kernel_rfl) rfl rfl trivial ?_
  refine aq_pure tOk rfl rfl rfl trivial ?_
  refine aq_load0 tOk rfl (by kernel_rfl) rfl rfl trivial ?_
  refine aq_pur (w_rPutInv _ h5 t.inv) rfl rfl rfl rfl rfl rfl rfl ?_
  refine aq_pure tOk rfl rfl rfl trivial ?_
  refine aq_load0 tOk rfl (by kernel_rfl) rfl rfl trivial ?_
  refine aq_pur (w_rPutVar _ h6 t.var ht.var) rfl rfl rfl rfl rfl rfl rfl ?_
  refine aq_store10 tOk rfl rfl rfl rfl trivial ?_
  refine aq_nil rfl ?_
  refine ag_seq ?_
  refine zB ?_
  refine pA ?_
  refine pB ?_
  iterate 2 refine pA ?_
  refine ar_ent (ent_reg 55 (.r (.bool true)) (by show AVal.r (.bool _) = _; exact eqB (decide_eq_true (show t.k = 5 by omega)))) ?_
  iterate 3 refine ar_skip rfl rfl rfl ?_
  refine pA ?_
  refine ar_nil ?_
  refine ag_true rfl (by rfl) ?_
  apply ag_draw1 [] (by kernel_rfl) (by kernel_rfl)
  refine aq_load0 tOk rfl (by kernel_rfl) rfl rfl trivial ?_
  refine aq_pure tOk rfl rfl rfl trivial ?_
  refine aq_load0 tOk rfl (by kernel_rfl) rfl rfl trivial ?_
  refine aq_pur (w_rWideC _ t.g0 t.g1 t.g2 t.g3 ht.g0 ht.g1 ht.g2 ht.g3 h7) rfl rfl rfl rfl rfl rfl rfl ?_
  refine aq_pure tOk rfl rfl rfl trivial ?_
  refine aq_load0 tOk rfl (by kernel_rfl) rfl rfl trivial ?_
  refine aq_pur (w_rTextC _ _ (wok_wid h7)) rfl rfl rfl rfl rfl rfl rfl ?_
  refine aq_store10 tOk rfl rfl rfl rfl trivial ?_
  refine aq_nil rfl ?_
  refine zB ?_
  refine pB ?_
  refine ar_store tOk rfl rfl rfl trivial ?_
  refine ar_nil ?_
  refine ag_ret tOk Try.func38 rfl rfl (by first | trivial | exact ⟨trivial, trivial⟩ | simp) ?_
  rfl
theorem w_xPut6 (w : W) (sl : Option (List UInt8)) (tl : List RVal) (hr : oRel w sl tl) (t : TxV) (ht : t.ok) (hk : t.k = 6) : Spec Try.prog 68 [.ptr 0 0, txA t] (obP sl tl) (fun u h' => ∃ sl' tl', OQ (wtxt (wwid (pVar (pInv (pHd w t) t.inv) t.var) t.g0 t.g1 t.g2 t.g3) t.sig) u sl' tl' ∧ ObIs sl' tl' h') := by
  refine spec_of_go (N := 70) Try.func68 rfl (by decide) rfl rfl ?_
  refine ag_ent (ent_ob rfl rfl) ?_
  refine zB ?_
  refine ar_new tOk rfl rfl rfl trivial ?_
  refine ar_nil ?_
  refine ag_ent (ent_same (h' := obAt sl tl 0 2 ⟨4, [(3, some (.mixed ((txC t).map .r)))], false⟩) rfl rfl ⟨rfl, rfl, rfl, trivial⟩) ?_
  refine ag_seq ?_
  refine zB ?_
  refine pA ?_
  refine pB ?_
  refine pA ?_
  refine pB ?_
  refine pA ?_
  refine pB ?_
  refine pA ?_
  refine pB ?_
  refine ar_pure tOk rfl rfl rfl ?_ ?_
  · simp
  refine pA ?_
  refine ar_nil ?_
  refine ag_block ?_
  refine ag_unroll ?_
  refine zB ?_
  refine pA ?_
  refine zA ?_
  refine ag_true rfl (by decide) ?_
  refine ag_skip ?_
  refine ag_seq ?_
  refine ag_block ?_
  refine zB ?_
  refine ar_pure tOk rfl rfl rfl ?_ ?_
  · decide
  refine pA ?_
  refine ar_nil ?_
  refine ag_reg ?_
  iterate 2 refine pA ?_
  refine ar_ob (w_ONum _ t.k sl tl hr) rfl rfl (obOk_of rfl) rfl rfl rfl rfl (by intro d hd; cases hd; rfl) ?_
  rintro _ sl tl ⟨rfl, hr⟩
  refine ⟨rfl, ?_⟩
  refine ar_nil ?_
  refine ag_inBlock ?_
  refine ag_reg ?_
  refine ar_pure tOk rfl rfl rfl ?_ ?_
  · unfold inI64; decide
  refine pA ?_
  refine ar_nil ?_
  refine ag_again ?_
  refine zB ?_
  refine pA ?_
  refine zA ?_
  refine ag_true rfl (by decide) ?_
  refine ag_skip ?_
  refine ag_seq ?_
  refine ag_block ?_
  refine zB ?_
  refine ar_pure tOk rfl rfl rfl ?_ ?_
  · decide
  refine pA ?_
  refine ar_nil ?_
  refine ag_reg ?_
  iterate 2 refine pA ?_
  refine ar_ob (w_ONum _ t.f sl tl hr) rfl rfl (obOk_of rfl) rfl rfl rfl rfl (by intro d hd; cases hd; rfl) ?_
  rintro _ sl tl ⟨rfl, hr⟩
  refine ⟨rfl, ?_⟩
  refine ar_nil ?_
  refine ag_inBlock ?_
  refine ag_reg ?_
  refine ar_pure tOk rfl rfl rfl ?_ ?_
  · unfold inI64; decide
  refine pA ?_
  refine ar_nil ?_
  refine ag_again ?_
  refine zB ?_
  refine pA ?_
  refine zA ?_
  refine ag_true rfl (by decide) ?_
  refine ag_skip ?_
  refine ag_seq ?_
  refine ag_block ?_
  refine zB ?_
  refine ar_pure tOk rfl rfl rfl ?_ ?_
  · decide
  refine pA ?_
  refine ar_nil ?_
  refine ag_reg ?_
  iterate 2 refine pA ?_
  refine ar_ob (w_ONum _ t.n sl tl hr) rfl rfl (obOk_of rfl) rfl rfl rfl rfl (by intro d hd; cases hd; rfl) ?_
  rintro _ sl tl ⟨rfl, hr⟩
  refine ⟨rfl, ?_⟩
  refine ar_nil ?_
  refine ag_inBlock ?_
  refine ag_reg ?_
  refine ar_pure tOk rfl rfl rfl ?_ ?_
  · unfold inI64; decide
  refine pA ?_
  refine ar_nil ?_
  refine ag_again ?_
  refine zB ?_
  refine pA ?_
  refine zA ?_
  refine ag_true rfl (by decide) ?_
  refine ag_skip ?_
  refine ag_seq ?_
  refine ag_block ?_
  refine zB ?_
  refine ar_pure tOk rfl rfl rfl ?_ ?_
  · decide
  refine pA ?_
  refine ar_nil ?_
  refine ag_reg ?_
  iterate 2 refine pA ?_
  refine ar_ob (w_ONum _ t.a sl tl hr) rfl rfl (obOk_of rfl) rfl rfl rfl rfl (by intro d hd; cases hd; rfl) ?_
  rintro _ sl tl ⟨rfl, hr⟩
  refine ⟨rfl, ?_⟩
  refine ar_nil ?_
  refine ag_inBlock ?_
  refine ag_reg ?_
  refine ar_pure tOk rfl rfl rfl ?_ ?_
  · unfold inI64; decide
  refine pA ?_
  refine ar_nil ?_
  refine ag_again ?_
  refine zB ?_
  refine pA ?_
  refine zA ?_
  refine ag_false rfl (by decide) ?_
  refine ag_exit rfl ?_
  refine zB ?_
  iterate 2 refine pA ?_
  refine pB ?_
  refine ar_ob (w_OWide _ t.m0 t.m1 t.m2 t.m3 ht.m0 ht.m1 ht.m2 ht.m3 sl tl hr) rfl rfl (obOk_of rfl) rfl rfl rfl rfl (by intro d hd; cases hd; rfl) ?_
  rintro _ sl tl ⟨rfl, hr⟩
  refine ⟨rfl, ?_⟩
  refine zA ?_
  refine zB ?_
  refine pA ?_
  refine pB ?_
  refine ar_nil ?_
  refine ag_block ?_
  refine zB ?_
  iterate 2 refine pA ?_
  refine ar_nil ?_
  refine ag_false rfl (decide_eq_false (show ¬ t.k = 1 by omega)) ?_
  refine zB ?_
  iterate 2 refine pA ?_
  refine ar_nil ?_
  refine ag_false rfl (decide_eq_false (show ¬ t.k = 2 by omega)) ?_
  refine ag_seq ?_
  refine zB ?_
  iterate 2 refine pA ?_
  refine ar_nil ?_
  refine ag_false rfl (decide_eq_false (show ¬ t.k = 4 by omega)) ?_
  refine zB ?_
  iterate 2 refine pA ?_
  refine ar_nil ?_
  refine ag_false rfl (decide_eq_false (show ¬ t.k = 5 by omega)) ?_
  refine ag_reg ?_
  iterate 2 refine pA ?_
  refine ar_nil ?_
  refine ag_true rfl (decide_eq_true (show t.k = 6 by omega)) ?_
  refine zB ?_
  iterate 2 refine pA ?_
  refine pB ?_
  refine ar_ob (w_dPut _ sl tl hr t.inv ht.inv) rfl rfl (obOk_of rfl) rfl rfl rfl rfl (by intro d hd; cases hd; rfl) ?_
  rintro _ sl tl ⟨rfl, hr⟩
  refine ⟨rfl, ?_⟩
  refine ar_nil ?_
  refine ag_reg ?_
  iterate 2 refine pA ?_
  refine pB ?_
  refine ar_ob (w_dPutVar _ sl tl hr t.var ht.var) rfl rfl (obOk_of rfl) rfl rfl rfl rfl (by intro d hd; cases hd; rfl) ?_
  rintro _ sl tl ⟨rfl, hr⟩
  refine ⟨rfl, ?_⟩
  refine ar_nil ?_
  refine ag_inBlock ?_
  refine zB ?_
  refine pA ?_
  refine pB ?_
  iterate 2 refine pA ?_
  refine ar_ent (ent_reg 57 (.r (.bool false)) (by show AVal.r (.bool _) = _; exact eqB (decide_eq_false (show ¬ t.k = 5 by omega)))) ?_
  refine pA ?_
  refine pB ?_
  iterate 2 refine pA ?_
  refine ar_nil ?_
  refine ag_true rfl (decide_eq_true (show t.k = 6 by omega)) ?_
  refine zB ?_
  iterate 2 refine pA ?_
  refine pB ?_
  refine ar_ob (w_OWide _ t.g0 t.g1 t.g2 t.g3 ht.g0 ht.g1 ht.g2 ht.g3 sl tl hr) rfl rfl (obOk_of rfl) rfl rfl rfl rfl (by intro d hd; cases hd; rfl) ?_
  rintro _ sl tl ⟨rfl, hr⟩
  refine ⟨rfl, ?_⟩
  refine ar_nil ?_
  refine ag_reg ?_
  iterate 2 refine pA ?_
  refine pB ?_
  refine ar_ob (w_OText _ t.sig ht.sig sl tl hr) rfl rfl (obOk_of rfl) rfl rfl rfl rfl (by intro d hd; cases hd; rfl) ?_
  rintro _ sl tl ⟨rfl, hr⟩
  refine ⟨rfl, ?_⟩
  refine ar_nil ?_
  refine ag_end tOk Try.func68 rfl rfl (by simp) ?_
  exact ⟨sl, tl, ⟨rfl, hr⟩, ob_is (by decide) rfl⟩
theorem w_rPut6 (w : W) (hw : wok w) (t : TxV) (ht : t.ok) (hk : t.k = 6) : Pur Try.prog 38 [wV w, txA t] (wV (wtxt (wwid (pVar (pInv (pHd w t) t.inv) t.var) t.g0 t.g1 t.g2 t.g3) t.sig)) := by
  have h1 := wok_num (n := t.k) hw
  have h2 := wok_num (n := t.f) h1
  have h3 := wok_num (n := t.n) h2
  have h4 := wok_num (n := t.a) h3
  have h5 : wok (pHd w t) := wok_pHd hw
  have h6 : wok (pInv (pHd w t) t.inv) := wok_inv h5
  have h7 : wok (pVar (pInv (pHd w t) t.inv) t.var) := wok_var h6
  refine spec_of_go (N := 68) Try.func38 rfl (by decide) rfl rfl ?_
  refine zB ?_
  iterate 2 refine ar_new tOk rfl rfl rfl trivial ?_
  refine ar_new tOk rfl rfl rfl ?_ ?_
  · simp
  refine zA ?_
  apply ag_draw1 [] (by kernel_rfl) (by kernel_rfl)
  refine aq_load0 tOk rfl (by kernel_rfl) rfl rfl trivial ?_
  refine aq_pure tOk rfl rfl rfl trivial ?_
  refine aq_load0 tOk rfl (by kernel_rfl) rfl rfl trivial ?_
  refine aq_pur (w_rNumC _ _ hw) rfl rfl rfl rfl rfl rfl rfl ?_
  refine aq_pure tOk rfl rfl rfl trivial ?_
  refine aq_load0 tOk rfl (by kernel_rfl) rfl rfl trivial ?_
  refine aq_pur (w_rNumC _ _ h1) rfl rfl rfl rfl rfl rfl rfl ?_
  refine aq_pure tOk rfl rfl rfl trivial ?_
  refine aq_load0 tOk rfl (by kernel_rfl) rfl rfl trivial ?_
  refine aq_pur (w_rNumC _ _ h2) rfl rfl rfl rfl rfl rfl rfl ?_
  refine aq_pure tOk rfl rfl rfl trivial ?_
  refine aq_load0 tOk rfl (by kernel_rfl) rfl rfl trivial ?_
  refine aq_pur (w_rNumC _ _ h3) rfl rfl rfl rfl rfl rfl rfl ?_
  refine aq_pure tOk rfl rfl rfl trivial ?_
  refine aq_load0 tOk rfl (by kernel_rfl) rfl rfl trivial ?_
  refine aq_pur (w_rWideC _ t.m0 t.m1 t.m2 t.m3 ht.m0 ht.m1 ht.m2 ht.m3 h4) rfl rfl rfl rfl rfl rfl rfl ?_
  refine aq_store10 tOk rfl rfl rfl rfl trivial ?_
  refine aq_nil rfl ?_
  refine ag_seq ?_
  refine zB ?_
  refine pA ?_
  refine pB ?_
  refine pA ?_
  refine ar_nil ?_
  refine ag_false rfl (decide_eq_false (show ¬ t.k = 1 by omega)) ?_
  refine ag_skip ?_
  refine ag_seq ?_
  refine zB ?_
  refine pA ?_
  refine pB ?_
  refine pA ?_
  refine ar_nil ?_
  refine ag_false rfl (decide_eq_false (show ¬ t.k = 2 by omega)) ?_
  refine ag_skip ?_
  refine ag_seq ?_
  refine zB ?_
  refine pA ?_
  refine pB ?_
  iterate 2 refine pA ?_
  refine ar_ent (ent_reg 40 (.r (.bool true)) (by show AVal.r (.bool _) = _; exact eqB (decide_eq_true (show t.k ≥ 4 by omega)))) ?_
  refine pA ?_
  refine pB ?_
  iterate 2 refine pA ?_
  refine ar_nil ?_
  refine ag_true rfl (decide_eq_true (show t.k ≤ 6 by omega)) ?_
  apply ag_draw1 [] (by kernel_rfl) (by kernel_rfl)
  refine aq_load0 tOk rfl (by kernel_rfl) rfl rfl trivial ?_
  refine aq_pure tOk rfl rfl rfl trivial ?_
  refine aq_load0 tOk rfl (by kernel_rfl) rfl rfl trivial ?_
  refine aq_pur (w_rPutInv _ h5 t.inv) rfl rfl rfl rfl rfl rfl rfl ?_
  refine aq_pure tOk rfl rfl rfl trivial ?_
  refine aq_load0 tOk rfl (by kernel_rfl) rfl rfl trivial ?_
  refine aq_pur (w_rPutVar _ h6 t.var ht.var) rfl rfl rfl rfl rfl rfl rfl ?_
  refine aq_store10 tOk rfl rfl rfl rfl trivial ?_
  refine aq_nil rfl ?_
  refine ag_seq ?_
  refine zB ?_
  refine pA ?_
  refine pB ?_
  iterate 2 refine pA ?_
  refine ar_ent (ent_reg 55 (.r (.bool false)) (by show AVal.r (.bool _) = _; exact eqB (decide_eq_false (show ¬ t.k = 5 by omega)))) ?_
  refine pA ?_
  refine pB ?_
  iterate 2 refine pA ?_
  refine ar_nil ?_
  refine ag_true rfl (decide_eq_true (show t.k = 6 by omega)) ?_
  apply ag_draw1 [] (by kernel_rfl) (by kernel_rfl)
  refine aq_load0 tOk rfl (by kernel_rfl) rfl rfl trivial ?_
  refine aq_pure tOk rfl rfl rfl trivial ?_
  refine aq_load0 tOk rfl (by kernel_rfl) rfl rfl trivial ?_
  refine aq_pur (w_rWideC _ t.g0 t.g1 t.g2 t.g3 ht.g0 ht.g1 ht.g2 ht.g3 h7) rfl rfl rfl rfl rfl rfl rfl ?_
  refine aq_pure tOk rfl rfl rfl trivial ?_
  refine aq_load0 tOk rfl (by kernel_rfl) rfl rfl trivial ?_
  refine aq_pur (w_rTextC _ _ (wok_wid h7)) rfl rfl rfl rfl rfl rfl rfl ?_
  refine aq_store10 tOk rfl rfl rfl rfl trivial ?_
  refine aq_nil rfl ?_
  refine zB ?_
  refine pB ?_
  refine ar_store tOk rfl rfl rfl trivial ?_
  refine ar_nil ?_
  refine ag_ret tOk Try.func38 rfl rfl (by first | trivial | exact ⟨trivial, trivial⟩ | simp) ?_
  rfl
theorem w_xPut0 (w : W) (sl : Option (List UInt8)) (tl : List RVal) (hr : oRel w sl tl) (t : TxV) (ht : t.ok) (hk : t.k < 1 ∨ t.k = 3 ∨ t.k > 6) : Spec Try.prog 68 [.ptr 0 0, txA t] (obP sl tl) (fun u h' => ∃ sl' tl', OQ (pHd w t) u sl' tl' ∧ ObIs sl' tl' h') := by
  refine spec_of_go (N := 70) Try.func68 rfl (by decide) rfl rfl ?_
  refine ag_ent (ent_ob rfl rfl) ?_
  refine zB ?_
  refine ar_new tOk rfl rfl rfl trivial ?_
  refine ar_nil ?_
  refine ag_ent (ent_same (h' := obAt sl tl 0 2 ⟨4, [(3, some (.mixed ((txC t).map .r)))], false⟩) rfl rfl ⟨rfl, rfl, rfl, trivial⟩) ?_
  refine ag_seq ?_
  refine zB ?_
  refine pA ?_
  refine pB ?_
  refine pA ?_
  refine pB ?_
  refine pA ?_
  refine pB ?_
  refine pA ?_
  refine pB ?_
  refine ar_pure tOk rfl rfl rfl ?_ ?_
  · simp
  refine pA ?_
  refine ar_nil ?_
  refine ag_block ?_
  refine ag_unroll ?_
  refine zB ?_
  refine pA ?_
  refine zA ?_
  refine ag_true rfl (by decide) ?_
  refine ag_skip ?_
  refine ag_seq ?_
  refine ag_block ?_
  refine zB ?_
  refine ar_pure tOk rfl rfl rfl ?_ ?_
  · decide
  refine pA ?_
  refine ar_nil ?_
  refine ag_reg ?_
  iterate 2 refine pA ?_
  refine ar_ob (w_ONum _ t.k sl tl hr) rfl rfl (obOk_of rfl) rfl rfl rfl rfl (by intro d hd; cases hd; rfl) ?_
  rintro _ sl tl ⟨rfl, hr⟩
  refine ⟨rfl, ?_⟩
  refine ar_nil ?_
  refine ag_inBlock ?_
  refine ag_reg ?_
  refine ar_pure tOk rfl rfl rfl ?_ ?_
  · unfold inI64; decide
  refine pA ?_
  refine ar_nil ?_
  refine ag_again ?_
  refine zB ?_
  refine pA ?_
  refine zA ?_
  refine ag_true rfl (by decide) ?_
  refine ag_skip ?_
  refine ag_seq ?_
  refine ag_block ?_
  refine zB ?_
  refine ar_pure tOk rfl rfl rfl ?_ ?_
  · decide
  refine pA ?_
  refine ar_nil ?_
  refine ag_reg ?_
  iterate 2 refine pA ?_
  refine ar_ob (w_ONum _ t.f sl tl hr) rfl rfl (obOk_of rfl) rfl rfl rfl rfl (by intro d hd; cases hd; rfl) ?_
  rintro _ sl tl ⟨rfl, hr⟩
  refine ⟨rfl, ?_⟩
  refine ar_nil ?_
  refine ag_inBlock ?_
  refine ag_reg ?_
  refine ar_pure tOk rfl rfl rfl ?_ ?_
  · unfold inI64; decide
  refine pA ?_
  refine ar_nil ?_
  refine ag_again ?_
  refine zB ?_
  refine pA ?_
  refine zA ?_
  refine ag_true rfl (by decide) ?_
  refine ag_skip ?_
  refine ag_seq ?_
  refine ag_block ?_
  refine zB ?_
  refine ar_pure tOk rfl rfl rfl ?_ ?_
  · decide
  refine pA ?_
  refine ar_nil ?_
  refine ag_reg ?_
  iterate 2 refine pA ?_
  refine ar_ob (w_ONum _ t.n sl tl hr) rfl rfl (obOk_of rfl) rfl rfl rfl rfl (by intro d hd; cases hd; rfl) ?_
  rintro _ sl tl ⟨rfl, hr⟩
  refine ⟨rfl, ?_⟩
  refine ar_nil ?_
  refine ag_inBlock ?_
  refine ag_reg ?_
  refine ar_pure tOk rfl rfl rfl ?_ ?_
  · unfold inI64; decide
  refine pA ?_
  refine ar_nil ?_
  refine ag_again ?_
  refine zB ?_
  refine pA ?_
  refine zA ?_
  refine ag_true rfl (by decide) ?_
  refine ag_skip ?_
  refine ag_seq ?_
  refine ag_block ?_
  refine zB ?_
  refine ar_pure tOk rfl rfl rfl ?_ ?_
  · decide
  refine pA ?_
  refine ar_nil ?_
  refine ag_reg ?_
  iterate 2 refine pA ?_
  refine ar_ob (w_ONum _ t.a sl tl hr) rfl rfl (obOk_of rfl) rfl rfl rfl rfl (by intro d hd; cases hd; rfl) ?_
  rintro _ sl tl ⟨rfl, hr⟩
  refine ⟨rfl, ?_⟩
  refine ar_nil ?_
  refine ag_inBlock ?_
  refine ag_reg ?_
  refine ar_pure tOk rfl rfl rfl ?_ ?_
  · unfold inI64; decide
  refine pA ?_
  refine ar_nil ?_
  refine ag_again ?_
  refine zB ?_
  refine pA ?_
  refine zA ?_
  refine ag_false rfl (by decide) ?_
  refine ag_exit rfl ?_
  refine zB ?_
  iterate 2 refine pA ?_
  refine pB ?_
  refine ar_ob (w_OWide _ t.m0 t.m1 t.m2 t.m3 ht.m0 ht.m1 ht.m2 ht.m3 sl tl hr) rfl rfl (obOk_of rfl) rfl rfl rfl rfl (by intro d hd; cases hd; rfl) ?_
  rintro _ sl tl ⟨rfl, hr⟩
  refine ⟨rfl, ?_⟩
  refine zA ?_
  refine zB ?_
  refine pA ?_
  refine pB ?_
  refine ar_nil ?_
  refine ag_block ?_
  refine zB ?_
  iterate 2 refine pA ?_
  refine ar_nil ?_
  refine ag_false rfl (decide_eq_false (show ¬ t.k = 1 by omega)) ?_
  refine zB ?_
  iterate 2 refine pA ?_
  refine ar_nil ?_
  refine ag_false rfl (decide_eq_false (show ¬ t.k = 2 by omega)) ?_
  refine ag_seq ?_
  refine zB ?_
  iterate 2 refine pA ?_
  refine ar_nil ?_
  refine ag_false rfl (decide_eq_false (show ¬ t.k = 4 by omega)) ?_
  refine zB ?_
  iterate 2 refine pA ?_
  refine ar_nil ?_
  refine ag_false rfl (decide_eq_false (show ¬ t.k = 5 by omega)) ?_
  refine ag_reg ?_
  iterate 2 refine pA ?_
  refine ar_nil ?_
  refine ag_false rfl (decide_eq_false (show ¬ t.k = 6 by omega)) ?_
  refine ag_skip ?_
  refine ag_inBlock ?_
  refine zB ?_
  refine pA ?_
  refine pB ?_
  iterate 2 refine pA ?_
  refine ar_ent (ent_reg 57 (.r (.bool false)) (by show AVal.r (.bool _) = _; exact eqB (decide_eq_false (show ¬ t.k = 5 by omega)))) ?_
  refine pA ?_
  refine pB ?_
  iterate 2 refine pA ?_
  refine ar_nil ?_
  refine ag_false rfl (decide_eq_false (show ¬ t.k = 6 by omega)) ?_
  refine ag_skip ?_
  refine ag_end tOk Try.func68 rfl rfl (by simp) ?_
  exact ⟨sl, tl, ⟨rfl, hr⟩, ob_is (by decide) rfl⟩
theorem w_rPut0 (w : W) (hw : wok w) (t : TxV) (ht : t.ok) (hk : t.k < 1 ∨ t.k = 3 ∨ t.k > 6) : Pur Try.prog 38 [wV w, txA t] (wV (pHd w t)) := by
  have h1 := wok_num (n := t.k) hw
  have h2 := wok_num (n := t.f) h1
  have h3 := wok_num (n := t.n) h2
  have h4 := wok_num (n := t.a) h3
  have h5 : wok (pHd w t) := wok_pHd hw
  have h6 : wok (pInv (pHd w t) t.inv) := wok_inv h5
  have h7 : wok (pVar (pInv (pHd w t) t.inv) t.var) := wok_var h6
  refine spec_of_go (N := 68) Try.func38 rfl (by decide) rfl rfl ?_
  refine zB ?_
  iterate 2 refine ar_new tOk rfl rfl rfl trivial ?_
  refine ar_new tOk rfl rfl rfl ?_ ?_
  · simp
  refine zA ?_
  apply ag_draw1 [] (by kernel_rfl) (by kernel_rfl)
  refine aq_load0 tOk rfl (by kernel_rfl) rfl rfl trivial ?_
  refine aq_pure tOk rfl rfl rfl trivial ?_
  refine aq_load0 tOk rfl (by kernel_rfl) rfl rfl trivial ?_
  refine aq_pur (w_rNumC _ _ hw) rfl rfl rfl rfl rfl rfl rfl ?_
  refine aq_pure tOk rfl rfl rfl trivial ?_
  refine aq_load0 tOk rfl (by kernel_rfl) rfl rfl trivial ?_
  refine aq_pur (w_rNumC _ _ h1) rfl rfl rfl rfl rfl rfl rfl ?_
  refine aq_pure tOk rfl rfl rfl trivial ?_
  refine aq_load0 tOk rfl (by kernel_rfl) rfl rfl trivial ?_
  refine aq_pur (w_rNumC _ _ h2) rfl rfl rfl rfl rfl rfl rfl ?_
  refine aq_pure tOk rfl rfl rfl trivial ?_
  refine aq_load0 tOk rfl (by kernel_rfl) rfl rfl trivial ?_
  refine aq_pur (w_rNumC _ _ h3) rfl rfl rfl rfl rfl rfl rfl ?_
  refine aq_pure tOk rfl rfl rfl trivial ?_
  refine aq_load0 tOk rfl (by kernel_rfl) rfl rfl trivial ?_
  refine aq_pur (w_rWideC _ t.m0 t.m1 t.m2 t.m3 ht.m0 ht.m1 ht.m2 ht.m3 h4) rfl rfl rfl rfl rfl rfl rfl ?_
  refine aq_store10 tOk rfl rfl rfl rfl trivial ?_
  refine aq_nil rfl ?_
  refine ag_seq ?_
  refine zB ?_
  refine pA ?_
  refine pB ?_
  refine pA ?_
  refine ar_nil ?_
  refine ag_false rfl (decide_eq_false (show ¬ t.k = 1 by omega)) ?_
  refine ag_skip ?_
  refine ag_seq ?_
  refine zB ?_
  refine pA ?_
  refine pB ?_
  refine pA ?_
  refine ar_nil ?_
  refine ag_false rfl (decide_eq_false (show ¬ t.k = 2 by omega)) ?_
  refine ag_skip ?_
  refine ag_seq ?_
  refine zB ?_
  refine pA ?_
  refine pB ?_
  iterate 2 refine pA ?_
  refine ar_guard (t := decide (t.k ≥ 4)) (fun ht => ?_) (fun ht => ?_)
  · refine ar_ent (ent_reg 40 (.r (.bool true)) (by show AVal.r (.bool _) = _; exact eqB ht)) ?_
    have hq := of_decide_eq_true ht
    refine pA ?_
    refine pB ?_
    iterate 2 refine pA ?_
    refine ar_nil ?_
    refine ag_false rfl (decide_eq_false (show ¬ t.k ≤ 6 by omega)) ?_
    refine ag_skip ?_
    refine ag_seq ?_
    refine zB ?_
    refine pA ?_
    refine pB ?_
    iterate 2 refine pA ?_
    refine ar_ent (ent_reg 55 (.r (.bool false)) (by show AVal.r (.bool _) = _; exact eqB (decide_eq_false (show ¬ t.k = 5 by omega)))) ?_
    refine pA ?_
    refine pB ?_
    iterate 2 refine pA ?_
    refine ar_nil ?_
    refine ag_false rfl (decide_eq_false (show ¬ t.k = 6 by omega)) ?_
    refine ag_skip ?_
    refine zB ?_
    refine pB ?_
    refine ar_store tOk rfl rfl rfl trivial ?_
    refine ar_nil ?_
    refine ag_ret tOk Try.func38 rfl rfl (by first | trivial | exact ⟨trivial, trivial⟩ | simp) ?_
    rfl
  · refine ar_ent (ent_reg 40 (.r (.bool false)) (by show AVal.r (.bool _) = _; exact eqB ht)) ?_
    have hq := of_decide_eq_false ht
    repeat (first | refine ar_skip rfl rfl rfl ?_ | refine ar_pure tOk rfl rfl rfl trivial ?_)
    refine ar_nil ?_
    refine ag_false rfl (by rfl) ?_
    refine ag_skip ?_
    refine ag_seq ?_
    refine zB ?_
    refine pA ?_
    refine pB ?_
    iterate 2 refine pA ?_
    refine ar_ent (ent_reg 55 (.r (.bool false)) (by show AVal.r (.bool _) = _; exact eqB (decide_eq_false (show ¬ t.k = 5 by omega)))) ?_
    refine pA ?_
    refine pB ?_
    iterate 2 refine pA ?_
    refine ar_nil ?_
    refine ag_false rfl (decide_eq_false (show ¬ t.k = 6 by omega)) ?_
    refine ag_skip ?_
    refine zB ?_
    refine pB ?_
    refine ar_store tOk rfl rfl rfl trivial ?_
    refine ar_nil ?_
    refine ag_ret tOk Try.func38 rfl rfl (by first | trivial | exact ⟨trivial, trivial⟩ | simp) ?_
    rfl
end Go.Proofs.Ytancdgbclbkpkaa


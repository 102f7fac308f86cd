/-
  WALKS: transactions put and read, by kinds. (Printed by gen.py out of w_txs2.py.)
-/
import Derived.Test.YtbofioheoohlgaaDeal2
import Derived.Test.YtbofioheoohlgaaTxs
namespace Go.Proofs.Ytbofioheoohlgaa
open Go
set_option maxRecDepth 20000
set_option linter.unusedVariables false
set_option linter.unusedSimpArgs false

def pHd (w : W) (t : TxV) : W := wwid (wnum (wnum (wnum (wnum w t.k) t.f) t.n) t.a) t.m0 t.m1 t.m2 t.m3
def pTx (w : W) (t : TxV) : W :=
  if t.k = 1 then wnum (pHd w t) t.inv.t else if t.k = 2 then wnum (pHd w t) t.inv.r
  else if t.k = 4 then pVar (pInv (pHd w t) t.inv) t.var
  else if t.k = 5 ∨ t.k = 6 then wtxt (wwid (pVar (pInv (pHd w t) t.inv) t.var) t.g0 t.g1 t.g2 t.g3) t.sig else pHd w t
def hdA (a b c d : Int × W) (e : List UInt8 × W) (i : InvV) (v : VarV) : TxV := ⟨b.1, c.1, a.1, d.1, fB e.1 24 8, fB e.1 16 8, fB e.1 8 8, fB e.1 0 8, i, v, 0, 0, 0, 0, []⟩
def hdB (a b c d : Int × W) (e : List UInt8 × W) (i : InvV) (v : VarV) (g s : List UInt8) : TxV := ⟨b.1, c.1, a.1, d.1, fB e.1 24 8, fB e.1 16 8, fB e.1 8 8, fB e.1 0 8, i, v, fB g 24 8, fB g 16 8, fB g 8 8, fB g 0 8, s⟩
def gTxsV (t : TxV) (r : W) : TxV × W := if r.2 ≠ 0 ∨ txE t ≠ 0 then (tx0, spR r) else (t, r)
def gTxs (w : W) : TxV × W :=
  let a := gNu w M40
  let b := gNu a.2 M40
  let c := gNu b.2 M40
  let d := gNu c.2 M40
  let e := tkR d.2 32
  if a.1 = 1 then
    let f := gNu e.2 M40
    gTxsV (hdA a b c d e ⟨0, [], 0, 0, 0, f.1, []⟩ var0) f.2
  else if a.1 = 2 then
    let f := gNu e.2 M40
    gTxsV (hdA a b c d e ⟨0, [], f.1, 0, 0, 0, []⟩ var0) f.2
  else if a.1 = 4 then
    let i := gInv e.2
    let j := gVar i.2
    gTxsV (hdA a b c d e i.1 j.1) j.2
  else if a.1 = 5 ∨ a.1 = 6 then
    let i := gInv e.2
    let j := gVar i.2
    let g := tkR j.2 32
    let s := gTx g.2 1024
    gTxsV (hdB a b c d e i.1 j.1 g.1 s.1) s.2
  else gTxsV (hdA a b c d e inv0 var0) e.2
theorem wok_pHd {w : W} {t : TxV} (h : wok w) : wok (pHd w t) := wok_wid (wok_num (wok_num (wok_num (wok_num h))))
theorem wok_pTx {w : W} {t : TxV} (h : wok w) : wok (pTx w t) := by
  have h0 := wok_pHd (t := t) h
  unfold pTx
  repeat' split
  · exact wok_num h0
  · exact wok_num h0
  · exact wok_var (wok_inv h0)
  · exact wok_txt (wok_wid (wok_var (wok_inv h0)))
  · exact h0

theorem w_xPut1 (w : W) (sl : Option (List UInt8)) (tl : List RVal) (hr : oRel w sl tl) (t : TxV) (ht : t.ok) (hk : t.k = 1) : Spec Try.prog 37 [.ptr 0 0, txA t] (obP sl tl) (fun u h' => ∃ sl' tl', OQ (wnum (pHd w t) t.inv.t) u sl' tl' ∧ ObIs sl' tl' h') := by
  refine spec_of_go (N := 70) Try.func37 rfl (by decide) rfl rfl ?_
  refine ag_ent (ent_ob rfl rfl) ?_
  refine z2 ?_
  refine ar_new tOk rfl rfl rfl trivial ?_
  refine ar_nil ?_
  refine ag_ent (ent_same (h' := obAt sl tl 0 2 ⟨4, [(3, some (.mixed ((txC t).map .r)))], false⟩) rfl rfl ⟨rfl, rfl, rfl, trivial⟩) ?_
  refine ag_seq ?_
  refine z2 ?_
  refine p1 ?_
  refine p2 ?_
  refine p1 ?_
  refine p2 ?_
  refine p1 ?_
  refine p2 ?_
  refine p1 ?_
  refine p2 ?_
  refine ar_pure tOk rfl rfl rfl ?_ ?_
  · simp
  refine p1 ?_
  refine ar_nil ?_
  refine ag_block ?_
  refine ag_unroll ?_
  refine z2 ?_
  refine p1 ?_
  refine z1 ?_
  refine ag_true rfl (by decide) ?_
  refine ag_skip ?_
  refine ag_seq ?_
  refine ag_block ?_
  refine z2 ?_
  refine ar_pure tOk rfl rfl rfl ?_ ?_
  · decide
  refine p1 ?_
  refine ar_nil ?_
  refine ag_reg ?_
  iterate 2 refine p1 ?_
  refine ar_ob (w_ONum _ t.k sl tl hr) rfl rfl (obOk_of rfl) rfl rfl rfl rfl (by intro d hd; cases hd; rfl) ?_
  rintro _ sl tl ⟨rfl, hr⟩
  refine ⟨rfl, ?_⟩
  refine ar_nil ?_
  refine ag_inBlock ?_
  refine ag_reg ?_
  refine ar_pure tOk rfl rfl rfl ?_ ?_
  · unfold inI64; decide
  refine p1 ?_
  refine ar_nil ?_
  refine ag_again ?_
  refine z2 ?_
  refine p1 ?_
  refine z1 ?_
  refine ag_true rfl (by decide) ?_
  refine ag_skip ?_
  refine ag_seq ?_
  refine ag_block ?_
  refine z2 ?_
  refine ar_pure tOk rfl rfl rfl ?_ ?_
  · decide
  refine p1 ?_
  refine ar_nil ?_
  refine ag_reg ?_
  iterate 2 refine p1 ?_
  refine ar_ob (w_ONum _ t.f sl tl hr) rfl rfl (obOk_of rfl) rfl rfl rfl rfl (by intro d hd; cases hd; rfl) ?_
  rintro _ sl tl ⟨rfl, hr⟩
  refine ⟨rfl, ?_⟩
  refine ar_nil ?_
  refine ag_inBlock ?_
  refine ag_reg ?_
  refine ar_pure tOk rfl rfl rfl ?_ ?_
  · unfold inI64; decide
  refine p1 ?_
  refine ar_nil ?_
  refine ag_again ?_
  refine z2 ?_
  refine p1 ?_
  refine z1 ?_
  refine ag_true rfl (by decide) ?_
  refine ag_skip ?_
  refine ag_seq ?_
  refine ag_block ?_
  refine z2 ?_
  refine ar_pure tOk rfl rfl rfl ?_ ?_
  · decide
  refine p1 ?_
  refine ar_nil ?_
  refine ag_reg ?_
  iterate 2 refine p1 ?_
  refine ar_ob (w_ONum _ t.n sl tl hr) rfl rfl (obOk_of rfl) rfl rfl rfl rfl (by intro d hd; cases hd; rfl) ?_
  rintro _ sl tl ⟨rfl, hr⟩
  refine ⟨rfl, ?_⟩
  refine ar_nil ?_
  refine ag_inBlock ?_
  refine ag_reg ?_
  refine ar_pure tOk rfl rfl rfl ?_ ?_
  · unfold inI64; decide
  refine p1 ?_
  refine ar_nil ?_
  refine ag_again ?_
  refine z2 ?_
  refine p1 ?_
  refine z1 ?_
  refine ag_true rfl (by decide) ?_
  refine ag_skip ?_
  refine ag_seq ?_
  refine ag_block ?_
  refine z2 ?_
  refine ar_pure tOk rfl rfl rfl ?_ ?_
  · decide
  refine p1 ?_
  refine ar_nil ?_
  refine ag_reg ?_
  iterate 2 refine p1 ?_
  refine ar_ob (w_ONum _ t.a sl tl hr) rfl rfl (obOk_of rfl) rfl rfl rfl rfl (by intro d hd; cases hd; rfl) ?_
  rintro _ sl tl ⟨rfl, hr⟩
  refine ⟨rfl, ?_⟩
  refine ar_nil ?_
  refine ag_inBlock ?_
  refine ag_reg ?_
  refine ar_pure tOk rfl rfl rfl ?_ ?_
  · unfold inI64; decide
  refine p1 ?_
  refine ar_nil ?_
  refine ag_again ?_
  refine z2 ?_
  refine p1 ?_
  refine z1 ?_
  refine ag_false rfl (by decide) ?_
  refine ag_exit rfl ?_
  refine z2 ?_
  iterate 2 refine p1 ?_
  refine p2 ?_
  refine ar_ob (w_OWide _ t.m0 t.m1 t.m2 t.m3 ht.m0 ht.m1 ht.m2 ht.m3 sl tl hr) rfl rfl (obOk_of rfl) rfl rfl rfl rfl (by intro d hd; cases hd; rfl) ?_
  rintro _ sl tl ⟨rfl, hr⟩
  refine ⟨rfl, ?_⟩
  refine z1 ?_
  refine z2 ?_
  refine p1 ?_
  refine p2 ?_
  refine ar_nil ?_
  refine ag_block ?_
  refine z2 ?_
  iterate 2 refine p1 ?_
  refine ar_nil ?_
  refine ag_true rfl (decide_eq_true (show t.k = 1 by omega)) ?_
  refine ag_reg ?_
  iterate 3 refine p1 ?_
  refine p2 ?_
  refine ar_ob (w_ONum _ t.inv.t sl tl hr) rfl rfl (obOk_of rfl) rfl rfl rfl rfl (by intro d hd; cases hd; rfl) ?_
  rintro _ sl tl ⟨rfl, hr⟩
  refine ⟨rfl, ?_⟩
  refine ar_nil ?_
  refine ag_inBlock ?_
  refine z2 ?_
  refine p1 ?_
  refine p2 ?_
  iterate 2 refine p1 ?_
  refine ar_ent (ent_reg 57 (.r (.bool false)) (by show AVal.r (.bool _) = _; exact eqB (decide_eq_false (show ¬ t.k = 5 by omega)))) ?_
  refine p1 ?_
  refine p2 ?_
  iterate 2 refine p1 ?_
  refine ar_nil ?_
  refine ag_false rfl (decide_eq_false (show ¬ t.k = 6 by omega)) ?_
  refine ag_skip ?_
  refine ag_end tOk Try.func37 rfl rfl (by simp) ?_
  exact ⟨sl, tl, ⟨rfl, hr⟩, ob_is (by decide) rfl⟩

theorem w_rPut1 (w : W) (hw : wok w) (t : TxV) (ht : t.ok) (hk : t.k = 1) : Pur Try.prog 38 [wV w, txA t] (wV (wnum (pHd w t) t.inv.t)) := by
  have h1 := wok_num (n := t.k) hw
  have h2 := wok_num (n := t.f) h1
  have h3 := wok_num (n := t.n) h2
  have h4 := wok_num (n := t.a) h3
  have h5 : wok (pHd w t) := wok_pHd hw
  have h6 : wok (pInv (pHd w t) t.inv) := wok_inv h5
  have h7 : wok (pVar (pInv (pHd w t) t.inv) t.var) := wok_var h6
  refine spec_of_go (N := 68) Try.func38 rfl (by decide) rfl rfl ?_
  refine z2 ?_
  iterate 2 refine ar_new tOk rfl rfl rfl trivial ?_
  refine ar_new tOk rfl rfl rfl ?_ ?_
  · simp
  refine z1 ?_
  apply ag_draw1 [] (by kernel_rfl) (by kernel_rfl)
  refine aq_load0 tOk rfl (by kernel_rfl) rfl rfl trivial ?_
  refine aq_pure tOk rfl rfl rfl trivial ?_
  refine aq_load0 tOk rfl (by kernel_rfl) rfl rfl trivial ?_
  refine aq_pur (w_rNumC _ _ hw) rfl rfl rfl rfl rfl rfl rfl ?_
  refine aq_pure tOk rfl rfl rfl trivial ?_
  refine aq_load0 tOk rfl (by kernel_rfl) rfl rfl trivial ?_
  refine aq_pur (w_rNumC _ _ h1) rfl rfl rfl rfl rfl rfl rfl ?_
  refine aq_pure tOk rfl rfl rfl trivial ?_
  refine aq_load0 tOk rfl (by kernel_rfl) rfl rfl trivial ?_
  refine aq_pur (w_rNumC _ _ h2) rfl rfl rfl rfl rfl rfl rfl ?_
  refine aq_pure tOk rfl rfl rfl trivial ?_
  refine aq_load0 tOk rfl (by kernel_rfl) rfl rfl trivial ?_
  refine aq_pur (w_rNumC _ _ h3) rfl rfl rfl rfl rfl rfl rfl ?_
  refine aq_pure tOk rfl rfl rfl trivial ?_
  refine aq_load0 tOk rfl (by kernel_rfl) rfl rfl trivial ?_
  refine aq_pur (w_rWideC _ t.m0 t.m1 t.m2 t.m3 ht.m0 ht.m1 ht.m2 ht.m3 h4) rfl rfl rfl rfl rfl rfl rfl ?_
  refine aq_store10 tOk rfl rfl rfl rfl trivial ?_
  refine aq_nil rfl ?_
  refine ag_seq ?_
  refine z2 ?_
  refine p1 ?_
  refine p2 ?_
  refine p1 ?_
  refine ar_nil ?_
  refine ag_true rfl (decide_eq_true (show t.k = 1 by omega)) ?_
  refine ag_reg ?_
  refine p2 ?_
  iterate 2 refine p1 ?_
  refine p2 ?_
  refine ar_pur (w_rNumC _ _ h5) rfl rfl rfl rfl rfl rfl rfl ?_
  refine ar_store tOk rfl rfl rfl trivial ?_
  refine z1 ?_
  refine z2 ?_
  refine p1 ?_
  refine p2 ?_
  refine p1 ?_
  refine ar_nil ?_
  refine ag_false rfl (decide_eq_false (show ¬ t.k = 2 by omega)) ?_
  refine ag_skip ?_
  refine ag_seq ?_
  refine z2 ?_
  refine p1 ?_
  refine p2 ?_
  iterate 2 refine p1 ?_
  refine ar_ent (ent_reg 40 (.r (.bool false)) (by show AVal.r (.bool _) = _; exact eqB (decide_eq_false (show ¬ t.k ≥ 4 by omega)))) ?_
  iterate 3 refine ar_skip rfl rfl rfl ?_
  refine p1 ?_
  refine ar_nil ?_
  refine ag_false rfl (by rfl) ?_
  refine ag_skip ?_
  refine ag_seq ?_
  refine z2 ?_
  refine p1 ?_
  refine p2 ?_
  iterate 2 refine p1 ?_
  refine ar_ent (ent_reg 55 (.r (.bool false)) (by show AVal.r (.bool _) = _; exact eqB (decide_eq_false (show ¬ t.k = 5 by omega)))) ?_
  refine p1 ?_
  refine p2 ?_
  iterate 2 refine p1 ?_
  refine ar_nil ?_
  refine ag_false rfl (decide_eq_false (show ¬ t.k = 6 by omega)) ?_
  refine ag_skip ?_
  refine z2 ?_
  refine p2 ?_
  refine ar_store tOk rfl rfl rfl trivial ?_
  refine ar_nil ?_
  refine ag_ret tOk Try.func38 rfl rfl (by first | trivial | exact ⟨trivial, trivial⟩ | simp) ?_
  rfl

theorem w_xPut2 (w : W) (sl : Option (List UInt8)) (tl : List RVal) (hr : oRel w sl tl) (t : TxV) (ht : t.ok) (hk : t.k = 2) : Spec Try.prog 37 [.ptr 0 0, txA t] (obP sl tl) (fun u h' => ∃ sl' tl', OQ (wnum (pHd w t) t.inv.r) u sl' tl' ∧ ObIs sl' tl' h') := by
  refine spec_of_go (N := 70) Try.func37 rfl (by decide) rfl rfl ?_
  refine ag_ent (ent_ob rfl rfl) ?_
  refine z2 ?_
  refine ar_new tOk rfl rfl rfl trivial ?_
  refine ar_nil ?_
  refine ag_ent (ent_same (h' := obAt sl tl 0 2 ⟨4, [(3, some (.mixed ((txC t).map .r)))], false⟩) rfl rfl ⟨rfl, rfl, rfl, trivial⟩) ?_
  refine ag_seq ?_
  refine z2 ?_
  refine p1 ?_
  refine p2 ?_
  refine p1 ?_
  refine p2 ?_
  refine p1 ?_
  refine p2 ?_
  refine p1 ?_
  refine p2 ?_
  refine ar_pure tOk rfl rfl rfl ?_ ?_
  · simp
  refine p1 ?_
  refine ar_nil ?_
  refine ag_block ?_
  refine ag_unroll ?_
  refine z2 ?_
  refine p1 ?_
  refine z1 ?_
  refine ag_true rfl (by decide) ?_
  refine ag_skip ?_
  refine ag_seq ?_
  refine ag_block ?_
  refine z2 ?_
  refine ar_pure tOk rfl rfl rfl ?_ ?_
  · decide
  refine p1 ?_
  refine ar_nil ?_
  refine ag_reg ?_
  iterate 2 refine p1 ?_
  refine ar_ob (w_ONum _ t.k sl tl hr) rfl rfl (obOk_of rfl) rfl rfl rfl rfl (by intro d hd; cases hd; rfl) ?_
  rintro _ sl tl ⟨rfl, hr⟩
  refine ⟨rfl, ?_⟩
  refine ar_nil ?_
  refine ag_inBlock ?_
  refine ag_reg ?_
  refine ar_pure tOk rfl rfl rfl ?_ ?_
  · unfold inI64; decide
  refine p1 ?_
  refine ar_nil ?_
  refine ag_again ?_
  refine z2 ?_
  refine p1 ?_
  refine z1 ?_
  refine ag_true rfl (by decide) ?_
  refine ag_skip ?_
  refine ag_seq ?_
  refine ag_block ?_
  refine z2 ?_
  refine ar_pure tOk rfl rfl rfl ?_ ?_
  · decide
  refine p1 ?_
  refine ar_nil ?_
  refine ag_reg ?_
  iterate 2 refine p1 ?_
  refine ar_ob (w_ONum _ t.f sl tl hr) rfl rfl (obOk_of rfl) rfl rfl rfl rfl (by intro d hd; cases hd; rfl) ?_
  rintro _ sl tl ⟨rfl, hr⟩
  refine ⟨rfl, ?_⟩
  refine ar_nil ?_
  refine ag_inBlock ?_
  refine ag_reg ?_
  refine ar_pure tOk rfl rfl rfl ?_ ?_
  · unfold inI64; decide
  refine p1 ?_
  refine ar_nil ?_
  refine ag_again ?_
  refine z2 ?_
  refine p1 ?_
  refine z1 ?_
  refine ag_true rfl (by decide) ?_
  refine ag_skip ?_
  refine ag_seq ?_
  refine ag_block ?_
  refine z2 ?_
  refine ar_pure tOk rfl rfl rfl ?_ ?_
  · decide
  refine p1 ?_
  refine ar_nil ?_
  refine ag_reg ?_
  iterate 2 refine p1 ?_
  refine ar_ob (w_ONum _ t.n sl tl hr) rfl rfl (obOk_of rfl) rfl rfl rfl rfl (by intro d hd; cases hd; rfl) ?_
  rintro _ sl tl ⟨rfl, hr⟩
  refine ⟨rfl, ?_⟩
  refine ar_nil ?_
  refine ag_inBlock ?_
  refine ag_reg ?_
  refine ar_pure tOk rfl rfl rfl ?_ ?_
  · unfold inI64; decide
  refine p1 ?_
  refine ar_nil ?_
  refine ag_again ?_
  refine z2 ?_
  refine p1 ?_
  refine z1 ?_
  refine ag_true rfl (by decide) ?_
  refine ag_skip ?_
  refine ag_seq ?_
  refine ag_block ?_
  refine z2 ?_
  refine ar_pure tOk rfl rfl rfl ?_ ?_
  · decide
  refine p1 ?_
  refine ar_nil ?_
  refine ag_reg ?_
  iterate 2 refine p1 ?_
  refine ar_ob (w_ONum _ t.a sl tl hr) rfl rfl (obOk_of rfl) rfl rfl rfl rfl (by intro d hd; cases hd; rfl) ?_
  rintro _ sl tl ⟨rfl, hr⟩
  refine ⟨rfl, ?_⟩
  refine ar_nil ?_
  refine ag_inBlock ?_
  refine ag_reg ?_
  refine ar_pure tOk rfl rfl rfl ?_ ?_
  · unfold inI64; decide
  refine p1 ?_
  refine ar_nil ?_
  refine ag_again ?_
  refine z2 ?_
  refine p1 ?_
  refine z1 ?_
  refine ag_false rfl (by decide) ?_
  refine ag_exit rfl ?_
  refine z2 ?_
  iterate 2 refine p1 ?_
  refine p2 ?_
  refine ar_ob (w_OWide _ t.m0 t.m1 t.m2 t.m3 ht.m0 ht.m1 ht.m2 ht.m3 sl tl hr) rfl rfl (obOk_of rfl) rfl rfl rfl rfl (by intro d hd; cases hd; rfl) ?_
  rintro _ sl tl ⟨rfl, hr⟩
  refine ⟨rfl, ?_⟩
  refine z1 ?_
  refine z2 ?_
  refine p1 ?_
  refine p2 ?_
  refine ar_nil ?_
  refine ag_block ?_
  refine z2 ?_
  iterate 2 refine p1 ?_
  refine ar_nil ?_
  refine ag_false rfl (decide_eq_false (show ¬ t.k = 1 by omega)) ?_
  refine z2 ?_
  iterate 2 refine p1 ?_
  refine ar_nil ?_
  refine ag_true rfl (decide_eq_true (show t.k = 2 by omega)) ?_
  refine ag_reg ?_
  iterate 3 refine p1 ?_
  refine p2 ?_
  refine ar_ob (w_ONum _ t.inv.r sl tl hr) rfl rfl (obOk_of rfl) rfl rfl rfl rfl (by intro d hd; cases hd; rfl) ?_
  rintro _ sl tl ⟨rfl, hr⟩
  refine ⟨rfl, ?_⟩
  refine ar_nil ?_
  refine ag_inBlock ?_
  refine z2 ?_
  refine p1 ?_
  refine p2 ?_
  iterate 2 refine p1 ?_
  refine ar_ent (ent_reg 57 (.r (.bool false)) (by show AVal.r (.bool _) = _; exact eqB (decide_eq_false (show ¬ t.k = 5 by omega)))) ?_
  refine p1 ?_
  refine p2 ?_
  iterate 2 refine p1 ?_
  refine ar_nil ?_
  refine ag_false rfl (decide_eq_false (show ¬ t.k = 6 by omega)) ?_
  refine ag_skip ?_
  refine ag_end tOk Try.func37 rfl rfl (by simp) ?_
  exact ⟨sl, tl, ⟨rfl, hr⟩, ob_is (by decide) rfl⟩

theorem w_rPut2 (w : W) (hw : wok w) (t : TxV) (ht : t.ok) (hk : t.k = 2) : Pur Try.prog 38 [wV w, txA t] (wV (wnum (pHd w t) t.inv.r)) := by
  have h1 := wok_num (n := t.k) hw
  have h2 := wok_num (n := t.f) h1
  have h3 := wok_num (n := t.n) h2
  have h4 := wok_num (n := t.a) h3
  have h5 : wok (pHd w t) := wok_pHd hw
  have h6 : wok (pInv (pHd w t) t.inv) := wok_inv h5
  have h7 : wok (pVar (pInv (pHd w t) t.inv) t.var) := wok_var h6
  refine spec_of_go (N := 68) Try.func38 rfl (by decide) rfl rfl ?_
  refine z2 ?_
  iterate 2 refine ar_new tOk rfl rfl rfl trivial ?_
  refine ar_new tOk rfl rfl rfl ?_ ?_
  · simp
  refine z1 ?_
  apply ag_draw1 [] (by kernel_rfl) (by kernel_rfl)
  refine aq_load0 tOk rfl (by kernel_rfl) rfl rfl trivial ?_
  refine aq_pure tOk rfl rfl rfl trivial ?_
  refine aq_load0 tOk rfl (by kernel_rfl) rfl rfl trivial ?_
  refine aq_pur (w_rNumC _ _ hw) rfl rfl rfl rfl rfl rfl rfl ?_
  refine aq_pure tOk rfl rfl rfl trivial ?_
  refine aq_load0 tOk rfl (by kernel_rfl) rfl rfl trivial ?_
  refine aq_pur (w_rNumC _ _ h1) rfl rfl rfl rfl rfl rfl rfl ?_
  refine aq_pure tOk rfl rfl rfl trivial ?_
  refine aq_load0 tOk rfl (by kernel_rfl) rfl rfl trivial ?_
  refine aq_pur (w_rNumC _ _ h2) rfl rfl rfl rfl rfl rfl rfl ?_
  refine aq_pure tOk rfl rfl rfl trivial ?_
  refine aq_load0 tOk rfl (by kernel_rfl) rfl rfl trivial ?_
  refine aq_pur (w_rNumC _ _ h3) rfl rfl rfl rfl rfl rfl rfl ?_
  refine aq_pure tOk rfl rfl rfl trivial ?_
  refine aq_load0 tOk rfl (by kernel_rfl) rfl rfl trivial ?_
  refine aq_pur (w_rWideC _ t.m0 t.m1 t.m2 t.m3 ht.m0 ht.m1 ht.m2 ht.m3 h4) rfl rfl rfl rfl rfl rfl rfl ?_
  refine aq_store10 tOk rfl rfl rfl rfl trivial ?_
  refine aq_nil rfl ?_
  refine ag_seq ?_
  refine z2 ?_
  refine p1 ?_
  refine p2 ?_
  refine p1 ?_
  refine ar_nil ?_
  refine ag_false rfl (decide_eq_false (show ¬ t.k = 1 by omega)) ?_
  refine ag_skip ?_
  refine ag_seq ?_
  refine z2 ?_
  refine p1 ?_
  refine p2 ?_
  refine p1 ?_
  refine ar_nil ?_
  refine ag_true rfl (decide_eq_true (show t.k = 2 by omega)) ?_
  refine ag_reg ?_
  refine p2 ?_
  iterate 2 refine p1 ?_
  refine p2 ?_
  refine ar_pur (w_rNumC _ _ h5) rfl rfl rfl rfl rfl rfl rfl ?_
  refine ar_store tOk rfl rfl rfl trivial ?_
  refine z1 ?_
  refine z2 ?_
  refine p1 ?_
  refine p2 ?_
  iterate 2 refine p1 ?_
  refine ar_ent (ent_reg 40 (.r (.bool false)) (by show AVal.r (.bool _) = _; exact eqB (decide_eq_false (show ¬ t.k ≥ 4 by omega)))) ?_
  iterate 3 refine ar_skip rfl rfl rfl ?_
  refine p1 ?_
  refine ar_nil ?_
  refine ag_false rfl (by rfl) ?_
  refine ag_skip ?_
  refine ag_seq ?_
  refine z2 ?_
  refine p1 ?_
  refine p2 ?_
  iterate 2 refine p1 ?_
  refine ar_ent (ent_reg 55 (.r (.bool false)) (by show AVal.r (.bool _) = _; exact eqB (decide_eq_false (show ¬ t.k = 5 by omega)))) ?_
  refine p1 ?_
  refine p2 ?_
  iterate 2 refine p1 ?_
  refine ar_nil ?_
  refine ag_false rfl (decide_eq_false (show ¬ t.k = 6 by omega)) ?_
  refine ag_skip ?_
  refine z2 ?_
  refine p2 ?_
  refine ar_store tOk rfl rfl rfl trivial ?_
  refine ar_nil ?_
  refine ag_ret tOk Try.func38 rfl rfl (by first | trivial | exact ⟨trivial, trivial⟩ | simp) ?_
  rfl

theorem w_xPut4 (w : W) (sl : Option (List UInt8)) (tl : List RVal) (hr : oRel w sl tl) (t : TxV) (ht : t.ok) (hk : t.k = 4) : Spec Try.prog 37 [.ptr 0 0, txA t] (obP sl tl) (fun u h' => ∃ sl' tl', OQ (pVar (pInv (pHd w t) t.inv) t.var) u sl' tl' ∧ ObIs sl' tl' h') := by
  refine spec_of_go (N := 70) Try.func37 rfl (by decide) rfl rfl ?_
  refine ag_ent (ent_ob rfl rfl) ?_
  refine z2 ?_
  refine ar_new tOk rfl rfl rfl trivial ?_
  refine ar_nil ?_
  refine ag_ent (ent_same (h' := obAt sl tl 0 2 ⟨4, [(3, some (.mixed ((txC t).map .r)))], false⟩) rfl rfl ⟨rfl, rfl, rfl, trivial⟩) ?_
  refine ag_seq ?_
  refine z2 ?_
  refine p1 ?_
  refine p2 ?_
  refine p1 ?_
  refine p2 ?_
  refine p1 ?_
  refine p2 ?_
  refine p1 ?_
  refine p2 ?_
  refine ar_pure tOk rfl rfl rfl ?_ ?_
  · simp
  refine p1 ?_
  refine ar_nil ?_
  refine ag_block ?_
  refine ag_unroll ?_
  refine z2 ?_
  refine p1 ?_
  refine z1 ?_
  refine ag_true rfl (by decide) ?_
  refine ag_skip ?_
  refine ag_seq ?_
  refine ag_block ?_
  refine z2 ?_
  refine ar_pure tOk rfl rfl rfl ?_ ?_
  · decide
  refine p1 ?_
  refine ar_nil ?_
  refine ag_reg ?_
  iterate 2 refine p1 ?_
  refine ar_ob (w_ONum _ t.k sl tl hr) rfl rfl (obOk_of rfl) rfl rfl rfl rfl (by intro d hd; cases hd; rfl) ?_
  rintro _ sl tl ⟨rfl, hr⟩
  refine ⟨rfl, ?_⟩
  refine ar_nil ?_
  refine ag_inBlock ?_
  refine ag_reg ?_
  refine ar_pure tOk rfl rfl rfl ?_ ?_
  · unfold inI64; decide
  refine p1 ?_
  refine ar_nil ?_
  refine ag_again ?_
  refine z2 ?_
  refine p1 ?_
  refine z1 ?_
  refine ag_true rfl (by decide) ?_
  refine ag_skip ?_
  refine ag_seq ?_
  refine ag_block ?_
  refine z2 ?_
  refine ar_pure tOk rfl rfl rfl ?_ ?_
  · decide
  refine p1 ?_
  refine ar_nil ?_
  refine ag_reg ?_
  iterate 2 refine p1 ?_
  refine ar_ob (w_ONum _ t.f sl tl hr) rfl rfl (obOk_of rfl) rfl rfl rfl rfl (by intro d hd; cases hd; rfl) ?_
  rintro _ sl tl ⟨rfl, hr⟩
  refine ⟨rfl, ?_⟩
  refine ar_nil ?_
  refine ag_inBlock ?_
  refine ag_reg ?_
  refine ar_pure tOk rfl rfl rfl ?_ ?_
  · unfold inI64; decide
  refine p1 ?_
  refine ar_nil ?_
  refine ag_again ?_
  refine z2 ?_
  refine p1 ?_
  refine z1 ?_
  refine ag_true rfl (by decide) ?_
  refine ag_skip ?_
  refine ag_seq ?_
  refine ag_block ?_
  refine z2 ?_
  refine ar_pure tOk rfl rfl rfl ?_ ?_
  · decide
  refine p1 ?_
  refine ar_nil ?_
  refine ag_reg ?_
  iterate 2 refine p1 ?_
  refine ar_ob (w_ONum _ t.n sl tl hr) rfl rfl (obOk_of rfl) rfl rfl rfl rfl (by intro d hd; cases hd; rfl) ?_
  rintro _ sl tl ⟨rfl, hr⟩
  refine ⟨rfl, ?_⟩
  refine ar_nil ?_
  refine ag_inBlock ?_
  refine ag_reg ?_
  refine ar_pure tOk rfl rfl rfl ?_ ?_
  · unfold inI64; decide
  refine p1 ?_
  refine ar_nil ?_
  refine ag_again ?_
  refine z2 ?_
  refine p1 ?_
  refine z1 ?_
  refine ag_true rfl (by decide) ?_
  refine ag_skip ?_
  refine ag_seq ?_
  refine ag_block ?_
  refine z2 ?_
  refine ar_pure tOk rfl rfl rfl ?_ ?_
  · decide
  refine p1 ?_
  refine ar_nil ?_
  refine ag_reg ?_
  iterate 2 refine p1 ?_
  refine ar_ob (w_ONum _ t.a sl tl hr) rfl rfl (obOk_of rfl) rfl rfl rfl rfl (by intro d hd; cases hd; rfl) ?_
  rintro _ sl tl ⟨rfl, hr⟩
  refine ⟨rfl, ?_⟩
  refine ar_nil ?_
  refine ag_inBlock ?_
  refine ag_reg ?_
  refine ar_pure tOk rfl rfl rfl ?_ ?_
  · unfold inI64; decide
  refine p1 ?_
  refine ar_nil ?_
  refine ag_again ?_
  refine z2 ?_
  refine p1 ?_
  refine z1 ?_
  refine ag_false rfl (by decide) ?_
  refine ag_exit rfl ?_
  refine z2 ?_
  iterate 2 refine p1 ?_
  refine p2 ?_
  refine ar_ob (w_OWide _ t.m0 t.m1 t.m2 t.m3 ht.m0 ht.m1 ht.m2 ht.m3 sl tl hr) rfl rfl (obOk_of rfl) rfl rfl rfl rfl (by intro d hd; cases hd; rfl) ?_
  rintro _ sl tl ⟨rfl, hr⟩
  refine ⟨rfl, ?_⟩
  refine z1 ?_
  refine z2 ?_
  refine p1 ?_
  refine p2 ?_
  refine ar_nil ?_
  refine ag_block ?_
  refine z2 ?_
  iterate 2 refine p1 ?_
  refine ar_nil ?_
  refine ag_false rfl (decide_eq_false (show ¬ t.k = 1 by omega)) ?_
  refine z2 ?_
  iterate 2 refine p1 ?_
  refine ar_nil ?_
  refine ag_false rfl (decide_eq_false (show ¬ t.k = 2 by omega)) ?_
  refine ag_seq ?_
  refine z2 ?_
  iterate 2 refine p1 ?_
  refine ar_nil ?_
  refine ag_true rfl (decide_eq_true (show t.k = 4 by omega)) ?_
  refine ag_skip ?_
  refine ag_true rfl (decide_eq_true (show t.k = 4 by omega)) ?_
  refine z2 ?_
  iterate 2 refine p1 ?_
  refine p2 ?_
  refine ar_ob (w_dPut _ sl tl hr t.inv ht.inv) rfl rfl (obOk_of rfl) rfl rfl rfl rfl (by intro d hd; cases hd; rfl) ?_
  rintro _ sl tl ⟨rfl, hr⟩
  refine ⟨rfl, ?_⟩
  refine ar_nil ?_
  refine ag_reg ?_
  iterate 2 refine p1 ?_
  refine p2 ?_
  refine ar_ob (w_dPutVar _ sl tl hr t.var ht.var) rfl rfl (obOk_of rfl) rfl rfl rfl rfl (by intro d hd; cases hd; rfl) ?_
  rintro _ sl tl ⟨rfl, hr⟩
  refine ⟨rfl, ?_⟩
  refine ar_nil ?_
  refine ag_inBlock ?_
  refine z2 ?_
  refine p1 ?_
  refine p2 ?_
  iterate 2 refine p1 ?_
  refine ar_ent (ent_reg 57 (.r (.bool false)) (by show AVal.r (.bool _) = _; exact eqB (decide_eq_false (show ¬ t.k = 5 by omega)))) ?_
  refine p1 ?_
  refine p2 ?_
  iterate 2 refine p1 ?_
  refine ar_nil ?_
  refine ag_false rfl (decide_eq_false (show ¬ t.k = 6 by omega)) ?_
  refine ag_skip ?_
  refine ag_end tOk Try.func37 rfl rfl (by simp) ?_
  exact ⟨sl, tl, ⟨rfl, hr⟩, ob_is (by decide) rfl⟩

theorem w_rPut4 (w : W) (hw : wok w) (t : TxV) (ht : t.ok) (hk : t.k = 4) : Pur Try.prog 38 [wV w, txA t] (wV (pVar (pInv (pHd w t) t.inv) t.var)) := by
  have h1 := wok_num (n := t.k) hw
  have h2 := wok_num (n := t.f) h1
  have h3 := wok_num (n := t.n) h2
  have h4 := wok_num (n := t.a) h3
  have h5 : wok (pHd w t) := wok_pHd hw
  have h6 : wok (pInv (pHd w t) t.inv) := wok_inv h5
  have h7 : wok (pVar (pInv (pHd w t) t.inv) t.var) := wok_var h6
  refine spec_of_go (N := 68) Try.func38 rfl (by decide) rfl rfl ?_
  refine z2 ?_
  iterate 2 refine ar_new tOk rfl rfl rfl trivial ?_
  refine ar_new tOk rfl rfl rfl ?_ ?_
  · simp
  refine z1 ?_
  apply ag_draw1 [] (by kernel_rfl) (by kernel_rfl)
  refine aq_load0 tOk rfl (by kernel_rfl) rfl rfl trivial ?_
  refine aq_pure tOk rfl rfl rfl trivial ?_
  refine aq_load0 tOk rfl (by kernel_rfl) rfl rfl trivial ?_
  refine aq_pur (w_rNumC _ _ hw) rfl rfl rfl rfl rfl rfl rfl ?_
  refine aq_pure tOk rfl rfl rfl trivial ?_
  refine aq_load0 tOk rfl (by kernel_rfl) rfl rfl trivial ?_
  refine aq_pur (w_rNumC _ _ h1) rfl rfl rfl rfl rfl rfl rfl ?_
  refine aq_pure tOk rfl rfl rfl trivial ?_
  refine aq_load0 tOk rfl (by kernel_rfl) rfl rfl trivial ?_
  refine aq_pur (w_rNumC _ _ h2) rfl rfl rfl rfl rfl rfl rfl ?_
  refine aq_pure tOk rfl rfl rfl trivial ?_
  refine aq_load0 tOk rfl (by kernel_rfl) rfl rfl trivial ?_
  refine aq_pur (w_rNumC _ _ h3) rfl rfl rfl rfl rfl rfl rfl ?_
  refine aq_pure tOk rfl rfl rfl trivial ?_
  refine aq_load0 tOk rfl (by kernel_rfl) rfl rfl trivial ?_
  refine aq_pur (w_rWideC _ t.m0 t.m1 t.m2 t.m3 ht.m0 ht.m1 ht.m2 ht.m3 h4) rfl rfl rfl rfl rfl rfl rfl ?_
  refine aq_store10 tOk rfl rfl rfl rfl trivial ?_
  refine aq_nil rfl ?_
  refine ag_seq ?_
  refine z2 ?_
  refine p1 ?_
  refine p2 ?_
  refine p1 ?_
  refine ar_nil ?_
  refine ag_false rfl (decide_eq_false (show ¬ t.k = 1 by omega)) ?_
  refine ag_skip ?_
  refine ag_seq ?_
  refine z2 ?_
  refine p1 ?_
  refine p2 ?_
  refine p1 ?_
  refine ar_nil ?_
  refine ag_false rfl (decide_eq_false (show ¬ t.k = 2 by omega)) ?_
  refine ag_skip ?_
  refine ag_seq ?_
  refine z2 ?_
  refine p1 ?_
  refine p2 ?_
  iterate 2 refine p1 ?_
  refine ar_ent (ent_reg 40 (.r (.bool true)) (by show AVal.r (.bool _) = _; exact eqB (decide_eq_true (show t.k ≥ 4 by omega)))) ?_
  refine p1 ?_
  refine p2 ?_
  iterate 2 refine p1 ?_
  refine ar_nil ?_
  refine ag_true rfl (decide_eq_true (show t.k ≤ 6 by omega)) ?_
  apply ag_draw1 [] (by kernel_rfl) (by kernel_rfl)
  refine aq_load0 tOk rfl (by kernel_rfl) rfl rfl trivial ?_
  refine aq_pure tOk rfl rfl rfl trivial ?_
  refine aq_load0 tOk rfl (by kernel_rfl) rfl rfl trivial ?_
  refine aq_pur (w_rPutInv _ h5 t.inv) rfl rfl rfl rfl rfl rfl rfl ?_
  refine aq_pure tOk rfl rfl rfl trivial ?_
  refine aq_load0 tOk rfl (by kernel_rfl) rfl rfl trivial ?_
  refine aq_pur (w_rPutVar _ h6 t.var ht.var) rfl rfl rfl rfl rfl rfl rfl ?_
  refine aq_store10 tOk rfl rfl rfl rfl trivial ?_
  refine aq_nil rfl ?_
  refine ag_seq ?_
  refine z2 ?_
  refine p1 ?_
  refine p2 ?_
  iterate 2 refine p1 ?_
  refine ar_ent (ent_reg 55 (.r (.bool false)) (by show AVal.r (.bool _) = _; exact eqB (decide_eq_false (show ¬ t.k = 5 by omega)))) ?_
  refine p1 ?_
  refine p2 ?_
  iterate 2 refine p1 ?_
  refine ar_nil ?_
  refine ag_false rfl (decide_eq_false (show ¬ t.k = 6 by omega)) ?_
  refine ag_skip ?_
  refine z2 ?_
  refine p2 ?_
  refine ar_store tOk rfl rfl rfl trivial ?_
  refine ar_nil ?_
  refine ag_ret tOk Try.func38 rfl rfl (by first | trivial | exact ⟨trivial, trivial⟩ | simp) ?_
  rfl

theorem w_xPut5 (w : W) (sl : Option (List UInt8)) (tl : List RVal) (hr : oRel w sl tl) (t : TxV) (ht : t.ok) (hk : t.k = 5) : Spec Try.prog 37 [.ptr 0 0, txA t] (obP sl tl) (fun u h' => ∃ sl' tl', OQ (wtxt (wwid (pVar (pInv (pHd w t) t.inv) t.var) t.g0 t.g1 t.g2 t.g3) t.sig) u sl' tl' ∧ ObIs sl' tl' h') := by
  refine spec_of_go (N := 70) Try.func37 rfl (by decide) rfl rfl ?_
  refine ag_ent (ent_ob rfl rfl) ?_
  refine z2 ?_
  refine ar_new tOk rfl rfl rfl trivial ?_
  refine ar_nil ?_
  refine ag_ent (ent_same (h' := obAt sl tl 0 2 ⟨4, [(3, some (.mixed ((txC t).map .r)))], false⟩) rfl rfl ⟨rfl, rfl, rfl, trivial⟩) ?_
  refine ag_seq ?_
  refine z2 ?_
  refine p1 ?_
  refine p2 ?_
  refine p1 ?_
  refine p2 ?_
  refine p1 ?_
  refine p2 ?_
  refine p1 ?_
  refine p2 ?_
  refine ar_pure tOk rfl rfl rfl ?_ ?_
  · simp
  refine p1 ?_
  refine ar_nil ?_
  refine ag_block ?_
  refine ag_unroll ?_
  refine z2 ?_
  refine p1 ?_
  refine z1 ?_
  refine ag_true rfl (by decide) ?_
  refine ag_skip ?_
  refine ag_seq ?_
  refine ag_block ?_
  refine z2 ?_
  refine ar_pure tOk rfl rfl rfl ?_ ?_
  · decide
  refine p1 ?_
  refine ar_nil ?_
  refine ag_reg ?_
  iterate 2 refine p1 ?_
  refine ar_ob (w_ONum _ t.k sl tl hr) rfl rfl (obOk_of rfl) rfl rfl rfl rfl (by intro d hd; cases hd; rfl) ?_
  rintro _ sl tl ⟨rfl, hr⟩
  refine ⟨rfl, ?_⟩
  refine ar_nil ?_
  refine ag_inBlock ?_
  refine ag_reg ?_
  refine ar_pure tOk rfl rfl rfl ?_ ?_
  · unfold inI64; decide
  refine p1 ?_
  refine ar_nil ?_
  refine ag_again ?_
  refine z2 ?_
  refine p1 ?_
  refine z1 ?_
  refine ag_true rfl (by decide) ?_
  refine ag_skip ?_
  refine ag_seq ?_
  refine ag_block ?_
  refine z2 ?_
  refine ar_pure tOk rfl rfl rfl ?_ ?_
  · decide
  refine p1 ?_
  refine ar_nil ?_
  refine ag_reg ?_
  iterate 2 refine p1 ?_
  refine ar_ob (w_ONum _ t.f sl tl hr) rfl rfl (obOk_of rfl) rfl rfl rfl rfl (by intro d hd; cases hd; rfl) ?_
  rintro _ sl tl ⟨rfl, hr⟩
  refine ⟨rfl, ?_⟩
  refine ar_nil ?_
  refine ag_inBlock ?_
  refine ag_reg ?_
  refine ar_pure tOk rfl rfl rfl ?_ ?_
  · unfold inI64; decide
  refine p1 ?_
  refine ar_nil ?_
  refine ag_again ?_
  refine z2 ?_
  refine p1 ?_
  refine z1 ?_
  refine ag_true rfl (by decide) ?_
  refine ag_skip ?_
  refine ag_seq ?_
  refine ag_block ?_
  refine z2 ?_
  refine ar_pure tOk rfl rfl rfl ?_ ?_
  · decide
  refine p1 ?_
  refine ar_nil ?_
  refine ag_reg ?_
  iterate 2 refine p1 ?_
  refine ar_ob (w_ONum _ t.n sl tl hr) rfl rfl (obOk_of rfl) rfl rfl rfl rfl (by intro d hd; cases hd; rfl) ?_
  rintro _ sl tl ⟨rfl, hr⟩
  refine ⟨rfl, ?_⟩
  refine ar_nil ?_
  refine ag_inBlock ?_
  refine ag_reg ?_
  refine ar_pure tOk rfl rfl rfl ?_ ?_
  · unfold inI64; decide
  refine p1 ?_
  refine ar_nil ?_
  refine ag_again ?_
  refine z2 ?_
  refine p1 ?_
  refine z1 ?_
  refine ag_true rfl (by decide) ?_
  refine ag_skip ?_
  refine ag_seq ?_
  refine ag_block ?_
  refine z2 ?_
  refine ar_pure tOk rfl rfl rfl ?_ ?_
  · decide
  refine p1 ?_
  refine ar_nil ?_
  refine ag_reg ?_
  iterate 2 refine p1 ?_
  refine ar_ob (w_ONum _ t.a sl tl hr) rfl rfl (obOk_of rfl) rfl rfl rfl rfl (by intro d hd; cases hd; rfl) ?_
  rintro _ sl tl ⟨rfl, hr⟩
  refine ⟨rfl, ?_⟩
  refine ar_nil ?_
  refine ag_inBlock ?_
  refine ag_reg ?_
  refine ar_pure tOk rfl rfl rfl ?_ ?_
  · unfold inI64; decide
  refine p1 ?_
  refine ar_nil ?_
  refine ag_again ?_
  refine z2 ?_
  refine p1 ?_
  refine z1 ?_
  refine ag_false rfl (by decide) ?_
  refine ag_exit rfl ?_
  refine z2 ?_
  iterate 2 refine p1 ?_
  refine p2 ?_
  refine ar_ob (w_OWide _ t.m0 t.m1 t.m2 t.m3 ht.m0 ht.m1 ht.m2 ht.m3 sl tl hr) rfl rfl (obOk_of rfl) rfl rfl rfl rfl (by intro d hd; cases hd; rfl) ?_
  rintro _ sl tl ⟨rfl, hr⟩
  refine ⟨rfl, ?_⟩
  refine z1 ?_
  refine z2 ?_
  refine p1 ?_
  refine p2 ?_
  refine ar_nil ?_
  refine ag_block ?_
  refine z2 ?_
  iterate 2 refine p1 ?_
  refine ar_nil ?_
  refine ag_false rfl (decide_eq_false (show ¬ t.k = 1 by omega)) ?_
  refine z2 ?_
  iterate 2 refine p1 ?_
  refine ar_nil ?_
  refine ag_false rfl (decide_eq_false (show ¬ t.k = 2 by omega)) ?_
  refine ag_seq ?_
  refine z2 ?_
  iterate 2 refine p1 ?_
  refine ar_nil ?_
  refine ag_false rfl (decide_eq_false (show ¬ t.k = 4 by omega)) ?_
  refine z2 ?_
  iterate 2 refine p1 ?_
  refine ar_nil ?_
  refine ag_true rfl (decide_eq_true (show t.k = 5 by omega)) ?_
  refine ag_skip ?_
  refine ag_true rfl (decide_eq_true (show t.k = 5 by omega)) ?_
  refine z2 ?_
  iterate 2 refine p1 ?_
  refine p2 ?_
  refine ar_ob (w_dPut _ sl tl hr t.inv ht.inv) rfl rfl (obOk_of rfl) rfl rfl rfl rfl (by intro d hd; cases hd; rfl) ?_
  rintro _ sl tl ⟨rfl, hr⟩
  refine ⟨rfl, ?_⟩
  refine ar_nil ?_
  refine ag_reg ?_
  iterate 2 refine p1 ?_
  refine p2 ?_
  refine ar_ob (w_dPutVar _ sl tl hr t.var ht.var) rfl rfl (obOk_of rfl) rfl rfl rfl rfl (by intro d hd; cases hd; rfl) ?_
  rintro _ sl tl ⟨rfl, hr⟩
  refine ⟨rfl, ?_⟩
  refine ar_nil ?_
  refine ag_inBlock ?_
  refine z2 ?_
  refine p1 ?_
  refine p2 ?_
  iterate 2 refine p1 ?_
  refine ar_ent (ent_reg 57 (.r (.bool true)) (by show AVal.r (.bool _) = _; exact eqB (decide_eq_true (show t.k = 5 by omega)))) ?_
  iterate 3 refine ar_skip rfl rfl rfl ?_
  refine p1 ?_
  refine ar_nil ?_
  refine ag_true rfl (by rfl) ?_
  refine z2 ?_
  iterate 2 refine p1 ?_
  refine p2 ?_
  refine ar_ob (w_OWide _ t.g0 t.g1 t.g2 t.g3 ht.g0 ht.g1 ht.g2 ht.g3 sl tl hr) rfl rfl (obOk_of rfl) rfl rfl rfl rfl (by intro d hd; cases hd; rfl) ?_
  rintro _ sl tl ⟨rfl, hr⟩
  refine ⟨rfl, ?_⟩
  refine ar_nil ?_
  refine ag_reg ?_
  iterate 2 refine p1 ?_
  refine p2 ?_
  refine ar_ob (w_OText _ t.sig ht.sig sl tl hr) rfl rfl (obOk_of rfl) rfl rfl rfl rfl (by intro d hd; cases hd; rfl) ?_
  rintro _ sl tl ⟨rfl, hr⟩
  refine ⟨rfl, ?_⟩
  refine ar_nil ?_
  refine ag_end tOk Try.func37 rfl rfl (by simp) ?_
  exact ⟨sl, tl, ⟨rfl, hr⟩, ob_is (by decide) rfl⟩

theorem w_rPut5 (w : W) (hw : wok w) (t : TxV) (ht : t.ok) (hk : t.k = 5) : Pur Try.prog 38 [wV w, txA t] (wV (wtxt (wwid (pVar (pInv (pHd w t) t.inv) t.var) t.g0 t.g1 t.g2 t.g3) t.sig)) := by
  have h1 := wok_num (n := t.k) hw
  have h2 := wok_num (n := t.f) h1
  have h3 := wok_num (n := t.n) h2
  have h4 := wok_num (n := t.a) h3
  have h5 : wok (pHd w t) := wok_pHd hw
  have h6 : wok (pInv (pHd w t) t.inv) := wok_inv h5
  have h7 : wok (pVar (pInv (pHd w t) t.inv) t.var) := wok_var h6
  refine spec_of_go (N := 68) Try.func38 rfl (by decide) rfl rfl ?_
  refine z2 ?_
  iterate 2 refine ar_new tOk rfl rfl rfl trivial ?_
  refine ar_new tOk rfl rfl rfl ?_ ?_
  · simp
  refine z1 ?_
  apply ag_draw1 [] (by kernel_rfl) (by kernel_rfl)
  refine aq_load0 tOk rfl (by kernel_rfl) rfl rfl trivial ?_
  refine aq_pure tOk rfl rfl rfl trivial ?_
  refine aq_load0 tOk rfl (by kernel_rfl) rfl rfl trivial ?_
  refine aq_pur (w_rNumC _ _ hw) rfl rfl rfl rfl rfl rfl rfl ?_
  refine aq_pure tOk rfl rfl rfl trivial ?_
  refine aq_load0 tOk rfl (by kernel_rfl) rfl rfl trivial ?_
  refine aq_pur (w_rNumC _ _ h1) rfl rfl rfl rfl rfl rfl rfl ?_
  refine aq_pure tOk rfl rfl rfl trivial ?_
  refine aq_load0 tOk rfl (by kernel_rfl) rfl rfl trivial ?_
  refine aq_pur (w_rNumC _ _ h2) rfl rfl rfl rfl rfl rfl rfl ?_
  refine aq_pure tOk rfl rfl rfl trivial ?_
  refine aq_load0 tOk rfl (by kernel_rfl) rfl rfl trivial ?_
  refine aq_pur (w_rNumC _ _ h3) rfl rfl rfl rfl rfl rfl rfl ?_
  refine aq_pure tOk rfl rfl rfl trivial ?_
  refine aq_load0 tOk rfl (by kernel_rfl) rfl rfl trivial ?_
  refine aq_pur (w_rWideC _ t.m0 t.m1 t.m2 t.m3 ht.m0 ht.m1 ht.m2 ht.m3 h4) rfl rfl rfl rfl rfl rfl rfl ?_
  refine aq_store10 tOk rfl rfl rfl rfl trivial ?_
  refine aq_nil rfl ?_
  refine ag_seq ?_
  refine z2 ?_
  refine p1 ?_
  refine p2 ?_
  refine p1 ?_
  refine ar_nil ?_
  refine ag_false rfl (decide_eq_false (show ¬ t.k = 1 by omega)) ?_
  refine ag_skip ?_
  refine ag_seq ?_
  refine z2 ?_
  refine p1 ?_
  refine p2 ?_
  refine p1 ?_
  refine ar_nil ?_
  refine ag_false rfl (decide_eq_false (show ¬ t.k = 2 by omega)) ?_
  refine ag_skip ?_
  refine ag_seq ?_
  refine z2 ?_
  refine p1 ?_
  refine p2 ?_
  iterate 2 refine p1 ?_
  refine ar_ent (ent_reg 40 (.r (.bool true)) (by show AVal.r (.bool _) = _; exact eqB (decide_eq_true (show t.k ≥ 4 by omega)))) ?_
  refine p1 ?_
  refine p2 ?_
  iterate 2 refine p1 ?_
  refine ar_nil ?_
  refine ag_true rfl (decide_eq_true (show t.k ≤ 6 by omega)) ?_
  apply ag_draw1 [] (by kernel_rfl) (by kernel_rfl)
  refine aq_load0 tOk rfl (by kernel_rfl) rfl rfl trivial ?_
  refine aq_pure tOk rfl rfl rfl trivial ?_
  refine aq_load0 tOk rfl (by kernel_rfl) rfl rfl trivial ?_
  refine aq_pur (w_rPutInv _ h5 t.inv) rfl rfl rfl rfl rfl rfl rfl ?_
  refine aq_pure tOk rfl rfl rfl trivial ?_
  refine aq_load0 tOk rfl (by kernel_rfl) rfl rfl trivial ?_
  refine aq_pur (w_rPutVar _ h6 t.var ht.var) rfl rfl rfl rfl rfl rfl rfl ?_
  refine aq_store10 tOk rfl rfl rfl rfl trivial ?_
  refine aq_nil rfl ?_
  refine ag_seq ?_
  refine z2 ?_
  refine p1 ?_
  refine p2 ?_
  iterate 2 refine p1 ?_
  refine ar_ent (ent_reg 55 (.r (.bool true)) (by show AVal.r (.bool _) = _; exact eqB (decide_eq_true (show t.k = 5 by omega)))) ?_
  iterate 3 refine ar_skip rfl rfl rfl ?_
  refine p1 ?_
  refine ar_nil ?_
  refine ag_true rfl (by rfl) ?_
  apply ag_draw1 [] (by kernel_rfl) (by kernel_rfl)
  refine aq_load0 tOk rfl (by kernel_rfl) rfl rfl trivial ?_
  refine aq_pure tOk rfl rfl rfl trivial ?_
  refine aq_load0 tOk rfl (by kernel_rfl) rfl rfl trivial ?_
  refine aq_pur (w_rWideC _ t.g0 t.g1 t.g2 t.g3 ht.g0 ht.g1 ht.g2 ht.g3 h7) rfl rfl rfl rfl rfl rfl rfl ?_
  refine aq_pure tOk rfl rfl rfl trivial ?_
  refine aq_load0 tOk rfl (by kernel_rfl) rfl rfl trivial ?_
  refine aq_pur (w_rTextC _ _ (wok_wid h7)) rfl rfl rfl rfl rfl rfl rfl ?_
  refine aq_store10 tOk rfl rfl rfl rfl trivial ?_
  refine aq_nil rfl ?_
  refine z2 ?_
  refine p2 ?_
  refine ar_store tOk rfl rfl rfl trivial ?_
  refine ar_nil ?_
  refine ag_ret tOk Try.func38 rfl rfl (by first | trivial | exact ⟨trivial, trivial⟩ | simp) ?_
  rfl

theorem w_xPut6 (w : W) (sl : Option (List UInt8)) (tl : List RVal) (hr : oRel w sl tl) (t : TxV) (ht : t.ok) (hk : t.k = 6) : Spec Try.prog 37 [.ptr 0 0, txA t] (obP sl tl) (fun u h' => ∃ sl' tl', OQ (wtxt (wwid (pVar (pInv (pHd w t) t.inv) t.var) t.g0 t.g1 t.g2 t.g3) t.sig) u sl' tl' ∧ ObIs sl' tl' h') := by
  refine spec_of_go (N := 70) Try.func37 rfl (by decide) rfl rfl ?_
  refine ag_ent (ent_ob rfl rfl) ?_
  refine z2 ?_
  refine ar_new tOk rfl rfl rfl trivial ?_
  refine ar_nil ?_
  refine ag_ent (ent_same (h' := obAt sl tl 0 2 ⟨4, [(3, some (.mixed ((txC t).map .r)))], false⟩) rfl rfl ⟨rfl, rfl, rfl, trivial⟩) ?_
  refine ag_seq ?_
  refine z2 ?_
  refine p1 ?_
  refine p2 ?_
  refine p1 ?_
  refine p2 ?_
  refine p1 ?_
  refine p2 ?_
  refine p1 ?_
  refine p2 ?_
  refine ar_pure tOk rfl rfl rfl ?_ ?_
  · simp
  refine p1 ?_
  refine ar_nil ?_
  refine ag_block ?_
  refine ag_unroll ?_
  refine z2 ?_
  refine p1 ?_
  refine z1 ?_
  refine ag_true rfl (by decide) ?_
  refine ag_skip ?_
  refine ag_seq ?_
  refine ag_block ?_
  refine z2 ?_
  refine ar_pure tOk rfl rfl rfl ?_ ?_
  · decide
  refine p1 ?_
  refine ar_nil ?_
  refine ag_reg ?_
  iterate 2 refine p1 ?_
  refine ar_ob (w_ONum _ t.k sl tl hr) rfl rfl (obOk_of rfl) rfl rfl rfl rfl (by intro d hd; cases hd; rfl) ?_
  rintro _ sl tl ⟨rfl, hr⟩
  refine ⟨rfl, ?_⟩
  refine ar_nil ?_
  refine ag_inBlock ?_
  refine ag_reg ?_
  refine ar_pure tOk rfl rfl rfl ?_ ?_
  · unfold inI64; decide
  refine p1 ?_
  refine ar_nil ?_
  refine ag_again ?_
  refine z2 ?_
  refine p1 ?_
  refine z1 ?_
  refine ag_true rfl (by decide) ?_
  refine ag_skip ?_
  refine ag_seq ?_
  refine ag_block ?_
  refine z2 ?_
  refine ar_pure tOk rfl rfl rfl ?_ ?_
  · decide
  refine p1 ?_
  refine ar_nil ?_
  refine ag_reg ?_
  iterate 2 refine p1 ?_
  refine ar_ob (w_ONum _ t.f sl tl hr) rfl rfl (obOk_of rfl) rfl rfl rfl rfl (by intro d hd; cases hd; rfl) ?_
  rintro _ sl tl ⟨rfl, hr⟩
  refine ⟨rfl, ?_⟩
  refine ar_nil ?_
  refine ag_inBlock ?_
  refine ag_reg ?_
  refine ar_pure tOk rfl rfl rfl ?_ ?_
  · unfold inI64; decide
  refine p1 ?_
  refine ar_nil ?_
  refine ag_again ?_
  refine z2 ?_
  refine p1 ?_
  refine z1 ?_
  refine ag_true rfl (by decide) ?_
  refine ag_skip ?_
  refine ag_seq ?_
  refine ag_block ?_
  refine z2 ?_
  refine ar_pure tOk rfl rfl rfl ?_ ?_
  · decide
  refine p1 ?_
  refine ar_nil ?_
  refine ag_reg ?_
  iterate 2 refine p1 ?_
  refine ar_ob (w_ONum _ t.n sl tl hr) rfl rfl (obOk_of rfl) rfl rfl rfl rfl (by intro d hd; cases hd; rfl) ?_
  rintro _ sl tl ⟨rfl, hr⟩
  refine ⟨rfl, ?_⟩
  refine ar_nil ?_
  refine ag_inBlock ?_
  refine ag_reg ?_
  refine ar_pure tOk rfl rfl rfl ?_ ?_
  · unfold inI64; decide
  refine p1 ?_
  refine ar_nil ?_
  refine ag_again ?_
  refine z2 ?_
  refine p1 ?_
  refine z1 ?_
  refine ag_true rfl (by decide) ?_
  refine ag_skip ?_
  refine ag_seq ?_
  refine ag_block ?_
  refine z2 ?_
  refine ar_pure tOk rfl rfl rfl ?_ ?_
  · decide
  refine p1 ?_
  refine ar_nil ?_
  refine ag_reg ?_
  iterate 2 refine p1 ?_
  refine ar_ob (w_ONum _ t.a sl tl hr) rfl rfl (obOk_of rfl) rfl rfl rfl rfl (by intro d hd; cases hd; rfl) ?_
  rintro _ sl tl ⟨rfl, hr⟩
  refine ⟨rfl, ?_⟩
  refine ar_nil ?_
  refine ag_inBlock ?_
  refine ag_reg ?_
  refine ar_pure tOk rfl rfl rfl ?_ ?_
  · unfold inI64; decide
  refine p1 ?_
  refine ar_nil ?_
  refine ag_again ?_
  refine z2 ?_
  refine p1 ?_
  refine z1 ?_
  refine ag_false rfl (by decide) ?_
  refine ag_exit rfl ?_
  refine z2 ?_
  iterate 2 refine p1 ?_
  refine p2 ?_
  refine ar_ob (w_OWide _ t.m0 t.m1 t.m2 t.m3 ht.m0 ht.m1 ht.m2 ht.m3 sl tl hr) rfl rfl (obOk_of rfl) rfl rfl rfl rfl (by intro d hd; cases hd; rfl) ?_
  rintro _ sl tl ⟨rfl, hr⟩
  refine ⟨rfl, ?_⟩
  refine z1 ?_
  refine z2 ?_
  refine p1 ?_
  refine p2 ?_
  refine ar_nil ?_
  refine ag_block ?_
  refine z2 ?_
  iterate 2 refine p1 ?_
  refine ar_nil ?_
  refine ag_false rfl (decide_eq_false (show ¬ t.k = 1 by omega)) ?_
  refine z2 ?_
  iterate 2 refine p1 ?_
  refine ar_nil ?_
  refine ag_false rfl (decide_eq_false (show ¬ t.k = 2 by omega)) ?_
  refine ag_seq ?_
  refine z2 ?_
  iterate 2 refine p1 ?_
  refine ar_nil ?_
  refine ag_false rfl (decide_eq_false (show ¬ t.k = 4 by omega)) ?_
  refine z2 ?_
  iterate 2 refine p1 ?_
  refine ar_nil ?_
  refine ag_false rfl (decide_eq_false (show ¬ t.k = 5 by omega)) ?_
  refine ag_reg ?_
  iterate 2 refine p1 ?_
  refine ar_nil ?_
  refine ag_true rfl (decide_eq_true (show t.k = 6 by omega)) ?_
  refine z2 ?_
  iterate 2 refine p1 ?_
  refine p2 ?_
  refine ar_ob (w_dPut _ sl tl hr t.inv ht.inv) rfl rfl (obOk_of rfl) rfl rfl rfl rfl (by intro d hd; cases hd; rfl) ?_
  rintro _ sl tl ⟨rfl, hr⟩
  refine ⟨rfl, ?_⟩
  refine ar_nil ?_
  refine ag_reg ?_
  iterate 2 refine p1 ?_
  refine p2 ?_
  refine ar_ob (w_dPutVar _ sl tl hr t.var ht.var) rfl rfl (obOk_of rfl) rfl rfl rfl rfl (by intro d hd; cases hd; rfl) ?_
  rintro _ sl tl ⟨rfl, hr⟩
  refine ⟨rfl, ?_⟩
  refine ar_nil ?_
  refine ag_inBlock ?_
  refine z2 ?_
  refine p1 ?_
  refine p2 ?_
  iterate 2 refine p1 ?_
  refine ar_ent (ent_reg 57 (.r (.bool false)) (by show AVal.r (.bool _) = _; exact eqB (decide_eq_false (show ¬ t.k = 5 by omega)))) ?_
  refine p1 ?_
  refine p2 ?_
  iterate 2 refine p1 ?_
  refine ar_nil ?_
  refine ag_true rfl (decide_eq_true (show t.k = 6 by omega)) ?_
  refine z2 ?_
  iterate 2 refine p1 ?_
  refine p2 ?_
  refine ar_ob (w_OWide _ t.g0 t.g1 t.g2 t.g3 ht.g0 ht.g1 ht.g2 ht.g3 sl tl hr) rfl rfl (obOk_of rfl) rfl rfl rfl rfl (by intro d hd; cases hd; rfl) ?_
  rintro _ sl tl ⟨rfl, hr⟩
  refine ⟨rfl, ?_⟩
  refine ar_nil ?_
  refine ag_reg ?_
  iterate 2 refine p1 ?_
  refine p2 ?_
  refine ar_ob (w_OText _ t.sig ht.sig sl tl hr) rfl rfl (obOk_of rfl) rfl rfl rfl rfl (by intro d hd; cases hd; rfl) ?_
  rintro _ sl tl ⟨rfl, hr⟩
  refine ⟨rfl, ?_⟩
  refine ar_nil ?_
  refine ag_end tOk Try.func37 rfl rfl (by simp) ?_
  exact ⟨sl, tl, ⟨rfl, hr⟩, ob_is (by decide) rfl⟩

theorem w_rPut6 (w : W) (hw : wok w) (t : TxV) (ht : t.ok) (hk : t.k = 6) : Pur Try.prog 38 [wV w, txA t] (wV (wtxt (wwid (pVar (pInv (pHd w t) t.inv) t.var) t.g0 t.g1 t.g2 t.g3) t.sig)) := by
  have h1 := wok_num (n := t.k) hw
  have h2 := wok_num (n := t.f) h1
  have h3 := wok_num (n := t.n) h2
  have h4 := wok_num (n := t.a) h3
  have h5 : wok (pHd w t) := wok_pHd hw
  have h6 : wok (pInv (pHd w t) t.inv) := wok_inv h5
  have h7 : wok (pVar (pInv (pHd w t) t.inv) t.var) := wok_var h6
  refine spec_of_go (N := 68) Try.func38 rfl (by decide) rfl rfl ?_
  refine z2 ?_
  iterate 2 refine ar_new tOk rfl rfl rfl trivial ?_
  refine ar_new tOk rfl rfl rfl ?_ ?_
  · simp
  refine z1 ?_
  apply ag_draw1 [] (by kernel_rfl) (by kernel_rfl)
  refine aq_load0 tOk rfl (by kernel_rfl) rfl rfl trivial ?_
  refine aq_pure tOk rfl rfl rfl trivial ?_
  refine aq_load0 tOk rfl (by kernel_rfl) rfl rfl trivial ?_
  refine aq_pur (w_rNumC _ _ hw) rfl rfl rfl rfl rfl rfl rfl ?_
  refine aq_pure tOk rfl rfl rfl trivial ?_
  refine aq_load0 tOk rfl (by kernel_rfl) rfl rfl trivial ?_
  refine aq_pur (w_rNumC _ _ h1) rfl rfl rfl rfl rfl rfl rfl ?_
  refine aq_pure tOk rfl rfl rfl trivial ?_
  refine aq_load0 tOk rfl (by kernel_rfl) rfl rfl trivial ?_
  refine aq_pur (w_rNumC _ _ h2) rfl rfl rfl rfl rfl rfl rfl ?_
  refine aq_pure tOk rfl rfl rfl trivial ?_
  refine aq_load0 tOk rfl (by kernel_rfl) rfl rfl trivial ?_
  refine aq_pur (w_rNumC _ _ h3) rfl rfl rfl rfl rfl rfl rfl ?_
  refine aq_pure tOk rfl rfl rfl trivial ?_
  refine aq_load0 tOk rfl (by kernel_rfl) rfl rfl trivial ?_
  refine aq_pur (w_rWideC _ t.m0 t.m1 t.m2 t.m3 ht.m0 ht.m1 ht.m2 ht.m3 h4) rfl rfl rfl rfl rfl rfl rfl ?_
  refine aq_store10 tOk rfl rfl rfl rfl trivial ?_
  refine aq_nil rfl ?_
  refine ag_seq ?_
  refine z2 ?_
  refine p1 ?_
  refine p2 ?_
  refine p1 ?_
  refine ar_nil ?_
  refine ag_false rfl (decide_eq_false (show ¬ t.k = 1 by omega)) ?_
  refine ag_skip ?_
  refine ag_seq ?_
  refine z2 ?_
  refine p1 ?_
  refine p2 ?_
  refine p1 ?_
  refine ar_nil ?_
  refine ag_false rfl (decide_eq_false (show ¬ t.k = 2 by omega)) ?_
  refine ag_skip ?_
  refine ag_seq ?_
  refine z2 ?_
  refine p1 ?_
  refine p2 ?_
  iterate 2 refine p1 ?_
  refine ar_ent (ent_reg 40 (.r (.bool true)) (by show AVal.r (.bool _) = _; exact eqB (decide_eq_true (show t.k ≥ 4 by omega)))) ?_
  refine p1 ?_
  refine p2 ?_
  iterate 2 refine p1 ?_
  refine ar_nil ?_
  refine ag_true rfl (decide_eq_true (show t.k ≤ 6 by omega)) ?_
  apply ag_draw1 [] (by kernel_rfl) (by kernel_rfl)
  refine aq_load0 tOk rfl (by kernel_rfl) rfl rfl trivial ?_
  refine aq_pure tOk rfl rfl rfl trivial ?_
  refine aq_load0 tOk rfl (by kernel_rfl) rfl rfl trivial ?_
  refine aq_pur (w_rPutInv _ h5 t.inv) rfl rfl rfl rfl rfl rfl rfl ?_
  refine aq_pure tOk rfl rfl rfl trivial ?_
  refine aq_load0 tOk rfl (by kernel_rfl) rfl rfl trivial ?_
  refine aq_pur (w_rPutVar _ h6 t.var ht.var) rfl rfl rfl rfl rfl rfl rfl ?_
  refine aq_store10 tOk rfl rfl rfl rfl trivial ?_
  refine aq_nil rfl ?_
  refine ag_seq ?_
  refine z2 ?_
  refine p1 ?_
  refine p2 ?_
  iterate 2 refine p1 ?_
  refine ar_ent (ent_reg 55 (.r (.bool false)) (by show AVal.r (.bool _) = _; exact eqB (decide_eq_false (show ¬ t.k = 5 by omega)))) ?_
  refine p1 ?_
  refine p2 ?_
  iterate 2 refine p1 ?_
  refine ar_nil ?_
  refine ag_true rfl (decide_eq_true (show t.k = 6 by omega)) ?_
  apply ag_draw1 [] (by kernel_rfl) (by kernel_rfl)
  refine aq_load0 tOk rfl (by kernel_rfl) rfl rfl trivial ?_
  refine aq_pure tOk rfl rfl rfl trivial ?_
  refine aq_load0 tOk rfl (by kernel_rfl) rfl rfl trivial ?_
  refine aq_pur (w_rWideC _ t.g0 t.g1 t.g2 t.g3 ht.g0 ht.g1 ht.g2 ht.g3 h7) rfl rfl rfl rfl rfl rfl rfl ?_
  refine aq_pure tOk rfl rfl rfl trivial ?_
  refine aq_load0 tOk rfl (by kernel_rfl) rfl rfl trivial ?_
  refine aq_pur (w_rTextC _ _ (wok_wid h7)) rfl rfl rfl rfl rfl rfl rfl ?_
  refine aq_store10 tOk rfl rfl rfl rfl trivial ?_
  refine aq_nil rfl ?_
  refine z2 ?_
  refine p2 ?_
  refine ar_store tOk rfl rfl rfl trivial ?_
  refine ar_nil ?_
  refine ag_ret tOk Try.func38 rfl rfl (by first | trivial | exact ⟨trivial, trivial⟩ | simp) ?_
  rfl

theorem w_xPut0 (w : W) (sl : Option (List UInt8)) (tl : List RVal) (hr : oRel w sl tl) (t : TxV) (ht : t.ok) (hk : t.k < 1 ∨ t.k = 3 ∨ t.k > 6) : Spec Try.prog 37 [.ptr 0 0, txA t] (obP sl tl) (fun u h' => ∃ sl' tl', OQ (pHd w t) u sl' tl' ∧ ObIs sl' tl' h') := by
  refine spec_of_go (N := 70) Try.func37 rfl (by decide) rfl rfl ?_
  refine ag_ent (ent_ob rfl rfl) ?_
  refine z2 ?_
  refine ar_new tOk rfl rfl rfl trivial ?_
  refine ar_nil ?_
  refine ag_ent (ent_same (h' := obAt sl tl 0 2 ⟨4, [(3, some (.mixed ((txC t).map .r)))], false⟩) rfl rfl ⟨rfl, rfl, rfl, trivial⟩) ?_
  refine ag_seq ?_
  refine z2 ?_
  refine p1 ?_
  refine p2 ?_
  refine p1 ?_
  refine p2 ?_
  refine p1 ?_
  refine p2 ?_
  refine p1 ?_
  refine p2 ?_
  refine ar_pure tOk rfl rfl rfl ?_ ?_
  · simp
  refine p1 ?_
  refine ar_nil ?_
  refine ag_block ?_
  refine ag_unroll ?_
  refine z2 ?_
  refine p1 ?_
  refine z1 ?_
  refine ag_true rfl (by decide) ?_
  refine ag_skip ?_
  refine ag_seq ?_
  refine ag_block ?_
  refine z2 ?_
  refine ar_pure tOk rfl rfl rfl ?_ ?_
  · decide
  refine p1 ?_
  refine ar_nil ?_
  refine ag_reg ?_
  iterate 2 refine p1 ?_
  refine ar_ob (w_ONum _ t.k sl tl hr) rfl rfl (obOk_of rfl) rfl rfl rfl rfl (by intro d hd; cases hd; rfl) ?_
  rintro _ sl tl ⟨rfl, hr⟩
  refine ⟨rfl, ?_⟩
  refine ar_nil ?_
  refine ag_inBlock ?_
  refine ag_reg ?_
  refine ar_pure tOk rfl rfl rfl ?_ ?_
  · unfold inI64; decide
  refine p1 ?_
  refine ar_nil ?_
  refine ag_again ?_
  refine z2 ?_
  refine p1 ?_
  refine z1 ?_
  refine ag_true rfl (by decide) ?_
  refine ag_skip ?_
  refine ag_seq ?_
  refine ag_block ?_
  refine z2 ?_
  refine ar_pure tOk rfl rfl rfl ?_ ?_
  · decide
  refine p1 ?_
  refine ar_nil ?_
  refine ag_reg ?_
  iterate 2 refine p1 ?_
  refine ar_ob (w_ONum _ t.f sl tl hr) rfl rfl (obOk_of rfl) rfl rfl rfl rfl (by intro d hd; cases hd; rfl) ?_
  rintro _ sl tl ⟨rfl, hr⟩
  refine ⟨rfl, ?_⟩
  refine ar_nil ?_
  refine ag_inBlock ?_
  refine ag_reg ?_
  refine ar_pure tOk rfl rfl rfl ?_ ?_
  · unfold inI64; decide
  refine p1 ?_
  refine ar_nil ?_
  refine ag_again ?_
  refine z2 ?_
  refine p1 ?_
  refine z1 ?_
  refine ag_true rfl (by decide) ?_
  refine ag_skip ?_
  refine ag_seq ?_
  refine ag_block ?_
  refine z2 ?_
  refine ar_pure tOk rfl rfl rfl ?_ ?_
  · decide
  refine p1 ?_
  refine ar_nil ?_
  refine ag_reg ?_
  iterate 2 refine p1 ?_
  refine ar_ob (w_ONum _ t.n sl tl hr) rfl rfl (obOk_of rfl) rfl rfl rfl rfl (by intro d hd; cases hd; rfl) ?_
  rintro _ sl tl ⟨rfl, hr⟩
  refine ⟨rfl, ?_⟩
  refine ar_nil ?_
  refine ag_inBlock ?_
  refine ag_reg ?_
  refine ar_pure tOk rfl rfl rfl ?_ ?_
  · unfold inI64; decide
  refine p1 ?_
  refine ar_nil ?_
  refine ag_again ?_
  refine z2 ?_
  refine p1 ?_
  refine z1 ?_
  refine ag_true rfl (by decide) ?_
  refine ag_skip ?_
  refine ag_seq ?_
  refine ag_block ?_
  refine z2 ?_
  refine ar_pure tOk rfl rfl rfl ?_ ?_
  · decide
  refine p1 ?_
  refine ar_nil ?_
  refine ag_reg ?_
  iterate 2 refine p1 ?_
  refine ar_ob (w_ONum _ t.a sl tl hr) rfl rfl (obOk_of rfl) rfl rfl rfl rfl (by intro d hd; cases hd; rfl) ?_
  rintro _ sl tl ⟨rfl, hr⟩
  refine ⟨rfl, ?_⟩
  refine ar_nil ?_
  refine ag_inBlock ?_
  refine ag_reg ?_
  refine ar_pure tOk rfl rfl rfl ?_ ?_
  · unfold inI64; decide
  refine p1 ?_
  refine ar_nil ?_
  refine ag_again ?_
  refine z2 ?_
  refine p1 ?_
  refine z1 ?_
  refine ag_false rfl (by decide) ?_
  refine ag_exit rfl ?_
  refine z2 ?_
  iterate 2 refine p1 ?_
  refine p2 ?_
  refine ar_ob (w_OWide _ t.m0 t.m1 t.m2 t.m3 ht.m0 ht.m1 ht.m2 ht.m3 sl tl hr) rfl rfl (obOk_of rfl) rfl rfl rfl rfl (by intro d hd; cases hd; rfl) ?_
  rintro _ sl tl ⟨rfl, hr⟩
  refine ⟨rfl, ?_⟩
  refine z1 ?_
  refine z2 ?_
  refine p1 ?_
  refine p2 ?_
  refine ar_nil ?_
  refine ag_block ?_
  refine z2 ?_
  iterate 2 refine p1 ?_
  refine ar_nil ?_
  refine ag_false rfl (decide_eq_false (show ¬ t.k = 1 by omega)) ?_
  refine z2 ?_
  iterate 2 refine p1 ?_
  refine ar_nil ?_
  refine ag_false rfl (decide_eq_false (show ¬ t.k = 2 by omega)) ?_
  refine ag_seq ?_
  refine z2 ?_
  iterate 2 refine p1 ?_
  refine ar_nil ?_
  refine ag_false rfl (decide_eq_false (show ¬ t.k = 4 by omega)) ?_
  refine z2 ?_
  iterate 2 refine p1 ?_
  refine ar_nil ?_
  refine ag_false rfl (decide_eq_false (show ¬ t.k = 5 by omega)) ?_
  refine ag_reg ?_
  iterate 2 refine p1 ?_
  refine ar_nil ?_
  refine ag_false rfl (decide_eq_false (show ¬ t.k = 6 by omega)) ?_
  refine ag_skip ?_
  refine ag_inBlock ?_
  refine z2 ?_
  refine p1 ?_
  refine p2 ?_
  iterate 2 refine p1 ?_
  refine ar_ent (ent_reg 57 (.r (.bool false)) (by show AVal.r (.bool _) = _; exact eqB (decide_eq_false (show ¬ t.k = 5 by omega)))) ?_
  refine p1 ?_
  refine p2 ?_
  iterate 2 refine p1 ?_
  refine ar_nil ?_
  refine ag_false rfl (decide_eq_false (show ¬ t.k = 6 by omega)) ?_
  refine ag_skip ?_
  refine ag_end tOk Try.func37 rfl rfl (by simp) ?_
  exact ⟨sl, tl, ⟨rfl, hr⟩, ob_is (by decide) rfl⟩

theorem w_rPut0 (w : W) (hw : wok w) (t : TxV) (ht : t.ok) (hk : t.k < 1 ∨ t.k = 3 ∨ t.k > 6) : Pur Try.prog 38 [wV w, txA t] (wV (pHd w t)) := by
  have h1 := wok_num (n := t.k) hw
  have h2 := wok_num (n := t.f) h1
  have h3 := wok_num (n := t.n) h2
  have h4 := wok_num (n := t.a) h3
  have h5 : wok (pHd w t) := wok_pHd hw
  have h6 : wok (pInv (pHd w t) t.inv) := wok_inv h5
  have h7 : wok (pVar (pInv (pHd w t) t.inv) t.var) := wok_var h6
  refine spec_of_go (N := 68) Try.func38 rfl (by decide) rfl rfl ?_
  refine z2 ?_
  iterate 2 refine ar_new tOk rfl rfl rfl trivial ?_
  refine ar_new tOk rfl rfl rfl ?_ ?_
  · simp
  refine z1 ?_
  apply ag_draw1 [] (by kernel_rfl) (by kernel_rfl)
  refine aq_load0 tOk rfl (by kernel_rfl) rfl rfl trivial ?_
  refine aq_pure tOk rfl rfl rfl trivial ?_
  refine aq_load0 tOk rfl (by kernel_rfl) rfl rfl trivial ?_
  refine aq_pur (w_rNumC _ _ hw) rfl rfl rfl rfl rfl rfl rfl ?_
  refine aq_pure tOk rfl rfl rfl trivial ?_
  refine aq_load0 tOk rfl (by kernel_rfl) rfl rfl trivial ?_
  refine aq_pur (w_rNumC _ _ h1) rfl rfl rfl rfl rfl rfl rfl ?_
  refine aq_pure tOk rfl rfl rfl trivial ?_
  refine aq_load0 tOk rfl (by kernel_rfl) rfl rfl trivial ?_
  refine aq_pur (w_rNumC _ _ h2) rfl rfl rfl rfl rfl rfl rfl ?_
  refine aq_pure tOk rfl rfl rfl trivial ?_
  refine aq_load0 tOk rfl (by kernel_rfl) rfl rfl trivial ?_
  refine aq_pur (w_rNumC _ _ h3) rfl rfl rfl rfl rfl rfl rfl ?_
  refine aq_pure tOk rfl rfl rfl trivial ?_
  refine aq_load0 tOk rfl (by kernel_rfl) rfl rfl trivial ?_
  refine aq_pur (w_rWideC _ t.m0 t.m1 t.m2 t.m3 ht.m0 ht.m1 ht.m2 ht.m3 h4) rfl rfl rfl rfl rfl rfl rfl ?_
  refine aq_store10 tOk rfl rfl rfl rfl trivial ?_
  refine aq_nil rfl ?_
  refine ag_seq ?_
  refine z2 ?_
  refine p1 ?_
  refine p2 ?_
  refine p1 ?_
  refine ar_nil ?_
  refine ag_false rfl (decide_eq_false (show ¬ t.k = 1 by omega)) ?_
  refine ag_skip ?_
  refine ag_seq ?_
  refine z2 ?_
  refine p1 ?_
  refine p2 ?_
  refine p1 ?_
  refine ar_nil ?_
  refine ag_false rfl (decide_eq_false (show ¬ t.k = 2 by omega)) ?_
  refine ag_skip ?_
  refine ag_seq ?_
  refine z2 ?_
  refine p1 ?_
  refine p2 ?_
  iterate 2 refine p1 ?_
  refine ar_guard (t := decide (t.k ≥ 4)) (fun ht => ?_) (fun ht => ?_)
  · refine ar_ent (ent_reg 40 (.r (.bool true)) (by show AVal.r (.bool _) = _; exact eqB ht)) ?_
    have hq := of_decide_eq_true ht
    refine p1 ?_
    refine p2 ?_
    iterate 2 refine p1 ?_
    refine ar_nil ?_
    refine ag_false rfl (decide_eq_false (show ¬ t.k ≤ 6 by omega)) ?_
    refine ag_skip ?_
    refine ag_seq ?_
    refine z2 ?_
    refine p1 ?_
    refine p2 ?_
    iterate 2 refine p1 ?_
    refine ar_ent (ent_reg 55 (.r (.bool false)) (by show AVal.r (.bool _) = _; exact eqB (decide_eq_false (show ¬ t.k = 5 by omega)))) ?_
    refine p1 ?_
    refine p2 ?_
    iterate 2 refine p1 ?_
    refine ar_nil ?_
    refine ag_false rfl (decide_eq_false (show ¬ t.k = 6 by omega)) ?_
    refine ag_skip ?_
    refine z2 ?_
    refine p2 ?_
    refine ar_store tOk rfl rfl rfl trivial ?_
    refine ar_nil ?_
    refine ag_ret tOk Try.func38 rfl rfl (by first | trivial | exact ⟨trivial, trivial⟩ | simp) ?_
    rfl
  · refine ar_ent (ent_reg 40 (.r (.bool false)) (by show AVal.r (.bool _) = _; exact eqB ht)) ?_
    have hq := of_decide_eq_false ht
    repeat (first | refine ar_skip rfl rfl rfl ?_ | refine ar_pure tOk rfl rfl rfl trivial ?_)
    refine ar_nil ?_
    refine ag_false rfl (by rfl) ?_
    refine ag_skip ?_
    refine ag_seq ?_
    refine z2 ?_
    refine p1 ?_
    refine p2 ?_
    iterate 2 refine p1 ?_
    refine ar_ent (ent_reg 55 (.r (.bool false)) (by show AVal.r (.bool _) = _; exact eqB (decide_eq_false (show ¬ t.k = 5 by omega)))) ?_
    refine p1 ?_
    refine p2 ?_
    iterate 2 refine p1 ?_
    refine ar_nil ?_
    refine ag_false rfl (decide_eq_false (show ¬ t.k = 6 by omega)) ?_
    refine ag_skip ?_
    refine z2 ?_
    refine p2 ?_
    refine ar_store tOk rfl rfl rfl trivial ?_
    refine ar_nil ?_
    refine ag_ret tOk Try.func38 rfl rfl (by first | trivial | exact ⟨trivial, trivial⟩ | simp) ?_
    rfl

theorem w_xGet1 (w : W) (hk : (gNu w M40).1 = 1) : Spec Try.prog 48 [.ptr 0 0] (iH w.1 w.2) (fun u h' => u = txA (gTxs w).1 ∧ h' = iH ((gTxs w).2).1 ((gTxs w).2).2) := by
  obtain ⟨a, ha⟩ : ∃ a, gNu w M40 = a := ⟨_, rfl⟩
  obtain ⟨b, hb⟩ : ∃ b, gNu a.2 M40 = b := ⟨_, rfl⟩
  obtain ⟨c, hc⟩ : ∃ c, gNu b.2 M40 = c := ⟨_, rfl⟩
  obtain ⟨d, hd⟩ : ∃ d, gNu c.2 M40 = d := ⟨_, rfl⟩
  obtain ⟨e, he⟩ : ∃ e, tkR d.2 32 = e := ⟨_, rfl⟩
  obtain ⟨f, hf⟩ : ∃ f, gNu e.2 M40 = f := ⟨_, rfl⟩
  rw [ha] at hk
  have hG : gTxs w = gTxsV (hdA a b c d e ⟨0, [], 0, 0, 0, f.1, []⟩ var0) f.2 := by simp only [gTxs, ha, hb, hc, hd, he]; rw [if_pos hk]; simp only [hf]
  rw [hG]
  have ca : Spec Try.prog 63 [.ptr 0 0, .r (.int .i64 1099511627776)] (iH w.1 w.2) (fun u h' => u = .r (.int .i64 a.1) ∧ h' = iH a.2.1 a.2.2) := by rw [← ha]; exact w_INum w 1099511627776
  have cb : Spec Try.prog 63 [.ptr 0 0, .r (.int .i64 1099511627776)] (iH a.2.1 a.2.2) (fun u h' => u = .r (.int .i64 b.1) ∧ h' = iH b.2.1 b.2.2) := by rw [← hb]; exact w_INum a.2 1099511627776
  have cc : Spec Try.prog 63 [.ptr 0 0, .r (.int .i64 1099511627776)] (iH b.2.1 b.2.2) (fun u h' => u = .r (.int .i64 c.1) ∧ h' = iH c.2.1 c.2.2) := by rw [← hc]; exact w_INum b.2 1099511627776
  have cd : Spec Try.prog 63 [.ptr 0 0, .r (.int .i64 1099511627776)] (iH c.2.1 c.2.2) (fun u h' => u = .r (.int .i64 d.1) ∧ h' = iH d.2.1 d.2.2) := by rw [← hd]; exact w_INum c.2 1099511627776
  have ce : Spec Try.prog 66 [.ptr 0 0] (iH d.2.1 d.2.2) (fun u h' => u = wd e.1 ∧ h' = iH e.2.1 e.2.2) := by rw [← he]; exact w_IWide d.2
  have cf : Spec Try.prog 63 [.ptr 0 0, .r (.int .i64 1099511627776)] (iH e.2.1 e.2.2) (fun u h' => u = .r (.int .i64 f.1) ∧ h' = iH f.2.1 f.2.2) := by rw [← hf]; exact w_INum e.2 1099511627776
  clear hG ha hb hc hd he hf
  refine spec_of_go (N := 65) Try.func48 rfl (by decide) rfl rfl ?_
  refine z2 ?_
  refine ar_new tOk rfl rfl rfl ?_ ?_
  · simp
  refine z3 ?_
  refine p1 ?_
  refine ar_obj [0] (ca) rfl rfl (handed_of rfl rfl (by decide) ⟨rfl, rfl, rfl, trivial⟩) rfl rfl rfl rfl ?_
  rintro _ _ ⟨rfl, rfl⟩
  refine ⟨_, _, rfl, ?_⟩
  refine ar_ent (ent_same (h' := ⟨2, [(0, some (.mixed [.r (.bs a.2.1), .r (.int .i64 a.2.2), .r (.bool true)])), (1, some (.mixed ((txC tx0).map .r)))], false⟩) rfl rfl ⟨rfl, rfl, trivial⟩) ?_
  refine p1 ?_
  refine ar_obj [0] (cb) rfl rfl (handed_of rfl rfl (by decide) ⟨rfl, rfl, rfl, trivial⟩) rfl rfl rfl rfl ?_
  rintro _ _ ⟨rfl, rfl⟩
  refine ⟨_, _, rfl, ?_⟩
  refine ar_ent (ent_same (h' := ⟨2, [(0, some (.mixed [.r (.bs b.2.1), .r (.int .i64 b.2.2), .r (.bool true)])), (1, some (.mixed ((txC tx0).map .r)))], false⟩) rfl rfl ⟨rfl, rfl, trivial⟩) ?_
  refine p1 ?_
  refine ar_obj [0] (cc) rfl rfl (handed_of rfl rfl (by decide) ⟨rfl, rfl, rfl, trivial⟩) rfl rfl rfl rfl ?_
  rintro _ _ ⟨rfl, rfl⟩
  refine ⟨_, _, rfl, ?_⟩
  refine ar_ent (ent_same (h' := ⟨2, [(0, some (.mixed [.r (.bs c.2.1), .r (.int .i64 c.2.2), .r (.bool true)])), (1, some (.mixed ((txC tx0).map .r)))], false⟩) rfl rfl ⟨rfl, rfl, trivial⟩) ?_
  refine p1 ?_
  refine ar_obj [0] (cd) rfl rfl (handed_of rfl rfl (by decide) ⟨rfl, rfl, rfl, trivial⟩) rfl rfl rfl rfl ?_
  rintro _ _ ⟨rfl, rfl⟩
  refine ⟨_, _, rfl, ?_⟩
  refine ar_ent (ent_same (h' := ⟨2, [(0, some (.mixed [.r (.bs d.2.1), .r (.int .i64 d.2.2), .r (.bool true)])), (1, some (.mixed ((txC tx0).map .r)))], false⟩) rfl rfl ⟨rfl, rfl, trivial⟩) ?_
  refine p1 ?_
  refine ar_obj [0] (ce) rfl rfl (handed_of rfl rfl (by decide) ⟨rfl, rfl, rfl, trivial⟩) rfl rfl rfl rfl ?_
  rintro _ _ ⟨rfl, rfl⟩
  refine ⟨_, _, rfl, ?_⟩
  refine ar_ent (ent_same (h' := ⟨2, [(0, some (.mixed [.r (.bs e.2.1), .r (.int .i64 e.2.2), .r (.bool true)])), (1, some (.mixed ((txC tx0).map .r)))], false⟩) rfl rfl ⟨rfl, rfl, trivial⟩) ?_
  refine ar_pure tOk rfl rfl rfl ?_ ?_
  · simp
  refine ar_ent (ent_reg 14 (txA (hdA a b c d e inv0 var0)) (by kernel_rfl)) ?_
  refine ar_new tOk rfl rfl rfl ?_ ?_
  · simp
  refine ar_store (h' := ⟨3, [(2, some (.mixed ((txC (hdA a b c d e inv0 var0)).map .r))), (2, some (.mixed ((txC (tx0)).map .r))), (0, some (.mixed [.r (.bs e.2.1), .r (.int .i64 e.2.2), .r (.bool true)])), (1, some (.mixed ((txC (tx0)).map .r)))], false⟩) (c := True) tOk (by kernel_rfl) rfl rfl trivial ?_
  refine ar_nil ?_
  refine ag_ent (ent_weak (g' := [(0, .ptr 0 0), (2, .ptr 1 0), (3, .ptr 2 0)]) (h' := ⟨3, [(0, some (.mixed [.r (.bs e.2.1), .r (.int .i64 e.2.2), .r (.bool true)])), (1, some (.mixed ((txC tx0).map .r))), (2, some (.mixed ((txC (hdA a b c d e inv0 var0)).map .r)))], false⟩) [0, 1, 2] rfl rfl rfl rfl ?_ ?_ rfl) ?_
  · exact ⟨⟨rfl, rfl⟩, ⟨rfl, rfl⟩, ⟨rfl, rfl⟩, trivial⟩
  · exact ⟨⟨rfl, rfl, rfl⟩, ⟨rfl, rfl, rfl⟩, ⟨rfl, rfl, rfl⟩, trivial⟩
  refine ag_seq ?_
  refine z2 ?_
  refine p1 ?_
  refine p2 ?_
  refine ar_nil ?_
  refine ag_block ?_
  refine z2 ?_
  iterate 2 refine p1 ?_
  refine ar_nil ?_
  refine ag_true rfl (decide_eq_true (show a.1 = 1 by omega)) ?_
  refine ag_reg ?_
  refine p1 ?_
  refine ar_obj [0] (cf) rfl rfl (handed_of rfl rfl (by decide) ⟨rfl, rfl, rfl, trivial⟩) rfl rfl rfl rfl ?_
  rintro _ _ ⟨rfl, rfl⟩
  refine ⟨_, _, rfl, ?_⟩
  refine ar_ent (ent_same (h' := ⟨3, [(0, some (.mixed [.r (.bs f.2.1), .r (.int .i64 f.2.2), .r (.bool true)])), (1, some (.mixed ((txC tx0).map .r))), (2, some (.mixed ((txC (hdA a b c d e inv0 var0)).map .r)))], false⟩) rfl rfl ⟨rfl, rfl, rfl, trivial⟩) ?_
  iterate 2 refine p1 ?_
  refine ar_store tOk rfl rfl rfl trivial ?_
  refine ar_nil ?_
  refine ag_ent (ent_weak (g' := [(0, .ptr 0 0), (2, .ptr 1 0), (3, .ptr 2 0)]) (h' := ⟨3, [(0, some (.mixed [.r (.bs f.2.1), .r (.int .i64 f.2.2), .r (.bool true)])), (1, some (.mixed ((txC tx0).map .r))), (2, some (.mixed ((txC (hdA a b c d e ⟨0, [], 0, 0, 0, f.1, []⟩ var0)).map .r)))], false⟩) [0, 1, 2] rfl rfl rfl rfl ?_ ?_ rfl) ?_
  · exact ⟨⟨rfl, rfl⟩, ⟨rfl, rfl⟩, ⟨rfl, rfl⟩, trivial⟩
  · exact ⟨⟨rfl, rfl, rfl⟩, ⟨rfl, rfl, rfl⟩, ⟨rfl, rfl, rfl⟩, trivial⟩
  refine ag_inBlock ?_
  refine ag_seq ?_
  refine z2 ?_
  refine p1 ?_
  refine p2 ?_
  iterate 2 refine p1 ?_
  refine ar_ent (ent_reg 42 (.r (.bool false)) (by show AVal.r (.bool _) = _; exact eqB (decide_eq_false (show ¬ a.1 = 5 by omega)))) ?_
  refine p1 ?_
  refine p2 ?_
  iterate 2 refine p1 ?_
  refine ar_nil ?_
  refine ag_false rfl (decide_eq_false (show ¬ a.1 = 6 by omega)) ?_
  refine ag_skip ?_
  refine ag_seq ?_
  refine z2 ?_
  refine p1 ?_
  refine ar_qd rfl (qop_objR [0] (w_Err f.2.1 f.2.2) (by rintro _ _ ⟨rfl, rfl⟩; exact ⟨rfl, rfl⟩) rfl rfl (handed_of rfl rfl (by decide) ⟨rfl, rfl, rfl, trivial⟩) rfl rfl) rfl rfl rfl rfl ?_
  iterate 2 refine p1 ?_
  refine ar_guard (t := decide (f.2.2 ≠ 0)) (fun ht => ?_) (fun ht => ?_)
  · refine ar_ent (ent_reg 56 (.r (.bool true)) (by show AVal.r (.bool _) = _; exact eqB ht)) ?_
    have hk0 := of_decide_eq_true ht
    repeat (first | refine ar_skip rfl rfl rfl ?_ | refine ar_pure tOk rfl rfl rfl trivial ?_)
    refine ar_nil ?_
    refine ag_true rfl (by rfl) ?_
    refine z2 ?_
    refine p1 ?_
    refine ar_obj [0] (w_ISpoil f.2) rfl rfl (handed_of rfl rfl (by decide) ⟨rfl, rfl, rfl, trivial⟩) rfl rfl rfl rfl ?_
    rintro _ _ ⟨rfl, rfl⟩
    refine ⟨_, _, rfl, ?_⟩
    refine z3 ?_
    refine ar_pure tOk rfl rfl rfl ?_ ?_
    · simp
    refine ar_store tOk rfl rfl rfl trivial ?_
    refine ar_nil ?_
    refine ag_retW (v := txA tx0) tOk Try.func48 rfl rfl (by first | trivial | exact ⟨trivial, trivial⟩ | simp) (ent_weak (g' := [(0, txA tx0)]) (h' := iH (spR f.2).1 (spR f.2).2) [0] rfl rfl rfl rfl ?_ ?_ rfl) ?_
    · exact ⟨⟨rfl, rfl⟩, trivial⟩
    · exact ⟨⟨rfl, rfl, rfl⟩, trivial⟩
    rw [show gTxsV (hdA a b c d e ⟨0, [], 0, 0, 0, f.1, []⟩ var0) f.2 = (tx0, spR f.2) from by rw [gTxsV, if_pos (.inl hk0)]]
    exact ⟨rfl, rfl⟩
  · refine ar_ent (ent_reg 56 (.r (.bool false)) (by show AVal.r (.bool _) = _; exact eqB ht)) ?_
    have hk0 := of_decide_eq_false ht
    refine p2 ?_
    refine ar_pur (w_xCheck (hdA a b c d e ⟨0, [], 0, 0, 0, f.1, []⟩ var0)) rfl rfl rfl rfl rfl rfl rfl ?_
    iterate 2 refine p1 ?_
    refine ar_nil ?_
    refine ag_if rfl ?_ ?_
    · intro h60
      refine z2 ?_
      refine p1 ?_
      refine ar_obj [0] (w_ISpoil f.2) rfl rfl (handed_of rfl rfl (by decide) ⟨rfl, rfl, rfl, trivial⟩) rfl rfl rfl rfl ?_
      rintro _ _ ⟨rfl, rfl⟩
      refine ⟨_, _, rfl, ?_⟩
      refine z3 ?_
      refine ar_pure tOk rfl rfl rfl ?_ ?_
      · simp
      refine ar_store tOk rfl rfl rfl trivial ?_
      refine ar_nil ?_
      refine ag_retW (v := txA tx0) tOk Try.func48 rfl rfl (by first | trivial | exact ⟨trivial, trivial⟩ | simp) (ent_weak (g' := [(0, txA tx0)]) (h' := iH (spR f.2).1 (spR f.2).2) [0] rfl rfl rfl rfl ?_ ?_ rfl) ?_
      · exact ⟨⟨rfl, rfl⟩, trivial⟩
      · exact ⟨⟨rfl, rfl, rfl⟩, trivial⟩
      rw [show gTxsV (hdA a b c d e ⟨0, [], 0, 0, 0, f.1, []⟩ var0) f.2 = (tx0, spR f.2) from by rw [gTxsV, if_pos (.inr (by simpa using h60))]]
      exact ⟨rfl, rfl⟩
    · intro h60
      refine ag_ent (ent_weak (g' := [(0, .ptr 0 0), (2, .ptr 1 0), (3, .ptr 2 0)]) (h' := ⟨3, [(0, some (.mixed [.r (.bs f.2.1), .r (.int .i64 f.2.2), .r (.bool true)])), (1, some (.mixed ((txC tx0).map .r))), (2, some (.mixed ((txC (hdA a b c d e ⟨0, [], 0, 0, 0, f.1, []⟩ var0)).map .r)))], false⟩) [0, 1, 2] rfl rfl rfl rfl ?_ ?_ rfl) ?_
      · exact ⟨⟨rfl, rfl⟩, ⟨rfl, rfl⟩, ⟨rfl, rfl⟩, trivial⟩
      · exact ⟨⟨rfl, rfl, rfl⟩, ⟨rfl, rfl, rfl⟩, ⟨rfl, rfl, rfl⟩, trivial⟩
      refine ag_skip ?_
      refine z2 ?_
      refine p2 ?_
      refine ar_store (h' := ⟨3, [(1, some (.mixed ((txC (hdA a b c d e ⟨0, [], 0, 0, 0, f.1, []⟩ var0)).map .r))), (0, some (.mixed [.r (.bs f.2.1), .r (.int .i64 f.2.2), .r (.bool true)])), (1, some (.mixed ((txC tx0).map .r))), (2, some (.mixed ((txC (hdA a b c d e ⟨0, [], 0, 0, 0, f.1, []⟩ var0)).map .r)))], false⟩) (c := True) tOk (by kernel_rfl) rfl rfl trivial ?_
      refine ar_nil ?_
      refine ag_retW (v := txA (hdA a b c d e ⟨0, [], 0, 0, 0, f.1, []⟩ var0)) tOk Try.func48 rfl rfl (by first | trivial | exact ⟨trivial, trivial⟩ | simp) (ent_weak (g' := [(0, txA (hdA a b c d e ⟨0, [], 0, 0, 0, f.1, []⟩ var0))]) (h' := iH f.2.1 f.2.2) [0] rfl rfl rfl rfl ?_ ?_ rfl) ?_
      · exact ⟨⟨rfl, rfl⟩, trivial⟩
      · exact ⟨⟨rfl, rfl, rfl⟩, trivial⟩
      rw [show gTxsV (hdA a b c d e ⟨0, [], 0, 0, 0, f.1, []⟩ var0) f.2 = (hdA a b c d e ⟨0, [], 0, 0, 0, f.1, []⟩ var0, f.2) from by rw [gTxsV, if_neg (by rintro (q | q); exact hk0 q; exact q (by simpa using h60))]]
      exact ⟨rfl, rfl⟩

theorem w_xGet2 (w : W) (hk : (gNu w M40).1 = 2) : Spec Try.prog 48 [.ptr 0 0] (iH w.1 w.2) (fun u h' => u = txA (gTxs w).1 ∧ h' = iH ((gTxs w).2).1 ((gTxs w).2).2) := by
  obtain ⟨a, ha⟩ : ∃ a, gNu w M40 = a := ⟨_, rfl⟩
  obtain ⟨b, hb⟩ : ∃ b, gNu a.2 M40 = b := ⟨_, rfl⟩
  obtain ⟨c, hc⟩ : ∃ c, gNu b.2 M40 = c := ⟨_, rfl⟩
  obtain ⟨d, hd⟩ : ∃ d, gNu c.2 M40 = d := ⟨_, rfl⟩
  obtain ⟨e, he⟩ : ∃ e, tkR d.2 32 = e := ⟨_, rfl⟩
  obtain ⟨f, hf⟩ : ∃ f, gNu e.2 M40 = f := ⟨_, rfl⟩
  rw [ha] at hk
  have hG : gTxs w = gTxsV (hdA a b c d e ⟨0, [], f.1, 0, 0, 0, []⟩ var0) f.2 := by simp only [gTxs, ha, hb, hc, hd, he]; rw [if_neg (by omega), if_pos hk]; simp only [hf]
  rw [hG]
  have ca : Spec Try.prog 63 [.ptr 0 0, .r (.int .i64 1099511627776)] (iH w.1 w.2) (fun u h' => u = .r (.int .i64 a.1) ∧ h' = iH a.2.1 a.2.2) := by rw [← ha]; exact w_INum w 1099511627776
  have cb : Spec Try.prog 63 [.ptr 0 0, .r (.int .i64 1099511627776)] (iH a.2.1 a.2.2) (fun u h' => u = .r (.int .i64 b.1) ∧ h' = iH b.2.1 b.2.2) := by rw [← hb]; exact w_INum a.2 1099511627776
  have cc : Spec Try.prog 63 [.ptr 0 0, .r (.int .i64 1099511627776)] (iH b.2.1 b.2.2) (fun u h' => u = .r (.int .i64 c.1) ∧ h' = iH c.2.1 c.2.2) := by rw [← hc]; exact w_INum b.2 1099511627776
  have cd : Spec Try.prog 63 [.ptr 0 0, .r (.int .i64 1099511627776)] (iH c.2.1 c.2.2) (fun u h' => u = .r (.int .i64 d.1) ∧ h' = iH d.2.1 d.2.2) := by rw [← hd]; exact w_INum c.2 1099511627776
  have ce : Spec Try.prog 66 [.ptr 0 0] (iH d.2.1 d.2.2) (fun u h' => u = wd e.1 ∧ h' = iH e.2.1 e.2.2) := by rw [← he]; exact w_IWide d.2
  have cf : Spec Try.prog 63 [.ptr 0 0, .r (.int .i64 1099511627776)] (iH e.2.1 e.2.2) (fun u h' => u = .r (.int .i64 f.1) ∧ h' = iH f.2.1 f.2.2) := by rw [← hf]; exact w_INum e.2 1099511627776
  clear hG ha hb hc hd he hf
  refine spec_of_go (N := 65) Try.func48 rfl (by decide) rfl rfl ?_
  refine z2 ?_
  refine ar_new tOk rfl rfl rfl ?_ ?_
  · simp
  refine z3 ?_
  refine p1 ?_
  refine ar_obj [0] (ca) rfl rfl (handed_of rfl rfl (by decide) ⟨rfl, rfl, rfl, trivial⟩) rfl rfl rfl rfl ?_
  rintro _ _ ⟨rfl, rfl⟩
  refine ⟨_, _, rfl, ?_⟩
  refine ar_ent (ent_same (h' := ⟨2, [(0, some (.mixed [.r (.bs a.2.1), .r (.int .i64 a.2.2), .r (.bool true)])), (1, some (.mixed ((txC tx0).map .r)))], false⟩) rfl rfl ⟨rfl, rfl, trivial⟩) ?_
  refine p1 ?_
  refine ar_obj [0] (cb) rfl rfl (handed_of rfl rfl (by decide) ⟨rfl, rfl, rfl, trivial⟩) rfl rfl rfl rfl ?_
  rintro _ _ ⟨rfl, rfl⟩
  refine ⟨_, _, rfl, ?_⟩
  refine ar_ent (ent_same (h' := ⟨2, [(0, some (.mixed [.r (.bs b.2.1), .r (.int .i64 b.2.2), .r (.bool true)])), (1, some (.mixed ((txC tx0).map .r)))], false⟩) rfl rfl ⟨rfl, rfl, trivial⟩) ?_
  refine p1 ?_
  refine ar_obj [0] (cc) rfl rfl (handed_of rfl rfl (by decide) ⟨rfl, rfl, rfl, trivial⟩) rfl rfl rfl rfl ?_
  rintro _ _ ⟨rfl, rfl⟩
  refine ⟨_, _, rfl, ?_⟩
  refine ar_ent (ent_same (h' := ⟨2, [(0, some (.mixed [.r (.bs c.2.1), .r (.int .i64 c.2.2), .r (.bool true)])), (1, some (.mixed ((txC tx0).map .r)))], false⟩) rfl rfl ⟨rfl, rfl, trivial⟩) ?_
  refine p1 ?_
  refine ar_obj [0] (cd) rfl rfl (handed_of rfl rfl (by decide) ⟨rfl, rfl, rfl, trivial⟩) rfl rfl rfl rfl ?_
  rintro _ _ ⟨rfl, rfl⟩
  refine ⟨_, _, rfl, ?_⟩
  refine ar_ent (ent_same (h' := ⟨2, [(0, some (.mixed [.r (.bs d.2.1), .r (.int .i64 d.2.2), .r (.bool true)])), (1, some (.mixed ((txC tx0).map .r)))], false⟩) rfl rfl ⟨rfl, rfl, trivial⟩) ?_
  refine p1 ?_
  refine ar_obj [0] (ce) rfl rfl (handed_of rfl rfl (by decide) ⟨rfl, rfl, rfl, trivial⟩) rfl rfl rfl rfl ?_
  rintro _ _ ⟨rfl, rfl⟩
  refine ⟨_, _, rfl, ?_⟩
  refine ar_ent (ent_same (h' := ⟨2, [(0, some (.mixed [.r (.bs e.2.1), .r (.int .i64 e.2.2), .r (.bool true)])), (1, some (.mixed ((txC tx0).map .r)))], false⟩) rfl rfl ⟨rfl, rfl, trivial⟩) ?_
  refine ar_pure tOk rfl rfl rfl ?_ ?_
  · simp
  refine ar_ent (ent_reg 14 (txA (hdA a b c d e inv0 var0)) (by kernel_rfl)) ?_
  refine ar_new tOk rfl rfl rfl ?_ ?_
  · simp
  refine ar_store (h' := ⟨3, [(2, some (.mixed ((txC (hdA a b c d e inv0 var0)).map .r))), (2, some (.mixed ((txC (tx0)).map .r))), (0, some (.mixed [.r (.bs e.2.1), .r (.int .i64 e.2.2), .r (.bool true)])), (1, some (.mixed ((txC (tx0)).map .r)))], false⟩) (c := True) tOk (by kernel_rfl) rfl rfl trivial ?_
  refine ar_nil ?_
  refine ag_ent (ent_weak (g' := [(0, .ptr 0 0), (2, .ptr 1 0), (3, .ptr 2 0)]) (h' := ⟨3, [(0, some (.mixed [.r (.bs e.2.1), .r (.int .i64 e.2.2), .r (.bool true)])), (1, some (.mixed ((txC tx0).map .r))), (2, some (.mixed ((txC (hdA a b c d e inv0 var0)).map .r)))], false⟩) [0, 1, 2] rfl rfl rfl rfl ?_ ?_ rfl) ?_
  · exact ⟨⟨rfl, rfl⟩, ⟨rfl, rfl⟩, ⟨rfl, rfl⟩, trivial⟩
  · exact ⟨⟨rfl, rfl, rfl⟩, ⟨rfl, rfl, rfl⟩, ⟨rfl, rfl, rfl⟩, trivial⟩
  refine ag_seq ?_
  refine z2 ?_
  refine p1 ?_
  refine p2 ?_
  refine ar_nil ?_
  refine ag_block ?_
  refine z2 ?_
  iterate 2 refine p1 ?_
  refine ar_nil ?_
  refine ag_false rfl (decide_eq_false (show ¬ a.1 = 1 by omega)) ?_
  refine z2 ?_
  iterate 2 refine p1 ?_
  refine ar_nil ?_
  refine ag_true rfl (decide_eq_true (show a.1 = 2 by omega)) ?_
  refine ag_reg ?_
  refine p1 ?_
  refine ar_obj [0] (cf) rfl rfl (handed_of rfl rfl (by decide) ⟨rfl, rfl, rfl, trivial⟩) rfl rfl rfl rfl ?_
  rintro _ _ ⟨rfl, rfl⟩
  refine ⟨_, _, rfl, ?_⟩
  refine ar_ent (ent_same (h' := ⟨3, [(0, some (.mixed [.r (.bs f.2.1), .r (.int .i64 f.2.2), .r (.bool true)])), (1, some (.mixed ((txC tx0).map .r))), (2, some (.mixed ((txC (hdA a b c d e inv0 var0)).map .r)))], false⟩) rfl rfl ⟨rfl, rfl, rfl, trivial⟩) ?_
  iterate 2 refine p1 ?_
  refine ar_store tOk rfl rfl rfl trivial ?_
  refine ar_nil ?_
  refine ag_ent (ent_weak (g' := [(0, .ptr 0 0), (2, .ptr 1 0), (3, .ptr 2 0)]) (h' := ⟨3, [(0, some (.mixed [.r (.bs f.2.1), .r (.int .i64 f.2.2), .r (.bool true)])), (1, some (.mixed ((txC tx0).map .r))), (2, some (.mixed ((txC (hdA a b c d e ⟨0, [], f.1, 0, 0, 0, []⟩ var0)).map .r)))], false⟩) [0, 1, 2] rfl rfl rfl rfl ?_ ?_ rfl) ?_
  · exact ⟨⟨rfl, rfl⟩, ⟨rfl, rfl⟩, ⟨rfl, rfl⟩, trivial⟩
  · exact ⟨⟨rfl, rfl, rfl⟩, ⟨rfl, rfl, rfl⟩, ⟨rfl, rfl, rfl⟩, trivial⟩
  refine ag_inBlock ?_
  refine ag_seq ?_
  refine z2 ?_
  refine p1 ?_
  refine p2 ?_
  iterate 2 refine p1 ?_
  refine ar_ent (ent_reg 42 (.r (.bool false)) (by show AVal.r (.bool _) = _; exact eqB (decide_eq_false (show ¬ a.1 = 5 by omega)))) ?_
  refine p1 ?_
  refine p2 ?_
  iterate 2 refine p1 ?_
  refine ar_nil ?_
  refine ag_false rfl (decide_eq_false (show ¬ a.1 = 6 by omega)) ?_
  refine ag_skip ?_
  refine ag_seq ?_
  refine z2 ?_
  refine p1 ?_
  refine ar_qd rfl (qop_objR [0] (w_Err f.2.1 f.2.2) (by rintro _ _ ⟨rfl, rfl⟩; exact ⟨rfl, rfl⟩) rfl rfl (handed_of rfl rfl (by decide) ⟨rfl, rfl, rfl, trivial⟩) rfl rfl) rfl rfl rfl rfl ?_
  iterate 2 refine p1 ?_
  refine ar_guard (t := decide (f.2.2 ≠ 0)) (fun ht => ?_) (fun ht => ?_)
  · refine ar_ent (ent_reg 56 (.r (.bool true)) (by show AVal.r (.bool _) = _; exact eqB ht)) ?_
    have hk0 := of_decide_eq_true ht
    repeat (first | refine ar_skip rfl rfl rfl ?_ | refine ar_pure tOk rfl rfl rfl trivial ?_)
    refine ar_nil ?_
    refine ag_true rfl (by rfl) ?_
    refine z2 ?_
    refine p1 ?_
    refine ar_obj [0] (w_ISpoil f.2) rfl rfl (handed_of rfl rfl (by decide) ⟨rfl, rfl, rfl, trivial⟩) rfl rfl rfl rfl ?_
    rintro _ _ ⟨rfl, rfl⟩
    refine ⟨_, _, rfl, ?_⟩
    refine z3 ?_
    refine ar_pure tOk rfl rfl rfl ?_ ?_
    · simp
    refine ar_store tOk rfl rfl rfl trivial ?_
    refine ar_nil ?_
    refine ag_retW (v := txA tx0) tOk Try.func48 rfl rfl (by first | trivial | exact ⟨trivial, trivial⟩ | simp) (ent_weak (g' := [(0, txA tx0)]) (h' := iH (spR f.2).1 (spR f.2).2) [0] rfl rfl rfl rfl ?_ ?_ rfl) ?_
    · exact ⟨⟨rfl, rfl⟩, trivial⟩
    · exact ⟨⟨rfl, rfl, rfl⟩, trivial⟩
    rw [show gTxsV (hdA a b c d e ⟨0, [], f.1, 0, 0, 0, []⟩ var0) f.2 = (tx0, spR f.2) from by rw [gTxsV, if_pos (.inl hk0)]]
    exact ⟨rfl, rfl⟩
  · refine ar_ent (ent_reg 56 (.r (.bool false)) (by show AVal.r (.bool _) = _; exact eqB ht)) ?_
    have hk0 := of_decide_eq_false ht
    refine p2 ?_
    refine ar_pur (w_xCheck (hdA a b c d e ⟨0, [], f.1, 0, 0, 0, []⟩ var0)) rfl rfl rfl rfl rfl rfl rfl ?_
    iterate 2 refine p1 ?_
    refine ar_nil ?_
    refine ag_if rfl ?_ ?_
    · intro h60
      refine z2 ?_
      refine p1 ?_
      refine ar_obj [0] (w_ISpoil f.2) rfl rfl (handed_of rfl rfl (by decide) ⟨rfl, rfl, rfl, trivial⟩) rfl rfl rfl rfl ?_
      rintro _ _ ⟨rfl, rfl⟩
      refine ⟨_, _, rfl, ?_⟩
      refine z3 ?_
      refine ar_pure tOk rfl rfl rfl ?_ ?_
      · simp
      refine ar_store tOk rfl rfl rfl trivial ?_
      refine ar_nil ?_
      refine ag_retW (v := txA tx0) tOk Try.func48 rfl rfl (by first | trivial | exact ⟨trivial, trivial⟩ | simp) (ent_weak (g' := [(0, txA tx0)]) (h' := iH (spR f.2).1 (spR f.2).2) [0] rfl rfl rfl rfl ?_ ?_ rfl) ?_
      · exact ⟨⟨rfl, rfl⟩, trivial⟩
      · exact ⟨⟨rfl, rfl, rfl⟩, trivial⟩
      rw [show gTxsV (hdA a b c d e ⟨0, [], f.1, 0, 0, 0, []⟩ var0) f.2 = (tx0, spR f.2) from by rw [gTxsV, if_pos (.inr (by simpa using h60))]]
      exact ⟨rfl, rfl⟩
    · intro h60
      refine ag_ent (ent_weak (g' := [(0, .ptr 0 0), (2, .ptr 1 0), (3, .ptr 2 0)]) (h' := ⟨3, [(0, some (.mixed [.r (.bs f.2.1), .r (.int .i64 f.2.2), .r (.bool true)])), (1, some (.mixed ((txC tx0).map .r))), (2, some (.mixed ((txC (hdA a b c d e ⟨0, [], f.1, 0, 0, 0, []⟩ var0)).map .r)))], false⟩) [0, 1, 2] rfl rfl rfl rfl ?_ ?_ rfl) ?_
      · exact ⟨⟨rfl, rfl⟩, ⟨rfl, rfl⟩, ⟨rfl, rfl⟩, trivial⟩
      · exact ⟨⟨rfl, rfl, rfl⟩, ⟨rfl, rfl, rfl⟩, ⟨rfl, rfl, rfl⟩, trivial⟩
      refine ag_skip ?_
      refine z2 ?_
      refine p2 ?_
      refine ar_store (h' := ⟨3, [(1, some (.mixed ((txC (hdA a b c d e ⟨0, [], f.1, 0, 0, 0, []⟩ var0)).map .r))), (0, some (.mixed [.r (.bs f.2.1), .r (.int .i64 f.2.2), .r (.bool true)])), (1, some (.mixed ((txC tx0).map .r))), (2, some (.mixed ((txC (hdA a b c d e ⟨0, [], f.1, 0, 0, 0, []⟩ var0)).map .r)))], false⟩) (c := True) tOk (by kernel_rfl) rfl rfl trivial ?_
      refine ar_nil ?_
      refine ag_retW (v := txA (hdA a b c d e ⟨0, [], f.1, 0, 0, 0, []⟩ var0)) tOk Try.func48 rfl rfl (by first | trivial | exact ⟨trivial, trivial⟩ | simp) (ent_weak (g' := [(0, txA (hdA a b c d e ⟨0, [], f.1, 0, 0, 0, []⟩ var0))]) (h' := iH f.2.1 f.2.2) [0] rfl rfl rfl rfl ?_ ?_ rfl) ?_
      · exact ⟨⟨rfl, rfl⟩, trivial⟩
      · exact ⟨⟨rfl, rfl, rfl⟩, trivial⟩
      rw [show gTxsV (hdA a b c d e ⟨0, [], f.1, 0, 0, 0, []⟩ var0) f.2 = (hdA a b c d e ⟨0, [], f.1, 0, 0, 0, []⟩ var0, f.2) from by rw [gTxsV, if_neg (by rintro (q | q); exact hk0 q; exact q (by simpa using h60))]]
      exact ⟨rfl, rfl⟩

theorem w_xGet4 (w : W) (hk : (gNu w M40).1 = 4) : Spec Try.prog 48 [.ptr 0 0] (iH w.1 w.2) (fun u h' => u = txA (gTxs w).1 ∧ h' = iH ((gTxs w).2).1 ((gTxs w).2).2) := by
  obtain ⟨a, ha⟩ : ∃ a, gNu w M40 = a := ⟨_, rfl⟩
  obtain ⟨b, hb⟩ : ∃ b, gNu a.2 M40 = b := ⟨_, rfl⟩
  obtain ⟨c, hc⟩ : ∃ c, gNu b.2 M40 = c := ⟨_, rfl⟩
  obtain ⟨d, hd⟩ : ∃ d, gNu c.2 M40 = d := ⟨_, rfl⟩
  obtain ⟨e, he⟩ : ∃ e, tkR d.2 32 = e := ⟨_, rfl⟩
  obtain ⟨i, hi⟩ : ∃ i, gInv e.2 = i := ⟨_, rfl⟩
  obtain ⟨j, hj⟩ : ∃ j, gVar i.2 = j := ⟨_, rfl⟩
  rw [ha] at hk
  have hG : gTxs w = gTxsV (hdA a b c d e i.1 j.1) j.2 := by simp only [gTxs, ha, hb, hc, hd, he]; rw [if_neg (by omega), if_neg (by omega), if_pos hk]; simp only [hi, hj]
  rw [hG]
  have ca : Spec Try.prog 63 [.ptr 0 0, .r (.int .i64 1099511627776)] (iH w.1 w.2) (fun u h' => u = .r (.int .i64 a.1) ∧ h' = iH a.2.1 a.2.2) := by rw [← ha]; exact w_INum w 1099511627776
  have cb : Spec Try.prog 63 [.ptr 0 0, .r (.int .i64 1099511627776)] (iH a.2.1 a.2.2) (fun u h' => u = .r (.int .i64 b.1) ∧ h' = iH b.2.1 b.2.2) := by rw [← hb]; exact w_INum a.2 1099511627776
  have cc : Spec Try.prog 63 [.ptr 0 0, .r (.int .i64 1099511627776)] (iH b.2.1 b.2.2) (fun u h' => u = .r (.int .i64 c.1) ∧ h' = iH c.2.1 c.2.2) := by rw [← hc]; exact w_INum b.2 1099511627776
  have cd : Spec Try.prog 63 [.ptr 0 0, .r (.int .i64 1099511627776)] (iH c.2.1 c.2.2) (fun u h' => u = .r (.int .i64 d.1) ∧ h' = iH d.2.1 d.2.2) := by rw [← hd]; exact w_INum c.2 1099511627776
  have ce : Spec Try.prog 66 [.ptr 0 0] (iH d.2.1 d.2.2) (fun u h' => u = wd e.1 ∧ h' = iH e.2.1 e.2.2) := by rw [← he]; exact w_IWide d.2
  have ci : Spec Try.prog 26 [.ptr 0 0] (iH e.2.1 e.2.2) (fun u h' => u = invA i.1 ∧ h' = iH i.2.1 i.2.2) := by rw [← hi]; exact w_dGet e.2
  have cj : Spec Try.prog 30 [.ptr 0 0] (iH i.2.1 i.2.2) (fun u h' => u = varA j.1 ∧ h' = iH j.2.1 j.2.2) := by rw [← hj]; exact w_dGetVar i.2
  clear hG ha hb hc hd he hi hj
  refine spec_of_go (N := 65) Try.func48 rfl (by decide) rfl rfl ?_
  refine z2 ?_
  refine ar_new tOk rfl rfl rfl ?_ ?_
  · simp
  refine z3 ?_
  refine p1 ?_
  refine ar_obj [0] (ca) rfl rfl (handed_of rfl rfl (by decide) ⟨rfl, rfl, rfl, trivial⟩) rfl rfl rfl rfl ?_
  rintro _ _ ⟨rfl, rfl⟩
  refine ⟨_, _, rfl, ?_⟩
  refine ar_ent (ent_same (h' := ⟨2, [(0, some (.mixed [.r (.bs a.2.1), .r (.int .i64 a.2.2), .r (.bool true)])), (1, some (.mixed ((txC tx0).map .r)))], false⟩) rfl rfl ⟨rfl, rfl, trivial⟩) ?_
  refine p1 ?_
  refine ar_obj [0] (cb) rfl rfl (handed_of rfl rfl (by decide) ⟨rfl, rfl, rfl, trivial⟩) rfl rfl rfl rfl ?_
  rintro _ _ ⟨rfl, rfl⟩
  refine ⟨_, _, rfl, ?_⟩
  refine ar_ent (ent_same (h' := ⟨2, [(0, some (.mixed [.r (.bs b.2.1), .r (.int .i64 b.2.2), .r (.bool true)])), (1, some (.mixed ((txC tx0).map .r)))], false⟩) rfl rfl ⟨rfl, rfl, trivial⟩) ?_
  refine p1 ?_
  refine ar_obj [0] (cc) rfl rfl (handed_of rfl rfl (by decide) ⟨rfl, rfl, rfl, trivial⟩) rfl rfl rfl rfl ?_
  rintro _ _ ⟨rfl, rfl⟩
  refine ⟨_, _, rfl, ?_⟩
  refine ar_ent (ent_same (h' := ⟨2, [(0, some (.mixed [.r (.bs c.2.1), .r (.int .i64 c.2.2), .r (.bool true)])), (1, some (.mixed ((txC tx0).map .r)))], false⟩) rfl rfl ⟨rfl, rfl, trivial⟩) ?_
  refine p1 ?_
  refine ar_obj [0] (cd) rfl rfl (handed_of rfl rfl (by decide) ⟨rfl, rfl, rfl, trivial⟩) rfl rfl rfl rfl ?_
  rintro _ _ ⟨rfl, rfl⟩
  refine ⟨_, _, rfl, ?_⟩
  refine ar_ent (ent_same (h' := ⟨2, [(0, some (.mixed [.r (.bs d.2.1), .r (.int .i64 d.2.2), .r (.bool true)])), (1, some (.mixed ((txC tx0).map .r)))], false⟩) rfl rfl ⟨rfl, rfl, trivial⟩) ?_
  refine p1 ?_
  refine ar_obj [0] (ce) rfl rfl (handed_of rfl rfl (by decide) ⟨rfl, rfl, rfl, trivial⟩) rfl rfl rfl rfl ?_
  rintro _ _ ⟨rfl, rfl⟩
  refine ⟨_, _, rfl, ?_⟩
  refine ar_ent (ent_same (h' := ⟨2, [(0, some (.mixed [.r (.bs e.2.1), .r (.int .i64 e.2.2), .r (.bool true)])), (1, some (.mixed ((txC tx0).map .r)))], false⟩) rfl rfl ⟨rfl, rfl, trivial⟩) ?_
  refine ar_pure tOk rfl rfl rfl ?_ ?_
  · simp
  refine ar_ent (ent_reg 14 (txA (hdA a b c d e inv0 var0)) (by kernel_rfl)) ?_
  refine ar_new tOk rfl rfl rfl ?_ ?_
  · simp
  refine ar_store (h' := ⟨3, [(2, some (.mixed ((txC (hdA a b c d e inv0 var0)).map .r))), (2, some (.mixed ((txC (tx0)).map .r))), (0, some (.mixed [.r (.bs e.2.1), .r (.int .i64 e.2.2), .r (.bool true)])), (1, some (.mixed ((txC (tx0)).map .r)))], false⟩) (c := True) tOk (by kernel_rfl) rfl rfl trivial ?_
  refine ar_nil ?_
  refine ag_ent (ent_weak (g' := [(0, .ptr 0 0), (2, .ptr 1 0), (3, .ptr 2 0)]) (h' := ⟨3, [(0, some (.mixed [.r (.bs e.2.1), .r (.int .i64 e.2.2), .r (.bool true)])), (1, some (.mixed ((txC tx0).map .r))), (2, some (.mixed ((txC (hdA a b c d e inv0 var0)).map .r)))], false⟩) [0, 1, 2] rfl rfl rfl rfl ?_ ?_ rfl) ?_
  · exact ⟨⟨rfl, rfl⟩, ⟨rfl, rfl⟩, ⟨rfl, rfl⟩, trivial⟩
  · exact ⟨⟨rfl, rfl, rfl⟩, ⟨rfl, rfl, rfl⟩, ⟨rfl, rfl, rfl⟩, trivial⟩
  refine ag_seq ?_
  refine z2 ?_
  refine p1 ?_
  refine p2 ?_
  refine ar_nil ?_
  refine ag_block ?_
  refine z2 ?_
  iterate 2 refine p1 ?_
  refine ar_nil ?_
  refine ag_false rfl (decide_eq_false (show ¬ a.1 = 1 by omega)) ?_
  refine z2 ?_
  iterate 2 refine p1 ?_
  refine ar_nil ?_
  refine ag_false rfl (decide_eq_false (show ¬ a.1 = 2 by omega)) ?_
  refine ag_seq ?_
  refine z2 ?_
  iterate 2 refine p1 ?_
  refine ar_nil ?_
  refine ag_true rfl (decide_eq_true (show a.1 = 4 by omega)) ?_
  refine ag_skip ?_
  refine ag_true rfl (decide_eq_true (show a.1 = 4 by omega)) ?_
  refine ag_reg ?_
  refine p1 ?_
  refine ar_obj [0] (ci) rfl rfl (handed_of rfl rfl (by decide) ⟨rfl, rfl, rfl, trivial⟩) rfl rfl rfl rfl ?_
  rintro _ _ ⟨rfl, rfl⟩
  refine ⟨_, _, rfl, ?_⟩
  refine ar_ent (ent_same (h' := ⟨3, [(0, some (.mixed [.r (.bs i.2.1), .r (.int .i64 i.2.2), .r (.bool true)])), (1, some (.mixed ((txC tx0).map .r))), (2, some (.mixed ((txC (hdA a b c d e inv0 var0)).map .r)))], false⟩) rfl rfl ⟨rfl, rfl, rfl, trivial⟩) ?_
  refine p1 ?_
  refine ar_obj [0] (cj) rfl rfl (handed_of rfl rfl (by decide) ⟨rfl, rfl, rfl, trivial⟩) rfl rfl rfl rfl ?_
  rintro _ _ ⟨rfl, rfl⟩
  refine ⟨_, _, rfl, ?_⟩
  refine ar_ent (ent_same (h' := ⟨3, [(0, some (.mixed [.r (.bs j.2.1), .r (.int .i64 j.2.2), .r (.bool true)])), (1, some (.mixed ((txC tx0).map .r))), (2, some (.mixed ((txC (hdA a b c d e inv0 var0)).map .r)))], false⟩) rfl rfl ⟨rfl, rfl, rfl, trivial⟩) ?_
  refine p1 ?_
  refine ar_store tOk rfl rfl rfl trivial ?_
  refine p1 ?_
  refine ar_store tOk rfl rfl rfl trivial ?_
  refine ar_nil ?_
  refine ag_ent (ent_weak (g' := [(0, .ptr 0 0), (2, .ptr 1 0), (3, .ptr 2 0)]) (h' := ⟨3, [(0, some (.mixed [.r (.bs j.2.1), .r (.int .i64 j.2.2), .r (.bool true)])), (1, some (.mixed ((txC tx0).map .r))), (2, some (.mixed ((txC (hdA a b c d e i.1 j.1)).map .r)))], false⟩) [0, 1, 2] rfl rfl rfl rfl ?_ ?_ rfl) ?_
  · exact ⟨⟨rfl, rfl⟩, ⟨rfl, rfl⟩, ⟨rfl, rfl⟩, trivial⟩
  · exact ⟨⟨rfl, rfl, rfl⟩, ⟨rfl, rfl, rfl⟩, ⟨rfl, rfl, rfl⟩, trivial⟩
  refine ag_inBlock ?_
  refine ag_seq ?_
  refine z2 ?_
  refine p1 ?_
  refine p2 ?_
  iterate 2 refine p1 ?_
  refine ar_ent (ent_reg 42 (.r (.bool false)) (by show AVal.r (.bool _) = _; exact eqB (decide_eq_false (show ¬ a.1 = 5 by omega)))) ?_
  refine p1 ?_
  refine p2 ?_
  iterate 2 refine p1 ?_
  refine ar_nil ?_
  refine ag_false rfl (decide_eq_false (show ¬ a.1 = 6 by omega)) ?_
  refine ag_skip ?_
  refine ag_seq ?_
  refine z2 ?_
  refine p1 ?_
  refine ar_qd rfl (qop_objR [0] (w_Err j.2.1 j.2.2) (by rintro _ _ ⟨rfl, rfl⟩; exact ⟨rfl, rfl⟩) rfl rfl (handed_of rfl rfl (by decide) ⟨rfl, rfl, rfl, trivial⟩) rfl rfl) rfl rfl rfl rfl ?_
  iterate 2 refine p1 ?_
  refine ar_guard (t := decide (j.2.2 ≠ 0)) (fun ht => ?_) (fun ht => ?_)
  · refine ar_ent (ent_reg 56 (.r (.bool true)) (by show AVal.r (.bool _) = _; exact eqB ht)) ?_
    have hk0 := of_decide_eq_true ht
    repeat (first | refine ar_skip rfl rfl rfl ?_ | refine ar_pure tOk rfl rfl rfl trivial ?_)
    refine ar_nil ?_
    refine ag_true rfl (by rfl) ?_
    refine z2 ?_
    refine p1 ?_
    refine ar_obj [0] (w_ISpoil j.2) rfl rfl (handed_of rfl rfl (by decide) ⟨rfl, rfl, rfl, trivial⟩) rfl rfl rfl rfl ?_
    rintro _ _ ⟨rfl, rfl⟩
    refine ⟨_, _, rfl, ?_⟩
    refine z3 ?_
    refine ar_pure tOk rfl rfl rfl ?_ ?_
    · simp
    refine ar_store tOk rfl rfl rfl trivial ?_
    refine ar_nil ?_
    refine ag_retW (v := txA tx0) tOk Try.func48 rfl rfl (by first | trivial | exact ⟨trivial, trivial⟩ | simp) (ent_weak (g' := [(0, txA tx0)]) (h' := iH (spR j.2).1 (spR j.2).2) [0] rfl rfl rfl rfl ?_ ?_ rfl) ?_
    · exact ⟨⟨rfl, rfl⟩, trivial⟩
    · exact ⟨⟨rfl, rfl, rfl⟩, trivial⟩
    rw [show gTxsV (hdA a b c d e i.1 j.1) j.2 = (tx0, spR j.2) from by rw [gTxsV, if_pos (.inl hk0)]]
    exact ⟨rfl, rfl⟩
  · refine ar_ent (ent_reg 56 (.r (.bool false)) (by show AVal.r (.bool _) = _; exact eqB ht)) ?_
    have hk0 := of_decide_eq_false ht
    refine p2 ?_
    refine ar_pur (w_xCheck (hdA a b c d e i.1 j.1)) rfl rfl rfl rfl rfl rfl rfl ?_
    iterate 2 refine p1 ?_
    refine ar_nil ?_
    refine ag_if rfl ?_ ?_
    · intro h60
      refine z2 ?_
      refine p1 ?_
      refine ar_obj [0] (w_ISpoil j.2) rfl rfl (handed_of rfl rfl (by decide) ⟨rfl, rfl, rfl, trivial⟩) rfl rfl rfl rfl ?_
      rintro _ _ ⟨rfl, rfl⟩
      refine ⟨_, _, rfl, ?_⟩
      refine z3 ?_
      refine ar_pure tOk rfl rfl rfl ?_ ?_
      · simp
      refine ar_store tOk rfl rfl rfl trivial ?_
      refine ar_nil ?_
      refine ag_retW (v := txA tx0) tOk Try.func48 rfl rfl (by first | trivial | exact ⟨trivial, trivial⟩ | simp) (ent_weak (g' := [(0, txA tx0)]) (h' := iH (spR j.2).1 (spR j.2).2) [0] rfl rfl rfl rfl ?_ ?_ rfl) ?_
      · exact ⟨⟨rfl, rfl⟩, trivial⟩
      · exact ⟨⟨rfl, rfl, rfl⟩, trivial⟩
      rw [show gTxsV (hdA a b c d e i.1 j.1) j.2 = (tx0, spR j.2) from by rw [gTxsV, if_pos (.inr (by simpa using h60))]]
      exact ⟨rfl, rfl⟩
    · intro h60
      refine ag_ent (ent_weak (g' := [(0, .ptr 0 0), (2, .ptr 1 0), (3, .ptr 2 0)]) (h' := ⟨3, [(0, some (.mixed [.r (.bs j.2.1), .r (.int .i64 j.2.2), .r (.bool true)])), (1, some (.mixed ((txC tx0).map .r))), (2, some (.mixed ((txC (hdA a b c d e i.1 j.1)).map .r)))], false⟩) [0, 1, 2] rfl rfl rfl rfl ?_ ?_ rfl) ?_
      · exact ⟨⟨rfl, rfl⟩, ⟨rfl, rfl⟩, ⟨rfl, rfl⟩, trivial⟩
      · exact ⟨⟨rfl, rfl, rfl⟩, ⟨rfl, rfl, rfl⟩, ⟨rfl, rfl, rfl⟩, trivial⟩
      refine ag_skip ?_
      refine z2 ?_
      refine p2 ?_
      refine ar_store (h' := ⟨3, [(1, some (.mixed ((txC (hdA a b c d e i.1 j.1)).map .r))), (0, some (.mixed [.r (.bs j.2.1), .r (.int .i64 j.2.2), .r (.bool true)])), (1, some (.mixed ((txC tx0).map .r))), (2, some (.mixed ((txC (hdA a b c d e i.1 j.1)).map .r)))], false⟩) (c := True) tOk (by kernel_rfl) rfl rfl trivial ?_
      refine ar_nil ?_
      refine ag_retW (v := txA (hdA a b c d e i.1 j.1)) tOk Try.func48 rfl rfl (by first | trivial | exact ⟨trivial, trivial⟩ | simp) (ent_weak (g' := [(0, txA (hdA a b c d e i.1 j.1))]) (h' := iH j.2.1 j.2.2) [0] rfl rfl rfl rfl ?_ ?_ rfl) ?_
      · exact ⟨⟨rfl, rfl⟩, trivial⟩
      · exact ⟨⟨rfl, rfl, rfl⟩, trivial⟩
      rw [show gTxsV (hdA a b c d e i.1 j.1) j.2 = (hdA a b c d e i.1 j.1, j.2) from by rw [gTxsV, if_neg (by rintro (q | q); exact hk0 q; exact q (by simpa using h60))]]
      exact ⟨rfl, rfl⟩

theorem w_xGet5 (w : W) (hk : (gNu w M40).1 = 5) : Spec Try.prog 48 [.ptr 0 0] (iH w.1 w.2) (fun u h' => u = txA (gTxs w).1 ∧ h' = iH ((gTxs w).2).1 ((gTxs w).2).2) := by
  obtain ⟨a, ha⟩ : ∃ a, gNu w M40 = a := ⟨_, rfl⟩
  obtain ⟨b, hb⟩ : ∃ b, gNu a.2 M40 = b := ⟨_, rfl⟩
  obtain ⟨c, hc⟩ : ∃ c, gNu b.2 M40 = c := ⟨_, rfl⟩
  obtain ⟨d, hd⟩ : ∃ d, gNu c.2 M40 = d := ⟨_, rfl⟩
  obtain ⟨e, he⟩ : ∃ e, tkR d.2 32 = e := ⟨_, rfl⟩
  obtain ⟨i, hi⟩ : ∃ i, gInv e.2 = i := ⟨_, rfl⟩
  obtain ⟨j, hj⟩ : ∃ j, gVar i.2 = j := ⟨_, rfl⟩
  obtain ⟨g, hg⟩ : ∃ g, tkR j.2 32 = g := ⟨_, rfl⟩
  obtain ⟨s, hs⟩ : ∃ s, gTx g.2 1024 = s := ⟨_, rfl⟩
  rw [ha] at hk
  have hG : gTxs w = gTxsV (hdB a b c d e i.1 j.1 g.1 s.1) s.2 := by simp only [gTxs, ha, hb, hc, hd, he]; rw [if_neg (by omega), if_neg (by omega), if_neg (by omega), if_pos (by omega)]; simp only [hi, hj, hg, hs]
  rw [hG]
  have ca : Spec Try.prog 63 [.ptr 0 0, .r (.int .i64 1099511627776)] (iH w.1 w.2) (fun u h' => u = .r (.int .i64 a.1) ∧ h' = iH a.2.1 a.2.2) := by rw [← ha]; exact w_INum w 1099511627776
  have cb : Spec Try.prog 63 [.ptr 0 0, .r (.int .i64 1099511627776)] (iH a.2.1 a.2.2) (fun u h' => u = .r (.int .i64 b.1) ∧ h' = iH b.2.1 b.2.2) := by rw [← hb]; exact w_INum a.2 1099511627776
  have cc : Spec Try.prog 63 [.ptr 0 0, .r (.int .i64 1099511627776)] (iH b.2.1 b.2.2) (fun u h' => u = .r (.int .i64 c.1) ∧ h' = iH c.2.1 c.2.2) := by rw [← hc]; exact w_INum b.2 1099511627776
  have cd : Spec Try.prog 63 [.ptr 0 0, .r (.int .i64 1099511627776)] (iH c.2.1 c.2.2) (fun u h' => u = .r (.int .i64 d.1) ∧ h' = iH d.2.1 d.2.2) := by rw [← hd]; exact w_INum c.2 1099511627776
  have ce : Spec Try.prog 66 [.ptr 0 0] (iH d.2.1 d.2.2) (fun u h' => u = wd e.1 ∧ h' = iH e.2.1 e.2.2) := by rw [← he]; exact w_IWide d.2
  have ci : Spec Try.prog 26 [.ptr 0 0] (iH e.2.1 e.2.2) (fun u h' => u = invA i.1 ∧ h' = iH i.2.1 i.2.2) := by rw [← hi]; exact w_dGet e.2
  have cj : Spec Try.prog 30 [.ptr 0 0] (iH i.2.1 i.2.2) (fun u h' => u = varA j.1 ∧ h' = iH j.2.1 j.2.2) := by rw [← hj]; exact w_dGetVar i.2
  have cg : Spec Try.prog 66 [.ptr 0 0] (iH j.2.1 j.2.2) (fun u h' => u = wd g.1 ∧ h' = iH g.2.1 g.2.2) := by rw [← hg]; exact w_IWide j.2
  have cs : Spec Try.prog 62 [.ptr 0 0, .r (.int .i64 1024)] (iH g.2.1 g.2.2) (fun u h' => u = .r (.str s.1) ∧ h' = iH s.2.1 s.2.2) := by rw [← hs]; exact w_IText g.2 1024
  clear hG ha hb hc hd he hi hj hg hs
  refine spec_of_go (N := 65) Try.func48 rfl (by decide) rfl rfl ?_
  refine z2 ?_
  refine ar_new tOk rfl rfl rfl ?_ ?_
  · simp
  refine z3 ?_
  refine p1 ?_
  refine ar_obj [0] (ca) rfl rfl (handed_of rfl rfl (by decide) ⟨rfl, rfl, rfl, trivial⟩) rfl rfl rfl rfl ?_
  rintro _ _ ⟨rfl, rfl⟩
  refine ⟨_, _, rfl, ?_⟩
  refine ar_ent (ent_same (h' := ⟨2, [(0, some (.mixed [.r (.bs a.2.1), .r (.int .i64 a.2.2), .r (.bool true)])), (1, some (.mixed ((txC tx0).map .r)))], false⟩) rfl rfl ⟨rfl, rfl, trivial⟩) ?_
  refine p1 ?_
  refine ar_obj [0] (cb) rfl rfl (handed_of rfl rfl (by decide) ⟨rfl, rfl, rfl, trivial⟩) rfl rfl rfl rfl ?_
  rintro _ _ ⟨rfl, rfl⟩
  refine ⟨_, _, rfl, ?_⟩
  refine ar_ent (ent_same (h' := ⟨2, [(0, some (.mixed [.r (.bs b.2.1), .r (.int .i64 b.2.2), .r (.bool true)])), (1, some (.mixed ((txC tx0).map .r)))], false⟩) rfl rfl ⟨rfl, rfl, trivial⟩) ?_
  refine p1 ?_
  refine ar_obj [0] (cc) rfl rfl (handed_of rfl rfl (by decide) ⟨rfl, rfl, rfl, trivial⟩) rfl rfl rfl rfl ?_
  rintro _ _ ⟨rfl, rfl⟩
  refine ⟨_, _, rfl, ?_⟩
  refine ar_ent (ent_same (h' := ⟨2, [(0, some (.mixed [.r (.bs c.2.1), .r (.int .i64 c.2.2), .r (.bool true)])), (1, some (.mixed ((txC tx0).map .r)))], false⟩) rfl rfl ⟨rfl, rfl, trivial⟩) ?_
  refine p1 ?_
  refine ar_obj [0] (cd) rfl rfl (handed_of rfl rfl (by decide) ⟨rfl, rfl, rfl, trivial⟩) rfl rfl rfl rfl ?_
  rintro _ _ ⟨rfl, rfl⟩
  refine ⟨_, _, rfl, ?_⟩
  refine ar_ent (ent_same (h' := ⟨2, [(0, some (.mixed [.r (.bs d.2.1), .r (.int .i64 d.2.2), .r (.bool true)])), (1, some (.mixed ((txC tx0).map .r)))], false⟩) rfl rfl ⟨rfl, rfl, trivial⟩) ?_
  refine p1 ?_
  refine ar_obj [0] (ce) rfl rfl (handed_of rfl rfl (by decide) ⟨rfl, rfl, rfl, trivial⟩) rfl rfl rfl rfl ?_
  rintro _ _ ⟨rfl, rfl⟩
  refine ⟨_, _, rfl, ?_⟩
  refine ar_ent (ent_same (h' := ⟨2, [(0, some (.mixed [.r (.bs e.2.1), .r (.int .i64 e.2.2), .r (.bool true)])), (1, some (.mixed ((txC tx0).map .r)))], false⟩) rfl rfl ⟨rfl, rfl, trivial⟩) ?_
  refine ar_pure tOk rfl rfl rfl ?_ ?_
  · simp
  refine ar_ent (ent_reg 14 (txA (hdA a b c d e inv0 var0)) (by kernel_rfl)) ?_
  refine ar_new tOk rfl rfl rfl ?_ ?_
  · simp
  refine ar_store (h' := ⟨3, [(2, some (.mixed ((txC (hdA a b c d e inv0 var0)).map .r))), (2, some (.mixed ((txC (tx0)).map .r))), (0, some (.mixed [.r (.bs e.2.1), .r (.int .i64 e.2.2), .r (.bool true)])), (1, some (.mixed ((txC (tx0)).map .r)))], false⟩) (c := True) tOk (by kernel_rfl) rfl rfl trivial ?_
  refine ar_nil ?_
  refine ag_ent (ent_weak (g' := [(0, .ptr 0 0), (2, .ptr 1 0), (3, .ptr 2 0)]) (h' := ⟨3, [(0, some (.mixed [.r (.bs e.2.1), .r (.int .i64 e.2.2), .r (.bool true)])), (1, some (.mixed ((txC tx0).map .r))), (2, some (.mixed ((txC (hdA a b c d e inv0 var0)).map .r)))], false⟩) [0, 1, 2] rfl rfl rfl rfl ?_ ?_ rfl) ?_
  · exact ⟨⟨rfl, rfl⟩, ⟨rfl, rfl⟩, ⟨rfl, rfl⟩, trivial⟩
  · exact ⟨⟨rfl, rfl, rfl⟩, ⟨rfl, rfl, rfl⟩, ⟨rfl, rfl, rfl⟩, trivial⟩
  refine ag_seq ?_
  refine z2 ?_
  refine p1 ?_
  refine p2 ?_
  refine ar_nil ?_
  refine ag_block ?_
  refine z2 ?_
  iterate 2 refine p1 ?_
  refine ar_nil ?_
  refine ag_false rfl (decide_eq_false (show ¬ a.1 = 1 by omega)) ?_
  refine z2 ?_
  iterate 2 refine p1 ?_
  refine ar_nil ?_
  refine ag_false rfl (decide_eq_false (show ¬ a.1 = 2 by omega)) ?_
  refine ag_seq ?_
  refine z2 ?_
  iterate 2 refine p1 ?_
  refine ar_nil ?_
  refine ag_false rfl (decide_eq_false (show ¬ a.1 = 4 by omega)) ?_
  refine z2 ?_
  iterate 2 refine p1 ?_
  refine ar_nil ?_
  refine ag_true rfl (decide_eq_true (show a.1 = 5 by omega)) ?_
  refine ag_skip ?_
  refine ag_true rfl (decide_eq_true (show a.1 = 5 by omega)) ?_
  refine ag_reg ?_
  refine p1 ?_
  refine ar_obj [0] (ci) rfl rfl (handed_of rfl rfl (by decide) ⟨rfl, rfl, rfl, trivial⟩) rfl rfl rfl rfl ?_
  rintro _ _ ⟨rfl, rfl⟩
  refine ⟨_, _, rfl, ?_⟩
  refine ar_ent (ent_same (h' := ⟨3, [(0, some (.mixed [.r (.bs i.2.1), .r (.int .i64 i.2.2), .r (.bool true)])), (1, some (.mixed ((txC tx0).map .r))), (2, some (.mixed ((txC (hdA a b c d e inv0 var0)).map .r)))], false⟩) rfl rfl ⟨rfl, rfl, rfl, trivial⟩) ?_
  refine p1 ?_
  refine ar_obj [0] (cj) rfl rfl (handed_of rfl rfl (by decide) ⟨rfl, rfl, rfl, trivial⟩) rfl rfl rfl rfl ?_
  rintro _ _ ⟨rfl, rfl⟩
  refine ⟨_, _, rfl, ?_⟩
  refine ar_ent (ent_same (h' := ⟨3, [(0, some (.mixed [.r (.bs j.2.1), .r (.int .i64 j.2.2), .r (.bool true)])), (1, some (.mixed ((txC tx0).map .r))), (2, some (.mixed ((txC (hdA a b c d e inv0 var0)).map .r)))], false⟩) rfl rfl ⟨rfl, rfl, rfl, trivial⟩) ?_
  refine p1 ?_
  refine ar_store tOk rfl rfl rfl trivial ?_
  refine p1 ?_
  refine ar_store tOk rfl rfl rfl trivial ?_
  refine ar_nil ?_
  refine ag_ent (ent_weak (g' := [(0, .ptr 0 0), (2, .ptr 1 0), (3, .ptr 2 0)]) (h' := ⟨3, [(0, some (.mixed [.r (.bs j.2.1), .r (.int .i64 j.2.2), .r (.bool true)])), (1, some (.mixed ((txC tx0).map .r))), (2, some (.mixed ((txC (hdA a b c d e i.1 j.1)).map .r)))], false⟩) [0, 1, 2] rfl rfl rfl rfl ?_ ?_ rfl) ?_
  · exact ⟨⟨rfl, rfl⟩, ⟨rfl, rfl⟩, ⟨rfl, rfl⟩, trivial⟩
  · exact ⟨⟨rfl, rfl, rfl⟩, ⟨rfl, rfl, rfl⟩, ⟨rfl, rfl, rfl⟩, trivial⟩
  refine ag_inBlock ?_
  refine ag_seq ?_
  refine z2 ?_
  refine p1 ?_
  refine p2 ?_
  iterate 2 refine p1 ?_
  refine ar_ent (ent_reg 42 (.r (.bool true)) (by show AVal.r (.bool _) = _; exact eqB (decide_eq_true (show a.1 = 5 by omega)))) ?_
  iterate 3 refine ar_skip rfl rfl rfl ?_
  refine p1 ?_
  refine ar_nil ?_
  refine ag_true rfl (by rfl) ?_
  refine ag_reg ?_
  refine p1 ?_
  refine ar_obj [0] (cg) rfl rfl (handed_of rfl rfl (by decide) ⟨rfl, rfl, rfl, trivial⟩) rfl rfl rfl rfl ?_
  rintro _ _ ⟨rfl, rfl⟩
  refine ⟨_, _, rfl, ?_⟩
  refine ar_ent (ent_same (h' := ⟨3, [(0, some (.mixed [.r (.bs g.2.1), .r (.int .i64 g.2.2), .r (.bool true)])), (1, some (.mixed ((txC tx0).map .r))), (2, some (.mixed ((txC (hdA a b c d e i.1 j.1)).map .r)))], false⟩) rfl rfl ⟨rfl, rfl, rfl, trivial⟩) ?_
  refine p1 ?_
  refine ar_obj [0] (cs) rfl rfl (handed_of rfl rfl (by decide) ⟨rfl, rfl, rfl, trivial⟩) rfl rfl rfl rfl ?_
  rintro _ _ ⟨rfl, rfl⟩
  refine ⟨_, _, rfl, ?_⟩
  refine ar_ent (ent_same (h' := ⟨3, [(0, some (.mixed [.r (.bs s.2.1), .r (.int .i64 s.2.2), .r (.bool true)])), (1, some (.mixed ((txC tx0).map .r))), (2, some (.mixed ((txC (hdA a b c d e i.1 j.1)).map .r)))], false⟩) rfl rfl ⟨rfl, rfl, rfl, trivial⟩) ?_
  refine p1 ?_
  refine ar_store tOk rfl rfl rfl trivial ?_
  refine p1 ?_
  refine ar_store tOk rfl rfl rfl trivial ?_
  refine ar_nil ?_
  refine ag_ent (ent_weak (g' := [(0, .ptr 0 0), (2, .ptr 1 0), (3, .ptr 2 0)]) (h' := ⟨3, [(0, some (.mixed [.r (.bs s.2.1), .r (.int .i64 s.2.2), .r (.bool true)])), (1, some (.mixed ((txC tx0).map .r))), (2, some (.mixed ((txC (hdB a b c d e i.1 j.1 g.1 s.1)).map .r)))], false⟩) [0, 1, 2] rfl rfl rfl rfl ?_ ?_ rfl) ?_
  · exact ⟨⟨rfl, rfl⟩, ⟨rfl, rfl⟩, ⟨rfl, rfl⟩, trivial⟩
  · exact ⟨⟨rfl, rfl, rfl⟩, ⟨rfl, rfl, rfl⟩, ⟨rfl, rfl, rfl⟩, trivial⟩
  refine ag_seq ?_
  refine z2 ?_
  refine p1 ?_
  refine ar_qd rfl (qop_objR [0] (w_Err s.2.1 s.2.2) (by rintro _ _ ⟨rfl, rfl⟩; exact ⟨rfl, rfl⟩) rfl rfl (handed_of rfl rfl (by decide) ⟨rfl, rfl, rfl, trivial⟩) rfl rfl) rfl rfl rfl rfl ?_
  iterate 2 refine p1 ?_
  refine ar_guard (t := decide (s.2.2 ≠ 0)) (fun ht => ?_) (fun ht => ?_)
  · refine ar_ent (ent_reg 56 (.r (.bool true)) (by show AVal.r (.bool _) = _; exact eqB ht)) ?_
    have hk0 := of_decide_eq_true ht
    repeat (first | refine ar_skip rfl rfl rfl ?_ | refine ar_pure tOk rfl rfl rfl trivial ?_)
    refine ar_nil ?_
    refine ag_true rfl (by rfl) ?_
    refine z2 ?_
    refine p1 ?_
    refine ar_obj [0] (w_ISpoil s.2) rfl rfl (handed_of rfl rfl (by decide) ⟨rfl, rfl, rfl, trivial⟩) rfl rfl rfl rfl ?_
    rintro _ _ ⟨rfl, rfl⟩
    refine ⟨_, _, rfl, ?_⟩
    refine z3 ?_
    refine ar_pure tOk rfl rfl rfl ?_ ?_
    · simp
    refine ar_store tOk rfl rfl rfl trivial ?_
    refine ar_nil ?_
    refine ag_retW (v := txA tx0) tOk Try.func48 rfl rfl (by first | trivial | exact ⟨trivial, trivial⟩ | simp) (ent_weak (g' := [(0, txA tx0)]) (h' := iH (spR s.2).1 (spR s.2).2) [0] rfl rfl rfl rfl ?_ ?_ rfl) ?_
    · exact ⟨⟨rfl, rfl⟩, trivial⟩
    · exact ⟨⟨rfl, rfl, rfl⟩, trivial⟩
    rw [show gTxsV (hdB a b c d e i.1 j.1 g.1 s.1) s.2 = (tx0, spR s.2) from by rw [gTxsV, if_pos (.inl hk0)]]
    exact ⟨rfl, rfl⟩
  · refine ar_ent (ent_reg 56 (.r (.bool false)) (by show AVal.r (.bool _) = _; exact eqB ht)) ?_
    have hk0 := of_decide_eq_false ht
    refine p2 ?_
    refine ar_pur (w_xCheck (hdB a b c d e i.1 j.1 g.1 s.1)) rfl rfl rfl rfl rfl rfl rfl ?_
    iterate 2 refine p1 ?_
    refine ar_nil ?_
    refine ag_if rfl ?_ ?_
    · intro h60
      refine z2 ?_
      refine p1 ?_
      refine ar_obj [0] (w_ISpoil s.2) rfl rfl (handed_of rfl rfl (by decide) ⟨rfl, rfl, rfl, trivial⟩) rfl rfl rfl rfl ?_
      rintro _ _ ⟨rfl, rfl⟩
      refine ⟨_, _, rfl, ?_⟩
      refine z3 ?_
      refine ar_pure tOk rfl rfl rfl ?_ ?_
      · simp
      refine ar_store tOk rfl rfl rfl trivial ?_
      refine ar_nil ?_
      refine ag_retW (v := txA tx0) tOk Try.func48 rfl rfl (by first | trivial | exact ⟨trivial, trivial⟩ | simp) (ent_weak (g' := [(0, txA tx0)]) (h' := iH (spR s.2).1 (spR s.2).2) [0] rfl rfl rfl rfl ?_ ?_ rfl) ?_
      · exact ⟨⟨rfl, rfl⟩, trivial⟩
      · exact ⟨⟨rfl, rfl, rfl⟩, trivial⟩
      rw [show gTxsV (hdB a b c d e i.1 j.1 g.1 s.1) s.2 = (tx0, spR s.2) from by rw [gTxsV, if_pos (.inr (by simpa using h60))]]
      exact ⟨rfl, rfl⟩
    · intro h60
      refine ag_ent (ent_weak (g' := [(0, .ptr 0 0), (2, .ptr 1 0), (3, .ptr 2 0)]) (h' := ⟨3, [(0, some (.mixed [.r (.bs s.2.1), .r (.int .i64 s.2.2), .r (.bool true)])), (1, some (.mixed ((txC tx0).map .r))), (2, some (.mixed ((txC (hdB a b c d e i.1 j.1 g.1 s.1)).map .r)))], false⟩) [0, 1, 2] rfl rfl rfl rfl ?_ ?_ rfl) ?_
      · exact ⟨⟨rfl, rfl⟩, ⟨rfl, rfl⟩, ⟨rfl, rfl⟩, trivial⟩
      · exact ⟨⟨rfl, rfl, rfl⟩, ⟨rfl, rfl, rfl⟩, ⟨rfl, rfl, rfl⟩, trivial⟩
      refine ag_skip ?_
      refine z2 ?_
      refine p2 ?_
      refine ar_store (h' := ⟨3, [(1, some (.mixed ((txC (hdB a b c d e i.1 j.1 g.1 s.1)).map .r))), (0, some (.mixed [.r (.bs s.2.1), .r (.int .i64 s.2.2), .r (.bool true)])), (1, some (.mixed ((txC tx0).map .r))), (2, some (.mixed ((txC (hdB a b c d e i.1 j.1 g.1 s.1)).map .r)))], false⟩) (c := True) tOk (by kernel_rfl) rfl rfl trivial ?_
      refine ar_nil ?_
      refine ag_retW (v := txA (hdB a b c d e i.1 j.1 g.1 s.1)) tOk Try.func48 rfl rfl (by first | trivial | exact ⟨trivial, trivial⟩ | simp) (ent_weak (g' := [(0, txA (hdB a b c d e i.1 j.1 g.1 s.1))]) (h' := iH s.2.1 s.2.2) [0] rfl rfl rfl rfl ?_ ?_ rfl) ?_
      · exact ⟨⟨rfl, rfl⟩, trivial⟩
      · exact ⟨⟨rfl, rfl, rfl⟩, trivial⟩
      rw [show gTxsV (hdB a b c d e i.1 j.1 g.1 s.1) s.2 = (hdB a b c d e i.1 j.1 g.1 s.1, s.2) from by rw [gTxsV, if_neg (by rintro (q | q); exact hk0 q; exact q (by simpa using h60))]]
      exact ⟨rfl, rfl⟩

theorem w_xGet6 (w : W) (hk : (gNu w M40).1 = 6) : Spec Try.prog 48 [.ptr 0 0] (iH w.1 w.2) (fun u h' => u = txA (gTxs w).1 ∧ h' = iH ((gTxs w).2).1 ((gTxs w).2).2) := by
  obtain ⟨a, ha⟩ : ∃ a, gNu w M40 = a := ⟨_, rfl⟩
  obtain ⟨b, hb⟩ : ∃ b, gNu a.2 M40 = b := ⟨_, rfl⟩
  obtain ⟨c, hc⟩ : ∃ c, gNu b.2 M40 = c := ⟨_, rfl⟩
  obtain ⟨d, hd⟩ : ∃ d, gNu c.2 M40 = d := ⟨_, rfl⟩
  obtain ⟨e, he⟩ : ∃ e, tkR d.2 32 = e := ⟨_, rfl⟩
  obtain ⟨i, hi⟩ : ∃ i, gInv e.2 = i := ⟨_, rfl⟩
  obtain ⟨j, hj⟩ : ∃ j, gVar i.2 = j := ⟨_, rfl⟩
  obtain ⟨g, hg⟩ : ∃ g, tkR j.2 32 = g := ⟨_, rfl⟩
  obtain ⟨s, hs⟩ : ∃ s, gTx g.2 1024 = s := ⟨_, rfl⟩
  rw [ha] at hk
  have hG : gTxs w = gTxsV (hdB a b c d e i.1 j.1 g.1 s.1) s.2 := by simp only [gTxs, ha, hb, hc, hd, he]; rw [if_neg (by omega), if_neg (by omega), if_neg (by omega), if_pos (by omega)]; simp only [hi, hj, hg, hs]
  rw [hG]
  have ca : Spec Try.prog 63 [.ptr 0 0, .r (.int .i64 1099511627776)] (iH w.1 w.2) (fun u h' => u = .r (.int .i64 a.1) ∧ h' = iH a.2.1 a.2.2) := by rw [← ha]; exact w_INum w 1099511627776
  have cb : Spec Try.prog 63 [.ptr 0 0, .r (.int .i64 1099511627776)] (iH a.2.1 a.2.2) (fun u h' => u = .r (.int .i64 b.1) ∧ h' = iH b.2.1 b.2.2) := by rw [← hb]; exact w_INum a.2 1099511627776
  have cc : Spec Try.prog 63 [.ptr 0 0, .r (.int .i64 1099511627776)] (iH b.2.1 b.2.2) (fun u h' => u = .r (.int .i64 c.1) ∧ h' = iH c.2.1 c.2.2) := by rw [← hc]; exact w_INum b.2 1099511627776
  have cd : Spec Try.prog 63 [.ptr 0 0, .r (.int .i64 1099511627776)] (iH c.2.1 c.2.2) (fun u h' => u = .r (.int .i64 d.1) ∧ h' = iH d.2.1 d.2.2) := by rw [← hd]; exact w_INum c.2 1099511627776
  have ce : Spec Try.prog 66 [.ptr 0 0] (iH d.2.1 d.2.2) (fun u h' => u = wd e.1 ∧ h' = iH e.2.1 e.2.2) := by rw [← he]; exact w_IWide d.2
  have ci : Spec Try.prog 26 [.ptr 0 0] (iH e.2.1 e.2.2) (fun u h' => u = invA i.1 ∧ h' = iH i.2.1 i.2.2) := by rw [← hi]; exact w_dGet e.2
  have cj : Spec Try.prog 30 [.ptr 0 0] (iH i.2.1 i.2.2) (fun u h' => u = varA j.1 ∧ h' = iH j.2.1 j.2.2) := by rw [← hj]; exact w_dGetVar i.2
  have cg : Spec Try.prog 66 [.ptr 0 0] (iH j.2.1 j.2.2) (fun u h' => u = wd g.1 ∧ h' = iH g.2.1 g.2.2) := by rw [← hg]; exact w_IWide j.2
  have cs : Spec Try.prog 62 [.ptr 0 0, .r (.int .i64 1024)] (iH g.2.1 g.2.2) (fun u h' => u = .r (.str s.1) ∧ h' = iH s.2.1 s.2.2) := by rw [← hs]; exact w_IText g.2 1024
  clear hG ha hb hc hd he hi hj hg hs
  refine spec_of_go (N := 65) Try.func48 rfl (by decide) rfl rfl ?_
  refine z2 ?_
  refine ar_new tOk rfl rfl rfl ?_ ?_
  · simp
  refine z3 ?_
  refine p1 ?_
  refine ar_obj [0] (ca) rfl rfl (handed_of rfl rfl (by decide) ⟨rfl, rfl, rfl, trivial⟩) rfl rfl rfl rfl ?_
  rintro _ _ ⟨rfl, rfl⟩
  refine ⟨_, _, rfl, ?_⟩
  refine ar_ent (ent_same (h' := ⟨2, [(0, some (.mixed [.r (.bs a.2.1), .r (.int .i64 a.2.2), .r (.bool true)])), (1, some (.mixed ((txC tx0).map .r)))], false⟩) rfl rfl ⟨rfl, rfl, trivial⟩) ?_
  refine p1 ?_
  refine ar_obj [0] (cb) rfl rfl (handed_of rfl rfl (by decide) ⟨rfl, rfl, rfl, trivial⟩) rfl rfl rfl rfl ?_
  rintro _ _ ⟨rfl, rfl⟩
  refine ⟨_, _, rfl, ?_⟩
  refine ar_ent (ent_same (h' := ⟨2, [(0, some (.mixed [.r (.bs b.2.1), .r (.int .i64 b.2.2), .r (.bool true)])), (1, some (.mixed ((txC tx0).map .r)))], false⟩) rfl rfl ⟨rfl, rfl, trivial⟩) ?_
  refine p1 ?_
  refine ar_obj [0] (cc) rfl rfl (handed_of rfl rfl (by decide) ⟨rfl, rfl, rfl, trivial⟩) rfl rfl rfl rfl ?_
  rintro _ _ ⟨rfl, rfl⟩
  refine ⟨_, _, rfl, ?_⟩
  refine ar_ent (ent_same (h' := ⟨2, [(0, some (.mixed [.r (.bs c.2.1), .r (.int .i64 c.2.2), .r (.bool true)])), (1, some (.mixed ((txC tx0).map .r)))], false⟩) rfl rfl ⟨rfl, rfl, trivial⟩) ?_
  refine p1 ?_
  refine ar_obj [0] (cd) rfl rfl (handed_of rfl rfl (by decide) ⟨rfl, rfl, rfl, trivial⟩) rfl rfl rfl rfl ?_
  rintro _ _ ⟨rfl, rfl⟩
  refine ⟨_, _, rfl, ?_⟩
  refine ar_ent (ent_same (h' := ⟨2, [(0, some (.mixed [.r (.bs d.2.1), .r (.int .i64 d.2.2), .r (.bool true)])), (1, some (.mixed ((txC tx0).map .r)))], false⟩) rfl rfl ⟨rfl, rfl, trivial⟩) ?_
  refine p1 ?_
  refine ar_obj [0] (ce) rfl rfl (handed_of rfl rfl (by decide) ⟨rfl, rfl, rfl, trivial⟩) rfl rfl rfl rfl ?_
  rintro _ _ ⟨rfl, rfl⟩
  refine ⟨_, _, rfl, ?_⟩
  refine ar_ent (ent_same (h' := ⟨2, [(0, some (.mixed [.r (.bs e.2.1), .r (.int .i64 e.2.2), .r (.bool true)])), (1, some (.mixed ((txC tx0).map .r)))], false⟩) rfl rfl ⟨rfl, rfl, trivial⟩) ?_
  refine ar_pure tOk rfl rfl rfl ?_ ?_
  · simp
  refine ar_ent (ent_reg 14 (txA (hdA a b c d e inv0 var0)) (by kernel_rfl)) ?_
  refine ar_new tOk rfl rfl rfl ?_ ?_
  · simp
  refine ar_store (h' := ⟨3, [(2, some (.mixed ((txC (hdA a b c d e inv0 var0)).map .r))), (2, some (.mixed ((txC (tx0)).map .r))), (0, some (.mixed [.r (.bs e.2.1), .r (.int .i64 e.2.2), .r (.bool true)])), (1, some (.mixed ((txC (tx0)).map .r)))], false⟩) (c := True) tOk (by kernel_rfl) rfl rfl trivial ?_
  refine ar_nil ?_
  refine ag_ent (ent_weak (g' := [(0, .ptr 0 0), (2, .ptr 1 0), (3, .ptr 2 0)]) (h' := ⟨3, [(0, some (.mixed [.r (.bs e.2.1), .r (.int .i64 e.2.2), .r (.bool true)])), (1, some (.mixed ((txC tx0).map .r))), (2, some (.mixed ((txC (hdA a b c d e inv0 var0)).map .r)))], false⟩) [0, 1, 2] rfl rfl rfl rfl ?_ ?_ rfl) ?_
  · exact ⟨⟨rfl, rfl⟩, ⟨rfl, rfl⟩, ⟨rfl, rfl⟩, trivial⟩
  · exact ⟨⟨rfl, rfl, rfl⟩, ⟨rfl, rfl, rfl⟩, ⟨rfl, rfl, rfl⟩, trivial⟩
  refine ag_seq ?_
  refine z2 ?_
  refine p1 ?_
  refine p2 ?_
  refine ar_nil ?_
  refine ag_block ?_
  refine z2 ?_
  iterate 2 refine p1 ?_
  refine ar_nil ?_
  refine ag_false rfl (decide_eq_false (show ¬ a.1 = 1 by omega)) ?_
  refine z2 ?_
  iterate 2 refine p1 ?_
  refine ar_nil ?_
  refine ag_false rfl (decide_eq_false (show ¬ a.1 = 2 by omega)) ?_
  refine ag_seq ?_
  refine z2 ?_
  iterate 2 refine p1 ?_
  refine ar_nil ?_
  refine ag_false rfl (decide_eq_false (show ¬ a.1 = 4 by omega)) ?_
  refine z2 ?_
  iterate 2 refine p1 ?_
  refine ar_nil ?_
  refine ag_false rfl (decide_eq_false (show ¬ a.1 = 5 by omega)) ?_
  refine ag_reg ?_
  iterate 2 refine p1 ?_
  refine ar_nil ?_
  refine ag_true rfl (decide_eq_true (show a.1 = 6 by omega)) ?_
  refine ag_reg ?_
  refine p1 ?_
  refine ar_obj [0] (ci) rfl rfl (handed_of rfl rfl (by decide) ⟨rfl, rfl, rfl, trivial⟩) rfl rfl rfl rfl ?_
  rintro _ _ ⟨rfl, rfl⟩
  refine ⟨_, _, rfl, ?_⟩
  refine ar_ent (ent_same (h' := ⟨3, [(0, some (.mixed [.r (.bs i.2.1), .r (.int .i64 i.2.2), .r (.bool true)])), (1, some (.mixed ((txC tx0).map .r))), (2, some (.mixed ((txC (hdA a b c d e inv0 var0)).map .r)))], false⟩) rfl rfl ⟨rfl, rfl, rfl, trivial⟩) ?_
  refine p1 ?_
  refine ar_obj [0] (cj) rfl rfl (handed_of rfl rfl (by decide) ⟨rfl, rfl, rfl, trivial⟩) rfl rfl rfl rfl ?_
  rintro _ _ ⟨rfl, rfl⟩
  refine ⟨_, _, rfl, ?_⟩
  refine ar_ent (ent_same (h' := ⟨3, [(0, some (.mixed [.r (.bs j.2.1), .r (.int .i64 j.2.2), .r (.bool true)])), (1, some (.mixed ((txC tx0).map .r))), (2, some (.mixed ((txC (hdA a b c d e inv0 var0)).map .r)))], false⟩) rfl rfl ⟨rfl, rfl, rfl, trivial⟩) ?_
  refine p1 ?_
  refine ar_store tOk rfl rfl rfl trivial ?_
  refine p1 ?_
  refine ar_store tOk rfl rfl rfl trivial ?_
  refine ar_nil ?_
  refine ag_ent (ent_weak (g' := [(0, .ptr 0 0), (2, .ptr 1 0), (3, .ptr 2 0)]) (h' := ⟨3, [(0, some (.mixed [.r (.bs j.2.1), .r (.int .i64 j.2.2), .r (.bool true)])), (1, some (.mixed ((txC tx0).map .r))), (2, some (.mixed ((txC (hdA a b c d e i.1 j.1)).map .r)))], false⟩) [0, 1, 2] rfl rfl rfl rfl ?_ ?_ rfl) ?_
  · exact ⟨⟨rfl, rfl⟩, ⟨rfl, rfl⟩, ⟨rfl, rfl⟩, trivial⟩
  · exact ⟨⟨rfl, rfl, rfl⟩, ⟨rfl, rfl, rfl⟩, ⟨rfl, rfl, rfl⟩, trivial⟩
  refine ag_inBlock ?_
  refine ag_seq ?_
  refine z2 ?_
  refine p1 ?_
  refine p2 ?_
  iterate 2 refine p1 ?_
  refine ar_ent (ent_reg 42 (.r (.bool false)) (by show AVal.r (.bool _) = _; exact eqB (decide_eq_false (show ¬ a.1 = 5 by omega)))) ?_
  refine p1 ?_
  refine p2 ?_
  iterate 2 refine p1 ?_
  refine ar_nil ?_
  refine ag_true rfl (decide_eq_true (show a.1 = 6 by omega)) ?_
  refine ag_reg ?_
  refine p1 ?_
  refine ar_obj [0] (cg) rfl rfl (handed_of rfl rfl (by decide) ⟨rfl, rfl, rfl, trivial⟩) rfl rfl rfl rfl ?_
  rintro _ _ ⟨rfl, rfl⟩
  refine ⟨_, _, rfl, ?_⟩
  refine ar_ent (ent_same (h' := ⟨3, [(0, some (.mixed [.r (.bs g.2.1), .r (.int .i64 g.2.2), .r (.bool true)])), (1, some (.mixed ((txC tx0).map .r))), (2, some (.mixed ((txC (hdA a b c d e i.1 j.1)).map .r)))], false⟩) rfl rfl ⟨rfl, rfl, rfl, trivial⟩) ?_
  refine p1 ?_
  refine ar_obj [0] (cs) rfl rfl (handed_of rfl rfl (by decide) ⟨rfl, rfl, rfl, trivial⟩) rfl rfl rfl rfl ?_
  rintro _ _ ⟨rfl, rfl⟩
  refine ⟨_, _, rfl, ?_⟩
  refine ar_ent (ent_same (h' := ⟨3, [(0, some (.mixed [.r (.bs s.2.1), .r (.int .i64 s.2.2), .r (.bool true)])), (1, some (.mixed ((txC tx0).map .r))), (2, some (.mixed ((txC (hdA a b c d e i.1 j.1)).map .r)))], false⟩) rfl rfl ⟨rfl, rfl, rfl, trivial⟩) ?_
  refine p1 ?_
  refine ar_store tOk rfl rfl rfl trivial ?_
  refine p1 ?_
  refine ar_store tOk rfl rfl rfl trivial ?_
  refine ar_nil ?_
  refine ag_ent (ent_weak (g' := [(0, .ptr 0 0), (2, .ptr 1 0), (3, .ptr 2 0)]) (h' := ⟨3, [(0, some (.mixed [.r (.bs s.2.1), .r (.int .i64 s.2.2), .r (.bool true)])), (1, some (.mixed ((txC tx0).map .r))), (2, some (.mixed ((txC (hdB a b c d e i.1 j.1 g.1 s.1)).map .r)))], false⟩) [0, 1, 2] rfl rfl rfl rfl ?_ ?_ rfl) ?_
  · exact ⟨⟨rfl, rfl⟩, ⟨rfl, rfl⟩, ⟨rfl, rfl⟩, trivial⟩
  · exact ⟨⟨rfl, rfl, rfl⟩, ⟨rfl, rfl, rfl⟩, ⟨rfl, rfl, rfl⟩, trivial⟩
  refine ag_seq ?_
  refine z2 ?_
  refine p1 ?_
  refine ar_qd rfl (qop_objR [0] (w_Err s.2.1 s.2.2) (by rintro _ _ ⟨rfl, rfl⟩; exact ⟨rfl, rfl⟩) rfl rfl (handed_of rfl rfl (by decide) ⟨rfl, rfl, rfl, trivial⟩) rfl rfl) rfl rfl rfl rfl ?_
  iterate 2 refine p1 ?_
  refine ar_guard (t := decide (s.2.2 ≠ 0)) (fun ht => ?_) (fun ht => ?_)
  · refine ar_ent (ent_reg 56 (.r (.bool true)) (by show AVal.r (.bool _) = _; exact eqB ht)) ?_
    have hk0 := of_decide_eq_true ht
    repeat (first | refine ar_skip rfl rfl rfl ?_ | refine ar_pure tOk rfl rfl rfl trivial ?_)
    refine ar_nil ?_
    refine ag_true rfl (by rfl) ?_
    refine z2 ?_
    refine p1 ?_
    refine ar_obj [0] (w_ISpoil s.2) rfl rfl (handed_of rfl rfl (by decide) ⟨rfl, rfl, rfl, trivial⟩) rfl rfl rfl rfl ?_
    rintro _ _ ⟨rfl, rfl⟩
    refine ⟨_, _, rfl, ?_⟩
    refine z3 ?_
    refine ar_pure tOk rfl rfl rfl ?_ ?_
    · simp
    refine ar_store tOk rfl rfl rfl trivial ?_
    refine ar_nil ?_
    refine ag_retW (v := txA tx0) tOk Try.func48 rfl rfl (by first | trivial | exact ⟨trivial, trivial⟩ | simp) (ent_weak (g' := [(0, txA tx0)]) (h' := iH (spR s.2).1 (spR s.2).2) [0] rfl rfl rfl rfl ?_ ?_ rfl) ?_
    · exact ⟨⟨rfl, rfl⟩, trivial⟩
    · exact ⟨⟨rfl, rfl, rfl⟩, trivial⟩
    rw [show gTxsV (hdB a b c d e i.1 j.1 g.1 s.1) s.2 = (tx0, spR s.2) from by rw [gTxsV, if_pos (.inl hk0)]]
    exact ⟨rfl, rfl⟩
  · refine ar_ent (ent_reg 56 (.r (.bool false)) (by show AVal.r (.bool _) = _; exact eqB ht)) ?_
    have hk0 := of_decide_eq_false ht
    refine p2 ?_
    refine ar_pur (w_xCheck (hdB a b c d e i.1 j.1 g.1 s.1)) rfl rfl rfl rfl rfl rfl rfl ?_
    iterate 2 refine p1 ?_
    refine ar_nil ?_
    refine ag_if rfl ?_ ?_
    · intro h60
      refine z2 ?_
      refine p1 ?_
      refine ar_obj [0] (w_ISpoil s.2) rfl rfl (handed_of rfl rfl (by decide) ⟨rfl, rfl, rfl, trivial⟩) rfl rfl rfl rfl ?_
      rintro _ _ ⟨rfl, rfl⟩
      refine ⟨_, _, rfl, ?_⟩
      refine z3 ?_
      refine ar_pure tOk rfl rfl rfl ?_ ?_
      · simp
      refine ar_store tOk rfl rfl rfl trivial ?_
      refine ar_nil ?_
      refine ag_retW (v := txA tx0) tOk Try.func48 rfl rfl (by first | trivial | exact ⟨trivial, trivial⟩ | simp) (ent_weak (g' := [(0, txA tx0)]) (h' := iH (spR s.2).1 (spR s.2).2) [0] rfl rfl rfl rfl ?_ ?_ rfl) ?_
      · exact ⟨⟨rfl, rfl⟩, trivial⟩
      · exact ⟨⟨rfl, rfl, rfl⟩, trivial⟩
      rw [show gTxsV (hdB a b c d e i.1 j.1 g.1 s.1) s.2 = (tx0, spR s.2) from by rw [gTxsV, if_pos (.inr (by simpa using h60))]]
      exact ⟨rfl, rfl⟩
    · intro h60
      refine ag_ent (ent_weak (g' := [(0, .ptr 0 0), (2, .ptr 1 0), (3, .ptr 2 0)]) (h' := ⟨3, [(0, some (.mixed [.r (.bs s.2.1), .r (.int .i64 s.2.2), .r (.bool true)])), (1, some (.mixed ((txC tx0).map .r))), (2, some (.mixed ((txC (hdB a b c d e i.1 j.1 g.1 s.1)).map .r)))], false⟩) [0, 1, 2] rfl rfl rfl rfl ?_ ?_ rfl) ?_
      · exact ⟨⟨rfl, rfl⟩, ⟨rfl, rfl⟩, ⟨rfl, rfl⟩, trivial⟩
      · exact ⟨⟨rfl, rfl, rfl⟩, ⟨rfl, rfl, rfl⟩, ⟨rfl, rfl, rfl⟩, trivial⟩
      refine ag_skip ?_
      refine z2 ?_
      refine p2 ?_
      refine ar_store (h' := ⟨3, [(1, some (.mixed ((txC (hdB a b c d e i.1 j.1 g.1 s.1)).map .r))), (0, some (.mixed [.r (.bs s.2.1), .r (.int .i64 s.2.2), .r (.bool true)])), (1, some (.mixed ((txC tx0).map .r))), (2, some (.mixed ((txC (hdB a b c d e i.1 j.1 g.1 s.1)).map .r)))], false⟩) (c := True) tOk (by kernel_rfl) rfl rfl trivial ?_
      refine ar_nil ?_
      refine ag_retW (v := txA (hdB a b c d e i.1 j.1 g.1 s.1)) tOk Try.func48 rfl rfl (by first | trivial | exact ⟨trivial, trivial⟩ | simp) (ent_weak (g' := [(0, txA (hdB a b c d e i.1 j.1 g.1 s.1))]) (h' := iH s.2.1 s.2.2) [0] rfl rfl rfl rfl ?_ ?_ rfl) ?_
      · exact ⟨⟨rfl, rfl⟩, trivial⟩
      · exact ⟨⟨rfl, rfl, rfl⟩, trivial⟩
      rw [show gTxsV (hdB a b c d e i.1 j.1 g.1 s.1) s.2 = (hdB a b c d e i.1 j.1 g.1 s.1, s.2) from by rw [gTxsV, if_neg (by rintro (q | q); exact hk0 q; exact q (by simpa using h60))]]
      exact ⟨rfl, rfl⟩

theorem w_xGet0 (w : W) (hk : (gNu w M40).1 < 1 ∨ (gNu w M40).1 = 3 ∨ (gNu w M40).1 > 6) : Spec Try.prog 48 [.ptr 0 0] (iH w.1 w.2) (fun u h' => u = txA (gTxs w).1 ∧ h' = iH ((gTxs w).2).1 ((gTxs w).2).2) := by
  obtain ⟨a, ha⟩ : ∃ a, gNu w M40 = a := ⟨_, rfl⟩
  obtain ⟨b, hb⟩ : ∃ b, gNu a.2 M40 = b := ⟨_, rfl⟩
  obtain ⟨c, hc⟩ : ∃ c, gNu b.2 M40 = c := ⟨_, rfl⟩
  obtain ⟨d, hd⟩ : ∃ d, gNu c.2 M40 = d := ⟨_, rfl⟩
  obtain ⟨e, he⟩ : ∃ e, tkR d.2 32 = e := ⟨_, rfl⟩
  rw [ha] at hk
  have hG : gTxs w = gTxsV (hdA a b c d e inv0 var0) e.2 := by simp only [gTxs, ha, hb, hc, hd, he]; rw [if_neg (by omega), if_neg (by omega), if_neg (by omega), if_neg (by omega)]
  rw [hG]
  have ca : Spec Try.prog 63 [.ptr 0 0, .r (.int .i64 1099511627776)] (iH w.1 w.2) (fun u h' => u = .r (.int .i64 a.1) ∧ h' = iH a.2.1 a.2.2) := by rw [← ha]; exact w_INum w 1099511627776
  have cb : Spec Try.prog 63 [.ptr 0 0, .r (.int .i64 1099511627776)] (iH a.2.1 a.2.2) (fun u h' => u = .r (.int .i64 b.1) ∧ h' = iH b.2.1 b.2.2) := by rw [← hb]; exact w_INum a.2 1099511627776
  have cc : Spec Try.prog 63 [.ptr 0 0, .r (.int .i64 1099511627776)] (iH b.2.1 b.2.2) (fun u h' => u = .r (.int .i64 c.1) ∧ h' = iH c.2.1 c.2.2) := by rw [← hc]; exact w_INum b.2 1099511627776
  have cd : Spec Try.prog 63 [.ptr 0 0, .r (.int .i64 1099511627776)] (iH c.2.1 c.2.2) (fun u h' => u = .r (.int .i64 d.1) ∧ h' = iH d.2.1 d.2.2) := by rw [← hd]; exact w_INum c.2 1099511627776
  have ce : Spec Try.prog 66 [.ptr 0 0] (iH d.2.1 d.2.2) (fun u h' => u = wd e.1 ∧ h' = iH e.2.1 e.2.2) := by rw [← he]; exact w_IWide d.2
  clear hG ha hb hc hd he
  refine spec_of_go (N := 65) Try.func48 rfl (by decide) rfl rfl ?_
  refine z2 ?_
  refine ar_new tOk rfl rfl rfl ?_ ?_
  · simp
  refine z3 ?_
  refine p1 ?_
  refine ar_obj [0] (ca) rfl rfl (handed_of rfl rfl (by decide) ⟨rfl, rfl, rfl, trivial⟩) rfl rfl rfl rfl ?_
  rintro _ _ ⟨rfl, rfl⟩
  refine ⟨_, _, rfl, ?_⟩
  refine ar_ent (ent_same (h' := ⟨2, [(0, some (.mixed [.r (.bs a.2.1), .r (.int .i64 a.2.2), .r (.bool true)])), (1, some (.mixed ((txC tx0).map .r)))], false⟩) rfl rfl ⟨rfl, rfl, trivial⟩) ?_
  refine p1 ?_
  refine ar_obj [0] (cb) rfl rfl (handed_of rfl rfl (by decide) ⟨rfl, rfl, rfl, trivial⟩) rfl rfl rfl rfl ?_
  rintro _ _ ⟨rfl, rfl⟩
  refine ⟨_, _, rfl, ?_⟩
  refine ar_ent (ent_same (h' := ⟨2, [(0, some (.mixed [.r (.bs b.2.1), .r (.int .i64 b.2.2), .r (.bool true)])), (1, some (.mixed ((txC tx0).map .r)))], false⟩) rfl rfl ⟨rfl, rfl, trivial⟩) ?_
  refine p1 ?_
  refine ar_obj [0] (cc) rfl rfl (handed_of rfl rfl (by decide) ⟨rfl, rfl, rfl, trivial⟩) rfl rfl rfl rfl ?_
  rintro _ _ ⟨rfl, rfl⟩
  refine ⟨_, _, rfl, ?_⟩
  refine ar_ent (ent_same (h' := ⟨2, [(0, some (.mixed [.r (.bs c.2.1), .r (.int .i64 c.2.2), .r (.bool true)])), (1, some (.mixed ((txC tx0).map .r)))], false⟩) rfl rfl ⟨rfl, rfl, trivial⟩) ?_
  refine p1 ?_
  refine ar_obj [0] (cd) rfl rfl (handed_of rfl rfl (by decide) ⟨rfl, rfl, rfl, trivial⟩) rfl rfl rfl rfl ?_
  rintro _ _ ⟨rfl, rfl⟩
  refine ⟨_, _, rfl, ?_⟩
  refine ar_ent (ent_same (h' := ⟨2, [(0, some (.mixed [.r (.bs d.2.1), .r (.int .i64 d.2.2), .r (.bool true)])), (1, some (.mixed ((txC tx0).map .r)))], false⟩) rfl rfl ⟨rfl, rfl, trivial⟩) ?_
  refine p1 ?_
  refine ar_obj [0] (ce) rfl rfl (handed_of rfl rfl (by decide) ⟨rfl, rfl, rfl, trivial⟩) rfl rfl rfl rfl ?_
  rintro _ _ ⟨rfl, rfl⟩
  refine ⟨_, _, rfl, ?_⟩
  refine ar_ent (ent_same (h' := ⟨2, [(0, some (.mixed [.r (.bs e.2.1), .r (.int .i64 e.2.2), .r (.bool true)])), (1, some (.mixed ((txC tx0).map .r)))], false⟩) rfl rfl ⟨rfl, rfl, trivial⟩) ?_
  refine ar_pure tOk rfl rfl rfl ?_ ?_
  · simp
  refine ar_ent (ent_reg 14 (txA (hdA a b c d e inv0 var0)) (by kernel_rfl)) ?_
  refine ar_new tOk rfl rfl rfl ?_ ?_
  · simp
  refine ar_store (h' := ⟨3, [(2, some (.mixed ((txC (hdA a b c d e inv0 var0)).map .r))), (2, some (.mixed ((txC (tx0)).map .r))), (0, some (.mixed [.r (.bs e.2.1), .r (.int .i64 e.2.2), .r (.bool true)])), (1, some (.mixed ((txC (tx0)).map .r)))], false⟩) (c := True) tOk (by kernel_rfl) rfl rfl trivial ?_
  refine ar_nil ?_
  refine ag_ent (ent_weak (g' := [(0, .ptr 0 0), (2, .ptr 1 0), (3, .ptr 2 0)]) (h' := ⟨3, [(0, some (.mixed [.r (.bs e.2.1), .r (.int .i64 e.2.2), .r (.bool true)])), (1, some (.mixed ((txC tx0).map .r))), (2, some (.mixed ((txC (hdA a b c d e inv0 var0)).map .r)))], false⟩) [0, 1, 2] rfl rfl rfl rfl ?_ ?_ rfl) ?_
  · exact ⟨⟨rfl, rfl⟩, ⟨rfl, rfl⟩, ⟨rfl, rfl⟩, trivial⟩
  · exact ⟨⟨rfl, rfl, rfl⟩, ⟨rfl, rfl, rfl⟩, ⟨rfl, rfl, rfl⟩, trivial⟩
  refine ag_seq ?_
  refine z2 ?_
  refine p1 ?_
  refine p2 ?_
  refine ar_nil ?_
  refine ag_block ?_
  refine z2 ?_
  iterate 2 refine p1 ?_
  refine ar_nil ?_
  refine ag_false rfl (decide_eq_false (show ¬ a.1 = 1 by omega)) ?_
  refine z2 ?_
  iterate 2 refine p1 ?_
  refine ar_nil ?_
  refine ag_false rfl (decide_eq_false (show ¬ a.1 = 2 by omega)) ?_
  refine ag_seq ?_
  refine z2 ?_
  iterate 2 refine p1 ?_
  refine ar_nil ?_
  refine ag_false rfl (decide_eq_false (show ¬ a.1 = 4 by omega)) ?_
  refine z2 ?_
  iterate 2 refine p1 ?_
  refine ar_nil ?_
  refine ag_false rfl (decide_eq_false (show ¬ a.1 = 5 by omega)) ?_
  refine ag_reg ?_
  iterate 2 refine p1 ?_
  refine ar_nil ?_
  refine ag_false rfl (decide_eq_false (show ¬ a.1 = 6 by omega)) ?_
  refine ag_skip ?_
  refine ag_inBlock ?_
  refine ag_seq ?_
  refine z2 ?_
  refine p1 ?_
  refine p2 ?_
  iterate 2 refine p1 ?_
  refine ar_ent (ent_reg 42 (.r (.bool false)) (by show AVal.r (.bool _) = _; exact eqB (decide_eq_false (show ¬ a.1 = 5 by omega)))) ?_
  refine p1 ?_
  refine p2 ?_
  iterate 2 refine p1 ?_
  refine ar_nil ?_
  refine ag_false rfl (decide_eq_false (show ¬ a.1 = 6 by omega)) ?_
  refine ag_skip ?_
  refine ag_seq ?_
  refine z2 ?_
  refine p1 ?_
  refine ar_qd rfl (qop_objR [0] (w_Err e.2.1 e.2.2) (by rintro _ _ ⟨rfl, rfl⟩; exact ⟨rfl, rfl⟩) rfl rfl (handed_of rfl rfl (by decide) ⟨rfl, rfl, rfl, trivial⟩) rfl rfl) rfl rfl rfl rfl ?_
  iterate 2 refine p1 ?_
  refine ar_guard (t := decide (e.2.2 ≠ 0)) (fun ht => ?_) (fun ht => ?_)
  · refine ar_ent (ent_reg 56 (.r (.bool true)) (by show AVal.r (.bool _) = _; exact eqB ht)) ?_
    have hk0 := of_decide_eq_true ht
    repeat (first | refine ar_skip rfl rfl rfl ?_ | refine ar_pure tOk rfl rfl rfl trivial ?_)
    refine ar_nil ?_
    refine ag_true rfl (by rfl) ?_
    refine z2 ?_
    refine p1 ?_
    refine ar_obj [0] (w_ISpoil e.2) rfl rfl (handed_of rfl rfl (by decide) ⟨rfl, rfl, rfl, trivial⟩) rfl rfl rfl rfl ?_
    rintro _ _ ⟨rfl, rfl⟩
    refine ⟨_, _, rfl, ?_⟩
    refine z3 ?_
    refine ar_pure tOk rfl rfl rfl ?_ ?_
    · simp
    refine ar_store tOk rfl rfl rfl trivial ?_
    refine ar_nil ?_
    refine ag_retW (v := txA tx0) tOk Try.func48 rfl rfl (by first | trivial | exact ⟨trivial, trivial⟩ | simp) (ent_weak (g' := [(0, txA tx0)]) (h' := iH (spR e.2).1 (spR e.2).2) [0] rfl rfl rfl rfl ?_ ?_ rfl) ?_
    · exact ⟨⟨rfl, rfl⟩, trivial⟩
    · exact ⟨⟨rfl, rfl, rfl⟩, trivial⟩
    rw [show gTxsV (hdA a b c d e inv0 var0) e.2 = (tx0, spR e.2) from by rw [gTxsV, if_pos (.inl hk0)]]
    exact ⟨rfl, rfl⟩
  · refine ar_ent (ent_reg 56 (.r (.bool false)) (by show AVal.r (.bool _) = _; exact eqB ht)) ?_
    have hk0 := of_decide_eq_false ht
    refine p2 ?_
    refine ar_pur (w_xCheck (hdA a b c d e inv0 var0)) rfl rfl rfl rfl rfl rfl rfl ?_
    iterate 2 refine p1 ?_
    refine ar_nil ?_
    refine ag_if rfl ?_ ?_
    · intro h60
      refine z2 ?_
      refine p1 ?_
      refine ar_obj [0] (w_ISpoil e.2) rfl rfl (handed_of rfl rfl (by decide) ⟨rfl, rfl, rfl, trivial⟩) rfl rfl rfl rfl ?_
      rintro _ _ ⟨rfl, rfl⟩
      refine ⟨_, _, rfl, ?_⟩
      refine z3 ?_
      refine ar_pure tOk rfl rfl rfl ?_ ?_
      · simp
      refine ar_store tOk rfl rfl rfl trivial ?_
      refine ar_nil ?_
      refine ag_retW (v := txA tx0) tOk Try.func48 rfl rfl (by first | trivial | exact ⟨trivial, trivial⟩ | simp) (ent_weak (g' := [(0, txA tx0)]) (h' := iH (spR e.2).1 (spR e.2).2) [0] rfl rfl rfl rfl ?_ ?_ rfl) ?_
      · exact ⟨⟨rfl, rfl⟩, trivial⟩
      · exact ⟨⟨rfl, rfl, rfl⟩, trivial⟩
      rw [show gTxsV (hdA a b c d e inv0 var0) e.2 = (tx0, spR e.2) from by rw [gTxsV, if_pos (.inr (by simpa using h60))]]
      exact ⟨rfl, rfl⟩
    · intro h60
      refine ag_ent (ent_weak (g' := [(0, .ptr 0 0), (2, .ptr 1 0), (3, .ptr 2 0)]) (h' := ⟨3, [(0, some (.mixed [.r (.bs e.2.1), .r (.int .i64 e.2.2), .r (.bool true)])), (1, some (.mixed ((txC tx0).map .r))), (2, some (.mixed ((txC (hdA a b c d e inv0 var0)).map .r)))], false⟩) [0, 1, 2] rfl rfl rfl rfl ?_ ?_ rfl) ?_
      · exact ⟨⟨rfl, rfl⟩, ⟨rfl, rfl⟩, ⟨rfl, rfl⟩, trivial⟩
      · exact ⟨⟨rfl, rfl, rfl⟩, ⟨rfl, rfl, rfl⟩, ⟨rfl, rfl, rfl⟩, trivial⟩
      refine ag_skip ?_
      refine z2 ?_
      refine p2 ?_
      refine ar_store (h' := ⟨3, [(1, some (.mixed ((txC (hdA a b c d e inv0 var0)).map .r))), (0, some (.mixed [.r (.bs e.2.1), .r (.int .i64 e.2.2), .r (.bool true)])), (1, some (.mixed ((txC tx0).map .r))), (2, some (.mixed ((txC (hdA a b c d e inv0 var0)).map .r)))], false⟩) (c := True) tOk (by kernel_rfl) rfl rfl trivial ?_
      refine ar_nil ?_
      refine ag_retW (v := txA (hdA a b c d e inv0 var0)) tOk Try.func48 rfl rfl (by first | trivial | exact ⟨trivial, trivial⟩ | simp) (ent_weak (g' := [(0, txA (hdA a b c d e inv0 var0))]) (h' := iH e.2.1 e.2.2) [0] rfl rfl rfl rfl ?_ ?_ rfl) ?_
      · exact ⟨⟨rfl, rfl⟩, trivial⟩
      · exact ⟨⟨rfl, rfl, rfl⟩, trivial⟩
      rw [show gTxsV (hdA a b c d e inv0 var0) e.2 = (hdA a b c d e inv0 var0, e.2) from by rw [gTxsV, if_neg (by rintro (q | q); exact hk0 q; exact q (by simpa using h60))]]
      exact ⟨rfl, rfl⟩

end Go.Proofs.Ytbofioheoohlgaa

/-
  WALKS: what is signed of a bid, whether it is valid, which one is better. (Printed by gen.py out of w_btext.py.)
-/
import Derived.Test.YtccdhgmkjakjkaaGreatBChk
import Derived.Test.YtccdhgmkjakjkaaGreatRCmp
import Derived.Test.YtccdhgmkjakjkaaGreatMVer
import Derived.Test.YtccdhgmkjakjkaaGreatMail
namespace Go.Proofs.YtccdhgmkjakjkaaGreat
open Go
set_option maxRecDepth 20000
set_option linter.unusedVariables false
set_option linter.unusedSimpArgs false
def bidT (b : BidV) : W := wnum (wwid (pAsk (wnum (wtxt ([], 0) [98, 105, 100]) b.r) b.a) b.x0 b.x1 b.x2 b.x3) b.e
def txtB (b : BidV) : List UInt8 := if bidE b = 0 then (bidT b).1 else []
theorem bidT_ok (b : BidV) : wok (bidT b) := wok_num (wok_wid (wok_ask (wok_num (wok_txt wok0))))
theorem txtB_length (b : BidV) : (txtB b).length ≤ 8192 := by
 unfold txtB; split
 ·exact (bidT_ok b).1
 ·simp
theorem txtB_y {b : BidV} (h : bidE b = 0) : txtB b = (bidT b).1 := by rw [txtB, if_pos h]
theorem txtB_n {b : BidV} (h : ¬ bidE b = 0) : txtB b = [] := by rw [txtB, if_neg h]
theorem w_bTextN (b : BidV) (hE : ¬ bidE b = 0) : Pur Tryz.prog 51 [bidA b] (.r (.bs ([]))) := by
 have cE := w_bCheck b
 generalize bidE b = E at hE cE
 refine spec_of_go (N := 34) Tryz.func51 rfl (by decide) rfl rfl ?_
 refine zB ?_
 refine pM ?_
 refine pF ?_
 refine zB ?_
 refine pB ?_
 refine ar_pur (cE) rfl rfl rfl rfl rfl rfl rfl ?_
 refine pE ?_
 refine ag_true rfl (decide_eq_true hE) ?_
 refine zB ?_
 refine pE ?_
 refine ag_ent (ent_nil 2 (.bs []) rfl (.inl rfl)) ?_
 refine ag_ret tOk Tryz.func51 rfl rfl (by simp) ?_
 rfl
theorem w_bTextS (b : BidV) (hb : b.ok) (hE : bidE b = 0) : Pur Tryz.prog 51 [bidA b] (.r (.bs ((bidT b).1))) := by
 have cE := w_bCheck b
 rw [hE] at cE
 refine spec_of_go (N := 34) Tryz.func51 rfl (by decide) rfl rfl ?_
 refine zB ?_
 refine pM ?_
 refine pF ?_
 refine zB ?_
 refine pB ?_
 refine ar_pur (cE) rfl rfl rfl rfl rfl rfl rfl ?_
 refine pE ?_
 refine vC ?_
 refine ag_skip ?_
 refine zB ?_
 refine ar_obj [] (w_NewO) rfl rfl (handed_of rfl rfl (by decide) trivial) rfl rfl rfl rfl ?_
 rintro _ _ ⟨rfl, rfl⟩
 refine ⟨_, _, rfl, ?_⟩
 refine pE ?_
 refine ag_ent ent_dead ?_
 refine ag_ent (ent_same (h' := obAt none [.int .i64 0, .bool true] 1 2 ⟨3, [(0, some (.mixed ((bidC b).map .r)))], false⟩) rfl rfl ⟨rfl, rfl, rfl, trivial⟩) ?_
 refine zB ?_
 refine pA ?_
 refine ar_ob (w_OText ([], 0) [98, 105, 100] (by decide) none [.int .i64 0, .bool true] oRel0) rfl rfl rfl rfl rfl rfl rfl (by intro d hd; cases hd; rfl) ?_
 rintro _ sl tl ⟨rfl, hr⟩
 refine ⟨rfl, ?_⟩
 refine zC ?_
 iterate 2 refine pA ?_
 refine pB ?_
 refine ar_ob (w_ONum _ b.r sl tl hr) rfl rfl rfl rfl rfl rfl rfl (by intro d hd; cases hd; rfl) ?_
 rintro _ sl tl ⟨rfl, hr⟩
 refine ⟨rfl, ?_⟩
 refine zC ?_
 iterate 2 refine pA ?_
 refine pB ?_
 refine ar_ob (w_bPut _ sl tl hr b.a hb.a) rfl rfl rfl rfl rfl rfl rfl (by intro d hd; cases hd; rfl) ?_
 rintro _ sl tl ⟨rfl, hr⟩
 refine ⟨rfl, ?_⟩
 refine zC ?_
 iterate 2 refine pA ?_
 refine pB ?_
 refine ar_ob (w_OWide _ b.x0 b.x1 b.x2 b.x3 hb.h0 hb.h1 hb.h2 hb.h3 sl tl hr) rfl rfl rfl rfl rfl rfl rfl (by intro d hd; cases hd; rfl) ?_
 rintro _ sl tl ⟨rfl, hr⟩
 refine ⟨rfl, ?_⟩
 refine zC ?_
 iterate 2 refine pA ?_
 refine pB ?_
 refine ar_ob (w_ONum _ b.e sl tl hr) rfl rfl rfl rfl rfl rfl rfl (by intro d hd; cases hd; rfl) ?_
 rintro _ sl tl ⟨rfl, hr⟩
 refine ⟨rfl, ?_⟩
 refine zC ?_
 refine pA ?_
 refine ar_ob (w_ODone _ sl tl hr) rfl rfl rfl rfl rfl rfl rfl (by intro d hd; cases hd; rfl) ?_
 rintro _ sl tl ⟨rfl, hr⟩
 refine ⟨rfl, ?_⟩
 iterate 4 refine pA ?_
 refine pG ?_
 refine pA ?_
 refine pE ?_
 refine ag_ret tOk Tryz.func51 rfl rfl (by simp) ?_
 rfl
theorem w_rBidTextN (b : BidV) (hb : b.ok) (hE : ¬ bidE b = 0) : Pur Tryz.prog 26 [bidA b] (.r (.bs ([]))) := by
 have cE := w_rBid b hb
 generalize bidE b = E at hE cE
 refine spec_of_go (N := 21) Tryz.func26 rfl (by decide) rfl rfl ?_
 refine zB ?_
 refine pM ?_
 refine pF ?_
 refine zB ?_
 refine pB ?_
 refine ar_pur (cE) rfl rfl rfl rfl rfl rfl rfl ?_
 refine pE ?_
 refine ag_true rfl (decide_eq_true hE) ?_
 refine zB ?_
 refine pE ?_
 refine ag_ent (ent_nil 2 (.bs []) rfl (.inl rfl)) ?_
 refine ag_ret tOk Tryz.func26 rfl rfl (by simp) ?_
 rfl
theorem w_rBidTextS (b : BidV) (hb : b.ok) (hE : bidE b = 0) : Pur Tryz.prog 26 [bidA b] (.r (.bs ((bidT b).1))) := by
 have cE := w_rBid b hb
 rw [hE] at cE
 have hT : Pur Tryz.prog 47 [.agg [.r .nil, .r (.int .i64 0)], .r (.str [98, 105, 100])] (wV (wtxt ([], 0) [98, 105, 100])) := Spec.args (w_rTextC ([], 0) [98, 105, 100] wok0) (fun R μ w cs h => by simp only [ARels] at h ⊢; obtain ⟨c, r, rfl, h1, h2⟩ := h; exact ⟨c, r, rfl, nil_agg h1, h2⟩)
 have k1 : wok (wtxt ([], 0) [98, 105, 100]) := wok_txt wok0
 have k2 := wok_num (n := b.r) k1
 have k3 : wok (pAsk _ b.a) := wok_ask k2
 have k4 := wok_wid (x0 := b.x0) (x1 := b.x1) (x2 := b.x2) (x3 := b.x3) k3
 refine spec_of_go (N := 21) Tryz.func26 rfl (by decide) rfl rfl ?_
 refine zB ?_
 refine pM ?_
 refine pF ?_
 refine zB ?_
 refine pB ?_
 refine ar_pur (cE) rfl rfl rfl rfl rfl rfl rfl ?_
 refine pE ?_
 refine vC ?_
 refine sS ?_
 refine qD ?_
 refine qB ?_ ?_
 ·simp
 refine aq_pur (hT) rfl rfl rfl rfl rfl rfl rfl ?_
 refine qA ?_
 refine qL ?_
 refine aq_pur (w_rNumC _ b.r k1) rfl rfl rfl rfl rfl rfl rfl ?_
 refine qA ?_
 refine qL ?_
 refine aq_pur (w_rPutAsk _ k2 b.a hb.a) rfl rfl rfl rfl rfl rfl rfl ?_
 refine qA ?_
 refine qL ?_
 refine aq_pur (w_rWideC _ b.x0 b.x1 b.x2 b.x3 hb.h0 hb.h1 hb.h2 hb.h3 k3) rfl rfl rfl rfl rfl rfl rfl ?_
 refine qA ?_
 refine qL ?_
 refine aq_pur (w_rNumC _ b.e k4) rfl rfl rfl rfl rfl rfl rfl ?_
 refine qA ?_
 refine qE ?_
 refine ag_ret tOk Tryz.func26 rfl rfl (by simp) ?_
 rfl
theorem w_bText (b : BidV) (hb : b.ok) : Pur Tryz.prog 51 [bidA b] (.r (.bs (txtB b))) := by
 by_cases h : bidE b = 0
 ·rw [txtB_y h]; exact w_bTextS b hb h
 ·rw [txtB_n h]; exact w_bTextN b h
theorem w_rBidText (b : BidV) (hb : b.ok) : Pur Tryz.prog 26 [bidA b] (.r (.bs (txtB b))) := by
 by_cases h : bidE b = 0
 ·rw [txtB_y h]; exact w_rBidTextS b hb h
 ·rw [txtB_n h]; exact w_rBidTextN b hb h
def valB (root : List UInt8) (b : BidV) : Bool := decide (bidE b = 0 ∧ vok root (txtB b) b.sig)
theorem w_bValid (b : BidV) (hb : b.ok) (root : List UInt8) : Pur Tryz.prog 29 [bidA b, .r (.str root)] (.r (.bool (valB root b))) := by
 have cE := w_bCheck b
 have cT := w_bText b hb
 have cV := w_Verify root (txtB b) b.sig (by have := txtB_length b; omega) (by have := hb.sig; omega)
 refine spec_of_go (N := 20) Tryz.func29 rfl (by decide) rfl rfl ?_
 refine zB ?_
 refine pM ?_
 refine pF ?_
 refine zB ?_
 refine pB ?_
 refine ar_pur (cE) rfl rfl rfl rfl rfl rfl rfl ?_
 refine pE ?_
 refine ag_if rfl ?_ ?_
 ·intro h9
  refine zB ?_
  refine pE ?_
  refine ag_ret tOk Tryz.func29 rfl rfl (by simp) ?_
  exact eqB (by simp [valB]; intro q; exact absurd q h9)
 ·intro h9
  have hE : bidE b = 0 := by omega
  refine sS ?_
  by_cases hv : vok root (txtB b) b.sig
  ·skip
   rw [vres, if_pos hv] at cV
   refine qD ?_
   refine qA ?_
   refine qL ?_
   refine aq_pur (cT) rfl rfl rfl rfl rfl rfl rfl ?_
   refine qA ?_
   refine qL ?_
   refine aq_pur (cV) rfl rfl rfl rfl rfl rfl rfl ?_
   iterate 4 refine qA ?_
   refine qE ?_
   refine zB ?_
   refine pA ?_
   refine pE ?_
   refine ag_ret tOk Tryz.func29 rfl rfl (by simp) ?_
   exact eqB (by simp [valB, hE, hv])
  ·skip
   rw [vres, if_neg hv] at cV
   refine qD ?_
   refine qA ?_
   refine qL ?_
   refine aq_pur (cT) rfl rfl rfl rfl rfl rfl rfl ?_
   refine qA ?_
   refine qL ?_
   refine aq_pur (cV) rfl rfl rfl rfl rfl rfl rfl ?_
   iterate 4 refine qA ?_
   refine qE ?_
   refine zB ?_
   refine pA ?_
   refine pE ?_
   refine ag_ret tOk Tryz.func29 rfl rfl (by simp) ?_
   exact eqB (by simp [valB, hE, hv])
theorem w_rValid (b : BidV) (hb : b.ok) (root : List UInt8) : Pur Tryz.prog 11 [bidA b, .r (.str root)] (.r (.bool (valB root b))) := by
 have cE := w_rBid b hb
 have cT := w_rBidText b hb
 have cV := w_rVerify root (txtB b) b.sig (by have := txtB_length b; omega) (by have := hb.sig; omega)
 refine spec_of_go (N := 20) Tryz.func11 rfl (by decide) rfl rfl ?_
 refine zB ?_
 refine pM ?_
 refine pF ?_
 refine zB ?_
 refine pB ?_
 refine ar_pur (cE) rfl rfl rfl rfl rfl rfl rfl ?_
 refine pE ?_
 refine ag_if rfl ?_ ?_
 ·intro h9
  refine zB ?_
  refine pE ?_
  refine ag_ret tOk Tryz.func11 rfl rfl (by simp) ?_
  exact eqB (by simp [valB]; intro q; exact absurd q h9)
 ·intro h9
  have hE : bidE b = 0 := by omega
  refine sS ?_
  by_cases hv : vok root (txtB b) b.sig
  ·skip
   rw [vres, if_pos hv] at cV
   refine qD ?_
   refine qA ?_
   refine qL ?_
   refine aq_pur (cT) rfl rfl rfl rfl rfl rfl rfl ?_
   refine qA ?_
   refine qL ?_
   refine aq_pur (cV) rfl rfl rfl rfl rfl rfl rfl ?_
   iterate 4 refine qA ?_
   refine qE ?_
   refine zB ?_
   refine pA ?_
   refine pE ?_
   refine ag_ret tOk Tryz.func11 rfl rfl (by simp) ?_
   exact eqB (by simp [valB, hE, hv])
  ·skip
   rw [vres, if_neg hv] at cV
   refine qD ?_
   refine qA ?_
   refine qL ?_
   refine aq_pur (cT) rfl rfl rfl rfl rfl rfl rfl ?_
   refine qA ?_
   refine qL ?_
   refine aq_pur (cV) rfl rfl rfl rfl rfl rfl rfl ?_
   iterate 4 refine qA ?_
   refine qE ?_
   refine zB ?_
   refine pA ?_
   refine pE ?_
   refine ag_ret tOk Tryz.func11 rfl rfl (by simp) ?_
   exact eqB (by simp [valB, hE, hv])
def cAB (a b : BidV) : Int := cmpW a.x0 a.x1 a.x2 a.x3 b.x0 b.x1 b.x2 b.x3
def betV (a b : BidV) : Bool := decide (cAB a b > 0 ∨ (cAB a b = 0 ∧ a.r < b.r))
theorem w_bBetter (a b : BidV) : Pur Tryz.prog 32 [bidA a, bidA b] (.r (.bool (betV a b))) := by
 refine spec_of_go (N := 24) Tryz.func32 rfl (by decide) rfl rfl ?_
 refine zB ?_
 iterate 2 refine pM ?_
 refine pG ?_
 refine pA ?_
 refine pB ?_
 refine pA ?_
 refine pB ?_
 refine ar_pur (w_Cmp _ _ _ _ _ _ _ _) rfl rfl rfl rfl rfl rfl rfl ?_
 refine pE ?_
 refine ag_ent (ent_reg 5 (.r (.int .i64 (cAB a b))) rfl) ?_
 refine zB ?_
 iterate 3 refine pA ?_
 refine ar_guard (t := decide (cAB a b > 0)) (fun ht => ?_) (fun ht => ?_)
 ·refine ar_ent (ent_reg 13 (.r (.bool true)) (by show AVal.r (.bool _) = _; rw [ht])) ?_
  have h1 := of_decide_eq_true ht
  iterate 9 refine ar_skip rfl rfl rfl ?_
  refine pA ?_
  refine pE ?_
  refine ag_ret tOk Tryz.func32 rfl rfl (by simp) ?_
  exact eqB (by simp [betV, h1])
 ·refine ar_ent (ent_reg 13 (.r (.bool false)) (by show AVal.r (.bool _) = _; rw [ht])) ?_
  have h1 := of_decide_eq_false ht
  iterate 3 refine pA ?_
  refine ar_guard (t := decide (cAB a b = 0)) (fun ht => ?_) (fun ht => ?_)
  ·refine ar_ent (ent_reg 16 (.r (.bool true)) (by show AVal.r (.bool _) = _; rw [ht])) ?_
   have h2 := of_decide_eq_true ht
   refine pA ?_
   refine pB ?_
   refine pA ?_
   refine pB ?_
   iterate 3 refine pA ?_
   refine pE ?_
   refine ag_ret tOk Tryz.func32 rfl rfl (by simp) ?_
   exact eqB (by simp [betV, h1, h2])
  ·refine ar_ent (ent_reg 16 (.r (.bool false)) (by show AVal.r (.bool _) = _; rw [ht])) ?_
   have h2 := of_decide_eq_false ht
   iterate 5 refine ar_skip rfl rfl rfl ?_
   iterate 2 refine pA ?_
   refine pE ?_
   refine ag_ret tOk Tryz.func32 rfl rfl (by simp) ?_
   exact eqB (by simp [betV, h1, h2])
end Go.Proofs.YtccdhgmkjakjkaaGreat

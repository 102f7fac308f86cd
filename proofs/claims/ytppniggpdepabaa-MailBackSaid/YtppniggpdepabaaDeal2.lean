/-
  WALKS: transfers read, keys, digests, payloads. (Printed by gen.py out of w_deal2.py.)
-/
import Derived.Test.YtppniggpdepabaaDeal
namespace Go.Proofs.Ytppniggpdepabaa
open Go
set_option maxRecDepth 20000
set_option linter.unusedVariables false
set_option linter.unusedSimpArgs false

theorem w_rPutInv (w : W) (hw : wok w) (v : InvV) : Pur Try.prog 73 [wV w, invA v] (wV (pInv w v)) := by
  have h1 := wok_txt (t := [105, 110, 118]) hw
  have h2 := wok_num (n := v.u) h1
  have h3 := wok_txt (t := v.root) h2
  have h4 := wok_num (n := v.r) h3
  have h5 := wok_num (n := v.s) h4
  have h6 := wok_num (n := v.c) h5
  have h7 := wok_num (n := v.t) h6
  refine spec_of_go (N := 30) Try.func73 rfl (by decide) rfl rfl ?_
  refine z2 ?_
  iterate 2 refine ar_new tOk rfl rfl rfl trivial ?_
  refine ar_new tOk rfl rfl rfl ?_ ?_
  · simp
  refine z1 ?_
  apply ag_draw1 [] (by kernel_rfl) (by kernel_rfl)
  refine aq_load0 tOk rfl (by kernel_rfl) rfl rfl trivial ?_
  refine aq_pur (w_rTextC w _ hw) rfl rfl rfl rfl rfl rfl rfl ?_
  refine aq_pure tOk rfl rfl rfl trivial ?_
  refine aq_load0 tOk rfl (by kernel_rfl) rfl rfl trivial ?_
  refine aq_pur (w_rNumC _ _ h1) rfl rfl rfl rfl rfl rfl rfl ?_
  refine aq_pure tOk rfl rfl rfl trivial ?_
  refine aq_load0 tOk rfl (by kernel_rfl) rfl rfl trivial ?_
  refine aq_pur (w_rTextC _ _ h2) rfl rfl rfl rfl rfl rfl rfl ?_
  refine aq_store10 tOk rfl rfl rfl rfl trivial ?_
  refine aq_nil rfl ?_
  refine ag_seq ?_
  apply ag_draw1 [] (by kernel_rfl) (by kernel_rfl)
  refine aq_load0 tOk rfl (by kernel_rfl) rfl rfl trivial ?_
  refine aq_pure tOk rfl rfl rfl trivial ?_
  refine aq_load0 tOk rfl (by kernel_rfl) rfl rfl trivial ?_
  refine aq_pur (w_rNumC _ _ h3) rfl rfl rfl rfl rfl rfl rfl ?_
  refine aq_pure tOk rfl rfl rfl trivial ?_
  refine aq_load0 tOk rfl (by kernel_rfl) rfl rfl trivial ?_
  refine aq_pur (w_rNumC _ _ h4) rfl rfl rfl rfl rfl rfl rfl ?_
  refine aq_pure tOk rfl rfl rfl trivial ?_
  refine aq_load0 tOk rfl (by kernel_rfl) rfl rfl trivial ?_
  refine aq_pur (w_rNumC _ _ h5) rfl rfl rfl rfl rfl rfl rfl ?_
  refine aq_pure tOk rfl rfl rfl trivial ?_
  refine aq_load0 tOk rfl (by kernel_rfl) rfl rfl trivial ?_
  refine aq_pur (w_rNumC _ _ h6) rfl rfl rfl rfl rfl rfl rfl ?_
  refine aq_store10 tOk rfl rfl rfl rfl trivial ?_
  refine aq_nil rfl ?_
  refine z2 ?_
  refine p2 ?_
  refine p1 ?_
  refine p2 ?_
  refine ar_pur (w_rTextC _ _ h7) rfl rfl rfl rfl rfl rfl rfl ?_
  refine ar_store tOk rfl rfl rfl trivial ?_
  refine ar_nil ?_
  refine ag_ret tOk Try.func73 rfl rfl (by first | trivial | exact ⟨trivial, trivial⟩ | simp) ?_
  rfl

theorem w_rPutVar (w : W) (hw : wok w) (v : VarV) (hv : v.ok) : Pur Try.prog 72 [wV w, varA v] (wV (pVar w v)) := by
  refine spec_of_go (N := 12) Try.func72 rfl (by decide) rfl rfl ?_
  refine z2 ?_
  iterate 2 refine ar_new tOk rfl rfl rfl trivial ?_
  refine ar_new tOk rfl rfl rfl ?_ ?_
  · simp
  refine z1 ?_
  apply ag_draw1 [] (by kernel_rfl) (by kernel_rfl)
  refine aq_load0 tOk rfl (by kernel_rfl) rfl rfl trivial ?_
  refine aq_pure tOk rfl rfl rfl trivial ?_
  refine aq_load0 tOk rfl (by kernel_rfl) rfl rfl trivial ?_
  refine aq_pur (w_rWideC w v.x0 v.x1 v.x2 v.x3 hv.h0 hv.h1 hv.h2 hv.h3 hw) rfl rfl rfl rfl rfl rfl rfl ?_
  refine aq_pure tOk rfl rfl rfl trivial ?_
  refine aq_load0 tOk rfl (by kernel_rfl) rfl rfl trivial ?_
  refine aq_pur (w_rNumC _ v.e (wok_wid hw)) rfl rfl rfl rfl rfl rfl rfl ?_
  refine aq_store10 tOk rfl rfl rfl rfl trivial ?_
  refine aq_nil rfl ?_
  refine ag_ret tOk Try.func72 rfl rfl (by first | trivial | exact ⟨trivial, trivial⟩ | simp) ?_
  rfl

/-- A transfer, a side's data, of octets. -/
def M40 : Int := 1099511627776
def gInvV (a : List UInt8 × W) (b : Int × W) (c : List UInt8 × W) (d e f g : Int × W) (h : List UInt8 × W) : InvV × W :=
  if h.2.2 ≠ 0 ∨ a.1 ≠ [105, 110, 118] ∨ invBad ⟨b.1, c.1, d.1, e.1, f.1, g.1, h.1⟩ then (inv0, spR h.2) else (⟨b.1, c.1, d.1, e.1, f.1, g.1, h.1⟩, h.2)
def gInv (w : W) : InvV × W :=
  let a := gTx w 16
  let b := gNu a.2 M40
  let c := gTx b.2 8
  let d := gNu c.2 M40
  let e := gNu d.2 M40
  let f := gNu e.2 M40
  let g := gNu f.2 M40
  let h := gTx g.2 16
  gInvV a b c d e f g h
def varOf (b : List UInt8) (e : Int) : VarV := ⟨fB b 24 8, fB b 16 8, fB b 8 8, fB b 0 8, e⟩
def gVarV (a : List UInt8 × W) (b : Int × W) : VarV × W := if b.2.2 ≠ 0 ∨ varBad (varOf a.1 b.1) then (var0, spR b.2) else (varOf a.1 b.1, b.2)
def gVar (w : W) : VarV × W :=
  let a := tkR w 32
  let b := gNu a.2 M40
  gVarV a b

theorem w_rGetInv (w : W) : Pur Try.prog 76 [wV w] (.tuple [invA (gInv w).1, wV (gInv w).2]) := by
  obtain ⟨a, ha⟩ : ∃ a, gTx w 16 = a := ⟨_, rfl⟩
  obtain ⟨b, hb⟩ : ∃ b, gNu a.2 M40 = b := ⟨_, rfl⟩
  obtain ⟨c, hc⟩ : ∃ c, gTx b.2 8 = c := ⟨_, rfl⟩
  obtain ⟨d, hd⟩ : ∃ d, gNu c.2 M40 = d := ⟨_, rfl⟩
  obtain ⟨e, he⟩ : ∃ e, gNu d.2 M40 = e := ⟨_, rfl⟩
  obtain ⟨f, hf⟩ : ∃ f, gNu e.2 M40 = f := ⟨_, rfl⟩
  obtain ⟨g, hg⟩ : ∃ g, gNu f.2 M40 = g := ⟨_, rfl⟩
  obtain ⟨h, hh⟩ : ∃ h, gTx g.2 16 = h := ⟨_, rfl⟩
  have hG : gInv w = gInvV a b c d e f g h := by simp only [gInv, ha, hb, hc, hd, he, hf, hg, hh]
  rw [hG]
  have ca : Pur Try.prog 51 [wV w, .r (.int .i64 16)] (.tuple [.r (.str a.1), wV a.2]) := by rw [← ha]; exact w_rGetText w 16
  have cb : Pur Try.prog 49 [wV a.2, .r (.int .i64 1099511627776)] (.tuple [.r (.int .i64 b.1), wV b.2]) := by rw [← hb]; exact w_rGetNum a.2 1099511627776
  have cc : Pur Try.prog 51 [wV b.2, .r (.int .i64 8)] (.tuple [.r (.str c.1), wV c.2]) := by rw [← hc]; exact w_rGetText b.2 8
  have cd : Pur Try.prog 49 [wV c.2, .r (.int .i64 1099511627776)] (.tuple [.r (.int .i64 d.1), wV d.2]) := by rw [← hd]; exact w_rGetNum c.2 1099511627776
  have ce : Pur Try.prog 49 [wV d.2, .r (.int .i64 1099511627776)] (.tuple [.r (.int .i64 e.1), wV e.2]) := by rw [← he]; exact w_rGetNum d.2 1099511627776
  have cf : Pur Try.prog 49 [wV e.2, .r (.int .i64 1099511627776)] (.tuple [.r (.int .i64 f.1), wV f.2]) := by rw [← hf]; exact w_rGetNum e.2 1099511627776
  have cg : Pur Try.prog 49 [wV f.2, .r (.int .i64 1099511627776)] (.tuple [.r (.int .i64 g.1), wV g.2]) := by rw [← hg]; exact w_rGetNum f.2 1099511627776
  have ch : Pur Try.prog 51 [wV g.2, .r (.int .i64 16)] (.tuple [.r (.str h.1), wV h.2]) := by rw [← hh]; exact w_rGetText g.2 16
  clear hG ha hb hc hd he hf hg hh
  have hbad : ¬ invE (⟨b.1, c.1, d.1, e.1, f.1, g.1, h.1⟩ : InvV) = 0 → invBad ⟨b.1, c.1, d.1, e.1, f.1, g.1, h.1⟩ := fun q => by by_cases p : invBad ⟨b.1, c.1, d.1, e.1, f.1, g.1, h.1⟩; exact p; exact absurd (by rw [invE, if_neg p]) q
  have hgood : invE (⟨b.1, c.1, d.1, e.1, f.1, g.1, h.1⟩ : InvV) = 0 → ¬ invBad ⟨b.1, c.1, d.1, e.1, f.1, g.1, h.1⟩ := fun q p => by rw [invE, if_pos p] at q; exact absurd q (by decide)
  refine spec_of_go (N := 70) Try.func76 rfl (by decide) rfl rfl ?_
  refine z2 ?_
  refine ar_new tOk rfl rfl rfl trivial ?_
  refine ar_new tOk rfl rfl rfl ?_ ?_
  · simp
  refine ar_new tOk rfl rfl rfl ?_ ?_
  · simp
  refine z3 ?_
  refine ar_new tOk rfl rfl rfl ?_ ?_
  · simp
  refine z3 ?_
  refine p2 ?_
  refine ar_pur (ca) rfl rfl rfl rfl rfl rfl rfl ?_
  iterate 4 refine p1 ?_
  refine ar_store tOk rfl rfl rfl trivial ?_
  refine z3 ?_
  refine p2 ?_
  refine ar_pur (cb) rfl rfl rfl rfl rfl rfl rfl ?_
  iterate 4 refine p1 ?_
  iterate 2 refine ar_store tOk rfl rfl rfl trivial ?_
  refine z3 ?_
  refine p2 ?_
  refine ar_pur (cc) rfl rfl rfl rfl rfl rfl rfl ?_
  iterate 4 refine p1 ?_
  iterate 2 refine ar_store tOk rfl rfl rfl trivial ?_
  refine z3 ?_
  refine p2 ?_
  refine ar_pur (cd) rfl rfl rfl rfl rfl rfl rfl ?_
  iterate 4 refine p1 ?_
  iterate 2 refine ar_store tOk rfl rfl rfl trivial ?_
  refine z3 ?_
  refine p2 ?_
  refine ar_pur (ce) rfl rfl rfl rfl rfl rfl rfl ?_
  iterate 4 refine p1 ?_
  iterate 2 refine ar_store tOk rfl rfl rfl trivial ?_
  refine z3 ?_
  refine p2 ?_
  refine ar_pur (cf) rfl rfl rfl rfl rfl rfl rfl ?_
  iterate 4 refine p1 ?_
  iterate 2 refine ar_store tOk rfl rfl rfl trivial ?_
  refine z3 ?_
  refine p2 ?_
  refine ar_pur (cg) rfl rfl rfl rfl rfl rfl rfl ?_
  iterate 4 refine p1 ?_
  iterate 2 refine ar_store tOk rfl rfl rfl trivial ?_
  refine z3 ?_
  refine p2 ?_
  refine ar_pur (ch) rfl rfl rfl rfl rfl rfl rfl ?_
  iterate 4 refine p1 ?_
  iterate 2 refine ar_store tOk rfl rfl rfl trivial ?_
  refine z1 ?_
  refine z2 ?_
  refine p1 ?_
  refine p2 ?_
  iterate 2 refine p1 ?_
  refine ar_guard (t := decide (h.2.2 ≠ 0)) (fun ht => ?_) (fun ht => ?_)
  · refine ar_ent (ent_reg 56 (.r (.bool true)) (by show AVal.r (.bool _) = _; exact eqB ht)) ?_
    have hk := of_decide_eq_true ht
    repeat (first | refine ar_skip rfl rfl rfl ?_ | refine ar_pure tOk rfl rfl rfl trivial ?_)
    refine ar_nil ?_
    refine ag_true rfl (by rfl) ?_
    refine z2 ?_
    refine ar_pure tOk rfl rfl rfl ?_ ?_
    · simp
    refine p2 ?_
    refine ar_pur (w_rSpoil h.2) rfl rfl rfl rfl rfl rfl rfl ?_
    iterate 2 refine ar_store tOk rfl rfl rfl trivial ?_
    refine ar_nil ?_
    refine ag_ret tOk Try.func76 rfl rfl (by first | trivial | exact ⟨trivial, trivial⟩ | simp) ?_
    rw [show gInvV a b c d e f g h = _ from by rw [gInvV, if_pos (.inl hk)]]
    rfl
  · refine ar_ent (ent_reg 56 (.r (.bool false)) (by show AVal.r (.bool _) = _; exact eqB ht)) ?_
    have hk0 := of_decide_eq_false ht
    iterate 4 refine p1 ?_
    refine ar_guard (t := decide (a.1 ≠ [105, 110, 118])) (fun ht => ?_) (fun ht => ?_)
    · refine ar_ent (ent_reg 60 (.r (.bool true)) (by show AVal.r (.bool _) = _; exact eqB ht)) ?_
      have hk := of_decide_eq_true ht
      repeat (first | refine ar_skip rfl rfl rfl ?_ | refine ar_pure tOk rfl rfl rfl trivial ?_)
      refine ar_nil ?_
      refine ag_true rfl (by rfl) ?_
      refine z2 ?_
      refine ar_pure tOk rfl rfl rfl ?_ ?_
      · simp
      refine p2 ?_
      refine ar_pur (w_rSpoil h.2) rfl rfl rfl rfl rfl rfl rfl ?_
      iterate 2 refine ar_store tOk rfl rfl rfl trivial ?_
      refine ar_nil ?_
      refine ag_ret tOk Try.func76 rfl rfl (by first | trivial | exact ⟨trivial, trivial⟩ | simp) ?_
      rw [show gInvV a b c d e f g h = _ from by rw [gInvV, if_pos (.inr (.inl hk))]]
      rfl
    · refine ar_ent (ent_reg 60 (.r (.bool false)) (by show AVal.r (.bool _) = _; exact eqB ht)) ?_
      have hk1 := of_decide_eq_false ht
      refine p2 ?_
      refine ar_pur (w_rInv ⟨b.1, c.1, d.1, e.1, f.1, g.1, h.1⟩) rfl rfl rfl rfl rfl rfl rfl ?_
      iterate 2 refine p1 ?_
      refine ar_nil ?_
      refine ag_if rfl ?_ ?_
      · intro h64
        refine z2 ?_
        refine ar_pure tOk rfl rfl rfl ?_ ?_
        · simp
        refine p2 ?_
        refine ar_pur (w_rSpoil h.2) rfl rfl rfl rfl rfl rfl rfl ?_
        iterate 2 refine ar_store tOk rfl rfl rfl trivial ?_
        refine ar_nil ?_
        refine ag_ret tOk Try.func76 rfl rfl (by first | trivial | exact ⟨trivial, trivial⟩ | simp) ?_
        rw [show gInvV a b c d e f g h = _ from by rw [gInvV, if_pos (.inr (.inr (hbad (by simpa using h64))))]]
        rfl
      · intro h64
        refine ag_skip ?_
        refine ag_seq ?_
        apply ag_draw2 [] (by kernel_rfl) (by kernel_rfl)
        refine aq_load0 tOk rfl (by kernel_rfl) rfl rfl trivial ?_
        refine aq_load1 tOk rfl (by kernel_rfl) rfl rfl rfl rfl trivial ?_ ?_
        rotate_left 1
        refine' aq_store20 tOk rfl rfl rfl rfl trivial ?_
        rotate_left 1
        refine aq_store21 tOk rfl rfl rfl rfl trivial ?_
        refine aq_nil rfl ?_
        refine ag_ret tOk Try.func76 rfl rfl (by first | trivial | exact ⟨trivial, trivial⟩ | simp) ?_
        rw [show gInvV a b c d e f g h = _ from by rw [gInvV, if_neg (by rintro (q | q | q); exact hk0 q; exact hk1 q; exact hgood (by simpa using h64) q)]]
        rfl
        all_goals exact ⟨_, rfl, trivial⟩

theorem w_rGetVar (w : W) : Pur Try.prog 77 [wV w] (.tuple [varA (gVar w).1, wV (gVar w).2]) := by
  obtain ⟨a, ha⟩ : ∃ a, tkR w 32 = a := ⟨_, rfl⟩
  obtain ⟨b, hb⟩ : ∃ b, gNu a.2 M40 = b := ⟨_, rfl⟩
  have hG : gVar w = gVarV a b := by simp only [gVar, ha, hb]
  rw [hG]
  have ca : Pur Try.prog 50 [wV w] (.tuple [wd a.1, wV a.2]) := by rw [← ha]; exact w_rGetWide w
  have cb : Pur Try.prog 49 [wV a.2, .r (.int .i64 1099511627776)] (.tuple [.r (.int .i64 b.1), wV b.2]) := by rw [← hb]; exact w_rGetNum a.2 1099511627776
  clear hG ha hb
  have hbad : ¬ varE (varOf a.1 b.1) = 0 → varBad (varOf a.1 b.1) := fun q => by by_cases p : varBad (varOf a.1 b.1); exact p; exact absurd (by rw [varE, if_neg p]) q
  have hgood : varE (varOf a.1 b.1) = 0 → ¬ varBad (varOf a.1 b.1) := fun q p => by rw [varE, if_pos p] at q; exact absurd q (by decide)
  refine spec_of_go (N := 30) Try.func77 rfl (by decide) rfl rfl ?_
  refine z2 ?_
  refine ar_new tOk rfl rfl rfl trivial ?_
  refine ar_new tOk rfl rfl rfl ?_ ?_
  · simp
  refine ar_new tOk rfl rfl rfl ?_ ?_
  · simp
  refine z3 ?_
  refine ar_new tOk rfl rfl rfl ?_ ?_
  · simp
  refine z3 ?_
  refine p2 ?_
  refine ar_pur (ca) rfl rfl rfl rfl rfl rfl rfl ?_
  iterate 4 refine p1 ?_
  iterate 2 refine ar_store tOk rfl rfl rfl trivial ?_
  refine z3 ?_
  refine p2 ?_
  refine ar_pur (cb) rfl rfl rfl rfl rfl rfl rfl ?_
  iterate 4 refine p1 ?_
  iterate 2 refine ar_store tOk rfl rfl rfl trivial ?_
  refine z1 ?_
  refine z2 ?_
  refine p1 ?_
  refine p2 ?_
  iterate 2 refine p1 ?_
  refine ar_guard (t := decide (b.2.2 ≠ 0)) (fun ht => ?_) (fun ht => ?_)
  · refine ar_ent (ent_reg 20 (.r (.bool true)) (by show AVal.r (.bool _) = _; exact eqB ht)) ?_
    have hk := of_decide_eq_true ht
    repeat (first | refine ar_skip rfl rfl rfl ?_ | refine ar_pure tOk rfl rfl rfl trivial ?_)
    refine ar_nil ?_
    refine ag_true rfl (by rfl) ?_
    refine z2 ?_
    refine ar_pure tOk rfl rfl rfl ?_ ?_
    · simp
    refine p2 ?_
    refine ar_pur (w_rSpoil b.2) rfl rfl rfl rfl rfl rfl rfl ?_
    iterate 2 refine ar_store tOk rfl rfl rfl trivial ?_
    refine ar_nil ?_
    refine ag_ret tOk Try.func77 rfl rfl (by first | trivial | exact ⟨trivial, trivial⟩ | simp) ?_
    rw [show gVarV a b = _ from by rw [gVarV, if_pos (.inl hk)]]
    rfl
  · refine ar_ent (ent_reg 20 (.r (.bool false)) (by show AVal.r (.bool _) = _; exact eqB ht)) ?_
    have hk0 := of_decide_eq_false ht
    refine p2 ?_
    refine ar_pur (w_rVar (varOf a.1 b.1)) rfl rfl rfl rfl rfl rfl rfl ?_
    iterate 2 refine p1 ?_
    refine ar_nil ?_
    refine ag_if rfl ?_ ?_
    · intro h24
      refine z2 ?_
      refine ar_pure tOk rfl rfl rfl ?_ ?_
      · simp
      refine p2 ?_
      refine ar_pur (w_rSpoil b.2) rfl rfl rfl rfl rfl rfl rfl ?_
      iterate 2 refine ar_store tOk rfl rfl rfl trivial ?_
      refine ar_nil ?_
      refine ag_ret tOk Try.func77 rfl rfl (by first | trivial | exact ⟨trivial, trivial⟩ | simp) ?_
      rw [show gVarV a b = _ from by rw [gVarV, if_pos (.inr (hbad (by simpa using h24)))]]
      rfl
    · intro h24
      refine ag_skip ?_
      refine ag_seq ?_
      apply ag_draw2 [] (by kernel_rfl) (by kernel_rfl)
      refine aq_load0 tOk rfl (by kernel_rfl) rfl rfl trivial ?_
      refine aq_load1 tOk rfl (by kernel_rfl) rfl rfl rfl rfl trivial ?_ ?_
      rotate_left 1
      refine' aq_store20 tOk rfl rfl rfl rfl trivial ?_
      rotate_left 1
      refine aq_store21 tOk rfl rfl rfl rfl trivial ?_
      refine aq_nil rfl ?_
      refine ag_ret tOk Try.func77 rfl rfl (by first | trivial | exact ⟨trivial, trivial⟩ | simp) ?_
      rw [show gVarV a b = _ from by rw [gVarV, if_neg (by rintro (q | q); exact hk0 q; exact hgood (by simpa using h24) q)]]
      rfl
      all_goals exact ⟨_, rfl, trivial⟩

theorem w_dGet (w : W) : Spec Try.prog 74 [.ptr 0 0] (iH w.1 w.2) (fun u h' => u = invA (gInv w).1 ∧ h' = iH ((gInv w).2).1 ((gInv w).2).2) := by
  obtain ⟨a, ha⟩ : ∃ a, gTx w 16 = a := ⟨_, rfl⟩
  obtain ⟨b, hb⟩ : ∃ b, gNu a.2 M40 = b := ⟨_, rfl⟩
  obtain ⟨c, hc⟩ : ∃ c, gTx b.2 8 = c := ⟨_, rfl⟩
  obtain ⟨d, hd⟩ : ∃ d, gNu c.2 M40 = d := ⟨_, rfl⟩
  obtain ⟨e, he⟩ : ∃ e, gNu d.2 M40 = e := ⟨_, rfl⟩
  obtain ⟨f, hf⟩ : ∃ f, gNu e.2 M40 = f := ⟨_, rfl⟩
  obtain ⟨g, hg⟩ : ∃ g, gNu f.2 M40 = g := ⟨_, rfl⟩
  obtain ⟨h, hh⟩ : ∃ h, gTx g.2 16 = h := ⟨_, rfl⟩
  have hG : gInv w = gInvV a b c d e f g h := by simp only [gInv, ha, hb, hc, hd, he, hf, hg, hh]
  rw [hG]
  have ca : Spec Try.prog 55 [.ptr 0 0, .r (.int .i64 16)] (iH w.1 w.2) (fun u h' => u = .r (.str a.1) ∧ h' = iH a.2.1 a.2.2) := by rw [← ha]; exact w_IText w 16
  have cb : Spec Try.prog 53 [.ptr 0 0, .r (.int .i64 1099511627776)] (iH a.2.1 a.2.2) (fun u h' => u = .r (.int .i64 b.1) ∧ h' = iH b.2.1 b.2.2) := by rw [← hb]; exact w_INum a.2 1099511627776
  have cc : Spec Try.prog 55 [.ptr 0 0, .r (.int .i64 8)] (iH b.2.1 b.2.2) (fun u h' => u = .r (.str c.1) ∧ h' = iH c.2.1 c.2.2) := by rw [← hc]; exact w_IText b.2 8
  have cd : Spec Try.prog 53 [.ptr 0 0, .r (.int .i64 1099511627776)] (iH c.2.1 c.2.2) (fun u h' => u = .r (.int .i64 d.1) ∧ h' = iH d.2.1 d.2.2) := by rw [← hd]; exact w_INum c.2 1099511627776
  have ce : Spec Try.prog 53 [.ptr 0 0, .r (.int .i64 1099511627776)] (iH d.2.1 d.2.2) (fun u h' => u = .r (.int .i64 e.1) ∧ h' = iH e.2.1 e.2.2) := by rw [← he]; exact w_INum d.2 1099511627776
  have cf : Spec Try.prog 53 [.ptr 0 0, .r (.int .i64 1099511627776)] (iH e.2.1 e.2.2) (fun u h' => u = .r (.int .i64 f.1) ∧ h' = iH f.2.1 f.2.2) := by rw [← hf]; exact w_INum e.2 1099511627776
  have cg : Spec Try.prog 53 [.ptr 0 0, .r (.int .i64 1099511627776)] (iH f.2.1 f.2.2) (fun u h' => u = .r (.int .i64 g.1) ∧ h' = iH g.2.1 g.2.2) := by rw [← hg]; exact w_INum f.2 1099511627776
  have ch : Spec Try.prog 55 [.ptr 0 0, .r (.int .i64 16)] (iH g.2.1 g.2.2) (fun u h' => u = .r (.str h.1) ∧ h' = iH h.2.1 h.2.2) := by rw [← hh]; exact w_IText g.2 16
  clear hG ha hb hc hd he hf hg hh
  have hbad : ¬ invE (⟨b.1, c.1, d.1, e.1, f.1, g.1, h.1⟩ : InvV) = 0 → invBad ⟨b.1, c.1, d.1, e.1, f.1, g.1, h.1⟩ := fun q => by by_cases p : invBad ⟨b.1, c.1, d.1, e.1, f.1, g.1, h.1⟩; exact p; exact absurd (by rw [invE, if_neg p]) q
  have hgood : invE (⟨b.1, c.1, d.1, e.1, f.1, g.1, h.1⟩ : InvV) = 0 → ¬ invBad ⟨b.1, c.1, d.1, e.1, f.1, g.1, h.1⟩ := fun q p => by rw [invE, if_pos p] at q; exact absurd q (by decide)
  refine spec_of_go (N := 38) Try.func74 rfl (by decide) rfl rfl ?_
  refine z2 ?_
  refine ar_new tOk rfl rfl rfl ?_ ?_
  · simp
  refine z3 ?_
  refine p1 ?_
  refine ar_obj [0] (ca) rfl rfl (handed_of rfl rfl (by decide) ⟨rfl, rfl, rfl, trivial⟩) rfl rfl rfl rfl ?_
  rintro _ _ ⟨rfl, rfl⟩
  refine ⟨_, _, rfl, ?_⟩
  refine ar_ent (ent_same (h' := ⟨2, [(0, some (.mixed [.r (.bs a.2.1), .r (.int .i64 a.2.2), .r (.bool true)])), (1, some (.mixed ((invC inv0).map .r)))], false⟩) rfl rfl ⟨rfl, rfl, trivial⟩) ?_
  refine p1 ?_
  refine z3 ?_
  refine p1 ?_
  refine ar_obj [0] (cb) rfl rfl (handed_of rfl rfl (by decide) ⟨rfl, rfl, rfl, trivial⟩) rfl rfl rfl rfl ?_
  rintro _ _ ⟨rfl, rfl⟩
  refine ⟨_, _, rfl, ?_⟩
  refine ar_ent (ent_same (h' := ⟨2, [(0, some (.mixed [.r (.bs b.2.1), .r (.int .i64 b.2.2), .r (.bool true)])), (1, some (.mixed ((invC inv0).map .r)))], false⟩) rfl rfl ⟨rfl, rfl, trivial⟩) ?_
  refine p1 ?_
  refine ar_obj [0] (cc) rfl rfl (handed_of rfl rfl (by decide) ⟨rfl, rfl, rfl, trivial⟩) rfl rfl rfl rfl ?_
  rintro _ _ ⟨rfl, rfl⟩
  refine ⟨_, _, rfl, ?_⟩
  refine ar_ent (ent_same (h' := ⟨2, [(0, some (.mixed [.r (.bs c.2.1), .r (.int .i64 c.2.2), .r (.bool true)])), (1, some (.mixed ((invC inv0).map .r)))], false⟩) rfl rfl ⟨rfl, rfl, trivial⟩) ?_
  refine p1 ?_
  refine ar_obj [0] (cd) rfl rfl (handed_of rfl rfl (by decide) ⟨rfl, rfl, rfl, trivial⟩) rfl rfl rfl rfl ?_
  rintro _ _ ⟨rfl, rfl⟩
  refine ⟨_, _, rfl, ?_⟩
  refine ar_ent (ent_same (h' := ⟨2, [(0, some (.mixed [.r (.bs d.2.1), .r (.int .i64 d.2.2), .r (.bool true)])), (1, some (.mixed ((invC inv0).map .r)))], false⟩) rfl rfl ⟨rfl, rfl, trivial⟩) ?_
  refine p1 ?_
  refine ar_obj [0] (ce) rfl rfl (handed_of rfl rfl (by decide) ⟨rfl, rfl, rfl, trivial⟩) rfl rfl rfl rfl ?_
  rintro _ _ ⟨rfl, rfl⟩
  refine ⟨_, _, rfl, ?_⟩
  refine ar_ent (ent_same (h' := ⟨2, [(0, some (.mixed [.r (.bs e.2.1), .r (.int .i64 e.2.2), .r (.bool true)])), (1, some (.mixed ((invC inv0).map .r)))], false⟩) rfl rfl ⟨rfl, rfl, trivial⟩) ?_
  refine p1 ?_
  refine ar_obj [0] (cf) rfl rfl (handed_of rfl rfl (by decide) ⟨rfl, rfl, rfl, trivial⟩) rfl rfl rfl rfl ?_
  rintro _ _ ⟨rfl, rfl⟩
  refine ⟨_, _, rfl, ?_⟩
  refine ar_ent (ent_same (h' := ⟨2, [(0, some (.mixed [.r (.bs f.2.1), .r (.int .i64 f.2.2), .r (.bool true)])), (1, some (.mixed ((invC inv0).map .r)))], false⟩) rfl rfl ⟨rfl, rfl, trivial⟩) ?_
  refine p1 ?_
  refine ar_obj [0] (cg) rfl rfl (handed_of rfl rfl (by decide) ⟨rfl, rfl, rfl, trivial⟩) rfl rfl rfl rfl ?_
  rintro _ _ ⟨rfl, rfl⟩
  refine ⟨_, _, rfl, ?_⟩
  refine ar_ent (ent_same (h' := ⟨2, [(0, some (.mixed [.r (.bs g.2.1), .r (.int .i64 g.2.2), .r (.bool true)])), (1, some (.mixed ((invC inv0).map .r)))], false⟩) rfl rfl ⟨rfl, rfl, trivial⟩) ?_
  refine p1 ?_
  refine ar_obj [0] (ch) rfl rfl (handed_of rfl rfl (by decide) ⟨rfl, rfl, rfl, trivial⟩) rfl rfl rfl rfl ?_
  rintro _ _ ⟨rfl, rfl⟩
  refine ⟨_, _, rfl, ?_⟩
  refine ar_ent (ent_same (h' := ⟨2, [(0, some (.mixed [.r (.bs h.2.1), .r (.int .i64 h.2.2), .r (.bool true)])), (1, some (.mixed ((invC inv0).map .r)))], false⟩) rfl rfl ⟨rfl, rfl, trivial⟩) ?_
  refine ar_pure tOk rfl rfl rfl ?_ ?_
  · simp
  refine ar_new tOk rfl rfl rfl ?_ ?_
  · simp
  refine ar_store tOk rfl rfl rfl trivial ?_
  refine ar_nil ?_
  refine ag_ent (ent_weak (g' := [(0, .ptr 0 0), (2, .ptr 1 0), (3, .r (.str a.1)), (4, .ptr 2 0)]) (h' := ⟨3, [(0, some (.mixed [.r (.bs h.2.1), .r (.int .i64 h.2.2), .r (.bool true)])), (1, some (.mixed ((invC inv0).map .r))), (2, some (.mixed ((invC ⟨b.1, c.1, d.1, e.1, f.1, g.1, h.1⟩).map .r)))], false⟩) [0, 1, 2] rfl rfl rfl rfl ?_ ?_ rfl) ?_
  · exact ⟨⟨rfl, rfl⟩, ⟨rfl, rfl⟩, ⟨rfl, rfl⟩, ⟨rfl, rfl⟩, trivial⟩
  · exact ⟨⟨rfl, rfl, rfl⟩, ⟨rfl, rfl, rfl⟩, ⟨rfl, rfl, rfl⟩, trivial⟩
  refine ag_seq ?_
  refine z2 ?_
  refine p1 ?_
  refine ar_qd rfl (qop_objR [0] (w_Err h.2.1 h.2.2) (by rintro _ _ ⟨rfl, rfl⟩; exact ⟨rfl, rfl⟩) rfl rfl (handed_of rfl rfl (by decide) ⟨rfl, rfl, rfl, trivial⟩) rfl rfl) rfl rfl rfl rfl ?_
  iterate 2 refine p1 ?_
  refine ar_guard (t := decide (h.2.2 ≠ 0)) (fun ht => ?_) (fun ht => ?_)
  · refine ar_ent (ent_reg 25 (.r (.bool true)) (by show AVal.r (.bool _) = _; exact eqB ht)) ?_
    have hk := of_decide_eq_true ht
    repeat (first | refine ar_skip rfl rfl rfl ?_ | refine ar_pure tOk rfl rfl rfl trivial ?_)
    refine ar_nil ?_
    refine ag_true rfl (by rfl) ?_
    refine z2 ?_
    refine p1 ?_
    refine ar_obj [0] (w_ISpoil h.2) rfl rfl (handed_of rfl rfl (by decide) ⟨rfl, rfl, rfl, trivial⟩) rfl rfl rfl rfl ?_
    rintro _ _ ⟨rfl, rfl⟩
    refine ⟨_, _, rfl, ?_⟩
    refine z3 ?_
    refine ar_pure tOk rfl rfl rfl ?_ ?_
    · simp
    refine ar_store tOk rfl rfl rfl trivial ?_
    refine ar_nil ?_
    refine ag_retW (v := invA inv0) tOk Try.func74 rfl rfl (by first | trivial | exact ⟨trivial, trivial⟩ | simp) (ent_weak (g' := [(0, invA inv0)]) (h' := iH (spR h.2).1 (spR h.2).2) [0] rfl rfl rfl rfl ?_ ?_ rfl) ?_
    · exact ⟨⟨rfl, rfl⟩, trivial⟩
    · exact ⟨⟨rfl, rfl, rfl⟩, trivial⟩
    rw [show gInvV a b c d e f g h = _ from by rw [gInvV, if_pos (.inl hk)]]
    exact ⟨rfl, rfl⟩
  · refine ar_ent (ent_reg 25 (.r (.bool false)) (by show AVal.r (.bool _) = _; exact eqB ht)) ?_
    have hk0 := of_decide_eq_false ht
    iterate 4 refine p1 ?_
    refine ar_guard (t := decide (a.1 ≠ [105, 110, 118])) (fun ht => ?_) (fun ht => ?_)
    · refine ar_ent (ent_reg 29 (.r (.bool true)) (by show AVal.r (.bool _) = _; exact eqB ht)) ?_
      have hk := of_decide_eq_true ht
      repeat (first | refine ar_skip rfl rfl rfl ?_ | refine ar_pure tOk rfl rfl rfl trivial ?_)
      refine ar_nil ?_
      refine ag_true rfl (by rfl) ?_
      refine z2 ?_
      refine p1 ?_
      refine ar_obj [0] (w_ISpoil h.2) rfl rfl (handed_of rfl rfl (by decide) ⟨rfl, rfl, rfl, trivial⟩) rfl rfl rfl rfl ?_
      rintro _ _ ⟨rfl, rfl⟩
      refine ⟨_, _, rfl, ?_⟩
      refine z3 ?_
      refine ar_pure tOk rfl rfl rfl ?_ ?_
      · simp
      refine ar_store tOk rfl rfl rfl trivial ?_
      refine ar_nil ?_
      refine ag_retW (v := invA inv0) tOk Try.func74 rfl rfl (by first | trivial | exact ⟨trivial, trivial⟩ | simp) (ent_weak (g' := [(0, invA inv0)]) (h' := iH (spR h.2).1 (spR h.2).2) [0] rfl rfl rfl rfl ?_ ?_ rfl) ?_
      · exact ⟨⟨rfl, rfl⟩, trivial⟩
      · exact ⟨⟨rfl, rfl, rfl⟩, trivial⟩
      rw [show gInvV a b c d e f g h = _ from by rw [gInvV, if_pos (.inr (.inl hk))]]
      exact ⟨rfl, rfl⟩
    · refine ar_ent (ent_reg 29 (.r (.bool false)) (by show AVal.r (.bool _) = _; exact eqB ht)) ?_
      have hk1 := of_decide_eq_false ht
      refine p2 ?_
      refine ar_pur (w_Check ⟨b.1, c.1, d.1, e.1, f.1, g.1, h.1⟩) rfl rfl rfl rfl rfl rfl rfl ?_
      iterate 2 refine p1 ?_
      refine ar_nil ?_
      refine ag_if rfl ?_ ?_
      · intro h33
        refine z2 ?_
        refine p1 ?_
        refine ar_obj [0] (w_ISpoil h.2) rfl rfl (handed_of rfl rfl (by decide) ⟨rfl, rfl, rfl, trivial⟩) rfl rfl rfl rfl ?_
        rintro _ _ ⟨rfl, rfl⟩
        refine ⟨_, _, rfl, ?_⟩
        refine z3 ?_
        refine ar_pure tOk rfl rfl rfl ?_ ?_
        · simp
        refine ar_store tOk rfl rfl rfl trivial ?_
        refine ar_nil ?_
        refine ag_retW (v := invA inv0) tOk Try.func74 rfl rfl (by first | trivial | exact ⟨trivial, trivial⟩ | simp) (ent_weak (g' := [(0, invA inv0)]) (h' := iH (spR h.2).1 (spR h.2).2) [0] rfl rfl rfl rfl ?_ ?_ rfl) ?_
        · exact ⟨⟨rfl, rfl⟩, trivial⟩
        · exact ⟨⟨rfl, rfl, rfl⟩, trivial⟩
        rw [show gInvV a b c d e f g h = _ from by rw [gInvV, if_pos (.inr (.inr (hbad (by simpa using h33))))]]
        exact ⟨rfl, rfl⟩
      · intro h33
        refine ag_skip ?_
        refine z2 ?_
        refine p2 ?_
        refine ar_store tOk rfl rfl rfl trivial ?_
        refine ar_nil ?_
        refine ag_retW (v := invA ⟨b.1, c.1, d.1, e.1, f.1, g.1, h.1⟩) tOk Try.func74 rfl rfl (by first | trivial | exact ⟨trivial, trivial⟩ | simp) (ent_weak (g' := [(0, invA ⟨b.1, c.1, d.1, e.1, f.1, g.1, h.1⟩)]) (h' := iH h.2.1 h.2.2) [0] rfl rfl rfl rfl ?_ ?_ rfl) ?_
        · exact ⟨⟨rfl, rfl⟩, trivial⟩
        · exact ⟨⟨rfl, rfl, rfl⟩, trivial⟩
        rw [show gInvV a b c d e f g h = _ from by rw [gInvV, if_neg (by rintro (q | q | q); exact hk0 q; exact hk1 q; exact hgood (by simpa using h33) q)]]
        exact ⟨rfl, rfl⟩

theorem w_dGetVar (w : W) : Spec Try.prog 75 [.ptr 0 0] (iH w.1 w.2) (fun u h' => u = varA (gVar w).1 ∧ h' = iH ((gVar w).2).1 ((gVar w).2).2) := by
  obtain ⟨a, ha⟩ : ∃ a, tkR w 32 = a := ⟨_, rfl⟩
  obtain ⟨b, hb⟩ : ∃ b, gNu a.2 M40 = b := ⟨_, rfl⟩
  have hG : gVar w = gVarV a b := by simp only [gVar, ha, hb]
  rw [hG]
  have ca : Spec Try.prog 54 [.ptr 0 0] (iH w.1 w.2) (fun u h' => u = wd a.1 ∧ h' = iH a.2.1 a.2.2) := by rw [← ha]; exact w_IWide w
  have cb : Spec Try.prog 53 [.ptr 0 0, .r (.int .i64 1099511627776)] (iH a.2.1 a.2.2) (fun u h' => u = .r (.int .i64 b.1) ∧ h' = iH b.2.1 b.2.2) := by rw [← hb]; exact w_INum a.2 1099511627776
  clear hG ha hb
  have hbad : ¬ varE (varOf a.1 b.1) = 0 → varBad (varOf a.1 b.1) := fun q => by by_cases p : varBad (varOf a.1 b.1); exact p; exact absurd (by rw [varE, if_neg p]) q
  have hgood : varE (varOf a.1 b.1) = 0 → ¬ varBad (varOf a.1 b.1) := fun q p => by rw [varE, if_pos p] at q; exact absurd q (by decide)
  refine spec_of_go (N := 21) Try.func75 rfl (by decide) rfl rfl ?_
  refine z2 ?_
  refine ar_new tOk rfl rfl rfl ?_ ?_
  · simp
  refine z3 ?_
  refine p1 ?_
  refine ar_obj [0] (ca) rfl rfl (handed_of rfl rfl (by decide) ⟨rfl, rfl, rfl, trivial⟩) rfl rfl rfl rfl ?_
  rintro _ _ ⟨rfl, rfl⟩
  refine ⟨_, _, rfl, ?_⟩
  refine p1 ?_
  refine ar_obj [0] (cb) rfl rfl (handed_of rfl rfl (by decide) ⟨rfl, rfl, rfl, trivial⟩) rfl rfl rfl rfl ?_
  rintro _ _ ⟨rfl, rfl⟩
  refine ⟨_, _, rfl, ?_⟩
  refine ar_pure tOk rfl rfl rfl ?_ ?_
  · simp
  refine ar_new tOk rfl rfl rfl ?_ ?_
  · simp
  refine ar_store tOk rfl rfl rfl trivial ?_
  refine z1 ?_
  refine z2 ?_
  refine p1 ?_
  refine ar_qd rfl (qop_objR [0] (w_Err b.2.1 b.2.2) (by rintro _ _ ⟨rfl, rfl⟩; exact ⟨rfl, rfl⟩) rfl rfl (handed_of rfl rfl (by decide) ⟨rfl, rfl, rfl, trivial⟩) rfl rfl) rfl rfl rfl rfl ?_
  iterate 2 refine p1 ?_
  refine ar_guard (t := decide (b.2.2 ≠ 0)) (fun ht => ?_) (fun ht => ?_)
  · refine ar_ent (ent_reg 12 (.r (.bool true)) (by show AVal.r (.bool _) = _; exact eqB ht)) ?_
    have hk := of_decide_eq_true ht
    repeat (first | refine ar_skip rfl rfl rfl ?_ | refine ar_pure tOk rfl rfl rfl trivial ?_)
    refine ar_nil ?_
    refine ag_true rfl (by rfl) ?_
    refine z2 ?_
    refine p1 ?_
    refine ar_obj [0] (w_ISpoil b.2) rfl rfl (handed_of rfl rfl (by decide) ⟨rfl, rfl, rfl, trivial⟩) rfl rfl rfl rfl ?_
    rintro _ _ ⟨rfl, rfl⟩
    refine ⟨_, _, rfl, ?_⟩
    refine z3 ?_
    refine ar_pure tOk rfl rfl rfl ?_ ?_
    · simp
    refine ar_store tOk rfl rfl rfl trivial ?_
    refine ar_nil ?_
    refine ag_retW (v := varA var0) tOk Try.func75 rfl rfl (by first | trivial | exact ⟨trivial, trivial⟩ | simp) (ent_weak (g' := [(0, varA var0)]) (h' := iH (spR b.2).1 (spR b.2).2) [0] rfl rfl rfl rfl ?_ ?_ rfl) ?_
    · exact ⟨⟨rfl, rfl⟩, trivial⟩
    · exact ⟨⟨rfl, rfl, rfl⟩, trivial⟩
    rw [show gVarV a b = _ from by rw [gVarV, if_pos (.inl hk)]]
    exact ⟨rfl, rfl⟩
  · refine ar_ent (ent_reg 12 (.r (.bool false)) (by show AVal.r (.bool _) = _; exact eqB ht)) ?_
    have hk0 := of_decide_eq_false ht
    refine p2 ?_
    refine ar_pur (w_Sound (varOf a.1 b.1)) rfl rfl rfl rfl rfl rfl rfl ?_
    iterate 2 refine p1 ?_
    refine ar_nil ?_
    refine ag_if rfl ?_ ?_
    · intro h16
      refine z2 ?_
      refine p1 ?_
      refine ar_obj [0] (w_ISpoil b.2) rfl rfl (handed_of rfl rfl (by decide) ⟨rfl, rfl, rfl, trivial⟩) rfl rfl rfl rfl ?_
      rintro _ _ ⟨rfl, rfl⟩
      refine ⟨_, _, rfl, ?_⟩
      refine z3 ?_
      refine ar_pure tOk rfl rfl rfl ?_ ?_
      · simp
      refine ar_store tOk rfl rfl rfl trivial ?_
      refine ar_nil ?_
      refine ag_retW (v := varA var0) tOk Try.func75 rfl rfl (by first | trivial | exact ⟨trivial, trivial⟩ | simp) (ent_weak (g' := [(0, varA var0)]) (h' := iH (spR b.2).1 (spR b.2).2) [0] rfl rfl rfl rfl ?_ ?_ rfl) ?_
      · exact ⟨⟨rfl, rfl⟩, trivial⟩
      · exact ⟨⟨rfl, rfl, rfl⟩, trivial⟩
      rw [show gVarV a b = _ from by rw [gVarV, if_pos (.inr (hbad (by simpa using h16)))]]
      exact ⟨rfl, rfl⟩
    · intro h16
      refine ag_skip ?_
      refine z2 ?_
      refine p2 ?_
      refine ar_store tOk rfl rfl rfl trivial ?_
      refine ar_nil ?_
      refine ag_retW (v := varA (varOf a.1 b.1)) tOk Try.func75 rfl rfl (by first | trivial | exact ⟨trivial, trivial⟩ | simp) (ent_weak (g' := [(0, varA (varOf a.1 b.1))]) (h' := iH b.2.1 b.2.2) [0] rfl rfl rfl rfl ?_ ?_ rfl) ?_
      · exact ⟨⟨rfl, rfl⟩, trivial⟩
      · exact ⟨⟨rfl, rfl, rfl⟩, trivial⟩
      rw [show gVarV a b = _ from by rw [gVarV, if_neg (by rintro (q | q); exact hk0 q; exact hgood (by simpa using h16) q)]]
      exact ⟨rfl, rfl⟩

end Go.Proofs.Ytppniggpdepabaa

/-
  WALKS: transfers read, keys, digests, payloads. (Printed by gen.py out of w_deal2.py.)
-/
import Derived.Test.YtnodpljgcdkbkaaDeal
namespace Go.Proofs.Ytnodpljgcdkbkaa
open Go
set_option maxRecDepth 20000
set_option linter.unusedVariables false
set_option linter.unusedSimpArgs false
/-- A transfer, a side's data, of octets. -/
def M40 : Int := 1099511627776
def gInvV (a : List UInt8 × W) (b : Int × W) (c : List UInt8 × W) (d e f g : Int × W) (h : List UInt8 × W) : InvV × W :=
  if h.2.2 ≠ 0 ∨ a.1 ≠ [105, 110, 118] ∨ invBad ⟨b.1, c.1, d.1, e.1, f.1, g.1, h.1⟩ then (inv0, spR h.2) else (⟨b.1, c.1, d.1, e.1, f.1, g.1, h.1⟩, h.2)
def gInv (w : W) : InvV × W :=
  let a := gTx w 16
  let b := gNu a.2 M40
  let c := gTx b.2 8
  let d := gNu c.2 M40
  let e := gNu d.2 M40
  let f := gNu e.2 M40
  let g := gNu f.2 M40
  let h := gTx g.2 16
  gInvV a b c d e f g h
def varOf (b : List UInt8) (e : Int) : VarV := ⟨fB b 24 8, fB b 16 8, fB b 8 8, fB b 0 8, e⟩
def gVarV (a : List UInt8 × W) (b : Int × W) : VarV × W := if b.2.2 ≠ 0 ∨ varBad (varOf a.1 b.1) then (var0, spR b.2) else (varOf a.1 b.1, b.2)
def gVar (w : W) : VarV × W :=
  let a := tkR w 32
  let b := gNu a.2 M40
  gVarV a b
theorem w_dGet (w : W) : Spec Try.prog 54 [.ptr 0 0] (iH w.1 w.2) (fun u h' => u = invA (gInv w).1 ∧ h' = iH ((gInv w).2).1 ((gInv w).2).2) := by
  obtain ⟨a, ha⟩ : ∃ a, gTx w 16 = a := ⟨_, rfl⟩
  obtain ⟨b, hb⟩ : ∃ b, gNu a.2 M40 = b := ⟨_, rfl⟩
  obtain ⟨c, hc⟩ : ∃ c, gTx b.2 8 = c := ⟨_, rfl⟩
  obtain ⟨d, hd⟩ : ∃ d, gNu c.2 M40 = d := ⟨_, rfl⟩
  obtain ⟨e, he⟩ : ∃ e, gNu d.2 M40 = e := ⟨_, rfl⟩
  obtain ⟨f, hf⟩ : ∃ f, gNu e.2 M40 = f := ⟨_, rfl⟩
  obtain ⟨g, hg⟩ : ∃ g, gNu f.2 M40 = g := ⟨_, rfl⟩
  obtain ⟨h, hh⟩ : ∃ h, gTx g.2 16 = h := ⟨_, rfl⟩
  have hG : gInv w = gInvV a b c d e f g h := by simp only [gInv, ha, hb, hc, hd, he, hf, hg, hh]
  rw [hG]
  have ca : Spec Try.prog 53 [.ptr 0 0, .r (.int .i64 16)] (iH w.1 w.2) (fun u h' => u = .r (.str a.1) ∧ h' = iH a.2.1 a.2.2) := by rw [← ha]; exact w_IText w 16
  have cb : Spec Try.prog 50 [.ptr 0 0, .r (.int .i64 1099511627776)] (iH a.2.1 a.2.2) (fun u h' => u = .r (.int .i64 b.1) ∧ h' = iH b.2.1 b.2.2) := by rw [← hb]; exact w_INum a.2 1099511627776
  have cc : Spec Try.prog 53 [.ptr 0 0, .r (.int .i64 8)] (iH b.2.1 b.2.2) (fun u h' => u = .r (.str c.1) ∧ h' = iH c.2.1 c.2.2) := by rw [← hc]; exact w_IText b.2 8
  have cd : Spec Try.prog 50 [.ptr 0 0, .r (.int .i64 1099511627776)] (iH c.2.1 c.2.2) (fun u h' => u = .r (.int .i64 d.1) ∧ h' = iH d.2.1 d.2.2) := by rw [← hd]; exact w_INum c.2 1099511627776
  have ce : Spec Try.prog 50 [.ptr 0 0, .r (.int .i64 1099511627776)] (iH d.2.1 d.2.2) (fun u h' => u = .r (.int .i64 e.1) ∧ h' = iH e.2.1 e.2.2) := by rw [← he]; exact w_INum d.2 1099511627776
  have cf : Spec Try.prog 50 [.ptr 0 0, .r (.int .i64 1099511627776)] (iH e.2.1 e.2.2) (fun u h' => u = .r (.int .i64 f.1) ∧ h' = iH f.2.1 f.2.2) := by rw [← hf]; exact w_INum e.2 1099511627776
  have cg : Spec Try.prog 50 [.ptr 0 0, .r (.int .i64 1099511627776)] (iH f.2.1 f.2.2) (fun u h' => u = .r (.int .i64 g.1) ∧ h' = iH g.2.1 g.2.2) := by rw [← hg]; exact w_INum f.2 1099511627776
  have ch : Spec Try.prog 53 [.ptr 0 0, .r (.int .i64 16)] (iH g.2.1 g.2.2) (fun u h' => u = .r (.str h.1) ∧ h' = iH h.2.1 h.2.2) := by rw [← hh]; exact w_IText g.2 16
  clear hG ha hb hc hd he hf hg hh
  have hbad : ¬ invE (⟨b.1, c.1, d.1, e.1, f.1, g.1, h.1⟩ : InvV) = 0 → invBad ⟨b.1, c.1, d.1, e.1, f.1, g.1, h.1⟩ := fun q => by by_cases p : invBad ⟨b.1, c.1, d.1, e.1, f.1, g.1, h.1⟩; exact p; exact absurd (by rw [invE, if_neg p]) q
  have hgood : invE (⟨b.1, c.1, d.1, e.1, f.1, g.1, h.1⟩ : InvV) = 0 → ¬ invBad ⟨b.1, c.1, d.1, e.1, f.1, g.1, h.1⟩ := fun q p => by rw [invE, if_pos p] at q; exact absurd q (by decide)
  refine spec_of_go (N := 38) Try.func54 rfl (by decide) rfl rfl ?_
  refine zB ?_
  refine ar_new tOk rfl rfl rfl ?_ ?_
  · simp
  refine zC ?_
  refine pA ?_
  refine ar_obj [0] (ca) rfl rfl (handed_of rfl rfl (by decide) ⟨rfl, rfl, rfl, trivial⟩) rfl rfl rfl rfl ?_
  rintro _ _ ⟨rfl, rfl⟩
  refine ⟨_, _, rfl, ?_⟩
  refine ar_ent (ent_same (h' := ⟨2, [(0, some (.mixed [.r (.bs a.2.1), .r (.int .i64 a.2.2), .r (.bool true)])), (1, some (.mixed ((invC inv0).map .r)))], false⟩) rfl rfl ⟨rfl, rfl, trivial⟩) ?_
  refine pA ?_
  refine zC ?_
  refine pA ?_
  refine ar_obj [0] (cb) rfl rfl (handed_of rfl rfl (by decide) ⟨rfl, rfl, rfl, trivial⟩) rfl rfl rfl rfl ?_
  rintro _ _ ⟨rfl, rfl⟩
  refine ⟨_, _, rfl, ?_⟩
  refine ar_ent (ent_same (h' := ⟨2, [(0, some (.mixed [.r (.bs b.2.1), .r (.int .i64 b.2.2), .r (.bool true)])), (1, some (.mixed ((invC inv0).map .r)))], false⟩) rfl rfl ⟨rfl, rfl, trivial⟩) ?_
  refine pA ?_
  refine ar_obj [0] (cc) rfl rfl (handed_of rfl rfl (by decide) ⟨rfl, rfl, rfl, trivial⟩) rfl rfl rfl rfl ?_
  rintro _ _ ⟨rfl, rfl⟩
  refine ⟨_, _, rfl, ?_⟩
  refine ar_ent (ent_same (h' := ⟨2, [(0, some (.mixed [.r (.bs c.2.1), .r (.int .i64 c.2.2), .r (.bool true)])), (1, some (.mixed ((invC inv0).map .r)))], false⟩) rfl rfl ⟨rfl, rfl, trivial⟩) ?_
  refine pA ?_
  refine ar_obj [0] (cd) rfl rfl (handed_of rfl rfl (by decide) ⟨rfl, rfl, rfl, trivial⟩) rfl rfl rfl rfl ?_
  rintro _ _ ⟨rfl, rfl⟩
  refine ⟨_, _, rfl, ?_⟩
  refine ar_ent (ent_same (h' := ⟨2, [(0, some (.mixed [.r (.bs d.2.1), .r (.int .i64 d.2.2), .r (.bool true)])), (1, some (.mixed ((invC inv0).map .r)))], false⟩) rfl rfl ⟨rfl, rfl, trivial⟩) ?_
  refine pA ?_
  refine ar_obj [0] (ce) rfl rfl (handed_of rfl rfl (by decide) ⟨rfl, rfl, rfl, trivial⟩) rfl rfl rfl rfl ?_
  rintro _ _ ⟨rfl, rfl⟩
  refine ⟨_, _, rfl, ?_⟩
  refine ar_ent (ent_same (h' := ⟨2, [(0, some (.mixed [.r (.bs e.2.1), .r (.int .i64 e.2.2), .r (.bool true)])), (1, some (.mixed ((invC inv0).map .r)))], false⟩) rfl rfl ⟨rfl, rfl, trivial⟩) ?_
  refine pA ?_
  refine ar_obj [0] (cf) rfl rfl (handed_of rfl rfl (by decide) ⟨rfl, rfl, rfl, trivial⟩) rfl rfl rfl rfl ?_
  rintro _ _ ⟨rfl, rfl⟩
  refine ⟨_, _, rfl, ?_⟩
  refine ar_ent (ent_same (h' := ⟨2, [(0, some (.mixed [.r (.bs f.2.1), .r (.int .i64 f.2.2), .r (.bool true)])), (1, some (.mixed ((invC inv0).map .r)))], false⟩) rfl rfl ⟨rfl, rfl, trivial⟩) ?_
  refine pA ?_
  refine ar_obj [0] (cg) rfl rfl (handed_of rfl rfl (by decide) ⟨rfl, rfl, rfl, trivial⟩) rfl rfl rfl rfl ?_
  rintro _ _ ⟨rfl, rfl⟩
  refine ⟨_, _, rfl, ?_⟩
  refine ar_ent (ent_same (h' := ⟨2, [(0, some (.mixed [.r (.bs g.2.1), .r (.int .i64 g.2.2), .r (.bool true)])), (1, some (.mixed ((invC inv0).map .r)))], false⟩) rfl rfl ⟨rfl, rfl, trivial⟩) ?_
  refine pA ?_
  refine ar_obj [0] (ch) rfl rfl (handed_of rfl rfl (by decide) ⟨rfl, rfl, rfl, trivial⟩) rfl rfl rfl rfl ?_
  rintro _ _ ⟨rfl, rfl⟩
  refine ⟨_, _, rfl, ?_⟩
  refine ar_ent (ent_same (h' := ⟨2, [(0, some (.mixed [.r (.bs h.2.1), .r (.int .i64 h.2.2), .r (.bool true)])), (1, some (.mixed ((invC inv0).map .r)))], false⟩) rfl rfl ⟨rfl, rfl, trivial⟩) ?_
  refine ar_pure tOk rfl rfl rfl ?_ ?_
  · simp
  refine ar_new tOk rfl rfl rfl ?_ ?_
  · simp
  refine ar_store tOk rfl rfl rfl trivial ?_
  refine ar_nil ?_
  refine ag_ent (ent_weak (g' := [(0, .ptr 0 0), (2, .ptr 1 0), (3, .r (.str a.1)), (4, .ptr 2 0)]) (h' := ⟨3, [(0, some (.mixed [.r (.bs h.2.1), .r (.int .i64 h.2.2), .r (.bool true)])), (1, some (.mixed ((invC inv0).map .r))), (2, some (.mixed ((invC ⟨b.1, c.1, d.1, e.1, f.1, g.1, h.1⟩).map .r)))], false⟩) [0, 1, 2] rfl rfl rfl rfl ?_ ?_ rfl) ?_
  · exact ⟨⟨rfl, rfl⟩, ⟨rfl, rfl⟩, ⟨rfl, rfl⟩, ⟨rfl, rfl⟩, trivial⟩
  · exact ⟨⟨rfl, rfl, rfl⟩, ⟨rfl, rfl, rfl⟩, ⟨rfl, rfl, rfl⟩, trivial⟩
  refine ag_seq ?_
  refine zB ?_
  refine pA ?_
  refine ar_qd rfl (qop_objR [0] (w_Err h.2.1 h.2.2) (by rintro _ _ ⟨rfl, rfl⟩; exact ⟨rfl, rfl⟩) rfl rfl (handed_of rfl rfl (by decide) ⟨rfl, rfl, rfl, trivial⟩) rfl rfl) rfl rfl rfl rfl ?_
  iterate 2 refine pA ?_
  refine ar_guard (t := decide (h.2.2 ≠ 0)) (fun ht => ?_) (fun ht => ?_)
  · refine ar_ent (ent_reg 25 (.r (.bool true)) (by show AVal.r (.bool _) = _; exact eqB ht)) ?_
    have hk := of_decide_eq_true ht
    repeat (first | refine ar_skip rfl rfl rfl ?_ | refine ar_pure tOk rfl rfl rfl trivial ?_)
    refine ar_nil ?_
    refine ag_true rfl (by rfl) ?_
    refine zB ?_
    refine pA ?_
    refine ar_obj [0] (w_ISpoil h.2) rfl rfl (handed_of rfl rfl (by decide) ⟨rfl, rfl, rfl, trivial⟩) rfl rfl rfl rfl ?_
    rintro _ _ ⟨rfl, rfl⟩
    refine ⟨_, _, rfl, ?_⟩
    refine zC ?_
    refine ar_pure tOk rfl rfl rfl ?_ ?_
    · simp
    refine ar_store tOk rfl rfl rfl trivial ?_
    refine ar_nil ?_
    refine ag_retW (v := invA inv0) tOk Try.func54 rfl rfl (by first | trivial | exact ⟨trivial, trivial⟩ | simp) (ent_weak (g' := [(0, invA inv0)]) (h' := iH (spR h.2).1 (spR h.2).2) [0] rfl rfl rfl rfl ?_ ?_ rfl) ?_
    · exact ⟨⟨rfl, rfl⟩, trivial⟩
    · exact ⟨⟨rfl, rfl, rfl⟩, trivial⟩
    rw [show gInvV a b c d e f g h = _ from by rw [gInvV, if_pos (.inl hk)]]
    exact ⟨rfl, rfl⟩
  · refine ar_ent (ent_reg 25 (.r (.bool false)) (by show AVal.r (.bool _) = _; exact eqB ht)) ?_
    have hk0 := of_decide_eq_false ht
    iterate 4 refine pA ?_
    refine ar_guard (t := decide (a.1 ≠ [105, 110, 118])) (fun ht => ?_) (fun ht => ?_)
    · refine ar_ent (ent_reg 29 (.r (.bool true)) (by show AVal.r (.bool _) = _; exact eqB ht)) ?_
      have hk := of_decide_eq_true ht
      repeat (first | refine ar_skip rfl rfl rfl ?_ | refine ar_pure tOk rfl rfl rfl trivial ?_)
      refine ar_nil ?_
      refine ag_true rfl (by rfl) ?_
      refine zB ?_
      refine pA ?_
      refine ar_obj [0] (w_ISpoil h.2) rfl rfl (handed_of rfl rfl (by decide) ⟨rfl, rfl, rfl, trivial⟩) rfl rfl rfl rfl ?_
      rintro _ _ ⟨rfl, rfl⟩
      refine ⟨_, _, rfl, ?_⟩
      refine zC ?_
      refine ar_pure tOk rfl rfl rfl ?_ ?_
      · simp
      refine ar_store tOk rfl rfl rfl trivial ?_
      refine ar_nil ?_
      refine ag_retW (v := invA inv0) tOk Try.func54 rfl rfl (by first | trivial | exact ⟨trivial, trivial⟩ | simp) (ent_weak (g' := [(0, invA inv0)]) (h' := iH (spR h.2).1 (spR h.2).2) [0] rfl rfl rfl rfl ?_ ?_ rfl) ?_
      · exact ⟨⟨rfl, rfl⟩, trivial⟩
      · exact ⟨⟨rfl, rfl, rfl⟩, trivial⟩
      rw [show gInvV a b c d e f g h = _ from by rw [gInvV, if_pos (.inr (.inl hk))]]
      exact ⟨rfl, rfl⟩
    · refine ar_ent (ent_reg 29 (.r (.bool false)) (by show AVal.r (.bool _) = _; exact eqB ht)) ?_
      have hk1 := of_decide_eq_false ht
      refine pB ?_
      refine ar_pur (w_Check ⟨b.1, c.1, d.1, e.1, f.1, g.1, h.1⟩) rfl rfl rfl rfl rfl rfl rfl ?_
      iterate 2 refine pA ?_
      refine ar_nil ?_
      refine ag_if rfl ?_ ?_
      · intro h33
        refine zB ?_
        refine pA ?_
        refine ar_obj [0] (w_ISpoil h.2) rfl rfl (handed_of rfl rfl (by decide) ⟨rfl, rfl, rfl, trivial⟩) rfl rfl rfl rfl ?_
        rintro _ _ ⟨rfl, rfl⟩
        refine ⟨_, _, rfl, ?_⟩
        refine zC ?_
        refine ar_pure tOk rfl rfl rfl ?_ ?_
        · simp
        refine ar_store tOk rfl rfl rfl trivial ?_
        refine ar_nil ?_
        refine ag_retW (v := invA inv0) tOk Try.func54 rfl rfl (by first | trivial | exact ⟨trivial, trivial⟩ | simp) (ent_weak (g' := [(0, invA inv0)]) (h' := iH (spR h.2).1 (spR h.2).2) [0] rfl rfl rfl rfl ?_ ?_ rfl) ?_
        · exact ⟨⟨rfl, rfl⟩, trivial⟩
        · exact ⟨⟨rfl, rfl, rfl⟩, trivial⟩
        rw [show gInvV a b c d e f g h = _ from by rw [gInvV, if_pos (.inr (.inr (hbad (by simpa using h33))))]]
        exact ⟨rfl, rfl⟩
      · intro h33
        refine ag_skip ?_
        refine zB ?_
        refine pB ?_
        refine ar_store tOk rfl rfl rfl trivial ?_
        refine ar_nil ?_
        refine ag_retW (v := invA ⟨b.1, c.1, d.1, e.1, f.1, g.1, h.1⟩) tOk Try.func54 rfl rfl (by first | trivial | exact ⟨trivial, trivial⟩ | simp) (ent_weak (g' := [(0, invA ⟨b.1, c.1, d.1, e.1, f.1, g.1, h.1⟩)]) (h' := iH h.2.1 h.2.2) [0] rfl rfl rfl rfl ?_ ?_ rfl) ?_
        · exact ⟨⟨rfl, rfl⟩, trivial⟩
        · exact ⟨⟨rfl, rfl, rfl⟩, trivial⟩
        rw [show gInvV a b c d e f g h = _ from by rw [gInvV, if_neg (by rintro (q | q | q); exact hk0 q; exact hk1 q; exact hgood (by simpa using h33) q)]]
        exact ⟨rfl, rfl⟩
theorem w_dGetVar (w : W) : Spec Try.prog 55 [.ptr 0 0] (iH w.1 w.2) (fun u h' => u = varA (gVar w).1 ∧ h' = iH ((gVar w).2).1 ((gVar w).2).2) := by
  obtain ⟨a, ha⟩ : ∃ a, tkR w 32 = a := ⟨_, rfl⟩
  obtain ⟨b, hb⟩ : ∃ b, gNu a.2 M40 = b := ⟨_, rfl⟩
  have hG : gVar w = gVarV a b := by simp only [gVar, ha, hb]
  rw [hG]
  have ca : Spec Try.prog 52 [.ptr 0 0] (iH w.1 w.2) (fun u h' => u = wd a.1 ∧ h' = iH a.2.1 a.2.2) := by rw [← ha]; exact w_IWide w
  have cb : Spec Try.prog 50 [.ptr 0 0, .r (.int .i64 1099511627776)] (iH a.2.1 a.2.2) (fun u h' => u = .r (.int .i64 b.1) ∧ h' = iH b.2.1 b.2.2) := by rw [← hb]; exact w_INum a.2 1099511627776
  clear hG ha hb
  have hbad : ¬ varE (varOf a.1 b.1) = 0 → varBad (varOf a.1 b.1) := fun q => by by_cases p : varBad (varOf a.1 b.1); exact p; exact absurd (by rw [varE, if_neg p]) q
  have hgood : varE (varOf a.1 b.1) = 0 → ¬ varBad (varOf a.1 b.1) := fun q p => by rw [varE, if_pos p] at q; exact absurd q (by decide)
  refine spec_of_go (N := 21) Try.func55 rfl (by decide) rfl rfl ?_
  refine zB ?_
  refine ar_new tOk rfl rfl rfl ?_ ?_
  · simp
  refine zC ?_
  refine pA ?_
  refine ar_obj [0] (ca) rfl rfl (handed_of rfl rfl (by decide) ⟨rfl, rfl, rfl, trivial⟩) rfl rfl rfl rfl ?_
  rintro _ _ ⟨rfl, rfl⟩
  refine ⟨_, _, rfl, ?_⟩
  refine pA ?_
  refine ar_obj [0] (cb) rfl rfl (handed_of rfl rfl (by decide) ⟨rfl, rfl, rfl, trivial⟩) rfl rfl rfl rfl ?_
  rintro _ _ ⟨rfl, rfl⟩
  refine ⟨_, _, rfl, ?_⟩
  refine ar_pure tOk rfl rfl rfl ?_ ?_
  · simp
  refine ar_new tOk rfl rfl rfl ?_ ?_
  · simp
  refine ar_store tOk rfl rfl rfl trivial ?_
  refine zA ?_
  refine zB ?_
  refine pA ?_
  refine ar_qd rfl (qop_objR [0] (w_Err b.2.1 b.2.2) (by rintro _ _ ⟨rfl, rfl⟩; exact ⟨rfl, rfl⟩) rfl rfl (handed_of rfl rfl (by decide) ⟨rfl, rfl, rfl, trivial⟩) rfl rfl) rfl rfl rfl rfl ?_
  iterate 2 refine pA ?_
  refine ar_guard (t := decide (b.2.2 ≠ 0)) (fun ht => ?_) (fun ht => ?_)
  · refine ar_ent (ent_reg 12 (.r (.bool true)) (by show AVal.r (.bool _) = _; exact eqB ht)) ?_
    have hk := of_decide_eq_true ht
    repeat (first | refine ar_skip rfl rfl rfl ?_ | refine ar_pure tOk rfl rfl rfl trivial ?_)
    refine ar_nil ?_
    refine ag_true rfl (by rfl) ?_
    refine zB ?_
    refine pA ?_
    refine ar_obj [0] (w_ISpoil b.2) rfl rfl (handed_of rfl rfl (by decide) ⟨rfl, rfl, rfl, trivial⟩) rfl rfl rfl rfl ?_
    rintro _ _ ⟨rfl, rfl⟩
    refine ⟨_, _, rfl, ?_⟩
    refine zC ?_
    refine ar_pure tOk rfl rfl rfl ?_ ?_
    · simp
    refine ar_store tOk rfl rfl rfl trivial ?_
    refine ar_nil ?_
    refine ag_retW (v := varA var0) tOk Try.func55 rfl rfl (by first | trivial | exact ⟨trivial, trivial⟩ | simp) (ent_weak (g' := [(0, varA var0)]) (h' := iH (spR b.2).1 (spR b.2).2) [0] rfl rfl rfl rfl ?_ ?_ rfl) ?_
    · exact ⟨⟨rfl, rfl⟩, trivial⟩
    · exact ⟨⟨rfl, rfl, rfl⟩, trivial⟩
    rw [show gVarV a b = _ from by rw [gVarV, if_pos (.inl hk)]]
    exact ⟨rfl, rfl⟩
  · refine ar_ent (ent_reg 12 (.r (.bool false)) (by show AVal.r (.bool _) = _; exact eqB ht)) ?_
    have hk0 := of_decide_eq_false ht
    refine pB ?_
    refine ar_pur (w_Sound (varOf a.1 b.1)) rfl rfl rfl rfl rfl rfl rfl ?_
    iterate 2 refine pA ?_
    refine ar_nil ?_
    refine ag_if rfl ?_ ?_
    · intro h16
      refine zB ?_
      refine pA ?_
      refine ar_obj [0] (w_ISpoil b.2) rfl rfl (handed_of rfl rfl (by decide) ⟨rfl, rfl, rfl, trivial⟩) rfl rfl rfl rfl ?_
      rintro _ _ ⟨rfl, rfl⟩
      refine ⟨_, _, rfl, ?_⟩
      refine zC ?_
      refine ar_pure tOk rfl rfl rfl ?_ ?_
      · simp
      refine ar_store tOk rfl rfl rfl trivial ?_
      refine ar_nil ?_
      refine ag_retW (v := varA var0) tOk Try.func55 rfl rfl (by first | trivial | exact ⟨trivial, trivial⟩ | simp) (ent_weak (g' := [(0, varA var0)]) (h' := iH (spR b.2).1 (spR b.2).2) [0] rfl rfl rfl rfl ?_ ?_ rfl) ?_
      · exact ⟨⟨rfl, rfl⟩, trivial⟩
      · exact ⟨⟨rfl, rfl, rfl⟩, trivial⟩
      rw [show gVarV a b = _ from by rw [gVarV, if_pos (.inr (hbad (by simpa using h16)))]]
      exact ⟨rfl, rfl⟩
    · intro h16
      refine ag_skip ?_
      refine zB ?_
      refine pB ?_
      refine ar_store tOk rfl rfl rfl trivial ?_
      refine ar_nil ?_
      refine ag_retW (v := varA (varOf a.1 b.1)) tOk Try.func55 rfl rfl (by first | trivial | exact ⟨trivial, trivial⟩ | simp) (ent_weak (g' := [(0, varA (varOf a.1 b.1))]) (h' := iH b.2.1 b.2.2) [0] rfl rfl rfl rfl ?_ ?_ rfl) ?_
      · exact ⟨⟨rfl, rfl⟩, trivial⟩
      · exact ⟨⟨rfl, rfl, rfl⟩, trivial⟩
      rw [show gVarV a b = _ from by rw [gVarV, if_neg (by rintro (q | q); exact hk0 q; exact hgood (by simpa using h16) q)]]
      exact ⟨rfl, rfl⟩
end Go.Proofs.Ytnodpljgcdkbkaa


/-
  WALKS: asks. (Printed by gen.py out of w_ask.py.)
-/
import Derived.Test.YtnodpljgcdkbkaaDeal2
import Derived.Test.YtnodpljgcdkbkaaDealB
import Derived.Test.YtnodpljgcdkbkaaCmp
namespace Go.Proofs.Ytnodpljgcdkbkaa
open Go
set_option maxRecDepth 20000
set_option linter.unusedVariables false
set_option linter.unusedSimpArgs false
structure AskV where
  u : Int
  s : Int
  c : Int
  t : Int
  m0 : Int
  m1 : Int
  m2 : Int
  m3 : Int
  id : List UInt8
def askC (a : AskV) : List RVal := [.int .i64 a.u, .int .i64 a.s, .int .i64 a.c, .int .i64 a.t, .int .u64 a.m0, .int .u64 a.m1, .int .u64 a.m2, .int .u64 a.m3, .str a.id]
def askA (a : AskV) : AVal := .agg ((askC a).map .r)
def ask0 : AskV := ⟨0, 0, 0, 0, 0, 0, 0, 0, []⟩
structure AskV.ok (a : AskV) : Prop where
  m0 : U64 a.m0
  m1 : U64 a.m1
  m2 : U64 a.m2
  m3 : U64 a.m3
  id : a.id.length ≤ 140737488351232
def stI (a : AskV) (r : Int) : InvV := ⟨a.u, [114, 111, 111, 116, 114, 111, 111, 116], r, a.s, a.c, a.t, a.id⟩
def amA (a : AskV) : Prop := a.m0 = 0 ∧ a.m1 = 0 ∧ a.m2 = 0 ∧ a.m3 = 0
instance (a : AskV) : Decidable (amA a) := by unfold amA; infer_instance
def askBad (a : AskV) : Prop := amA a ∨ invBad (stI a 2)
instance (a : AskV) : Decidable (askBad a) := by unfold askBad; infer_instance
def askE (a : AskV) : Int := if askBad a then 39 else 0
theorem askE_ne {a : AskV} (h : askE a ≠ 0) : askBad a := by
  by_cases p : askBad a
  · exact p
  · exact absurd (by rw [askE, if_neg p]) h
theorem askE_z {a : AskV} (h : ¬ askE a ≠ 0) : ¬ askBad a := fun p => h (by rw [askE, if_pos p]; decide)
theorem askE_2 {a : AskV} (h : ¬ amA a) : invE (stI a 2) = askE a := by
  by_cases p : invBad (stI a 2)
  · rw [invE, if_pos p, askE, if_pos (.inr p)]
  · rw [invE, if_neg p, askE, if_neg (by rintro (q | q); exact h q; exact p q)]
theorem w_bStand (a : AskV) (r : Int) : Pur Try.prog 59 [askA a, .r (.int .i64 r)] (invA (stI a r)) := by
  refine spec_of_go (N := 17) Try.func59 rfl (by decide) rfl rfl ?_
  refine zB ?_
  refine ar_new tOk rfl rfl rfl trivial ?_
  refine ar_new tOk rfl rfl rfl ?_ ?_
  · simp
  refine zC ?_
  refine pA ?_
  refine pB ?_
  iterate 2 refine pA ?_
  refine pB ?_
  refine pA ?_
  refine pB ?_
  refine pA ?_
  refine pB ?_
  refine pA ?_
  refine pB ?_
  refine ar_pure tOk rfl rfl rfl ?_ ?_
  · simp
  refine ar_store tOk rfl rfl rfl trivial ?_
  refine ar_nil ?_
  refine ag_ret tOk Try.func59 rfl rfl (by first | trivial | exact ⟨trivial, trivial⟩ | simp) ?_
  rfl
theorem w_bAsk (a : AskV) : Pur Try.prog 14 [askA a] (.r (.int .i64 (askE a))) := by
  refine spec_of_go (N := 10) Try.func14 rfl (by decide) rfl rfl ?_
  refine zB ?_
  refine ar_new tOk rfl rfl rfl trivial ?_
  refine pA ?_
  refine zA ?_
  refine zB ?_
  refine pA ?_
  refine pB ?_
  refine ar_pure tOk rfl rfl rfl ?_ ?_
  · simp
  refine pA ?_
  refine ar_nil ?_
  refine ag_cond rfl ?_ ?_
  · intro h6
    have hz : amA a := by unfold amA; simpa using h6
    refine zB ?_
    refine pA ?_
    refine ar_nil ?_
    refine ag_ret tOk Try.func14 rfl rfl (by simp) ?_
    exact eqI (by rw [askE, if_pos (.inl hz)])
  · intro h6
    have hz : ¬ amA a := by unfold amA; simpa using h6
    refine ag_skip ?_
    refine zB ?_
    refine pB ?_
    refine ar_pur (w_bStand a 2) rfl rfl rfl rfl rfl rfl rfl ?_
    refine ar_pur (w_Check (stI a 2)) rfl rfl rfl rfl rfl rfl rfl ?_
    refine pA ?_
    refine ar_nil ?_
    refine ag_ret tOk Try.func14 rfl rfl (by simp) ?_
    exact eqI (askE_2 hz)
def pAsk (w : W) (a : AskV) : W := wtxt (wwid (wnum (wnum (wnum (wnum w a.u) a.s) a.c) a.t) a.m0 a.m1 a.m2 a.m3) a.id
def ask1 (a b c d : Int × W) (e : List UInt8 × W) (f : List UInt8 × W) : AskV := ⟨a.1, b.1, c.1, d.1, fB e.1 24 8, fB e.1 16 8, fB e.1 8 8, fB e.1 0 8, f.1⟩
def gAskV (t : AskV) (r : W) : AskV × W := if r.2 ≠ 0 ∨ askE t ≠ 0 then (ask0, spR r) else (t, r)
def gAsk (w : W) : AskV × W :=
  let a := gNu w M40
  let b := gNu a.2 M40
  let c := gNu b.2 M40
  let d := gNu c.2 M40
  let e := tkR d.2 32
  let f := gTx e.2 16
  gAskV (ask1 a b c d e f) f.2
theorem w_bPut (w : W) (sl : Option (List UInt8)) (tl : List RVal) (hr : oRel w sl tl) (a : AskV) (ha : a.ok) : Spec Try.prog 43 [.ptr 0 0, askA a] (obP sl tl) (fun u h' => ∃ sl' tl', OQ (pAsk w a) u sl' tl' ∧ ObIs sl' tl' h') := by
  refine spec_of_go (N := 30) Try.func43 rfl (by decide) rfl rfl ?_
  refine ag_ent (ent_ob rfl rfl) ?_
  refine zB ?_
  refine ar_new tOk rfl rfl rfl trivial ?_
  refine ar_nil ?_
  refine ag_ent (ent_same (h' := obAt sl tl 0 2 ⟨4, [(3, some (.mixed ((askC a).map .r)))], false⟩) rfl rfl ⟨rfl, rfl, rfl, trivial⟩) ?_
  refine ag_seq ?_
  refine zB ?_
  refine pA ?_
  refine pB ?_
  refine pA ?_
  refine pB ?_
  refine pA ?_
  refine pB ?_
  refine pA ?_
  refine pB ?_
  refine ar_pure tOk rfl rfl rfl ?_ ?_
  · simp
  refine pA ?_
  refine ar_nil ?_
  refine ag_block ?_
  refine ag_unroll ?_
  refine zB ?_
  refine pA ?_
  refine zA ?_
  refine ag_true rfl (by decide) ?_
  refine ag_skip ?_
  refine ag_seq ?_
  refine ag_block ?_
  refine zB ?_
  refine ar_pure tOk rfl rfl rfl ?_ ?_
  · decide
  refine pA ?_
  refine ar_nil ?_
  refine ag_reg ?_
  iterate 2 refine pA ?_
  refine ar_ob (w_ONum _ a.u sl tl hr) rfl rfl (obOk_of rfl) rfl rfl rfl rfl (by intro d hd; cases hd; rfl) ?_
  rintro _ sl tl ⟨rfl, hr⟩
  refine ⟨rfl, ?_⟩
  refine ar_nil ?_
  refine ag_inBlock ?_
  refine ag_reg ?_
  refine ar_pure tOk rfl rfl rfl ?_ ?_
  · unfold inI64; decide
  refine pA ?_
  refine ar_nil ?_
  refine ag_again ?_
  refine zB ?_
  refine pA ?_
  refine zA ?_
  refine ag_true rfl (by decide) ?_
  refine ag_skip ?_
  refine ag_seq ?_
  refine ag_block ?_
  refine zB ?_
  refine ar_pure tOk rfl rfl rfl ?_ ?_
  · decide
  refine pA ?_
  refine ar_nil ?_
  refine ag_reg ?_
  iterate 2 refine pA ?_
  refine ar_ob (w_ONum _ a.s sl tl hr) rfl rfl (obOk_of rfl) rfl rfl rfl rfl (by intro d hd; cases hd; rfl) ?_
  rintro _ sl tl ⟨rfl, hr⟩
  refine ⟨rfl, ?_⟩
  refine ar_nil ?_
  refine ag_inBlock ?_
  refine ag_reg ?_
  refine ar_pure tOk rfl rfl rfl ?_ ?_
  · unfold inI64; decide
  refine pA ?_
  refine ar_nil ?_
  refine ag_again ?_
  refine zB ?_
  refine pA ?_
  refine zA ?_
  refine ag_true rfl (by decide) ?_
  refine ag_skip ?_
  refine ag_seq ?_
  refine ag_block ?_
  refine zB ?_
  refine ar_pure tOk rfl rfl rfl ?_ ?_
  · decide
  refine pA ?_
  refine ar_nil ?_
  refine ag_reg ?_
  iterate 2 refine pA ?_
  refine ar_ob (w_ONum _ a.c sl tl hr) rfl rfl (obOk_of rfl) rfl rfl rfl rfl (by intro d hd; cases hd; rfl) ?_
  rintro _ sl tl ⟨rfl, hr⟩
  refine ⟨rfl, ?_⟩
  refine ar_nil ?_
  refine ag_inBlock ?_
  refine ag_reg ?_
  refine ar_pure tOk rfl rfl rfl ?_ ?_
  · unfold inI64; decide
  refine pA ?_
  refine ar_nil ?_
  refine ag_again ?_
  refine zB ?_
  refine pA ?_
  refine zA ?_
  refine ag_true rfl (by decide) ?_
  refine ag_skip ?_
  refine ag_seq ?_
  refine ag_block ?_
  refine zB ?_
  refine ar_pure tOk rfl rfl rfl ?_ ?_
  · decide
  refine pA ?_
  refine ar_nil ?_
  refine ag_reg ?_
  iterate 2 refine pA ?_
  refine ar_ob (w_ONum _ a.t sl tl hr) rfl rfl (obOk_of rfl) rfl rfl rfl rfl (by intro d hd; cases hd; rfl) ?_
  rintro _ sl tl ⟨rfl, hr⟩
  refine ⟨rfl, ?_⟩
  refine ar_nil ?_
  refine ag_inBlock ?_
  refine ag_reg ?_
  refine ar_pure tOk rfl rfl rfl ?_ ?_
  · unfold inI64; decide
  refine pA ?_
  refine ar_nil ?_
  refine ag_again ?_
  refine zB ?_
  refine pA ?_
  refine zA ?_
  refine ag_false rfl (by decide) ?_
  refine ag_exit rfl ?_
  refine zB ?_
  iterate 2 refine pA ?_
  refine pB ?_
  refine ar_ob (w_OWide _ a.m0 a.m1 a.m2 a.m3 ha.m0 ha.m1 ha.m2 ha.m3 sl tl hr) rfl rfl (obOk_of rfl) rfl rfl rfl rfl (by intro d hd; cases hd; rfl) ?_
  rintro _ sl tl ⟨rfl, hr⟩
  refine ⟨rfl, ?_⟩
  refine ar_nil ?_
  refine ag_reg ?_
  iterate 2 refine pA ?_
  refine pB ?_
  refine ar_ob (w_OText _ a.id ha.id sl tl hr) rfl rfl (obOk_of rfl) rfl rfl rfl rfl (by intro d hd; cases hd; rfl) ?_
  rintro _ sl tl ⟨rfl, hr⟩
  refine ⟨rfl, ?_⟩
  refine ar_nil ?_
  refine ag_end tOk Try.func43 rfl rfl (by simp) ?_
  exact ⟨sl, tl, ⟨rfl, hr⟩, ob_is (by decide) rfl⟩
theorem w_bGet (w : W) : Spec Try.prog 51 [.ptr 0 0] (iH w.1 w.2) (fun u h' => u = askA (gAsk w).1 ∧ h' = iH ((gAsk w).2).1 ((gAsk w).2).2) := by
  obtain ⟨a, ha⟩ : ∃ a, gNu w M40 = a := ⟨_, rfl⟩
  obtain ⟨b, hb⟩ : ∃ b, gNu a.2 M40 = b := ⟨_, rfl⟩
  obtain ⟨c, hc⟩ : ∃ c, gNu b.2 M40 = c := ⟨_, rfl⟩
  obtain ⟨d, hd⟩ : ∃ d, gNu c.2 M40 = d := ⟨_, rfl⟩
  obtain ⟨e, he⟩ : ∃ e, tkR d.2 32 = e := ⟨_, rfl⟩
  obtain ⟨f, hf⟩ : ∃ f, gTx e.2 16 = f := ⟨_, rfl⟩
  have hG : gAsk w = gAskV (ask1 a b c d e f) f.2 := by simp only [gAsk, ha, hb, hc, hd, he, hf]
  rw [hG]
  have ca : Spec Try.prog 50 [.ptr 0 0, .r (.int .i64 1099511627776)] (iH w.1 w.2) (fun u h' => u = .r (.int .i64 a.1) ∧ h' = iH a.2.1 a.2.2) := by rw [← ha]; exact w_INum w 1099511627776
  have cb : Spec Try.prog 50 [.ptr 0 0, .r (.int .i64 1099511627776)] (iH a.2.1 a.2.2) (fun u h' => u = .r (.int .i64 b.1) ∧ h' = iH b.2.1 b.2.2) := by rw [← hb]; exact w_INum a.2 1099511627776
  have cc : Spec Try.prog 50 [.ptr 0 0, .r (.int .i64 1099511627776)] (iH b.2.1 b.2.2) (fun u h' => u = .r (.int .i64 c.1) ∧ h' = iH c.2.1 c.2.2) := by rw [← hc]; exact w_INum b.2 1099511627776
  have cd : Spec Try.prog 50 [.ptr 0 0, .r (.int .i64 1099511627776)] (iH c.2.1 c.2.2) (fun u h' => u = .r (.int .i64 d.1) ∧ h' = iH d.2.1 d.2.2) := by rw [← hd]; exact w_INum c.2 1099511627776
  have ce : Spec Try.prog 52 [.ptr 0 0] (iH d.2.1 d.2.2) (fun u h' => u = wd e.1 ∧ h' = iH e.2.1 e.2.2) := by rw [← he]; exact w_IWide d.2
  have cf : Spec Try.prog 53 [.ptr 0 0, .r (.int .i64 16)] (iH e.2.1 e.2.2) (fun u h' => u = .r (.str f.1) ∧ h' = iH f.2.1 f.2.2) := by rw [← hf]; exact w_IText e.2 16
  clear hG ha hb hc hd he hf
  refine spec_of_go (N := 29) Try.func51 rfl (by decide) rfl rfl ?_
  refine zB ?_
  refine ar_new tOk rfl rfl rfl ?_ ?_
  · simp
  refine zC ?_
  refine pA ?_
  refine ar_obj [0] (ca) rfl rfl (handed_of rfl rfl (by decide) ⟨rfl, rfl, rfl, trivial⟩) rfl rfl rfl rfl ?_
  rintro _ _ ⟨rfl, rfl⟩
  refine ⟨_, _, rfl, ?_⟩
  refine ar_ent (ent_same (h' := ⟨2, [(0, some (.mixed [.r (.bs a.2.1), .r (.int .i64 a.2.2), .r (.bool true)])), (1, some (.mixed ((askC ask0).map .r)))], false⟩) rfl rfl ⟨rfl, rfl, trivial⟩) ?_
  refine pA ?_
  refine ar_obj [0] (cb) rfl rfl (handed_of rfl rfl (by decide) ⟨rfl, rfl, rfl, trivial⟩) rfl rfl rfl rfl ?_
  rintro _ _ ⟨rfl, rfl⟩
  refine ⟨_, _, rfl, ?_⟩
  refine ar_ent (ent_same (h' := ⟨2, [(0, some (.mixed [.r (.bs b.2.1), .r (.int .i64 b.2.2), .r (.bool true)])), (1, some (.mixed ((askC ask0).map .r)))], false⟩) rfl rfl ⟨rfl, rfl, trivial⟩) ?_
  refine pA ?_
  refine ar_obj [0] (cc) rfl rfl (handed_of rfl rfl (by decide) ⟨rfl, rfl, rfl, trivial⟩) rfl rfl rfl rfl ?_
  rintro _ _ ⟨rfl, rfl⟩
  refine ⟨_, _, rfl, ?_⟩
  refine ar_ent (ent_same (h' := ⟨2, [(0, some (.mixed [.r (.bs c.2.1), .r (.int .i64 c.2.2), .r (.bool true)])), (1, some (.mixed ((askC ask0).map .r)))], false⟩) rfl rfl ⟨rfl, rfl, trivial⟩) ?_
  refine pA ?_
  refine ar_obj [0] (cd) rfl rfl (handed_of rfl rfl (by decide) ⟨rfl, rfl, rfl, trivial⟩) rfl rfl rfl rfl ?_
  rintro _ _ ⟨rfl, rfl⟩
  refine ⟨_, _, rfl, ?_⟩
  refine ar_ent (ent_same (h' := ⟨2, [(0, some (.mixed [.r (.bs d.2.1), .r (.int .i64 d.2.2), .r (.bool true)])), (1, some (.mixed ((askC ask0).map .r)))], false⟩) rfl rfl ⟨rfl, rfl, trivial⟩) ?_
  refine pA ?_
  refine ar_obj [0] (ce) rfl rfl (handed_of rfl rfl (by decide) ⟨rfl, rfl, rfl, trivial⟩) rfl rfl rfl rfl ?_
  rintro _ _ ⟨rfl, rfl⟩
  refine ⟨_, _, rfl, ?_⟩
  refine ar_ent (ent_same (h' := ⟨2, [(0, some (.mixed [.r (.bs e.2.1), .r (.int .i64 e.2.2), .r (.bool true)])), (1, some (.mixed ((askC ask0).map .r)))], false⟩) rfl rfl ⟨rfl, rfl, trivial⟩) ?_
  refine pA ?_
  refine ar_obj [0] (cf) rfl rfl (handed_of rfl rfl (by decide) ⟨rfl, rfl, rfl, trivial⟩) rfl rfl rfl rfl ?_
  rintro _ _ ⟨rfl, rfl⟩
  refine ⟨_, _, rfl, ?_⟩
  refine ar_ent (ent_same (h' := ⟨2, [(0, some (.mixed [.r (.bs f.2.1), .r (.int .i64 f.2.2), .r (.bool true)])), (1, some (.mixed ((askC ask0).map .r)))], false⟩) rfl rfl ⟨rfl, rfl, trivial⟩) ?_
  refine ar_pure tOk rfl rfl rfl ?_ ?_
  · simp
  refine ar_new tOk rfl rfl rfl ?_ ?_
  · simp
  refine ar_store tOk rfl rfl rfl trivial ?_
  refine ar_nil ?_
  refine ag_ent (ent_weak (g' := [(0, .ptr 0 0), (2, .ptr 1 0), (3, .ptr 2 0)]) (h' := ⟨3, [(0, some (.mixed [.r (.bs f.2.1), .r (.int .i64 f.2.2), .r (.bool true)])), (1, some (.mixed ((askC ask0).map .r))), (2, some (.mixed ((askC (ask1 a b c d e f)).map .r)))], false⟩) [0, 1, 2] rfl rfl rfl rfl ?_ ?_ rfl) ?_
  · exact ⟨⟨rfl, rfl⟩, ⟨rfl, rfl⟩, ⟨rfl, rfl⟩, trivial⟩
  · exact ⟨⟨rfl, rfl, rfl⟩, ⟨rfl, rfl, rfl⟩, ⟨rfl, rfl, rfl⟩, trivial⟩
  refine ag_seq ?_
  refine zB ?_
  refine pA ?_
  refine ar_qd rfl (qop_objR [0] (w_Err f.2.1 f.2.2) (by rintro _ _ ⟨rfl, rfl⟩; exact ⟨rfl, rfl⟩) rfl rfl (handed_of rfl rfl (by decide) ⟨rfl, rfl, rfl, trivial⟩) rfl rfl) rfl rfl rfl rfl ?_
  iterate 2 refine pA ?_
  refine ar_guard (t := decide (f.2.2 ≠ 0)) (fun ht => ?_) (fun ht => ?_)
  · refine ar_ent (ent_reg 20 (.r (.bool true)) (by show AVal.r (.bool _) = _; exact eqB ht)) ?_
    have hk0 := of_decide_eq_true ht
    repeat (first | refine ar_skip rfl rfl rfl ?_ | refine ar_pure tOk rfl rfl rfl trivial ?_)
    refine ar_nil ?_
    refine ag_true rfl (by rfl) ?_
    refine zB ?_
    refine pA ?_
    refine ar_obj [0] (w_ISpoil f.2) rfl rfl (handed_of rfl rfl (by decide) ⟨rfl, rfl, rfl, trivial⟩) rfl rfl rfl rfl ?_
    rintro _ _ ⟨rfl, rfl⟩
    refine ⟨_, _, rfl, ?_⟩
    refine zC ?_
    refine ar_pure tOk rfl rfl rfl ?_ ?_
    · simp
    refine ar_store tOk rfl rfl rfl trivial ?_
    refine ar_nil ?_
    refine ag_retW (v := askA ask0) tOk Try.func51 rfl rfl (by first | trivial | exact ⟨trivial, trivial⟩ | simp) (ent_weak (g' := [(0, askA ask0)]) (h' := iH (spR f.2).1 (spR f.2).2) [0] rfl rfl rfl rfl ?_ ?_ rfl) ?_
    · exact ⟨⟨rfl, rfl⟩, trivial⟩
    · exact ⟨⟨rfl, rfl, rfl⟩, trivial⟩
    rw [show gAskV (ask1 a b c d e f) f.2 = (ask0, spR f.2) from by rw [gAskV, if_pos (.inl hk0)]]
    exact ⟨rfl, rfl⟩
  · refine ar_ent (ent_reg 20 (.r (.bool false)) (by show AVal.r (.bool _) = _; exact eqB ht)) ?_
    have hk0 := of_decide_eq_false ht
    refine pB ?_
    refine ar_pur (w_bAsk (ask1 a b c d e f)) rfl rfl rfl rfl rfl rfl rfl ?_
    iterate 2 refine pA ?_
    refine ar_nil ?_
    refine ag_if rfl ?_ ?_
    · intro h24
      refine zB ?_
      refine pA ?_
      refine ar_obj [0] (w_ISpoil f.2) rfl rfl (handed_of rfl rfl (by decide) ⟨rfl, rfl, rfl, trivial⟩) rfl rfl rfl rfl ?_
      rintro _ _ ⟨rfl, rfl⟩
      refine ⟨_, _, rfl, ?_⟩
      refine zC ?_
      refine ar_pure tOk rfl rfl rfl ?_ ?_
      · simp
      refine ar_store tOk rfl rfl rfl trivial ?_
      refine ar_nil ?_
      refine ag_retW (v := askA ask0) tOk Try.func51 rfl rfl (by first | trivial | exact ⟨trivial, trivial⟩ | simp) (ent_weak (g' := [(0, askA ask0)]) (h' := iH (spR f.2).1 (spR f.2).2) [0] rfl rfl rfl rfl ?_ ?_ rfl) ?_
      · exact ⟨⟨rfl, rfl⟩, trivial⟩
      · exact ⟨⟨rfl, rfl, rfl⟩, trivial⟩
      rw [show gAskV (ask1 a b c d e f) f.2 = (ask0, spR f.2) from by rw [gAskV, if_pos (.inr (by simpa using h24))]]
      exact ⟨rfl, rfl⟩
    · intro h24
      refine ag_ent (ent_weak (g' := [(0, .ptr 0 0), (2, .ptr 1 0), (3, .ptr 2 0)]) (h' := ⟨3, [(0, some (.mixed [.r (.bs f.2.1), .r (.int .i64 f.2.2), .r (.bool true)])), (1, some (.mixed ((askC ask0).map .r))), (2, some (.mixed ((askC (ask1 a b c d e f)).map .r)))], false⟩) [0, 1, 2] rfl rfl rfl rfl ?_ ?_ rfl) ?_
      · exact ⟨⟨rfl, rfl⟩, ⟨rfl, rfl⟩, ⟨rfl, rfl⟩, trivial⟩
      · exact ⟨⟨rfl, rfl, rfl⟩, ⟨rfl, rfl, rfl⟩, ⟨rfl, rfl, rfl⟩, trivial⟩
      refine ag_skip ?_
      refine zB ?_
      refine pB ?_
      refine ar_store tOk rfl rfl rfl trivial ?_
      refine ar_nil ?_
      refine ag_retW (v := askA (ask1 a b c d e f)) tOk Try.func51 rfl rfl (by first | trivial | exact ⟨trivial, trivial⟩ | simp) (ent_weak (g' := [(0, askA (ask1 a b c d e f))]) (h' := iH f.2.1 f.2.2) [0] rfl rfl rfl rfl ?_ ?_ rfl) ?_
      · exact ⟨⟨rfl, rfl⟩, trivial⟩
      · exact ⟨⟨rfl, rfl, rfl⟩, trivial⟩
      rw [show gAskV (ask1 a b c d e f) f.2 = ((ask1 a b c d e f), f.2) from by rw [gAskV, if_neg (by rintro (q | q); exact hk0 q; exact q (by simpa using h24))]]
      exact ⟨rfl, rfl⟩
end Go.Proofs.Ytnodpljgcdkbkaa


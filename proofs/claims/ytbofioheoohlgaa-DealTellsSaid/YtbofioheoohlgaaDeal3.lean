/-
  WALKS: keys, digests and payloads of transfers. (Printed by gen.py out of w_deal3.py.)
-/
import Derived.Test.YtbofioheoohlgaaDeal2
import Derived.Test.YtbofioheoohlgaaHTxt
namespace Go.Proofs.Ytbofioheoohlgaa
open Go
set_option maxRecDepth 20000
set_option linter.unusedVariables false
set_option linter.unusedSimpArgs false

def keyL (v : InvV) : List UInt8 := if invBad v then [] else sha (pInv ([], 0) v).1
def digL7 (v : InvV) (u : VarV) : List UInt8 := if invBad v ∨ varBad u then [] else sha (pVar (wtxt ([], 0) (keyL v)) u).1
def payW (a : Int) (k : List UInt8) (x0 x1 x2 x3 : Int) : W := wwid (wtxt (wnum (wtxt ([], 0) [97, 99, 116]) a) k) x0 x1 x2 x3
def payL (a : Int) (k : List UInt8) (x0 x1 x2 x3 : Int) : List UInt8 := if a < 1 ∨ a > 2 ∨ k.length ≠ 32 then [] else (payW a k x0 x1 x2 x3).1
theorem keyL_le (v : InvV) : (keyL v).length ≤ 32 := by unfold keyL; split; simp; rw [sha_length]; omega
theorem keyL_len {v : InvV} (h : ¬ invBad v) : (keyL v).length = 32 := by rw [keyL, if_neg h, sha_length]
theorem invE_ne {v : InvV} (h : invE v ≠ 0) : invBad v := by
  by_cases p : invBad v
  · exact p
  · exact absurd (by rw [invE, if_neg p]) h
theorem invE_z {v : InvV} (h : ¬ invE v ≠ 0) : ¬ invBad v := fun p => h (by rw [invE, if_pos p]; decide)
theorem varE_ne {v : VarV} (h : varE v ≠ 0) : varBad v := by
  by_cases p : varBad v
  · exact p
  · exact absurd (by rw [varE, if_neg p]) h
theorem varE_z {v : VarV} (h : ¬ varE v ≠ 0) : ¬ varBad v := fun p => h (by rw [varE, if_pos p]; decide)
theorem sha_eq1 (b : List UInt8) : sha [b].flatten = sha b := by simp

theorem w_dKey (v : InvV) (hv : v.ok) : Pur Try.prog 18 [invA v] (.r (.str (keyL v))) := by
  obtain ⟨B, hB⟩ : ∃ B, (pInv ([], 0) v).1 = B := ⟨_, rfl⟩
  have hBl : B.length ≤ 8192 := by rw [← hB]; exact (wok_inv wok0).1
  refine spec_of_go (N := 21) Try.func18 rfl (by decide) rfl rfl ?_
  refine ag_seq ?_
  refine ag_reg ?_
  refine ar_new tOk rfl rfl rfl trivial ?_
  refine ar_pure tOk rfl rfl rfl trivial ?_
  refine ar_nil ?_
  refine ag_seq ?_
  refine ag_seq ?_
  refine ag_reg ?_
  refine ar_load tOk rfl rfl rfl trivial ?_
  refine ar_pur (w_Check v) rfl rfl rfl rfl rfl rfl rfl ?_
  refine ar_pure tOk rfl rfl rfl trivial ?_
  refine ar_nil ?_
  refine ag_if rfl ?_ ?_
  · intro h8
    have hbad := invE_ne h8
    refine ag_seq ?_
    refine ag_reg ?_
    refine ar_pure tOk rfl rfl rfl trivial ?_
    refine ar_nil ?_
    refine ag_ret tOk Try.func18 rfl rfl (by simp) ?_
    exact eqStr (by rw [keyL, if_pos hbad])
  · intro h8
    have hgood := invE_z h8
    refine ag_skip ?_
    refine ag_seq ?_
    refine ag_reg ?_
    refine ar_obj [] (w_NewO) rfl rfl (handed_of rfl rfl (by decide) trivial) rfl rfl rfl rfl ?_
    rintro _ _ ⟨rfl, rfl⟩
    refine ⟨_, _, rfl, ?_⟩
    refine ar_pure tOk rfl rfl rfl trivial ?_
    refine ar_nil ?_
    refine ag_ent ent_dead ?_
    refine ag_ent (ent_same (h' := obAt none [.int .i64 0, .bool true] 1 2 ⟨3, [(0, some (.mixed ((invC v).map .r)))], false⟩) rfl rfl ⟨rfl, rfl, rfl, trivial⟩) ?_
    refine ag_seq ?_
    refine ag_reg ?_
    refine ar_pure tOk rfl rfl rfl trivial ?_
    refine ar_load tOk rfl rfl rfl trivial ?_
    refine ar_ob (w_dPut ([], 0) none [.int .i64 0, .bool true] oRel0 v hv) rfl rfl rfl rfl rfl rfl rfl (by intro d hd; cases hd; rfl) ?_
    rintro _ sl tl ⟨rfl, hr⟩
    refine ⟨rfl, ?_⟩
    refine ar_nil ?_
    refine ag_seq ?_
    refine ag_reg ?_
    refine ar_pure tOk rfl rfl rfl trivial ?_
    refine ar_ob (w_ODone _ sl tl hr) rfl rfl rfl rfl rfl rfl rfl (by intro d hd; cases hd; rfl) ?_
    rintro _ sl tl ⟨rfl, hr⟩
    refine ⟨rfl, ?_⟩
    refine ar_pure tOk rfl rfl rfl trivial ?_
    refine ar_pure tOk rfl rfl rfl trivial ?_
    refine ar_pure tOk rfl rfl rfl trivial ?_
    refine ar_pure tOk rfl rfl rfl trivial ?_
    refine ar_pure tOk rfl rfl rfl trivial ?_
    refine ar_nil ?_
    refine ag_seq ?_
    refine ag_reg ?_
    refine ar_pure tOk rfl rfl rfl trivial ?_
    refine ar_qd rfl (qop_buildRo tOk rfl ?_ rfl) rfl rfl rfl rfl ?_
    · repeat any_goals (first | trivial | decide | omega | (simp; done) | (rw [wu8]; omega) | refine ⟨?_, ?_⟩)
    refine ar_pur (w_Text [(pInv ([], 0) v).1] (by simp) (by rw [hB]; simp; omega)) rfl rfl rfl rfl rfl rfl rfl ?_
    refine ar_ent (ent_reg 20 (.r (.str (sha (pInv ([], 0) v).1))) (by show AVal.r (.str _) = _; exact eqStr (sha_eq1 _))) ?_
    refine ar_pure tOk rfl rfl rfl trivial ?_
    refine ar_nil ?_
    refine ag_ret tOk Try.func18 rfl rfl (by simp) ?_
    exact eqStr (by rw [keyL, if_neg hgood])

theorem w_rKey (v : InvV) : Pur Try.prog 19 [invA v] (.r (.str (keyL v))) := by
  obtain ⟨B, hB⟩ : ∃ B, (pInv ([], 0) v).1 = B := ⟨_, rfl⟩
  have hBl : B.length ≤ 8192 := by rw [← hB]; exact (wok_inv wok0).1
  have hP : Pur Try.prog 36 [.agg [.r .nil, .r (.int .i64 0)], invA v] (wV (pInv ([], 0) v)) := Spec.args (w_rPutInv ([], 0) wok0 v) (fun R μ w cs h => by simp only [ARels] at h ⊢; obtain ⟨c, r, rfl, h1, h2⟩ := h; exact ⟨c, r, rfl, nil_agg h1, h2⟩)
  refine spec_of_go (N := 12) Try.func19 rfl (by decide) rfl rfl ?_
  refine ag_seq ?_
  refine ag_reg ?_
  refine ar_new tOk rfl rfl rfl trivial ?_
  refine ar_pure tOk rfl rfl rfl trivial ?_
  refine ar_nil ?_
  refine ag_seq ?_
  refine ag_seq ?_
  refine ag_reg ?_
  refine ar_load tOk rfl rfl rfl trivial ?_
  refine ar_pur (w_rInv v) rfl rfl rfl rfl rfl rfl rfl ?_
  refine ar_pure tOk rfl rfl rfl trivial ?_
  refine ar_nil ?_
  refine ag_if rfl ?_ ?_
  · intro h5
    have hbad := invE_ne h5
    refine ag_seq ?_
    refine ag_reg ?_
    refine ar_pure tOk rfl rfl rfl trivial ?_
    refine ar_nil ?_
    refine ag_ret tOk Try.func19 rfl rfl (by simp) ?_
    exact eqStr (by rw [keyL, if_pos hbad])
  · intro h5
    have hgood := invE_z h5
    refine ag_skip ?_
    refine ag_seq ?_
    refine ag_reg ?_
    refine ar_pure tOk rfl rfl rfl ?_ ?_
    · simp
    refine ar_load tOk rfl rfl rfl trivial ?_
    refine ar_pur (hP) rfl rfl rfl rfl rfl rfl rfl ?_
    refine ar_pure tOk rfl rfl rfl trivial ?_
    refine ar_pur (w_rSum (pInv ([], 0) v).1 (by rw [hB]; omega)) rfl rfl rfl rfl rfl rfl rfl ?_
    refine ar_pure tOk rfl rfl rfl trivial ?_
    refine ar_pure tOk rfl rfl rfl trivial ?_
    refine ar_nil ?_
    refine ag_ret tOk Try.func19 rfl rfl (by simp) ?_
    exact eqStr (by rw [keyL, if_neg hgood])

theorem digL7_no {v : InvV} {u : VarV} (h : keyL v = [] ∨ varBad u) : digL7 v u = [] := by
  unfold digL7
  by_cases p : invBad v
  · rw [if_pos (.inl p)]
  · rcases h with h | h
    · have := keyL_len p; rw [h] at this; simp at this
    · rw [if_pos (.inr h)]
theorem digL7_yes {v : InvV} {u : VarV} (h1 : keyL v ≠ []) (h2 : ¬ varBad u) : digL7 v u = sha (pVar (wtxt ([], 0) (keyL v)) u).1 := by
  unfold digL7
  rw [if_neg]
  rintro (p | p)
  · exact h1 (by rw [keyL, if_pos p])
  · exact h2 p

theorem w_dDig (v : InvV) (hv : v.ok) (u : VarV) (hu : u.ok) : Pur Try.prog 20 [invA v, varA u] (.r (.str (digL7 v u))) := by
  obtain ⟨B, hB⟩ : ∃ B, (pVar (wtxt ([], 0) (keyL v)) u).1 = B := ⟨_, rfl⟩
  have hBl : B.length ≤ 8192 := by rw [← hB]; exact (wok_var (wok_txt wok0)).1
  have hKl := keyL_le v
  refine spec_of_go (N := 33) Try.func20 rfl (by decide) rfl rfl ?_
  refine ag_seq ?_
  refine ag_reg ?_
  refine ar_new tOk rfl rfl rfl trivial ?_
  refine ar_new tOk rfl rfl rfl trivial ?_
  refine ar_pure tOk rfl rfl rfl trivial ?_
  refine ar_nil ?_
  refine ag_seq ?_
  refine ag_reg ?_
  refine ar_load tOk rfl rfl rfl trivial ?_
  refine ar_pur (w_dKey v hv) rfl rfl rfl rfl rfl rfl rfl ?_
  refine ar_pure tOk rfl rfl rfl trivial ?_
  refine ar_nil ?_
  refine ag_seq ?_
  refine ag_seq ?_
  refine ag_reg ?_
  refine ar_pure tOk rfl rfl rfl trivial ?_
  refine ar_pure tOk rfl rfl rfl trivial ?_
  refine ar_pure tOk rfl rfl rfl trivial ?_
  refine ar_guard (t := decide (keyL v = [])) (fun ht => ?_) (fun ht => ?_)
  · refine ar_ent (ent_reg 13 (.r (.bool true)) (by show AVal.r (.bool _) = _; exact eqB ht)) ?_
    have hk := of_decide_eq_true ht
    repeat (first | refine ar_skip rfl rfl rfl ?_ | refine ar_pure tOk rfl rfl rfl trivial ?_)
    refine ar_nil ?_
    refine ag_true rfl (by rfl) ?_
    refine ag_seq ?_
    refine ag_reg ?_
    refine ar_pure tOk rfl rfl rfl trivial ?_
    refine ar_nil ?_
    refine ag_ret tOk Try.func20 rfl rfl (by simp) ?_
    exact eqStr (digL7_no (.inl hk)).symm
  · refine ar_ent (ent_reg 13 (.r (.bool false)) (by show AVal.r (.bool _) = _; exact eqB ht)) ?_
    have hk0 := of_decide_eq_false ht
    refine ar_load tOk rfl rfl rfl trivial ?_
    refine ar_pur (w_Sound u) rfl rfl rfl rfl rfl rfl rfl ?_
    refine ar_pure tOk rfl rfl rfl trivial ?_
    refine ar_pure tOk rfl rfl rfl trivial ?_
    refine ar_nil ?_
    refine ag_if rfl ?_ ?_
    · intro h17
      have hbad := varE_ne h17
      refine ag_seq ?_
      refine ag_reg ?_
      refine ar_pure tOk rfl rfl rfl trivial ?_
      refine ar_nil ?_
      refine ag_ret tOk Try.func20 rfl rfl (by simp) ?_
      exact eqStr (digL7_no (.inr hbad)).symm
    · intro h17
      have hgood := varE_z h17
      refine ag_skip ?_
      refine ag_seq ?_
      refine ag_reg ?_
      refine ar_obj [] (w_NewO) rfl rfl (handed_of rfl rfl (by decide) trivial) rfl rfl rfl rfl ?_
      rintro _ _ ⟨rfl, rfl⟩
      refine ⟨_, _, rfl, ?_⟩
      refine ar_pure tOk rfl rfl rfl trivial ?_
      refine ar_nil ?_
      refine ag_ent ent_dead ?_
      refine ag_ent (ent_same (h' := obAt none [.int .i64 0, .bool true] 2 3 ⟨4, [(0, some (.mixed ((invC v).map .r))), (1, some (.mixed ((varC u).map .r)))], false⟩) rfl rfl ⟨rfl, rfl, rfl, rfl, trivial⟩) ?_
      refine ag_seq ?_
      refine ag_reg ?_
      refine ar_pure tOk rfl rfl rfl trivial ?_
      refine ar_pure tOk rfl rfl rfl trivial ?_
      refine ar_ob (w_OText ([], 0) (keyL v) (by omega) none [.int .i64 0, .bool true] oRel0) rfl rfl rfl rfl rfl rfl rfl (by intro d hd; cases hd; rfl) ?_
      rintro _ sl tl ⟨rfl, hr⟩
      refine ⟨rfl, ?_⟩
      refine ar_nil ?_
      refine ag_seq ?_
      refine ag_reg ?_
      refine ar_pure tOk rfl rfl rfl trivial ?_
      refine ar_load tOk rfl rfl rfl trivial ?_
      refine ar_ob (w_dPutVar _ sl tl hr u hu) rfl rfl rfl rfl rfl rfl rfl (by intro d hd; cases hd; rfl) ?_
      rintro _ sl tl ⟨rfl, hr⟩
      refine ⟨rfl, ?_⟩
      refine ar_nil ?_
      refine ag_seq ?_
      refine ag_reg ?_
      refine ar_pure tOk rfl rfl rfl trivial ?_
      refine ar_ob (w_ODone _ sl tl hr) rfl rfl rfl rfl rfl rfl rfl (by intro d hd; cases hd; rfl) ?_
      rintro _ sl tl ⟨rfl, hr⟩
      refine ⟨rfl, ?_⟩
      refine ar_pure tOk rfl rfl rfl trivial ?_
      refine ar_pure tOk rfl rfl rfl trivial ?_
      refine ar_pure tOk rfl rfl rfl trivial ?_
      refine ar_pure tOk rfl rfl rfl trivial ?_
      refine ar_pure tOk rfl rfl rfl trivial ?_
      refine ar_nil ?_
      refine ag_seq ?_
      refine ag_reg ?_
      refine ar_pure tOk rfl rfl rfl trivial ?_
      refine ar_qd rfl (qop_buildRo tOk rfl ?_ rfl) rfl rfl rfl rfl ?_
      · repeat any_goals (first | trivial | decide | omega | (simp; done) | (rw [wu8]; omega) | refine ⟨?_, ?_⟩)
      refine ar_pur (w_Text [(pVar (wtxt ([], 0) (keyL v)) u).1] (by simp) (by rw [hB]; simp; omega)) rfl rfl rfl rfl rfl rfl rfl ?_
      refine ar_ent (ent_reg 32 (.r (.str (sha (pVar (wtxt ([], 0) (keyL v)) u).1))) (by show AVal.r (.str _) = _; exact eqStr (sha_eq1 _))) ?_
      refine ar_pure tOk rfl rfl rfl trivial ?_
      refine ar_nil ?_
      refine ag_ret tOk Try.func20 rfl rfl (by simp) ?_
      exact eqStr (digL7_yes hk0 hgood).symm

theorem w_rDig (v : InvV) (hv : v.ok) (u : VarV) (hu : u.ok) : Pur Try.prog 21 [invA v, varA u] (.r (.str (digL7 v u))) := by
  obtain ⟨B, hB⟩ : ∃ B, (pVar (wtxt ([], 0) (keyL v)) u).1 = B := ⟨_, rfl⟩
  have hBl : B.length ≤ 8192 := by rw [← hB]; exact (wok_var (wok_txt wok0)).1
  have hT : Pur Try.prog 56 [.agg [.r .nil, .r (.int .i64 0)], .r (.str (keyL v))] (wV (wtxt ([], 0) (keyL v))) := Spec.args (w_rTextC ([], 0) (keyL v) wok0) (fun R μ w cs h => by simp only [ARels] at h ⊢; obtain ⟨c, r, rfl, h1, h2⟩ := h; exact ⟨c, r, rfl, nil_agg h1, h2⟩)
  refine spec_of_go (N := 22) Try.func21 rfl (by decide) rfl rfl ?_
  refine ag_seq ?_
  refine ag_reg ?_
  refine ar_new tOk rfl rfl rfl trivial ?_
  refine ar_new tOk rfl rfl rfl trivial ?_
  refine ar_pure tOk rfl rfl rfl trivial ?_
  refine ar_nil ?_
  refine ag_seq ?_
  refine ag_seq ?_
  refine ag_reg ?_
  refine ar_load tOk rfl rfl rfl trivial ?_
  refine ar_pur (w_rInv v) rfl rfl rfl rfl rfl rfl rfl ?_
  refine ar_pure tOk rfl rfl rfl trivial ?_
  refine ar_pure tOk rfl rfl rfl trivial ?_
  refine ar_guard (t := decide (invE v ≠ 0)) (fun ht => ?_) (fun ht => ?_)
  · refine ar_ent (ent_reg 8 (.r (.bool true)) (by show AVal.r (.bool _) = _; exact eqB ht)) ?_
    have hk := invE_ne (of_decide_eq_true ht)
    repeat (first | refine ar_skip rfl rfl rfl ?_ | refine ar_pure tOk rfl rfl rfl trivial ?_)
    refine ar_nil ?_
    refine ag_true rfl (by rfl) ?_
    refine ag_seq ?_
    refine ag_reg ?_
    refine ar_pure tOk rfl rfl rfl trivial ?_
    refine ar_nil ?_
    refine ag_ret tOk Try.func21 rfl rfl (by simp) ?_
    exact eqStr (by rw [digL7, if_pos (.inl hk)])
  · refine ar_ent (ent_reg 8 (.r (.bool false)) (by show AVal.r (.bool _) = _; exact eqB ht)) ?_
    have hk0 := invE_z (of_decide_eq_false ht)
    refine ar_load tOk rfl rfl rfl trivial ?_
    refine ar_pur (w_rVar u) rfl rfl rfl rfl rfl rfl rfl ?_
    refine ar_pure tOk rfl rfl rfl trivial ?_
    refine ar_pure tOk rfl rfl rfl trivial ?_
    refine ar_nil ?_
    refine ag_if rfl ?_ ?_
    · intro h12
      have hbad := varE_ne h12
      refine ag_seq ?_
      refine ag_reg ?_
      refine ar_pure tOk rfl rfl rfl trivial ?_
      refine ar_nil ?_
      refine ag_ret tOk Try.func21 rfl rfl (by simp) ?_
      exact eqStr (by rw [digL7, if_pos (.inr hbad)])
    · intro h12
      have hgood := varE_z h12
      refine ag_skip ?_
      refine ag_seq ?_
      refine ag_draw0 (by kernel_rfl) (by kernel_rfl) ?_
      refine aq_pure tOk rfl rfl rfl ?_ ?_
      · simp
      refine aq_load0 tOk rfl (by kernel_rfl) rfl rfl trivial ?_
      refine aq_pur (w_rKey v) rfl rfl rfl rfl rfl rfl rfl ?_
      refine aq_pur (hT) rfl rfl rfl rfl rfl rfl rfl ?_
      refine aq_load0 tOk rfl (by kernel_rfl) rfl rfl trivial ?_
      refine aq_pur (w_rPutVar _ (wok_txt wok0) u hu) rfl rfl rfl rfl rfl rfl rfl ?_
      refine aq_pure tOk rfl rfl rfl trivial ?_
      refine aq_pur (w_rSum (pVar (wtxt ([], 0) (keyL v)) u).1 (by rw [hB]; omega)) rfl rfl rfl rfl rfl rfl rfl ?_
      refine aq_pure tOk rfl rfl rfl trivial ?_
      refine aq_pure tOk rfl rfl rfl trivial ?_
      refine aq_nil rfl ?_
      refine ag_ret tOk Try.func21 rfl rfl (by simp) ?_
      exact eqStr (by rw [digL7, if_neg (by rintro (q | q); exact hk0 q; exact hgood q)])

theorem w_dPay (a : Int) (k : List UInt8) (hk : k.length ≤ 140737488351232) (x0 x1 x2 x3 : Int) (h0 : U64 x0) (h1 : U64 x1) (h2 : U64 x2) (h3 : U64 x3) : Pur Try.prog 12 [.r (.int .i64 a), .r (.str k), wA x0 x1 x2 x3] (.r (.bs (payL a k x0 x1 x2 x3))) := by
  refine spec_of_go (N := 36) Try.func12 rfl (by decide) rfl rfl ?_
  refine ag_seq ?_
  refine ag_reg ?_
  refine ar_new tOk rfl rfl rfl trivial ?_
  refine ar_pure tOk rfl rfl rfl trivial ?_
  refine ar_nil ?_
  refine ag_seq ?_
  refine ag_seq ?_
  refine ag_reg ?_
  refine ar_pure tOk rfl rfl rfl trivial ?_
  refine ar_pur (w_inD _ _ _) rfl rfl rfl rfl rfl rfl rfl ?_
  refine ar_pure tOk rfl rfl rfl trivial ?_
  refine ar_pure tOk rfl rfl rfl trivial ?_
  refine ar_guard (t := !decide (1 ≤ a ∧ a ≤ 2)) (fun ht => ?_) (fun ht => ?_)
  · refine ar_ent (ent_reg 13 (.r (.bool true)) (by show AVal.r (.bool _) = _; exact eqB ht)) ?_
    have hq : a < 1 ∨ a > 2 := by simp at ht; omega
    repeat (first | refine ar_skip rfl rfl rfl ?_ | refine ar_pure tOk rfl rfl rfl trivial ?_)
    refine ar_nil ?_
    refine ag_true rfl (by rfl) ?_
    refine ag_seq ?_
    refine ag_reg ?_
    refine ar_pure tOk rfl rfl rfl trivial ?_
    refine ar_nil ?_
    refine ag_ent (ent_nil 6 (.bs []) rfl (.inl rfl)) ?_
    refine ag_ret tOk Try.func12 rfl rfl (by simp) ?_
    exact eqBsv (by rw [payL, if_pos (by omega)])
  · refine ar_ent (ent_reg 13 (.r (.bool false)) (by show AVal.r (.bool _) = _; exact eqB ht)) ?_
    have hq0 : 1 ≤ a ∧ a ≤ 2 := by simp at ht; omega
    refine ar_pure tOk rfl rfl rfl trivial ?_
    refine ar_pure tOk rfl rfl rfl trivial ?_
    refine ar_pure tOk rfl rfl rfl trivial ?_
    refine ar_pure tOk rfl rfl rfl trivial ?_
    refine ar_nil ?_
    refine ag_if rfl ?_ ?_
    · intro h17
      have hl : k.length ≠ 32 := by omega
      refine ag_seq ?_
      refine ag_reg ?_
      refine ar_pure tOk rfl rfl rfl trivial ?_
      refine ar_nil ?_
      refine ag_ent (ent_nil 6 (.bs []) rfl (.inl rfl)) ?_
      refine ag_ret tOk Try.func12 rfl rfl (by simp) ?_
      exact eqBsv (by rw [payL, if_pos (by omega)])
    · intro h17
      have hl : k.length = 32 := by omega
      refine ag_skip ?_
      refine ag_seq ?_
      refine ag_reg ?_
      refine ar_obj [] (w_NewO) rfl rfl (handed_of rfl rfl (by decide) trivial) rfl rfl rfl rfl ?_
      rintro _ _ ⟨rfl, rfl⟩
      refine ⟨_, _, rfl, ?_⟩
      refine ar_pure tOk rfl rfl rfl trivial ?_
      refine ar_nil ?_
      refine ag_ent ent_dead ?_
      refine ag_ent (ent_same (h' := obAt none [.int .i64 0, .bool true] 1 2 ⟨3, [(0, some (.mixed [.r (.int .u64 x0), .r (.int .u64 x1), .r (.int .u64 x2), .r (.int .u64 x3)]))], false⟩) rfl rfl ⟨rfl, rfl, rfl, trivial⟩) ?_
      refine ag_seq ?_
      refine ag_reg ?_
      refine ar_pure tOk rfl rfl rfl trivial ?_
      refine ar_ob (w_OText ([], 0) [97, 99, 116] (by decide) none [.int .i64 0, .bool true] oRel0) rfl rfl rfl rfl rfl rfl rfl (by intro d hd; cases hd; rfl) ?_
      rintro _ sl tl ⟨rfl, hr⟩
      refine ⟨rfl, ?_⟩
      refine ar_nil ?_
      refine ag_seq ?_
      refine ag_reg ?_
      refine ar_pure tOk rfl rfl rfl trivial ?_
      refine ar_pure tOk rfl rfl rfl trivial ?_
      refine ar_ob (w_ONum _ a sl tl hr) rfl rfl rfl rfl rfl rfl rfl (by intro d hd; cases hd; rfl) ?_
      rintro _ sl tl ⟨rfl, hr⟩
      refine ⟨rfl, ?_⟩
      refine ar_nil ?_
      refine ag_seq ?_
      refine ag_reg ?_
      refine ar_pure tOk rfl rfl rfl trivial ?_
      refine ar_pure tOk rfl rfl rfl trivial ?_
      refine ar_ob (w_OText _ k hk sl tl hr) rfl rfl rfl rfl rfl rfl rfl (by intro d hd; cases hd; rfl) ?_
      rintro _ sl tl ⟨rfl, hr⟩
      refine ⟨rfl, ?_⟩
      refine ar_nil ?_
      refine ag_seq ?_
      refine ag_reg ?_
      refine ar_pure tOk rfl rfl rfl trivial ?_
      refine ar_load tOk rfl rfl rfl trivial ?_
      refine ar_ob (w_OWide _ x0 x1 x2 x3 h0 h1 h2 h3 sl tl hr) rfl rfl rfl rfl rfl rfl rfl (by intro d hd; cases hd; rfl) ?_
      rintro _ sl tl ⟨rfl, hr⟩
      refine ⟨rfl, ?_⟩
      refine ar_nil ?_
      refine ag_seq ?_
      refine ag_reg ?_
      refine ar_pure tOk rfl rfl rfl trivial ?_
      refine ar_ob (w_ODone _ sl tl hr) rfl rfl rfl rfl rfl rfl rfl (by intro d hd; cases hd; rfl) ?_
      rintro _ sl tl ⟨rfl, hr⟩
      refine ⟨rfl, ?_⟩
      refine ar_pure tOk rfl rfl rfl trivial ?_
      refine ar_pure tOk rfl rfl rfl trivial ?_
      refine ar_pure tOk rfl rfl rfl trivial ?_
      refine ar_pure tOk rfl rfl rfl trivial ?_
      refine ar_pure tOk rfl rfl rfl trivial ?_
      refine ar_nil ?_
      refine ag_seq ?_
      refine ag_reg ?_
      refine ar_pure tOk rfl rfl rfl trivial ?_
      refine ar_pure tOk rfl rfl rfl trivial ?_
      refine ar_nil ?_
      refine ag_ret tOk Try.func12 rfl rfl (by simp) ?_
      exact eqBsv (by rw [payL, if_neg (by omega)]; rfl)

theorem w_rPay (a : Int) (k : List UInt8) (hk : k.length ≤ 140737488351232) (x0 x1 x2 x3 : Int) (h0 : U64 x0) (h1 : U64 x1) (h2 : U64 x2) (h3 : U64 x3) : Pur Try.prog 22 [.r (.int .i64 a), .r (.str k), wA x0 x1 x2 x3] (.r (.bs (payL a k x0 x1 x2 x3))) := by
  have hT : Pur Try.prog 56 [.agg [.r .nil, .r (.int .i64 0)], .r (.str [97, 99, 116])] (wV (wtxt ([], 0) [97, 99, 116])) := Spec.args (w_rTextC ([], 0) [97, 99, 116] wok0) (fun R μ w cs h => by simp only [ARels] at h ⊢; obtain ⟨c, r, rfl, h1, h2⟩ := h; exact ⟨c, r, rfl, nil_agg h1, h2⟩)
  refine spec_of_go (N := 27) Try.func22 rfl (by decide) rfl rfl ?_
  refine ag_seq ?_
  refine ag_reg ?_
  refine ar_new tOk rfl rfl rfl trivial ?_
  refine ar_pure tOk rfl rfl rfl trivial ?_
  refine ar_nil ?_
  refine ag_seq ?_
  refine ag_seq ?_
  refine ag_reg ?_
  refine ar_pure tOk rfl rfl rfl trivial ?_
  refine ar_pure tOk rfl rfl rfl trivial ?_
  refine ar_pure tOk rfl rfl rfl trivial ?_
  refine ar_guard (t := decide (a < 1)) (fun ht => ?_) (fun ht => ?_)
  · refine ar_ent (ent_reg 9 (.r (.bool true)) (by show AVal.r (.bool _) = _; exact eqB ht)) ?_
    have hq : a < 1 ∨ a > 2 := .inl (of_decide_eq_true ht)
    repeat (first | refine ar_skip rfl rfl rfl ?_ | refine ar_pure tOk rfl rfl rfl trivial ?_)
    refine ar_nil ?_
    refine ag_true rfl (by rfl) ?_
    refine ag_seq ?_
    refine ag_reg ?_
    refine ar_pure tOk rfl rfl rfl trivial ?_
    refine ar_nil ?_
    refine ag_ent (ent_nil 6 (.bs []) rfl (.inl rfl)) ?_
    refine ag_ret tOk Try.func22 rfl rfl (by simp) ?_
    exact eqBsv (by rw [payL, if_pos (by omega)])
  · refine ar_ent (ent_reg 9 (.r (.bool false)) (by show AVal.r (.bool _) = _; exact eqB ht)) ?_
    have hq0 := of_decide_eq_false ht
    refine ar_pure tOk rfl rfl rfl trivial ?_
    refine ar_pure tOk rfl rfl rfl trivial ?_
    refine ar_pure tOk rfl rfl rfl trivial ?_
    refine ar_pure tOk rfl rfl rfl trivial ?_
    refine ar_guard (t := decide (a > 2)) (fun ht => ?_) (fun ht => ?_)
    · refine ar_ent (ent_reg 13 (.r (.bool true)) (by show AVal.r (.bool _) = _; exact eqB ht)) ?_
      have hq : a < 1 ∨ a > 2 := .inr (of_decide_eq_true ht)
      repeat (first | refine ar_skip rfl rfl rfl ?_ | refine ar_pure tOk rfl rfl rfl trivial ?_)
      refine ar_nil ?_
      refine ag_true rfl (by rfl) ?_
      refine ag_seq ?_
      refine ag_reg ?_
      refine ar_pure tOk rfl rfl rfl trivial ?_
      refine ar_nil ?_
      refine ag_ent (ent_nil 6 (.bs []) rfl (.inl rfl)) ?_
      refine ag_ret tOk Try.func22 rfl rfl (by simp) ?_
      exact eqBsv (by rw [payL, if_pos (by omega)])
    · refine ar_ent (ent_reg 13 (.r (.bool false)) (by show AVal.r (.bool _) = _; exact eqB ht)) ?_
      have hq1 := of_decide_eq_false ht
      refine ar_pure tOk rfl rfl rfl trivial ?_
      refine ar_pure tOk rfl rfl rfl trivial ?_
      refine ar_pure tOk rfl rfl rfl trivial ?_
      refine ar_pure tOk rfl rfl rfl trivial ?_
      refine ar_nil ?_
      refine ag_if rfl ?_ ?_
      · intro h17
        have hl : k.length ≠ 32 := by omega
        refine ag_seq ?_
        refine ag_reg ?_
        refine ar_pure tOk rfl rfl rfl trivial ?_
        refine ar_nil ?_
        refine ag_ent (ent_nil 6 (.bs []) rfl (.inl rfl)) ?_
        refine ag_ret tOk Try.func22 rfl rfl (by simp) ?_
        exact eqBsv (by rw [payL, if_pos (by omega)])
      · intro h17
        have hl : k.length = 32 := by omega
        refine ag_skip ?_
        refine ag_seq ?_
        refine ag_draw0 (by kernel_rfl) (by kernel_rfl) ?_
        refine aq_pure tOk rfl rfl rfl ?_ ?_
        · simp
        refine aq_pur (hT) rfl rfl rfl rfl rfl rfl rfl ?_
        refine aq_pure tOk rfl rfl rfl trivial ?_
        refine aq_pur (w_rNumC _ a (wok_txt wok0)) rfl rfl rfl rfl rfl rfl rfl ?_
        refine aq_pure tOk rfl rfl rfl trivial ?_
        refine aq_pur (w_rTextC _ k (wok_num (wok_txt wok0))) rfl rfl rfl rfl rfl rfl rfl ?_
        refine aq_load0 tOk rfl (by kernel_rfl) rfl rfl trivial ?_
        refine aq_pur (w_rWideC _ x0 x1 x2 x3 h0 h1 h2 h3 (wok_txt (wok_num (wok_txt wok0)))) rfl rfl rfl rfl rfl rfl rfl ?_
        refine aq_pure tOk rfl rfl rfl trivial ?_
        refine aq_pure tOk rfl rfl rfl trivial ?_
        refine aq_nil rfl ?_
        refine ag_ret tOk Try.func22 rfl rfl (by simp) ?_
        exact eqBsv (by rw [payL, if_neg (by omega)]; rfl)

end Go.Proofs.Ytbofioheoohlgaa

/-
  WALKS: the laws of layer 7. (Printed by gen.py out of w_ldeal.py.)
-/
import Derived.Test.YtbofioheoohlgaaDeal3
import Derived.Test.YtbofioheoohlgaaDealB
namespace Go.Proofs.Ytbofioheoohlgaa
open Go
set_option maxRecDepth 20000
set_option linter.unusedVariables false
set_option linter.unusedSimpArgs false

theorem w_num07 (e : Int) : Pur Try.prog 13 [.r (.int .i64 e)] (.r (.int .i64 e)) := by
  refine spec_of_go (N := 4) Try.func13 rfl (by decide) rfl rfl ?_
  refine ag_seq ?_
  refine ag_reg ?_
  refine ar_pure tOk rfl rfl rfl trivial ?_
  refine ar_nil ?_
  refine ag_seq ?_
  refine ag_reg ?_
  refine ar_pure tOk rfl rfl rfl trivial ?_
  refine ar_pure tOk rfl rfl rfl trivial ?_
  refine ar_nil ?_
  refine ag_ret tOk Try.func13 rfl rfl (by simp) ?_
  rfl

def i07 : InvV := ⟨0, [49, 50, 51, 52, 53, 54, 55, 56], 2, 0, 0, 0, [120]⟩

theorem w_alive07  : Pur Try.prog 11 [] (.r (.bool true)) := by
  have hA : Pur Try.prog 18 [invA inv0] (.r (.str [])) := (w_dKey inv0 ⟨by decide, by decide⟩).mono_r (by rw [keyL, if_pos (by decide)])
  have hB : Pur Try.prog 14 [invA i07] (.r (.int .i64 0)) := (w_Check i07).mono_r (by rw [invE, if_neg (by decide)])
  obtain ⟨K, hK⟩ : ∃ K, K = keyL i07 := ⟨_, rfl⟩
  have hKl : K.length = 32 := by rw [hK]; exact keyL_len (by decide)
  have hC : Pur Try.prog 18 [invA i07] (.r (.str K)) := by rw [hK]; exact w_dKey i07 ⟨by decide, by decide⟩
  clear hK
  refine spec_of_go (N := 17) Try.func11 rfl (by decide) rfl rfl ?_
  refine ag_seq ?_
  refine ag_reg ?_
  refine ar_pure tOk rfl rfl rfl trivial ?_
  refine ar_nil ?_
  refine ag_seq ?_
  refine ag_reg ?_
  refine ar_pure tOk rfl rfl rfl ?_ ?_
  · simp
  refine ar_new tOk rfl rfl rfl ?_ ?_
  · simp
  refine ar_store tOk rfl rfl rfl trivial ?_
  refine ar_nil ?_
  refine ag_seq ?_
  refine ag_reg ?_
  refine ar_pure tOk rfl rfl rfl ?_ ?_
  · simp
  refine ar_pur (hA) rfl rfl rfl rfl rfl rfl rfl ?_
  refine ar_pure tOk rfl rfl rfl trivial ?_
  refine ar_pure tOk rfl rfl rfl trivial ?_
  refine ar_load tOk rfl rfl rfl trivial ?_
  refine ar_pur (hB) rfl rfl rfl rfl rfl rfl rfl ?_
  refine ar_pure tOk rfl rfl rfl trivial ?_
  refine ar_pure tOk rfl rfl rfl trivial ?_
  refine ar_pure tOk rfl rfl rfl trivial ?_
  refine ar_load tOk rfl rfl rfl trivial ?_
  refine ar_pur (hC) rfl rfl rfl rfl rfl rfl rfl ?_
  refine ar_pure tOk rfl rfl rfl trivial ?_
  refine ar_pure tOk rfl rfl rfl trivial ?_
  refine ar_ent (ent_reg 15 (.r (.bool true)) (by show AVal.r (.bool _) = _; exact eqB (by simp [hKl]))) ?_
  refine ar_pure tOk rfl rfl rfl trivial ?_
  refine ar_pure tOk rfl rfl rfl trivial ?_
  refine ar_nil ?_
  refine ag_ret tOk Try.func11 rfl rfl (by simp) ?_
  rfl

theorem w_DealTells (v : InvV) (hv : v.ok) (u : VarV) (hu : u.ok) (a : Int) (k : List UInt8) (hk : k.length ≤ 140737488351232) (x0 x1 x2 x3 : Int) (h0 : U64 x0) (h1 : U64 x1) (h2 : U64 x2) (h3 : U64 x3) : Pur Try.prog 4 [invA v, varA u, .r (.int .i64 a), .r (.str k), wA x0 x1 x2 x3] (.r (.bool true)) := by
  have c1 := w_Check v
  have c2 := w_rInv v
  generalize invE v = E at c1 c2
  have c3 := w_Sound u
  have c4 := w_rVar u
  generalize varE u = V at c3 c4
  have c5 := w_dKey v hv
  have c6 := w_rKey v
  have c7 := w_dDig v hv u hu
  have c8 := w_rDig v hv u hu
  generalize keyL v = K at c5 c6
  generalize digL7 v u = G at c7 c8
  have c9 := w_dPay a k hk x0 x1 x2 x3 h0 h1 h2 h3
  have c10 := w_rPay a k hk x0 x1 x2 x3 h0 h1 h2 h3
  generalize payL a k x0 x1 x2 x3 = Y at c9 c10
  refine spec_of_go (N := 57) Try.func4 rfl (by decide) rfl rfl ?_
  refine ag_seq ?_
  refine ag_reg ?_
  refine ar_new tOk rfl rfl rfl trivial ?_
  refine ar_new tOk rfl rfl rfl trivial ?_
  refine ar_new tOk rfl rfl rfl trivial ?_
  refine ar_pure tOk rfl rfl rfl trivial ?_
  refine ar_nil ?_
  refine ag_seq ?_
  refine ag_draw0 (by kernel_rfl) (by kernel_rfl) ?_
  refine aq_load0 tOk rfl (by kernel_rfl) rfl rfl trivial ?_
  refine aq_pur (c1) rfl rfl rfl rfl rfl rfl rfl ?_
  refine aq_pur (w_num07 _) rfl rfl rfl rfl rfl rfl rfl ?_
  refine aq_load0 tOk rfl (by kernel_rfl) rfl rfl trivial ?_
  refine aq_pur (c2) rfl rfl rfl rfl rfl rfl rfl ?_
  refine aq_pure tOk rfl rfl rfl trivial ?_
  refine aq_pure tOk rfl rfl rfl trivial ?_
  refine aq_load0 tOk rfl (by kernel_rfl) rfl (by simp) trivial ?_
  refine aq_pur (c3) rfl rfl rfl rfl rfl rfl (by simp) ?_
  refine aq_pur (w_num07 _) rfl rfl rfl rfl rfl rfl (by simp) ?_
  refine aq_load0 tOk rfl (by kernel_rfl) rfl (by simp) trivial ?_
  refine aq_pur (c4) rfl rfl rfl rfl rfl rfl (by simp) ?_
  refine aq_pure tOk rfl rfl (by simp) trivial ?_
  refine aq_pure tOk rfl rfl rfl trivial ?_
  refine aq_pure tOk rfl rfl rfl trivial ?_
  refine aq_load0 tOk rfl (by kernel_rfl) rfl (by simp) trivial ?_
  refine aq_pur (c5) rfl rfl rfl rfl rfl rfl (by simp) ?_
  refine aq_load0 tOk rfl (by kernel_rfl) rfl (by simp) trivial ?_
  refine aq_pur (c6) rfl rfl rfl rfl rfl rfl (by simp) ?_
  refine aq_pure tOk rfl rfl (by simp) trivial ?_
  refine aq_pure tOk rfl rfl rfl trivial ?_
  refine aq_pure tOk rfl rfl rfl trivial ?_
  refine aq_load0 tOk rfl (by kernel_rfl) rfl (by simp) trivial ?_
  refine aq_load0 tOk rfl (by kernel_rfl) rfl (by simp) trivial ?_
  refine aq_pur (c7) rfl rfl rfl rfl rfl rfl (by simp) ?_
  refine aq_load0 tOk rfl (by kernel_rfl) rfl (by simp) trivial ?_
  refine aq_load0 tOk rfl (by kernel_rfl) rfl (by simp) trivial ?_
  refine aq_pur (c8) rfl rfl rfl rfl rfl rfl (by simp) ?_
  refine aq_pure tOk rfl rfl (by simp) trivial ?_
  refine aq_pure tOk rfl rfl rfl trivial ?_
  refine aq_pure tOk rfl rfl rfl trivial ?_
  refine aq_pure tOk rfl rfl (by simp) trivial ?_
  refine aq_pure tOk rfl rfl (by simp) trivial ?_
  refine aq_load0 tOk rfl (by kernel_rfl) rfl (by simp) trivial ?_
  refine aq_pur (c9) rfl rfl rfl rfl rfl rfl (by simp) ?_
  refine aq_pure tOk rfl rfl (by simp) trivial ?_
  refine aq_pure tOk rfl rfl (by simp) trivial ?_
  refine aq_pure tOk rfl rfl (by simp) trivial ?_
  refine aq_load0 tOk rfl (by kernel_rfl) rfl (by simp) trivial ?_
  refine aq_pur (c10) rfl rfl rfl rfl rfl rfl (by simp) ?_
  refine aq_pure tOk rfl rfl (by simp) trivial ?_
  refine aq_pure tOk rfl rfl (by simp) trivial ?_
  refine aq_pure tOk rfl rfl rfl trivial ?_
  refine aq_pure tOk rfl rfl rfl trivial ?_
  refine aq_pur (w_alive07) rfl rfl rfl rfl rfl rfl (by simp) ?_
  refine aq_pure tOk rfl rfl rfl trivial ?_
  refine aq_pure tOk rfl rfl rfl trivial ?_
  refine aq_nil rfl ?_
  refine ag_ret tOk Try.func4 rfl rfl (by simp) ?_
  exact eqB (by simp)

theorem w_DealReads (b : List UInt8) : Pur Try.prog 5 [.r (.bs b)] (.r (.bool true)) := by
  obtain ⟨w, hw⟩ : ∃ w, opR b = w := ⟨_, rfl⟩
  obtain ⟨x, hx⟩ : ∃ x, gInv w = x := ⟨_, rfl⟩
  obtain ⟨y, hy⟩ : ∃ y, gVar x.2 = y := ⟨_, rfl⟩
  have c1 := w_IOpen b
  have c2 := w_rOpen b
  rw [hw] at c1 c2
  have c3 := w_rGetInv w
  have c4 := w_dGet w
  rw [hx] at c3 c4
  have c5 := w_rGetVar x.2
  have c6 := w_dGetVar x.2
  rw [hy] at c5 c6
  clear hw hx hy
  obtain ⟨⟨v1, v2, v3, v4, v5, v6, v7⟩, xw⟩ := x
  obtain ⟨⟨u0, u1, u2, u3, u4⟩, yw⟩ := y
  simp only at c3 c4 c5 c6
  refine spec_of_go (N := 67) Try.func5 rfl (by decide) rfl rfl ?_
  refine ag_seq ?_
  refine ag_reg ?_
  refine ar_pure tOk rfl rfl rfl trivial ?_
  refine ar_nil ?_
  refine ag_seq ?_
  refine ag_seq ?_
  refine ag_reg ?_
  refine ar_pur (w_alive07) rfl rfl rfl rfl rfl rfl rfl ?_
  refine ar_pure tOk rfl rfl rfl trivial ?_
  refine ar_nil ?_
  refine ag_false rfl (rfl) ?_
  refine ag_skip ?_
  refine ag_seq ?_
  refine ag_reg ?_
  refine ar_pure tOk rfl rfl rfl trivial ?_
  refine ar_obj [] (c1) rfl rfl (handed_of rfl rfl (by decide) trivial) rfl rfl rfl rfl ?_
  rintro _ _ ⟨rfl, rfl⟩
  refine ⟨_, _, rfl, ?_⟩
  refine ar_pure tOk rfl rfl rfl trivial ?_
  refine ar_pur (c2) rfl rfl rfl rfl rfl rfl rfl ?_
  refine ar_new tOk rfl rfl rfl ?_ ?_
  · simp
  refine ar_pure tOk rfl rfl rfl trivial ?_
  refine ar_store tOk rfl rfl rfl trivial ?_
  refine ar_nil ?_
  refine ag_seq ?_
  refine ag_reg ?_
  refine ar_load tOk rfl rfl rfl trivial ?_
  refine ar_pur (c3) rfl rfl rfl rfl rfl rfl rfl ?_
  refine ar_pure tOk rfl rfl rfl trivial ?_
  refine ar_pure tOk rfl rfl rfl trivial ?_
  refine ar_pure tOk rfl rfl rfl trivial ?_
  refine ar_new tOk rfl rfl rfl ?_ ?_
  · simp
  refine ar_store tOk rfl rfl rfl trivial ?_
  refine ar_store tOk rfl rfl rfl trivial ?_
  refine ar_nil ?_
  refine ag_seq ?_
  refine ag_reg ?_
  refine ar_pure tOk rfl rfl rfl trivial ?_
  refine ar_obj [0] (c4) rfl rfl (handed_of rfl rfl (by decide) ⟨rfl, rfl, rfl, trivial⟩) rfl rfl rfl rfl ?_
  rintro _ _ ⟨rfl, rfl⟩
  refine ⟨_, _, rfl, ?_⟩
  refine ar_new tOk rfl rfl rfl ?_ ?_
  · simp
  refine ar_store tOk rfl rfl rfl trivial ?_
  refine ar_nil ?_
  refine ag_seq ?_
  refine ag_seq ?_
  refine ag_draw0 (by kernel_rfl) (by kernel_rfl) ?_
  refine aq_load0 tOk rfl (by kernel_rfl) rfl rfl trivial ?_
  refine aq_load0 tOk rfl (by kernel_rfl) rfl rfl trivial ?_
  refine aq_pure tOk rfl rfl rfl trivial ?_
  refine aq_pure tOk rfl rfl rfl trivial ?_
  refine aq_pure tOk rfl rfl (by simp) trivial ?_
  refine aq_qd0 (qop_objR [0] (w_Err xw.1 xw.2) (by rintro _ _ ⟨rfl, rfl⟩; exact ⟨rfl, rfl⟩) rfl rfl (handed_of rfl rfl (by decide) ⟨rfl, rfl, rfl, trivial⟩) rfl rfl) (by kernel_rfl) rfl (by simp) rfl rfl ?_
  refine aq_pur (w_num07 _) rfl rfl rfl rfl rfl rfl (by simp) ?_
  refine aq_pure tOk rfl rfl (by simp) trivial ?_
  refine aq_load0 tOk rfl (by kernel_rfl) rfl (by simp) trivial ?_
  refine aq_pure tOk rfl rfl (by simp) trivial ?_
  refine aq_pure tOk rfl rfl rfl trivial ?_
  refine aq_pure tOk rfl rfl rfl trivial ?_
  refine aq_pure tOk rfl rfl (by simp) trivial ?_
  refine aq_qd0 (qop_objR [0] (w_Left xw.1 xw.2) (by rintro _ _ ⟨rfl, rfl⟩; exact ⟨rfl, rfl⟩) rfl rfl (handed_of rfl rfl (by decide) ⟨rfl, rfl, rfl, trivial⟩) rfl rfl) (by kernel_rfl) rfl (by simp) rfl rfl ?_
  refine aq_pure tOk rfl rfl (by simp) trivial ?_
  refine aq_load0 tOk rfl (by kernel_rfl) rfl (by simp) trivial ?_
  refine aq_pure tOk rfl rfl (by simp) trivial ?_
  refine aq_pure tOk rfl rfl (by simp) trivial ?_
  refine aq_pure tOk rfl rfl rfl trivial ?_
  refine aq_nil rfl ?_
  refine ag_false rfl (by simp) ?_
  refine ag_skip ?_
  refine ag_seq ?_
  refine ag_reg ?_
  refine ar_load tOk rfl rfl rfl trivial ?_
  refine ar_pur (c5) rfl rfl rfl rfl rfl rfl rfl ?_
  refine ar_pure tOk rfl rfl rfl trivial ?_
  refine ar_pure tOk rfl rfl rfl trivial ?_
  refine ar_pure tOk rfl rfl rfl trivial ?_
  refine ar_new tOk rfl rfl rfl ?_ ?_
  · simp
  refine ar_store tOk rfl rfl rfl trivial ?_
  refine ar_store tOk rfl rfl rfl trivial ?_
  refine ar_nil ?_
  refine ag_seq ?_
  refine ag_reg ?_
  refine ar_pure tOk rfl rfl rfl trivial ?_
  refine ar_obj [0] (c6) rfl rfl (handed_of rfl rfl (by decide) ⟨rfl, rfl, rfl, trivial⟩) rfl rfl rfl rfl ?_
  rintro _ _ ⟨rfl, rfl⟩
  refine ⟨_, _, rfl, ?_⟩
  refine ar_new tOk rfl rfl rfl ?_ ?_
  · simp
  refine ar_store tOk rfl rfl rfl trivial ?_
  refine ar_nil ?_
  refine ag_seq ?_
  refine ag_draw0 (by kernel_rfl) (by kernel_rfl) ?_
  refine aq_load0 tOk rfl (by kernel_rfl) rfl rfl trivial ?_
  refine aq_load0 tOk rfl (by kernel_rfl) rfl rfl trivial ?_
  refine aq_pure tOk rfl rfl rfl trivial ?_
  refine aq_pure tOk rfl rfl rfl trivial ?_
  refine aq_pure tOk rfl rfl (by simp) trivial ?_
  refine aq_qd0 (qop_objR [0] (w_Err yw.1 yw.2) (by rintro _ _ ⟨rfl, rfl⟩; exact ⟨rfl, rfl⟩) rfl rfl (handed_of rfl rfl (by decide) ⟨rfl, rfl, rfl, trivial⟩) rfl rfl) (by kernel_rfl) rfl (by simp) rfl rfl ?_
  refine aq_pur (w_num07 _) rfl rfl rfl rfl rfl rfl (by simp) ?_
  refine aq_pure tOk rfl rfl (by simp) trivial ?_
  refine aq_load0 tOk rfl (by kernel_rfl) rfl (by simp) trivial ?_
  refine aq_pure tOk rfl rfl (by simp) trivial ?_
  refine aq_pure tOk rfl rfl rfl trivial ?_
  refine aq_pure tOk rfl rfl rfl trivial ?_
  refine aq_pure tOk rfl rfl (by simp) trivial ?_
  refine aq_qd0 (qop_objR [0] (w_Left yw.1 yw.2) (by rintro _ _ ⟨rfl, rfl⟩; exact ⟨rfl, rfl⟩) rfl rfl (handed_of rfl rfl (by decide) ⟨rfl, rfl, rfl, trivial⟩) rfl rfl) (by kernel_rfl) rfl (by simp) rfl rfl ?_
  refine aq_pure tOk rfl rfl (by simp) trivial ?_
  refine aq_load0 tOk rfl (by kernel_rfl) rfl (by simp) trivial ?_
  refine aq_pure tOk rfl rfl (by simp) trivial ?_
  refine aq_pure tOk rfl rfl (by simp) trivial ?_
  refine aq_pure tOk rfl rfl rfl trivial ?_
  refine aq_pure tOk rfl rfl rfl trivial ?_
  refine aq_nil rfl ?_
  refine ag_ret tOk Try.func5 rfl rfl (by simp) ?_
  exact eqB (by simp)

theorem pay_eq {a : Int} {k : List UInt8} {x0 x1 x2 x3 : Int} (ha : 1 ≤ a ∧ a ≤ 2) (hk : k.length = 32) : payL a k x0 x1 x2 x3 = txt [97, 99, 116] ++ (numL 6 a ++ (txt k ++ wideL x0 x1 x2 x3)) := by
  rw [payL, if_neg (by omega), payW, wtxt_ok (by decide) (by decide), wnum_ok (by unfold badN; omega) (by simp [txt_length]), wtxt_ok (by omega) (by simp [txt_length, numL_length]; omega), wwid_ok (by simp [txt_length, numL_length]; omega)]
  simp
theorem pay_no {a : Int} {k : List UInt8} {x0 x1 x2 x3 : Int} (hk : k.length ≠ 32) : payL a k x0 x1 x2 x3 = [] := by rw [payL, if_pos (.inr (.inr hk))]
theorem pay_acts {k : List UInt8} {x0 x1 x2 x3 y0 y1 y2 y3 : Int} (hk : k.length = 32) : payL 1 k x0 x1 x2 x3 ≠ payL 2 k y0 y1 y2 y3 := by
  rw [pay_eq (by decide) hk, pay_eq (by decide) hk]
  intro h
  have h1 := List.append_cancel_left h
  have h2 := congrArg (List.take 6) h1
  rw [List.take_append_of_le_length (by rw [numL_length]; omega), List.take_append_of_le_length (by rw [numL_length]; omega), List.take_of_length_le (by rw [numL_length]; omega), List.take_of_length_le (by rw [numL_length]; omega)] at h2
  exact absurd h2 (by decide)
theorem pay_fees {k : List UInt8} {x0 x1 x2 x3 y0 y1 y2 y3 : Int} (hk : k.length = 32) (h0 : U64 x0) (h1 : U64 x1) (h2 : U64 x2) (h3 : U64 x3) (g0 : U64 y0) (g1 : U64 y1) (g2 : U64 y2) (g3 : U64 y3) : payL 1 k x0 x1 x2 x3 = payL 1 k y0 y1 y2 y3 ↔ (x0 = y0 ∧ x1 = y1 ∧ x2 = y2 ∧ x3 = y3) := by
  rw [pay_eq (by decide) hk, pay_eq (by decide) hk]
  constructor
  · intro h
    have e := List.append_cancel_left (List.append_cancel_left (List.append_cancel_left h))
    obtain ⟨a0, a1, a2, a3⟩ := fBs_wide h0 h1 h2 h3
    obtain ⟨b0, b1, b2, b3⟩ := fBs_wide g0 g1 g2 g3
    rw [e] at a0 a1 a2 a3
    exact ⟨a0.symm.trans b0, a1.symm.trans b1, a2.symm.trans b2, a3.symm.trans b3⟩
  · rintro ⟨rfl, rfl, rfl, rfl⟩; rfl
theorem pay_len {a : Int} {k : List UInt8} {x0 x1 x2 x3 : Int} (ha : 1 ≤ a ∧ a ≤ 2) (hk : k.length = 32) : (payL a k x0 x1 x2 x3).length = 77 := by
  rw [pay_eq ha hk]; simp [txt_length, numL_length, wideL_length, hk]

theorem w_DealPayloads (k : List UInt8) (hk : k.length ≤ 140737488351232) (x0 x1 x2 x3 : Int) (h0 : U64 x0) (h1 : U64 x1) (h2 : U64 x2) (h3 : U64 x3) (y0 y1 y2 y3 : Int) (g0 : U64 y0) (g1 : U64 y1) (g2 : U64 y2) (g3 : U64 y3) : Pur Try.prog 3 [.r (.str k), wA x0 x1 x2 x3, wA y0 y1 y2 y3] (.r (.bool true)) := by
  have c1 := w_dPay 1 k hk x0 x1 x2 x3 h0 h1 h2 h3
  have c2 := w_dPay 2 k hk x0 x1 x2 x3 h0 h1 h2 h3
  have c3 := w_dPay 1 k hk y0 y1 y2 y3 g0 g1 g2 g3
  have f : k.length ≠ 32 → payL 1 k x0 x1 x2 x3 = [] ∧ payL 2 k x0 x1 x2 x3 = [] ∧ payL 1 k y0 y1 y2 y3 = [] := fun h => ⟨pay_no h, pay_no h, pay_no h⟩
  have e : k.length = 32 → payL 1 k x0 x1 x2 x3 ≠ payL 2 k x0 x1 x2 x3 ∧ (payL 1 k x0 x1 x2 x3 = payL 1 k y0 y1 y2 y3 ↔ (x0 = y0 ∧ x1 = y1 ∧ x2 = y2 ∧ x3 = y3)) ∧ (payL 1 k x0 x1 x2 x3).length = 77 ∧ (payL 2 k x0 x1 x2 x3).length = 77 := fun h => ⟨pay_acts h, pay_fees h h0 h1 h2 h3 g0 g1 g2 g3, pay_len (by decide) h, pay_len (by decide) h⟩
  generalize payL 1 k x0 x1 x2 x3 = X at c1 f e
  generalize payL 2 k x0 x1 x2 x3 = Y at c2 f e
  generalize payL 1 k y0 y1 y2 y3 = Z at c3 f e
  refine spec_of_go (N := 52) Try.func3 rfl (by decide) rfl rfl ?_
  refine ag_seq ?_
  refine ag_reg ?_
  refine ar_new tOk rfl rfl rfl trivial ?_
  refine ar_new tOk rfl rfl rfl trivial ?_
  refine ar_pure tOk rfl rfl rfl trivial ?_
  refine ar_nil ?_
  refine ag_seq ?_
  refine ag_seq ?_
  refine ag_reg ?_
  refine ar_pur (w_alive07) rfl rfl rfl rfl rfl rfl rfl ?_
  refine ar_pure tOk rfl rfl rfl trivial ?_
  refine ar_nil ?_
  refine ag_false rfl (rfl) ?_
  refine ag_skip ?_
  refine ag_seq ?_
  refine ag_draw0 (by kernel_rfl) (by kernel_rfl) ?_
  refine aq_pure tOk rfl rfl rfl trivial ?_
  refine aq_load0 tOk rfl (by kernel_rfl) rfl rfl trivial ?_
  refine aq_pur (c1) rfl rfl rfl rfl rfl rfl rfl ?_
  refine aq_pure tOk rfl rfl rfl trivial ?_
  refine aq_pure tOk rfl rfl rfl trivial ?_
  refine aq_load0 tOk rfl (by kernel_rfl) rfl rfl trivial ?_
  refine aq_pur (c2) rfl rfl rfl rfl rfl rfl rfl ?_
  refine aq_pure tOk rfl rfl rfl trivial ?_
  refine aq_pure tOk rfl rfl rfl trivial ?_
  refine aq_load0 tOk rfl (by kernel_rfl) rfl rfl trivial ?_
  refine aq_pur (c3) rfl rfl rfl rfl rfl rfl rfl ?_
  refine aq_pure tOk rfl rfl rfl trivial ?_
  refine aq_pure tOk rfl rfl rfl trivial ?_
  refine aq_pure tOk rfl rfl rfl trivial ?_
  refine aq_pure tOk rfl rfl rfl trivial ?_
  refine aq_nil rfl ?_
  refine ag_seq ?_
  refine ag_seq ?_
  refine ag_reg ?_
  refine ar_pure tOk rfl rfl rfl trivial ?_
  refine ar_pure tOk rfl rfl rfl trivial ?_
  refine ar_pure tOk rfl rfl rfl trivial ?_
  refine ar_nil ?_
  refine ag_if rfl ?_ ?_
  · intro h26
    obtain ⟨rfl, rfl, rfl⟩ := f (by omega)
    refine ag_seq ?_
    refine ag_reg ?_
    refine ar_pure tOk rfl rfl rfl trivial ?_
    refine ar_pure tOk rfl rfl rfl trivial ?_
    refine ar_pure tOk rfl rfl rfl ?_ ?_
    · decide
    refine ar_pure tOk rfl rfl rfl trivial ?_
    refine ar_pure tOk rfl rfl rfl ?_ ?_
    · decide
    refine ar_pure tOk rfl rfl rfl trivial ?_
    refine ar_pure tOk rfl rfl rfl trivial ?_
    refine ar_nil ?_
    refine ag_ret tOk Try.func3 rfl rfl (by simp) ?_
    rfl
  · intro h26
    obtain ⟨e1, e2, e3, e4⟩ := e (by omega)
    refine ag_skip ?_
    refine ag_seq ?_
    refine ag_reg ?_
    refine ar_pure tOk rfl rfl rfl trivial ?_
    refine ar_pure tOk rfl rfl rfl trivial ?_
    refine ar_pure tOk rfl rfl rfl trivial ?_
    refine ar_ent (ent_reg 35 (.r (.bool true)) (by show AVal.r (.bool _) = _; exact eqB (by simpa using e1))) ?_
    refine ar_pure tOk rfl rfl rfl trivial ?_
    refine ar_pure tOk rfl rfl rfl trivial ?_
    refine ar_pure tOk rfl rfl rfl trivial ?_
    refine ar_pure tOk rfl rfl rfl trivial ?_
    refine ar_load tOk rfl rfl rfl trivial ?_
    refine ar_load tOk rfl rfl rfl trivial ?_
    refine ar_pure tOk rfl rfl rfl trivial ?_
    refine ar_pure tOk rfl rfl rfl trivial ?_
    refine ar_ent (ent_reg 43 (.r (.bool true)) (by show AVal.r (.bool _) = _; exact eqB (by by_cases q : X = Z; obtain ⟨rfl, rfl, rfl, rfl⟩ := e2.1 q; simp [q]; have q2 : ¬ (x0 = y0 ∧ x1 = y1 ∧ x2 = y2 ∧ x3 = y3) := fun p => q (e2.2 p); simp [q]; omega))) ?_
    refine ar_pure tOk rfl rfl rfl trivial ?_
    refine ar_pure tOk rfl rfl rfl trivial ?_
    refine ar_pure tOk rfl rfl rfl trivial ?_
    refine ar_pure tOk rfl rfl rfl trivial ?_
    refine ar_pure tOk rfl rfl rfl trivial ?_
    refine ar_pure tOk rfl rfl rfl trivial ?_
    refine ar_pure tOk rfl rfl rfl trivial ?_
    refine ar_ent (ent_reg 50 (.r (.bool true)) (by show AVal.r (.bool _) = _; exact eqB (by rw [e3, e4]; rfl))) ?_
    refine ar_pure tOk rfl rfl rfl trivial ?_
    refine ar_pure tOk rfl rfl rfl trivial ?_
    refine ar_nil ?_
    refine ag_ret tOk Try.func3 rfl rfl (by simp) ?_
    rfl

theorem back_facts {v : InvV} {u : VarV} (hu : u.ok) (h1 : ¬ invBad v) (h2 : ¬ varBad u) : ∃ B : List UInt8, pVar (pInv ([], 0) v) u = (B, 0) ∧ gInv (opR B) = (v, (varB u, 0)) ∧ gVar (varB u, 0) = (u, ([], 0)) := by
  have l1 := invB_length h1
  refine ⟨invB v ++ varB u, ?_, ?_, ?_⟩
  · rw [pInv_ok h1 (by decide), pVar_ok h2 (by simp; omega)]; rfl
  · rw [opR_ok (by rw [List.length_append, varB_length]; omega), gInv_ok h1]
  · have := gVar_ok hu h2 []
    rwa [List.append_nil] at this

theorem w_DealBackN (v : InvV) (hv : v.ok) (u : VarV) (hu : u.ok) (hb : invBad v ∨ varBad u) : Pur Try.prog 6 [invA v, varA u] (.r (.bool true)) := by
  have c1 := w_Check v
  have c2 := w_Sound u
  obtain ⟨p, hp⟩ : ∃ p, pVar (pInv ([], 0) v) u = p := ⟨_, rfl⟩
  have hP : Pur Try.prog 36 [.agg [.r .nil, .r (.int .i64 0)], invA v] (wV (pInv ([], 0) v)) := Spec.args (w_rPutInv ([], 0) wok0 v) (fun R μ w cs h => by simp only [ARels] at h ⊢; obtain ⟨c, r, rfl, h1, h2⟩ := h; exact ⟨c, r, rfl, nil_agg h1, h2⟩)
  have hQ := w_rPutVar (pInv ([], 0) v) (wok_inv wok0) u hu
  refine spec_of_go (N := 76) Try.func6 rfl (by decide) rfl rfl ?_
  refine ag_seq ?_
  refine ag_reg ?_
  refine ar_new tOk rfl rfl rfl trivial ?_
  refine ar_new tOk rfl rfl rfl trivial ?_
  refine ar_pure tOk rfl rfl rfl trivial ?_
  refine ar_nil ?_
  refine ag_seq ?_
  refine ag_seq ?_
  refine ag_reg ?_
  refine ar_pur (w_alive07) rfl rfl rfl rfl rfl rfl rfl ?_
  refine ar_pure tOk rfl rfl rfl trivial ?_
  refine ar_nil ?_
  refine ag_false rfl (rfl) ?_
  refine ag_skip ?_
  refine ag_seq ?_
  refine ag_reg ?_
  refine ar_obj [] (w_NewO) rfl rfl (handed_of rfl rfl (by decide) trivial) rfl rfl rfl rfl ?_
  rintro _ _ ⟨rfl, rfl⟩
  refine ⟨_, _, rfl, ?_⟩
  refine ar_pure tOk rfl rfl rfl trivial ?_
  refine ar_nil ?_
  refine ag_ent ent_dead ?_
  refine ag_ent (ent_same (h' := obAt none [.int .i64 0, .bool true] 2 3 ⟨4, [(0, some (.mixed ((invC v).map .r))), (1, some (.mixed ((varC u).map .r)))], false⟩) rfl rfl ⟨rfl, rfl, rfl, rfl, trivial⟩) ?_
  refine ag_seq ?_
  refine ag_reg ?_
  refine ar_pure tOk rfl rfl rfl trivial ?_
  refine ar_load tOk rfl rfl rfl trivial ?_
  refine ar_ob (w_dPut ([], 0) none [.int .i64 0, .bool true] oRel0 v hv) rfl rfl rfl rfl rfl rfl rfl (by intro d hd; cases hd; rfl) ?_
  rintro _ sl tl ⟨rfl, hr⟩
  refine ⟨rfl, ?_⟩
  refine ar_nil ?_
  refine ag_seq ?_
  refine ag_reg ?_
  refine ar_pure tOk rfl rfl rfl trivial ?_
  refine ar_load tOk rfl rfl rfl trivial ?_
  refine ar_ob (w_dPutVar _ sl tl hr u hu) rfl rfl rfl rfl rfl rfl rfl (by intro d hd; cases hd; rfl) ?_
  rintro _ sl tl ⟨rfl, hr⟩
  refine ⟨rfl, ?_⟩
  refine ar_nil ?_
  refine ag_seq ?_
  refine ag_reg ?_
  refine ar_pure tOk rfl rfl rfl trivial ?_
  refine ar_ob (w_ODone _ sl tl hr) rfl rfl rfl rfl rfl rfl rfl (by intro d hd; cases hd; rfl) ?_
  rintro _ sl tl ⟨rfl, hr⟩
  refine ⟨rfl, ?_⟩
  refine ar_pure tOk rfl rfl rfl trivial ?_
  refine ar_pure tOk rfl rfl rfl trivial ?_
  refine ar_pure tOk rfl rfl rfl trivial ?_
  refine ar_pure tOk rfl rfl rfl trivial ?_
  refine ar_pure tOk rfl rfl rfl trivial ?_
  refine ar_nil ?_
  refine ag_ent (ent_weak (g' := [(2, .ptr 0 0), (3, .ptr 1 0), (6, .r (.bs (pVar (pInv ([], 0) v) u).1)), (7, .r (.int .i64 (pVar (pInv ([], 0) v) u).2))]) (h' := ⟨2, [(0, some (.mixed ((invC v).map .r))), (1, some (.mixed ((varC u).map .r)))], false⟩) [0, 1] rfl rfl rfl rfl ?_ ?_ rfl) ?_
  · exact ⟨⟨rfl, rfl⟩, ⟨rfl, rfl⟩, ⟨rfl, rfl⟩, ⟨rfl, rfl⟩, trivial⟩
  · exact ⟨⟨rfl, rfl, rfl⟩, ⟨rfl, rfl, rfl⟩, trivial⟩
  refine ag_seq ?_
  apply ag_draw2 (h1 := ⟨3, [(2, some (.mixed [.r .nil, .r (.int .i64 0)])), (0, some (.mixed ((invC v).map .r))), (1, some (.mixed ((varC u).map .r)))], false⟩) [8] (by kernel_rfl) (by kernel_rfl)
  refine aq_pure tOk rfl rfl rfl ?_ ?_
  · simp
  refine aq_load1 tOk rfl (by kernel_rfl) rfl rfl rfl rfl trivial ⟨_, rfl, trivial⟩ ?_
  refine aq_pur (hP) rfl rfl rfl rfl rfl rfl rfl ?_
  refine aq_load1 tOk rfl (by kernel_rfl) rfl rfl rfl rfl trivial ⟨_, rfl, trivial⟩ ?_
  refine aq_pur (hQ) rfl rfl rfl rfl rfl rfl rfl ?_
  refine' aq_new20 tOk rfl rfl rfl rfl rfl ?_ ?_
  rotate_left 1
  · simp
  refine aq_store21 tOk rfl rfl rfl rfl trivial ?_
  refine aq_nil rfl ?_
  refine ag_seq ?_
  refine ag_seq ?_
  refine ag_draw0 (by kernel_rfl) (by kernel_rfl) ?_
  refine aq_pure tOk rfl rfl rfl trivial ?_
  refine aq_pur (w_num07 _) rfl rfl rfl rfl rfl rfl rfl ?_
  refine aq_pure tOk rfl rfl rfl trivial ?_
  refine aq_load0 tOk rfl (by kernel_rfl) rfl rfl trivial ?_
  refine aq_pure tOk rfl rfl rfl trivial ?_
  refine aq_pure tOk rfl rfl rfl trivial ?_
  refine aq_pure tOk rfl rfl (by simp) trivial ?_
  refine aq_pure tOk rfl rfl (by simp) trivial ?_
  refine aq_pure tOk rfl rfl (by simp) trivial ?_
  refine aq_load0 tOk rfl (by kernel_rfl) rfl (by simp) trivial ?_
  refine aq_pure tOk rfl rfl (by simp) trivial ?_
  refine aq_pure tOk rfl rfl (by simp) trivial ?_
  refine aq_pure tOk rfl rfl rfl trivial ?_
  refine aq_nil rfl ?_
  refine ag_false rfl (by simp) ?_
  refine ag_skip ?_
  refine ag_seq ?_
  refine ag_seq ?_
  refine ag_reg ?_
  refine ar_load tOk rfl rfl rfl trivial ?_
  refine ar_pur (c1) rfl rfl rfl rfl rfl rfl rfl ?_
  refine ar_pure tOk rfl rfl rfl trivial ?_
  refine ar_pure tOk rfl rfl rfl trivial ?_
  refine ar_guard (t := decide (invE v ≠ 0)) (fun ht => ?_) (fun ht => ?_)
  · refine ar_ent (ent_reg 45 (.r (.bool true)) (by show AVal.r (.bool _) = _; exact eqB ht)) ?_
    have hk := invE_ne (of_decide_eq_true ht)
    repeat (first | refine ar_skip rfl rfl rfl ?_ | refine ar_pure tOk rfl rfl rfl trivial ?_)
    refine ar_nil ?_
    refine ag_true rfl (by rfl) ?_
    refine ag_seq ?_
    refine ag_reg ?_
    refine ar_pure tOk rfl rfl rfl trivial ?_
    refine ar_nil ?_
    refine ag_ret tOk Try.func6 rfl rfl (by simp) ?_
    rfl
  · refine ar_ent (ent_reg 45 (.r (.bool false)) (by show AVal.r (.bool _) = _; exact eqB ht)) ?_
    have hk0 := invE_z (of_decide_eq_false ht)
    refine ar_ent (ent_reg 43 (.r (.int .i64 (0))) (by show AVal.r (.int _ _) = _; exact eqI (by by_cases q : invE v = 0; exact q; exact absurd q (of_decide_eq_false ht)))) ?_
    refine ar_load tOk rfl rfl rfl trivial ?_
    refine ar_pur (c2) rfl rfl rfl rfl rfl rfl rfl ?_
    refine ar_pure tOk rfl rfl rfl trivial ?_
    refine ar_pure tOk rfl rfl rfl trivial ?_
    refine ar_nil ?_
    refine ag_true rfl (by have q : varBad u := hb.resolve_left hk0; show decide (varE u ≠ 0) = true; rw [varE, if_pos q]; rfl) ?_
    refine ag_seq ?_
    refine ag_reg ?_
    refine ar_pure tOk rfl rfl rfl trivial ?_
    refine ar_nil ?_
    refine ag_ret tOk Try.func6 rfl rfl (by simp) ?_
    rfl

theorem w_DealBackG (v : InvV) (hv : v.ok) (u : VarV) (hu : u.ok) (h1 : ¬ invBad v) (h2 : ¬ varBad u) : Pur Try.prog 6 [invA v, varA u] (.r (.bool true)) := by
  have c1 := w_Check v
  have c2 := w_Sound u
  obtain ⟨p, hp⟩ : ∃ p, pVar (pInv ([], 0) v) u = p := ⟨_, rfl⟩
  have hP : Pur Try.prog 36 [.agg [.r .nil, .r (.int .i64 0)], invA v] (wV (pInv ([], 0) v)) := Spec.args (w_rPutInv ([], 0) wok0 v) (fun R μ w cs h => by simp only [ARels] at h ⊢; obtain ⟨c, r, rfl, h1, h2⟩ := h; exact ⟨c, r, rfl, nil_agg h1, h2⟩)
  have hQ := w_rPutVar (pInv ([], 0) v) (wok_inv wok0) u hu
  obtain ⟨B, hB, hgi, hgv⟩ := back_facts hu h1 h2
  have d1 := w_dGet (opR B)
  have d2 := w_dGetVar (varB u, 0)
  rw [hgi] at d1
  rw [hgv] at d2
  have hpe : (pVar (pInv ([], 0) v) u).1 = B ∧ (pVar (pInv ([], 0) v) u).2 = 0 := by rw [hB]; exact ⟨rfl, rfl⟩
  have hOp := w_IOpen B
  have hOe : opR B = (B, 0) ∨ True := .inr trivial
  obtain ⟨q, hq⟩ : ∃ q, opR B = q := ⟨_, rfl⟩
  rw [hq] at d1 hOp
  simp only at d1 d2
  clear hgi hgv hOe hp hB
  refine spec_of_go (N := 76) Try.func6 rfl (by decide) rfl rfl ?_
  refine ag_seq ?_
  refine ag_reg ?_
  refine ar_new tOk rfl rfl rfl trivial ?_
  refine ar_new tOk rfl rfl rfl trivial ?_
  refine ar_pure tOk rfl rfl rfl trivial ?_
  refine ar_nil ?_
  refine ag_seq ?_
  refine ag_seq ?_
  refine ag_reg ?_
  refine ar_pur (w_alive07) rfl rfl rfl rfl rfl rfl rfl ?_
  refine ar_pure tOk rfl rfl rfl trivial ?_
  refine ar_nil ?_
  refine ag_false rfl (rfl) ?_
  refine ag_skip ?_
  refine ag_seq ?_
  refine ag_reg ?_
  refine ar_obj [] (w_NewO) rfl rfl (handed_of rfl rfl (by decide) trivial) rfl rfl rfl rfl ?_
  rintro _ _ ⟨rfl, rfl⟩
  refine ⟨_, _, rfl, ?_⟩
  refine ar_pure tOk rfl rfl rfl trivial ?_
  refine ar_nil ?_
  refine ag_ent ent_dead ?_
  refine ag_ent (ent_same (h' := obAt none [.int .i64 0, .bool true] 2 3 ⟨4, [(0, some (.mixed ((invC v).map .r))), (1, some (.mixed ((varC u).map .r)))], false⟩) rfl rfl ⟨rfl, rfl, rfl, rfl, trivial⟩) ?_
  refine ag_seq ?_
  refine ag_reg ?_
  refine ar_pure tOk rfl rfl rfl trivial ?_
  refine ar_load tOk rfl rfl rfl trivial ?_
  refine ar_ob (w_dPut ([], 0) none [.int .i64 0, .bool true] oRel0 v hv) rfl rfl rfl rfl rfl rfl rfl (by intro d hd; cases hd; rfl) ?_
  rintro _ sl tl ⟨rfl, hr⟩
  refine ⟨rfl, ?_⟩
  refine ar_nil ?_
  refine ag_seq ?_
  refine ag_reg ?_
  refine ar_pure tOk rfl rfl rfl trivial ?_
  refine ar_load tOk rfl rfl rfl trivial ?_
  refine ar_ob (w_dPutVar _ sl tl hr u hu) rfl rfl rfl rfl rfl rfl rfl (by intro d hd; cases hd; rfl) ?_
  rintro _ sl tl ⟨rfl, hr⟩
  refine ⟨rfl, ?_⟩
  refine ar_nil ?_
  refine ag_seq ?_
  refine ag_reg ?_
  refine ar_pure tOk rfl rfl rfl trivial ?_
  refine ar_ob (w_ODone _ sl tl hr) rfl rfl rfl rfl rfl rfl rfl (by intro d hd; cases hd; rfl) ?_
  rintro _ sl tl ⟨rfl, hr⟩
  refine ⟨rfl, ?_⟩
  refine ar_pure tOk rfl rfl rfl trivial ?_
  refine ar_pure tOk rfl rfl rfl trivial ?_
  refine ar_pure tOk rfl rfl rfl trivial ?_
  refine ar_pure tOk rfl rfl rfl trivial ?_
  refine ar_pure tOk rfl rfl rfl trivial ?_
  refine ar_nil ?_
  refine ag_ent (ent_weak (g' := [(2, .ptr 0 0), (3, .ptr 1 0), (6, .r (.bs (pVar (pInv ([], 0) v) u).1)), (7, .r (.int .i64 (pVar (pInv ([], 0) v) u).2))]) (h' := ⟨2, [(0, some (.mixed ((invC v).map .r))), (1, some (.mixed ((varC u).map .r)))], false⟩) [0, 1] rfl rfl rfl rfl ?_ ?_ rfl) ?_
  · exact ⟨⟨rfl, rfl⟩, ⟨rfl, rfl⟩, ⟨rfl, rfl⟩, ⟨rfl, rfl⟩, trivial⟩
  · exact ⟨⟨rfl, rfl, rfl⟩, ⟨rfl, rfl, rfl⟩, trivial⟩
  refine ag_seq ?_
  apply ag_draw2 (h1 := ⟨3, [(2, some (.mixed [.r .nil, .r (.int .i64 0)])), (0, some (.mixed ((invC v).map .r))), (1, some (.mixed ((varC u).map .r)))], false⟩) [8] (by kernel_rfl) (by kernel_rfl)
  refine aq_pure tOk rfl rfl rfl ?_ ?_
  · simp
  refine aq_load1 tOk rfl (by kernel_rfl) rfl rfl rfl rfl trivial ⟨_, rfl, trivial⟩ ?_
  refine aq_pur (hP) rfl rfl rfl rfl rfl rfl rfl ?_
  refine aq_load1 tOk rfl (by kernel_rfl) rfl rfl rfl rfl trivial ⟨_, rfl, trivial⟩ ?_
  refine aq_pur (hQ) rfl rfl rfl rfl rfl rfl rfl ?_
  refine' aq_new20 tOk rfl rfl rfl rfl rfl ?_ ?_
  rotate_left 1
  · simp
  refine aq_store21 tOk rfl rfl rfl rfl trivial ?_
  refine aq_nil rfl ?_
  refine ag_seq ?_
  refine ag_seq ?_
  refine ag_draw0 (by kernel_rfl) (by kernel_rfl) ?_
  refine aq_pure tOk rfl rfl rfl trivial ?_
  refine aq_pur (w_num07 _) rfl rfl rfl rfl rfl rfl rfl ?_
  refine aq_pure tOk rfl rfl rfl trivial ?_
  refine aq_load0 tOk rfl (by kernel_rfl) rfl rfl trivial ?_
  refine aq_pure tOk rfl rfl rfl trivial ?_
  refine aq_pure tOk rfl rfl rfl trivial ?_
  refine aq_pure tOk rfl rfl (by simp) trivial ?_
  refine aq_pure tOk rfl rfl (by simp) trivial ?_
  refine aq_pure tOk rfl rfl (by simp) trivial ?_
  refine aq_load0 tOk rfl (by kernel_rfl) rfl (by simp) trivial ?_
  refine aq_pure tOk rfl rfl (by simp) trivial ?_
  refine aq_pure tOk rfl rfl (by simp) trivial ?_
  refine aq_pure tOk rfl rfl rfl trivial ?_
  refine aq_nil rfl ?_
  refine ag_false rfl (by simp) ?_
  refine ag_skip ?_
  refine ag_seq ?_
  refine ag_seq ?_
  refine ag_reg ?_
  refine ar_load tOk rfl rfl rfl trivial ?_
  refine ar_pur (c1) rfl rfl rfl rfl rfl rfl rfl ?_
  refine ar_pure tOk rfl rfl rfl trivial ?_
  refine ar_ent (ent_reg 44 (.r (.bool false)) (by show AVal.r (.bool _) = _; exact eqB (by rw [invE, if_neg h1]; rfl))) ?_
  refine ar_pure tOk rfl rfl rfl trivial ?_
  refine ar_load tOk rfl rfl (by simp) trivial ?_
  refine ar_pur (c2) rfl rfl rfl rfl rfl rfl (by simp) ?_
  refine ar_pure tOk rfl rfl (by simp) trivial ?_
  refine ar_pure tOk rfl rfl rfl trivial ?_
  refine ar_nil ?_
  refine ag_false rfl (by show decide (varE u ≠ 0) = false; rw [varE, if_neg h2]; rfl) ?_
  refine ag_skip ?_
  refine ag_seq ?_
  refine ag_ent (ent_reg 7 (.r (.int .i64 0)) (by show AVal.r (.int _ _) = _; exact eqI hpe.2)) ?_
  refine ag_reg ?_
  refine ar_pure tOk rfl rfl rfl trivial ?_
  refine ar_ent (ent_reg 50 (.r (.bs B)) (by show AVal.r (.bs _) = _; exact eqBsv hpe.1)) ?_
  refine ar_obj [] (hOp) rfl rfl (handed_of rfl rfl (by decide) trivial) rfl rfl rfl rfl ?_
  rintro _ _ ⟨rfl, rfl⟩
  refine ⟨_, _, rfl, ?_⟩
  refine ar_pure tOk rfl rfl rfl trivial ?_
  refine ar_nil ?_
  refine ag_ent (ent_weak (g' := [(2, .ptr 0 0), (3, .ptr 1 0), (7, .r (.int .i64 0)), (9, .ptr 2 0)]) (h' := ⟨3, [(0, some (.mixed ((invC v).map .r))), (1, some (.mixed ((varC u).map .r))), (2, some (.mixed [.r (.bs q.1), .r (.int .i64 q.2), .r (.bool true)]))], false⟩) [0, 1, 3] rfl rfl rfl rfl ?_ ?_ rfl) ?_
  · exact ⟨⟨rfl, rfl⟩, ⟨rfl, rfl⟩, ⟨rfl, rfl⟩, ⟨rfl, rfl⟩, trivial⟩
  · exact ⟨⟨rfl, rfl, rfl⟩, ⟨rfl, rfl, rfl⟩, ⟨rfl, rfl, rfl⟩, trivial⟩
  refine ag_seq ?_
  refine ag_draw (Hs := hsL [⟨3, [(0, some (.mixed ((invC v).map .r))), (1, some (.mixed ((varC u).map .r))), (2, some (.mixed [.r (.bs q.1), .r (.int .i64 q.2), .r (.bool true)]))], false⟩, ⟨3, [(0, some (.mixed ((invC v).map .r))), (1, some (.mixed ((varC u).map .r))), (2, some (.mixed [.r (.bs (varB u)), .r (.int .i64 0), .r (.bool true)]))], false⟩, ⟨3, [(0, some (.mixed ((invC v).map .r))), (1, some (.mixed ((varC u).map .r))), (2, some (.mixed [.r (.bs []), .r (.int .i64 0), .r (.bool true)]))], false⟩, ⟨3, [(0, some (.mixed ((invC v).map .r))), (1, some (.mixed ((varC u).map .r))), (2, some (.mixed [.r (.bs []), .r (.int .i64 0), .r (.bool true)]))], false⟩, ⟨3, [(0, some (.mixed ((invC v).map .r))), (1, some (.mixed ((varC u).map .r))), (2, some (.mixed [.r (.bs []), .r (.int .i64 0), .r (.bool true)]))], false⟩]) (K := 4) [56, 62, 68, 73] (by kernel_rfl) (by kernel_rfl) ?_
  refine aq_pure tOk rfl rfl rfl trivial ?_
  refine aq_pure tOk rfl rfl rfl trivial ?_
  refine aq_pure tOk rfl rfl rfl trivial ?_
  refine aq_pure tOk rfl rfl (by simp) trivial ?_
  refine aq_objS [2] (d1) rfl rfl rfl (handed_of rfl rfl (by decide) ⟨rfl, rfl, rfl, trivial⟩) rfl rfl rfl ⟨rfl, rfl, rfl, trivial⟩ rfl rfl (by simp) rfl rfl ?_
  refine aq_load1 tOk rfl (by kernel_rfl) rfl rfl rfl (by simp) trivial ⟨_, rfl, trivial⟩ ?_
  refine aq_pure tOk rfl rfl (by simp) trivial ?_
  refine aq_pure tOk rfl rfl rfl trivial ?_
  refine aq_pure tOk rfl rfl rfl trivial ?_
  refine aq_pure tOk rfl rfl (by simp) trivial ?_
  refine aq_objS [2] (d2) rfl rfl rfl (handed_of rfl rfl (by decide) ⟨rfl, rfl, rfl, trivial⟩) rfl rfl rfl ⟨rfl, rfl, rfl, trivial⟩ rfl rfl (by simp) rfl rfl ?_
  refine aq_load2 tOk rfl (by kernel_rfl) rfl rfl rfl (by simp) trivial ⟨_, rfl, trivial⟩ ⟨_, rfl, trivial⟩ ?_
  refine aq_pure tOk rfl rfl (by simp) trivial ?_
  refine aq_pure tOk rfl rfl rfl trivial ?_
  refine aq_pure tOk rfl rfl rfl trivial ?_
  refine aq_pure tOk rfl rfl (by simp) trivial ?_
  refine aq_objS [2] (w_Err [] 0) rfl rfl rfl (handed_of rfl rfl (by decide) ⟨rfl, rfl, rfl, trivial⟩) rfl rfl rfl ⟨rfl, rfl, rfl, trivial⟩ rfl rfl (by simp) rfl rfl ?_
  refine aq_pure tOk rfl rfl (by simp) trivial ?_
  refine aq_pure tOk rfl rfl rfl trivial ?_
  refine aq_pure tOk rfl rfl rfl trivial ?_
  refine aq_pure tOk rfl rfl (by simp) trivial ?_
  refine aq_objS [2] (w_Left [] 0) rfl rfl rfl (handed_of rfl rfl (by decide) ⟨rfl, rfl, rfl, trivial⟩) rfl rfl rfl ⟨rfl, rfl, rfl, trivial⟩ rfl rfl (by simp) rfl rfl ?_
  refine aq_pure tOk rfl rfl (by simp) trivial ?_
  refine aq_pure tOk rfl rfl rfl trivial ?_
  refine aq_pure tOk rfl rfl rfl trivial ?_
  refine aq_nil rfl ?_
  refine ag_ret tOk Try.func6 rfl rfl (by simp) ?_
  exact eqB (by simp)

theorem w_DealBack (v : InvV) (hv : v.ok) (u : VarV) (hu : u.ok) : Pur Try.prog 6 [invA v, varA u] (.r (.bool true)) := by
  by_cases hb : invBad v ∨ varBad u
  · exact w_DealBackN v hv u hu hb
  · exact w_DealBackG v hv u hu (fun q => hb (.inl q)) (fun q => hb (.inr q))

end Go.Proofs.Ytbofioheoohlgaa

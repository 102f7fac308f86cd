/-
  Transfers and data that may be come back. (Printed by gen.py out of w_dealb.py.)
-/
import Derived.Test.YtnodpljgcdkbkaaFApp
import Derived.Test.YtnodpljgcdkbkaaDeal2
namespace Go.Proofs.Ytnodpljgcdkbkaa
open Go
set_option maxRecDepth 20000
set_option linter.unusedVariables false
set_option linter.unusedSimpArgs false
def invB (v : InvV) : List UInt8 := txt [105, 110, 118] ++ (numL 6 v.u ++ (txt v.root ++ (numL 6 v.r ++ (numL 6 v.s ++ (numL 6 v.c ++ (numL 6 v.t ++ txt v.id))))))
def varB (u : VarV) : List UInt8 := wideL u.x0 u.x1 u.x2 u.x3 ++ numL 6 u.e
theorem inv_facts {v : InvV} (h : ¬ invBad v) : ¬ badN v.u ∧ ¬ badN v.r ∧ ¬ badN v.s ∧ ¬ badN v.c ∧ ¬ badN v.t ∧ v.root.length = 8 ∧ 1 ≤ v.id.length ∧ v.id.length ≤ 16 := by
  unfold invBad at h; unfold badN
  omega
theorem invB_length {v : InvV} (h : ¬ invBad v) : (invB v).length ≤ 63 := by
  obtain ⟨_, _, _, _, _, h1, h2, h3⟩ := inv_facts h
  simp only [invB, List.length_append, numL_length, txt_length, List.length_cons, List.length_nil]; omega
theorem varB_length (u : VarV) : (varB u).length = 38 := by simp [varB, wideL_length, numL_length]
theorem pInv_ok {v : InvV} (h : ¬ invBad v) {B : List UInt8} (hB : B.length ≤ 8000) : pInv (B, 0) v = (B ++ invB v, 0) := by
  obtain ⟨a1, a2, a3, a4, a5, h1, h2, h3⟩ := inv_facts h
  have l3 : ([105, 110, 118] : List UInt8).length = 3 := rfl
  unfold pInv
  rw [wtxt_ok (by decide) (by omega), wnum_ok a1 (by simp [txt_length, numL_length]; omega), wtxt_ok (by omega) (by simp [txt_length, numL_length]; omega), wnum_ok a2 (by simp [txt_length, numL_length]; omega), wnum_ok a3 (by simp [txt_length, numL_length]; omega), wnum_ok a4 (by simp [txt_length, numL_length]; omega), wnum_ok a5 (by simp [txt_length, numL_length]; omega), wtxt_ok (by omega) (by simp [txt_length, numL_length]; omega)]
  simp [invB]
theorem pVar_ok {u : VarV} (h : ¬ varBad u) {B : List UInt8} (hB : B.length ≤ 8100) : pVar (B, 0) u = (B ++ varB u, 0) := by
  unfold pVar
  rw [wwid_ok (by omega), wnum_ok (by unfold varBad at h; unfold badN; omega) (by simp [wideL_length]; omega)]
  simp [varB]
theorem gInv_ok {v : InvV} (h : ¬ invBad v) (r : List UInt8) : gInv (invB v ++ r, 0) = (v, (r, 0)) := by
  obtain ⟨a1, a2, a3, a4, a5, h1, h2, h3⟩ := inv_facts h
  have b1 : v.u ≤ M40 ∧ v.r ≤ M40 ∧ v.s ≤ M40 ∧ v.c ≤ M40 ∧ v.t ≤ M40 := by unfold invBad at h; unfold M40; omega
  obtain ⟨u, root, rr, s, c, t, id⟩ := v
  simp only [gInv, invB, List.append_assoc]
  rw [gTx_ap (by decide) (by decide), gNu_ap a1 b1.1, gTx_ap (by simp only at h1; omega) (by simp only at h1; omega), gNu_ap a2 b1.2.1, gNu_ap a3 b1.2.2.1, gNu_ap a4 b1.2.2.2.1, gNu_ap a5 b1.2.2.2.2, gTx_ap (by simp only at h3; omega) (by simp only at h3; omega)]
  rw [gInvV, if_neg (by rintro (q | q | q); exact q rfl; exact q rfl; exact h q)]
theorem gVar_ok {u : VarV} (hu : u.ok) (h : ¬ varBad u) (r : List UInt8) : gVar (varB u ++ r, 0) = (u, (r, 0)) := by
  obtain ⟨x0, x1, x2, x3, e⟩ := u
  obtain ⟨f0, f1, f2, f3⟩ := fBs_wide hu.h0 hu.h1 hu.h2 hu.h3
  have hb : ¬ badN e ∧ e ≤ M40 := by unfold varBad at h; unfold badN M40; simp only at h; omega
  simp only [gVar, varB, List.append_assoc]
  simp only at f0 f1 f2 f3
  rw [tkW_ap, gNu_ap hb.1 hb.2]
  have hv : varOf (wideL x0 x1 x2 x3) e = ⟨x0, x1, x2, x3, e⟩ := by rw [varOf, f0, f1, f2, f3]
  rw [gVarV, hv, if_neg (by rintro (q | q); exact q rfl; exact h q)]
end Go.Proofs.Ytnodpljgcdkbkaa


/-
  Fields that can be put, and come back. (Printed by gen.py out of w_fapp.py.)
-/
import Derived.Test.YtnodpljgcdkbkaaFObj
namespace Go.Proofs.Ytnodpljgcdkbkaa
open Go
set_option maxRecDepth 20000
set_option linter.unusedVariables false
set_option linter.unusedSimpArgs false
theorem tkR_ap {a r : List UInt8} {n : Int} (hn : n = (a.length : Nat)) : tkR (a ++ r, 0) n = (a, (r, 0)) := by
  subst hn
  rw [tkR_w (by simp)]
  simp
theorem intB_nm {n : Int} {k : Nat} (hk : k ≤ 7) (h : 0 ≤ n ∧ n < 256 ^ k) : intB (numL k n) = n := by
  rw [intB, List.take_of_length_le (by rw [numL_length]; omega), intF_numL]
  exact Int.emod_eq_of_lt h.1 h.2
theorem gNu_ap {n m : Int} {r : List UInt8} (hn : ¬ badN n) (hm : n ≤ m) : gNu (numL 6 n ++ r, 0) m = (n, (r, 0)) := by
  unfold badN at hn
  unfold gNu
  rw [tkR_ap (by rw [numL_length]; rfl), intB_nm (by decide) ⟨by omega, by omega⟩, if_neg (by omega)]
theorem gTx_ap {t r : List UInt8} {m : Int} (ht : ¬ t.length > 1024) (hm : (t.length : Int) ≤ m) : gTx (txt t ++ r, 0) m = (t, (r, 0)) := by
  unfold gTx
  have e : txt t ++ r = numL 2 (t.length : Int) ++ (t ++ r) := by simp [txt]
  rw [e, tkR_ap (by rw [numL_length]; rfl), intB_nm (by decide) ⟨by omega, by omega⟩, if_neg (by omega)]
  exact tkR_ap rfl
theorem tkW_ap {x0 x1 x2 x3 : Int} {r : List UInt8} : tkR (wideL x0 x1 x2 x3 ++ r, 0) 32 = (wideL x0 x1 x2 x3, (r, 0)) := tkR_ap (by rw [wideL_length]; rfl)
theorem fBs_wide {x0 x1 x2 x3 : Int} (h0 : U64 x0) (h1 : U64 x1) (h2 : U64 x2) (h3 : U64 x3) : fB (wideL x0 x1 x2 x3) 24 8 = x0 ∧ fB (wideL x0 x1 x2 x3) 16 8 = x1 ∧ fB (wideL x0 x1 x2 x3) 8 8 = x2 ∧ fB (wideL x0 x1 x2 x3) 0 8 = x3 := by
  have h := fB_wide x0 x1 x2 x3 h0 h1 h2 h3
  simp only [wA, AVal.agg.injEq, List.cons.injEq, AVal.r.injEq, RVal.int.injEq, true_and, and_true] at h
  exact h
theorem wnum_ok {B : List UInt8} {n : Int} (hn : ¬ badN n) (hl : B.length + 6 ≤ 8192) : wnum (B, 0) n = (B ++ numL 6 n, 0) := by
  rw [wnum, if_neg hn, wput, if_neg (by simp), if_neg (by simp), if_neg (by rw [numL_length]; simp only; omega)]
theorem wtxt_ok {B t : List UInt8} (hn : ¬ t.length > 1024) (hl : B.length + (2 + t.length) ≤ 8192) : wtxt (B, 0) t = (B ++ txt t, 0) := by
  rw [wtxt, if_neg hn, wput, if_neg (by simp), if_neg (by simp), if_neg (by rw [txt_length]; simp only; omega)]
theorem wwid_ok {B : List UInt8} {x0 x1 x2 x3 : Int} (hl : B.length + 32 ≤ 8192) : wwid (B, 0) x0 x1 x2 x3 = (B ++ wideL x0 x1 x2 x3, 0) := by
  rw [wwid, wput, if_neg (by simp), if_neg (by simp), if_neg (by rw [wideL_length]; simp only; omega)]
theorem opR_ok {B : List UInt8} (hl : B.length ≤ 8192) : opR B = (B, 0) := by rw [opR, if_neg (by omega)]
end Go.Proofs.Ytnodpljgcdkbkaa


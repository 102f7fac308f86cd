/-
  Fields back to their octets. (Printed by gen.py out of w_finv.py.)
-/
import Derived.Test.YtnodpljgcdkbkaaDealB
namespace Go.Proofs.Ytnodpljgcdkbkaa
open Go
set_option maxRecDepth 20000
set_option linter.unusedVariables false
set_option linter.unusedSimpArgs false
theorem spR_ne (w : W) : (spR w).2 ≠ 0 := by
  unfold spR; split
  · decide
  · assumption
theorem numL_intF : ∀ (k : Nat) (l : List UInt8), l.length = k → numL k (intF l) = l
  | 0, l, h => by rw [List.length_eq_zero_iff.1 h]; rfl
  | k + 1, l, h => by
    rcases List.eq_nil_or_concat l with rfl | ⟨l', c, rfl⟩
    · simp at h
    · rw [List.concat_eq_append] at h ⊢
      have hl : l'.length = k := by simpa using h
      have hc : c.toNat < 256 := c.toNat_lt
      rw [intF_snoc, numL, show (intF l' * 256 + (c.toNat : Int)) / 256 = intF l' by omega, show (intF l' * 256 + (c.toNat : Int)) % 256 = (c.toNat : Int) by omega, numL_intF k l' hl]
      simp
theorem tkR_inv {w : W} {n : Int} (hn : 0 ≤ n) (h : (tkR w n).2.2 = 0) : w.2 = 0 ∧ ((tkR w n).1.length : Int) = n ∧ w.1 = (tkR w n).1 ++ (tkR w n).2.1 := by
  unfold tkR at h ⊢
  by_cases h1 : w.2 ≠ 0
  · rw [if_pos h1] at h; exact absurd h h1
  · rw [if_neg h1] at h ⊢
    by_cases h2 : n > (w.1.length : Int)
    · rw [if_pos h2] at h; exact absurd h (by decide)
    · rw [if_neg h2]
      refine ⟨by omega, ?_, ?_⟩
      · simp; omega
      · simp
theorem gNu_inv {w : W} {m : Int} (h : (gNu w m).2.2 = 0) : w.2 = 0 ∧ ¬ badN (gNu w m).1 ∧ (gNu w m).1 ≤ m ∧ w.1 = numL 6 (gNu w m).1 ++ (gNu w m).2.1 := by
  unfold gNu at h ⊢
  split at h
  · simp at h
  · rename_i hc
    rw [if_neg hc]
    simp only at h ⊢
    obtain ⟨h1, h2, h3⟩ := tkR_inv (by decide) h
    have h4 : (tkR w 6).1.length = 6 := by omega
    have h5 : intB (tkR w 6).1 = intF (tkR w 6).1 := by rw [intB, List.take_of_length_le (by omega)]
    have h6 : 0 ≤ intF (tkR w 6).1 := by
      have := (intF_bound 6 (tkR w 6).1 (by omega)).1
      rwa [List.take_of_length_le (by omega)] at this
    rw [h5] at hc ⊢
    refine ⟨h1, ?_, ?_, ?_⟩
    · unfold badN; omega
    · omega
    · rw [numL_intF 6 _ h4]; exact h3
theorem gTx_inv {w : W} {m : Int} (h : (gTx w m).2.2 = 0) : w.2 = 0 ∧ (gTx w m).1.length ≤ 1024 ∧ ((gTx w m).1.length : Int) ≤ m ∧ w.1 = txt (gTx w m).1 ++ (gTx w m).2.1 := by
  unfold gTx at h ⊢
  split at h
  · simp at h
  · rename_i hc
    rw [if_neg hc]
    have h6 : 0 ≤ intB (tkR w 2).1 := by
      have := (intF_bound _ ((tkR w 2).1.take 7) (Nat.le_refl _)).1
      rwa [List.take_of_length_le (Nat.le_refl _)] at this
    obtain ⟨g1, g2, g3⟩ := tkR_inv h6 h
    obtain ⟨h1, h2, h3⟩ := tkR_inv (by decide) g1
    have h4 : (tkR w 2).1.length = 2 := by omega
    have h5 : intB (tkR w 2).1 = intF (tkR w 2).1 := by rw [intB, List.take_of_length_le (by omega)]
    have hI : numL 2 (intB (tkR w 2).1) = (tkR w 2).1 := by rw [h5, numL_intF 2 _ h4]
    refine ⟨h1, by omega, by omega, ?_⟩
    rw [txt, g2, hI, List.append_assoc, ← g3]
    exact h3
theorem wide_inv {b : List UInt8} (h : b.length = 32) : wideL (fB b 24 8) (fB b 16 8) (fB b 8 8) (fB b 0 8) = b := by
  unfold wideL fB
  rw [numL_intF 8 _ (by simp; omega), numL_intF 8 _ (by simp; omega), numL_intF 8 _ (by simp; omega), numL_intF 8 _ (by simp; omega)]
  rw [show (b.drop 24).take 8 = b.drop 24 from List.take_of_length_le (by simp; omega)]
  have e1 : (b.drop 16).take 8 ++ b.drop 24 = b.drop 16 := by rw [show b.drop 24 = (b.drop 16).drop 8 by simp]; exact List.take_append_drop 8 _
  have e2 : (b.drop 8).take 8 ++ b.drop 16 = b.drop 8 := by rw [show b.drop 16 = (b.drop 8).drop 8 by simp]; exact List.take_append_drop 8 _
  rw [e1, e2, List.drop_zero]
  exact List.take_append_drop 8 _
theorem gInv_inv {w : W} (h : (gInv w).2.2 = 0) : w.2 = 0 ∧ ¬ invBad (gInv w).1 ∧ w.1 = invB (gInv w).1 ++ (gInv w).2.1 := by
  unfold gInv at h ⊢
  simp only at h ⊢
  generalize e1 : gTx w 16 = a at h ⊢
  generalize e2 : gNu a.2 M40 = b at h ⊢
  generalize e3 : gTx b.2 8 = c at h ⊢
  generalize e4 : gNu c.2 M40 = d at h ⊢
  generalize e5 : gNu d.2 M40 = e at h ⊢
  generalize e6 : gNu e.2 M40 = f at h ⊢
  generalize e7 : gNu f.2 M40 = g at h ⊢
  generalize e8 : gTx g.2 16 = k at h ⊢
  unfold gInvV at h ⊢
  split at h
  · exact absurd h (spR_ne _)
  · rename_i hc
    rw [if_neg hc]
    simp only [not_or, Decidable.not_not] at hc h ⊢
    obtain ⟨c1, c2, c3⟩ := hc
    obtain ⟨q8, -, -, p8⟩ := gTx_inv (w := g.2) (m := 16) (by rw [e8]; exact h)
    obtain ⟨q7, -, -, p7⟩ := gNu_inv (w := f.2) (m := M40) (by rw [e7]; exact q8)
    obtain ⟨q6, -, -, p6⟩ := gNu_inv (w := e.2) (m := M40) (by rw [e6]; exact q7)
    obtain ⟨q5, -, -, p5⟩ := gNu_inv (w := d.2) (m := M40) (by rw [e5]; exact q6)
    obtain ⟨q4, -, -, p4⟩ := gNu_inv (w := c.2) (m := M40) (by rw [e4]; exact q5)
    obtain ⟨q3, -, -, p3⟩ := gTx_inv (w := b.2) (m := 8) (by rw [e3]; exact q4)
    obtain ⟨q2, -, -, p2⟩ := gNu_inv (w := a.2) (m := M40) (by rw [e2]; exact q3)
    obtain ⟨q1, -, -, p1⟩ := gTx_inv (w := w) (m := 16) (by rw [e1]; exact q2)
    rw [e1] at p1; rw [e2] at p2; rw [e3] at p3; rw [e4] at p4; rw [e5] at p5; rw [e6] at p6; rw [e7] at p7; rw [e8] at p8
    refine ⟨q1, c3, ?_⟩
    rw [p1, p2, p3, p4, p5, p6, p7, p8, c2]
    simp [invB]
theorem gVar_inv {w : W} (h : (gVar w).2.2 = 0) : w.2 = 0 ∧ (gVar w).1.ok ∧ ¬ varBad (gVar w).1 ∧ w.1 = varB (gVar w).1 ++ (gVar w).2.1 := by
  unfold gVar at h ⊢
  simp only at h ⊢
  generalize e1 : tkR w 32 = a at h ⊢
  generalize e2 : gNu a.2 M40 = b at h ⊢
  unfold gVarV at h ⊢
  split at h
  · exact absurd h (spR_ne _)
  · rename_i hc
    rw [if_neg hc]
    simp only [not_or, Decidable.not_not] at hc h ⊢
    obtain ⟨c1, c3⟩ := hc
    obtain ⟨q2, -, -, p2⟩ := gNu_inv (w := a.2) (m := M40) (by rw [e2]; exact h)
    obtain ⟨q1, l1, p1⟩ := tkR_inv (w := w) (n := 32) (by decide) (by rw [e1]; exact q2)
    rw [e1] at p1 l1; rw [e2] at p2
    have l : a.1.length = 32 := by omega
    refine ⟨q1, ⟨fB8 (by omega) (by decide), fB8 (by omega) (by decide), fB8 (by omega) (by decide), fB8 (by omega) (by decide)⟩, c3, ?_⟩
    rw [p1, p2, varB, varOf, wide_inv l, List.append_assoc]
end Go.Proofs.Ytnodpljgcdkbkaa


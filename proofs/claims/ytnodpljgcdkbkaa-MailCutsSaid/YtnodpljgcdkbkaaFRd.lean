/-
  WALKS: fields read, by the reference. (Printed by gen.py out of w_frd.py.)
-/
import Derived.Test.YtnodpljgcdkbkaaFWr
import Derived.Test.YtnodpljgcdkbkaaMB
namespace Go.Proofs.Ytnodpljgcdkbkaa
open Go
set_option maxRecDepth 20000
set_option linter.unusedVariables false
set_option linter.unusedSimpArgs false
/-- So many octets, of octets on their way with an error or none. -/
def tkR (w : List UInt8 × Int) (n : Int) : List UInt8 × (List UInt8 × Int) := if w.2 ≠ 0 then ([], w) else if n > (w.1.length : Int) then ([], ([], 16)) else (w.1.take n.toNat, (w.1.drop n.toNat, 0))
def gNu (w : List UInt8 × Int) (m : Int) : Int × (List UInt8 × Int) := if (tkR w 6).2.2 = 0 ∧ intB (tkR w 6).1 > min m 1099511627776 then (0, ([], 4)) else (intB (tkR w 6).1, (tkR w 6).2)
def gTx (w : List UInt8 × Int) (m : Int) : List UInt8 × (List UInt8 × Int) := if (tkR w 2).2.2 = 0 ∧ intB (tkR w 2).1 > min m 1024 then ([], ([], 4)) else tkR (tkR w 2).2 (intB (tkR w 2).1)
def spR (w : List UInt8 × Int) : List UInt8 × Int := if w.2 = 0 then ([], 16) else w
def opR (b : List UInt8) : List UInt8 × Int := if b.length > 8192 then ([], 5) else (b, 0)
/-- Four words of 32 octets; of none they are zero. -/
def wd (b : List UInt8) : AVal := wA (fB b 24 8) (fB b 16 8) (fB b 8 8) (fB b 0 8)
theorem fB_nil (s n : Nat) : fB [] s n = 0 := by simp [fB, intF]
theorem wd_nil : wd [] = wA 0 0 0 0 := by unfold wd; simp only [fB_nil]
theorem intF_nn (b : List UInt8) : 0 ≤ intB b := by
  unfold intB
  have := (intF_bound (b.take 7).length (b.take 7) (Nat.le_refl _)).1
  rwa [List.take_length] at this
theorem tkR_e {w : List UInt8 × Int} (n : Int) (he : w.2 ≠ 0) : tkR w n = ([], w) := by unfold tkR; rw [if_pos he]
theorem tkR_l {s : List UInt8} {n : Int} (h : n > (s.length : Int)) : tkR (s, 0) n = ([], ([], 16)) := by unfold tkR; rw [if_neg (by simp), if_pos h]
theorem tkR_w {s : List UInt8} {j : Nat} (h : j ≤ s.length) : tkR (s, 0) (j : Int) = (s.take j, (s.drop j, 0)) := by unfold tkR; rw [if_neg (by simp), if_neg (by simp; omega)]; simp
theorem intB_nil : intB [] = 0 := by simp [intB, intF]
theorem w_INum (w : List UInt8 × Int) (m : Int) : Spec Try.prog 50 [.ptr 0 0, .r (.int .i64 m)] (iH w.1 w.2) (fun v h' => v = .r (.int .i64 (gNu w m).1) ∧ h' = iH ((gNu w m).2).1 ((gNu w m).2).2) := by
  obtain ⟨s, e⟩ := w
  by_cases h1 : e = 0
  · subst h1
    by_cases h2 : 6 ≤ s.length
    · have ht : tkR (s, 0) 6 = (s.take 6, (s.drop 6, 0)) := tkR_w (j := 6) h2
      unfold gNu
      rw [ht]
      by_cases h3 : intB (s.take 6) > min m 1099511627776
      · rw [if_pos ⟨rfl, h3⟩]; exact w_INumR s m h2 h3
      · rw [if_neg (fun h => h3 h.2)]; exact w_INumW s m h2 h3
    · have ht : tkR (s, 0) 6 = ([], ([], 16)) := tkR_l (by omega)
      unfold gNu
      rw [ht, if_neg (fun h => absurd h.1 (by decide)), intB_nil]
      exact w_INumL s m (by omega)
  · unfold gNu
    rw [tkR_e 6 h1, if_neg (fun h => h1 h.1), intB_nil]
    exact w_INumE s e m h1
theorem w_IText (w : List UInt8 × Int) (m : Int) : Spec Try.prog 53 [.ptr 0 0, .r (.int .i64 m)] (iH w.1 w.2) (fun v h' => v = .r (.str (gTx w m).1) ∧ h' = iH ((gTx w m).2).1 ((gTx w m).2).2) := by
  obtain ⟨s, e⟩ := w
  by_cases h1 : e = 0
  · subst h1
    by_cases h2 : 2 ≤ s.length
    · have ht : tkR (s, 0) 2 = (s.take 2, (s.drop 2, 0)) := tkR_w (j := 2) h2
      unfold gTx
      rw [ht]
      by_cases h3 : intB (s.take 2) > min m 1024
      · rw [if_pos ⟨rfl, h3⟩]; exact w_ITextR s m h2 h3
      · rw [if_neg (fun h => h3 h.2)]
        by_cases h4 : intB (s.take 2) > ((s.drop 2).length : Int)
        · simp only
          rw [tkR_l h4]; exact w_ITextM s m h2 h3 h4
        · obtain ⟨j, hj⟩ := Int.eq_ofNat_of_zero_le (intF_nn (s.take 2))
          simp only
          rw [hj, tkR_w (by omega)]
          exact w_ITextW s m j h2 hj (by omega) (by omega)
    · have ht : tkR (s, 0) 2 = ([], ([], 16)) := tkR_l (by omega)
      unfold gTx
      rw [ht, if_neg (fun h => absurd h.1 (by decide)), intB_nil]
      simp only
      rw [tkR_e 0 (by decide)]
      exact w_ITextL s m (by omega)
  · unfold gTx
    rw [tkR_e 2 h1, if_neg (fun h => h1 h.1), intB_nil]
    simp only
    rw [tkR_e 0 h1]
    exact w_ITextE s e m h1
theorem w_IWide (w : List UInt8 × Int) : Spec Try.prog 52 [.ptr 0 0] (iH w.1 w.2) (fun v h' => v = wd (tkR w 32).1 ∧ h' = iH ((tkR w 32).2).1 ((tkR w 32).2).2) := by
  obtain ⟨s, e⟩ := w
  by_cases h1 : e = 0
  · subst h1
    by_cases h2 : 32 ≤ s.length
    · rw [show tkR (s, 0) 32 = (s.take 32, (s.drop 32, 0)) from tkR_w (j := 32) h2]
      exact w_IWideW s h2
    · rw [show tkR (s, 0) 32 = ([], ([], 16)) from tkR_l (by omega), wd_nil]
      exact w_IWideL s (by omega)
  · rw [tkR_e 32 h1, wd_nil]
    exact w_IWideE s e h1
theorem w_ISpoil (w : List UInt8 × Int) : Spec Try.prog 103 [.ptr 0 0] (iH w.1 w.2) (fun v h' => v = .tuple [] ∧ h' = iH (spR w).1 (spR w).2) := by
  obtain ⟨s, e⟩ := w
  unfold spR
  by_cases h : e = 0
  · subst h; exact w_SpoilW s
  · rw [if_neg h]; exact w_SpoilE s e h
theorem w_IOpen (b : List UInt8) : Spec Try.prog 49 [.r (.bs b)] ⟨0, [], false⟩ (fun v h' => v = .ptr 0 0 ∧ h' = iH (opR b).1 (opR b).2) := by
  unfold opR
  by_cases h : b.length > 8192
  · rw [if_pos h]; exact w_OpenL b h
  · rw [if_neg h]; exact w_OpenW b (by omega)
end Go.Proofs.Ytnodpljgcdkbkaa


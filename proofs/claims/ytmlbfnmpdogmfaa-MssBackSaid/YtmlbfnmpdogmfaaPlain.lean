/-
  WALKS: lists held against each other, plainly. (Printed by gen.py out of w_plain.py.)
-/
import Derived.Test.YtmlbfnmpdogmfaaODig
namespace Go.Proofs.Ytmlbfnmpdogmfaa
open Go
set_option maxRecDepth 20000
set_option linter.unusedVariables false
set_option linter.unusedSimpArgs false

def sL (l : List (List UInt8)) : List RVal := l.map .str
def roS (l : List (List UInt8)) : AVal := .r (.ro l.length (sL l))
theorem take_ne {α : Type} {A B : List α} {i : Nat} {a b : α} (ha : A[i]? = some a) (hb : B[i]? = some b) (h : a ≠ b) : A ≠ B := by
  rintro rfl
  rw [ha] at hb
  exact h (Option.some.inj hb)
theorem take_all {α : Type} {A B : List α} {i : Nat} (hl : A.length = B.length) (h : A.take i = B.take i) (hi : ¬ ((i : Int) < (A.length : Int))) : A = B := by
  rw [List.take_of_length_le (by omega), List.take_of_length_le (by omega)] at h
  exact h
theorem take_more {α : Type} {A B : List α} {i : Nat} {a b : α} (ha : A[i]? = some a) (hb : B[i]? = some b) (h : A.take i = B.take i) (e : a = b) : A.take (i + 1) = B.take (i + 1) := by
  rw [List.take_add_one, List.take_add_one, ha, hb, h, e]
theorem getI2 {α : Type} {A B : List α} {i : Nat} (h : (i : Int) < (A.length : Int)) (hl : A.length = B.length) : ∃ a b, A[i]? = some a ∧ B[i]? = some b := ⟨A[i]'(by omega), B[i]'(by omega), by simp, by simp⟩

def stInts_0 (A B : List Int) : Nat → Regs × Hp := fun i => ([(0, roI A), (1, roI B), (5, .r (.int .i64 (i : Int)))], ⟨0, [], false⟩)
def prInts_0 (A B : List Int) : Nat → Prop := fun i => A.take i = B.take i
theorem w_Ints (A B : List Int) (hA : A.length ≤ 9223372036854775807) : Pur Try.prog 12 [roI A, roI B] (.r (.bool (decide (A = B)))) := by
  refine spec_of_go (N := 26) Try.func12 rfl (by decide) rfl rfl ?_
  refine ag_seq ?_
  refine ag_reg ?_
  refine ar_pure tOk rfl rfl rfl trivial ?_
  refine ar_nil ?_
  refine ag_seq ?_
  refine ag_seq ?_
  refine ag_reg ?_
  refine ar_pure tOk rfl rfl rfl trivial ?_
  refine ar_pure tOk rfl rfl rfl trivial ?_
  refine ar_pure tOk rfl rfl rfl trivial ?_
  refine ar_pure tOk rfl rfl rfl trivial ?_
  refine ar_pure tOk rfl rfl rfl trivial ?_
  refine ar_nil ?_
  refine ag_if rfl ?_ ?_
  · intro h10
    refine ag_seq ?_
    refine ag_reg ?_
    refine ar_pure tOk rfl rfl rfl trivial ?_
    refine ar_nil ?_
    refine ag_ret tOk Try.func12 rfl rfl (by simp) ?_
    exact eqB (decide_eq_false (fun e => h10 (by rw [e]))).symm
  · intro h10
    have hl : A.length = B.length := by omega
    refine ag_skip ?_
    refine ag_seq ?_
    refine ag_seq ?_
    refine ag_reg ?_
    refine ar_pure tOk rfl rfl rfl trivial ?_
    refine ar_nil ?_
    refine ag_block ?_
    refine ag_loopS (stInts_0 A B) (prInts_0 A B) (fun (i : Nat) => A.length - i) 0 (ent_weak [] rfl rfl rfl rfl ?_ ?_ rfl) (show prInts_0 A B 0 from ?_) ?_
    · exact ⟨⟨rfl, rfl⟩, ⟨rfl, rfl⟩, ⟨rfl, rfl⟩, trivial⟩
    · trivial
    · exact rfl
    rintro i hp hrec
    have hp : A.take i = B.take i := hp
    refine ag_seq ?_
    refine ag_seq ?_
    refine ag_reg ?_
    refine ar_pure tOk rfl rfl rfl trivial ?_
    refine ar_pure tOk rfl rfl rfl trivial ?_
    refine ar_pure tOk rfl rfl rfl trivial ?_
    refine ar_pure tOk rfl rfl rfl trivial ?_
    refine ar_nil ?_
    refine ag_if rfl ?_ ?_
    · intro h14
      obtain ⟨a, b, ha, hb⟩ := getI2 h14 hl
      have hlt : i < A.length := by omega
      refine ag_skip ?_
      refine ag_seq ?_
      refine ag_block ?_
      refine ag_seq ?_
      refine ag_draw0 (by kernel_rfl) (by kernel_rfl) ?_
      refine aq_pure tOk rfl rfl rfl trivial ?_
      refine aq_pure tOk rfl rfl rfl trivial ?_
      refine aq_pure tOk rfl rfl rfl ?_ ?_
      · refine ⟨?_, ?_⟩ <;> first | omega | exact ne_mp ha | (refine ⟨?_, ?_⟩ <;> omega)
      refine aq_loadAs tOk (.r (.int .i64 a)) rfl rfl rfl rfl (fun _ => rfl) rfl rfl (.inl ⟨rfl, by simp [Body.cells, mulz_eq, iL, ha]⟩) ?_
      refine aq_pure tOk rfl rfl rfl trivial ?_
      refine aq_pure tOk rfl rfl rfl trivial ?_
      refine aq_pure tOk rfl rfl rfl ?_ ?_
      · refine ⟨?_, ?_⟩ <;> first | omega | exact ne_mp hb | (refine ⟨?_, ?_⟩ <;> omega)
      refine aq_loadAs tOk (.r (.int .i64 b)) rfl rfl rfl rfl (fun _ => rfl) rfl rfl (.inl ⟨rfl, by simp [Body.cells, mulz_eq, iL, hb]⟩) ?_
      refine aq_pure tOk rfl rfl rfl trivial ?_
      refine aq_nil rfl ?_
      refine ag_if rfl ?_ ?_
      · intro h25
        refine ag_seq ?_
        refine ag_reg ?_
        refine ar_pure tOk rfl rfl rfl trivial ?_
        refine ar_nil ?_
        refine ag_ret tOk Try.func12 rfl rfl (by simp) ?_
        exact eqB (decide_eq_false (take_ne ha hb (by simpa using h25))).symm
      · intro h25
        have hab : a = b := by simpa using h25
        refine ag_skip ?_
        refine ag_inBlock ?_
        refine ag_reg ?_
        refine ar_pure tOk rfl rfl rfl trivial ?_
        refine ar_pure tOk rfl rfl rfl ?_ ?_
        · unfold inI64; omega
        refine ar_pure tOk rfl rfl rfl trivial ?_
        refine ar_nil ?_
        refine ag_ent (ent_weak (g' := (stInts_0 A B (i + 1)).1) (h' := (stInts_0 A B (i + 1)).2) [] rfl rfl rfl rfl ?_ ?_ rfl) ?_
        · exact ⟨⟨rfl, rfl⟩, ⟨rfl, rfl⟩, ⟨rfl, by exact eqI (by omega)⟩, trivial⟩
        · trivial
        refine hrec (i + 1) ?_ ?_
        · exact take_more ha hb hp hab
        · show A.length - (i + 1) < A.length - i; omega
    · intro h14
      refine ag_exit rfl ?_
      refine ag_seq ?_
      refine ag_reg ?_
      refine ar_pure tOk rfl rfl rfl trivial ?_
      refine ar_nil ?_
      refine ag_ret tOk Try.func12 rfl rfl (by simp) ?_
      exact eqB (decide_eq_true (take_all hl hp h14)).symm

def stTexts_0 (A B : List (List UInt8)) : Nat → Regs × Hp := fun i => ([(0, roS A), (1, roS B), (5, .r (.int .i64 (i : Int)))], ⟨0, [], false⟩)
def prTexts_0 (A B : List (List UInt8)) : Nat → Prop := fun i => A.take i = B.take i
theorem w_Texts (A B : List (List UInt8)) (hA : A.length ≤ 9223372036854775807) : Pur Try.prog 16 [roS A, roS B] (.r (.bool (decide (A = B)))) := by
  refine spec_of_go (N := 26) Try.func16 rfl (by decide) rfl rfl ?_
  refine ag_seq ?_
  refine ag_reg ?_
  refine ar_pure tOk rfl rfl rfl trivial ?_
  refine ar_nil ?_
  refine ag_seq ?_
  refine ag_seq ?_
  refine ag_reg ?_
  refine ar_pure tOk rfl rfl rfl trivial ?_
  refine ar_pure tOk rfl rfl rfl trivial ?_
  refine ar_pure tOk rfl rfl rfl trivial ?_
  refine ar_pure tOk rfl rfl rfl trivial ?_
  refine ar_pure tOk rfl rfl rfl trivial ?_
  refine ar_nil ?_
  refine ag_if rfl ?_ ?_
  · intro h10
    refine ag_seq ?_
    refine ag_reg ?_
    refine ar_pure tOk rfl rfl rfl trivial ?_
    refine ar_nil ?_
    refine ag_ret tOk Try.func16 rfl rfl (by simp) ?_
    exact eqB (decide_eq_false (fun e => h10 (by rw [e]))).symm
  · intro h10
    have hl : A.length = B.length := by omega
    refine ag_skip ?_
    refine ag_seq ?_
    refine ag_seq ?_
    refine ag_reg ?_
    refine ar_pure tOk rfl rfl rfl trivial ?_
    refine ar_nil ?_
    refine ag_block ?_
    refine ag_loopS (stTexts_0 A B) (prTexts_0 A B) (fun (i : Nat) => A.length - i) 0 (ent_weak [] rfl rfl rfl rfl ?_ ?_ rfl) (show prTexts_0 A B 0 from ?_) ?_
    · exact ⟨⟨rfl, rfl⟩, ⟨rfl, rfl⟩, ⟨rfl, rfl⟩, trivial⟩
    · trivial
    · exact rfl
    rintro i hp hrec
    have hp : A.take i = B.take i := hp
    refine ag_seq ?_
    refine ag_seq ?_
    refine ag_reg ?_
    refine ar_pure tOk rfl rfl rfl trivial ?_
    refine ar_pure tOk rfl rfl rfl trivial ?_
    refine ar_pure tOk rfl rfl rfl trivial ?_
    refine ar_pure tOk rfl rfl rfl trivial ?_
    refine ar_nil ?_
    refine ag_if rfl ?_ ?_
    · intro h14
      obtain ⟨a, b, ha, hb⟩ := getI2 h14 hl
      have hlt : i < A.length := by omega
      refine ag_skip ?_
      refine ag_seq ?_
      refine ag_block ?_
      refine ag_seq ?_
      refine ag_draw0 (by kernel_rfl) (by kernel_rfl) ?_
      refine aq_pure tOk rfl rfl rfl trivial ?_
      refine aq_pure tOk rfl rfl rfl trivial ?_
      refine aq_pure tOk rfl rfl rfl ?_ ?_
      · refine ⟨?_, ?_⟩ <;> first | omega | exact ne_mp ha | (refine ⟨?_, ?_⟩ <;> omega)
      refine aq_loadAs tOk (.r (.str a)) rfl rfl rfl rfl (fun _ => rfl) rfl rfl (.inl ⟨rfl, by simp [Body.cells, mulz_eq, sL, ha]⟩) ?_
      refine aq_pure tOk rfl rfl rfl trivial ?_
      refine aq_pure tOk rfl rfl rfl trivial ?_
      refine aq_pure tOk rfl rfl rfl ?_ ?_
      · refine ⟨?_, ?_⟩ <;> first | omega | exact ne_mp hb | (refine ⟨?_, ?_⟩ <;> omega)
      refine aq_loadAs tOk (.r (.str b)) rfl rfl rfl rfl (fun _ => rfl) rfl rfl (.inl ⟨rfl, by simp [Body.cells, mulz_eq, sL, hb]⟩) ?_
      refine aq_pure tOk rfl rfl rfl trivial ?_
      refine aq_nil rfl ?_
      refine ag_if rfl ?_ ?_
      · intro h25
        refine ag_seq ?_
        refine ag_reg ?_
        refine ar_pure tOk rfl rfl rfl trivial ?_
        refine ar_nil ?_
        refine ag_ret tOk Try.func16 rfl rfl (by simp) ?_
        exact eqB (decide_eq_false (take_ne ha hb (by simpa using h25))).symm
      · intro h25
        have hab : a = b := by simpa using h25
        refine ag_skip ?_
        refine ag_inBlock ?_
        refine ag_reg ?_
        refine ar_pure tOk rfl rfl rfl trivial ?_
        refine ar_pure tOk rfl rfl rfl ?_ ?_
        · unfold inI64; omega
        refine ar_pure tOk rfl rfl rfl trivial ?_
        refine ar_nil ?_
        refine ag_ent (ent_weak (g' := (stTexts_0 A B (i + 1)).1) (h' := (stTexts_0 A B (i + 1)).2) [] rfl rfl rfl rfl ?_ ?_ rfl) ?_
        · exact ⟨⟨rfl, rfl⟩, ⟨rfl, rfl⟩, ⟨rfl, by exact eqI (by omega)⟩, trivial⟩
        · trivial
        refine hrec (i + 1) ?_ ?_
        · exact take_more ha hb hp hab
        · show A.length - (i + 1) < A.length - i; omega
    · intro h14
      refine ag_exit rfl ?_
      refine ag_seq ?_
      refine ag_reg ?_
      refine ar_pure tOk rfl rfl rfl trivial ?_
      refine ar_nil ?_
      refine ag_ret tOk Try.func16 rfl rfl (by simp) ?_
      exact eqB (decide_eq_true (take_all hl hp h14)).symm

end Go.Proofs.Ytmlbfnmpdogmfaa

/-
  WALKS: records on a disk (journal.Append, Load). (Printed by gen.py out of w_jour3.py.)
-/
import Derived.Test.YtopfpkmdkcjjlaaJour2
namespace Go.Proofs.Ytopfpkmdkcjjlaa
open Go
set_option maxRecDepth 20000
set_option linter.unusedVariables false
set_option linter.unusedSimpArgs false

def frms (L : List (List UInt8)) : List UInt8 := (L.map frm).flatten
theorem frms_nil : frms [] = [] := rfl
theorem frms_cons (x : List UInt8) (L : List (List UInt8)) : frms (x :: L) = frm x ++ frms L := by simp [frms]
theorem frms_app (A B : List (List UInt8)) : frms (A ++ B) = frms A ++ frms B := by simp [frms]
theorem frms_next {L : List (List UInt8)} {i : Nat} {x : List UInt8} (h : L[i]? = some x) : frms (L.take (i + 1)) = frms (L.take i) ++ frm x := by rw [List.take_add_one, h, frms_app]; simp [frms]
theorem frms_len (L : List (List UInt8)) : (frms L).length = L.flatten.length + 6 * L.length := by
  induction L with
  | nil => rfl
  | cons x L ih => rw [frms_cons, List.length_append, frm_length, ih, List.flatten_cons, List.length_append, List.length_cons]; omega
theorem frms_take (L : List (List UInt8)) (i : Nat) : (frms (L.take i)).length ≤ (frms L).length := by
  conv => rhs; rw [← List.take_append_drop i L, frms_app, List.length_append]
  omega
theorem frm_cons (x : List UInt8) : ∃ a b, frm x = a :: b := by
  cases h : frm x with
  | nil => have := frm_length x; rw [h] at this; simp at this
  | cons a b => exact ⟨a, b, rfl⟩
def shrt (L : List (List UInt8)) : Prop := ∀ x ∈ L, x.length ≤ 1024
instance (L : List (List UInt8)) : Decidable (shrt L) := by unfold shrt; infer_instance
/-- What appending tells; what lies there behind it. -/
def apE (B : List UInt8) (ro : Int) (L : List (List UInt8)) : Int := if shrt L then (if ((frms L).length : Int) > ro - B.length then 10 else 0) else 5
def apB (B : List UInt8) (ro : Int) (L : List (List UInt8)) : List UInt8 := if shrt L then (if ((frms L).length : Int) > ro - B.length then B else B ++ frms L) else B
def aB3 : List UInt8 → AVal
  | [] => .r .nil
  | _ :: r => .sl 3 0 (r.length + 1) 1
def hB3 : List UInt8 → Hp
  | [] => ⟨3, [], false⟩
  | x :: r => ⟨4, [(3, some (.bytes (x :: r)))], false⟩
theorem w_KWnil (B : List UInt8) (su ro : Int) (sl : Option (List UInt8)) (tl : List RVal) (hr : kRel B su ro sl tl) : Spec Try.prog 60 [.ptr 0 0, .r .nil] (obP sl tl) (fun v h' => ∃ sl' tl', (v = .r (.int .i64 0) ∧ sl' = sl ∧ tl' = tl) ∧ ObIs sl' tl' h') := by
  suffices hz : Spec Try.prog 60 [.ptr 0 0, .r (.bs [])] (obP sl tl) (fun v h' => ∃ sl' tl', (v = .r (.int .i64 0) ∧ sl' = sl ∧ tl' = tl) ∧ ObIs sl' tl' h') by exact Spec.nils hz (by exact ⟨rfl, trivial, trivial⟩)
  obtain ⟨rfl, hs, h1, h2, h3, h4⟩ := hr
  cases sl with
  | none =>
    obtain rfl : B = [] := hs
    obtain rfl : su = 0 := by simp at h2; omega
    exact Spec.mono (w_WriteN0 ro (by simpa using h3) h4) (fun v h' ⟨g1, g2⟩ => ⟨none, _, ⟨g1, rfl, rfl⟩, g2 ▸ is_dN 0 ro true⟩)
  | some s =>
    obtain rfl : B = s := hs
    exact Spec.mono (w_WriteB [] B.length B su ro (by omega) h4 (Nat.le_refl _) (by omega) (by simp; omega)) (fun v h' ⟨g1, g2⟩ => ⟨some B, _, ⟨g1, rfl, rfl⟩, by rw [g2, List.take_length, List.append_nil]; exact is_dC _ _ su ro true (by simp)⟩)

def stApdN_0 (ro : Int) (L : List (List UInt8)) : Nat × List UInt8 → Regs × Hp := fun ⟨i, acc⟩ => ([(0, .ptr 0 0), (16, roL L), (17, .r (.int .i64 (L.length : Int))), (18, .r (.int .i64 (i : Int))), (6, aB3 acc)], obAt none [.int .i64 0, .int .i64 ro, .bool true] 0 2 (hB3 acc))
def prApdN_0 (ro : Int) (L : List (List UInt8)) : Nat × List UInt8 → Prop := fun ⟨i, acc⟩ => i ≤ L.length ∧ acc = frms (L.take i) ∧ ∀ y ∈ L.take i, y.length ≤ 1024
theorem w_AppendN (ro : Int) (L : List (List UInt8)) (hF : (frms L).length ≤ 4000000000000) (hr : kRel [] 0 ro none [.int .i64 0, .int .i64 ro, .bool true]) : Spec Try.prog 32 [.ptr 0 0, roL L] (obP none [.int .i64 0, .int .i64 ro, .bool true]) (fun v h' => ∃ sl' tl', (v = .r (.int .i64 (apE [] ro L)) ∧ kRel (apB [] ro L) 0 ro sl' tl') ∧ ObIs sl' tl' h') := by
  have hLl := frms_len L
  refine spec_of_go (N := 37) Try.func32 rfl (by decide) rfl rfl ?_
  refine ag_ent (ent_ob rfl rfl) ?_
  refine zB ?_
  refine pA ?_
  refine zA ?_
  refine zB ?_
  refine pA ?_
  refine ar_ob (w_KWnil _ _ _ _ _ hr) rfl rfl (obOk_of rfl) rfl rfl rfl rfl (by intro d hd; cases hd; rfl) ?_
  rintro _ sl tl ⟨rfl, rfl, rfl⟩
  refine ⟨rfl, ?_⟩
  refine pA ?_
  refine zC ?_
  iterate 2 refine pA ?_
  refine ar_nil ?_
  refine ag_false rfl (rfl) ?_
  refine ag_skip ?_
  refine zB ?_
  refine pA ?_
  refine zA ?_
  refine zB ?_
  iterate 3 refine pA ?_
  refine ar_nil ?_
  refine ag_block ?_
  refine ag_loopS (stApdN_0 ro L) (prApdN_0 ro L) (fun ⟨i, acc⟩ => L.length - i) (0, []) (ent_weak [0, 1, 2] rfl rfl rfl rfl ?_ ?_ rfl) (show prApdN_0 ro L (0, []) from ?_) ?_
  · exact ⟨⟨rfl, rfl⟩, ⟨rfl, rfl⟩, ⟨rfl, rfl⟩, ⟨rfl, rfl⟩, ⟨rfl, rfl⟩, trivial⟩
  · exact ⟨⟨rfl, rfl, rfl⟩, trivial⟩
  · exact ⟨Nat.zero_le _, rfl, by simp⟩
  rintro ⟨i, acc⟩ hp hrec
  cases acc with
  | nil =>
    obtain ⟨hi, hacc, hal⟩ : _ := hp
    refine ag_ent (ent_weak (g' := [(0, .ptr 0 0), (16, roL L), (17, .r (.int .i64 (L.length : Int))), (18, .r (.int .i64 (i : Int))), (6, .r .nil)]) (h' := obAt none [.int .i64 0, .int .i64 ro, .bool true] 0 2 ⟨3, [], false⟩) [0, 1, 2] rfl rfl rfl rfl ?_ ?_ rfl) ?_
    · exact ⟨⟨rfl, rfl⟩, ⟨rfl, rfl⟩, ⟨rfl, rfl⟩, ⟨rfl, rfl⟩, ⟨rfl, rfl⟩, trivial⟩
    · exact ⟨⟨rfl, rfl, rfl⟩, trivial⟩
    refine zB ?_
    refine pA ?_
    refine zA ?_
    refine ag_if rfl ?_ ?_
    · intro h19
      obtain ⟨x, hx⟩ : ∃ x, L[i]? = some x := ⟨L[i]'(by omega), by simp⟩
      have hxm := frms_next hx
      have hfl := frms_take L (i + 1)
      rw [hxm, List.length_append, ← hacc] at hfl
      have hfx := frm_length x
      refine ag_skip ?_
      refine ag_seq ?_
      refine ag_block ?_
      refine zB ?_
      refine ar_pure tOk rfl rfl rfl ?_ ?_
      · refine ⟨?_, ?_⟩ <;> first | omega | exact ne_mpB hx | (refine ⟨?_, ?_⟩ <;> omega)
      refine ar_loadAs tOk (.r (.bs x)) rfl rfl rfl rfl rfl rfl rfl (.inl ⟨rfl, by simp [Body.cells, mulz_eq, hx]⟩) ?_
      refine pA ?_
      refine zA ?_
      rcases (show ¬ x.length ≤ 1024 ∨ x.length ≤ 1024 by omega) with hxl | hxl
      · skip
        refine ag_reg ?_
        refine pA ?_
        refine ar_pur (w_FrameL x hxl) rfl rfl rfl rfl rfl rfl rfl ?_
        iterate 5 refine pA ?_
        refine zA ?_
        refine zB ?_
        iterate 2 refine pA ?_
        refine ar_nil ?_
        refine ag_true rfl (by decide) ?_
        refine zB ?_
        iterate 2 refine pA ?_
        refine ar_nil ?_
        refine ag_ret tOk Try.func32 rfl rfl (by first | trivial | exact ⟨trivial, trivial⟩ | exact ⟨trivial, trivial, trivial⟩ | simp) ?_
        have hno : ¬ shrt L := fun q => absurd (q x (List.mem_of_getElem? hx)) (by omega)
        refine ⟨_, _, ⟨?_, ?_⟩, ob_is (by decide) rfl⟩
        · rw [apE, if_neg hno]; rfl
        · rw [apB, if_neg hno]; exact hr
      · skip
        have hFr := w_FrameS x hxl
        obtain ⟨f0, f1, hfe⟩ := frm_cons x
        rw [hfe] at hFr hfx hfl hxm
        simp only [List.length_cons, List.length_nil] at hfx hfl
        refine ag_reg ?_
        refine pA ?_
        refine ar_pur (hFr) rfl rfl rfl rfl rfl rfl rfl ?_
        iterate 5 refine pA ?_
        refine zA ?_
        refine zB ?_
        iterate 2 refine pA ?_
        refine ar_nil ?_
        refine ag_false rfl (by decide) ?_
        refine ag_skip ?_
        refine ag_reg ?_
        iterate 2 refine pA ?_
        refine ar_app tOk rfl rfl rfl ?_ ?_
        · refine ⟨⟨?_, ?_, ?_⟩, ⟨?_, ?_⟩, ⟨?_, ?_⟩, ?_⟩ <;> first | trivial | omega | (simp; done) | (simp; omega)
        refine pA ?_
        refine ar_nil ?_
        refine ag_inBlock ?_
        refine ag_reg ?_
        refine ar_pure tOk rfl rfl rfl ?_ ?_
        · unfold inI64; omega
        refine pA ?_
        refine ar_nil ?_
        refine ag_ent (ent_weak (g' := (stApdN_0 ro L (i + 1, f0 :: f1)).1) (h' := (stApdN_0 ro L (i + 1, f0 :: f1)).2) [0, 1, 2, 3] rfl rfl rfl rfl ?_ ?_ rfl) ?_
        · exact ⟨⟨rfl, rfl⟩, ⟨rfl, rfl⟩, ⟨rfl, rfl⟩, ⟨rfl, by exact eqI (by omega)⟩, ⟨rfl, by exact eqSl (by simp; try omega)⟩, trivial⟩
        · exact ⟨⟨rfl, rfl, rfl⟩, ⟨rfl, rfl, by exact eqBs (by simp [cutA_eq])⟩, trivial⟩
        have hnx := hrec (i + 1, f0 :: f1)
        refine hnx ?_ ?_
        · exact ⟨by omega, by rw [hxm, ← hacc]; try rfl, by intro y hy; rw [List.take_add_one, hx] at hy; exact (List.mem_append.1 hy).elim (fun q => hal y q) (fun q => by simp at q; rw [q]; exact hxl)⟩
        · show L.length - (i + 1) < L.length - i; omega
    · intro h19
      refine ag_exit rfl ?_
      refine ag_seq ?_
      
      refine ag_reg ?_
      iterate 2 refine pA ?_
      refine ar_ob (w_KWnil _ _ _ _ _ hr) rfl rfl (obOk_of rfl) rfl rfl rfl rfl (by intro d hd; cases hd; rfl) ?_
      rintro _ sl tl ⟨rfl, rfl, rfl⟩
      refine ⟨rfl, ?_⟩
      refine pA ?_
      refine ar_nil ?_
      refine ag_ret tOk Try.func32 rfl rfl (by first | trivial | exact ⟨trivial, trivial⟩ | exact ⟨trivial, trivial, trivial⟩ | simp) ?_
      have hsh : shrt L := fun y hy => hal y (by rw [List.take_of_length_le (by omega)]; exact hy)
      rw [List.take_of_length_le (by omega)] at hacc
      have hno : ¬ ((frms L).length : Int) > ro - ([] : List UInt8).length := by rw [← hacc]; have := hr.2.2.2.2.1; simp at this ⊢; omega
      refine ⟨_, _, ⟨?_, ?_⟩, ob_is (by decide) rfl⟩
      · rw [apE, if_pos hsh, if_neg hno]; rfl
      · rw [apB, if_pos hsh, if_neg hno, ← hacc, List.append_nil]; exact hr
  | cons a l =>
    obtain ⟨hi, hacc, hal⟩ : _ := hp
    refine ag_ent (ent_weak (g' := [(0, .ptr 0 0), (16, roL L), (17, .r (.int .i64 (L.length : Int))), (18, .r (.int .i64 (i : Int))), (6, .sl 3 0 (l.length + 1) 1)]) (h' := obAt none [.int .i64 0, .int .i64 ro, .bool true] 0 2 ⟨4, [(3, some (.bytes (a :: l)))], false⟩) [0, 1, 2, 3] rfl rfl rfl rfl ?_ ?_ rfl) ?_
    · exact ⟨⟨rfl, rfl⟩, ⟨rfl, rfl⟩, ⟨rfl, rfl⟩, ⟨rfl, rfl⟩, ⟨rfl, rfl⟩, trivial⟩
    · exact ⟨⟨rfl, rfl, rfl⟩, ⟨rfl, rfl, rfl⟩, trivial⟩
    refine zB ?_
    refine pA ?_
    refine zA ?_
    refine ag_if rfl ?_ ?_
    · intro h19
      obtain ⟨x, hx⟩ : ∃ x, L[i]? = some x := ⟨L[i]'(by omega), by simp⟩
      have hxm := frms_next hx
      have hfl := frms_take L (i + 1)
      rw [hxm, List.length_append, ← hacc] at hfl
      have hfx := frm_length x
      refine ag_skip ?_
      refine ag_seq ?_
      refine ag_block ?_
      refine zB ?_
      refine ar_pure tOk rfl rfl rfl ?_ ?_
      · refine ⟨?_, ?_⟩ <;> first | omega | exact ne_mpB hx | (refine ⟨?_, ?_⟩ <;> omega)
      refine ar_loadAs tOk (.r (.bs x)) rfl rfl rfl rfl rfl rfl rfl (.inl ⟨rfl, by simp [Body.cells, mulz_eq, hx]⟩) ?_
      refine pA ?_
      refine zA ?_
      rcases (show ¬ x.length ≤ 1024 ∨ x.length ≤ 1024 by omega) with hxl | hxl
      · skip
        refine ag_reg ?_
        refine pA ?_
        refine ar_pur (w_FrameL x hxl) rfl rfl rfl rfl rfl rfl rfl ?_
        iterate 5 refine pA ?_
        refine zA ?_
        refine zB ?_
        iterate 2 refine pA ?_
        refine ar_nil ?_
        refine ag_true rfl (by decide) ?_
        refine zB ?_
        iterate 2 refine pA ?_
        refine ar_nil ?_
        refine ag_ret tOk Try.func32 rfl rfl (by first | trivial | exact ⟨trivial, trivial⟩ | exact ⟨trivial, trivial, trivial⟩ | simp) ?_
        have hno : ¬ shrt L := fun q => absurd (q x (List.mem_of_getElem? hx)) (by omega)
        refine ⟨_, _, ⟨?_, ?_⟩, ob_is (by decide) rfl⟩
        · rw [apE, if_neg hno]; rfl
        · rw [apB, if_neg hno]; exact hr
      · skip
        have hFr := w_FrameS x hxl
        obtain ⟨f0, f1, hfe⟩ := frm_cons x
        rw [hfe] at hFr hfx hfl hxm
        simp only [List.length_cons, List.length_nil] at hfx hfl
        refine ag_reg ?_
        refine pA ?_
        refine ar_pur (hFr) rfl rfl rfl rfl rfl rfl rfl ?_
        iterate 5 refine pA ?_
        refine zA ?_
        refine zB ?_
        iterate 2 refine pA ?_
        refine ar_nil ?_
        refine ag_false rfl (by decide) ?_
        refine ag_skip ?_
        refine ag_reg ?_
        iterate 2 refine pA ?_
        refine ar_app tOk rfl rfl rfl ?_ ?_
        · refine ⟨⟨?_, ?_, ?_⟩, ⟨?_, ?_⟩, ⟨?_, ?_⟩, ?_⟩ <;> first | trivial | omega | (simp; done) | (simp; omega)
        refine pA ?_
        refine ar_nil ?_
        refine ag_inBlock ?_
        refine ag_reg ?_
        refine ar_pure tOk rfl rfl rfl ?_ ?_
        · unfold inI64; omega
        refine pA ?_
        refine ar_nil ?_
        refine ag_ent (ent_weak (g' := (stApdN_0 ro L (i + 1, a :: l ++ f0 :: f1)).1) (h' := (stApdN_0 ro L (i + 1, a :: l ++ f0 :: f1)).2) [0, 1, 2, 4] rfl rfl rfl rfl ?_ ?_ rfl) ?_
        · exact ⟨⟨rfl, rfl⟩, ⟨rfl, rfl⟩, ⟨rfl, rfl⟩, ⟨rfl, by exact eqI (by omega)⟩, ⟨rfl, by exact eqSl (by simp; try omega)⟩, trivial⟩
        · exact ⟨⟨rfl, rfl, rfl⟩, ⟨rfl, rfl, by exact eqBs (by simp [cutA_eq])⟩, trivial⟩
        have hnx := hrec (i + 1, a :: l ++ f0 :: f1)
        refine hnx ?_ ?_
        · exact ⟨by omega, by rw [hxm, ← hacc]; try rfl, by intro y hy; rw [List.take_add_one, hx] at hy; exact (List.mem_append.1 hy).elim (fun q => hal y q) (fun q => by simp at q; rw [q]; exact hxl)⟩
        · show L.length - (i + 1) < L.length - i; omega
    · intro h19
      refine ag_exit rfl ?_
      refine ag_seq ?_
      refine ag_ent (ent_freeze 6 rfl rfl rfl ⟨by simp, rfl⟩) ?_
      refine ag_ent (ent_reg 6 (.r (.bs (a :: l))) (by show AVal.r (.bs _) = _; exact eqBsv (by rw [cutA_eq, List.drop_zero, List.take_of_length_le (by simp)]))) ?_
      refine ag_ent (ent_same (h' := obAt none [.int .i64 0, .int .i64 ro, .bool true] 0 2 ⟨4, [(3, none)], false⟩) rfl rfl ⟨rfl, rfl, rfl, trivial⟩) ?_
      refine ag_reg ?_
      iterate 2 refine pA ?_
      refine ar_ob (w_KWrite (a :: l) _ _ _ _ _ hr) rfl rfl (obOk_of rfl) rfl rfl rfl rfl (by intro d hd; cases hd; rfl) ?_
      rintro _ sl tl ⟨rfl, hr2⟩
      refine ⟨rfl, ?_⟩
      refine pA ?_
      refine ar_nil ?_
      refine ag_ret tOk Try.func32 rfl rfl (by first | trivial | exact ⟨trivial, trivial⟩ | exact ⟨trivial, trivial, trivial⟩ | simp) ?_
      have hsh : shrt L := fun y hy => hal y (by rw [List.take_of_length_le (by omega)]; exact hy)
      rw [List.take_of_length_le (by omega)] at hacc
      refine ⟨_, _, ⟨?_, ?_⟩, ob_is (by decide) rfl⟩
      · rw [apE, if_pos hsh, ← hacc]; rfl
      · rw [apB, if_pos hsh, ← hacc]; exact hr2

def stApdS_0 (s : List UInt8) (su ro : Int) (L : List (List UInt8)) : Nat × List UInt8 → Regs × Hp := fun ⟨i, acc⟩ => ([(0, .ptr 0 0), (16, roL L), (17, .r (.int .i64 (L.length : Int))), (18, .r (.int .i64 (i : Int))), (6, aB3 acc)], obAt (some s) [.int .i64 su, .int .i64 ro, .bool true] 0 2 (hB3 acc))
def prApdS_0 (s : List UInt8) (su ro : Int) (L : List (List UInt8)) : Nat × List UInt8 → Prop := fun ⟨i, acc⟩ => i ≤ L.length ∧ acc = frms (L.take i) ∧ ∀ y ∈ L.take i, y.length ≤ 1024
theorem w_AppendS (s : List UInt8) (su ro : Int) (L : List (List UInt8)) (hF : (frms L).length ≤ 4000000000000) (hr : kRel s su ro (some s) [.int .i64 su, .int .i64 ro, .bool true]) : Spec Try.prog 32 [.ptr 0 0, roL L] (obP (some s) [.int .i64 su, .int .i64 ro, .bool true]) (fun v h' => ∃ sl' tl', (v = .r (.int .i64 (apE s ro L)) ∧ kRel (apB s ro L) su ro sl' tl') ∧ ObIs sl' tl' h') := by
  have hLl := frms_len L
  refine spec_of_go (N := 37) Try.func32 rfl (by decide) rfl rfl ?_
  refine ag_ent (ent_ob rfl rfl) ?_
  refine zB ?_
  refine pA ?_
  refine zA ?_
  refine zB ?_
  refine pA ?_
  refine ar_ob (w_KWnil _ _ _ _ _ hr) rfl rfl (obOk_of rfl) rfl rfl rfl rfl (by intro d hd; cases hd; rfl) ?_
  rintro _ sl tl ⟨rfl, rfl, rfl⟩
  refine ⟨rfl, ?_⟩
  refine pA ?_
  refine zC ?_
  iterate 2 refine pA ?_
  refine ar_nil ?_
  refine ag_false rfl (rfl) ?_
  refine ag_skip ?_
  refine zB ?_
  refine pA ?_
  refine zA ?_
  refine zB ?_
  iterate 3 refine pA ?_
  refine ar_nil ?_
  refine ag_block ?_
  refine ag_loopS (stApdS_0 s su ro L) (prApdS_0 s su ro L) (fun ⟨i, acc⟩ => L.length - i) (0, []) (ent_weak [0, 1, 2] rfl rfl rfl rfl ?_ ?_ rfl) (show prApdS_0 s su ro L (0, []) from ?_) ?_
  · exact ⟨⟨rfl, rfl⟩, ⟨rfl, rfl⟩, ⟨rfl, rfl⟩, ⟨rfl, rfl⟩, ⟨rfl, rfl⟩, trivial⟩
  · exact ⟨⟨rfl, rfl, rfl⟩, ⟨rfl, rfl, rfl⟩, trivial⟩
  · exact ⟨Nat.zero_le _, rfl, by simp⟩
  rintro ⟨i, acc⟩ hp hrec
  cases acc with
  | nil =>
    obtain ⟨hi, hacc, hal⟩ : _ := hp
    refine ag_ent (ent_weak (g' := [(0, .ptr 0 0), (16, roL L), (17, .r (.int .i64 (L.length : Int))), (18, .r (.int .i64 (i : Int))), (6, .r .nil)]) (h' := obAt (some s) [.int .i64 su, .int .i64 ro, .bool true] 0 2 ⟨3, [], false⟩) [0, 1, 2] rfl rfl rfl rfl ?_ ?_ rfl) ?_
    · exact ⟨⟨rfl, rfl⟩, ⟨rfl, rfl⟩, ⟨rfl, rfl⟩, ⟨rfl, rfl⟩, ⟨rfl, rfl⟩, trivial⟩
    · exact ⟨⟨rfl, rfl, rfl⟩, ⟨rfl, rfl, rfl⟩, trivial⟩
    refine zB ?_
    refine pA ?_
    refine zA ?_
    refine ag_if rfl ?_ ?_
    · intro h19
      obtain ⟨x, hx⟩ : ∃ x, L[i]? = some x := ⟨L[i]'(by omega), by simp⟩
      have hxm := frms_next hx
      have hfl := frms_take L (i + 1)
      rw [hxm, List.length_append, ← hacc] at hfl
      have hfx := frm_length x
      refine ag_skip ?_
      refine ag_seq ?_
      refine ag_block ?_
      refine zB ?_
      refine ar_pure tOk rfl rfl rfl ?_ ?_
      · refine ⟨?_, ?_⟩ <;> first | omega | exact ne_mpB hx | (refine ⟨?_, ?_⟩ <;> omega)
      refine ar_loadAs tOk (.r (.bs x)) rfl rfl rfl rfl rfl rfl rfl (.inl ⟨rfl, by simp [Body.cells, mulz_eq, hx]⟩) ?_
      refine pA ?_
      refine zA ?_
      rcases (show ¬ x.length ≤ 1024 ∨ x.length ≤ 1024 by omega) with hxl | hxl
      · skip
        refine ag_reg ?_
        refine pA ?_
        refine ar_pur (w_FrameL x hxl) rfl rfl rfl rfl rfl rfl rfl ?_
        iterate 5 refine pA ?_
        refine zA ?_
        refine zB ?_
        iterate 2 refine pA ?_
        refine ar_nil ?_
        refine ag_true rfl (by decide) ?_
        refine zB ?_
        iterate 2 refine pA ?_
        refine ar_nil ?_
        refine ag_ret tOk Try.func32 rfl rfl (by first | trivial | exact ⟨trivial, trivial⟩ | exact ⟨trivial, trivial, trivial⟩ | simp) ?_
        have hno : ¬ shrt L := fun q => absurd (q x (List.mem_of_getElem? hx)) (by omega)
        refine ⟨_, _, ⟨?_, ?_⟩, ob_is (by decide) rfl⟩
        · rw [apE, if_neg hno]; rfl
        · rw [apB, if_neg hno]; exact hr
      · skip
        have hFr := w_FrameS x hxl
        obtain ⟨f0, f1, hfe⟩ := frm_cons x
        rw [hfe] at hFr hfx hfl hxm
        simp only [List.length_cons, List.length_nil] at hfx hfl
        refine ag_reg ?_
        refine pA ?_
        refine ar_pur (hFr) rfl rfl rfl rfl rfl rfl rfl ?_
        iterate 5 refine pA ?_
        refine zA ?_
        refine zB ?_
        iterate 2 refine pA ?_
        refine ar_nil ?_
        refine ag_false rfl (by decide) ?_
        refine ag_skip ?_
        refine ag_reg ?_
        iterate 2 refine pA ?_
        refine ar_app tOk rfl rfl rfl ?_ ?_
        · refine ⟨⟨?_, ?_, ?_⟩, ⟨?_, ?_⟩, ⟨?_, ?_⟩, ?_⟩ <;> first | trivial | omega | (simp; done) | (simp; omega)
        refine pA ?_
        refine ar_nil ?_
        refine ag_inBlock ?_
        refine ag_reg ?_
        refine ar_pure tOk rfl rfl rfl ?_ ?_
        · unfold inI64; omega
        refine pA ?_
        refine ar_nil ?_
        refine ag_ent (ent_weak (g' := (stApdS_0 s su ro L (i + 1, f0 :: f1)).1) (h' := (stApdS_0 s su ro L (i + 1, f0 :: f1)).2) [0, 1, 2, 3] rfl rfl rfl rfl ?_ ?_ rfl) ?_
        · exact ⟨⟨rfl, rfl⟩, ⟨rfl, rfl⟩, ⟨rfl, rfl⟩, ⟨rfl, by exact eqI (by omega)⟩, ⟨rfl, by exact eqSl (by simp; try omega)⟩, trivial⟩
        · exact ⟨⟨rfl, rfl, rfl⟩, ⟨rfl, rfl, rfl⟩, ⟨rfl, rfl, by exact eqBs (by simp [cutA_eq])⟩, trivial⟩
        have hnx := hrec (i + 1, f0 :: f1)
        refine hnx ?_ ?_
        · exact ⟨by omega, by rw [hxm, ← hacc]; try rfl, by intro y hy; rw [List.take_add_one, hx] at hy; exact (List.mem_append.1 hy).elim (fun q => hal y q) (fun q => by simp at q; rw [q]; exact hxl)⟩
        · show L.length - (i + 1) < L.length - i; omega
    · intro h19
      refine ag_exit rfl ?_
      refine ag_seq ?_
      
      refine ag_reg ?_
      iterate 2 refine pA ?_
      refine ar_ob (w_KWnil _ _ _ _ _ hr) rfl rfl (obOk_of rfl) rfl rfl rfl rfl (by intro d hd; cases hd; rfl) ?_
      rintro _ sl tl ⟨rfl, rfl, rfl⟩
      refine ⟨rfl, ?_⟩
      refine pA ?_
      refine ar_nil ?_
      refine ag_ret tOk Try.func32 rfl rfl (by first | trivial | exact ⟨trivial, trivial⟩ | exact ⟨trivial, trivial, trivial⟩ | simp) ?_
      have hsh : shrt L := fun y hy => hal y (by rw [List.take_of_length_le (by omega)]; exact hy)
      rw [List.take_of_length_le (by omega)] at hacc
      have hno : ¬ ((frms L).length : Int) > ro - (s : List UInt8).length := by rw [← hacc]; have := hr.2.2.2.2.1; simp at this ⊢; omega
      refine ⟨_, _, ⟨?_, ?_⟩, ob_is (by decide) rfl⟩
      · rw [apE, if_pos hsh, if_neg hno]; rfl
      · rw [apB, if_pos hsh, if_neg hno, ← hacc, List.append_nil]; exact hr
  | cons a l =>
    obtain ⟨hi, hacc, hal⟩ : _ := hp
    refine ag_ent (ent_weak (g' := [(0, .ptr 0 0), (16, roL L), (17, .r (.int .i64 (L.length : Int))), (18, .r (.int .i64 (i : Int))), (6, .sl 3 0 (l.length + 1) 1)]) (h' := obAt (some s) [.int .i64 su, .int .i64 ro, .bool true] 0 2 ⟨4, [(3, some (.bytes (a :: l)))], false⟩) [0, 1, 2, 3] rfl rfl rfl rfl ?_ ?_ rfl) ?_
    · exact ⟨⟨rfl, rfl⟩, ⟨rfl, rfl⟩, ⟨rfl, rfl⟩, ⟨rfl, rfl⟩, ⟨rfl, rfl⟩, trivial⟩
    · exact ⟨⟨rfl, rfl, rfl⟩, ⟨rfl, rfl, rfl⟩, ⟨rfl, rfl, rfl⟩, trivial⟩
    refine zB ?_
    refine pA ?_
    refine zA ?_
    refine ag_if rfl ?_ ?_
    · intro h19
      obtain ⟨x, hx⟩ : ∃ x, L[i]? = some x := ⟨L[i]'(by omega), by simp⟩
      have hxm := frms_next hx
      have hfl := frms_take L (i + 1)
      rw [hxm, List.length_append, ← hacc] at hfl
      have hfx := frm_length x
      refine ag_skip ?_
      refine ag_seq ?_
      refine ag_block ?_
      refine zB ?_
      refine ar_pure tOk rfl rfl rfl ?_ ?_
      · refine ⟨?_, ?_⟩ <;> first | omega | exact ne_mpB hx | (refine ⟨?_, ?_⟩ <;> omega)
      refine ar_loadAs tOk (.r (.bs x)) rfl rfl rfl rfl rfl rfl rfl (.inl ⟨rfl, by simp [Body.cells, mulz_eq, hx]⟩) ?_
      refine pA ?_
      refine zA ?_
      rcases (show ¬ x.length ≤ 1024 ∨ x.length ≤ 1024 by omega) with hxl | hxl
      · skip
        refine ag_reg ?_
        refine pA ?_
        refine ar_pur (w_FrameL x hxl) rfl rfl rfl rfl rfl rfl rfl ?_
        iterate 5 refine pA ?_
        refine zA ?_
        refine zB ?_
        iterate 2 refine pA ?_
        refine ar_nil ?_
        refine ag_true rfl (by decide) ?_
        refine zB ?_
        iterate 2 refine pA ?_
        refine ar_nil ?_
        refine ag_ret tOk Try.func32 rfl rfl (by first | trivial | exact ⟨trivial, trivial⟩ | exact ⟨trivial, trivial, trivial⟩ | simp) ?_
        have hno : ¬ shrt L := fun q => absurd (q x (List.mem_of_getElem? hx)) (by omega)
        refine ⟨_, _, ⟨?_, ?_⟩, ob_is (by decide) rfl⟩
        · rw [apE, if_neg hno]; rfl
        · rw [apB, if_neg hno]; exact hr
      · skip
        have hFr := w_FrameS x hxl
        obtain ⟨f0, f1, hfe⟩ := frm_cons x
        rw [hfe] at hFr hfx hfl hxm
        simp only [List.length_cons, List.length_nil] at hfx hfl
        refine ag_reg ?_
        refine pA ?_
        refine ar_pur (hFr) rfl rfl rfl rfl rfl rfl rfl ?_
        iterate 5 refine pA ?_
        refine zA ?_
        refine zB ?_
        iterate 2 refine pA ?_
        refine ar_nil ?_
        refine ag_false rfl (by decide) ?_
        refine ag_skip ?_
        refine ag_reg ?_
        iterate 2 refine pA ?_
        refine ar_app tOk rfl rfl rfl ?_ ?_
        · refine ⟨⟨?_, ?_, ?_⟩, ⟨?_, ?_⟩, ⟨?_, ?_⟩, ?_⟩ <;> first | trivial | omega | (simp; done) | (simp; omega)
        refine pA ?_
        refine ar_nil ?_
        refine ag_inBlock ?_
        refine ag_reg ?_
        refine ar_pure tOk rfl rfl rfl ?_ ?_
        · unfold inI64; omega
        refine pA ?_
        refine ar_nil ?_
        refine ag_ent (ent_weak (g' := (stApdS_0 s su ro L (i + 1, a :: l ++ f0 :: f1)).1) (h' := (stApdS_0 s su ro L (i + 1, a :: l ++ f0 :: f1)).2) [0, 1, 2, 4] rfl rfl rfl rfl ?_ ?_ rfl) ?_
        · exact ⟨⟨rfl, rfl⟩, ⟨rfl, rfl⟩, ⟨rfl, rfl⟩, ⟨rfl, by exact eqI (by omega)⟩, ⟨rfl, by exact eqSl (by simp; try omega)⟩, trivial⟩
        · exact ⟨⟨rfl, rfl, rfl⟩, ⟨rfl, rfl, rfl⟩, ⟨rfl, rfl, by exact eqBs (by simp [cutA_eq])⟩, trivial⟩
        have hnx := hrec (i + 1, a :: l ++ f0 :: f1)
        refine hnx ?_ ?_
        · exact ⟨by omega, by rw [hxm, ← hacc]; try rfl, by intro y hy; rw [List.take_add_one, hx] at hy; exact (List.mem_append.1 hy).elim (fun q => hal y q) (fun q => by simp at q; rw [q]; exact hxl)⟩
        · show L.length - (i + 1) < L.length - i; omega
    · intro h19
      refine ag_exit rfl ?_
      refine ag_seq ?_
      refine ag_ent (ent_freeze 6 rfl rfl rfl ⟨by simp, rfl⟩) ?_
      refine ag_ent (ent_reg 6 (.r (.bs (a :: l))) (by show AVal.r (.bs _) = _; exact eqBsv (by rw [cutA_eq, List.drop_zero, List.take_of_length_le (by simp)]))) ?_
      refine ag_ent (ent_same (h' := obAt (some s) [.int .i64 su, .int .i64 ro, .bool true] 0 2 ⟨4, [(3, none)], false⟩) rfl rfl ⟨rfl, rfl, rfl, trivial⟩) ?_
      refine ag_reg ?_
      iterate 2 refine pA ?_
      refine ar_ob (w_KWrite (a :: l) _ _ _ _ _ hr) rfl rfl (obOk_of rfl) rfl rfl rfl rfl (by intro d hd; cases hd; rfl) ?_
      rintro _ sl tl ⟨rfl, hr2⟩
      refine ⟨rfl, ?_⟩
      refine pA ?_
      refine ar_nil ?_
      refine ag_ret tOk Try.func32 rfl rfl (by first | trivial | exact ⟨trivial, trivial⟩ | exact ⟨trivial, trivial, trivial⟩ | simp) ?_
      have hsh : shrt L := fun y hy => hal y (by rw [List.take_of_length_le (by omega)]; exact hy)
      rw [List.take_of_length_le (by omega)] at hacc
      refine ⟨_, _, ⟨?_, ?_⟩, ob_is (by decide) rfl⟩
      · rw [apE, if_pos hsh, ← hacc]; rfl
      · rw [apB, if_pos hsh, ← hacc]; exact hr2

end Go.Proofs.Ytopfpkmdkcjjlaa

/-
  WALKS: the reference's prime. (Printed by gen.py out of w_hprm.py.)
-/
import Derived.Test.YtopfpkmdkcjjlaaHRt
import Derived.Test.YtopfpkmdkcjjlaaNBk
namespace Go.Proofs.Ytopfpkmdkcjjlaa
open Go
set_option maxRecDepth 20000
set_option linter.unusedVariables false
set_option linter.unusedSimpArgs false
section
variable {P : Program} {f N : Nat} {m : Md} {k : List Item} {g : Regs} {h : Hp} {Post : AVal → Hp → Prop}
theorem ag_loopI {α : Type} (S : α → Regs × Hp) (p : α → Prop) (meas : α → Nat) {c : Code} (x0 : α) (he : Ent m g h (S x0).1 (S x0).2) (h0 : p x0)
    (round : ∀ x, p x → (∀ y, p y → meas y < meas x → AGo P f N m (.inLoop c :: k) (S y).1 (S y).2 Post) → AGo P f N m (.code c :: .inLoop c :: k) (S x).1 (S x).2 Post) : AGo P f N m (.inLoop c :: k) g h Post :=
  ag_ent he (ag_loop_of S p meas round x0 h0)
end
def nodB (k : Nat) (l : List Int) : Bool := l.all fun v => decide (Int.tmod (k : Int) v ≠ 0)
def prN : Nat → List Int
  | 0 => []
  | k + 1 => if 2 ≤ k ∧ nodB k (prN k) = true then prN k ++ [(k : Int)] else prN k
theorem prN_T {k : Nat} (h2 : 2 ≤ k) (h : nodB k (prN k) = true) : prN (k + 1) = prN k ++ [(k : Int)] := by rw [prN, if_pos ⟨h2, h⟩]
theorem prN_F {k : Nat} (h : nodB k (prN k) = false) : prN (k + 1) = prN k := by rw [prN, if_neg (by rw [h]; simp)]
theorem prN_ge : ∀ k : Nat, ∀ v ∈ prN k, 2 ≤ v
  | 0, v, h => by simp [prN] at h
  | k + 1, v, h => by
    rw [prN] at h
    split at h
    · rename_i hk
      rcases List.mem_append.1 h with h | h
      · exact prN_ge k v h
      · rw [List.mem_singleton] at h; omega
    · exact prN_ge k v h
theorem prN_le (k : Nat) : (prN k).length ≤ (prN (k + 1)).length := by
  rw [prN]; split <;> simp
theorem prN_mono {j k : Nat} (h : j ≤ k) : (prN j).length ≤ (prN k).length := by
  induction h with
  | refl => exact Nat.le_refl _
  | step _ ih => exact Nat.le_trans ih (prN_le _)
theorem prN_311 : (prN 311).length = 63 := by decide +kernel
theorem prN_312 : (prN 312).length = 64 := by decide +kernel
theorem nod_next {k : Nat} {l : List Int} {i : Nat} {v : Int} (h : l[i]? = some v) : nodB k (l.take (i + 1)) = (nodB k (l.take i) && decide (Int.tmod (k : Int) v ≠ 0)) := by
  rw [List.take_add_one, h, nodB, List.all_append]; simp [nodB]
def strPr_0  : Nat → Regs × Hp := fun k => ([(0, .r (.int .i64 64)), (3, .sl 0 0 (prN k).length 1), (4, .r (.int .i64 (k : Int)))], ⟨1, [(0, some (.plain ((prN k).map (RVal.int .i64))))], false⟩)
def prrPr_0  : Nat → Prop := fun k => 3 ≤ k ∧ k ≤ 312
def strPr_2 (k : Nat) : Nat × Bool → Regs × Hp := fun ⟨i, b⟩ => ([(0, .r (.int .i64 64)), (3, .sl 0 0 (prN k).length 1), (4, .r (.int .i64 (k : Int))), (5, .r (.bool b)), (6, .r (.int .i64 (i : Int)))], ⟨1, [(0, some (.plain ((prN k).map (RVal.int .i64))))], false⟩)
def prrPr_2 (k : Nat) : Nat × Bool → Prop := fun ⟨i, b⟩ => i ≤ (prN k).length ∧ b = nodB k ((prN k).take i)
set_option maxHeartbeats 1000000 in
theorem w_prime  : Pur Try.prog 45 [.r (.int .i64 64)] (.r (.ro 64 ((prN 312).map (RVal.int .i64)))) := by
  refine spec_of_go (N := 39) Try.func45 rfl (by decide) rfl rfl ?_
  refine zB ?_
  refine pA ?_
  refine zC ?_
  refine pA ?_
  refine zA ?_
  refine zB ?_
  refine pA ?_
  refine ar_nil ?_
  refine ag_block ?_
  refine ag_unroll ?_
  refine ag_seq ?_
  refine zB ?_
  iterate 5 refine pA ?_
  refine ar_ent (ent_reg 11 (.r (.bool true)) (by show AVal.r (.bool _) = _; exact eqB (by decide))) ?_
  iterate 3 refine pA ?_
  refine ar_nil ?_
  refine ag_true rfl (by decide) ?_
  refine ag_skip ?_
  refine ag_seq ?_
  refine ag_block ?_
  refine zB ?_
  refine pA ?_
  refine zA ?_
  refine zB ?_
  refine pA ?_
  refine ar_nil ?_
  refine ag_block ?_
  refine ag_unroll ?_
  refine ag_seq ?_
  refine zB ?_
  iterate 4 refine pA ?_
  refine ar_nil ?_
  refine ag_false rfl (by decide) ?_
  refine ag_exit rfl ?_
  refine zB ?_
  refine pA ?_
  refine ar_nil ?_
  refine ag_true rfl (by rfl) ?_
  refine ag_reg ?_
  iterate 2 refine pA ?_
  refine ar_qd rfl (qop_buildRo tOk rfl ?_ rfl) rfl rfl rfl rfl ?_
  · repeat any_goals (first | trivial | decide | omega | (simp; done) | (rw [wu8]; omega) | refine ⟨?_, ?_⟩)
  refine ar_app tOk rfl rfl rfl ?_ ?_
  · refine ⟨⟨?_, ?_, ?_⟩, ⟨?_, ?_⟩, ⟨?_, ?_⟩, ?_⟩ <;> first | trivial | decide | omega | (simp; done) | (simp; omega)
  refine pA ?_
  refine ar_nil ?_
  refine ag_inBlock ?_
  refine ag_reg ?_
  refine pA ?_
  refine ar_pure tOk rfl rfl rfl ?_ ?_
  · unfold inI64; omega
  refine pA ?_
  refine ar_nil ?_
  refine ag_loopI (strPr_0 ) (prrPr_0 ) (fun (k : Nat) => 312 - k) 3 (ent_weak [0] rfl rfl rfl rfl ?_ ?_ rfl) (show prrPr_0  3 from ?_) ?_
  · exact ⟨⟨rfl, rfl⟩, ⟨rfl, rfl⟩, ⟨rfl, rfl⟩, trivial⟩
  · exact ⟨⟨rfl, rfl, rfl⟩, trivial⟩
  · exact ⟨by decide, by decide⟩
  rintro k hp hrec
  obtain ⟨hk3, hkm⟩ : _ := hp
  refine ag_seq ?_
  refine zB ?_
  iterate 5 refine pA ?_
  refine ar_guard (t := decide (((prN k).length : Int) < 64)) (fun ht => ?_) (fun ht => ?_)
  · refine ar_ent (ent_reg 11 (.r (.bool true)) (by show AVal.r (.bool _) = _; exact eqB ht)) ?_
    have hl := of_decide_eq_true ht
    have hk2 : k ≤ 311 := by
      rcases Nat.lt_or_ge k 312 with q | q
      · omega
      · obtain rfl : k = 312 := by omega
        rw [prN_312] at hl; omega
    iterate 3 refine pA ?_
    refine ar_nil ?_
    refine ag_true rfl (decide_eq_true (by omega)) ?_
    refine ag_skip ?_
    refine ag_seq ?_
    refine ag_block ?_
    refine zB ?_
    refine pA ?_
    refine zA ?_
    refine zB ?_
    refine pA ?_
    refine ar_nil ?_
    refine ag_block ?_
    refine ag_loopS (strPr_2 k) (prrPr_2 k) (fun ⟨i, b⟩ => (prN k).length - i) (0, true) (ent_weak [0] rfl rfl rfl rfl ?_ ?_ rfl) (show prrPr_2 k (0, true) from ?_) ?_
    · exact ⟨⟨rfl, rfl⟩, ⟨rfl, rfl⟩, ⟨rfl, rfl⟩, ⟨rfl, rfl⟩, ⟨rfl, rfl⟩, trivial⟩
    · exact ⟨⟨rfl, rfl, rfl⟩, trivial⟩
    · exact ⟨Nat.zero_le _, rfl⟩
    rintro ⟨i, b⟩ hp2 hrec2
    obtain ⟨hi, hb⟩ : _ := hp2
    refine ag_seq ?_
    refine zB ?_
    iterate 4 refine pA ?_
    refine ar_nil ?_
    refine ag_if rfl ?_ ?_
    · intro h20
      obtain ⟨v, hv⟩ : ∃ v, (prN k)[i]? = some v := ⟨(prN k)[i]'(by omega), by simp⟩
      have hv2 := prN_ge k v (List.mem_of_getElem? hv)
      refine ag_skip ?_
      refine ag_seq ?_
      refine ag_block ?_
      refine ag_reg ?_
      iterate 2 refine pA ?_
      refine ar_guard (t := b) (fun ht => ?_) (fun ht => ?_)
      · refine ar_ent (ent_reg 24 (.r (.bool true)) (by show AVal.r (.bool _) = _; exact eqB ht)) ?_
        have hbt := ht
        iterate 3 refine pA ?_
        refine ar_pure tOk rfl rfl rfl ?_ ?_
        · refine ⟨?_, ?_⟩ <;> omega
        refine ar_loadAs tOk (.r (.int .i64 v)) rfl rfl rfl rfl rfl rfl rfl (.inl ⟨rfl, by rw [addo_eq, mulz_eq, Int.toNat_natCast, Nat.zero_add, Nat.mul_one]; simp [Body.cells, hv]⟩) ?_
        refine ar_pure tOk rfl rfl rfl ?_ ?_
        · show v ≠ 0
          omega
        iterate 3 refine pA ?_
        refine ar_nil ?_
        refine ag_inBlock ?_
        refine ag_reg ?_
        refine pA ?_
        refine ar_pure tOk rfl rfl rfl ?_ ?_
        · unfold inI64; omega
        refine pA ?_
        refine ar_nil ?_
        refine ag_ent (ent_weak (g' := (strPr_2 k (i + 1, decide (Int.tmod (k : Int) v ≠ 0))).1) (h' := (strPr_2 k (i + 1, decide (Int.tmod (k : Int) v ≠ 0))).2) [0] rfl rfl rfl rfl ?_ ?_ rfl) ?_
        · exact ⟨⟨rfl, rfl⟩, ⟨rfl, rfl⟩, ⟨rfl, rfl⟩, ⟨rfl, rfl⟩, ⟨rfl, by exact eqI (by omega)⟩, trivial⟩
        · exact ⟨⟨rfl, rfl, rfl⟩, trivial⟩
        have hnx := hrec2 (i + 1, decide (Int.tmod (k : Int) v ≠ 0))
        refine hnx ?_ ?_
        · exact ⟨by omega, by rw [nod_next hv, ← hb, hbt, Bool.true_and]; try rfl⟩
        · show (prN k).length - (i + 1) < (prN k).length - i; omega
      · refine ar_ent (ent_reg 24 (.r (.bool false)) (by show AVal.r (.bool _) = _; exact eqB ht)) ?_
        have hbf := ht
        repeat (first | refine ar_skip rfl rfl rfl ?_ | refine ar_pure tOk rfl rfl rfl trivial ?_)
        refine ar_nil ?_
        refine ag_inBlock ?_
        refine ag_reg ?_
        refine pA ?_
        refine ar_pure tOk rfl rfl rfl ?_ ?_
        · unfold inI64; omega
        refine pA ?_
        refine ar_nil ?_
        refine ag_ent (ent_weak (g' := (strPr_2 k (i + 1, false)).1) (h' := (strPr_2 k (i + 1, false)).2) [0] rfl rfl rfl rfl ?_ ?_ rfl) ?_
        · exact ⟨⟨rfl, rfl⟩, ⟨rfl, rfl⟩, ⟨rfl, rfl⟩, ⟨rfl, rfl⟩, ⟨rfl, by exact eqI (by omega)⟩, trivial⟩
        · exact ⟨⟨rfl, rfl, rfl⟩, trivial⟩
        have hnx := hrec2 (i + 1, false)
        refine hnx ?_ ?_
        · exact ⟨by omega, by rw [nod_next hv, ← hb, hbf]; try rfl⟩
        · show (prN k).length - (i + 1) < (prN k).length - i; omega
    · intro h20
      obtain rfl : i = (prN k).length := by omega
      rw [List.take_length] at hb
      refine ag_exit rfl ?_
      refine zB ?_
      refine pA ?_
      refine ar_nil ?_
      refine ag_cond rfl ?_ ?_
      · intro h33
        have hno : nodB k (prN k) = true := by rw [← hb]; exact h33
        have hpl : (prN k).length ≤ 63 := by have := prN_mono (show k ≤ 311 by omega); rw [prN_311] at this; exact this
        refine ag_reg ?_
        iterate 2 refine pA ?_
        refine ar_qd rfl (qop_buildRo tOk rfl ?_ rfl) rfl rfl rfl rfl ?_
        · repeat any_goals (first | trivial | decide | omega | (simp; done) | (rw [wu8]; omega) | refine ⟨?_, ?_⟩)
        refine ar_app tOk rfl rfl rfl ?_ ?_
        · refine ⟨⟨?_, ?_, ?_⟩, ⟨?_, ?_⟩, ⟨?_, ?_⟩, ?_⟩ <;> first | trivial | decide | omega | (simp; done) | (simp; omega)
        refine pA ?_
        refine ar_nil ?_
        refine ag_inBlock ?_
        refine ag_reg ?_
        refine pA ?_
        refine ar_pure tOk rfl rfl rfl ?_ ?_
        · unfold inI64; omega
        refine pA ?_
        refine ar_nil ?_
        refine ag_ent (ent_weak (g' := (strPr_0  (k + 1)).1) (h' := (strPr_0  (k + 1)).2) [1] rfl rfl rfl rfl ?_ ?_ rfl) ?_
        · exact ⟨⟨rfl, rfl⟩, ⟨rfl, by exact eqSl (by rw [prN_T (by omega) hno]; simp)⟩, ⟨rfl, by exact eqI (by omega)⟩, trivial⟩
        · exact ⟨⟨rfl, rfl, by exact eqPl (by rw [prN_T (by omega) hno]; simp [cutA_eq, List.take_of_length_le])⟩, trivial⟩
        have hnx := hrec (k + 1)
        refine hnx ?_ ?_
        · exact ⟨by omega, by omega⟩
        · show 312 - (k + 1) < 312 - k; omega
      · intro h33
        have hno : nodB k (prN k) = false := by rw [← hb]; exact h33
        refine ag_skip ?_
        refine ag_inBlock ?_
        refine ag_reg ?_
        refine pA ?_
        refine ar_pure tOk rfl rfl rfl ?_ ?_
        · unfold inI64; omega
        refine pA ?_
        refine ar_nil ?_
        refine ag_ent (ent_weak (g' := (strPr_0  (k + 1)).1) (h' := (strPr_0  (k + 1)).2) [0] rfl rfl rfl rfl ?_ ?_ rfl) ?_
        · exact ⟨⟨rfl, rfl⟩, ⟨rfl, by exact eqSl (by rw [prN_F hno])⟩, ⟨rfl, by exact eqI (by omega)⟩, trivial⟩
        · exact ⟨⟨rfl, rfl, by exact eqPl (by rw [prN_F hno])⟩, trivial⟩
        have hnx := hrec (k + 1)
        refine hnx ?_ ?_
        · exact ⟨by omega, by omega⟩
        · show 312 - (k + 1) < 312 - k; omega
  · refine ar_ent (ent_reg 11 (.r (.bool false)) (by show AVal.r (.bool _) = _; exact eqB ht)) ?_
    have hl := of_decide_eq_false ht
    repeat (first | refine ar_skip rfl rfl rfl ?_ | refine ar_pure tOk rfl rfl rfl trivial ?_)
    refine ar_nil ?_
    refine ag_false rfl (by rfl) ?_
    refine ag_exit rfl ?_
    refine zB ?_
    iterate 2 refine pA ?_
    refine ar_nil ?_
    obtain rfl : k = 312 := by
      rcases Nat.lt_or_ge k 312 with q | q
      · have := prN_mono (show k ≤ 311 by omega)
        rw [prN_311] at this; omega
      · omega
    refine ag_ent (ent_freeze 2 rfl rfl rfl trivial) ?_
    refine ag_ret tOk Try.func45 rfl rfl (by simp) ?_
    show AVal.r (.ro _ (cutA _ 0 _)) = _
    rw [cutA_eq, List.drop_zero, List.take_of_length_le (by rw [List.length_map]; omega), prN_312]
end Go.Proofs.Ytopfpkmdkcjjlaa


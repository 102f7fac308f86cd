/-
  WALKS: the law NetFull. (Printed by gen.py out of w_lnet.py.)
-/
import Derived.Test.YtopfpkmdkcjjlaaNet2
namespace Go.Proofs.Ytopfpkmdkcjjlaa
open Go
set_option maxRecDepth 20000
set_option linter.unusedVariables false
set_option linter.unusedSimpArgs false
theorem nEqB {a b : Bool} (h : a = b) : AVal.r (.bool a) = .r (.bool b) := by rw [h]
theorem post_len (L : List NmV) (to : Int) (b : List UInt8) (h : L.length ≤ 512) : (postL L to b).length = min (L.length + 1) 512 := by
  unfold postL
  split <;> simp <;> omega
theorem post_ok {L : List NmV} (hok : ∀ e ∈ L, e.ok) (to : Int) {b : List UInt8} (hb : b.length ≤ 140737488355328) : ∀ e ∈ postL L to b, e.ok := by
  have ho := own_ok hok
  unfold postL
  split
  · intro e he
    rcases List.mem_append.1 he with he | he
    · exact ho e he
    · rw [List.mem_singleton] at he; subst he; intro x hx; cases hx; exact hb
  · exact ho
theorem w_Post (L : List NmV) (hok : ∀ e ∈ L, e.ok) (hL : L.length ≤ 1048576) (hne : L ≠ []) (to : Int) (b : List UInt8) (hb : b.length ≤ 140737488355328) : Pur Try.prog 13 [roN L, .r (.int .i64 to), .r (.ro 1 [.bs b])] (roN (postL L to b)) := by
  by_cases h : L.length < 512
  · rw [postL, if_pos h]; exact w_PostN L hok hL hne h to b hb
  · rw [postL, if_neg h]; exact w_PostF L hok hL hne (by omega) to b hb
theorem w_Twin (L : List NmV) (hok : ∀ e ∈ L, e.ok) (hL : L.length ≤ 512) (hne : L ≠ []) (at_ : Int) : ∃ M : List NmV, M.length = min (L.length + 1) 512 ∧ Pur Try.prog 15 [roN L, .r (.int .i64 at_)] (roN M) := by
  have hp : (0 : Int) < (L.length : Int) := by have := List.length_pos_iff.2 hne; omega
  have q1 := Int.lt_tmod_of_pos at_ hp
  have q3 := Int.tmod_lt_of_pos (Int.tmod at_ (L.length : Int) + (L.length : Int)) hp
  obtain ⟨i, hi⟩ : ∃ i : Nat, placeI at_ (L.length : Int) = (i : Int) := ⟨_, (Int.toNat_of_nonneg (Int.tmod_nonneg _ (by omega))).symm⟩
  have hi2 := hi
  rw [placeI] at hi2
  rw [hi2] at q3
  have hlt : i < L.length := by omega
  have hx : L[i]? = some L[i] := by simp
  by_cases h : L.length < 512
  · exact ⟨_, by simp; omega, w_TwinN L hok (by omega) hne h at_ i _ hi hx⟩
  · exact ⟨_, by simp; omega, w_TwinF L hok (by omega) hne (by omega) at_ i _ hi hx⟩
theorem rep_mail (n : Nat) : repC n [.int .i64 0, .nil] = nmsC (List.replicate n ⟨0, none⟩) := by
  rw [repC, nmsC, List.flatMap_def, List.map_replicate]; rfl
def stnLf_0 (b : List UInt8) (k : Nat) : Nat × List NmV → Regs × Hp := fun ⟨i, L⟩ => ([(0, .r (.bs b)), (6, .r (.int .i64 (k : Int))), (7, .r (.int .i64 (i : Int))), (5, roN L)], ⟨0, [], false⟩)
def prnLf_0 (b : List UInt8) (k : Nat) : Nat × List NmV → Prop := fun ⟨i, L⟩ => i ≤ k ∧ L.length = min (508 + i) 512 ∧ ∀ e ∈ L, e.ok
theorem w_NetFull (b : List UInt8) (hb : b.length ≤ 140737488355328) (many : Int) (hm : 0 ≤ many ∧ many ≤ 255) : Pur Try.prog 4 [.r (.bs b), .r (.int .u8 many)] (.r (.bool true)) := by
  obtain ⟨k, hk⟩ : ∃ k : Nat, Int.tmod many 9 = (k : Int) := ⟨_, (Int.toNat_of_nonneg (Int.tmod_nonneg _ hm.1)).symm⟩
  have hk9 := Int.tmod_lt_of_pos many (show (0 : Int) < 9 by decide)
  rw [hk] at hk9
  refine spec_of_go (N := 41) Try.func4 rfl (by decide) rfl rfl ?_
  refine zB ?_
  refine pA ?_
  refine zA ?_
  refine zB ?_
  refine ar_pur (w_alive23) rfl rfl rfl rfl rfl rfl rfl ?_
  refine pA ?_
  refine ar_nil ?_
  refine ag_false rfl (rfl) ?_
  refine ag_skip ?_
  refine zB ?_
  refine ar_qd rfl (qop_makeSRo tOk rfl (by exact ⟨⟨by decide, by decide⟩, rfl, rfl, by decide, by decide, by simp⟩) rfl rfl) rfl rfl rfl rfl ?_
  refine ar_ent (ent_reg 11 (roN (List.replicate 508 ⟨0, none⟩)) (by show AVal.r (.ro _ (repC _ _)) = _; rw [rep_mail]; unfold roN; rw [List.length_replicate]; rfl)) ?_
  refine pA ?_
  refine zC ?_
  refine pA ?_
  refine ar_pure tOk rfl rfl rfl ?_ ?_
  · first | trivial | omega | (unfold inI64; omega) | (refine ⟨?_, ?_⟩ <;> first | trivial | rfl | omega | simp) | decide
  refine ar_pure tOk rfl rfl rfl ?_ ?_
  · decide
  refine ar_ent (ent_reg 14 (.r (.int .i64 ((k : Int)))) (by show AVal.r (.int _ _) = _; exact eqI (hk))) ?_
  refine pA ?_
  refine zA ?_
  refine zB ?_
  refine pA ?_
  refine ar_nil ?_
  refine ag_block ?_
  refine ag_loopS (stnLf_0 b k) (prnLf_0 b k) (fun ⟨i, L⟩ => k - i) (0, List.replicate 508 ⟨0, none⟩) (ent_weak [] rfl rfl rfl rfl ?_ ?_ rfl) (show prnLf_0 b k (0, List.replicate 508 ⟨0, none⟩) from ?_) ?_
  · exact ⟨⟨rfl, rfl⟩, ⟨rfl, rfl⟩, ⟨rfl, rfl⟩, ⟨rfl, rfl⟩, trivial⟩
  · trivial
  · refine ⟨Nat.zero_le _, by rw [List.length_replicate]; rfl, fun e he => ?_⟩
    rw [List.eq_of_mem_replicate he]; intro x hx; cases hx
  rintro ⟨i, L⟩ hp hrec
  obtain ⟨hi, hll, hok⟩ : _ := hp
  refine ag_seq ?_
  refine zB ?_
  iterate 3 refine pA ?_
  refine ar_nil ?_
  refine ag_if rfl ?_ ?_
  · intro h17
    have hne : L ≠ [] := by intro q; subst q; simp at hll; omega
    have hll2 : L.length ≤ 512 := by omega
    refine ag_skip ?_
    refine ag_seq ?_
    refine ag_block ?_
    refine ag_reg ?_
    iterate 3 refine pA ?_
    refine ar_qd rfl (qop_buildRo tOk rfl ?_ rfl) rfl rfl rfl rfl ?_
    · repeat any_goals (first | trivial | decide | omega | (simp; done) | (rw [wu8]; omega) | refine ⟨?_, ?_⟩)
    refine ar_pur (w_Post L hok (by omega) hne (i : Int) b hb) rfl rfl rfl rfl rfl rfl rfl ?_
    refine pA ?_
    refine ar_nil ?_
    refine ag_inBlock ?_
    refine ag_reg ?_
    refine pA ?_
    refine ar_pure tOk rfl rfl rfl ?_ ?_
    · unfold inI64; omega
    refine pA ?_
    refine ar_nil ?_
    refine ag_ent (ent_weak (g' := (stnLf_0 b k (i + 1, postL L (i : Int) b)).1) (h' := (stnLf_0 b k (i + 1, postL L (i : Int) b)).2) [] rfl rfl rfl rfl ?_ ?_ rfl) ?_
    · exact ⟨⟨rfl, rfl⟩, ⟨rfl, rfl⟩, ⟨rfl, by exact eqI (by omega)⟩, ⟨rfl, rfl⟩, trivial⟩
    · trivial
    have hnx := hrec (i + 1, postL L (i : Int) b)
    refine hnx ?_ ?_
    · exact ⟨by omega, by rw [post_len L (i : Int) b hll2]; omega, post_ok hok _ hb⟩
    · show k - (i + 1) < k - i; omega
  · intro h17
    obtain rfl : i = k := by omega
    have hne : L ≠ [] := by intro q; subst q; simp at hll; omega
    obtain ⟨M, hM, cT⟩ := w_Twin L hok (by omega) hne 1
    refine ag_exit rfl ?_
    refine zB ?_
    refine pA ?_
    refine ar_pure tOk rfl rfl rfl ?_ ?_
    · unfold inI64; omega
    iterate 2 refine pA ?_
    refine zC ?_
    iterate 4 refine pA ?_
    refine ar_ent (ent_reg 31 (.r (.bool true)) (by show AVal.r (.bool _) = _; exact nEqB (by simp; omega))) ?_
    iterate 2 refine pA ?_
    refine ar_pur (cT) rfl rfl rfl rfl rfl rfl rfl ?_
    iterate 2 refine pA ?_
    refine ar_pure tOk rfl rfl rfl ?_ ?_
    · unfold inI64; omega
    iterate 4 refine pA ?_
    refine ar_nil ?_
    refine ag_ret tOk Try.func4 rfl rfl (by simp) ?_
    exact nEqB (by simp; omega)
end Go.Proofs.Ytopfpkmdkcjjlaa


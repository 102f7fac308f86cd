/-
  WALKS: the law NetOwn. (Printed by gen.py out of w_lnet5.py.)
-/
import Derived.Test.YtopfpkmdkcjjlaaNet3
namespace Go.Proofs.Ytopfpkmdkcjjlaa
open Go
set_option maxRecDepth 20000
set_option linter.unusedVariables false
set_option linter.unusedSimpArgs false
theorem w_CloneSO (s : List UInt8) (hs : s.length ≤ 140737488355328)  : Spec Try.prog 63 [.sl 0 0 s.length 1] (hB1 s) (fun v h' => v = .sl 1 0 s.length 1 ∧ h' = ⟨2, [(0, some (.bytes s)), (1, some (.bytes s))], false⟩) := by
  refine spec_of_go (N := 8) Try.func63 rfl (by decide) rfl rfl ?_
  refine zB ?_
  refine pA ?_
  refine zA ?_
  refine zB ?_
  refine pA ?_
  refine ar_qd rfl (qop_nilEq tOk rfl some_sl) rfl rfl rfl rfl ?_
  refine ar_nil ?_
  refine ag_false rfl (rfl) ?_
  refine ag_skip ?_
  refine zB ?_
  refine ar_new tOk rfl rfl rfl ?_ ?_
  · simp
  refine pA ?_
  refine ar_app tOk rfl rfl rfl ?_ ?_
  · refine ⟨⟨?_, ?_, ?_⟩, ⟨?_, ?_⟩, ⟨?_, ?_⟩, ?_⟩ <;> first | trivial | decide | omega | (simp; done) | (simp; omega)
  refine pA ?_
  refine ar_nil ?_
  refine ag_ent (ent_weak (g' := [(2, .sl 1 0 s.length 1)]) (h' := ⟨2, [(0, some (.bytes s)), (1, some (.bytes s))], false⟩) [0, 2] rfl rfl rfl rfl ?_ ?_ rfl) ?_
  · exact ⟨⟨rfl, eqSl (by simp)⟩, trivial⟩
  · exact ⟨⟨rfl, rfl, rfl⟩, ⟨rfl, rfl, eqBs (by simp [cutA_eq])⟩, trivial⟩
  refine ag_ret tOk Try.func63 rfl rfl (by simp) ?_
  exact ⟨rfl, rfl⟩
theorem w_ownSO (to : Int) (s : List UInt8) (hs : s.length ≤ 140737488355328)  : Spec Try.prog 41 [.agg [.r (.int .i64 to), .sl 0 0 s.length 1]] (hB1 s) (fun v h' => v = .agg [.r (.int .i64 to), .sl 1 0 s.length 1] ∧ h' = ⟨2, [(0, some (.bytes s)), (1, some (.bytes s))], false⟩) := by
  refine spec_of_go (N := 8) Try.func41 rfl (by decide) rfl rfl ?_
  refine zB ?_
  refine ar_new tOk rfl rfl rfl trivial ?_
  refine ar_new tOk rfl rfl rfl ?_ ?_
  · simp
  refine zC ?_
  refine pA ?_
  refine pB ?_
  refine ar_obj [0] (w_CloneSO s hs) rfl rfl (handed_of rfl rfl (by decide) ⟨rfl, rfl, rfl, trivial⟩) rfl rfl rfl rfl ?_
  rintro _ _ ⟨rfl, rfl⟩
  refine ⟨_, _, rfl, ?_⟩
  refine pA ?_
  refine ar_store tOk rfl rfl rfl trivial ?_
  refine zC ?_
  refine pB ?_
  refine ar_store tOk rfl rfl rfl trivial ?_
  refine ar_nil ?_
  refine ag_retW (v := .agg [.r (.int .i64 to), .sl 3 0 s.length 1]) tOk Try.func41 rfl rfl (by first | trivial | exact ⟨trivial, trivial⟩ | simp) (ent_weak (g' := [(0, .agg [.r (.int .i64 to), .sl 1 0 s.length 1])]) (h' := ⟨2, [(0, some (.bytes s)), (1, some (.bytes s))], false⟩) [0, 3] rfl rfl rfl rfl ?_ ?_ rfl) ?_
  · exact ⟨⟨rfl, rfl⟩, trivial⟩
  · exact ⟨⟨rfl, rfl, rfl⟩, ⟨rfl, rfl, rfl⟩, trivial⟩
  exact ⟨rfl, rfl⟩
theorem w_ownSR (to : Int) (s : List UInt8) (hs : s.length ≤ 140737488355328)  : Spec Try.prog 41 [.agg [.r (.int .i64 to), .sl 0 0 s.length 1]] (hB1 s) (fun v h' => v = nmA ⟨to, some s⟩ ∧ h' = hB1 s) := by
  have cC := w_CloneS s s.length (Nat.le_refl _) hs
  rw [List.take_length] at cC
  refine spec_of_go (N := 8) Try.func41 rfl (by decide) rfl rfl ?_
  refine zB ?_
  refine ar_new tOk rfl rfl rfl trivial ?_
  refine ar_new tOk rfl rfl rfl ?_ ?_
  · simp
  refine zC ?_
  refine pA ?_
  refine pB ?_
  refine ar_qd rfl (qop_objR [0] (cC) (by rintro _ _ ⟨rfl, rfl⟩; exact ⟨rfl, rfl⟩) rfl rfl (handed_of rfl rfl (by decide) ⟨rfl, rfl, rfl, trivial⟩) rfl rfl) rfl rfl rfl rfl ?_
  refine pA ?_
  refine ar_store tOk rfl rfl rfl trivial ?_
  refine zC ?_
  refine pB ?_
  refine ar_store tOk rfl rfl rfl trivial ?_
  refine ar_nil ?_
  refine ag_retW (v := nmA ⟨to, some s⟩) tOk Try.func41 rfl rfl (by first | trivial | exact ⟨trivial, trivial⟩ | simp) (ent_weak (g' := [(0, nmA ⟨to, some s⟩)]) (h' := hB1 s) [0] rfl rfl rfl rfl ?_ ?_ rfl) ?_
  · exact ⟨⟨rfl, rfl⟩, trivial⟩
  · exact ⟨⟨rfl, rfl, rfl⟩, trivial⟩
  exact ⟨rfl, rfl⟩
theorem w_putSO (to : Int) (s : List UInt8) (hs : s.length ≤ 140737488355328)  : Spec Try.prog 39 [.r .nil, .agg [.r (.int .i64 to), .sl 0 0 s.length 1]] (hB1 s) (fun v h' => v = .sl 2 0 1 2 ∧ h' = ⟨3, [(0, some (.bytes s)), (1, some (.bytes s)), (2, some (.mixed [.r (.int .i64 to), .sl 1 0 s.length 1]))], false⟩) := by
  refine spec_of_go (N := 14) Try.func39 rfl (by decide) rfl rfl ?_
  refine zB ?_
  refine ar_new tOk rfl rfl rfl trivial ?_
  refine pA ?_
  refine zA ?_
  refine zB ?_
  iterate 3 refine pA ?_
  refine ar_nil ?_
  refine ag_false rfl (by decide) ?_
  refine ag_skip ?_
  refine zB ?_
  refine pA ?_
  refine pB ?_
  refine ar_obj [0] (w_ownSO to s hs) rfl rfl (handed_of rfl rfl (by decide) ⟨rfl, rfl, rfl, trivial⟩) rfl rfl rfl rfl ?_
  rintro _ _ ⟨rfl, rfl⟩
  refine ⟨_, _, rfl, ?_⟩
  refine ar_new tOk rfl rfl rfl ?_ ?_
  · simp
  refine ar_app tOk rfl rfl rfl ?_ ?_
  · refine ⟨⟨?_, ?_, ?_⟩, ⟨?_, ?_⟩, ⟨?_, ?_⟩, ?_⟩ <;> first | trivial | decide | omega | (simp; done) | (simp; omega)
  refine pA ?_
  refine ar_nil ?_
  refine ag_ent (ent_weak (g' := [(4, .sl 2 0 1 2)]) (h' := ⟨3, [(0, some (.bytes s)), (1, some (.bytes s)), (2, some (.mixed [.r (.int .i64 to), .sl 1 0 s.length 1]))], false⟩) [0, 2, 4] rfl rfl rfl rfl ?_ ?_ rfl) ?_
  · exact ⟨⟨rfl, rfl⟩, trivial⟩
  · exact ⟨⟨rfl, rfl, rfl⟩, ⟨rfl, rfl, rfl⟩, ⟨rfl, rfl, rfl⟩, trivial⟩
  refine ag_ret tOk Try.func39 rfl rfl (by simp) ?_
  exact ⟨rfl, rfl⟩
theorem w_PostSO (to : Int) (s : List UInt8) (hs : s.length ≤ 140737488355328)  : Spec Try.prog 13 [.r .nil, .r (.int .i64 to), .sl 0 0 1 1] (⟨2, [(0, some (.mixed [.sl 1 0 s.length 1])), (1, some (.bytes s))], false⟩) (fun v h' => v = .sl 3 0 1 2 ∧ h' = ⟨4, [(0, some (.mixed [.sl 1 0 s.length 1])), (1, some (.bytes s)), (2, some (.bytes s)), (3, some (.mixed [.r (.int .i64 to), .sl 2 0 s.length 1]))], false⟩) := by
  refine spec_of_go (N := 25) Try.func13 rfl (by decide) rfl rfl ?_
  refine zB ?_
  refine pA ?_
  refine zC ?_
  refine pA ?_
  refine ar_pur (w_all0) rfl rfl rfl rfl rfl rfl rfl ?_
  refine pA ?_
  refine zA ?_
  refine zB ?_
  iterate 3 refine pA ?_
  refine ar_nil ?_
  refine ag_block ?_
  refine ag_unroll ?_
  refine zB ?_
  refine pA ?_
  refine zA ?_
  refine ag_true rfl (by decide) ?_
  refine ag_skip ?_
  refine ag_seq ?_
  refine ag_block ?_
  refine zB ?_
  refine ar_pure tOk rfl rfl rfl ?_ ?_
  · decide
  refine pB ?_
  refine pA ?_
  refine ar_nil ?_
  refine ag_reg ?_
  iterate 3 refine pA ?_
  refine ar_pure tOk rfl rfl rfl ?_ ?_
  · simp
  refine ar_obj [1] (w_putSO to s hs) rfl rfl (handed_of rfl rfl (by decide) ⟨rfl, rfl, rfl, trivial⟩) rfl rfl rfl rfl ?_
  rintro _ _ ⟨rfl, rfl⟩
  refine ⟨_, _, rfl, ?_⟩
  refine pA ?_
  refine ar_nil ?_
  refine ag_inBlock ?_
  refine ag_reg ?_
  refine ar_pure tOk rfl rfl rfl ?_ ?_
  · unfold inI64; decide
  refine pA ?_
  refine ar_nil ?_
  refine ag_again ?_
  refine zB ?_
  refine pA ?_
  refine zA ?_
  refine ag_false rfl (by decide) ?_
  refine ag_exit rfl ?_
  refine zB ?_
  iterate 2 refine pA ?_
  refine ar_nil ?_
  refine ag_ent (ent_weak (g' := [(6, .sl 3 0 1 2)]) (h' := ⟨4, [(0, some (.mixed [.sl 1 0 s.length 1])), (1, some (.bytes s)), (2, some (.bytes s)), (3, some (.mixed [.r (.int .i64 to), .sl 2 0 s.length 1]))], false⟩) [0, 1, 2, 3] rfl rfl rfl rfl ?_ ?_ rfl) ?_
  · exact ⟨⟨rfl, rfl⟩, trivial⟩
  · exact ⟨⟨rfl, rfl, rfl⟩, ⟨rfl, rfl, rfl⟩, ⟨rfl, rfl, rfl⟩, ⟨rfl, rfl, rfl⟩, trivial⟩
  refine ag_ret tOk Try.func13 rfl rfl (by simp) ?_
  exact ⟨rfl, rfl⟩
theorem w_allSO (to : Int) (s : List UInt8) (hs : s.length ≤ 140737488355328)  : Spec Try.prog 38 [.sl 0 0 1 2] (⟨2, [(0, some (.mixed [.r (.int .i64 to), .sl 1 0 s.length 1])), (1, some (.bytes s))], false⟩) (fun v h' => v = .sl 2 0 1 2 ∧ h' = ⟨3, [(0, some (.mixed [.r (.int .i64 to), .sl 1 0 s.length 1])), (1, some (.bytes s)), (2, some (.plain (nmsC [⟨to, some s⟩])))], false⟩) := by
  refine spec_of_go (N := 19) Try.func38 rfl (by decide) rfl rfl ?_
  refine zB ?_
  refine pA ?_
  refine zC ?_
  refine pA ?_
  refine zA ?_
  refine zB ?_
  iterate 3 refine pA ?_
  refine ar_nil ?_
  refine ag_block ?_
  refine ag_unroll ?_
  refine zB ?_
  refine pA ?_
  refine zA ?_
  refine ag_true rfl (by decide) ?_
  refine ag_skip ?_
  refine ag_seq ?_
  refine ag_block ?_
  refine zB ?_
  refine ar_pure tOk rfl rfl rfl ?_ ?_
  · decide
  refine pB ?_
  refine ar_new tOk rfl rfl rfl ?_ ?_
  · simp
  refine ar_store tOk rfl rfl rfl trivial ?_
  refine ar_nil ?_
  refine ag_reg ?_
  refine pA ?_
  refine pB ?_
  refine ar_qd rfl (qop_objR [1] (w_ownSR to s hs) (by rintro _ _ ⟨rfl, rfl⟩; exact ⟨rfl, rfl⟩) rfl rfl (handed_of rfl rfl (by decide) ⟨rfl, rfl, rfl, trivial⟩) rfl rfl) rfl rfl rfl rfl ?_
  refine ar_qd rfl (qop_buildRo tOk rfl ?_ rfl) rfl rfl rfl rfl ?_
  · repeat any_goals (first | trivial | decide | omega | (simp; done) | (rw [wu8]; omega) | refine ⟨?_, ?_⟩)
  refine ar_app tOk rfl rfl rfl ?_ ?_
  · refine ⟨⟨?_, ?_, ?_⟩, ⟨?_, ?_⟩, ⟨?_, ?_⟩, ?_⟩ <;> first | trivial | decide | omega | (simp; done) | (simp; omega)
  refine pA ?_
  refine ar_nil ?_
  refine ag_inBlock ?_
  refine ag_reg ?_
  refine ar_pure tOk rfl rfl rfl ?_ ?_
  · unfold inI64; decide
  refine pA ?_
  refine ar_nil ?_
  refine ag_again ?_
  refine zB ?_
  refine pA ?_
  refine zA ?_
  refine ag_false rfl (by decide) ?_
  refine ag_exit rfl ?_
  refine zB ?_
  iterate 2 refine pA ?_
  refine ar_nil ?_
  refine ag_ent (ent_weak (g' := [(2, .sl 2 0 1 2)]) (h' := ⟨3, [(0, some (.mixed [.r (.int .i64 to), .sl 1 0 s.length 1])), (1, some (.bytes s)), (2, some (.plain (nmsC [⟨to, some s⟩])))], false⟩) [0, 1, 3] rfl rfl rfl rfl ?_ ?_ rfl) ?_
  · exact ⟨⟨rfl, rfl⟩, trivial⟩
  · exact ⟨⟨rfl, rfl, rfl⟩, ⟨rfl, rfl, rfl⟩, ⟨rfl, rfl, rfl⟩, trivial⟩
  refine ag_ret tOk Try.func38 rfl rfl (by simp) ?_
  exact ⟨rfl, rfl⟩
theorem w_ForSO (to : Int) (s : List UInt8) (hs : s.length ≤ 140737488355328)  : Spec Try.prog 16 [.sl 0 0 1 2, .r (.int .i64 to)] (⟨2, [(0, some (.mixed [.r (.int .i64 to), .sl 1 0 s.length 1])), (1, some (.bytes s))], false⟩) (fun v h' => v = roN [⟨to, some s⟩] ∧ h' = ⟨2, [(0, some (.mixed [.r (.int .i64 to), .sl 1 0 s.length 1])), (1, some (.bytes s))], false⟩) := by
  have hk : keepL to [⟨to, some s⟩] = [⟨to, some s⟩] := by simp [keepL, delP]
  have hd := w_Del to [⟨to, some s⟩] (by simp)
  rw [hk] at hd
  refine spec_of_go (N := 9) Try.func16 rfl (by decide) rfl rfl ?_
  refine zB ?_
  refine ar_new tOk rfl rfl rfl trivial ?_
  refine pA ?_
  refine zC ?_
  refine pA ?_
  refine ar_obj [0, 1] (w_allSO to s hs) rfl rfl (handed_of rfl rfl (by decide) ⟨rfl, rfl, rfl, rfl, rfl, rfl, trivial⟩) rfl rfl rfl rfl ?_
  rintro _ _ ⟨rfl, rfl⟩
  refine ⟨_, _, rfl, ?_⟩
  refine pA ?_
  refine ar_obj [3, 2] (hd) rfl rfl (handed_of rfl rfl (by decide) ⟨rfl, rfl, rfl, rfl, rfl, rfl, trivial⟩) rfl rfl rfl rfl ?_
  rintro _ _ ⟨rfl, rfl⟩
  refine ⟨_, _, rfl, ?_⟩
  refine pA ?_
  refine ar_nil ?_
  refine ag_ent (ent_freeze 4 rfl rfl rfl trivial) ?_
  refine ag_ent (ent_weak (g' := [(4, roN [⟨to, some s⟩])]) (h' := ⟨2, [(0, some (.mixed [.r (.int .i64 to), .sl 1 0 s.length 1])), (1, some (.bytes s))], false⟩) [0, 1] rfl rfl rfl rfl ?_ ?_ rfl) ?_
  · exact ⟨⟨rfl, rfl⟩, trivial⟩
  · exact ⟨⟨rfl, rfl, rfl⟩, ⟨rfl, rfl, rfl⟩, trivial⟩
  refine ag_ret tOk Try.func16 rfl rfl (by simp) ?_
  exact ⟨rfl, rfl⟩
def stLNW_0 (to : Int) (s : List UInt8) : Nat × List UInt8 → Regs × Hp := fun ⟨i, X⟩ => ([(0, .r (.bs s)), (5, .sl 0 0 s.length 1), (6, .sl 2 0 1 2), (7, roN [⟨to, some s⟩]), (8, .r (.int .i64 (i : Int)))], ⟨3, [(0, some (.bytes X)), (1, some (.bytes s)), (2, some (.mixed [.r (.int .i64 to), .sl 1 0 s.length 1]))], false⟩)
def prLNW_0 (to : Int) (s : List UInt8) : Nat × List UInt8 → Prop := fun ⟨i, X⟩ => i ≤ s.length ∧ X.length = s.length
def stLNW_2 (to : Int) (s : List UInt8) (X : List UInt8) : Nat × List UInt8 → Regs × Hp := fun ⟨i, Y⟩ => ([(0, .r (.bs s)), (5, .sl 0 0 s.length 1), (6, .sl 2 0 1 2), (7, roN [⟨to, some s⟩]), (9, .r (.int .i64 (i : Int)))], ⟨3, [(0, some (.bytes X)), (1, some (.bytes Y)), (2, some (.mixed [.r (.int .i64 to), .sl 1 0 s.length 1]))], false⟩)
def prLNW_2 (to : Int) (s : List UInt8) (X : List UInt8) : Nat × List UInt8 → Prop := fun ⟨i, Y⟩ => i ≤ s.length ∧ Y.length = s.length
set_option maxHeartbeats 1000000 in
theorem w_NetOwn (s : List UInt8) (hs : s.length ≤ 140737488355328) (to : Int) : Pur Try.prog 5 [.r (.bs s), .r (.int .i64 to)] (.r (.bool true)) := by
  refine spec_of_go (N := 64) Try.func5 rfl (by decide) rfl rfl ?_
  refine zB ?_
  refine pA ?_
  refine zA ?_
  refine zB ?_
  refine ar_pur (w_alive23) rfl rfl rfl rfl rfl rfl rfl ?_
  refine pA ?_
  refine ar_nil ?_
  refine ag_false rfl (rfl) ?_
  refine ag_skip ?_
  refine zB ?_
  refine ar_new tOk rfl rfl rfl ?_ ?_
  · simp
  refine pA ?_
  refine ar_app tOk rfl rfl rfl ?_ ?_
  · refine ⟨⟨?_, ?_, ?_⟩, ⟨?_, ?_⟩, ⟨?_, ?_⟩, ?_⟩ <;> first | trivial | decide | omega | (simp; done) | (simp; omega)
  refine pA ?_
  refine ar_nil ?_
  refine ag_ent (ent_weak (g' := [(0, .r (.bs s)), (1, .r (.int .i64 to)), (5, .sl 0 0 s.length 1)]) (h' := ⟨1, [(0, some (.bytes s))], false⟩) [1] rfl rfl rfl rfl ?_ ?_ rfl) ?_
  · exact ⟨⟨rfl, rfl⟩, ⟨rfl, rfl⟩, ⟨rfl, eqSl (by simp)⟩, trivial⟩
  · exact ⟨⟨rfl, rfl, rfl⟩, trivial⟩
  refine zB ?_
  iterate 2 refine pA ?_
  refine ar_new tOk rfl rfl rfl ?_ ?_
  · simp
  refine ar_obj [1, 0] (w_PostSO to s hs) rfl rfl (handed_of rfl rfl (by decide) ⟨rfl, rfl, rfl, rfl, rfl, rfl, trivial⟩) rfl rfl rfl rfl ?_
  rintro _ _ ⟨rfl, rfl⟩
  refine ⟨_, _, rfl, ?_⟩
  refine pA ?_
  refine ar_nil ?_
  refine ag_ent (ent_weak (g' := [(0, .r (.bs s)), (1, .r (.int .i64 to)), (5, .sl 0 0 s.length 1), (6, .sl 2 0 1 2)]) (h' := ⟨3, [(0, some (.bytes s)), (1, some (.bytes s)), (2, some (.mixed [.r (.int .i64 to), .sl 1 0 s.length 1]))], false⟩) [0, 2, 3] rfl rfl rfl rfl ?_ ?_ rfl) ?_
  · exact ⟨⟨rfl, rfl⟩, ⟨rfl, rfl⟩, ⟨rfl, rfl⟩, ⟨rfl, rfl⟩, trivial⟩
  · exact ⟨⟨rfl, rfl, rfl⟩, ⟨rfl, rfl, rfl⟩, ⟨rfl, rfl, rfl⟩, trivial⟩
  refine zB ?_
  iterate 2 refine pA ?_
  refine ar_qd rfl (qop_objR [2, 1] (w_ForSO to s hs) (by rintro _ _ ⟨rfl, rfl⟩; exact ⟨rfl, rfl⟩) rfl rfl (handed_of rfl rfl (by decide) ⟨rfl, rfl, rfl, rfl, rfl, rfl, trivial⟩) rfl rfl) rfl rfl rfl rfl ?_
  refine pA ?_
  refine zA ?_
  refine zB ?_
  refine pA ?_
  refine ar_nil ?_
  refine ag_block ?_
  refine ag_loopS (stLNW_0 to s) (prLNW_0 to s) (fun ⟨i, X⟩ => s.length - i) (0, s) (ent_weak [0, 1, 2] rfl rfl rfl rfl ?_ ?_ rfl) (show prLNW_0 to s (0, s) from ?_) ?_
  · exact ⟨⟨rfl, rfl⟩, ⟨rfl, rfl⟩, ⟨rfl, rfl⟩, ⟨rfl, rfl⟩, ⟨rfl, rfl⟩, trivial⟩
  · exact ⟨⟨rfl, rfl, rfl⟩, ⟨rfl, rfl, rfl⟩, ⟨rfl, rfl, rfl⟩, trivial⟩
  · exact ⟨Nat.zero_le _, rfl⟩
  rintro ⟨i, X⟩ hp hrec
  obtain ⟨hi, hXl⟩ : _ := hp
  refine ag_seq ?_
  refine zB ?_
  iterate 4 refine pA ?_
  refine ar_nil ?_
  refine ag_if rfl ?_ ?_
  · intro h25
    obtain ⟨c, hc⟩ : ∃ c, X[i]? = some c := ⟨X[i]'(by omega), by simp⟩
    refine ag_skip ?_
    refine ag_seq ?_
    refine ag_block ?_
    refine ag_reg ?_
    iterate 4 refine pA ?_
    refine ar_pure tOk rfl rfl rfl ?_ ?_
    · refine ⟨?_, ?_⟩ <;> omega
    refine ar_loadAs tOk (.r (.int .u8 (c.toNat : Int))) rfl rfl rfl rfl rfl rfl rfl (.inl ⟨rfl, by rw [addo_eq, mulz_eq, Int.toNat_natCast, Nat.zero_add, Nat.mul_one]; simp [Body.cells, hc]⟩) ?_
    refine pA ?_
    refine ar_pure tOk rfl rfl rfl ?_ ?_
    · refine ⟨?_, ?_⟩ <;> omega
    refine ar_store tOk rfl rfl rfl (by exact ⟨by rw [addo_eq, mulz_eq, Int.toNat_natCast]; omega, by rw [IntKind.wrap_u8]; omega, by rw [IntKind.wrap_u8]; omega⟩) ?_
    refine ar_nil ?_
    refine ag_inBlock ?_
    refine ag_reg ?_
    refine pA ?_
    refine ar_pure tOk rfl rfl rfl ?_ ?_
    · unfold inI64; omega
    refine pA ?_
    refine ar_nil ?_
    refine ag_ent (ent_weak (g' := (stLNW_0 to s (i + 1, X.set i (UInt8.ofNat (IntKind.u8.wrap ((c.toNat : Int) + 1)).toNat))).1) (h' := (stLNW_0 to s (i + 1, X.set i (UInt8.ofNat (IntKind.u8.wrap ((c.toNat : Int) + 1)).toNat))).2) [0, 1, 2] rfl rfl rfl rfl ?_ ?_ rfl) ?_
    · exact ⟨⟨rfl, rfl⟩, ⟨rfl, rfl⟩, ⟨rfl, rfl⟩, ⟨rfl, rfl⟩, ⟨rfl, by exact eqI (by omega)⟩, trivial⟩
    · exact ⟨⟨rfl, rfl, by exact eqBs (by rw [addo_eq, mulz_eq, Int.toNat_natCast, Nat.zero_add, Nat.mul_one])⟩, ⟨rfl, rfl, rfl⟩, ⟨rfl, rfl, rfl⟩, trivial⟩
    have hnx := hrec (i + 1, X.set i (UInt8.ofNat (IntKind.u8.wrap ((c.toNat : Int) + 1)).toNat))
    refine hnx ?_ ?_
    · exact ⟨by omega, by simp [hXl]⟩
    · show s.length - (i + 1) < s.length - i; omega
  · intro h25
    refine ag_exit rfl ?_
    refine ag_seq ?_
    refine zB ?_
    refine pA ?_
    refine ar_nil ?_
    refine ag_block ?_
    refine ag_loopS (stLNW_2 to s X) (prLNW_2 to s X) (fun ⟨i, Y⟩ => s.length - i) (0, s) (ent_weak [0, 1, 2] rfl rfl rfl rfl ?_ ?_ rfl) (show prLNW_2 to s X (0, s) from ?_) ?_
    · exact ⟨⟨rfl, rfl⟩, ⟨rfl, rfl⟩, ⟨rfl, rfl⟩, ⟨rfl, rfl⟩, ⟨rfl, rfl⟩, trivial⟩
    · exact ⟨⟨rfl, rfl, rfl⟩, ⟨rfl, rfl, rfl⟩, ⟨rfl, rfl, rfl⟩, trivial⟩
    · exact ⟨Nat.zero_le _, rfl⟩
    rintro ⟨i, Y⟩ hp hrec
    obtain ⟨hi, hYl⟩ : _ := hp
    refine ag_seq ?_
    refine zB ?_
    iterate 2 refine pA ?_
    refine ar_pure tOk rfl rfl rfl ?_ ?_
    · decide
    refine pA ?_
    refine pB ?_
    iterate 2 refine pA ?_
    refine ar_nil ?_
    refine ag_if rfl ?_ ?_
    · intro h42
      refine ag_skip ?_
      refine ag_seq ?_
      refine ag_block ?_
      refine ag_reg ?_
      refine pA ?_
      refine ar_pure tOk rfl rfl rfl ?_ ?_
      · decide
      refine pA ?_
      refine pB ?_
      refine pA ?_
      refine ar_pure tOk rfl rfl rfl ?_ ?_
      · refine ⟨?_, ?_⟩ <;> omega
      refine ar_store tOk rfl rfl rfl (by exact ⟨by rw [addo_eq, mulz_eq, Int.toNat_natCast]; omega, by decide, by decide⟩) ?_
      refine ar_nil ?_
      refine ag_inBlock ?_
      refine ag_reg ?_
      refine pA ?_
      refine ar_pure tOk rfl rfl rfl ?_ ?_
      · unfold inI64; omega
      refine pA ?_
      refine ar_nil ?_
      refine ag_ent (ent_weak (g' := (stLNW_2 to s X (i + 1, Y.set i (UInt8.ofNat (Int.toNat 7)))).1) (h' := (stLNW_2 to s X (i + 1, Y.set i (UInt8.ofNat (Int.toNat 7)))).2) [0, 1, 2] rfl rfl rfl rfl ?_ ?_ rfl) ?_
      · exact ⟨⟨rfl, rfl⟩, ⟨rfl, rfl⟩, ⟨rfl, rfl⟩, ⟨rfl, rfl⟩, ⟨rfl, by exact eqI (by omega)⟩, trivial⟩
      · exact ⟨⟨rfl, rfl, rfl⟩, ⟨rfl, rfl, by exact eqBs (by rw [addo_eq, mulz_eq, Int.toNat_natCast, Nat.zero_add, Nat.mul_one])⟩, ⟨rfl, rfl, rfl⟩, trivial⟩
      have hnx := hrec (i + 1, Y.set i (UInt8.ofNat (Int.toNat 7)))
      refine hnx ?_ ?_
      · exact ⟨by omega, by simp [hYl]⟩
      · show s.length - (i + 1) < s.length - i; omega
    · intro h42
      refine ag_exit rfl ?_
      refine ag_seq ?_
      refine ag_draw0 (by kernel_rfl) (by kernel_rfl) ?_
      iterate 5 refine aq_pure tOk rfl rfl rfl trivial ?_
      refine aq_pure tOk rfl rfl rfl ?_ ?_
      · refine ⟨?_, ?_⟩ <;> first | decide | (simp; done) | (simp [nmsC, nmC]; done) | (refine ⟨?_, ?_⟩ <;> simp)
      refine aq_pure tOk rfl rfl rfl trivial ?_
      refine aq_load0 tOk rfl (by kernel_rfl) rfl rfl trivial ?_
      iterate 3 refine aq_pure tOk rfl rfl rfl trivial ?_
      refine aq_pureE tOk (.r (.bool true)) rfl (by show AVal.r (.bool _) = _; exact eqB (by simp)) rfl (by rfl) trivial ?_
      iterate 2 refine aq_pure tOk rfl rfl rfl trivial ?_
      refine aq_nil rfl ?_
      refine ag_ret tOk Try.func5 rfl rfl (by simp) ?_
      rfl
end Go.Proofs.Ytopfpkmdkcjjlaa


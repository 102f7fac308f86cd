/-
  WALKS: scan.Of, the law's first. (Printed by gen.py out of w_scan4.py.)
-/
import Derived.Test.YtancdgbclbkpkaaScan3
import Derived.Test.YtancdgbclbkpkaaClone
namespace Go.Proofs.Ytancdgbclbkpkaa
open Go
set_option maxRecDepth 20000
set_option linter.unusedVariables false
set_option linter.unusedSimpArgs false
theorem roE_ne {L : List EvV} (h : L ≠ []) : evsC L ≠ [] := by
  cases L with
  | nil => exact absurd rfl h
  | cons a l => simp [evsC, evC]
theorem w_CloneE (L : List EvV) (hL : L.length * 240 ≤ 140737488355328) (hne : L ≠ []) : Own Try.prog 35 [roE L] L.length 27 (.plain (evsC L)) := by
  refine spec_of_go (N := 8) Try.func35 rfl (by decide) rfl rfl ?_
  refine zB ?_
  refine pA ?_
  refine zA ?_
  refine zB ?_
  refine pA ?_
  refine ar_nilEq tOk rfl rfl rfl rfl rfl rfl rfl (fun q hq => ?_)
  obtain rfl : q = false := by
    cases q with
    | false => rfl
    | true => exact absurd (hq rfl) (roE_ne hne)
  refine ar_nil ?_
  refine ag_false rfl (rfl) ?_
  refine ag_skip ?_
  refine zB ?_
  refine ar_new tOk rfl rfl rfl ?_ ?_
  · simp
  refine pA ?_
  refine ar_app tOk rfl rfl rfl ?_ ?_
  · refine ⟨⟨?_, ?_, ?_⟩, ⟨?_, ?_⟩, ⟨?_, ?_⟩, ?_⟩ <;> first | trivial | decide | omega | (simp; done) | (simp; omega) | (rw [CSd_len]; done) | (rw [CSd_len]; omega)
  refine pA ?_
  refine ar_nil ?_
  refine ag_ret tOk Try.func35 rfl rfl (by simp) ?_
  exact ⟨_, eqSl (by simp), rfl⟩
theorem w_CloneE0  : Pur Try.prog 35 [.r (.ro 0 [])] (.r (.ro 0 [])) := by
  refine spec_of_go (N := 8) Try.func35 rfl (by decide) rfl rfl ?_
  refine zB ?_
  refine pA ?_
  refine zA ?_
  refine zB ?_
  refine pA ?_
  refine ar_nilEq tOk rfl rfl rfl rfl rfl rfl rfl (fun q hq => ?_)
  refine ar_nil ?_
  refine ag_cond rfl ?_ ?_
  · intro h4
    refine zB ?_
    refine pA ?_
    refine ar_nil ?_
    refine ag_ent (ent_nil 2 (.ro 0 []) rfl (.inr rfl)) ?_
    refine ag_ret tOk Try.func35 rfl rfl (by simp) ?_
    rfl
  · intro h4
    refine ag_skip ?_
    refine zB ?_
    refine ar_new tOk rfl rfl rfl ?_ ?_
    · simp
    refine pA ?_
    refine ar_app tOk rfl rfl rfl ?_ ?_
    · refine ⟨⟨?_, ?_, ?_⟩, ⟨?_, ?_⟩, ⟨?_, ?_⟩, ?_⟩ <;> first | trivial | decide | omega | (simp; done) | (simp; omega) | (rw [CSd_len]; done) | (rw [CSd_len]; omega)
    refine pA ?_
    refine ar_nil ?_
    refine ag_ent (ent_freeze 2 rfl rfl rfl trivial) ?_
    refine ag_ret tOk Try.func35 rfl rfl (by simp) ?_
    rfl
theorem w_Of0 (acc : Int) : Pur Try.prog 17 [.r (.ro 0 []), .r (.int .i64 acc)] (.r (.ro 0 [])) := by
  refine spec_of_go (N := 9) Try.func17 rfl (by decide) rfl rfl ?_
  refine zB ?_
  refine ar_new tOk rfl rfl rfl trivial ?_
  refine pA ?_
  refine zC ?_
  refine pA ?_
  refine ar_pur (w_CloneE0) rfl rfl rfl rfl rfl rfl rfl ?_
  refine pA ?_
  refine ar_obj [0] (w_Del0 acc) rfl rfl (handed_of rfl rfl (by decide) ⟨rfl, rfl, rfl, trivial⟩) rfl rfl rfl rfl ?_
  rintro _ _ ⟨rfl, rfl⟩
  refine ⟨_, _, rfl, ?_⟩
  refine pA ?_
  refine ar_nil ?_
  refine ag_ret tOk Try.func17 rfl rfl (by simp) ?_
  rfl
theorem w_OfP (acc : Int) (L : List EvV) (hL : L.length * 240 ≤ 140737488355328) (hne : L ≠ []) : Pur Try.prog 17 [roE L, .r (.int .i64 acc)] (roE (keepL acc L)) := by
  refine spec_of_go (N := 9) Try.func17 rfl (by decide) rfl rfl ?_
  refine zB ?_
  refine ar_new tOk rfl rfl rfl trivial ?_
  refine pA ?_
  refine zC ?_
  refine pA ?_
  refine ar_own (w_CloneE L hL hne) rfl rfl rfl rfl rfl rfl rfl ?_
  refine pA ?_
  refine ar_obj [1, 0] (w_Del acc L (by omega)) rfl rfl (handed_of rfl rfl (by decide) ⟨rfl, rfl, rfl, rfl, rfl, rfl, trivial⟩) rfl rfl rfl rfl ?_
  rintro _ _ ⟨rfl, rfl⟩
  refine ⟨_, _, rfl, ?_⟩
  refine pA ?_
  refine ar_nil ?_
  refine ag_ent (ent_freeze 4 rfl rfl rfl trivial) ?_
  refine ag_ret tOk Try.func17 rfl rfl (by simp) ?_
  show AVal.r (.ro _ (cutA (evsC (keepL acc L)) 0 _)) = _
  rw [cutA_eq, List.drop_zero, List.take_of_length_le (by rw [CSd_len]; exact Nat.le_refl _)]; rfl
theorem w_Of (acc : Int) (L : List EvV) (hL : L.length * 240 ≤ 140737488355328) : Pur Try.prog 17 [roE L, .r (.int .i64 acc)] (roE (keepL acc L)) := by
  by_cases h : L = []
  · subst h; exact w_Of0 acc
  · exact w_OfP acc L hL h
end Go.Proofs.Ytancdgbclbkpkaa


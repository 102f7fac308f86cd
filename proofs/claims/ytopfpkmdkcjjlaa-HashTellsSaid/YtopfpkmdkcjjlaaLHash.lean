/-
  WALKS: the laws HashPads and HashJoins. (Printed by gen.py out of w_lhash.py.)
-/
import Derived.Test.YtopfpkmdkcjjlaaHAbc
import Derived.Test.YtopfpkmdkcjjlaaHRef
import Derived.Test.YtopfpkmdkcjjlaaCat
namespace Go.Proofs.Ytopfpkmdkcjjlaa
open Go
set_option maxRecDepth 20000
set_option linter.unusedVariables false
set_option linter.unusedSimpArgs false
theorem w_alive03  : Pur Try.prog 19 [] (.r (.bool true)) := by
  obtain ⟨s, hs, hl, h4⟩ : ∃ s, Pur Try.prog 21 [.r (.bs [97, 98, 99])] (.r (.bs s)) ∧ s.length = 32 ∧ s.take 4 = [186, 120, 22, 191] := ⟨sha [97, 98, 99], w_Sum _ (by decide), sha_length _, sha_abc⟩
  obtain ⟨r, rfl⟩ : ∃ r, s = 186 :: 120 :: 22 :: 191 :: r := ⟨s.drop 4, by rw [show (186 :: 120 :: 22 :: 191 :: s.drop 4 : List UInt8) = [186, 120, 22, 191] ++ s.drop 4 from rfl, ← h4, List.take_append_drop]⟩
  simp only [List.length_cons] at hl
  refine spec_of_go (N := 32) Try.func19 rfl (by decide) rfl rfl ?_
  refine zB ?_
  refine pA ?_
  refine zC ?_
  refine ar_new tOk rfl rfl rfl ?_ ?_
  · simp
  refine ar_qd rfl (qop_convSl tOk rfl) rfl rfl rfl rfl ?_
  refine ar_ent (ent_body 0 (.mixed [.r (.int .u8 97), .r (.int .u8 98), .r (.int .u8 99)]) (.bytes [97, 98, 99]) rfl rfl) ?_
  refine ar_ent (ent_freeze 3 rfl rfl rfl ⟨by simp, rfl⟩) ?_
  refine ar_ent (ent_reg 3 (.r (.bs [97, 98, 99])) rfl) ?_
  refine ar_pur (hs) rfl rfl rfl rfl rfl rfl rfl ?_
  refine pA ?_
  refine zC ?_
  iterate 4 refine pA ?_
  refine ar_ent (ent_reg 8 (.r (.bool true)) (by show AVal.r (.bool _) = _; exact eqB (by simp; omega))) ?_
  refine pA ?_
  refine ar_pure tOk rfl rfl rfl ?_ ?_
  · exact ⟨by decide, by simp only [List.length_cons]; omega⟩
  refine ar_load tOk rfl rfl rfl ?_ ?_
  · show _ < List.length _; simp
  iterate 4 refine pA ?_
  refine ar_pure tOk rfl rfl rfl ?_ ?_
  · exact ⟨by decide, by simp only [List.length_cons]; omega⟩
  refine ar_load tOk rfl rfl rfl ?_ ?_
  · show _ < List.length _; simp
  iterate 4 refine pA ?_
  refine ar_pure tOk rfl rfl rfl ?_ ?_
  · exact ⟨by decide, by simp only [List.length_cons]; omega⟩
  refine ar_load tOk rfl rfl rfl ?_ ?_
  · show _ < List.length _; simp
  iterate 4 refine pA ?_
  refine ar_pure tOk rfl rfl rfl ?_ ?_
  · exact ⟨by decide, by simp only [List.length_cons]; omega⟩
  refine ar_load tOk rfl rfl rfl ?_ ?_
  · show _ < List.length _; simp
  iterate 3 refine pA ?_
  refine ar_nil ?_
  refine ag_ret tOk Try.func19 rfl rfl (by simp) ?_
  rfl
/-- What is there so far. -/
inductive JR where
  | nil : JR
  | buf (s : List UInt8) : JR
def JR.hp : JR → Hp
  | .nil => ⟨0, [], false⟩
  | .buf s => hB s
def JR.of (a : List UInt8) : JR → Prop
  | .nil => a = []
  | .buf s => a = s
end Go.Proofs.Ytopfpkmdkcjjlaa


/-
  THE LAW NetOwn: for all octets and every number, it returns true, and what it was handed is as it was. No condition.
-/
import Derived.Test.YtopfpkmdkcjjlaaLNet5
import Derived.Test.YtopfpkmdkcjjlaaMD
import Derived.Test.YtopfpkmdkcjjlaaRows
import Derived.WalkKit
import Derived.ProofKit
import Derived.OpenShut
import Derived.JoinedOf
import Derived.SizedLaws
namespace Go.Proofs.Ytopfpkmdkcjjlaa.netOwn
open Go Go.ChangeShapes Go.WideShapes Go.ChangeAt Go.RowKit
theorem own : ownKnob Try.prog.godebug = none := by kernel_rfl
theorem laidOut : laidOutB Try.prog = true := by kernel_rfl
def types : List TypeId := [27, 5, 3]
theorem good : goodG T types = true := by kernel_rfl
theorem parms : Try.f5.params.toList = [27, 3] := rfl
theorem rec3 : Try.prog.readableRec 3 = true ∧ 3 < Try.prog.types.size := ⟨by kernel_rfl, of_decide_eq_true (by kernel_rfl)⟩
theorem rec27 : Try.prog.readableRec 27 = true ∧ 27 < Try.prog.types.size := ⟨by kernel_rfl, of_decide_eq_true (by kernel_rfl)⟩
theorem core (vs : List AVal) (h : FitsAs T [27, 3] vs) : Pur Try.prog 5 vs (.r (.bool true)) := by
  obtain ⟨a0, vs1, rfl, h0, h⟩ := h.cons
  obtain ⟨a1, vs1, rfl, h1, h⟩ := h.cons
  obtain rfl := h.nil
  obtain ⟨b, rfl, hb⟩ := h0.bytes rfl rfl
  obtain ⟨n, rfl, hn⟩ := h1.int rfl
  simp only [reachBytes] at hb
  exact w_NetOwn b (by omega) n
theorem spec_fn {H : Type} : ∀ ds : List (DataW H), ds.length = Try.f5.params.toList.length → (Rows.netOwnSpec.fn H ds).results = [.lit (.bool true)] ∧ (Rows.netOwnSpec.fn H ds).args = ds ∧ (Rows.netOwnSpec.fn H ds).vars = [] := by
  rw [parms]
  intro ds h
  match ds, h with
  | [_, _], _ => exact ⟨rfl, rfl, rfl⟩
set_option maxRecDepth 100000 in
theorem contract (H : Type) (enc : TypeId × Value → H) (W : World) (base : Nat) (args : Array Value) (ds gs : List (DataW H)) (before : List MemPlace)
    (hval : ∀ (j : Nat) t v, Try.f5.params[j]? = some t → args[j]? = some v → Value.okWide Try.prog W .any base t v)
    (hW : DataW.Whole enc Try.prog Try.f5.params.toList Rows.netOwnSpec.vars false W args.toList ds gs before)
    (hsz : (DataW.weightsEach Try.prog (Try.f5.params.toList ++ Rows.netOwnSpec.plain.varTypes Try.prog) (ds ++ gs)).all (· ≤ reachBytes) = true) :
    Calls Try.prog 5 args W fun e W' => ∃ v, e = .returned v ∧ Rows.netOwnSpec.post enc Try.prog Try.f5 false true false false W args v W' :=
  law_contract tOk good (by rw [parms]; decide) (by rw [parms]; exact core) rfl spec_fn laidOut
    (by rw [parms]; intro t ht; simp only [List.mem_cons, List.not_mem_nil, or_false] at ht; rcases ht with rfl | rfl <;> first | exact rec3 | exact rec27) rfl Try.underlying4 W base args ds gs before hval hW hsz
set_option maxRecDepth 100000 in
theorem lifted (os : Os) (started : os.Started) (H : Type) (enc : TypeId × Value → H) :
    ReturnsInHanded {} Try.checked os 5 .any (Rows.netOwnSpec.pre6 enc Try.prog Try.f5 [] false) (Rows.netOwnSpec.post enc Try.prog Try.f5 false true false false) := by
  refine returnsInHanded_of_change_sized (C := Try.checked) own started (by kernel_rfl) Try.func5
    (ChangeSpec.witness6 (enc := enc) (C := Try.checked) (s := Rows.netOwnSpec) false ⟨#[], #[.slice none 0 0, .int .i64 0], []⟩ 8 (by kernel_rfl) (by kernel_rfl) (by kernel_rfl) (by kernel_rfl)) ?_
  intro W base args ds gs before hval hW _ hsz _
  exact contract H enc W base args ds gs before hval hW hsz
theorem proved : Rows.NetOwnSaid :=
  OpenClaim.holds_of_wide 5 Try.f5 rfl rfl rfl rfl rfl rfl rfl ⟨rfl, rfl, rfl, rfl, rfl⟩ rfl rfl rfl rfl rfl (by kernel_rfl) Try.func5 (by kernel_rfl)
    (of_decide_eq_true (by kernel_rfl)) (by unfold Func.isWrapper; first | (rw [if_pos (by decide +kernel)]; kernel_rfl) | (rw [if_neg (by decide +kernel)]; exact ⟨rfl, rfl⟩))
    (fun os started H enc _ => lifted os started H enc)
end Go.Proofs.Ytopfpkmdkcjjlaa.netOwn


/-
  THE LAW DealPayloads: for every key and any two fees, it returns true, and what it was handed is as it was. No condition.
-/
import Derived.Test.YtbofioheoohlgaaLDeal
import Derived.Test.YtbofioheoohlgaaMD
import Derived.Test.YtbofioheoohlgaaRows
import Derived.WalkKit
import Derived.ProofKit
import Derived.OpenShut
import Derived.JoinedOf
import Derived.SizedLaws
namespace Go.Proofs.Ytbofioheoohlgaa.dealPayloads
open Go Go.ChangeShapes Go.WideShapes Go.ChangeAt Go.RowKit

theorem own : ownKnob Try.prog.godebug = none := by kernel_rfl
theorem laidOut : laidOutB Try.prog = true := by kernel_rfl
def types : List TypeId := [9, 24, 22]
theorem good : goodG T types = true := by kernel_rfl
theorem parms : Try.f3.params.toList = [9, 24, 24] := rfl
theorem rec9 : Try.prog.readableRec 9 = true ∧ 9 < Try.prog.types.size := ⟨by kernel_rfl, of_decide_eq_true (by kernel_rfl)⟩
theorem rec24 : Try.prog.readableRec 24 = true ∧ 24 < Try.prog.types.size := ⟨by kernel_rfl, of_decide_eq_true (by kernel_rfl)⟩

theorem core (vs : List AVal) (h : FitsAs T [9, 24, 24] vs) : Pur Try.prog 3 vs (.r (.bool true)) := by
  obtain ⟨a0, vs1, rfl, h0, h⟩ := h.cons
  obtain ⟨a1, vs1, rfl, h1, h⟩ := h.cons
  obtain ⟨a2, vs1, rfl, h2, h⟩ := h.cons
  obtain rfl := h.nil
  obtain ⟨k, rfl, hk⟩ := h0.str rfl
  obtain ⟨x0, x1, x2, x3, rfl, c0, c1, c2, c3⟩ := h1.four rfl rfl rfl
  obtain ⟨y0, y1, y2, y3, rfl, d0, d1, d2, d3⟩ := h2.four rfl rfl rfl
  exact w_DealPayloads k (by simp only [reachBytes] at hk; omega) x0 x1 x2 x3 c0 c1 c2 c3 y0 y1 y2 y3 d0 d1 d2 d3

theorem spec_fn {H : Type} : ∀ ds : List (DataW H), ds.length = Try.f3.params.toList.length → (Rows.dealPayloadsSpec.fn H ds).results = [.lit (.bool true)] ∧ (Rows.dealPayloadsSpec.fn H ds).args = ds ∧ (Rows.dealPayloadsSpec.fn H ds).vars = [] := by
  rw [parms]
  intro ds h
  match ds, h with
  | [_, _, _], _ => exact ⟨rfl, rfl, rfl⟩

set_option maxRecDepth 100000 in
theorem contract (H : Type) (enc : TypeId × Value → H) (W : World) (base : Nat) (args : Array Value) (ds gs : List (DataW H)) (before : List MemPlace)
    (hval : ∀ (j : Nat) t v, Try.f3.params[j]? = some t → args[j]? = some v → Value.okWide Try.prog W .any base t v)
    (hW : DataW.Whole enc Try.prog Try.f3.params.toList Rows.dealPayloadsSpec.vars false W args.toList ds gs before)
    (hsz : (DataW.weightsEach Try.prog (Try.f3.params.toList ++ Rows.dealPayloadsSpec.plain.varTypes Try.prog) (ds ++ gs)).all (· ≤ reachBytes) = true) :
    Calls Try.prog 3 args W fun e W' => ∃ v, e = .returned v ∧ Rows.dealPayloadsSpec.post enc Try.prog Try.f3 false true false false W args v W' :=
  law_contract tOk good (by rw [parms]; decide) (by rw [parms]; exact core) rfl spec_fn laidOut
    (by rw [parms]; intro t ht; simp only [List.mem_cons, List.not_mem_nil, or_false] at ht; rcases ht with rfl | rfl | rfl <;> first | exact rec9 | exact rec24) rfl Try.underlying4 W base args ds gs before hval hW hsz

set_option maxRecDepth 100000 in
theorem lifted (os : Os) (started : os.Started) (H : Type) (enc : TypeId × Value → H) :
    ReturnsInHanded {} Try.checked os 3 .any (Rows.dealPayloadsSpec.pre6 enc Try.prog Try.f3 [] false) (Rows.dealPayloadsSpec.post enc Try.prog Try.f3 false true false false) := by
  refine returnsInHanded_of_change_sized (C := Try.checked) own started (by kernel_rfl) Try.func3
    (ChangeSpec.witness6 (enc := enc) (C := Try.checked) (s := Rows.dealPayloadsSpec) false ⟨#[], #[.string .empty, .agg #[.int .u64 0, .int .u64 0, .int .u64 0, .int .u64 0], .agg #[.int .u64 0, .int .u64 0, .int .u64 0, .int .u64 0]], []⟩ 8 (by kernel_rfl) (by kernel_rfl) (by kernel_rfl) (by kernel_rfl)) ?_
  intro W base args ds gs before hval hW _ hsz _
  exact contract H enc W base args ds gs before hval hW hsz

theorem proved : Rows.DealPayloadsSaid :=
  OpenClaim.holds_of_wide 3 Try.f3 rfl rfl rfl rfl rfl rfl rfl ⟨rfl, rfl, rfl, rfl, rfl⟩ rfl rfl rfl rfl rfl (by kernel_rfl) Try.func3 (by kernel_rfl)
    (of_decide_eq_true (by kernel_rfl)) (by unfold Func.isWrapper; first | (rw [if_pos (by decide +kernel)]; kernel_rfl) | (rw [if_neg (by decide +kernel)]; exact ⟨rfl, rfl⟩))
    (fun os started H enc _ => lifted os started H enc)
end Go.Proofs.Ytbofioheoohlgaa.dealPayloads

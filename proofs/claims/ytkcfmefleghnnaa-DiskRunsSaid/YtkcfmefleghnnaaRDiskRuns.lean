/-
  THE LAW DiskRuns: for every number and every list of calls, it returns true, and what it was handed is as it was. No condition.
-/
import Derived.Test.YtkcfmefleghnnaaLDisk2
import Derived.Test.YtkcfmefleghnnaaA27
import Derived.Test.YtkcfmefleghnnaaRows
import Derived.WalkKit
import Derived.ProofKit
import Derived.OpenShut
import Derived.JoinedOf
import Derived.SizedLaws
namespace Go.Proofs.Ytkcfmefleghnnaa.diskRuns
open Go Go.ChangeShapes Go.WideShapes Go.ChangeAt Go.RowKit

theorem own : ownKnob Try.prog.godebug = none := by kernel_rfl
theorem laidOut : laidOutB Try.prog = true := by kernel_rfl
def types : List TypeId := [3, 54, 56, 22, 5]
theorem good : goodG T types = true := by kernel_rfl
theorem parms : Try.f9.params.toList = [3, 54] := rfl
theorem rec3 : Try.prog.readableRec 3 = true ∧ 3 < Try.prog.types.size := ⟨by kernel_rfl, of_decide_eq_true (by kernel_rfl)⟩
theorem rec54 : Try.prog.readableRec 54 = true ∧ 54 < Try.prog.types.size := ⟨by kernel_rfl, of_decide_eq_true (by kernel_rfl)⟩

theorem ops_of {fuel : Nat} : ∀ (parts : List (List RVal)), (∀ p ∈ parts, Fits T fuel 56 p) → ∃ ops, parts.flatten = opsC ops ∧ ops.length = parts.length
  | [], _ => ⟨[], rfl, rfl⟩
  | p :: ps, h => by
    obtain ⟨ops, h1, h2⟩ := ops_of ps (fun q hq => h q (by simp [hq]))
    obtain ⟨fuel1, qs, rfl, p0, q1, rfl, h3, p1, q2, rfl, h4, p2, q3, rfl, h5, rfl⟩ := (h p (by simp)).struct rfl
    obtain ⟨k, rfl, _⟩ := h3.int rfl
    obtain ⟨n, rfl, _⟩ := h4.int rfl
    obtain ⟨d, rfl, _⟩ := h5.bytes rfl rfl
    exact ⟨(k, n, d) :: ops, by rw [List.flatten_cons, h1]; rfl, by simp [h2]⟩
theorem core (vs : List AVal) (h : FitsAs T [3, 54] vs) : Pur Try.prog 9 vs (.r (.bool true)) := by
  obtain ⟨a0, vs1, rfl, h0, h⟩ := h.cons
  obtain ⟨a1, vs2, rfl, h1, h⟩ := h.cons
  obtain rfl := h.nil
  obtain ⟨r, rfl, _⟩ := h0.int rfl
  obtain ⟨fuel, n, parts, rfl, _, hl, hp⟩ := h1.slice rfl rfl (by simp)
  obtain ⟨ops, h2, h3⟩ := ops_of parts (fun p hq => (hp p hq).2)
  rw [h2, ← hl, ← h3]
  exact w_DiskRuns r ops

theorem spec_fn {H : Type} : ∀ ds : List (DataW H), ds.length = Try.f9.params.toList.length → (Rows.diskRunsSpec.fn H ds).results = [.lit (.bool true)] ∧ (Rows.diskRunsSpec.fn H ds).args = ds ∧ (Rows.diskRunsSpec.fn H ds).vars = [] := by
  rw [parms]
  intro ds h
  match ds, h with
  | [_, _], _ => exact ⟨rfl, rfl, rfl⟩

set_option maxRecDepth 100000 in
theorem contract (H : Type) (enc : TypeId × Value → H) (W : World) (base : Nat) (args : Array Value) (ds gs : List (DataW H)) (before : List MemPlace)
    (hval : ∀ (j : Nat) t v, Try.f9.params[j]? = some t → args[j]? = some v → Value.okWide Try.prog W .any base t v)
    (hW : DataW.Whole enc Try.prog Try.f9.params.toList Rows.diskRunsSpec.vars false W args.toList ds gs before)
    (hsz : (DataW.weightsEach Try.prog (Try.f9.params.toList ++ Rows.diskRunsSpec.plain.varTypes Try.prog) (ds ++ gs)).all (· ≤ reachBytes) = true) :
    Calls Try.prog 9 args W fun e W' => ∃ v, e = .returned v ∧ Rows.diskRunsSpec.post enc Try.prog Try.f9 false true false false W args v W' :=
  law_contract tOk good (by rw [parms]; decide) (by rw [parms]; exact core) rfl spec_fn laidOut
    (by rw [parms]; intro t ht; simp only [List.mem_cons, List.not_mem_nil, or_false] at ht; rcases ht with rfl | rfl <;> first | exact rec3 | exact rec54) rfl Try.underlying4 W base args ds gs before hval hW hsz

set_option maxRecDepth 100000 in
theorem lifted (os : Os) (started : os.Started) (H : Type) (enc : TypeId × Value → H) :
    ReturnsInHanded {} Try.checked os 9 .any (Rows.diskRunsSpec.pre6 enc Try.prog Try.f9 [] false) (Rows.diskRunsSpec.post enc Try.prog Try.f9 false true false false) := by
  refine returnsInHanded_of_change_sized (C := Try.checked) own started (by kernel_rfl) Try.func9
    (ChangeSpec.witness6 (enc := enc) (C := Try.checked) (s := Rows.diskRunsSpec) false ⟨#[], #[.int .i64 0, .slice none 0 0], []⟩ 8 (by kernel_rfl) (by kernel_rfl) (by kernel_rfl) (by kernel_rfl)) ?_
  intro W base args ds gs before hval hW _ hsz _
  exact contract H enc W base args ds gs before hval hW hsz

theorem proved : Rows.DiskRunsSaid :=
  OpenClaim.holds_of_wide 9 Try.f9 rfl rfl rfl rfl rfl rfl rfl ⟨rfl, rfl, rfl, rfl, rfl⟩ rfl rfl rfl rfl rfl (by kernel_rfl) Try.func9 (by kernel_rfl)
    (of_decide_eq_true (by kernel_rfl)) (by unfold Func.isWrapper; first | (rw [if_pos (by decide +kernel)]; kernel_rfl) | (rw [if_neg (by decide +kernel)]; exact ⟨rfl, rfl⟩))
    (fun os started H enc _ => lifted os started H enc)
end Go.Proofs.Ytkcfmefleghnnaa.diskRuns

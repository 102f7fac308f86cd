/-
  THE LAW OtsOpens: for all texts and parts, it returns true, and what it was handed is as it was. No condition.
-/
import Derived.Test.YtmlbfnmpdogmfaaLOts
import Derived.Test.YtmlbfnmpdogmfaaMD
import Derived.Test.YtmlbfnmpdogmfaaRows
import Derived.WalkKit
import Derived.ProofKit
import Derived.OpenShut
import Derived.JoinedOf
import Derived.SizedLaws
namespace Go.Proofs.Ytmlbfnmpdogmfaa.otsOpens
open Go Go.ChangeShapes Go.WideShapes Go.ChangeAt Go.RowKit

theorem own : ownKnob Try.prog.godebug = none := by kernel_rfl
theorem laidOut : laidOutB Try.prog = true := by kernel_rfl
def types : List TypeId := [9, 30, 22, 5]
theorem good : goodG T types = true := by kernel_rfl
theorem parms : Try.f5.params.toList = [22, 30] := rfl
theorem rec22 : Try.prog.readableRec 22 = true ∧ 22 < Try.prog.types.size := ⟨by kernel_rfl, of_decide_eq_true (by kernel_rfl)⟩
theorem rec30 : Try.prog.readableRec 30 = true ∧ 30 < Try.prog.types.size := ⟨by kernel_rfl, of_decide_eq_true (by kernel_rfl)⟩

theorem strs_of {fuel : Nat} : ∀ (parts : List (List RVal)), (∀ p ∈ parts, Fits T fuel 9 p) → ∃ L : List (List UInt8), parts.flatten = sL L ∧ L.length = parts.length
  | [], _ => ⟨[], rfl, rfl⟩
  | p :: ps, h => by
    obtain ⟨L, h1, h2⟩ := strs_of ps (fun q hq => h q (by simp [hq]))
    obtain ⟨s, rfl, _⟩ := (h p (by simp)).str rfl
    exact ⟨s :: L, by rw [List.flatten_cons, h1]; rfl, by simp [h2]⟩
theorem core (vs : List AVal) (h : FitsAs T [22, 30] vs) : Pur Try.prog 5 vs (.r (.bool true)) := by
  obtain ⟨a0, vs1, rfl, h0, h⟩ := h.cons
  obtain ⟨a1, vs1, rfl, h1, h⟩ := h.cons
  obtain rfl := h.nil
  obtain ⟨b, rfl, _, hb⟩ := h0.bytes rfl rfl
  obtain ⟨fuel, n, parts, rfl, hn, hl, hp⟩ := h1.slice rfl rfl (by simp)
  obtain ⟨L, h2, h3⟩ := strs_of parts (fun p hq => (hp p hq).2)
  rw [h2]
  obtain rfl : n = L.length := by omega
  exact w_OtsOpens b L (by simp only [reachBytes] at hb; omega) (by have := hn.1; simp only [maxLen] at this; omega)

theorem spec_fn {H : Type} : ∀ ds : List (DataW H), ds.length = Try.f5.params.toList.length → (Rows.otsOpensSpec.fn H ds).results = [.lit (.bool true)] ∧ (Rows.otsOpensSpec.fn H ds).args = ds ∧ (Rows.otsOpensSpec.fn H ds).vars = [] := by
  rw [parms]
  intro ds h
  match ds, h with
  | [_, _], _ => exact ⟨rfl, rfl, rfl⟩

set_option maxRecDepth 100000 in
theorem contract (H : Type) (enc : TypeId × Value → H) (W : World) (base : Nat) (args : Array Value) (ds gs : List (DataW H)) (before : List MemPlace)
    (hval : ∀ (j : Nat) t v, Try.f5.params[j]? = some t → args[j]? = some v → Value.okWide Try.prog W .any base t v)
    (hW : DataW.Whole enc Try.prog Try.f5.params.toList Rows.otsOpensSpec.vars false W args.toList ds gs before)
    (hsz : (DataW.weightsEach Try.prog (Try.f5.params.toList ++ Rows.otsOpensSpec.plain.varTypes Try.prog) (ds ++ gs)).all (· ≤ reachBytes) = true) :
    Calls Try.prog 5 args W fun e W' => ∃ v, e = .returned v ∧ Rows.otsOpensSpec.post enc Try.prog Try.f5 false true false false W args v W' :=
  law_contract tOk good (by rw [parms]; decide) (by rw [parms]; exact core) rfl spec_fn laidOut
    (by rw [parms]; intro t ht; simp only [List.mem_cons, List.not_mem_nil, or_false] at ht; rcases ht with rfl | rfl <;> first | exact rec22 | exact rec30) rfl Try.underlying4 W base args ds gs before hval hW hsz

set_option maxRecDepth 100000 in
theorem lifted (os : Os) (started : os.Started) (H : Type) (enc : TypeId × Value → H) :
    ReturnsInHanded {} Try.checked os 5 .any (Rows.otsOpensSpec.pre6 enc Try.prog Try.f5 [] false) (Rows.otsOpensSpec.post enc Try.prog Try.f5 false true false false) := by
  refine returnsInHanded_of_change_sized (C := Try.checked) own started (by kernel_rfl) Try.func5
    (ChangeSpec.witness6 (enc := enc) (C := Try.checked) (s := Rows.otsOpensSpec) false ⟨#[], #[.slice none 0 0, .slice none 0 0], []⟩ 8 (by kernel_rfl) (by kernel_rfl) (by kernel_rfl) (by kernel_rfl)) ?_
  intro W base args ds gs before hval hW _ hsz _
  exact contract H enc W base args ds gs before hval hW hsz

theorem proved : Rows.OtsOpensSaid :=
  OpenClaim.holds_of_wide 5 Try.f5 rfl rfl rfl rfl rfl rfl rfl ⟨rfl, rfl, rfl, rfl, rfl⟩ rfl rfl rfl rfl rfl (by kernel_rfl) Try.func5 (by kernel_rfl)
    (of_decide_eq_true (by kernel_rfl)) (by unfold Func.isWrapper; first | (rw [if_pos (by decide +kernel)]; kernel_rfl) | (rw [if_neg (by decide +kernel)]; exact ⟨rfl, rfl⟩))
    (fun os started H enc _ => lifted os started H enc)
end Go.Proofs.Ytmlbfnmpdogmfaa.otsOpens

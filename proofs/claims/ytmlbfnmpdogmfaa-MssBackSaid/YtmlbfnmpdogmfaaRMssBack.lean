/-
  THE LAW MssBack: for all seeds and texts, it returns true, and what it was handed is as it was. No condition.
-/
import Derived.Test.YtmlbfnmpdogmfaaLMss
import Derived.Test.YtmlbfnmpdogmfaaMD
import Derived.Test.YtmlbfnmpdogmfaaRows
import Derived.WalkKit
import Derived.ProofKit
import Derived.OpenShut
import Derived.JoinedOf
import Derived.SizedLaws
namespace Go.Proofs.Ytmlbfnmpdogmfaa.mssBack
open Go Go.ChangeShapes Go.WideShapes Go.ChangeAt Go.RowKit

theorem own : ownKnob Try.prog.godebug = none := by kernel_rfl
theorem laidOut : laidOutB Try.prog = true := by kernel_rfl
def types : List TypeId := [9, 49, 22, 5]
theorem good : goodG T types = true := by kernel_rfl
theorem parms : Try.f9.params.toList = [9, 49] := rfl
theorem rec9 : Try.prog.readableRec 9 = true ∧ 9 < Try.prog.types.size := ⟨by kernel_rfl, of_decide_eq_true (by kernel_rfl)⟩
theorem rec49 : Try.prog.readableRec 49 = true ∧ 49 < Try.prog.types.size := ⟨by kernel_rfl, of_decide_eq_true (by kernel_rfl)⟩

theorem texts_of {fuel : Nat} : ∀ (parts : List (List RVal)), (∀ p ∈ parts, Fits T fuel 22 p) → ∃ L : List (List UInt8), parts.flatten = L.map .bs ∧ L.length = parts.length ∧ ∀ p ∈ L, p.length ≤ 140737488355000
  | [], _ => ⟨[], rfl, rfl, fun _ h => absurd h (by simp)⟩
  | p :: ps, h => by
    obtain ⟨L, h1, h2, h3⟩ := texts_of ps (fun q hq => h q (by simp [hq]))
    obtain ⟨s, rfl, _, hs⟩ := (h p (by simp)).bytes rfl rfl
    refine ⟨s :: L, by rw [List.flatten_cons, h1]; rfl, by simp [h2], fun q hq => ?_⟩
    rcases List.mem_cons.1 hq with rfl | hq
    · simp only [reachBytes] at hs; omega
    · exact h3 q hq
theorem core (vs : List AVal) (h : FitsAs T [9, 49] vs) : Pur Try.prog 9 vs (.r (.bool true)) := by
  obtain ⟨a0, vs1, rfl, h0, h⟩ := h.cons
  obtain ⟨a1, vs1, rfl, h1, h⟩ := h.cons
  obtain rfl := h.nil
  obtain ⟨s, rfl, hs⟩ := h0.str rfl
  obtain ⟨fuel, n, parts, rfl, _, hl, hp⟩ := h1.slice rfl rfl (by simp)
  obtain ⟨L, h2, h3, h4⟩ := texts_of parts (fun p hq => (hp p hq).2)
  rw [h2]
  obtain rfl : n = L.length := by omega
  exact w_MssBack s L (by simp only [reachBytes] at hs; omega) h4

theorem spec_fn {H : Type} : ∀ ds : List (DataW H), ds.length = Try.f9.params.toList.length → (Rows.mssBackSpec.fn H ds).results = [.lit (.bool true)] ∧ (Rows.mssBackSpec.fn H ds).args = ds ∧ (Rows.mssBackSpec.fn H ds).vars = [] := by
  rw [parms]
  intro ds h
  match ds, h with
  | [_, _], _ => exact ⟨rfl, rfl, rfl⟩

set_option maxRecDepth 100000 in
theorem contract (H : Type) (enc : TypeId × Value → H) (W : World) (base : Nat) (args : Array Value) (ds gs : List (DataW H)) (before : List MemPlace)
    (hval : ∀ (j : Nat) t v, Try.f9.params[j]? = some t → args[j]? = some v → Value.okWide Try.prog W .any base t v)
    (hW : DataW.Whole enc Try.prog Try.f9.params.toList Rows.mssBackSpec.vars false W args.toList ds gs before)
    (hsz : (DataW.weightsEach Try.prog (Try.f9.params.toList ++ Rows.mssBackSpec.plain.varTypes Try.prog) (ds ++ gs)).all (· ≤ reachBytes) = true) :
    Calls Try.prog 9 args W fun e W' => ∃ v, e = .returned v ∧ Rows.mssBackSpec.post enc Try.prog Try.f9 false true false false W args v W' :=
  law_contract tOk good (by rw [parms]; decide) (by rw [parms]; exact core) rfl spec_fn laidOut
    (by rw [parms]; intro t ht; simp only [List.mem_cons, List.not_mem_nil, or_false] at ht; rcases ht with rfl | rfl <;> first | exact rec9 | exact rec49) rfl Try.underlying4 W base args ds gs before hval hW hsz

set_option maxRecDepth 100000 in
theorem lifted (os : Os) (started : os.Started) (H : Type) (enc : TypeId × Value → H) :
    ReturnsInHanded {} Try.checked os 9 .any (Rows.mssBackSpec.pre6 enc Try.prog Try.f9 [] false) (Rows.mssBackSpec.post enc Try.prog Try.f9 false true false false) := by
  refine returnsInHanded_of_change_sized (C := Try.checked) own started (by kernel_rfl) Try.func9
    (ChangeSpec.witness6 (enc := enc) (C := Try.checked) (s := Rows.mssBackSpec) false ⟨#[], #[.string ⟨#[]⟩, .slice none 0 0], []⟩ 8 (by kernel_rfl) (by kernel_rfl) (by kernel_rfl) (by kernel_rfl)) ?_
  intro W base args ds gs before hval hW _ hsz _
  exact contract H enc W base args ds gs before hval hW hsz

theorem proved : Rows.MssBackSaid :=
  OpenClaim.holds_of_wide 9 Try.f9 rfl rfl rfl rfl rfl rfl rfl ⟨rfl, rfl, rfl, rfl, rfl⟩ rfl rfl rfl rfl rfl (by kernel_rfl) Try.func9 (by kernel_rfl)
    (of_decide_eq_true (by kernel_rfl)) (by unfold Func.isWrapper; first | (rw [if_pos (by decide +kernel)]; kernel_rfl) | (rw [if_neg (by decide +kernel)]; exact ⟨rfl, rfl⟩))
    (fun os started H enc _ => lifted os started H enc)
end Go.Proofs.Ytmlbfnmpdogmfaa.mssBack

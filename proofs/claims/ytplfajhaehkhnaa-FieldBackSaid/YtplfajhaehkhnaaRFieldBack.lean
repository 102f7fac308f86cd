/-
  THE LAW FieldBack: for every list of fields, it returns true, and what it was handed is as it was. No condition.
-/
import Derived.Test.YtplfajhaehkhnaaFRb
import Derived.Test.YtplfajhaehkhnaaA27
import Derived.Test.YtplfajhaehkhnaaRows
import Derived.WalkKit
import Derived.ProofKit
import Derived.OpenShut
import Derived.JoinedOf
import Derived.SizedLaws
namespace Go.Proofs.Ytplfajhaehkhnaa.fieldBack
open Go Go.ChangeShapes Go.WideShapes Go.ChangeAt Go.RowKit

theorem own : ownKnob Try.prog.godebug = none := by kernel_rfl
theorem laidOut : laidOutB Try.prog = true := by kernel_rfl
def types : List TypeId := [22, 42, 3, 9, 40, 38]
theorem good : goodG T types = true := by kernel_rfl
theorem parms : Try.f6.params.toList = [22] := rfl
theorem rec22 : Try.prog.readableRec 22 = true ∧ 22 < Try.prog.types.size := ⟨by kernel_rfl, of_decide_eq_true (by kernel_rfl)⟩

theorem fields_of {fuel : Nat} : ∀ (parts : List (List RVal)), (∀ p ∈ parts, Fits T fuel 42 p) → ∃ L : List Fd, parts.flatten = fldC L ∧ L.length = parts.length ∧ ∀ f ∈ L, f.ok
  | [], _ => ⟨[], rfl, rfl, fun f hf => by simp at hf⟩
  | p :: ps, h => by
    obtain ⟨L, h1, h2, h3⟩ := fields_of ps (fun q hq => h q (by simp [hq]))
    obtain ⟨fuel1, qs, rfl, p0, q1, rfl, g0, p1, q2, rfl, g1, p2, q3, rfl, g2, p3, q4, rfl, g3, rfl⟩ := (h p (by simp)).struct rfl
    obtain ⟨k, rfl, _⟩ := g0.int rfl
    obtain ⟨n, rfl, _⟩ := g1.int rfl
    obtain ⟨t, rfl, ht⟩ := g2.str rfl
    obtain ⟨x0, x1, x2, x3, rfl, c0, c1, c2, c3⟩ := g3.four rfl rfl rfl
    refine ⟨⟨k, n, t, x0, x1, x2, x3⟩ :: L, by rw [List.flatten_cons, h1]; rfl, by simp [h2], ?_⟩
    intro f hf
    rcases List.mem_cons.1 hf with rfl | hf
    · exact ⟨by simp only [reachBytes] at ht; exact ht, c0, c1, c2, c3⟩
    · exact h3 f hf
theorem list_of {a : AVal} (h : FitsA T 22 a) : ∃ L : List Fd, a = roF L ∧ L.length ≤ 140737488355328 ∧ ∀ f ∈ L, f.ok := by
  obtain ⟨fuel, n, parts, rfl, ⟨_, hb⟩, hl, hp⟩ := h.slice rfl rfl (by simp)
  obtain ⟨L, h2, h3, h4⟩ := fields_of parts (fun p hq => (hp p hq).2)
  refine ⟨L, by rw [h2, ← hl, ← h3]; rfl, ?_, h4⟩
  simp only [reachBytes] at hb
  omega

theorem core (vs : List AVal) (h : FitsAs T [22] vs) : Pur Try.prog 6 vs (.r (.bool true)) := by
  obtain ⟨a0, vs1, rfl, h0, h⟩ := h.cons
  obtain rfl := h.nil
  obtain ⟨L, rfl, hL, hF⟩ := list_of h0
  exact w_FieldBack L hL hF

theorem spec_fn {H : Type} : ∀ ds : List (DataW H), ds.length = Try.f6.params.toList.length → (Rows.fieldBackSpec.fn H ds).results = [.lit (.bool true)] ∧ (Rows.fieldBackSpec.fn H ds).args = ds ∧ (Rows.fieldBackSpec.fn H ds).vars = [] := by
  rw [parms]
  intro ds h
  match ds, h with
  | [_], _ => exact ⟨rfl, rfl, rfl⟩

set_option maxRecDepth 100000 in
theorem contract (H : Type) (enc : TypeId × Value → H) (W : World) (base : Nat) (args : Array Value) (ds gs : List (DataW H)) (before : List MemPlace)
    (hval : ∀ (j : Nat) t v, Try.f6.params[j]? = some t → args[j]? = some v → Value.okWide Try.prog W .any base t v)
    (hW : DataW.Whole enc Try.prog Try.f6.params.toList Rows.fieldBackSpec.vars false W args.toList ds gs before)
    (hsz : (DataW.weightsEach Try.prog (Try.f6.params.toList ++ Rows.fieldBackSpec.plain.varTypes Try.prog) (ds ++ gs)).all (· ≤ reachBytes) = true) :
    Calls Try.prog 6 args W fun e W' => ∃ v, e = .returned v ∧ Rows.fieldBackSpec.post enc Try.prog Try.f6 false true false false W args v W' :=
  law_contract tOk good (by rw [parms]; decide) (by rw [parms]; exact core) rfl spec_fn laidOut
    (by rw [parms]; intro t ht; simp only [List.mem_cons, List.not_mem_nil, or_false] at ht; rcases ht with rfl <;> first | exact rec22) rfl Try.underlying4 W base args ds gs before hval hW hsz

set_option maxRecDepth 100000 in
theorem lifted (os : Os) (started : os.Started) (H : Type) (enc : TypeId × Value → H) :
    ReturnsInHanded {} Try.checked os 6 .any (Rows.fieldBackSpec.pre6 enc Try.prog Try.f6 [] false) (Rows.fieldBackSpec.post enc Try.prog Try.f6 false true false false) := by
  refine returnsInHanded_of_change_sized (C := Try.checked) own started (by kernel_rfl) Try.func6
    (ChangeSpec.witness6 (enc := enc) (C := Try.checked) (s := Rows.fieldBackSpec) false ⟨#[], #[.slice none 0 0], []⟩ 8 (by kernel_rfl) (by kernel_rfl) (by kernel_rfl) (by kernel_rfl)) ?_
  intro W base args ds gs before hval hW _ hsz _
  exact contract H enc W base args ds gs before hval hW hsz

theorem proved : Rows.FieldBackSaid :=
  OpenClaim.holds_of_wide 6 Try.f6 rfl rfl rfl rfl rfl rfl rfl ⟨rfl, rfl, rfl, rfl, rfl⟩ rfl rfl rfl rfl rfl (by kernel_rfl) Try.func6 (by kernel_rfl)
    (of_decide_eq_true (by kernel_rfl)) (by unfold Func.isWrapper; first | (rw [if_pos (by decide +kernel)]; kernel_rfl) | (rw [if_neg (by decide +kernel)]; exact ⟨rfl, rfl⟩))
    (fun os started H enc _ => lifted os started H enc)
end Go.Proofs.Ytplfajhaehkhnaa.fieldBack

/-
  THE LAW NetOrder: for all texts and numbers, it returns true, and what it was handed is as it was. No condition.
-/
import Derived.Test.YtopfpkmdkcjjlaaLNet2
import Derived.Test.YtopfpkmdkcjjlaaMD
import Derived.Test.YtopfpkmdkcjjlaaRows
import Derived.WalkKit
import Derived.ProofKit
import Derived.OpenShut
import Derived.JoinedOf
import Derived.SizedLaws
namespace Go.Proofs.Ytopfpkmdkcjjlaa.netOrder
open Go Go.ChangeShapes Go.WideShapes Go.ChangeAt Go.RowKit
theorem own : ownKnob Try.prog.godebug = none := by kernel_rfl
theorem laidOut : laidOutB Try.prog = true := by kernel_rfl
def types : List TypeId := [22, 27, 5, 23, 3]
theorem good : goodG T types = true := by kernel_rfl
theorem parms : Try.f3.params.toList = [22, 23] := rfl
theorem rec22 : Try.prog.readableRec 22 = true ∧ 22 < Try.prog.types.size := ⟨by kernel_rfl, of_decide_eq_true (by kernel_rfl)⟩
theorem rec23 : Try.prog.readableRec 23 = true ∧ 23 < Try.prog.types.size := ⟨by kernel_rfl, of_decide_eq_true (by kernel_rfl)⟩
theorem texts_of {fuel : Nat} : ∀ (parts : List (List RVal)), (∀ p ∈ parts, Fits T fuel 27 p) → ∃ L : List (List UInt8), parts.flatten = L.map .bs ∧ L.length = parts.length ∧ ∀ p ∈ L, p.length ≤ 140737488355328
  | [], _ => ⟨[], rfl, rfl, fun _ h => absurd h (by simp)⟩
  | p :: ps, h => by
    obtain ⟨L, h1, h2, h3⟩ := texts_of ps (fun q hq => h q (by simp [hq]))
    obtain ⟨s, rfl, _, hs⟩ := (h p (by simp)).bytes rfl rfl
    refine ⟨s :: L, by rw [List.flatten_cons, h1]; rfl, by simp [h2], fun q hq => ?_⟩
    rcases List.mem_cons.1 hq with rfl | hq
    · simp only [reachBytes] at hs; omega
    · exact h3 q hq
theorem textl_of {a : AVal} (h : FitsA T 22 a) : ∃ L : List (List UInt8), a = roL L ∧ (∀ p ∈ L, p.length ≤ 140737488355328) ∧ L.length ≤ 140737488355328 := by
  obtain ⟨fuel, n, parts, rfl, hb, hl, hp⟩ := h.slice rfl rfl (by simp)
  obtain ⟨L, h2, h3, h4⟩ := texts_of parts (fun p hq => (hp p hq).2)
  rw [h2]
  obtain rfl : n = L.length := by omega
  exact ⟨L, rfl, h4, by simp only [reachBytes] at hb; omega⟩
theorem ints_of {fuel : Nat} : ∀ (parts : List (List RVal)), (∀ p ∈ parts, Fits T fuel 3 p) → ∃ L : List Int, parts.flatten = L.map (RVal.int .i64) ∧ L.length = parts.length
  | [], _ => ⟨[], rfl, rfl⟩
  | p :: ps, h => by
    obtain ⟨L, h1, h2⟩ := ints_of ps (fun q hq => h q (by simp [hq]))
    obtain ⟨s, rfl, _⟩ := (h p (by simp)).int rfl
    exact ⟨s :: L, by rw [List.flatten_cons, h1]; rfl, by simp [h2]⟩
theorem intl_of {a : AVal} (h : FitsA T 23 a) : ∃ L : List Int, a = roI L ∧ L.length ≤ 140737488355328 := by
  obtain ⟨fuel, n, parts, rfl, hb, hl, hp⟩ := h.slice rfl rfl (by simp)
  obtain ⟨L, h2, h3⟩ := ints_of parts (fun p hq => (hp p hq).2)
  rw [h2]
  obtain rfl : n = L.length := by omega
  exact ⟨L, rfl, by simp only [reachBytes] at hb; omega⟩
theorem core (vs : List AVal) (h : FitsAs T [22, 23] vs) : Pur Try.prog 3 vs (.r (.bool true)) := by
  obtain ⟨a0, vs1, rfl, h0, h⟩ := h.cons
  obtain ⟨a1, vs1, rfl, h1, h⟩ := h.cons
  obtain rfl := h.nil
  obtain ⟨D, rfl, hD, hl⟩ := textl_of h0
  obtain ⟨I, rfl, hI⟩ := intl_of h1
  exact w_NetOrder D hD hl I hI
theorem spec_fn {H : Type} : ∀ ds : List (DataW H), ds.length = Try.f3.params.toList.length → (Rows.netOrderSpec.fn H ds).results = [.lit (.bool true)] ∧ (Rows.netOrderSpec.fn H ds).args = ds ∧ (Rows.netOrderSpec.fn H ds).vars = [] := by
  rw [parms]
  intro ds h
  match ds, h with
  | [_, _], _ => exact ⟨rfl, rfl, rfl⟩
set_option maxRecDepth 100000 in
theorem contract (H : Type) (enc : TypeId × Value → H) (W : World) (base : Nat) (args : Array Value) (ds gs : List (DataW H)) (before : List MemPlace)
    (hval : ∀ (j : Nat) t v, Try.f3.params[j]? = some t → args[j]? = some v → Value.okWide Try.prog W .any base t v)
    (hW : DataW.Whole enc Try.prog Try.f3.params.toList Rows.netOrderSpec.vars false W args.toList ds gs before)
    (hsz : (DataW.weightsEach Try.prog (Try.f3.params.toList ++ Rows.netOrderSpec.plain.varTypes Try.prog) (ds ++ gs)).all (· ≤ reachBytes) = true) :
    Calls Try.prog 3 args W fun e W' => ∃ v, e = .returned v ∧ Rows.netOrderSpec.post enc Try.prog Try.f3 false true false false W args v W' :=
  law_contract tOk good (by rw [parms]; decide) (by rw [parms]; exact core) rfl spec_fn laidOut
    (by rw [parms]; intro t ht; simp only [List.mem_cons, List.not_mem_nil, or_false] at ht; rcases ht with rfl | rfl <;> first | exact rec22 | exact rec23) rfl Try.underlying4 W base args ds gs before hval hW hsz
set_option maxRecDepth 100000 in
theorem lifted (os : Os) (started : os.Started) (H : Type) (enc : TypeId × Value → H) :
    ReturnsInHanded {} Try.checked os 3 .any (Rows.netOrderSpec.pre6 enc Try.prog Try.f3 [] false) (Rows.netOrderSpec.post enc Try.prog Try.f3 false true false false) := by
  refine returnsInHanded_of_change_sized (C := Try.checked) own started (by kernel_rfl) Try.func3
    (ChangeSpec.witness6 (enc := enc) (C := Try.checked) (s := Rows.netOrderSpec) false ⟨#[], #[.slice none 0 0, .slice none 0 0], []⟩ 8 (by kernel_rfl) (by kernel_rfl) (by kernel_rfl) (by kernel_rfl)) ?_
  intro W base args ds gs before hval hW _ hsz _
  exact contract H enc W base args ds gs before hval hW hsz
theorem proved : Rows.NetOrderSaid :=
  OpenClaim.holds_of_wide 3 Try.f3 rfl rfl rfl rfl rfl rfl rfl ⟨rfl, rfl, rfl, rfl, rfl⟩ rfl rfl rfl rfl rfl (by kernel_rfl) Try.func3 (by kernel_rfl)
    (of_decide_eq_true (by kernel_rfl)) (by unfold Func.isWrapper; first | (rw [if_pos (by decide +kernel)]; kernel_rfl) | (rw [if_neg (by decide +kernel)]; exact ⟨rfl, rfl⟩))
    (fun os started H enc _ => lifted os started H enc)
end Go.Proofs.Ytopfpkmdkcjjlaa.netOrder


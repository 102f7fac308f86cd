/-
  THE LAW BidOrder: for every three bids, it returns true, and what it was handed is as it was. No condition.
-/
import Derived.Test.YtkcfmefleghnnaaBid
import Derived.Test.YtkcfmefleghnnaaA27
import Derived.Test.YtkcfmefleghnnaaRows
import Derived.WalkKit
import Derived.ProofKit
import Derived.OpenShut
import Derived.JoinedOf
import Derived.SizedLaws
namespace Go.Proofs.Ytkcfmefleghnnaa.bidOrder
open Go Go.ChangeShapes Go.WideShapes Go.ChangeAt Go.RowKit

theorem own : ownKnob Try.prog.godebug = none := by kernel_rfl
theorem laidOut : laidOutB Try.prog = true := by kernel_rfl
def types : List TypeId := [43, 3, 41, 25, 23, 9]
theorem good : goodG T types = true := by kernel_rfl
theorem parms : Try.f7.params.toList = [43, 43, 43] := rfl
theorem rec43 : Try.prog.readableRec 43 = true ∧ 43 < Try.prog.types.size := ⟨by kernel_rfl, of_decide_eq_true (by kernel_rfl)⟩

theorem bid_of {a : AVal} (h : FitsA T 43 a) : ∃ v : BidV, a = bidA v := by
  obtain ⟨fuel, rs, rfl, hh⟩ := h.agg rfl rfl
  obtain ⟨fuel1, parts, rfl, p0, ps, rfl, h0, p1, ps, rfl, h1, p2, ps, rfl, h2, p3, ps, rfl, h3, p4, ps, rfl, h4, rfl⟩ := hh.struct rfl
  obtain ⟨r, rfl, _⟩ := h0.int rfl
  obtain ⟨fuel2, parts, rfl, q0, ps, rfl, g0, q1, ps, rfl, g1, q2, ps, rfl, g2, q3, ps, rfl, g3, q4, ps, rfl, g4, q5, ps, rfl, g5, rfl⟩ := h1.struct rfl
  obtain ⟨u, rfl, _⟩ := g0.int rfl
  obtain ⟨s, rfl, _⟩ := g1.int rfl
  obtain ⟨c, rfl, _⟩ := g2.int rfl
  obtain ⟨t, rfl, _⟩ := g3.int rfl
  obtain ⟨m0, m1, m2, m3, rfl, _⟩ := g4.four rfl rfl rfl
  obtain ⟨id, rfl, _⟩ := g5.str rfl
  obtain ⟨a0, a1, a2, a3, rfl, _⟩ := h2.four rfl rfl rfl
  obtain ⟨n, rfl, _⟩ := h3.int rfl
  obtain ⟨sg, rfl, _⟩ := h4.str rfl
  exact ⟨⟨r, u, s, c, t, m0, m1, m2, m3, id, a0, a1, a2, a3, n, sg⟩, rfl⟩
theorem core (vs : List AVal) (h : FitsAs T [43, 43, 43] vs) : Pur Try.prog 7 vs (.r (.bool true)) := by
  obtain ⟨a0, vs1, rfl, h0, h⟩ := h.cons
  obtain ⟨a1, vs2, rfl, h1, h⟩ := h.cons
  obtain ⟨a2, vs3, rfl, h2, h⟩ := h.cons
  obtain rfl := h.nil
  obtain ⟨v, rfl⟩ := bid_of h0
  obtain ⟨w, rfl⟩ := bid_of h1
  obtain ⟨x, rfl⟩ := bid_of h2
  exact w_BidOrder v w x

theorem spec_fn {H : Type} : ∀ ds : List (DataW H), ds.length = Try.f7.params.toList.length → (Rows.bidOrderSpec.fn H ds).results = [.lit (.bool true)] ∧ (Rows.bidOrderSpec.fn H ds).args = ds ∧ (Rows.bidOrderSpec.fn H ds).vars = [] := by
  rw [parms]
  intro ds h
  match ds, h with
  | [_, _, _], _ => exact ⟨rfl, rfl, rfl⟩

set_option maxRecDepth 100000 in
theorem contract (H : Type) (enc : TypeId × Value → H) (W : World) (base : Nat) (args : Array Value) (ds gs : List (DataW H)) (before : List MemPlace)
    (hval : ∀ (j : Nat) t v, Try.f7.params[j]? = some t → args[j]? = some v → Value.okWide Try.prog W .any base t v)
    (hW : DataW.Whole enc Try.prog Try.f7.params.toList Rows.bidOrderSpec.vars false W args.toList ds gs before)
    (hsz : (DataW.weightsEach Try.prog (Try.f7.params.toList ++ Rows.bidOrderSpec.plain.varTypes Try.prog) (ds ++ gs)).all (· ≤ reachBytes) = true) :
    Calls Try.prog 7 args W fun e W' => ∃ v, e = .returned v ∧ Rows.bidOrderSpec.post enc Try.prog Try.f7 false true false false W args v W' :=
  law_contract tOk good (by rw [parms]; decide) (by rw [parms]; exact core) rfl spec_fn laidOut
    (by rw [parms]; intro t ht; simp only [List.mem_cons, List.not_mem_nil, or_false] at ht; rcases ht with rfl | rfl | rfl <;> first | exact rec43) rfl Try.underlying4 W base args ds gs before hval hW hsz

set_option maxRecDepth 100000 in
theorem lifted (os : Os) (started : os.Started) (H : Type) (enc : TypeId × Value → H) :
    ReturnsInHanded {} Try.checked os 7 .any (Rows.bidOrderSpec.pre6 enc Try.prog Try.f7 [] false) (Rows.bidOrderSpec.post enc Try.prog Try.f7 false true false false) := by
  refine returnsInHanded_of_change_sized (C := Try.checked) own started (by kernel_rfl) Try.func7
    (ChangeSpec.witness6 (enc := enc) (C := Try.checked) (s := Rows.bidOrderSpec) false ⟨#[], #[.agg #[.int .i64 0, .int .i64 0, .int .i64 0, .int .i64 0, .int .i64 0, .int .u64 0, .int .u64 0, .int .u64 0, .int .u64 0, .string .empty, .int .u64 0, .int .u64 0, .int .u64 0, .int .u64 0, .int .i64 0, .string .empty], .agg #[.int .i64 0, .int .i64 0, .int .i64 0, .int .i64 0, .int .i64 0, .int .u64 0, .int .u64 0, .int .u64 0, .int .u64 0, .string .empty, .int .u64 0, .int .u64 0, .int .u64 0, .int .u64 0, .int .i64 0, .string .empty], .agg #[.int .i64 0, .int .i64 0, .int .i64 0, .int .i64 0, .int .i64 0, .int .u64 0, .int .u64 0, .int .u64 0, .int .u64 0, .string .empty, .int .u64 0, .int .u64 0, .int .u64 0, .int .u64 0, .int .i64 0, .string .empty]], []⟩ 8 (by kernel_rfl) (by kernel_rfl) (by kernel_rfl) (by kernel_rfl)) ?_
  intro W base args ds gs before hval hW _ hsz _
  exact contract H enc W base args ds gs before hval hW hsz

theorem proved : Rows.BidOrderSaid :=
  OpenClaim.holds_of_wide 7 Try.f7 rfl rfl rfl rfl rfl rfl rfl ⟨rfl, rfl, rfl, rfl, rfl⟩ rfl rfl rfl rfl rfl (by kernel_rfl) Try.func7 (by kernel_rfl)
    (of_decide_eq_true (by kernel_rfl)) (by unfold Func.isWrapper; first | (rw [if_pos (by decide +kernel)]; kernel_rfl) | (rw [if_neg (by decide +kernel)]; exact ⟨rfl, rfl⟩))
    (fun os started H enc _ => lifted os started H enc)
end Go.Proofs.Ytkcfmefleghnnaa.bidOrder

/-
  THE LAW AuctionOrder: for any two bids and every number, it returns true, and what it was handed is as it was. No condition.
-/
import Derived.Test.YtnodpljgcdkbkaaAuc7
import Derived.Test.YtnodpljgcdkbkaaMD
import Derived.Test.YtnodpljgcdkbkaaRows
import Derived.WalkKit
import Derived.ProofKit
import Derived.OpenShut
import Derived.JoinedOf
import Derived.SizedLaws
namespace Go.Proofs.Ytnodpljgcdkbkaa.auctionOrder
open Go Go.ChangeShapes Go.WideShapes Go.ChangeAt Go.RowKit
theorem own : ownKnob Try.prog.godebug = none := by kernel_rfl
theorem laidOut : laidOutB Try.prog = true := by kernel_rfl
def types : List TypeId := [28, 26, 24, 22, 3, 9, 35, 5]
theorem good : goodG T types = true := by kernel_rfl
theorem parms : Try.f9.params.toList = [28, 28, 3] := rfl
theorem rec3 : Try.prog.readableRec 3 = true ∧ 3 < Try.prog.types.size := ⟨by kernel_rfl, of_decide_eq_true (by kernel_rfl)⟩
theorem rec28 : Try.prog.readableRec 28 = true ∧ 28 < Try.prog.types.size := ⟨by kernel_rfl, of_decide_eq_true (by kernel_rfl)⟩
theorem ask_ofs {fuel : Nat} {rs : List RVal} (hh : Fits T fuel 26 rs) : ∃ v : AskV, rs = askC v ∧ v.ok := by
  obtain ⟨fuel1, parts, rfl, p0, ps, rfl, h0, p1, ps, rfl, h1, p2, ps, rfl, h2, p3, ps, rfl, h3, p4, ps, rfl, h4, p5, ps, rfl, h5, rfl⟩ := hh.struct rfl
  obtain ⟨u, rfl, _⟩ := h0.int rfl
  obtain ⟨s, rfl, _⟩ := h1.int rfl
  obtain ⟨c, rfl, _⟩ := h2.int rfl
  obtain ⟨t, rfl, _⟩ := h3.int rfl
  obtain ⟨m0, m1, m2, m3, rfl, c0, c1, c2, c3⟩ := h4.four rfl rfl rfl
  obtain ⟨i, rfl, hi⟩ := h5.str rfl
  exact ⟨⟨u, s, c, t, m0, m1, m2, m3, i⟩, rfl, c0, c1, c2, c3, by simp only [reachBytes] at hi; exact hi⟩
theorem ask_of {a : AVal} (h : FitsA T 26 a) : ∃ v : AskV, a = askA v ∧ v.ok := by
  obtain ⟨fuel, rs, rfl, hh⟩ := h.agg rfl rfl
  obtain ⟨v, rfl, hv⟩ := ask_ofs hh
  exact ⟨v, rfl, hv⟩
theorem bid_ofs {fuel : Nat} {rs : List RVal} (hh : Fits T fuel 28 rs) : ∃ v : BidV, rs = bidC v ∧ v.ok := by
  obtain ⟨fuel1, parts, rfl, p0, ps, rfl, h0, p1, ps, rfl, h1, p2, ps, rfl, h2, p3, ps, rfl, h3, p4, ps, rfl, h4, rfl⟩ := hh.struct rfl
  obtain ⟨r, rfl, _⟩ := h0.int rfl
  obtain ⟨a, rfl, ha⟩ := ask_ofs h1
  obtain ⟨m0, m1, m2, m3, rfl, c0, c1, c2, c3⟩ := h2.four rfl rfl rfl
  obtain ⟨e, rfl, _⟩ := h3.int rfl
  obtain ⟨s, rfl, hs⟩ := h4.str rfl
  exact ⟨⟨r, a, m0, m1, m2, m3, e, s⟩, rfl, ha, c0, c1, c2, c3, by simp only [reachBytes] at hs; exact hs⟩
theorem bid_of {a : AVal} (h : FitsA T 28 a) : ∃ v : BidV, a = bidA v ∧ v.ok := by
  obtain ⟨fuel, rs, rfl, hh⟩ := h.agg rfl rfl
  obtain ⟨v, rfl, hv⟩ := bid_ofs hh
  exact ⟨v, rfl, hv⟩
theorem bidr_of {a : AVal} (h : FitsA T 28 a) : ∃ v : BidV, a = bidA v ∧ v.ok ∧ (-9223372036854775808 ≤ v.r ∧ v.r ≤ 9223372036854775807) := by
  obtain ⟨fuel, rs, rfl, hh⟩ := h.agg rfl rfl
  have hh2 := hh
  obtain ⟨v, rfl, hv⟩ := bid_ofs hh
  obtain ⟨fuel1, parts, he, p0, ps, rfl, h0, _⟩ := hh2.struct rfl
  obtain ⟨r, rfl, hr⟩ := h0.int rfl
  have e1 : IntKind.i64.max = 9223372036854775807 := by decide
  have e2 : IntKind.i64.min = -9223372036854775808 := by decide
  rw [e1, e2] at hr
  have : v.r = r := by
    simp only [bidC, List.flatten_cons, List.cons_append, List.nil_append, List.cons.injEq, RVal.int.injEq, true_and] at he
    exact he.1
  exact ⟨v, rfl, hv, by omega⟩
theorem core (vs : List AVal) (h : FitsAs T [28, 28, 3] vs) : Pur Try.prog 9 vs (.r (.bool true)) := by
  obtain ⟨a0, vs1, rfl, h0, h⟩ := h.cons
  obtain ⟨a1, vs1, rfl, h1, h⟩ := h.cons
  obtain ⟨a2, vs1, rfl, h2, h⟩ := h.cons
  obtain rfl := h.nil
  obtain ⟨a, rfl, ha, hra⟩ := bidr_of h0
  obtain ⟨b, rfl, hb, hrb⟩ := bidr_of h1
  obtain ⟨n, rfl, hn⟩ := h2.int rfl
  have e1 : IntKind.i64.max = 9223372036854775807 := by decide
  rw [e1] at hn
  exact w_AuctionOrder a b ha hb hra hrb n (by omega)
theorem spec_fn {H : Type} : ∀ ds : List (DataW H), ds.length = Try.f9.params.toList.length → (Rows.auctionOrderSpec.fn H ds).results = [.lit (.bool true)] ∧ (Rows.auctionOrderSpec.fn H ds).args = ds ∧ (Rows.auctionOrderSpec.fn H ds).vars = [] := by
  rw [parms]
  intro ds h
  match ds, h with
  | [_, _, _], _ => exact ⟨rfl, rfl, rfl⟩
set_option maxRecDepth 100000 in
theorem contract (H : Type) (enc : TypeId × Value → H) (W : World) (base : Nat) (args : Array Value) (ds gs : List (DataW H)) (before : List MemPlace)
    (hval : ∀ (j : Nat) t v, Try.f9.params[j]? = some t → args[j]? = some v → Value.okWide Try.prog W .any base t v)
    (hW : DataW.Whole enc Try.prog Try.f9.params.toList Rows.auctionOrderSpec.vars false W args.toList ds gs before)
    (hsz : (DataW.weightsEach Try.prog (Try.f9.params.toList ++ Rows.auctionOrderSpec.plain.varTypes Try.prog) (ds ++ gs)).all (· ≤ reachBytes) = true) :
    Calls Try.prog 9 args W fun e W' => ∃ v, e = .returned v ∧ Rows.auctionOrderSpec.post enc Try.prog Try.f9 false true false false W args v W' :=
  law_contract tOk good (by rw [parms]; decide) (by rw [parms]; exact core) rfl spec_fn laidOut
    (by rw [parms]; intro t ht; simp only [List.mem_cons, List.not_mem_nil, or_false] at ht; rcases ht with rfl | rfl | rfl <;> first | exact rec3 | exact rec28) rfl Try.underlying4 W base args ds gs before hval hW hsz
set_option maxRecDepth 100000 in
theorem lifted (os : Os) (started : os.Started) (H : Type) (enc : TypeId × Value → H) :
    ReturnsInHanded {} Try.checked os 9 .any (Rows.auctionOrderSpec.pre6 enc Try.prog Try.f9 [] false) (Rows.auctionOrderSpec.post enc Try.prog Try.f9 false true false false) := by
  refine returnsInHanded_of_change_sized (C := Try.checked) own started (by kernel_rfl) Try.func9
    (ChangeSpec.witness6 (enc := enc) (C := Try.checked) (s := Rows.auctionOrderSpec) false ⟨#[], #[.agg #[.int .i64 0, .int .i64 0, .int .i64 0, .int .i64 0, .int .i64 0, .int .u64 0, .int .u64 0, .int .u64 0, .int .u64 0, .string .empty, .int .u64 0, .int .u64 0, .int .u64 0, .int .u64 0, .int .i64 0, .string .empty], .agg #[.int .i64 0, .int .i64 0, .int .i64 0, .int .i64 0, .int .i64 0, .int .u64 0, .int .u64 0, .int .u64 0, .int .u64 0, .string .empty, .int .u64 0, .int .u64 0, .int .u64 0, .int .u64 0, .int .i64 0, .string .empty], .int .i64 0], []⟩ 8 (by kernel_rfl) (by kernel_rfl) (by kernel_rfl) (by kernel_rfl)) ?_
  intro W base args ds gs before hval hW _ hsz _
  exact contract H enc W base args ds gs before hval hW hsz
theorem proved : Rows.AuctionOrderSaid :=
  OpenClaim.holds_of_wide 9 Try.f9 rfl rfl rfl rfl rfl rfl rfl ⟨rfl, rfl, rfl, rfl, rfl⟩ rfl rfl rfl rfl rfl (by kernel_rfl) Try.func9 (by kernel_rfl)
    (of_decide_eq_true (by kernel_rfl)) (by unfold Func.isWrapper; first | (rw [if_pos (by decide +kernel)]; kernel_rfl) | (rw [if_neg (by decide +kernel)]; exact ⟨rfl, rfl⟩))
    (fun os started H enc _ => lifted os started H enc)
end Go.Proofs.Ytnodpljgcdkbkaa.auctionOrder


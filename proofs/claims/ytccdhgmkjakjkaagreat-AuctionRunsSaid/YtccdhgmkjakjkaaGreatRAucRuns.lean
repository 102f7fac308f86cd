/-
  THE LAW AuctionRuns: for every list of calls, it returns true, and what it was handed is as it was. No condition.
-/
import Derived.Test.YtccdhgmkjakjkaaGreatLAw19
import Derived.Test.YtccdhgmkjakjkaaGreatMD
import Derived.Test.YtccdhgmkjakjkaaGreatRows
import Derived.WalkKit
import Derived.ProofKit
import Derived.OpenShut
import Derived.JoinedOf
import Derived.SizedLaws
namespace Go.Proofs.YtccdhgmkjakjkaaGreat.auctionRuns
open Go Go.ChangeShapes Go.WideShapes Go.ChangeAt Go.RowKit
theorem own : ownKnob Tryz.prog.godebug = none := by kernel_rfl
theorem laidOut : laidOutB Tryz.prog = true := by kernel_rfl
def types : List TypeId := [22, 38, 36, 34, 32, 30, 3, 9, 57, 5]
theorem good : goodG T types = true := by kernel_rfl
theorem parms : Tryz.f3.params.toList = [22] := rfl
theorem rec22 : Tryz.prog.readableRec 22 = true ∧ 22 < Tryz.prog.types.size := ⟨by kernel_rfl, of_decide_eq_true (by kernel_rfl)⟩
theorem ask_ofs {fuel : Nat} {rs : List RVal} (hh : Fits T fuel 34 rs) : ∃ v : AskV, rs = askC v ∧ v.ok := by
 obtain ⟨fuel1, parts, rfl, p0, ps, rfl, h0, p1, ps, rfl, h1, p2, ps, rfl, h2, p3, ps, rfl, h3, p4, ps, rfl, h4, p5, ps, rfl, h5, rfl⟩ := hh.struct rfl
 obtain ⟨u, rfl, _⟩ := h0.int rfl
 obtain ⟨s, rfl, _⟩ := h1.int rfl
 obtain ⟨c, rfl, _⟩ := h2.int rfl
 obtain ⟨t, rfl, _⟩ := h3.int rfl
 obtain ⟨m0, m1, m2, m3, rfl, c0, c1, c2, c3⟩ := h4.four rfl rfl rfl
 obtain ⟨i, rfl, hi⟩ := h5.str rfl
 exact ⟨⟨u, s, c, t, m0, m1, m2, m3, i⟩, rfl, c0, c1, c2, c3, by simp only [reachBytes] at hi; exact hi⟩
theorem ask_of {a : AVal} (h : FitsA T 34 a) : ∃ v : AskV, a = askA v ∧ v.ok := by
 obtain ⟨fuel, rs, rfl, hh⟩ := h.agg rfl rfl
 obtain ⟨v, rfl, hv⟩ := ask_ofs hh
 exact ⟨v, rfl, hv⟩
theorem bid_ofs {fuel : Nat} {rs : List RVal} (hh : Fits T fuel 36 rs) : ∃ v : BidV, rs = bidC v ∧ v.ok := by
 obtain ⟨fuel1, parts, rfl, p0, ps, rfl, h0, p1, ps, rfl, h1, p2, ps, rfl, h2, p3, ps, rfl, h3, p4, ps, rfl, h4, rfl⟩ := hh.struct rfl
 obtain ⟨r, rfl, _⟩ := h0.int rfl
 obtain ⟨a, rfl, ha⟩ := ask_ofs h1
 obtain ⟨m0, m1, m2, m3, rfl, c0, c1, c2, c3⟩ := h2.four rfl rfl rfl
 obtain ⟨e, rfl, _⟩ := h3.int rfl
 obtain ⟨s, rfl, hs⟩ := h4.str rfl
 exact ⟨⟨r, a, m0, m1, m2, m3, e, s⟩, rfl, ha, c0, c1, c2, c3, by simp only [reachBytes] at hs; exact hs⟩
theorem bid_of {a : AVal} (h : FitsA T 36 a) : ∃ v : BidV, a = bidA v ∧ v.ok := by
 obtain ⟨fuel, rs, rfl, hh⟩ := h.agg rfl rfl
 obtain ⟨v, rfl, hv⟩ := bid_ofs hh
 exact ⟨v, rfl, hv⟩
theorem bidr_ofs {fuel : Nat} {rs : List RVal} (hh : Fits T fuel 36 rs) : ∃ v : BidV, rs = bidC v ∧ v.ok ∧ (-9223372036854775808 ≤ v.r ∧ v.r ≤ 9223372036854775807) := by
 have hh2 := hh
 obtain ⟨v, rfl, hv⟩ := bid_ofs hh
 obtain ⟨fuel1, parts, he, p0, ps, rfl, h0, _⟩ := hh2.struct rfl
 obtain ⟨r, rfl, hr⟩ := h0.int rfl
 have e1 : IntKind.i64.max = 9223372036854775807 := by decide
 have e2 : IntKind.i64.min = -9223372036854775808 := by decide
 rw [e1, e2] at hr
 have : v.r = r := by
  simp only [bidC, List.flatten_cons, List.cons_append, List.nil_append, List.cons.injEq, RVal.int.injEq, true_and] at he
  exact he.1
 exact ⟨v, rfl, hv, by omega⟩
theorem ops_of {fuel : Nat} : ∀ (parts : List (List RVal)), (∀ p ∈ parts, Fits T fuel 38 p) → ∃ ops : List OpV, parts.flatten = opsC19 ops ∧ ops.length = parts.length ∧ ∀ o ∈ ops, o.ok
 | [], _ => ⟨[], rfl, rfl, fun o h => by simp at h⟩
 | p :: ps, h => by
  obtain ⟨ops, h1, h2, h6⟩ := ops_of ps (fun q hq => h q (by simp [hq]))
  obtain ⟨fuel1, qs, rfl, p0, q1, rfl, h3, p1, q2, rfl, h4, p2, q3, rfl, h5, rfl⟩ := (h p (by simp)).struct rfl
  obtain ⟨k, rfl, hk⟩ := h3.int rfl
  obtain ⟨b, rfl, hb, hr⟩ := bidr_ofs h4
  obtain ⟨n, rfl, hn⟩ := h5.int rfl
  have e1 : IntKind.i64.max = 9223372036854775807 := by decide
  have e2 : IntKind.i64.min = -9223372036854775808 := by decide
  rw [e1, e2] at hk hn
  refine ⟨⟨k, b, n⟩ :: ops, by rw [List.flatten_cons, h1]; rfl, by simp [h2], fun o ho => ?_⟩
  rcases List.mem_cons.1 ho with rfl | ho
  ·exact ⟨hb, hk, hr, hn⟩
  ·exact h6 o ho
theorem core (vs : List AVal) (h : FitsAs T [22] vs) : Pur Tryz.prog 3 vs (.r (.bool true)) := by
 obtain ⟨a0, vs1, rfl, h0, h⟩ := h.cons
 obtain rfl := h.nil
 obtain ⟨fuel, n, parts, rfl, _, hl, hp⟩ := h0.slice rfl rfl (by simp)
 obtain ⟨ops, h2, h3, h4⟩ := ops_of parts (fun p hq => (hp p hq).2)
 rw [h2, ← hl, ← h3]
 exact w_AuctionRuns ops h4
theorem spec_fn {H : Type} : ∀ ds : List (DataW H), ds.length = Tryz.f3.params.toList.length → (Rows.auctionRunsSpec.fn H ds).results = [.lit (.bool true)] ∧ (Rows.auctionRunsSpec.fn H ds).args = ds ∧ (Rows.auctionRunsSpec.fn H ds).vars = [] := by
 rw [parms]
 intro ds h
 match ds, h with
 | [_], _ => exact ⟨rfl, rfl, rfl⟩
set_option maxRecDepth 100000 in
theorem contract (H : Type) (enc : TypeId × Value → H) (W : World) (base : Nat) (args : Array Value) (ds gs : List (DataW H)) (before : List MemPlace)
  (hval : ∀ (j : Nat) t v, Tryz.f3.params[j]? = some t → args[j]? = some v → Value.okWide Tryz.prog W .any base t v)
  (hW : DataW.Whole enc Tryz.prog Tryz.f3.params.toList Rows.auctionRunsSpec.vars false W args.toList ds gs before)
  (hsz : (DataW.weightsEach Tryz.prog (Tryz.f3.params.toList ++ Rows.auctionRunsSpec.plain.varTypes Tryz.prog) (ds ++ gs)).all (· ≤ reachBytes) = true) :
  Calls Tryz.prog 3 args W fun e W' => ∃ v, e = .returned v ∧ Rows.auctionRunsSpec.post enc Tryz.prog Tryz.f3 false true false false W args v W' :=
 law_contract tOk good (by rw [parms]; decide) (by rw [parms]; exact core) rfl spec_fn laidOut
  (by rw [parms]; intro t ht; simp only [List.mem_cons, List.not_mem_nil, or_false] at ht; rcases ht with rfl <;> first | exact rec22) rfl Tryz.underlying4 W base args ds gs before hval hW hsz
set_option maxRecDepth 100000 in
theorem lifted (os : Os) (started : os.Started) (H : Type) (enc : TypeId × Value → H) :
  ReturnsInHanded {} Tryz.checked os 3 .any (Rows.auctionRunsSpec.pre6 enc Tryz.prog Tryz.f3 [] false) (Rows.auctionRunsSpec.post enc Tryz.prog Tryz.f3 false true false false) := by
 refine returnsInHanded_of_change_sized (C := Tryz.checked) own started (by kernel_rfl) Tryz.func3
  (ChangeSpec.witness6 (enc := enc) (C := Tryz.checked) (s := Rows.auctionRunsSpec) false ⟨#[], #[.slice none 0 0], []⟩ 8 (by kernel_rfl) (by kernel_rfl) (by kernel_rfl) (by kernel_rfl)) ?_
 intro W base args ds gs before hval hW _ hsz _
 exact contract H enc W base args ds gs before hval hW hsz
theorem proved : Rows.AuctionRunsSaid :=
 OpenClaim.holds_of_wide 3 Tryz.f3 rfl rfl rfl rfl rfl rfl rfl ⟨rfl, rfl, rfl, rfl, rfl⟩ rfl rfl rfl rfl rfl (by kernel_rfl) Tryz.func3 (by kernel_rfl)
  (of_decide_eq_true (by kernel_rfl)) (by unfold Func.isWrapper; first | (rw [if_pos (by decide +kernel)]; kernel_rfl) | (rw [if_neg (by decide +kernel)]; exact ⟨rfl, rfl⟩))
  (fun os started H enc _ => lifted os started H enc)
end Go.Proofs.YtccdhgmkjakjkaaGreat.auctionRuns

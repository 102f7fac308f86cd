/-
  THE LAW MailCuts: for every message, every number and all octets, it returns true, and what it was handed is as it was. No condition.
-/
import Derived.Test.YtnodpljgcdkbkaaLMail3
import Derived.Test.YtnodpljgcdkbkaaMD
import Derived.Test.YtnodpljgcdkbkaaRows
import Derived.WalkKit
import Derived.ProofKit
import Derived.OpenShut
import Derived.JoinedOf
import Derived.SizedLaws
namespace Go.Proofs.Ytnodpljgcdkbkaa.mailCuts
open Go Go.ChangeShapes Go.WideShapes Go.ChangeAt Go.RowKit
theorem own : ownKnob Try.prog.godebug = none := by kernel_rfl
theorem laidOut : laidOutB Try.prog = true := by kernel_rfl
def types : List TypeId := [34, 28, 26, 30, 32, 24, 22, 3, 9, 35, 5]
theorem good : goodG T types = true := by kernel_rfl
theorem parms : Try.f3.params.toList = [34, 3, 35] := rfl
theorem rec3 : Try.prog.readableRec 3 = true ∧ 3 < Try.prog.types.size := ⟨by kernel_rfl, of_decide_eq_true (by kernel_rfl)⟩
theorem rec34 : Try.prog.readableRec 34 = true ∧ 34 < Try.prog.types.size := ⟨by kernel_rfl, of_decide_eq_true (by kernel_rfl)⟩
theorem rec35 : Try.prog.readableRec 35 = true ∧ 35 < Try.prog.types.size := ⟨by kernel_rfl, of_decide_eq_true (by kernel_rfl)⟩
theorem ask_ofs {fuel : Nat} {rs : List RVal} (hh : Fits T fuel 26 rs) : ∃ v : AskV, rs = askC v ∧ v.ok := by
  obtain ⟨fuel1, parts, rfl, p0, ps, rfl, h0, p1, ps, rfl, h1, p2, ps, rfl, h2, p3, ps, rfl, h3, p4, ps, rfl, h4, p5, ps, rfl, h5, rfl⟩ := hh.struct rfl
  obtain ⟨u, rfl, _⟩ := h0.int rfl
  obtain ⟨s, rfl, _⟩ := h1.int rfl
  obtain ⟨c, rfl, _⟩ := h2.int rfl
  obtain ⟨t, rfl, _⟩ := h3.int rfl
  obtain ⟨m0, m1, m2, m3, rfl, c0, c1, c2, c3⟩ := h4.four rfl rfl rfl
  obtain ⟨i, rfl, hi⟩ := h5.str rfl
  exact ⟨⟨u, s, c, t, m0, m1, m2, m3, i⟩, rfl, c0, c1, c2, c3, by simp only [reachBytes] at hi; exact hi⟩
theorem ask_of {a : AVal} (h : FitsA T 26 a) : ∃ v : AskV, a = askA v ∧ v.ok := by
  obtain ⟨fuel, rs, rfl, hh⟩ := h.agg rfl rfl
  obtain ⟨v, rfl, hv⟩ := ask_ofs hh
  exact ⟨v, rfl, hv⟩
theorem bid_ofs {fuel : Nat} {rs : List RVal} (hh : Fits T fuel 28 rs) : ∃ v : BidV, rs = bidC v ∧ v.ok := by
  obtain ⟨fuel1, parts, rfl, p0, ps, rfl, h0, p1, ps, rfl, h1, p2, ps, rfl, h2, p3, ps, rfl, h3, p4, ps, rfl, h4, rfl⟩ := hh.struct rfl
  obtain ⟨r, rfl, _⟩ := h0.int rfl
  obtain ⟨a, rfl, ha⟩ := ask_ofs h1
  obtain ⟨m0, m1, m2, m3, rfl, c0, c1, c2, c3⟩ := h2.four rfl rfl rfl
  obtain ⟨e, rfl, _⟩ := h3.int rfl
  obtain ⟨s, rfl, hs⟩ := h4.str rfl
  exact ⟨⟨r, a, m0, m1, m2, m3, e, s⟩, rfl, ha, c0, c1, c2, c3, by simp only [reachBytes] at hs; exact hs⟩
theorem bid_of {a : AVal} (h : FitsA T 28 a) : ∃ v : BidV, a = bidA v ∧ v.ok := by
  obtain ⟨fuel, rs, rfl, hh⟩ := h.agg rfl rfl
  obtain ⟨v, rfl, hv⟩ := bid_ofs hh
  exact ⟨v, rfl, hv⟩
theorem inv_ofs {fuel : Nat} {rs : List RVal} (hh : Fits T fuel 30 rs) : ∃ v : InvV, rs = invC v ∧ v.ok := by
  obtain ⟨fuel1, parts, rfl, p0, ps, rfl, h0, p1, ps, rfl, h1, p2, ps, rfl, h2, p3, ps, rfl, h3, p4, ps, rfl, h4, p5, ps, rfl, h5, p6, ps, rfl, h6, rfl⟩ := hh.struct rfl
  obtain ⟨u, rfl, _⟩ := h0.int rfl
  obtain ⟨root, rfl, hr⟩ := h1.str rfl
  obtain ⟨r, rfl, _⟩ := h2.int rfl
  obtain ⟨s, rfl, _⟩ := h3.int rfl
  obtain ⟨c, rfl, _⟩ := h4.int rfl
  obtain ⟨t, rfl, _⟩ := h5.int rfl
  obtain ⟨id, rfl, hi⟩ := h6.str rfl
  exact ⟨⟨u, root, r, s, c, t, id⟩, rfl, by simp only [reachBytes] at hr; exact hr, by simp only [reachBytes] at hi; exact hi⟩
theorem inv_of {a : AVal} (h : FitsA T 30 a) : ∃ v : InvV, a = invA v ∧ v.ok := by
  obtain ⟨fuel, rs, rfl, hh⟩ := h.agg rfl rfl
  obtain ⟨v, rfl, hv⟩ := inv_ofs hh
  exact ⟨v, rfl, hv⟩
theorem var_ofs {fuel : Nat} {rs : List RVal} (hh : Fits T fuel 32 rs) : ∃ v : VarV, rs = varC v ∧ v.ok := by
  obtain ⟨fuel1, parts, rfl, p0, ps, rfl, h0, p1, ps, rfl, h1, rfl⟩ := hh.struct rfl
  obtain ⟨x0, x1, x2, x3, rfl, c0, c1, c2, c3⟩ := h0.four rfl rfl rfl
  obtain ⟨e, rfl, _⟩ := h1.int rfl
  exact ⟨⟨x0, x1, x2, x3, e⟩, rfl, c0, c1, c2, c3⟩
theorem var_of {a : AVal} (h : FitsA T 32 a) : ∃ v : VarV, a = varA v ∧ v.ok := by
  obtain ⟨fuel, rs, rfl, hh⟩ := h.agg rfl rfl
  obtain ⟨v, rfl, hv⟩ := var_ofs hh
  exact ⟨v, rfl, hv⟩
theorem msg_ofs {fuel : Nat} {rs : List RVal} (hh : Fits T fuel 34 rs) : ∃ v : MsgV, rs = msgC v ∧ v.ok := by
  obtain ⟨fuel1, parts, rfl, p0, ps, rfl, h0, p1, ps, rfl, h1, p2, ps, rfl, h2, p3, ps, rfl, h3, p4, ps, rfl, h4, p5, ps, rfl, h5, p6, ps, rfl, h6, rfl⟩ := hh.struct rfl
  obtain ⟨k, rfl, _⟩ := h0.int rfl
  obtain ⟨a, rfl, ha⟩ := ask_ofs h1
  obtain ⟨b, rfl, hb⟩ := bid_ofs h2
  obtain ⟨i, rfl, hi⟩ := inv_ofs h3
  obtain ⟨v, rfl, hv⟩ := var_ofs h4
  obtain ⟨g0, g1, g2, g3, rfl, c0, c1, c2, c3⟩ := h5.four rfl rfl rfl
  obtain ⟨s, rfl, hs⟩ := h6.str rfl
  exact ⟨⟨k, a, b, i, v, g0, g1, g2, g3, s⟩, rfl, ha, hb, hi, hv, c0, c1, c2, c3, by simp only [reachBytes] at hs; exact hs⟩
theorem msg_of {a : AVal} (h : FitsA T 34 a) : ∃ v : MsgV, a = msgA v ∧ v.ok := by
  obtain ⟨fuel, rs, rfl, hh⟩ := h.agg rfl rfl
  obtain ⟨v, rfl, hv⟩ := msg_ofs hh
  exact ⟨v, rfl, hv⟩
theorem core (vs : List AVal) (h : FitsAs T [34, 3, 35] vs) : Pur Try.prog 3 vs (.r (.bool true)) := by
  obtain ⟨a0, vs1, rfl, h0, h⟩ := h.cons
  obtain ⟨a1, vs1, rfl, h1, h⟩ := h.cons
  obtain ⟨a2, vs1, rfl, h2, h⟩ := h.cons
  obtain rfl := h.nil
  obtain ⟨m, rfl, hm⟩ := msg_of h0
  obtain ⟨n, rfl, _, hn⟩ := h1.int rfl
  obtain ⟨b, rfl, _, hb⟩ := h2.bytes rfl rfl
  exact w_MailCuts m hm n b (by simp only [reachBytes] at hb; omega)
theorem spec_fn {H : Type} : ∀ ds : List (DataW H), ds.length = Try.f3.params.toList.length → (Rows.mailCutsSpec.fn H ds).results = [.lit (.bool true)] ∧ (Rows.mailCutsSpec.fn H ds).args = ds ∧ (Rows.mailCutsSpec.fn H ds).vars = [] := by
  rw [parms]
  intro ds h
  match ds, h with
  | [_, _, _], _ => exact ⟨rfl, rfl, rfl⟩
set_option maxRecDepth 100000 in
theorem contract (H : Type) (enc : TypeId × Value → H) (W : World) (base : Nat) (args : Array Value) (ds gs : List (DataW H)) (before : List MemPlace)
    (hval : ∀ (j : Nat) t v, Try.f3.params[j]? = some t → args[j]? = some v → Value.okWide Try.prog W .any base t v)
    (hW : DataW.Whole enc Try.prog Try.f3.params.toList Rows.mailCutsSpec.vars false W args.toList ds gs before)
    (hsz : (DataW.weightsEach Try.prog (Try.f3.params.toList ++ Rows.mailCutsSpec.plain.varTypes Try.prog) (ds ++ gs)).all (· ≤ reachBytes) = true) :
    Calls Try.prog 3 args W fun e W' => ∃ v, e = .returned v ∧ Rows.mailCutsSpec.post enc Try.prog Try.f3 false true false false W args v W' :=
  law_contract tOk good (by rw [parms]; decide) (by rw [parms]; exact core) rfl spec_fn laidOut
    (by rw [parms]; intro t ht; simp only [List.mem_cons, List.not_mem_nil, or_false] at ht; rcases ht with rfl | rfl | rfl <;> first | exact rec3 | exact rec34 | exact rec35) rfl Try.underlying4 W base args ds gs before hval hW hsz
set_option maxRecDepth 100000 in
theorem lifted (os : Os) (started : os.Started) (H : Type) (enc : TypeId × Value → H) :
    ReturnsInHanded {} Try.checked os 3 .any (Rows.mailCutsSpec.pre6 enc Try.prog Try.f3 [] false) (Rows.mailCutsSpec.post enc Try.prog Try.f3 false true false false) := by
  refine returnsInHanded_of_change_sized (C := Try.checked) own started (by kernel_rfl) Try.func3
    (ChangeSpec.witness6 (enc := enc) (C := Try.checked) (s := Rows.mailCutsSpec) false ⟨#[], #[.agg #[.int .i64 0, .int .i64 0, .int .i64 0, .int .i64 0, .int .i64 0, .int .u64 0, .int .u64 0, .int .u64 0, .int .u64 0, .string .empty, .int .i64 0, .int .i64 0, .int .i64 0, .int .i64 0, .int .i64 0, .int .u64 0, .int .u64 0, .int .u64 0, .int .u64 0, .string .empty, .int .u64 0, .int .u64 0, .int .u64 0, .int .u64 0, .int .i64 0, .string .empty, .int .i64 0, .string .empty, .int .i64 0, .int .i64 0, .int .i64 0, .int .i64 0, .string .empty, .int .u64 0, .int .u64 0, .int .u64 0, .int .u64 0, .int .i64 0, .int .u64 0, .int .u64 0, .int .u64 0, .int .u64 0, .string .empty], .int .i64 0, .slice none 0 0], []⟩ 8 (by kernel_rfl) (by kernel_rfl) (by kernel_rfl) (by kernel_rfl)) ?_
  intro W base args ds gs before hval hW _ hsz _
  exact contract H enc W base args ds gs before hval hW hsz
theorem proved : Rows.MailCutsSaid :=
  OpenClaim.holds_of_wide 3 Try.f3 rfl rfl rfl rfl rfl rfl rfl ⟨rfl, rfl, rfl, rfl, rfl⟩ rfl rfl rfl rfl rfl (by kernel_rfl) Try.func3 (by kernel_rfl)
    (of_decide_eq_true (by kernel_rfl)) (by unfold Func.isWrapper; first | (rw [if_pos (by decide +kernel)]; kernel_rfl) | (rw [if_neg (by decide +kernel)]; exact ⟨rfl, rfl⟩))
    (fun os started H enc _ => lifted os started H enc)
end Go.Proofs.Ytnodpljgcdkbkaa.mailCuts


/-
  THE LAW ScanTells: for all events and all numbers, it returns true, and what it was handed is as it was. No condition.
-/
import Derived.Test.YtancdgbclbkpkaaLScan4
import Derived.Test.YtancdgbclbkpkaaMD
import Derived.Test.YtancdgbclbkpkaaRows
import Derived.WalkKit
import Derived.ProofKit
import Derived.OpenShut
import Derived.JoinedOf
import Derived.SizedLaws
namespace Go.Proofs.Ytancdgbclbkpkaa.scanTells
open Go Go.ChangeShapes Go.WideShapes Go.ChangeAt Go.RowKit
theorem own : ownKnob Try.prog.godebug = none := by kernel_rfl
theorem laidOut : laidOutB Try.prog = true := by kernel_rfl
def types : List TypeId := [22, 37, 35, 32, 28, 30, 26, 24, 3, 9]
theorem good : goodG T types = true := by kernel_rfl
theorem parms : Try.f5.params.toList = [22, 3, 3] := rfl
theorem rec3 : Try.prog.readableRec 3 = true ∧ 3 < Try.prog.types.size := ⟨by kernel_rfl, of_decide_eq_true (by kernel_rfl)⟩
theorem rec22 : Try.prog.readableRec 22 = true ∧ 22 < Try.prog.types.size := ⟨by kernel_rfl, of_decide_eq_true (by kernel_rfl)⟩
theorem inv_ofs {fuel : Nat} {rs : List RVal} (hh : Fits T fuel 28 rs) : ∃ v : InvV, rs = invC v ∧ v.ok := by
  obtain ⟨fuel1, parts, rfl, p0, ps, rfl, h0, p1, ps, rfl, h1, p2, ps, rfl, h2, p3, ps, rfl, h3, p4, ps, rfl, h4, p5, ps, rfl, h5, p6, ps, rfl, h6, rfl⟩ := hh.struct rfl
  obtain ⟨u, rfl, _⟩ := h0.int rfl
  obtain ⟨root, rfl, hr⟩ := h1.str rfl
  obtain ⟨r, rfl, _⟩ := h2.int rfl
  obtain ⟨s, rfl, _⟩ := h3.int rfl
  obtain ⟨c, rfl, _⟩ := h4.int rfl
  obtain ⟨t, rfl, _⟩ := h5.int rfl
  obtain ⟨id, rfl, hi⟩ := h6.str rfl
  exact ⟨⟨u, root, r, s, c, t, id⟩, rfl, by simp only [reachBytes] at hr; exact hr, by simp only [reachBytes] at hi; exact hi⟩
theorem inv_of {a : AVal} (h : FitsA T 28 a) : ∃ v : InvV, a = invA v ∧ v.ok := by
  obtain ⟨fuel, rs, rfl, hh⟩ := h.agg rfl rfl
  obtain ⟨v, rfl, hv⟩ := inv_ofs hh
  exact ⟨v, rfl, hv⟩
theorem var_ofs {fuel : Nat} {rs : List RVal} (hh : Fits T fuel 30 rs) : ∃ v : VarV, rs = varC v ∧ v.ok := by
  obtain ⟨fuel1, parts, rfl, p0, ps, rfl, h0, p1, ps, rfl, h1, rfl⟩ := hh.struct rfl
  obtain ⟨x0, x1, x2, x3, rfl, c0, c1, c2, c3⟩ := h0.four rfl rfl rfl
  obtain ⟨e, rfl, _⟩ := h1.int rfl
  exact ⟨⟨x0, x1, x2, x3, e⟩, rfl, c0, c1, c2, c3⟩
theorem var_of {a : AVal} (h : FitsA T 30 a) : ∃ v : VarV, a = varA v ∧ v.ok := by
  obtain ⟨fuel, rs, rfl, hh⟩ := h.agg rfl rfl
  obtain ⟨v, rfl, hv⟩ := var_ofs hh
  exact ⟨v, rfl, hv⟩
theorem tx_ofs {fuel : Nat} {rs : List RVal} (hh : Fits T fuel 32 rs) : ∃ v : TxV, rs = txC v ∧ v.ok := by
  obtain ⟨fuel1, parts, rfl, p0, ps, rfl, h0, p1, ps, rfl, h1, p2, ps, rfl, h2, p3, ps, rfl, h3, p4, ps, rfl, h4, p5, ps, rfl, h5, p6, ps, rfl, h6, p7, ps, rfl, h7, p8, ps, rfl, h8, rfl⟩ := hh.struct rfl
  obtain ⟨f, rfl, _⟩ := h0.int rfl
  obtain ⟨n, rfl, _⟩ := h1.int rfl
  obtain ⟨k, rfl, _⟩ := h2.int rfl
  obtain ⟨a, rfl, _⟩ := h3.int rfl
  obtain ⟨m0, m1, m2, m3, rfl, c0, c1, c2, c3⟩ := h4.four rfl rfl rfl
  obtain ⟨i, rfl, hi⟩ := inv_ofs h5
  obtain ⟨j, rfl, hj⟩ := var_ofs h6
  obtain ⟨g0, g1, g2, g3, rfl, d0, d1, d2, d3⟩ := h7.four rfl rfl rfl
  obtain ⟨s, rfl, hs⟩ := h8.str rfl
  exact ⟨⟨f, n, k, a, m0, m1, m2, m3, i, j, g0, g1, g2, g3, s⟩, rfl, c0, c1, c2, c3, hi, hj, d0, d1, d2, d3, by simp only [reachBytes] at hs; exact hs⟩
theorem tx_of {a : AVal} (h : FitsA T 32 a) : ∃ v : TxV, a = txA v ∧ v.ok := by
  obtain ⟨fuel, rs, rfl, hh⟩ := h.agg rfl rfl
  obtain ⟨v, rfl, hv⟩ := tx_ofs hh
  exact ⟨v, rfl, hv⟩
theorem ev_ofs {fuel : Nat} {rs : List RVal} (hh : Fits T fuel 37 rs) : ∃ v : EvV, rs = evC v ∧ v.x.ok := by
  obtain ⟨fuel1, parts, rfl, p0, ps, rfl, h0, p1, ps, rfl, h1, p2, ps, rfl, h2, rfl⟩ := hh.struct rfl
  obtain ⟨t, rfl, _⟩ := h0.int rfl
  obtain ⟨c, rfl, _⟩ := h1.int rfl
  obtain ⟨x, rfl, hx⟩ := tx_ofs h2
  exact ⟨⟨t, c, x⟩, by simp [evC], hx⟩
theorem evs_of' {fuel : Nat} : ∀ (parts : List (List RVal)), (∀ p ∈ parts, Fits T fuel 37 p) → ∃ L : List EvV, parts.flatten = evsC L ∧ L.length = parts.length ∧ ∀ e ∈ L, e.x.ok
  | [], _ => ⟨[], rfl, rfl, by simp⟩
  | p :: ps, h => by
    obtain ⟨L, h1, h2, h3⟩ := evs_of' ps (fun q hq => h q (by simp [hq]))
    obtain ⟨s, rfl, hs⟩ := ev_ofs (h p (by simp))
    exact ⟨s :: L, by rw [List.flatten_cons, h1]; rfl, by simp [h2], by intro e he; rcases List.mem_cons.1 he with q | q; rw [q]; exact hs; exact h3 e q⟩
theorem evs_of {a : AVal} (h : FitsA T 22 a) : ∃ L : List EvV, a = roE L ∧ (∀ e ∈ L, e.x.ok) ∧ L.length * 240 ≤ 140737488355328 ∧ L.length ≤ asz a := by
  obtain ⟨fuel, n, parts, rfl, hb, hl, hp⟩ := h.slice rfl rfl (by simp)
  obtain ⟨L, h2, h3, h4⟩ := evs_of' parts (fun p hq => (hp p hq).2)
  rw [h2]
  obtain rfl : n = L.length := by omega
  exact ⟨L, rfl, h4, by simp only [reachBytes] at hb; omega, by simp only [asz, rsz]; omega⟩
theorem core (vs : List AVal) (h : FitsAs T [22, 3, 3] vs) : Pur Try.prog 5 vs (.r (.bool true)) := by
  obtain ⟨a0, vs1, rfl, h0, h⟩ := h.cons
  obtain ⟨a1, vs1, rfl, h1, h⟩ := h.cons
  obtain ⟨a2, vs1, rfl, h2, h⟩ := h.cons
  obtain rfl := h.nil
  obtain ⟨L, rfl, hok, hl, _⟩ := evs_of h0
  obtain ⟨n, rfl, hn⟩ := h1.int rfl
  obtain ⟨k, rfl, hk⟩ := h2.int rfl
  exact w_ScanTells L hok hl n k
theorem spec_fn {H : Type} : ∀ ds : List (DataW H), ds.length = Try.f5.params.toList.length → (Rows.scanTellsSpec.fn H ds).results = [.lit (.bool true)] ∧ (Rows.scanTellsSpec.fn H ds).args = ds ∧ (Rows.scanTellsSpec.fn H ds).vars = [] := by
  rw [parms]
  intro ds h
  match ds, h with
  | [_, _, _], _ => exact ⟨rfl, rfl, rfl⟩
set_option maxRecDepth 100000 in
theorem contract (H : Type) (enc : TypeId × Value → H) (W : World) (base : Nat) (args : Array Value) (ds gs : List (DataW H)) (before : List MemPlace)
    (hval : ∀ (j : Nat) t v, Try.f5.params[j]? = some t → args[j]? = some v → Value.okWide Try.prog W .any base t v)
    (hW : DataW.Whole enc Try.prog Try.f5.params.toList Rows.scanTellsSpec.vars false W args.toList ds gs before)
    (hsz : (DataW.weightsEach Try.prog (Try.f5.params.toList ++ Rows.scanTellsSpec.plain.varTypes Try.prog) (ds ++ gs)).all (· ≤ reachBytes) = true) :
    Calls Try.prog 5 args W fun e W' => ∃ v, e = .returned v ∧ Rows.scanTellsSpec.post enc Try.prog Try.f5 false true false false W args v W' :=
  law_contract tOk good (by rw [parms]; decide) (by rw [parms]; exact core) rfl spec_fn laidOut
    (by rw [parms]; intro t ht; simp only [List.mem_cons, List.not_mem_nil, or_false] at ht; rcases ht with rfl | rfl | rfl <;> first | exact rec3 | exact rec22) rfl Try.underlying4 W base args ds gs before hval hW hsz
set_option maxRecDepth 100000 in
theorem lifted (os : Os) (started : os.Started) (H : Type) (enc : TypeId × Value → H) :
    ReturnsInHanded {} Try.checked os 5 .any (Rows.scanTellsSpec.pre6 enc Try.prog Try.f5 [] false) (Rows.scanTellsSpec.post enc Try.prog Try.f5 false true false false) := by
  refine returnsInHanded_of_change_sized (C := Try.checked) own started (by kernel_rfl) Try.func5
    (ChangeSpec.witness6 (enc := enc) (C := Try.checked) (s := Rows.scanTellsSpec) false ⟨#[], #[.slice none 0 0, .int .i64 0, .int .i64 0], []⟩ 8 (by kernel_rfl) (by kernel_rfl) (by kernel_rfl) (by kernel_rfl)) ?_
  intro W base args ds gs before hval hW _ hsz _
  exact contract H enc W base args ds gs before hval hW hsz
theorem proved : Rows.ScanTellsSaid :=
  OpenClaim.holds_of_wide 5 Try.f5 rfl rfl rfl rfl rfl rfl rfl ⟨rfl, rfl, rfl, rfl, rfl⟩ rfl rfl rfl rfl rfl (by kernel_rfl) Try.func5 (by kernel_rfl)
    (of_decide_eq_true (by kernel_rfl)) (by unfold Func.isWrapper; first | (rw [if_pos (by decide +kernel)]; kernel_rfl) | (rw [if_neg (by decide +kernel)]; exact ⟨rfl, rfl⟩))
    (fun os started H enc _ => lifted os started H enc)
end Go.Proofs.Ytancdgbclbkpkaa.scanTells


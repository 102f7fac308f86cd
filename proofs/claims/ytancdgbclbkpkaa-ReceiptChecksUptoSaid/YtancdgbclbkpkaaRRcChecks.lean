/-
  THE LAW ReceiptChecks, for arguments that hold at most 1048576 values and letters: for every text, every two numbers, every event and all texts, it returns true, and what it was handed is as it was.
-/
import Derived.Test.YtancdgbclbkpkaaRcpt7
import Derived.Test.YtancdgbclbkpkaaMD
import Derived.Test.YtancdgbclbkpkaaRows
import Derived.WalkKit
import Derived.ProofKit
import Derived.OpenShut
import Derived.JoinedOf
import Derived.SizedLaws
import Derived.JoinedCond
import Derived.Deep.CondSized
namespace Go.Proofs.Ytancdgbclbkpkaa.receiptChecks
open Go Go.ChangeShapes Go.WideShapes Go.ChangeAt Go.RowKit
theorem own : ownKnob Try.prog.godebug = none := by kernel_rfl
theorem laidOut : laidOutB Try.prog = true := by kernel_rfl
def types : List TypeId := [22, 37, 35, 32, 28, 30, 26, 24, 3, 9, 49]
theorem good : goodG T types = true := by kernel_rfl
theorem parms : Try.f8.params.toList = [9, 3, 3, 37, 49] := rfl
theorem rec3 : Try.prog.readableRec 3 = true ∧ 3 < Try.prog.types.size := ⟨by kernel_rfl, of_decide_eq_true (by kernel_rfl)⟩
theorem rec9 : Try.prog.readableRec 9 = true ∧ 9 < Try.prog.types.size := ⟨by kernel_rfl, of_decide_eq_true (by kernel_rfl)⟩
theorem rec37 : Try.prog.readableRec 37 = true ∧ 37 < Try.prog.types.size := ⟨by kernel_rfl, of_decide_eq_true (by kernel_rfl)⟩
theorem rec49 : Try.prog.readableRec 49 = true ∧ 49 < Try.prog.types.size := ⟨by kernel_rfl, of_decide_eq_true (by kernel_rfl)⟩
theorem inv_ofs {fuel : Nat} {rs : List RVal} (hh : Fits T fuel 28 rs) : ∃ v : InvV, rs = invC v ∧ v.ok := by
  obtain ⟨fuel1, parts, rfl, p0, ps, rfl, h0, p1, ps, rfl, h1, p2, ps, rfl, h2, p3, ps, rfl, h3, p4, ps, rfl, h4, p5, ps, rfl, h5, p6, ps, rfl, h6, rfl⟩ := hh.struct rfl
  obtain ⟨u, rfl, _⟩ := h0.int rfl
  obtain ⟨root, rfl, hr⟩ := h1.str rfl
  obtain ⟨r, rfl, _⟩ := h2.int rfl
  obtain ⟨s, rfl, _⟩ := h3.int rfl
  obtain ⟨c, rfl, _⟩ := h4.int rfl
  obtain ⟨t, rfl, _⟩ := h5.int rfl
  obtain ⟨id, rfl, hi⟩ := h6.str rfl
  exact ⟨⟨u, root, r, s, c, t, id⟩, rfl, by simp only [reachBytes] at hr; exact hr, by simp only [reachBytes] at hi; exact hi⟩
theorem inv_of {a : AVal} (h : FitsA T 28 a) : ∃ v : InvV, a = invA v ∧ v.ok := by
  obtain ⟨fuel, rs, rfl, hh⟩ := h.agg rfl rfl
  obtain ⟨v, rfl, hv⟩ := inv_ofs hh
  exact ⟨v, rfl, hv⟩
theorem var_ofs {fuel : Nat} {rs : List RVal} (hh : Fits T fuel 30 rs) : ∃ v : VarV, rs = varC v ∧ v.ok := by
  obtain ⟨fuel1, parts, rfl, p0, ps, rfl, h0, p1, ps, rfl, h1, rfl⟩ := hh.struct rfl
  obtain ⟨x0, x1, x2, x3, rfl, c0, c1, c2, c3⟩ := h0.four rfl rfl rfl
  obtain ⟨e, rfl, _⟩ := h1.int rfl
  exact ⟨⟨x0, x1, x2, x3, e⟩, rfl, c0, c1, c2, c3⟩
theorem var_of {a : AVal} (h : FitsA T 30 a) : ∃ v : VarV, a = varA v ∧ v.ok := by
  obtain ⟨fuel, rs, rfl, hh⟩ := h.agg rfl rfl
  obtain ⟨v, rfl, hv⟩ := var_ofs hh
  exact ⟨v, rfl, hv⟩
theorem tx_ofs {fuel : Nat} {rs : List RVal} (hh : Fits T fuel 32 rs) : ∃ v : TxV, rs = txC v ∧ v.ok := by
  obtain ⟨fuel1, parts, rfl, p0, ps, rfl, h0, p1, ps, rfl, h1, p2, ps, rfl, h2, p3, ps, rfl, h3, p4, ps, rfl, h4, p5, ps, rfl, h5, p6, ps, rfl, h6, p7, ps, rfl, h7, p8, ps, rfl, h8, rfl⟩ := hh.struct rfl
  obtain ⟨f, rfl, _⟩ := h0.int rfl
  obtain ⟨n, rfl, _⟩ := h1.int rfl
  obtain ⟨k, rfl, _⟩ := h2.int rfl
  obtain ⟨a, rfl, _⟩ := h3.int rfl
  obtain ⟨m0, m1, m2, m3, rfl, c0, c1, c2, c3⟩ := h4.four rfl rfl rfl
  obtain ⟨i, rfl, hi⟩ := inv_ofs h5
  obtain ⟨j, rfl, hj⟩ := var_ofs h6
  obtain ⟨g0, g1, g2, g3, rfl, d0, d1, d2, d3⟩ := h7.four rfl rfl rfl
  obtain ⟨s, rfl, hs⟩ := h8.str rfl
  exact ⟨⟨f, n, k, a, m0, m1, m2, m3, i, j, g0, g1, g2, g3, s⟩, rfl, c0, c1, c2, c3, hi, hj, d0, d1, d2, d3, by simp only [reachBytes] at hs; exact hs⟩
theorem tx_of {a : AVal} (h : FitsA T 32 a) : ∃ v : TxV, a = txA v ∧ v.ok := by
  obtain ⟨fuel, rs, rfl, hh⟩ := h.agg rfl rfl
  obtain ⟨v, rfl, hv⟩ := tx_ofs hh
  exact ⟨v, rfl, hv⟩
theorem ev_ofs {fuel : Nat} {rs : List RVal} (hh : Fits T fuel 37 rs) : ∃ v : EvV, rs = evC v ∧ v.x.ok := by
  obtain ⟨fuel1, parts, rfl, p0, ps, rfl, h0, p1, ps, rfl, h1, p2, ps, rfl, h2, rfl⟩ := hh.struct rfl
  obtain ⟨t, rfl, _⟩ := h0.int rfl
  obtain ⟨c, rfl, _⟩ := h1.int rfl
  obtain ⟨x, rfl, hx⟩ := tx_ofs h2
  exact ⟨⟨t, c, x⟩, by simp [evC], hx⟩
theorem evs_of' {fuel : Nat} : ∀ (parts : List (List RVal)), (∀ p ∈ parts, Fits T fuel 37 p) → ∃ L : List EvV, parts.flatten = evsC L ∧ L.length = parts.length ∧ ∀ e ∈ L, e.x.ok
  | [], _ => ⟨[], rfl, rfl, by simp⟩
  | p :: ps, h => by
    obtain ⟨L, h1, h2, h3⟩ := evs_of' ps (fun q hq => h q (by simp [hq]))
    obtain ⟨s, rfl, hs⟩ := ev_ofs (h p (by simp))
    exact ⟨s :: L, by rw [List.flatten_cons, h1]; rfl, by simp [h2], by intro e he; rcases List.mem_cons.1 he with q | q; rw [q]; exact hs; exact h3 e q⟩
theorem evs_of {a : AVal} (h : FitsA T 22 a) : ∃ L : List EvV, a = roE L ∧ (∀ e ∈ L, e.x.ok) ∧ L.length * 240 ≤ 140737488355328 ∧ L.length ≤ asz a := by
  obtain ⟨fuel, n, parts, rfl, hb, hl, hp⟩ := h.slice rfl rfl (by simp)
  obtain ⟨L, h2, h3, h4⟩ := evs_of' parts (fun p hq => (hp p hq).2)
  rw [h2]
  obtain rfl : n = L.length := by omega
  exact ⟨L, rfl, h4, by simp only [reachBytes] at hb; omega, by simp only [asz, rsz]; omega⟩
theorem strs_of' {fuel : Nat} : ∀ (parts : List (List RVal)), (∀ p ∈ parts, Fits T fuel 9 p) → ∃ L : List (List UInt8), parts.flatten = sL L ∧ L.length = parts.length
  | [], _ => ⟨[], rfl, rfl⟩
  | p :: ps, h => by
    obtain ⟨L, h1, h2⟩ := strs_of' ps (fun q hq => h q (by simp [hq]))
    obtain ⟨s, rfl, _⟩ := (h p (by simp)).str rfl
    exact ⟨s :: L, by rw [List.flatten_cons, h1]; rfl, by simp [h2]⟩
theorem rszs_str : ∀ (L : List (List UInt8)) (p : List UInt8), p ∈ L → p.length ≤ rszs (sL L)
  | s :: L, p, hp => by
    simp only [sL, List.map_cons, rszs, rsz] at *
    rcases List.mem_cons.1 hp with q | q
    · rw [q]; omega
    · have := rszs_str L p q; simp only [sL] at this; omega
theorem strs_of {a : AVal} (h : FitsA T 49 a) : ∃ L : List (List UInt8), a = roS L ∧ ∀ p ∈ L, p.length ≤ asz a := by
  obtain ⟨fuel, n, parts, rfl, _, hl, hp⟩ := h.slice rfl rfl (by simp)
  obtain ⟨L, h2, h3⟩ := strs_of' parts (fun p hq => (hp p hq).2)
  rw [h2]
  obtain rfl : n = L.length := by omega
  exact ⟨L, rfl, fun p hp => by have := rszs_str L p hp; simp only [asz, rsz]; omega⟩
theorem ev_of {a : AVal} (h : FitsA T 37 a) : ∃ v : EvV, a = eventA v ∧ v.x.ok := by
  obtain ⟨fuel, rs, rfl, hh⟩ := h.agg rfl rfl
  obtain ⟨v, rfl, hv⟩ := ev_ofs hh
  exact ⟨v, rfl, hv⟩
theorem core (vs : List AVal) (h : FitsAs T [9, 3, 3, 37, 49] vs) (hM : aszs vs ≤ 1048576) : Pur Try.prog 8 vs (.r (.bool true)) := by
  obtain ⟨a0, vs1, rfl, h0, h⟩ := h.cons
  obtain ⟨a1, vs1, rfl, h1, h⟩ := h.cons
  obtain ⟨a2, vs1, rfl, h2, h⟩ := h.cons
  obtain ⟨a3, vs1, rfl, h3, h⟩ := h.cons
  obtain ⟨a4, vs1, rfl, h4, h⟩ := h.cons
  obtain rfl := h.nil
  obtain ⟨s, rfl, hs⟩ := h0.str rfl
  obtain ⟨n, rfl, _, hn⟩ := h1.int rfl
  obtain ⟨i, rfl, _, hi⟩ := h2.int rfl
  obtain ⟨e, rfl, he⟩ := ev_of h3
  obtain ⟨P, rfl, hP⟩ := strs_of h4
  simp only [aszs] at hM
  exact w_ReceiptChecks s n i e he P (fun p hp => by have := hP p hp; omega)
theorem spec_fn {H : Type} : ∀ ds : List (DataW H), ds.length = Try.f8.params.toList.length → (Rows.receiptChecksSpec.fn H ds).results = [.lit (.bool true)] ∧ (Rows.receiptChecksSpec.fn H ds).args = ds ∧ (Rows.receiptChecksSpec.fn H ds).vars = [] := by
  rw [parms]
  intro ds h
  match ds, h with
  | [_, _, _, _, _], _ => exact ⟨rfl, rfl, rfl⟩
mutual
theorem bulk_le {H : Type} : ∀ d : DataW H, dsz d ≤ Rows.uptoBulk d
  | .lit l => by cases l <;> simp [dsz, Rows.uptoBulk]
  | .nil => by simp [dsz]
  | .ptr d => by simp [dsz]
  | .slice elems spare => by
    have h1 := bulks_le elems
    simp only [dsz, Rows.uptoBulk]
    omega
  | .agg parts => by
    have h1 := bulks_le parts
    simp only [dsz, Rows.uptoBulk]
    omega
  | .iface _ d => by simp [dsz]
  | .map entries => by simp [dsz]
  | .held _ => by simp [dsz]
theorem bulks_le {H : Type} : ∀ ds : List (DataW H), dszs ds ≤ Rows.uptoBulkAll ds ∧ ds.length ≤ Rows.uptoBulkAll ds
  | [] => by simp [dszs]
  | d :: r => by
    have h1 := bulk_le d
    have h2 := bulks_le r
    have h3 : 1 ≤ Rows.uptoBulk d := by cases d <;> first | (simp only [Rows.uptoBulk]; omega) | (rename_i l; cases l <;> simp [Rows.uptoBulk])
    simp only [dszs, Rows.uptoBulkAll, List.length_cons]
    omega
end
set_option maxRecDepth 100000 in
theorem contract (H : Type) (enc : TypeId × Value → H) (W : World) (base : Nat) (args : Array Value) (ds gs : List (DataW H)) (before : List MemPlace)
    (hval : ∀ (j : Nat) t v, Try.f8.params[j]? = some t → args[j]? = some v → Value.okWide Try.prog W .any base t v)
    (hW : DataW.Whole enc Try.prog Try.f8.params.toList Rows.receiptChecksSpec.vars false W args.toList ds gs before)
    (hsz : (DataW.weightsEach Try.prog (Try.f8.params.toList ++ Rows.receiptChecksSpec.plain.varTypes Try.prog) (ds ++ gs)).all (· ≤ reachBytes) = true) (hk : Rows.uptoSmall H (ds ++ gs) = true) :
    Calls Try.prog 8 args W fun e W' => ∃ v, e = .returned v ∧ Rows.receiptChecksSpec.post enc Try.prog Try.f8 false true false false W args v W' :=
  law_contractM (M := 1048576) tOk good (by rw [parms]; decide) (by rw [parms]; exact core) rfl spec_fn laidOut
    (by rw [parms]; intro t ht; simp only [List.mem_cons, List.not_mem_nil, or_false] at ht; rcases ht with rfl | rfl | rfl | rfl | rfl <;> first | exact rec3 | exact rec9 | exact rec37 | exact rec49) rfl Try.underlying4 W base args ds gs before hval hW hsz (by
      have h1 : Rows.uptoBulkAll (ds ++ gs) ≤ 1048576 := of_decide_eq_true hk
      have h2 := (bulks_le (ds ++ gs)).1
      have h3 : ∀ (a b : List (DataW H)), dszs a ≤ dszs (a ++ b) := fun a b => by
        induction a with
        | nil => simp [dszs]
        | cons x a ih => simp only [List.cons_append, dszs]; omega
      have := h3 ds gs
      omega)
set_option maxRecDepth 100000 in
theorem lifted (os : Os) (started : os.Started) (H : Type) (enc : TypeId × Value → H) (F : Stop.Interp) :
    ReturnsInHanded {} Try.checked os 8 .any ((Rows.OpenSpec.upto Rows.receiptChecksSpec).pre6 enc Try.prog Try.f8 [] false) (((Rows.OpenSpec.upto Rows.receiptChecksSpec).at F).post enc Try.prog Try.f8 false true false false) := by
  refine returnsInHanded_of_cond_sized (C := Try.checked) (s := Rows.OpenSpec.upto Rows.receiptChecksSpec) (k := Rows.uptoSmall) rfl own started (by kernel_rfl) Try.func8
    (OpenSpec.witness (enc := enc) (C := Try.checked) (s := Rows.OpenSpec.upto Rows.receiptChecksSpec) (k := Rows.uptoSmall) rfl false ⟨#[], #[.string .empty, .int .i64 0, .int .i64 0, .agg #[.int .i64 0, .int .i64 0, .int .i64 0, .int .i64 0, .int .i64 0, .int .i64 0, .int .u64 0, .int .u64 0, .int .u64 0, .int .u64 0, .int .i64 0, .string .empty, .int .i64 0, .int .i64 0, .int .i64 0, .int .i64 0, .string .empty, .int .u64 0, .int .u64 0, .int .u64 0, .int .u64 0, .int .i64 0, .int .u64 0, .int .u64 0, .int .u64 0, .int .u64 0, .string .empty], .slice none 0 0], []⟩ 8 (by kernel_rfl) (by kernel_rfl) (by kernel_rfl)
      (x := ([.lit (.string []), .lit (.int .i64 0), .lit (.int .i64 0), .agg [.lit (.int .i64 0), .lit (.int .i64 0), .agg [.lit (.int .i64 0), .lit (.int .i64 0), .lit (.int .i64 0), .lit (.int .i64 0), .agg [.lit (.int .u64 0), .lit (.int .u64 0), .lit (.int .u64 0), .lit (.int .u64 0)], .agg [.lit (.int .i64 0), .lit (.string []), .lit (.int .i64 0), .lit (.int .i64 0), .lit (.int .i64 0), .lit (.int .i64 0), .lit (.string [])], .agg [.agg [.lit (.int .u64 0), .lit (.int .u64 0), .lit (.int .u64 0), .lit (.int .u64 0)], .lit (.int .i64 0)], .agg [.lit (.int .u64 0), .lit (.int .u64 0), .lit (.int .u64 0), .lit (.int .u64 0)], .lit (.string [])]], .nil], [], [])) (by kernel_rfl) rfl (by kernel_rfl)) ?_
  intro W base args ds gs before hval hW _ hk hsz _
  exact contract H enc W base args ds gs before hval hW hsz hk
theorem proved : Rows.ReceiptChecksUptoSaid :=
  OpenClaim.holds_of_cond 8 Try.f8 rfl rfl rfl rfl rfl rfl rfl ⟨rfl, rfl, rfl, rfl, rfl⟩ rfl rfl rfl rfl rfl (by kernel_rfl) Try.func8 (by kernel_rfl)
    (of_decide_eq_true (by kernel_rfl)) (by unfold Func.isWrapper; first | (rw [if_pos (by decide +kernel)]; kernel_rfl) | (rw [if_neg (by decide +kernel)]; exact ⟨rfl, rfl⟩))
    (fun os started H enc _ F => lifted os started H enc F)
end Go.Proofs.Ytancdgbclbkpkaa.receiptChecks


/-
  WALKS: the law ScanMore. (Printed by gen.py out of w_lscan2.py.)
-/
import Derived.Test.YtancdgbclbkpkaaLScan
namespace Go.Proofs.Ytancdgbclbkpkaa
open Go
set_option maxRecDepth 20000
set_option linter.unusedVariables false
set_option linter.unusedSimpArgs false
theorem evsC_len (L : List EvV) : (evsC L).length = L.length * 27 := by
  induction L with
  | nil => rfl
  | cons x l ih => simp only [evsC, List.flatMap_cons, List.length_append, List.length_cons] at *; rw [ih, evC_len]; omega
theorem evsC_app (A B : List EvV) : evsC (A ++ B) = evsC A ++ evsC B := by simp [evsC]
theorem roE_cut {A B : List EvV} {n : Nat} {l : List RVal} (hn : n = A.length + B.length) (hl : l = evsC A ++ evsC B) : AVal.r (.ro n (cutA l 0 (n * 27))) = roE (A ++ B) := by
  subst hn hl
  rw [cutA_eq, List.drop_zero, List.take_of_length_le (by rw [List.length_append, evsC_len, evsC_len]; omega), roE, List.length_append, evsC_app]
theorem evsC_take (A : List EvV) : cutA (evsC A) 0 (A.length * 27) = evsC A := by
  rw [cutA_eq, List.drop_zero, List.take_of_length_le (by rw [evsC_len]; exact Nat.le_refl _)]
theorem fst_app {A B : List EvV} {key : List UInt8} {kind : Int} {e : EvV} (h : fstV A key kind = some e) : fstV (A ++ B) key kind = some e := by rw [fstV] at *; rw [List.find?_append, h]; rfl
theorem evsC_inv {L : List EvV} {i : Nat} {e : EvV} (h : L[i]? = some e) : (((Body.plain (evsC L)).cells.drop (i * 27 + 2 + 8)).take 7) = (invC e.x.inv).map .r := by
  have := evsC_get h
  have h2 : (((Body.plain (evsC L)).cells.drop (i * 27)).take 27).drop 10 = (((evC e).map AVal.r).drop 10) := by rw [this]
  rw [← List.drop_drop, ← List.drop_drop, List.drop_drop (l := (Body.plain (evsC L)).cells.drop (i * 27))]
  rw [List.drop_take] at h2
  have h3 := congrArg (List.take 7) h2
  rw [List.take_take] at h3
  exact h3
theorem w_ScanMore (A B : List EvV) (hA : ∀ e ∈ A, e.x.ok) (hB : ∀ e ∈ B, e.x.ok) (lA : A.length ≤ 1048576) (lB : B.length ≤ 1048576) (at_ : Int) : Pur Try.prog 4 [roE A, roE B, .r (.int .i64 at_)] (.r (.bool true)) := by
  refine spec_of_go (N := 83) Try.func4 rfl (by decide) rfl rfl ?_
  refine zB ?_
  refine pA ?_
  refine zA ?_
  refine zB ?_
  refine ar_pur (w_alive14) rfl rfl rfl rfl rfl rfl rfl ?_
  refine pA ?_
  refine ar_nil ?_
  refine ag_false rfl (rfl) ?_
  refine ag_skip ?_
  refine zB ?_
  iterate 3 refine pA ?_
  refine zA ?_
  refine zB ?_
  iterate 2 refine pA ?_
  refine ar_nil ?_
  refine ag_if rfl ?_ ?_
  · intro h19
    refine zB ?_
    refine pA ?_
    refine ar_nil ?_
    refine ag_ret tOk Try.func4 rfl rfl (by simp) ?_
    rfl
  · intro h19
    have q1 := Int.lt_tmod_of_pos at_ (show (0 : Int) < ((A.length : Nat) : Int) by omega)
    have q2 := Int.tmod_lt_of_pos at_ (show (0 : Int) < ((A.length : Nat) : Int) by omega)
    obtain ⟨i, hi⟩ : ∃ i : Nat, Int.tmod (Int.tmod at_ (A.length : Int) + (A.length : Int)) (A.length : Int) = (i : Int) := ⟨_, (Int.toNat_of_nonneg (Int.tmod_nonneg _ (by omega))).symm⟩
    have q3 := Int.tmod_lt_of_pos (Int.tmod at_ (A.length : Int) + (A.length : Int)) (show (0 : Int) < ((A.length : Nat) : Int) by omega)
    rw [hi] at q3
    obtain ⟨e, hx⟩ : ∃ e, A[i]? = some e := ⟨A[i]'(by omega), by simp⟩
    have hex := hA e (List.mem_of_getElem? hx)
    have hn0 : ((A.length : Nat) : Int) ≠ 0 := by omega
    have hAl : A ≠ [] := by intro q; subst q; simp at hx
    have hAp : 0 < A.length := List.length_pos_iff.2 hAl
    have hka := keyL_le e.x.inv
    have cK := w_dKey e.x.inv hex.inv
    generalize keyL e.x.inv = K at cK hka
    refine ag_skip ?_
    refine zB ?_
    iterate 3 refine pA ?_
    refine ar_pure tOk rfl rfl rfl ?_ ?_
    · exact hn0
    refine pA ?_
    refine ar_pure tOk rfl rfl rfl ?_ ?_
    · unfold inI64; omega
    refine pA ?_
    refine ar_pure tOk rfl rfl rfl ?_ ?_
    · exact hn0
    refine ar_ent (ent_reg 27 (.r (.int .i64 ((i : Int)))) (by show AVal.r (.int _ _) = _; exact eqI (hi))) ?_
    refine ar_pure tOk rfl rfl rfl ?_ ?_
    · refine ⟨?_, ?_⟩ <;> first | omega | exact evsC_ne hx | (refine ⟨?_, ?_⟩ <;> omega)
    iterate 2 refine pA ?_
    refine ar_loadAs tOk (invA e.x.inv) rfl rfl rfl rfl rfl rfl rfl (.inr ⟨rfl, _, rfl, by rw [addo_eq, addo_eq, mulz_eq, Int.toNat_natCast]; exact evsC_inv hx, rfl⟩) ?_
    refine ar_pur (cK) rfl rfl rfl rfl rfl rfl rfl ?_
    refine pA ?_
    refine zC ?_
    refine ar_new tOk rfl rfl rfl ?_ ?_
    · simp
    refine pA ?_
    refine ar_app tOk rfl rfl rfl ?_ ?_
    · refine ⟨⟨?_, ?_, ?_⟩, ⟨?_, ?_⟩, ⟨?_, ?_⟩, ?_⟩ <;> first | trivial | decide | omega | (simp; done) | (simp; omega) | (rw [evsC_len]; done) | (rw [evsC_len]; omega) | (simp only [List.length_append, evsC_len, evsC_take]; omega)
    refine pA ?_
    refine ar_app tOk rfl rfl rfl ?_ ?_
    · refine ⟨⟨?_, ?_, ?_⟩, ⟨?_, ?_⟩, ⟨?_, ?_⟩, ?_⟩ <;> first | trivial | decide | omega | (simp; done) | (simp; omega) | (rw [evsC_len]; done) | (rw [evsC_len]; omega) | (simp only [List.length_append, evsC_len, evsC_take]; omega)
    refine pA ?_
    refine ar_nil ?_
    refine ag_ent (ent_freeze 9 rfl rfl rfl trivial) ?_
    refine ag_ent (ent_reg 9 (roE (A ++ B)) (by show AVal.r (.ro _ (cutA _ 0 _)) = _; exact roE_cut (by simp) (by simp [evsC_take]))) ?_
    refine ag_ent (ent_weak (g' := [(0, roE A), (1, roE B), (8, .r (.str K)), (9, roE (A ++ B))]) (h' := ⟨0, [], false⟩) [] rfl rfl rfl rfl ?_ ?_ rfl) ?_
    · exact ⟨⟨rfl, rfl⟩, ⟨rfl, rfl⟩, ⟨rfl, rfl⟩, ⟨rfl, rfl⟩, trivial⟩
    · trivial
    have cF1 := w_Fulfilled A hA (by omega) K
    have cF2 := w_Fulfilled (A ++ B) (fun y hy => (List.mem_append.1 hy).elim (hA y) (hB y)) (by rw [List.length_append]; omega) K
    have hfa := fun e h => fst_app (A := A) (B := B) (key := K) (kind := 5) (e := e) h
    generalize fstV A K 5 = r at cF1 hfa
    generalize fstV (A ++ B) K 5 = s at cF2 hfa
    have hlp : (A ++ B).length = A.length + B.length := List.length_append
    refine ag_seq ?_
    rcases (show (r = none ∧ s = none) ∨ (r = none ∧ ∃ g, s = some g) ∨ (∃ f, r = some f ∧ s = some f) by cases hr : r with
      | none => cases hs : s with
        | none => exact .inl ⟨rfl, rfl⟩
        | some g => exact .inr (.inl ⟨rfl, g, rfl⟩)
      | some f => exact .inr (.inr ⟨f, rfl, hfa f hr⟩)) with ⟨e1, e2⟩ | ⟨e1, g, e2⟩ | ⟨f, e1, e2⟩
    · skip
      subst e1 e2
      refine ag_reg ?_
      iterate 2 refine pA ?_
      refine ar_pur (cF1) rfl rfl rfl rfl rfl rfl rfl ?_
      iterate 3 refine pA ?_
      refine ar_new tOk rfl rfl rfl ?_ ?_
      · simp
      refine ar_store (h' := ⟨1, [(0, some (.mixed ((evC ev0).map .r))), (0, some (.mixed ((evC ev0).map .r)))], false⟩) (c := True) tOk (by kernel_rfl) rfl rfl trivial ?_
      refine pA ?_
      refine ar_nil ?_
      refine ag_ent (ent_weak (g' := [(0, roE A), (1, roE B), (9, roE (A ++ B)), (8, .r (.str K)), (10, .ptr 0 0), (11, .r (.bool false))]) (h' := ⟨1, [(0, some (.mixed ((evC ev0).map .r)))], false⟩) [0] rfl rfl rfl rfl ?_ ?_ rfl) ?_
      · exact ⟨⟨rfl, rfl⟩, ⟨rfl, rfl⟩, ⟨rfl, rfl⟩, ⟨rfl, rfl⟩, ⟨rfl, rfl⟩, ⟨rfl, rfl⟩, trivial⟩
      · exact ⟨⟨rfl, rfl, rfl⟩, trivial⟩
      refine zB ?_
      iterate 2 refine pA ?_
      refine ar_pur (cF2) rfl rfl rfl rfl rfl rfl rfl ?_
      iterate 3 refine pA ?_
      refine ar_new tOk rfl rfl rfl ?_ ?_
      · simp
      refine ar_store (h' := ⟨2, [(1, some (.mixed ((evC ev0).map .r))), (1, some (.mixed ((evC ev0).map .r))), (0, some (.mixed ((evC ev0).map .r)))], false⟩) (c := True) tOk (by kernel_rfl) rfl rfl trivial ?_
      refine pA ?_
      refine ar_nil ?_
      refine ag_ent (ent_weak (g' := [(0, roE A), (1, roE B), (9, roE (A ++ B)), (10, .ptr 0 0), (11, .r (.bool false)), (12, .ptr 1 0), (13, .r (.bool false))]) (h' := ⟨2, [(0, some (.mixed ((evC ev0).map .r))), (1, some (.mixed ((evC ev0).map .r)))], false⟩) [0, 1] rfl rfl rfl rfl ?_ ?_ rfl) ?_
      · exact ⟨⟨rfl, rfl⟩, ⟨rfl, rfl⟩, ⟨rfl, rfl⟩, ⟨rfl, rfl⟩, ⟨rfl, rfl⟩, ⟨rfl, rfl⟩, ⟨rfl, rfl⟩, trivial⟩
      · exact ⟨⟨rfl, rfl, rfl⟩, ⟨rfl, rfl, rfl⟩, trivial⟩
      refine zB ?_
      iterate 3 refine pA ?_
      refine ar_ent (ent_reg 52 (.r (.bool true)) (by show AVal.r (.bool _) = _; exact eqB (by rfl))) ?_
      iterate 6 refine ar_skip rfl rfl rfl ?_
      iterate 2 refine pA ?_
      refine ar_ent (ent_reg 60 (.r (.bool true)) (by show AVal.r (.bool _) = _; exact eqB (by rfl))) ?_
      refine pA ?_
      refine ar_pur (w_Deals (A ++ B) (by omega)) rfl rfl rfl rfl rfl rfl rfl ?_
      iterate 2 refine pA ?_
      refine ar_pur (w_Deals A (by omega)) rfl rfl rfl rfl rfl rfl rfl ?_
      iterate 2 refine pA ?_
      refine ar_pur (w_Deals B (by omega)) rfl rfl rfl rfl rfl rfl rfl ?_
      refine pA ?_
      refine ar_pure tOk rfl rfl rfl ?_ ?_
      · unfold inI64; have := deals_len A; have := deals_len B; omega
      iterate 3 refine pA ?_
      refine ar_ent (ent_reg 73 (.r (.bool true)) (by show AVal.r (.bool _) = _; exact eqB (by show decide (((dealsL (A ++ B)).length : Int) = ((dealsL A).length : Int) + ((dealsL B).length : Int)) = true; rw [deals_app, List.length_append]; simp))) ?_
      refine pA ?_
      refine ar_pur (w_Last (A ++ B) (by omega)) rfl rfl rfl rfl rfl rfl rfl ?_
      refine pA ?_
      refine ar_pur (w_Last A (by omega)) rfl rfl rfl rfl rfl rfl rfl ?_
      refine pA ?_
      refine ar_pur (w_Last B (by omega)) rfl rfl rfl rfl rfl rfl rfl ?_
      iterate 4 refine pA ?_
      refine ar_nil ?_
      refine ag_ret tOk Try.func4 rfl rfl (by simp) ?_
      exact eqB (by rw [last_app]; simp)
    · skip
      subst e1 e2
      refine ag_reg ?_
      iterate 2 refine pA ?_
      refine ar_pur (cF1) rfl rfl rfl rfl rfl rfl rfl ?_
      iterate 3 refine pA ?_
      refine ar_new tOk rfl rfl rfl ?_ ?_
      · simp
      refine ar_store (h' := ⟨1, [(0, some (.mixed ((evC ev0).map .r))), (0, some (.mixed ((evC ev0).map .r)))], false⟩) (c := True) tOk (by kernel_rfl) rfl rfl trivial ?_
      refine pA ?_
      refine ar_nil ?_
      refine ag_ent (ent_weak (g' := [(0, roE A), (1, roE B), (9, roE (A ++ B)), (8, .r (.str K)), (10, .ptr 0 0), (11, .r (.bool false))]) (h' := ⟨1, [(0, some (.mixed ((evC ev0).map .r)))], false⟩) [0] rfl rfl rfl rfl ?_ ?_ rfl) ?_
      · exact ⟨⟨rfl, rfl⟩, ⟨rfl, rfl⟩, ⟨rfl, rfl⟩, ⟨rfl, rfl⟩, ⟨rfl, rfl⟩, ⟨rfl, rfl⟩, trivial⟩
      · exact ⟨⟨rfl, rfl, rfl⟩, trivial⟩
      refine zB ?_
      iterate 2 refine pA ?_
      refine ar_pur (cF2) rfl rfl rfl rfl rfl rfl rfl ?_
      iterate 3 refine pA ?_
      refine ar_new tOk rfl rfl rfl ?_ ?_
      · simp
      refine ar_store (h' := ⟨2, [(1, some (.mixed ((evC g).map .r))), (1, some (.mixed ((evC ev0).map .r))), (0, some (.mixed ((evC ev0).map .r)))], false⟩) (c := True) tOk (by kernel_rfl) rfl rfl trivial ?_
      refine pA ?_
      refine ar_nil ?_
      refine ag_ent (ent_weak (g' := [(0, roE A), (1, roE B), (9, roE (A ++ B)), (10, .ptr 0 0), (11, .r (.bool false)), (12, .ptr 1 0), (13, .r (.bool true))]) (h' := ⟨2, [(0, some (.mixed ((evC ev0).map .r))), (1, some (.mixed ((evC g).map .r)))], false⟩) [0, 1] rfl rfl rfl rfl ?_ ?_ rfl) ?_
      · exact ⟨⟨rfl, rfl⟩, ⟨rfl, rfl⟩, ⟨rfl, rfl⟩, ⟨rfl, rfl⟩, ⟨rfl, rfl⟩, ⟨rfl, rfl⟩, ⟨rfl, rfl⟩, trivial⟩
      · exact ⟨⟨rfl, rfl, rfl⟩, ⟨rfl, rfl, rfl⟩, trivial⟩
      refine zB ?_
      iterate 3 refine pA ?_
      refine ar_ent (ent_reg 52 (.r (.bool true)) (by show AVal.r (.bool _) = _; exact eqB (by rfl))) ?_
      iterate 6 refine ar_skip rfl rfl rfl ?_
      iterate 2 refine pA ?_
      refine ar_ent (ent_reg 60 (.r (.bool true)) (by show AVal.r (.bool _) = _; exact eqB (by rfl))) ?_
      refine pA ?_
      refine ar_pur (w_Deals (A ++ B) (by omega)) rfl rfl rfl rfl rfl rfl rfl ?_
      iterate 2 refine pA ?_
      refine ar_pur (w_Deals A (by omega)) rfl rfl rfl rfl rfl rfl rfl ?_
      iterate 2 refine pA ?_
      refine ar_pur (w_Deals B (by omega)) rfl rfl rfl rfl rfl rfl rfl ?_
      refine pA ?_
      refine ar_pure tOk rfl rfl rfl ?_ ?_
      · unfold inI64; have := deals_len A; have := deals_len B; omega
      iterate 3 refine pA ?_
      refine ar_ent (ent_reg 73 (.r (.bool true)) (by show AVal.r (.bool _) = _; exact eqB (by show decide (((dealsL (A ++ B)).length : Int) = ((dealsL A).length : Int) + ((dealsL B).length : Int)) = true; rw [deals_app, List.length_append]; simp))) ?_
      refine pA ?_
      refine ar_pur (w_Last (A ++ B) (by omega)) rfl rfl rfl rfl rfl rfl rfl ?_
      refine pA ?_
      refine ar_pur (w_Last A (by omega)) rfl rfl rfl rfl rfl rfl rfl ?_
      refine pA ?_
      refine ar_pur (w_Last B (by omega)) rfl rfl rfl rfl rfl rfl rfl ?_
      iterate 4 refine pA ?_
      refine ar_nil ?_
      refine ag_ret tOk Try.func4 rfl rfl (by simp) ?_
      exact eqB (by rw [last_app]; simp)
    · skip
      subst e1 e2
      refine ag_reg ?_
      iterate 2 refine pA ?_
      refine ar_pur (cF1) rfl rfl rfl rfl rfl rfl rfl ?_
      iterate 3 refine pA ?_
      refine ar_new tOk rfl rfl rfl ?_ ?_
      · simp
      refine ar_store (h' := ⟨1, [(0, some (.mixed ((evC f).map .r))), (0, some (.mixed ((evC ev0).map .r)))], false⟩) (c := True) tOk (by kernel_rfl) rfl rfl trivial ?_
      refine pA ?_
      refine ar_nil ?_
      refine ag_ent (ent_weak (g' := [(0, roE A), (1, roE B), (9, roE (A ++ B)), (8, .r (.str K)), (10, .ptr 0 0), (11, .r (.bool true))]) (h' := ⟨1, [(0, some (.mixed ((evC f).map .r)))], false⟩) [0] rfl rfl rfl rfl ?_ ?_ rfl) ?_
      · exact ⟨⟨rfl, rfl⟩, ⟨rfl, rfl⟩, ⟨rfl, rfl⟩, ⟨rfl, rfl⟩, ⟨rfl, rfl⟩, ⟨rfl, rfl⟩, trivial⟩
      · exact ⟨⟨rfl, rfl, rfl⟩, trivial⟩
      refine zB ?_
      iterate 2 refine pA ?_
      refine ar_pur (cF2) rfl rfl rfl rfl rfl rfl rfl ?_
      iterate 3 refine pA ?_
      refine ar_new tOk rfl rfl rfl ?_ ?_
      · simp
      refine ar_store (h' := ⟨2, [(1, some (.mixed ((evC f).map .r))), (1, some (.mixed ((evC ev0).map .r))), (0, some (.mixed ((evC f).map .r)))], false⟩) (c := True) tOk (by kernel_rfl) rfl rfl trivial ?_
      refine pA ?_
      refine ar_nil ?_
      refine ag_ent (ent_weak (g' := [(0, roE A), (1, roE B), (9, roE (A ++ B)), (10, .ptr 0 0), (11, .r (.bool true)), (12, .ptr 1 0), (13, .r (.bool true))]) (h' := ⟨2, [(0, some (.mixed ((evC f).map .r))), (1, some (.mixed ((evC f).map .r)))], false⟩) [0, 1] rfl rfl rfl rfl ?_ ?_ rfl) ?_
      · exact ⟨⟨rfl, rfl⟩, ⟨rfl, rfl⟩, ⟨rfl, rfl⟩, ⟨rfl, rfl⟩, ⟨rfl, rfl⟩, ⟨rfl, rfl⟩, ⟨rfl, rfl⟩, trivial⟩
      · exact ⟨⟨rfl, rfl, rfl⟩, ⟨rfl, rfl, rfl⟩, trivial⟩
      refine zB ?_
      iterate 3 refine pA ?_
      refine ar_ent (ent_reg 52 (.r (.bool false)) (by show AVal.r (.bool _) = _; exact eqB (by rfl))) ?_
      iterate 2 refine pA ?_
      refine ar_ent (ent_reg 54 (.r (.bool true)) (by show AVal.r (.bool _) = _; exact eqB (by rfl))) ?_
      iterate 2 refine pB ?_
      iterate 4 refine pA ?_
      refine ar_ent (ent_reg 60 (.r (.bool true)) (by show AVal.r (.bool _) = _; exact eqB (by simp))) ?_
      refine pA ?_
      refine ar_pur (w_Deals (A ++ B) (by omega)) rfl rfl rfl rfl rfl rfl rfl ?_
      iterate 2 refine pA ?_
      refine ar_pur (w_Deals A (by omega)) rfl rfl rfl rfl rfl rfl rfl ?_
      iterate 2 refine pA ?_
      refine ar_pur (w_Deals B (by omega)) rfl rfl rfl rfl rfl rfl rfl ?_
      refine pA ?_
      refine ar_pure tOk rfl rfl rfl ?_ ?_
      · unfold inI64; have := deals_len A; have := deals_len B; omega
      iterate 3 refine pA ?_
      refine ar_ent (ent_reg 73 (.r (.bool true)) (by show AVal.r (.bool _) = _; exact eqB (by show decide (((dealsL (A ++ B)).length : Int) = ((dealsL A).length : Int) + ((dealsL B).length : Int)) = true; rw [deals_app, List.length_append]; simp))) ?_
      refine pA ?_
      refine ar_pur (w_Last (A ++ B) (by omega)) rfl rfl rfl rfl rfl rfl rfl ?_
      refine pA ?_
      refine ar_pur (w_Last A (by omega)) rfl rfl rfl rfl rfl rfl rfl ?_
      refine pA ?_
      refine ar_pur (w_Last B (by omega)) rfl rfl rfl rfl rfl rfl rfl ?_
      iterate 4 refine pA ?_
      refine ar_nil ?_
      refine ag_ret tOk Try.func4 rfl rfl (by simp) ?_
      exact eqB (by rw [last_app]; simp)
end Go.Proofs.Ytancdgbclbkpkaa


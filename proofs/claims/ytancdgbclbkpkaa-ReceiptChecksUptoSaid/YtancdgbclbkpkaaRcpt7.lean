/-
  WALKS: the laws ReceiptChecks, ReceiptBack. (Printed by gen.py out of w_rcpt7.py.)
-/
import Derived.Test.YtancdgbclbkpkaaRcpt6
namespace Go.Proofs.Ytancdgbclbkpkaa
open Go
set_option maxRecDepth 20000
set_option linter.unusedVariables false
set_option linter.unusedSimpArgs false
theorem lefE_z {e : EvV} : lefE e ≠ 0 ↔ lefBad e := by
  unfold lefE; split
  · rename_i h; exact ⟨fun _ => h, fun _ => by decide⟩
  · rename_i h; exact ⟨fun q => absurd rfl q, fun q => absurd q h⟩
theorem w_CheckN (top : List UInt8) (many i : Int) (e : EvV) (he : e.x.ok) (P : List (List UInt8)) (h : lefBad e ∨ i < 0 ∨ many ≤ i ∨ many > 1099511627776) : Pur Try.prog 26 [.r (.str top), .r (.int .i64 many), .r (.int .i64 i), eventA e, roS P] (.r (.bool false)) := by
  have cL := w_Leaf e he
  have hz := lefE_z (e := e)
  generalize lefE e = E at cL hz
  rw [← hz] at h
  refine spec_of_go (N := 49) Try.func26 rfl (by decide) rfl rfl ?_
  refine zB ?_
  refine ar_new tOk rfl rfl rfl trivial ?_
  refine pA ?_
  refine zC ?_
  refine pB ?_
  refine ar_pur (cL) rfl rfl rfl rfl rfl rfl rfl ?_
  iterate 5 refine pA ?_
  refine zA ?_
  refine zB ?_
  iterate 3 refine pA ?_
  refine ar_guard (t := decide (E ≠ 0)) (fun ht => ?_) (fun ht => ?_)
  · refine ar_ent (ent_reg 22 (.r (.bool true)) (by show AVal.r (.bool _) = _; exact eqB ht)) ?_
    have hk := of_decide_eq_true ht
    repeat (first | refine ar_skip rfl rfl rfl ?_ | refine ar_pure tOk rfl rfl rfl trivial ?_)
    refine ar_nil ?_
    refine ag_true rfl (by rfl) ?_
    refine zB ?_
    refine pA ?_
    refine ar_nil ?_
    refine ag_ret tOk Try.func26 rfl rfl (by simp) ?_
    rfl
  · refine ar_ent (ent_reg 22 (.r (.bool false)) (by show AVal.r (.bool _) = _; exact eqB ht)) ?_
    have hk0 := of_decide_eq_false ht
    iterate 4 refine pA ?_
    refine ar_guard (t := decide (i < 0)) (fun ht => ?_) (fun ht => ?_)
    · refine ar_ent (ent_reg 26 (.r (.bool true)) (by show AVal.r (.bool _) = _; exact eqB ht)) ?_
      have hk := of_decide_eq_true ht
      repeat (first | refine ar_skip rfl rfl rfl ?_ | refine ar_pure tOk rfl rfl rfl trivial ?_)
      refine ar_nil ?_
      refine ag_true rfl (by rfl) ?_
      refine zB ?_
      refine pA ?_
      refine ar_nil ?_
      refine ag_ret tOk Try.func26 rfl rfl (by simp) ?_
      rfl
    · refine ar_ent (ent_reg 26 (.r (.bool false)) (by show AVal.r (.bool _) = _; exact eqB ht)) ?_
      have hk1 := of_decide_eq_false ht
      iterate 5 refine pA ?_
      refine ar_guard (t := decide (i ≥ many)) (fun ht => ?_) (fun ht => ?_)
      · refine ar_ent (ent_reg 31 (.r (.bool true)) (by show AVal.r (.bool _) = _; exact eqB ht)) ?_
        have hk := of_decide_eq_true ht
        repeat (first | refine ar_skip rfl rfl rfl ?_ | refine ar_pure tOk rfl rfl rfl trivial ?_)
        refine ar_nil ?_
        refine ag_true rfl (by rfl) ?_
        refine zB ?_
        refine pA ?_
        refine ar_nil ?_
        refine ag_ret tOk Try.func26 rfl rfl (by simp) ?_
        rfl
      · refine ar_ent (ent_reg 31 (.r (.bool false)) (by show AVal.r (.bool _) = _; exact eqB ht)) ?_
        have hk2 := of_decide_eq_false ht
        iterate 3 refine pA ?_
        refine ar_nil ?_
        refine ag_true rfl (by show decide _ = true; exact decide_eq_true (by omega)) ?_
        refine zB ?_
        refine pA ?_
        refine ar_nil ?_
        refine ag_ret tOk Try.func26 rfl rfl (by simp) ?_
        rfl
theorem w_CheckG (top : List UInt8) (n i : Nat) (e : EvV) (he : e.x.ok) (P : List (List UInt8)) (hg : ¬ lefBad e) (hi : i < n) (hn : n ≤ 1099511627776) (hP : P.length ≤ 1000000000) (hq : ∀ p ∈ P, p.length ≤ 140737488350000) (x : List UInt8) (b : Bool) (hx : clR (lefL e) P.reverse n i = (x, b)) : Pur Try.prog 26 [.r (.str top), .r (.int .i64 (n : Int)), .r (.int .i64 (i : Int)), eventA e, roS P] (.r (.bool (b && decide (x = top)))) := by
  have cL := w_Leaf e he
  rw [(lef_g hg).2] at cL
  have cC := w_climbP (lefL e) (lef_32 e) P n i (by omega) hn hi hP hq
  rw [hx] at cC
  have cC2 : Pur Try.prog 51 [.r (.str (lefL e)), .r (.int .i64 (n : Int)), .r (.int .i64 (i : Int)), roS P] (.tuple [.r (.str x), .r (.bool b)]) := cC
  refine spec_of_go (N := 49) Try.func26 rfl (by decide) rfl rfl ?_
  refine zB ?_
  refine ar_new tOk rfl rfl rfl trivial ?_
  refine pA ?_
  refine zC ?_
  refine pB ?_
  refine ar_pur (cL) rfl rfl rfl rfl rfl rfl rfl ?_
  iterate 5 refine pA ?_
  refine zA ?_
  refine zB ?_
  iterate 3 refine pA ?_
  refine ar_ent (ent_reg 22 (.r (.bool false)) (by show AVal.r (.bool _) = _; exact eqB (by first | rfl | (show decide _ = false; exact decide_eq_false (by omega))))) ?_
  iterate 4 refine pA ?_
  refine ar_ent (ent_reg 26 (.r (.bool false)) (by show AVal.r (.bool _) = _; exact eqB (by first | rfl | (show decide _ = false; exact decide_eq_false (by omega))))) ?_
  iterate 5 refine pA ?_
  refine ar_ent (ent_reg 31 (.r (.bool false)) (by show AVal.r (.bool _) = _; exact eqB (by first | rfl | (show decide _ = false; exact decide_eq_false (by omega))))) ?_
  iterate 3 refine pA ?_
  refine ar_nil ?_
  refine ag_false rfl (by show decide _ = false; exact decide_eq_false (by omega)) ?_
  refine ag_skip ?_
  refine zB ?_
  iterate 4 refine pA ?_
  refine ar_pur (cC2) rfl rfl rfl rfl rfl rfl rfl ?_
  iterate 5 refine pA ?_
  refine zC ?_
  iterate 2 refine pA ?_
  refine ar_guard (t := b) (fun ht => ?_) (fun ht => ?_)
  · refine ar_ent (ent_reg 44 (.r (.bool true)) (by show AVal.r (.bool _) = _; exact eqB ht)) ?_
    have hb := ht
    iterate 5 refine pA ?_
    refine ar_nil ?_
    refine ag_ret tOk Try.func26 rfl rfl (by simp) ?_
    exact eqB (by simp [hb])
  · refine ar_ent (ent_reg 44 (.r (.bool false)) (by show AVal.r (.bool _) = _; exact eqB ht)) ?_
    have hb := ht
    repeat (first | refine ar_skip rfl rfl rfl ?_ | refine ar_pure tOk rfl rfl rfl trivial ?_)
    refine ar_nil ?_
    refine ag_ret tOk Try.func26 rfl rfl (by simp) ?_
    exact eqB (by simp [hb])
theorem w_ChecksN (top : List UInt8) (many i : Int) (e : EvV) (he : e.x.ok) (P : List (List UInt8)) (h : lefBad e ∨ i < 0 ∨ many ≤ i ∨ many > 1099511627776) : Pur Try.prog 8 [.r (.str top), .r (.int .i64 many), .r (.int .i64 i), eventA e, roS P] (.r (.bool true)) := by
  have cL := w_rleaf e he
  have c1 := w_CheckN top many i e he P h
  have c2 := w_CheckN [] many i e he P h
  refine spec_of_go (N := 70) Try.func8 rfl (by decide) rfl rfl ?_
  refine zB ?_
  refine ar_new tOk rfl rfl rfl trivial ?_
  refine pA ?_
  refine zA ?_
  refine zB ?_
  refine ar_pur (w_alive30) rfl rfl rfl rfl rfl rfl rfl ?_
  refine pA ?_
  refine ar_nil ?_
  refine ag_false rfl (rfl) ?_
  refine ag_skip ?_
  refine ag_seq ?_
  refine zB ?_
  iterate 3 refine pA ?_
  refine ar_nil ?_
  refine ag_if rfl ?_ ?_
  · intro h19
    refine zB ?_
    refine pA ?_
    refine ar_nil ?_
    refine ag_ret tOk Try.func8 rfl rfl (by simp) ?_
    rfl
  · intro h19
    refine ag_skip ?_
    refine zB ?_
    refine pB ?_
    refine ar_pur (cL) rfl rfl rfl rfl rfl rfl rfl ?_
    iterate 5 refine pA ?_
    refine zC ?_
    refine pA ?_
    refine zC ?_
    refine pA ?_
    refine zA ?_
    refine zB ?_
    iterate 2 refine pA ?_
    refine ar_guard (t := decide (¬ lefBad e)) (fun ht => ?_) (fun ht => ?_)
    · refine ar_ent (ent_reg 26 (.r (.bool true)) (by show AVal.r (.bool _) = _; exact eqB ht)) ?_
      have hk0 := of_decide_eq_true ht
      have hnb : ¬ lefBad e := hk0
      have h := h.resolve_left hnb
      iterate 4 refine pA ?_
      refine ar_guard (t := decide (i ≥ 0)) (fun ht => ?_) (fun ht => ?_)
      · refine ar_ent (ent_reg 30 (.r (.bool true)) (by show AVal.r (.bool _) = _; exact eqB ht)) ?_
        have hk1 := of_decide_eq_true ht
        iterate 5 refine pA ?_
        refine ar_guard (t := decide (i < many)) (fun ht => ?_) (fun ht => ?_)
        · refine ar_ent (ent_reg 35 (.r (.bool true)) (by show AVal.r (.bool _) = _; exact eqB ht)) ?_
          have hk2 := of_decide_eq_true ht
          iterate 3 refine pA ?_
          refine ar_nil ?_
          refine ag_false rfl (by show decide _ = false; exact decide_eq_false (by omega)) ?_
          refine ag_skip ?_
          refine zB ?_
          iterate 3 refine pA ?_
          refine pB ?_
          refine pA ?_
          refine ar_pur (c1) rfl rfl rfl rfl rfl rfl rfl ?_
          iterate 2 refine pA ?_
          refine ar_ent (ent_reg 54 (.r (.bool false)) (by show AVal.r (.bool _) = _; exact eqB (by rfl))) ?_
          iterate 3 refine ar_skip rfl rfl rfl ?_
          iterate 3 refine pA ?_
          refine ar_ent (ent_reg 60 (.r (.bool true)) (by show AVal.r (.bool _) = _; exact eqB (by rfl))) ?_
          iterate 3 refine pA ?_
          refine pB ?_
          refine pA ?_
          refine ar_pur (c2) rfl rfl rfl rfl rfl rfl rfl ?_
          iterate 4 refine pA ?_
          refine ar_nil ?_
          refine ag_ret tOk Try.func8 rfl rfl (by simp) ?_
          rfl
        · refine ar_ent (ent_reg 35 (.r (.bool false)) (by show AVal.r (.bool _) = _; exact eqB ht)) ?_
          skip
          repeat (first | refine ar_skip rfl rfl rfl ?_ | refine ar_pure tOk rfl rfl rfl trivial ?_)
          refine ar_nil ?_
          refine ag_false rfl (by rfl) ?_
          refine ag_skip ?_
          refine zB ?_
          iterate 3 refine pA ?_
          refine pB ?_
          refine pA ?_
          refine ar_pur (c1) rfl rfl rfl rfl rfl rfl rfl ?_
          iterate 2 refine pA ?_
          refine ar_ent (ent_reg 54 (.r (.bool false)) (by show AVal.r (.bool _) = _; exact eqB (by rfl))) ?_
          iterate 3 refine ar_skip rfl rfl rfl ?_
          iterate 3 refine pA ?_
          refine ar_ent (ent_reg 60 (.r (.bool true)) (by show AVal.r (.bool _) = _; exact eqB (by rfl))) ?_
          iterate 3 refine pA ?_
          refine pB ?_
          refine pA ?_
          refine ar_pur (c2) rfl rfl rfl rfl rfl rfl rfl ?_
          iterate 4 refine pA ?_
          refine ar_nil ?_
          refine ag_ret tOk Try.func8 rfl rfl (by simp) ?_
          rfl
      · refine ar_ent (ent_reg 30 (.r (.bool false)) (by show AVal.r (.bool _) = _; exact eqB ht)) ?_
        skip
        repeat (first | refine ar_skip rfl rfl rfl ?_ | refine ar_pure tOk rfl rfl rfl trivial ?_)
        refine ar_nil ?_
        refine ag_false rfl (by rfl) ?_
        refine ag_skip ?_
        refine zB ?_
        iterate 3 refine pA ?_
        refine pB ?_
        refine pA ?_
        refine ar_pur (c1) rfl rfl rfl rfl rfl rfl rfl ?_
        iterate 2 refine pA ?_
        refine ar_ent (ent_reg 54 (.r (.bool false)) (by show AVal.r (.bool _) = _; exact eqB (by rfl))) ?_
        iterate 3 refine ar_skip rfl rfl rfl ?_
        iterate 3 refine pA ?_
        refine ar_ent (ent_reg 60 (.r (.bool true)) (by show AVal.r (.bool _) = _; exact eqB (by rfl))) ?_
        iterate 3 refine pA ?_
        refine pB ?_
        refine pA ?_
        refine ar_pur (c2) rfl rfl rfl rfl rfl rfl rfl ?_
        iterate 4 refine pA ?_
        refine ar_nil ?_
        refine ag_ret tOk Try.func8 rfl rfl (by simp) ?_
        rfl
    · refine ar_ent (ent_reg 26 (.r (.bool false)) (by show AVal.r (.bool _) = _; exact eqB ht)) ?_
      skip
      repeat (first | refine ar_skip rfl rfl rfl ?_ | refine ar_pure tOk rfl rfl rfl trivial ?_)
      refine ar_nil ?_
      refine ag_false rfl (by rfl) ?_
      refine ag_skip ?_
      refine zB ?_
      iterate 3 refine pA ?_
      refine pB ?_
      refine pA ?_
      refine ar_pur (c1) rfl rfl rfl rfl rfl rfl rfl ?_
      iterate 2 refine pA ?_
      refine ar_ent (ent_reg 54 (.r (.bool false)) (by show AVal.r (.bool _) = _; exact eqB (by rfl))) ?_
      iterate 3 refine ar_skip rfl rfl rfl ?_
      iterate 3 refine pA ?_
      refine ar_ent (ent_reg 60 (.r (.bool true)) (by show AVal.r (.bool _) = _; exact eqB (by rfl))) ?_
      iterate 3 refine pA ?_
      refine pB ?_
      refine pA ?_
      refine ar_pur (c2) rfl rfl rfl rfl rfl rfl rfl ?_
      iterate 4 refine pA ?_
      refine ar_nil ?_
      refine ag_ret tOk Try.func8 rfl rfl (by simp) ?_
      rfl
theorem w_ChecksG (top : List UInt8) (n i : Nat) (e : EvV) (he : e.x.ok) (P : List (List UInt8)) (hg : ¬ lefBad e) (hi : i < n) (hn : n ≤ 1099511627776) (hq : ∀ p ∈ P, p.length ≤ 140737488350000) : Pur Try.prog 8 [.r (.str top), .r (.int .i64 (n : Int)), .r (.int .i64 (i : Int)), eventA e, roS P] (.r (.bool true)) := by
  have cL := w_rleaf e he
  rw [decide_eq_true (p := ¬ lefBad e) hg] at cL
  refine spec_of_go (N := 70) Try.func8 rfl (by decide) rfl rfl ?_
  refine zB ?_
  refine ar_new tOk rfl rfl rfl trivial ?_
  refine pA ?_
  refine zA ?_
  refine zB ?_
  refine ar_pur (w_alive30) rfl rfl rfl rfl rfl rfl rfl ?_
  refine pA ?_
  refine ar_nil ?_
  refine ag_false rfl (rfl) ?_
  refine ag_skip ?_
  refine ag_seq ?_
  refine zB ?_
  iterate 3 refine pA ?_
  refine ar_nil ?_
  refine ag_if rfl ?_ ?_
  · intro h19
    refine zB ?_
    refine pA ?_
    refine ar_nil ?_
    refine ag_ret tOk Try.func8 rfl rfl (by simp) ?_
    rfl
  · intro h19
    obtain ⟨x, b, hx⟩ : ∃ x b, clR (lefL e) P.reverse n i = (x, b) := ⟨_, _, rfl⟩
    have cC := w_rclimbP (lefL e) (lef_32 e) P n i (by omega) hn hi (by omega) hq
    rw [hx] at cC
    have cC2 : Pur Try.prog 27 [.r (.str (lefL e)), .r (.int .i64 (n : Int)), .r (.int .i64 (i : Int)), roS P] (.tuple [.r (.str x), .r (.bool b)]) := cC
    have c1 := w_CheckG top n i e he P hg hi hn (by omega) hq x b hx
    have c2 := w_CheckG x n i e he P hg hi hn (by omega) hq x b hx
    refine ag_skip ?_
    refine zB ?_
    refine pB ?_
    refine ar_pur (cL) rfl rfl rfl rfl rfl rfl rfl ?_
    iterate 5 refine pA ?_
    refine zC ?_
    refine pA ?_
    refine zC ?_
    refine pA ?_
    refine zA ?_
    refine zB ?_
    iterate 2 refine pA ?_
    refine ar_ent (ent_reg 26 (.r (.bool true)) (by show AVal.r (.bool _) = _; exact eqB (by first | rfl | exact decide_eq_true (by omega)))) ?_
    iterate 4 refine pA ?_
    refine ar_ent (ent_reg 30 (.r (.bool true)) (by show AVal.r (.bool _) = _; exact eqB (by first | rfl | exact decide_eq_true (by omega)))) ?_
    iterate 5 refine pA ?_
    refine ar_ent (ent_reg 35 (.r (.bool true)) (by show AVal.r (.bool _) = _; exact eqB (by first | rfl | exact decide_eq_true (by omega)))) ?_
    iterate 3 refine pA ?_
    refine ar_nil ?_
    refine ag_true rfl (by show decide _ = true; exact decide_eq_true (by omega)) ?_
    refine ag_reg ?_
    iterate 4 refine pA ?_
    refine ar_pur (cC2) rfl rfl rfl rfl rfl rfl rfl ?_
    iterate 5 refine pA ?_
    refine zC ?_
    iterate 3 refine pA ?_
    refine pB ?_
    refine pA ?_
    refine ar_pur (c1) rfl rfl rfl rfl rfl rfl rfl ?_
    iterate 2 refine pA ?_
    refine ar_guard (t := b) (fun ht => ?_) (fun ht => ?_)
    · refine ar_ent (ent_reg 54 (.r (.bool true)) (by show AVal.r (.bool _) = _; exact eqB ht)) ?_
      have hb := ht
      subst hb
      iterate 6 refine pA ?_
      refine ar_ent (ent_reg 60 (.r (.bool true)) (by show AVal.r (.bool _) = _; exact eqB (by simp))) ?_
      iterate 3 refine pA ?_
      refine pB ?_
      refine pA ?_
      refine ar_pur (c2) rfl rfl rfl rfl rfl rfl rfl ?_
      iterate 4 refine pA ?_
      refine ar_nil ?_
      refine ag_ret tOk Try.func8 rfl rfl (by simp) ?_
      exact eqB (by simp)
    · refine ar_ent (ent_reg 54 (.r (.bool false)) (by show AVal.r (.bool _) = _; exact eqB ht)) ?_
      have hb := ht
      subst hb
      iterate 3 refine ar_skip rfl rfl rfl ?_
      iterate 3 refine pA ?_
      refine ar_ent (ent_reg 60 (.r (.bool true)) (by show AVal.r (.bool _) = _; exact eqB (by simp))) ?_
      iterate 3 refine pA ?_
      refine pB ?_
      refine pA ?_
      refine ar_pur (c2) rfl rfl rfl rfl rfl rfl rfl ?_
      iterate 4 refine pA ?_
      refine ar_nil ?_
      refine ag_ret tOk Try.func8 rfl rfl (by simp) ?_
      exact eqB (by simp)
theorem w_ReceiptChecks (top : List UInt8) (many i : Int) (e : EvV) (he : e.x.ok) (P : List (List UInt8)) (hq : ∀ p ∈ P, p.length ≤ 140737488350000) : Pur Try.prog 8 [.r (.str top), .r (.int .i64 many), .r (.int .i64 i), eventA e, roS P] (.r (.bool true)) := by
  by_cases h : lefBad e ∨ i < 0 ∨ many ≤ i ∨ many > 1099511627776
  · exact w_ChecksN top many i e he P h
  · obtain ⟨n, rfl⟩ : ∃ n : Nat, many = (n : Int) := ⟨many.toNat, by omega⟩
    obtain ⟨j, rfl⟩ : ∃ j : Nat, i = (j : Int) := ⟨i.toNat, by omega⟩
    exact w_ChecksG top n j e he P (fun q => h (.inl q)) (by omega) (by omega) hq
end Go.Proofs.Ytancdgbclbkpkaa


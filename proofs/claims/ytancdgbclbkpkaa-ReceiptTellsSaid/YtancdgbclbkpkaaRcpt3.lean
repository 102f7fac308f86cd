/-
  WALKS: receipts (path, Root, Show, and the reference's). (Printed by gen.py out of w_rcpt3.py.)
-/
import Derived.Test.YtancdgbclbkpkaaRcpt2
namespace Go.Proofs.Ytancdgbclbkpkaa
open Go
set_option maxRecDepth 20000
set_option linter.unusedVariables false
set_option linter.unusedSimpArgs false
theorem w_node (a b : List UInt8) (h : a.length + b.length ≤ 140737488354000) : Pur Try.prog 50 [.r (.str a), .r (.str b)] (.r (.str (sumL 1 [a, b]))) := by
  have c1 := w_rCat [1] (a ++ b) (by simp; omega)
  have c2 := w_rSum ([1] ++ (a ++ b)) (by simp; omega)
  refine spec_of_go (N := 13) Try.func50 rfl (by decide) rfl rfl ?_
  refine zB ?_
  refine pA ?_
  refine zC ?_
  refine ar_qd rfl (qop_buildRo tOk rfl ?_ rfl) rfl rfl rfl rfl ?_
  · repeat any_goals (first | trivial | decide | omega | (simp; done) | (rw [wu8]; omega) | refine ⟨?_, ?_⟩)
  iterate 2 refine pA ?_
  refine ar_pure tOk rfl rfl rfl ?_ ?_
  · show a.length + b.length ≤ _; omega
  refine ar_qd rfl (qop_strBytes tOk rfl) rfl rfl rfl rfl ?_
  refine ar_pur (c1) rfl rfl rfl rfl rfl rfl rfl ?_
  refine ar_pur (c2) rfl rfl rfl rfl rfl rfl rfl ?_
  iterate 2 refine pA ?_
  refine ar_nil ?_
  refine ag_ret tOk Try.func50 rfl rfl (by simp) ?_
  exact eqStr (by simp [sumL])
theorem w_rroot0  : Pur Try.prog 23 [roS []] (.r (.str (rootR []))) := by
  refine spec_of_go (N := 29) Try.func23 rfl (by decide) rfl rfl ?_
  refine zB ?_
  refine pA ?_
  refine zA ?_
  refine zB ?_
  iterate 2 refine pA ?_
  refine ar_nil ?_
  refine ag_block ?_
  refine zB ?_
  iterate 2 refine pA ?_
  refine ar_nil ?_
  refine ag_true rfl (rfl) ?_
  refine zB ?_
  refine ar_qd rfl (qop_buildRo tOk rfl ?_ rfl) rfl rfl rfl rfl ?_
  · repeat any_goals (first | trivial | decide | omega | (simp; done) | (rw [wu8]; omega) | refine ⟨?_, ?_⟩)
  refine ar_pur (w_rSum [2] (by decide)) rfl rfl rfl rfl rfl rfl rfl ?_
  iterate 2 refine pA ?_
  refine ar_nil ?_
  refine ag_ret tOk Try.func23 rfl rfl (by simp) ?_
  rw [rootR_0]; rfl
theorem w_rroot1 (x : List UInt8) : Pur Try.prog 23 [roS [x]] (.r (.str (rootR [x]))) := by
  refine spec_of_go (N := 29) Try.func23 rfl (by decide) rfl rfl ?_
  refine zB ?_
  refine pA ?_
  refine zA ?_
  refine zB ?_
  iterate 2 refine pA ?_
  refine ar_nil ?_
  refine ag_block ?_
  refine zB ?_
  iterate 2 refine pA ?_
  refine ar_nil ?_
  refine ag_false rfl (rfl) ?_
  refine zB ?_
  iterate 2 refine pA ?_
  refine ar_nil ?_
  refine ag_true rfl (rfl) ?_
  refine zB ?_
  refine pA ?_
  refine ar_pure tOk rfl rfl rfl ?_ ?_
  · refine ⟨?_, ?_⟩ <;> first | (simp [sL]; done) | (refine ⟨?_, ?_⟩ <;> simp)
  refine ar_loadAs tOk (.r (.str x)) rfl rfl rfl rfl rfl rfl rfl (.inl ⟨rfl, by simp [Body.cells, mulz_eq, sL]⟩) ?_
  refine pA ?_
  refine ar_nil ?_
  refine ag_ret tOk Try.func23 rfl rfl (by simp) ?_
  rw [rootR_1]; rfl
theorem w_rroot2 (L : List (List UInt8)) (h2 : 2 ≤ L.length) (hL : L.length ≤ 1000000000000) (k : Nat) (hk : k = (L.length + 1) / 2) (A B : List UInt8) (hA : A.length ≤ 32) (hB : B.length ≤ 32) (c1 : Pur Try.prog 23 [AVal.r (.ro (Int.toNat (k : Int)) (List.take (mulz (k : Int) 1) (sL L)))] (.r (.str A))) (c2 : Pur Try.prog 23 [AVal.r (.ro (L.length - (k : Int).toNat) (List.drop (mulz (k : Int) 1) (sL L)))] (.r (.str B))) : Pur Try.prog 23 [roS L] (.r (.str (sumL 1 [A, B]))) := by
  have hsL : (sL L).length = L.length := by simp [sL]
  refine spec_of_go (N := 29) Try.func23 rfl (by decide) rfl rfl ?_
  refine zB ?_
  refine pA ?_
  refine zA ?_
  refine zB ?_
  iterate 2 refine pA ?_
  refine ar_nil ?_
  refine ag_block ?_
  refine zB ?_
  iterate 2 refine pA ?_
  refine ar_nil ?_
  refine ag_false rfl (decide_eq_false (by omega)) ?_
  refine zB ?_
  iterate 2 refine pA ?_
  refine ar_nil ?_
  refine ag_false rfl (decide_eq_false (by omega)) ?_
  refine ag_skip ?_
  refine ag_inBlock ?_
  refine zB ?_
  iterate 2 refine pA ?_
  refine ar_pure tOk rfl rfl rfl ?_ ?_
  · unfold inI64; omega
  refine ar_pure tOk rfl rfl rfl ?_ ?_
  · refine ⟨?_, by decide⟩
    show inI64 (Int.tdiv _ _)
    rw [Int.tdiv_eq_ediv_of_nonneg (by omega)]; unfold inI64; omega
  refine ar_ent (ent_reg 19 (.r (.int .i64 ((k : Int)))) (by show AVal.r (.int _ _) = _; exact eqI (by rw [Int.tdiv_eq_ediv_of_nonneg (by omega)]; exact (show (k : Int) = ((L.length : Int) + 1) / 2 by omega).symm))) ?_
  refine pA ?_
  refine zA ?_
  refine ag_draw0 (by kernel_rfl) (by kernel_rfl) ?_
  iterate 2 refine aq_pure tOk rfl rfl rfl trivial ?_
  refine aq_pure tOk rfl rfl rfl ?_ ?_
  · simp only [boundsOk]; omega
  refine aq_pur (c1) rfl rfl rfl rfl rfl rfl rfl ?_
  iterate 2 refine aq_pure tOk rfl rfl rfl trivial ?_
  refine aq_pure tOk rfl rfl rfl ?_ ?_
  · simp only [boundsOk]; omega
  refine aq_pur (c2) rfl rfl rfl rfl rfl rfl rfl ?_
  refine aq_pur (w_node A B (by omega)) rfl rfl rfl rfl rfl rfl rfl ?_
  refine aq_pure tOk rfl rfl rfl trivial ?_
  refine aq_nil rfl ?_
  refine ag_ret tOk Try.func23 rfl rfl (by simp) ?_
  rfl
theorem w_rroot : ∀ (n : Nat) (L : List (List UInt8)), L.length = n → n ≤ 1000000000000 → (∀ p ∈ L, p.length ≤ 32) → Pur Try.prog 23 [roS L] (.r (.str (rootR L)))
  | n, L, hn, hb, h32 => by
    by_cases h : 2 ≤ L.length
    · have hl := half_lt h
      have t32 : ∀ p ∈ L.take ((L.length + 1) / 2), p.length ≤ 32 := fun p hp => h32 p (List.mem_of_mem_take hp)
      have d32 : ∀ p ∈ L.drop ((L.length + 1) / 2), p.length ≤ 32 := fun p hp => h32 p (List.mem_of_mem_drop hp)
      have i1 := w_rroot ((L.length + 1) / 2) (L.take ((L.length + 1) / 2)) (by rw [List.length_take]; omega) (by omega) t32
      have i2 := w_rroot (L.length - (L.length + 1) / 2) (L.drop ((L.length + 1) / 2)) (by rw [List.length_drop]) (by omega) d32
      rw [← take_roS (by omega)] at i1
      rw [← drop_roS] at i2
      rw [rootR_2 h]
      exact w_rroot2 L h (by omega) _ rfl _ _ (rootR_le t32) (rootR_le d32) i1 i2
    · match L, h with
      | [], _ => exact w_rroot0
      | [x], _ => exact w_rroot1 x
      | _ :: _ :: _, h => simp at h
termination_by n => n
decreasing_by all_goals omega
theorem w_path1 (L : List (List UInt8)) (h1 : L.length = 1) (i : Int) : Pur Try.prog 49 [roS L, .r (.int .i64 i)] (.r .nil) := by
  refine spec_of_go (N := 39) Try.func49 rfl (by decide) rfl rfl ?_
  refine zB ?_
  refine pA ?_
  refine zA ?_
  refine zB ?_
  iterate 3 refine pA ?_
  refine ar_nil ?_
  refine ag_true rfl (decide_eq_true (by omega)) ?_
  refine zB ?_
  refine pA ?_
  refine ar_nil ?_
  refine ag_ret tOk Try.func49 rfl rfl (by simp) ?_
  rfl
theorem w_pathAN (L : List (List UInt8)) (h2 : 2 ≤ L.length) (hL : L.length ≤ 1000000000000) (k : Nat) (hk : k = (L.length + 1) / 2) (i : Nat) (hi : i < k) (hiL : i < L.length) (B : List UInt8) (c1 : Pur Try.prog 49 [AVal.r (.ro (Int.toNat (k : Int)) (List.take (mulz (k : Int) 1) (sL L))), .r (.int .i64 (i : Int))] (.r .nil)) (c2 : Pur Try.prog 48 [AVal.r (.ro (L.length - (k : Int).toNat) (List.drop (mulz (k : Int) 1) (sL L)))] (.r (.str B))) : Own Try.prog 49 [roS L, .r (.int .i64 (i : Int))] 1 1 (.plain (sL ([B]))) := by
  have hsL : (sL L).length = L.length := by simp [sL]
  refine spec_of_go (N := 39) Try.func49 rfl (by decide) rfl rfl ?_
  refine zB ?_
  refine pA ?_
  refine zA ?_
  refine zB ?_
  iterate 3 refine pA ?_
  refine ar_nil ?_
  refine ag_false rfl (decide_eq_false (by omega)) ?_
  refine ag_skip ?_
  refine zB ?_
  iterate 2 refine pA ?_
  refine ar_pur (w_half (L.length : Int) ⟨by omega, by omega⟩) rfl rfl rfl rfl rfl rfl rfl ?_
  refine ar_ent (ent_reg 11 (.r (.int .i64 ((k : Int)))) (by show AVal.r (.int _ _) = _; exact eqI ((show (k : Int) = ((L.length : Int) + 1) / 2 by omega).symm))) ?_
  refine pA ?_
  refine zA ?_
  refine zB ?_
  refine ar_pure tOk rfl rfl rfl ?_ ?_
  · first | trivial | (simp only [boundsOk]; omega) | omega | (unfold inI64; omega) | decide
  iterate 2 refine pA ?_
  refine ar_nil ?_
  refine ag_true rfl (decide_eq_true (by omega)) ?_
  refine ag_seq ?_
  apply ag_draw1 [25] (by kernel_rfl) (by kernel_rfl)
  iterate 2 refine aq_pure tOk rfl rfl rfl trivial ?_
  refine aq_pure tOk rfl rfl rfl ?_ ?_
  · first | trivial | (simp only [boundsOk]; omega) | omega | (unfold inI64; omega) | decide
  refine aq_pure tOk rfl rfl rfl ?_ ?_
  · first | trivial | (simp only [boundsOk]; omega) | omega | (unfold inI64; omega) | decide
  refine aq_pur (c1) rfl rfl rfl rfl rfl rfl rfl ?_
  refine aq_pure tOk rfl rfl rfl ?_ ?_
  · first | trivial | (simp only [boundsOk]; omega) | omega | (unfold inI64; omega) | decide
  refine aq_pure tOk rfl rfl rfl trivial ?_
  refine aq_pure tOk rfl rfl rfl ?_ ?_
  · first | trivial | (simp only [boundsOk]; omega) | omega | (unfold inI64; omega) | decide
  refine aq_pur (c2) rfl rfl rfl rfl rfl rfl rfl ?_
  refine aq_qd (fun _ => qop_buildRo tOk rfl ?_ rfl) rfl rfl rfl rfl ?_
  · first | trivial | (simp only [boundsOk]; omega) | omega | (unfold inI64; omega) | decide
  refine aq_app10 tOk rfl rfl rfl rfl rfl ?_ ?_
  · refine ⟨⟨?_, ?_, ?_⟩, ⟨?_, ?_⟩, ⟨?_, ?_⟩, ?_⟩ <;> first | trivial | decide | omega | (simp [sL]; done) | (simp [sL]; omega)
  refine aq_pure tOk rfl rfl rfl trivial ?_
  refine aq_nil rfl ?_
  refine ag_ret tOk Try.func49 rfl rfl (by simp) ?_
  refine ⟨_, rfl, eqPl ?_⟩
  simp [sL, cutA_eq, List.take_of_length_le]
theorem w_pathAO (L : List (List UInt8)) (h2 : 2 ≤ L.length) (hL : L.length ≤ 1000000000000) (k : Nat) (hk : k = (L.length + 1) / 2) (i : Nat) (hi : i < k) (hiL : i < L.length) (Q : List (List UInt8)) (hQ : Q.length ≤ 1000000000000) (B : List UInt8) (c1 : Own Try.prog 49 [AVal.r (.ro (Int.toNat (k : Int)) (List.take (mulz (k : Int) 1) (sL L))), .r (.int .i64 (i : Int))] Q.length 1 (.plain (sL Q))) (c2 : Pur Try.prog 48 [AVal.r (.ro (L.length - (k : Int).toNat) (List.drop (mulz (k : Int) 1) (sL L)))] (.r (.str B))) : Own Try.prog 49 [roS L, .r (.int .i64 (i : Int))] (Q.length + 1) 1 (.plain (sL (Q ++ [B]))) := by
  have hsL : (sL L).length = L.length := by simp [sL]
  refine spec_of_go (N := 39) Try.func49 rfl (by decide) rfl rfl ?_
  refine zB ?_
  refine pA ?_
  refine zA ?_
  refine zB ?_
  iterate 3 refine pA ?_
  refine ar_nil ?_
  refine ag_false rfl (decide_eq_false (by omega)) ?_
  refine ag_skip ?_
  refine zB ?_
  iterate 2 refine pA ?_
  refine ar_pur (w_half (L.length : Int) ⟨by omega, by omega⟩) rfl rfl rfl rfl rfl rfl rfl ?_
  refine ar_ent (ent_reg 11 (.r (.int .i64 ((k : Int)))) (by show AVal.r (.int _ _) = _; exact eqI ((show (k : Int) = ((L.length : Int) + 1) / 2 by omega).symm))) ?_
  refine pA ?_
  refine zA ?_
  refine zB ?_
  refine ar_pure tOk rfl rfl rfl ?_ ?_
  · first | trivial | (simp only [boundsOk]; omega) | omega | (unfold inI64; omega) | decide
  iterate 2 refine pA ?_
  refine ar_nil ?_
  refine ag_true rfl (decide_eq_true (by omega)) ?_
  refine ag_seq ?_
  apply ag_draw2 [19, 25] (by kernel_rfl) (by kernel_rfl)
  iterate 2 refine aq_pure tOk rfl rfl rfl trivial ?_
  refine aq_pure tOk rfl rfl rfl ?_ ?_
  · first | trivial | (simp only [boundsOk]; omega) | omega | (unfold inI64; omega) | decide
  refine aq_pure tOk rfl rfl rfl ?_ ?_
  · first | trivial | (simp only [boundsOk]; omega) | omega | (unfold inI64; omega) | decide
  refine' aq_own20 (c1) rfl rfl rfl rfl rfl rfl rfl rfl rfl ?_
  rotate_left 1
  refine aq_pure tOk rfl rfl rfl ?_ ?_
  · first | trivial | (simp only [boundsOk]; omega) | omega | (unfold inI64; omega) | decide
  refine aq_pure tOk rfl rfl rfl trivial ?_
  refine aq_pure tOk rfl rfl rfl ?_ ?_
  · first | trivial | (simp only [boundsOk]; omega) | omega | (unfold inI64; omega) | decide
  refine aq_pur (c2) rfl rfl rfl rfl rfl rfl rfl ?_
  refine aq_qd (fun _ => qop_buildRo tOk rfl ?_ rfl) rfl rfl rfl rfl ?_
  · first | trivial | (simp only [boundsOk]; omega) | omega | (unfold inI64; omega) | decide
  refine aq_app21 tOk rfl rfl rfl rfl rfl ?_ ?_
  · refine ⟨⟨?_, ?_, ?_⟩, ⟨?_, ?_⟩, ⟨?_, ?_⟩, ?_⟩ <;> first | trivial | decide | omega | (simp [sL]; done) | (simp [sL]; omega)
  refine aq_pure tOk rfl rfl rfl trivial ?_
  refine aq_nil rfl ?_
  refine ag_ret tOk Try.func49 rfl rfl (by simp) ?_
  refine ⟨_, rfl, eqPl ?_⟩
  simp [sL, cutA_eq, List.take_of_length_le]
theorem w_pathBN (L : List (List UInt8)) (h2 : 2 ≤ L.length) (hL : L.length ≤ 1000000000000) (k : Nat) (hk : k = (L.length + 1) / 2) (i : Nat) (hi : ¬ i < k) (hiL : i < L.length) (B : List UInt8) (c1 : Pur Try.prog 49 [AVal.r (.ro (L.length - (k : Int).toNat) (List.drop (mulz (k : Int) 1) (sL L))), .r (.int .i64 ((i : Int) - (k : Int)))] (.r .nil)) (c2 : Pur Try.prog 48 [AVal.r (.ro (Int.toNat (k : Int)) (List.take (mulz (k : Int) 1) (sL L)))] (.r (.str B))) : Own Try.prog 49 [roS L, .r (.int .i64 (i : Int))] 1 1 (.plain (sL ([B]))) := by
  have hsL : (sL L).length = L.length := by simp [sL]
  refine spec_of_go (N := 39) Try.func49 rfl (by decide) rfl rfl ?_
  refine zB ?_
  refine pA ?_
  refine zA ?_
  refine zB ?_
  iterate 3 refine pA ?_
  refine ar_nil ?_
  refine ag_false rfl (decide_eq_false (by omega)) ?_
  refine ag_skip ?_
  refine zB ?_
  iterate 2 refine pA ?_
  refine ar_pur (w_half (L.length : Int) ⟨by omega, by omega⟩) rfl rfl rfl rfl rfl rfl rfl ?_
  refine ar_ent (ent_reg 11 (.r (.int .i64 ((k : Int)))) (by show AVal.r (.int _ _) = _; exact eqI ((show (k : Int) = ((L.length : Int) + 1) / 2 by omega).symm))) ?_
  refine pA ?_
  refine zA ?_
  refine zB ?_
  refine ar_pure tOk rfl rfl rfl ?_ ?_
  · first | trivial | (simp only [boundsOk]; omega) | omega | (unfold inI64; omega) | decide
  iterate 2 refine pA ?_
  refine ar_nil ?_
  refine ag_false rfl (decide_eq_false (by omega)) ?_
  refine ag_skip ?_
  refine ag_seq ?_
  apply ag_draw1 [38] (by kernel_rfl) (by kernel_rfl)
  iterate 2 refine aq_pure tOk rfl rfl rfl trivial ?_
  refine aq_pure tOk rfl rfl rfl ?_ ?_
  · first | trivial | (simp only [boundsOk]; omega) | omega | (unfold inI64; omega) | decide
  refine aq_pure tOk rfl rfl rfl ?_ ?_
  · first | trivial | (simp only [boundsOk]; omega) | omega | (unfold inI64; omega) | decide
  refine aq_pure tOk rfl rfl rfl trivial ?_
  refine aq_pure tOk rfl rfl rfl ?_ ?_
  · first | trivial | (simp only [boundsOk]; omega) | omega | (unfold inI64; omega) | decide
  refine aq_pur (c1) rfl rfl rfl rfl rfl rfl rfl ?_
  iterate 2 refine aq_pure tOk rfl rfl rfl trivial ?_
  refine aq_pure tOk rfl rfl rfl ?_ ?_
  · first | trivial | (simp only [boundsOk]; omega) | omega | (unfold inI64; omega) | decide
  refine aq_pur (c2) rfl rfl rfl rfl rfl rfl rfl ?_
  refine aq_qd (fun _ => qop_buildRo tOk rfl ?_ rfl) rfl rfl rfl rfl ?_
  · repeat any_goals (first | trivial | decide | omega | (simp; done) | (rw [wu8]; omega) | refine ⟨?_, ?_⟩)
  refine aq_app10 tOk rfl rfl rfl rfl rfl ?_ ?_
  · refine ⟨⟨?_, ?_, ?_⟩, ⟨?_, ?_⟩, ⟨?_, ?_⟩, ?_⟩ <;> first | trivial | decide | omega | (simp [sL]; done) | (simp [sL]; omega)
  refine aq_pure tOk rfl rfl rfl trivial ?_
  refine aq_nil rfl ?_
  refine ag_ret tOk Try.func49 rfl rfl (by simp) ?_
  refine ⟨_, rfl, eqPl ?_⟩
  simp [sL, cutA_eq, List.take_of_length_le]
theorem w_pathBO (L : List (List UInt8)) (h2 : 2 ≤ L.length) (hL : L.length ≤ 1000000000000) (k : Nat) (hk : k = (L.length + 1) / 2) (i : Nat) (hi : ¬ i < k) (hiL : i < L.length) (Q : List (List UInt8)) (hQ : Q.length ≤ 1000000000000) (B : List UInt8) (c1 : Own Try.prog 49 [AVal.r (.ro (L.length - (k : Int).toNat) (List.drop (mulz (k : Int) 1) (sL L))), .r (.int .i64 ((i : Int) - (k : Int)))] Q.length 1 (.plain (sL Q))) (c2 : Pur Try.prog 48 [AVal.r (.ro (Int.toNat (k : Int)) (List.take (mulz (k : Int) 1) (sL L)))] (.r (.str B))) : Own Try.prog 49 [roS L, .r (.int .i64 (i : Int))] (Q.length + 1) 1 (.plain (sL (Q ++ [B]))) := by
  have hsL : (sL L).length = L.length := by simp [sL]
  refine spec_of_go (N := 39) Try.func49 rfl (by decide) rfl rfl ?_
  refine zB ?_
  refine pA ?_
  refine zA ?_
  refine zB ?_
  iterate 3 refine pA ?_
  refine ar_nil ?_
  refine ag_false rfl (decide_eq_false (by omega)) ?_
  refine ag_skip ?_
  refine zB ?_
  iterate 2 refine pA ?_
  refine ar_pur (w_half (L.length : Int) ⟨by omega, by omega⟩) rfl rfl rfl rfl rfl rfl rfl ?_
  refine ar_ent (ent_reg 11 (.r (.int .i64 ((k : Int)))) (by show AVal.r (.int _ _) = _; exact eqI ((show (k : Int) = ((L.length : Int) + 1) / 2 by omega).symm))) ?_
  refine pA ?_
  refine zA ?_
  refine zB ?_
  refine ar_pure tOk rfl rfl rfl ?_ ?_
  · first | trivial | (simp only [boundsOk]; omega) | omega | (unfold inI64; omega) | decide
  iterate 2 refine pA ?_
  refine ar_nil ?_
  refine ag_false rfl (decide_eq_false (by omega)) ?_
  refine ag_skip ?_
  refine ag_seq ?_
  apply ag_draw2 [32, 38] (by kernel_rfl) (by kernel_rfl)
  iterate 2 refine aq_pure tOk rfl rfl rfl trivial ?_
  refine aq_pure tOk rfl rfl rfl ?_ ?_
  · first | trivial | (simp only [boundsOk]; omega) | omega | (unfold inI64; omega) | decide
  refine aq_pure tOk rfl rfl rfl ?_ ?_
  · first | trivial | (simp only [boundsOk]; omega) | omega | (unfold inI64; omega) | decide
  refine aq_pure tOk rfl rfl rfl trivial ?_
  refine aq_pure tOk rfl rfl rfl ?_ ?_
  · first | trivial | (simp only [boundsOk]; omega) | omega | (unfold inI64; omega) | decide
  refine' aq_own20 (c1) rfl rfl rfl rfl rfl rfl rfl rfl rfl ?_
  rotate_left 1
  iterate 2 refine aq_pure tOk rfl rfl rfl trivial ?_
  refine aq_pure tOk rfl rfl rfl ?_ ?_
  · first | trivial | (simp only [boundsOk]; omega) | omega | (unfold inI64; omega) | decide
  refine aq_pur (c2) rfl rfl rfl rfl rfl rfl rfl ?_
  refine aq_qd (fun _ => qop_buildRo tOk rfl ?_ rfl) rfl rfl rfl rfl ?_
  · repeat any_goals (first | trivial | decide | omega | (simp; done) | (rw [wu8]; omega) | refine ⟨?_, ?_⟩)
  refine aq_app21 tOk rfl rfl rfl rfl rfl ?_ ?_
  · refine ⟨⟨?_, ?_, ?_⟩, ⟨?_, ?_⟩, ⟨?_, ?_⟩, ?_⟩ <;> first | trivial | decide | omega | (simp [sL]; done) | (simp [sL]; omega)
  refine aq_pure tOk rfl rfl rfl trivial ?_
  refine aq_nil rfl ?_
  refine ag_ret tOk Try.func49 rfl rfl (by simp) ?_
  refine ⟨_, rfl, eqPl ?_⟩
  simp [sL, cutA_eq, List.take_of_length_le]
theorem w_rpath1 (L : List (List UInt8)) (h1 : L.length = 1) (i : Int) : Pur Try.prog 25 [roS L, .r (.int .i64 i)] (.r .nil) := by
  refine spec_of_go (N := 40) Try.func25 rfl (by decide) rfl rfl ?_
  refine zB ?_
  refine pA ?_
  refine zA ?_
  refine zB ?_
  iterate 3 refine pA ?_
  refine ar_nil ?_
  refine ag_true rfl (decide_eq_true (by omega)) ?_
  refine zB ?_
  refine pA ?_
  refine ar_nil ?_
  refine ag_ret tOk Try.func25 rfl rfl (by simp) ?_
  rfl
theorem w_rpathAN (L : List (List UInt8)) (h2 : 2 ≤ L.length) (hL : L.length ≤ 1000000000000) (k : Nat) (hk : k = (L.length + 1) / 2) (i : Nat) (hi : i < k) (hiL : i < L.length) (B : List UInt8) (c1 : Pur Try.prog 25 [AVal.r (.ro (Int.toNat (k : Int)) (List.take (mulz (k : Int) 1) (sL L))), .r (.int .i64 (i : Int))] (.r .nil)) (c2 : Pur Try.prog 23 [AVal.r (.ro (L.length - (k : Int).toNat) (List.drop (mulz (k : Int) 1) (sL L)))] (.r (.str B))) : Own Try.prog 25 [roS L, .r (.int .i64 (i : Int))] 1 1 (.plain (sL ([B]))) := by
  have hsL : (sL L).length = L.length := by simp [sL]
  refine spec_of_go (N := 40) Try.func25 rfl (by decide) rfl rfl ?_
  refine zB ?_
  refine pA ?_
  refine zA ?_
  refine zB ?_
  iterate 3 refine pA ?_
  refine ar_nil ?_
  refine ag_false rfl (decide_eq_false (by omega)) ?_
  refine ag_skip ?_
  refine zB ?_
  iterate 2 refine pA ?_
  refine ar_pure tOk rfl rfl rfl ?_ ?_
  · first | trivial | (simp only [boundsOk]; omega) | omega | (unfold inI64; omega) | decide
  refine ar_pure tOk rfl rfl rfl ?_ ?_
  · refine ⟨?_, by decide⟩
    show inI64 (Int.tdiv _ _)
    rw [Int.tdiv_eq_ediv_of_nonneg (by omega)]; unfold inI64; omega
  refine ar_ent (ent_reg 12 (.r (.int .i64 ((k : Int)))) (by show AVal.r (.int _ _) = _; exact eqI (by rw [Int.tdiv_eq_ediv_of_nonneg (by omega)]; exact (show (k : Int) = ((L.length : Int) + 1) / 2 by omega).symm))) ?_
  refine pA ?_
  refine zA ?_
  refine zB ?_
  iterate 3 refine pA ?_
  refine ar_nil ?_
  refine ag_true rfl (decide_eq_true (by omega)) ?_
  refine ag_seq ?_
  apply ag_draw1 [26] (by kernel_rfl) (by kernel_rfl)
  refine aq_pure tOk rfl rfl rfl trivial ?_
  refine aq_pure tOk rfl rfl rfl ?_ ?_
  · first | trivial | (simp only [boundsOk]; omega) | omega | (unfold inI64; omega) | decide
  refine aq_pure tOk rfl rfl rfl ?_ ?_
  · first | trivial | (simp only [boundsOk]; omega) | omega | (unfold inI64; omega) | decide
  refine aq_pure tOk rfl rfl rfl trivial ?_
  refine aq_pur (c1) rfl rfl rfl rfl rfl rfl rfl ?_
  refine aq_pure tOk rfl rfl rfl trivial ?_
  refine aq_pure tOk rfl rfl rfl ?_ ?_
  · first | trivial | (simp only [boundsOk]; omega) | omega | (unfold inI64; omega) | decide
  refine aq_pure tOk rfl rfl rfl ?_ ?_
  · first | trivial | (simp only [boundsOk]; omega) | omega | (unfold inI64; omega) | decide
  refine aq_pur (c2) rfl rfl rfl rfl rfl rfl rfl ?_
  refine aq_qd (fun _ => qop_buildRo tOk rfl ?_ rfl) rfl rfl rfl rfl ?_
  · repeat any_goals (first | trivial | decide | omega | (simp; done) | (rw [wu8]; omega) | refine ⟨?_, ?_⟩)
  refine aq_app10 tOk rfl rfl rfl rfl rfl ?_ ?_
  · refine ⟨⟨?_, ?_, ?_⟩, ⟨?_, ?_⟩, ⟨?_, ?_⟩, ?_⟩ <;> first | trivial | decide | omega | (simp [sL]; done) | (simp [sL]; omega)
  refine aq_pure tOk rfl rfl rfl trivial ?_
  refine aq_nil rfl ?_
  refine ag_ret tOk Try.func25 rfl rfl (by simp) ?_
  refine ⟨_, rfl, eqPl ?_⟩
  simp [sL, cutA_eq, List.take_of_length_le]
theorem w_rpathAO (L : List (List UInt8)) (h2 : 2 ≤ L.length) (hL : L.length ≤ 1000000000000) (k : Nat) (hk : k = (L.length + 1) / 2) (i : Nat) (hi : i < k) (hiL : i < L.length) (Q : List (List UInt8)) (hQ : Q.length ≤ 1000000000000) (B : List UInt8) (c1 : Own Try.prog 25 [AVal.r (.ro (Int.toNat (k : Int)) (List.take (mulz (k : Int) 1) (sL L))), .r (.int .i64 (i : Int))] Q.length 1 (.plain (sL Q))) (c2 : Pur Try.prog 23 [AVal.r (.ro (L.length - (k : Int).toNat) (List.drop (mulz (k : Int) 1) (sL L)))] (.r (.str B))) : Own Try.prog 25 [roS L, .r (.int .i64 (i : Int))] (Q.length + 1) 1 (.plain (sL (Q ++ [B]))) := by
  have hsL : (sL L).length = L.length := by simp [sL]
  refine spec_of_go (N := 40) Try.func25 rfl (by decide) rfl rfl ?_
  refine zB ?_
  refine pA ?_
  refine zA ?_
  refine zB ?_
  iterate 3 refine pA ?_
  refine ar_nil ?_
  refine ag_false rfl (decide_eq_false (by omega)) ?_
  refine ag_skip ?_
  refine zB ?_
  iterate 2 refine pA ?_
  refine ar_pure tOk rfl rfl rfl ?_ ?_
  · first | trivial | (simp only [boundsOk]; omega) | omega | (unfold inI64; omega) | decide
  refine ar_pure tOk rfl rfl rfl ?_ ?_
  · refine ⟨?_, by decide⟩
    show inI64 (Int.tdiv _ _)
    rw [Int.tdiv_eq_ediv_of_nonneg (by omega)]; unfold inI64; omega
  refine ar_ent (ent_reg 12 (.r (.int .i64 ((k : Int)))) (by show AVal.r (.int _ _) = _; exact eqI (by rw [Int.tdiv_eq_ediv_of_nonneg (by omega)]; exact (show (k : Int) = ((L.length : Int) + 1) / 2 by omega).symm))) ?_
  refine pA ?_
  refine zA ?_
  refine zB ?_
  iterate 3 refine pA ?_
  refine ar_nil ?_
  refine ag_true rfl (decide_eq_true (by omega)) ?_
  refine ag_seq ?_
  apply ag_draw2 [20, 26] (by kernel_rfl) (by kernel_rfl)
  refine aq_pure tOk rfl rfl rfl trivial ?_
  refine aq_pure tOk rfl rfl rfl ?_ ?_
  · first | trivial | (simp only [boundsOk]; omega) | omega | (unfold inI64; omega) | decide
  refine aq_pure tOk rfl rfl rfl ?_ ?_
  · first | trivial | (simp only [boundsOk]; omega) | omega | (unfold inI64; omega) | decide
  refine aq_pure tOk rfl rfl rfl trivial ?_
  refine' aq_own20 (c1) rfl rfl rfl rfl rfl rfl rfl rfl rfl ?_
  rotate_left 1
  refine aq_pure tOk rfl rfl rfl trivial ?_
  refine aq_pure tOk rfl rfl rfl ?_ ?_
  · first | trivial | (simp only [boundsOk]; omega) | omega | (unfold inI64; omega) | decide
  refine aq_pure tOk rfl rfl rfl ?_ ?_
  · first | trivial | (simp only [boundsOk]; omega) | omega | (unfold inI64; omega) | decide
  refine aq_pur (c2) rfl rfl rfl rfl rfl rfl rfl ?_
  refine aq_qd (fun _ => qop_buildRo tOk rfl ?_ rfl) rfl rfl rfl rfl ?_
  · repeat any_goals (first | trivial | decide | omega | (simp; done) | (rw [wu8]; omega) | refine ⟨?_, ?_⟩)
  refine aq_app21 tOk rfl rfl rfl rfl rfl ?_ ?_
  · refine ⟨⟨?_, ?_, ?_⟩, ⟨?_, ?_⟩, ⟨?_, ?_⟩, ?_⟩ <;> first | trivial | decide | omega | (simp [sL]; done) | (simp [sL]; omega)
  refine aq_pure tOk rfl rfl rfl trivial ?_
  refine aq_nil rfl ?_
  refine ag_ret tOk Try.func25 rfl rfl (by simp) ?_
  refine ⟨_, rfl, eqPl ?_⟩
  simp [sL, cutA_eq, List.take_of_length_le]
theorem w_rpathBN (L : List (List UInt8)) (h2 : 2 ≤ L.length) (hL : L.length ≤ 1000000000000) (k : Nat) (hk : k = (L.length + 1) / 2) (i : Nat) (hi : ¬ i < k) (hiL : i < L.length) (B : List UInt8) (c1 : Pur Try.prog 25 [AVal.r (.ro (L.length - (k : Int).toNat) (List.drop (mulz (k : Int) 1) (sL L))), .r (.int .i64 ((i : Int) - (k : Int)))] (.r .nil)) (c2 : Pur Try.prog 23 [AVal.r (.ro (Int.toNat (k : Int)) (List.take (mulz (k : Int) 1) (sL L)))] (.r (.str B))) : Own Try.prog 25 [roS L, .r (.int .i64 (i : Int))] 1 1 (.plain (sL ([B]))) := by
  have hsL : (sL L).length = L.length := by simp [sL]
  refine spec_of_go (N := 40) Try.func25 rfl (by decide) rfl rfl ?_
  refine zB ?_
  refine pA ?_
  refine zA ?_
  refine zB ?_
  iterate 3 refine pA ?_
  refine ar_nil ?_
  refine ag_false rfl (decide_eq_false (by omega)) ?_
  refine ag_skip ?_
  refine zB ?_
  iterate 2 refine pA ?_
  refine ar_pure tOk rfl rfl rfl ?_ ?_
  · first | trivial | (simp only [boundsOk]; omega) | omega | (unfold inI64; omega) | decide
  refine ar_pure tOk rfl rfl rfl ?_ ?_
  · refine ⟨?_, by decide⟩
    show inI64 (Int.tdiv _ _)
    rw [Int.tdiv_eq_ediv_of_nonneg (by omega)]; unfold inI64; omega
  refine ar_ent (ent_reg 12 (.r (.int .i64 ((k : Int)))) (by show AVal.r (.int _ _) = _; exact eqI (by rw [Int.tdiv_eq_ediv_of_nonneg (by omega)]; exact (show (k : Int) = ((L.length : Int) + 1) / 2 by omega).symm))) ?_
  refine pA ?_
  refine zA ?_
  refine zB ?_
  iterate 3 refine pA ?_
  refine ar_nil ?_
  refine ag_false rfl (decide_eq_false (by omega)) ?_
  refine ag_skip ?_
  refine ag_seq ?_
  apply ag_draw1 [39] (by kernel_rfl) (by kernel_rfl)
  refine aq_pure tOk rfl rfl rfl trivial ?_
  refine aq_pure tOk rfl rfl rfl ?_ ?_
  · first | trivial | (simp only [boundsOk]; omega) | omega | (unfold inI64; omega) | decide
  refine aq_pure tOk rfl rfl rfl ?_ ?_
  · first | trivial | (simp only [boundsOk]; omega) | omega | (unfold inI64; omega) | decide
  refine aq_pure tOk rfl rfl rfl trivial ?_
  refine aq_pure tOk rfl rfl rfl ?_ ?_
  · first | trivial | (simp only [boundsOk]; omega) | omega | (unfold inI64; omega) | decide
  refine aq_pure tOk rfl rfl rfl ?_ ?_
  · first | trivial | (simp only [boundsOk]; omega) | omega | (unfold inI64; omega) | decide
  refine aq_pur (c1) rfl rfl rfl rfl rfl rfl rfl ?_
  refine aq_pure tOk rfl rfl rfl trivial ?_
  refine aq_pure tOk rfl rfl rfl ?_ ?_
  · first | trivial | (simp only [boundsOk]; omega) | omega | (unfold inI64; omega) | decide
  refine aq_pure tOk rfl rfl rfl ?_ ?_
  · first | trivial | (simp only [boundsOk]; omega) | omega | (unfold inI64; omega) | decide
  refine aq_pur (c2) rfl rfl rfl rfl rfl rfl rfl ?_
  refine aq_qd (fun _ => qop_buildRo tOk rfl ?_ rfl) rfl rfl rfl rfl ?_
  · repeat any_goals (first | trivial | decide | omega | (simp; done) | (rw [wu8]; omega) | refine ⟨?_, ?_⟩)
  refine aq_app10 tOk rfl rfl rfl rfl rfl ?_ ?_
  · refine ⟨⟨?_, ?_, ?_⟩, ⟨?_, ?_⟩, ⟨?_, ?_⟩, ?_⟩ <;> first | trivial | decide | omega | (simp [sL]; done) | (simp [sL]; omega)
  refine aq_pure tOk rfl rfl rfl trivial ?_
  refine aq_nil rfl ?_
  refine ag_ret tOk Try.func25 rfl rfl (by simp) ?_
  refine ⟨_, rfl, eqPl ?_⟩
  simp [sL, cutA_eq, List.take_of_length_le]
theorem w_rpathBO (L : List (List UInt8)) (h2 : 2 ≤ L.length) (hL : L.length ≤ 1000000000000) (k : Nat) (hk : k = (L.length + 1) / 2) (i : Nat) (hi : ¬ i < k) (hiL : i < L.length) (Q : List (List UInt8)) (hQ : Q.length ≤ 1000000000000) (B : List UInt8) (c1 : Own Try.prog 25 [AVal.r (.ro (L.length - (k : Int).toNat) (List.drop (mulz (k : Int) 1) (sL L))), .r (.int .i64 ((i : Int) - (k : Int)))] Q.length 1 (.plain (sL Q))) (c2 : Pur Try.prog 23 [AVal.r (.ro (Int.toNat (k : Int)) (List.take (mulz (k : Int) 1) (sL L)))] (.r (.str B))) : Own Try.prog 25 [roS L, .r (.int .i64 (i : Int))] (Q.length + 1) 1 (.plain (sL (Q ++ [B]))) := by
  have hsL : (sL L).length = L.length := by simp [sL]
  refine spec_of_go (N := 40) Try.func25 rfl (by decide) rfl rfl ?_
  refine zB ?_
  refine pA ?_
  refine zA ?_
  refine zB ?_
  iterate 3 refine pA ?_
  refine ar_nil ?_
  refine ag_false rfl (decide_eq_false (by omega)) ?_
  refine ag_skip ?_
  refine zB ?_
  iterate 2 refine pA ?_
  refine ar_pure tOk rfl rfl rfl ?_ ?_
  · first | trivial | (simp only [boundsOk]; omega) | omega | (unfold inI64; omega) | decide
  refine ar_pure tOk rfl rfl rfl ?_ ?_
  · refine ⟨?_, by decide⟩
    show inI64 (Int.tdiv _ _)
    rw [Int.tdiv_eq_ediv_of_nonneg (by omega)]; unfold inI64; omega
  refine ar_ent (ent_reg 12 (.r (.int .i64 ((k : Int)))) (by show AVal.r (.int _ _) = _; exact eqI (by rw [Int.tdiv_eq_ediv_of_nonneg (by omega)]; exact (show (k : Int) = ((L.length : Int) + 1) / 2 by omega).symm))) ?_
  refine pA ?_
  refine zA ?_
  refine zB ?_
  iterate 3 refine pA ?_
  refine ar_nil ?_
  refine ag_false rfl (decide_eq_false (by omega)) ?_
  refine ag_skip ?_
  refine ag_seq ?_
  apply ag_draw2 [33, 39] (by kernel_rfl) (by kernel_rfl)
  refine aq_pure tOk rfl rfl rfl trivial ?_
  refine aq_pure tOk rfl rfl rfl ?_ ?_
  · first | trivial | (simp only [boundsOk]; omega) | omega | (unfold inI64; omega) | decide
  refine aq_pure tOk rfl rfl rfl ?_ ?_
  · first | trivial | (simp only [boundsOk]; omega) | omega | (unfold inI64; omega) | decide
  refine aq_pure tOk rfl rfl rfl trivial ?_
  refine aq_pure tOk rfl rfl rfl ?_ ?_
  · first | trivial | (simp only [boundsOk]; omega) | omega | (unfold inI64; omega) | decide
  refine aq_pure tOk rfl rfl rfl ?_ ?_
  · first | trivial | (simp only [boundsOk]; omega) | omega | (unfold inI64; omega) | decide
  refine' aq_own20 (c1) rfl rfl rfl rfl rfl rfl rfl rfl rfl ?_
  rotate_left 1
  refine aq_pure tOk rfl rfl rfl trivial ?_
  refine aq_pure tOk rfl rfl rfl ?_ ?_
  · first | trivial | (simp only [boundsOk]; omega) | omega | (unfold inI64; omega) | decide
  refine aq_pure tOk rfl rfl rfl ?_ ?_
  · first | trivial | (simp only [boundsOk]; omega) | omega | (unfold inI64; omega) | decide
  refine aq_pur (c2) rfl rfl rfl rfl rfl rfl rfl ?_
  refine aq_qd (fun _ => qop_buildRo tOk rfl ?_ rfl) rfl rfl rfl rfl ?_
  · repeat any_goals (first | trivial | decide | omega | (simp; done) | (rw [wu8]; omega) | refine ⟨?_, ?_⟩)
  refine aq_app21 tOk rfl rfl rfl rfl rfl ?_ ?_
  · refine ⟨⟨?_, ?_, ?_⟩, ⟨?_, ?_⟩, ⟨?_, ?_⟩, ?_⟩ <;> first | trivial | decide | omega | (simp [sL]; done) | (simp [sL]; omega)
  refine aq_pure tOk rfl rfl rfl trivial ?_
  refine aq_nil rfl ?_
  refine ag_ret tOk Try.func25 rfl rfl (by simp) ?_
  refine ⟨_, rfl, eqPl ?_⟩
  simp [sL, cutA_eq, List.take_of_length_le]
end Go.Proofs.Ytancdgbclbkpkaa


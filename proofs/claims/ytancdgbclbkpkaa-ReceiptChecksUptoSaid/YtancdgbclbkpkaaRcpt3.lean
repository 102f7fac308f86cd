/-
  WALKS: receipts (path, Root, Show, and the reference's). (Printed by gen.py out of w_rcpt3.py.)
-/
import Derived.Test.YtancdgbclbkpkaaRcpt2
namespace Go.Proofs.Ytancdgbclbkpkaa
open Go
set_option maxRecDepth 20000
set_option linter.unusedVariables false
set_option linter.unusedSimpArgs false
theorem w_node (a b : List UInt8) (h : a.length + b.length ≤ 140737488354000) : Pur Try.prog 50 [.r (.str a), .r (.str b)] (.r (.str (sumL 1 [a, b]))) := by
  have c1 := w_rCat [1] (a ++ b) (by simp; omega)
  have c2 := w_rSum ([1] ++ (a ++ b)) (by simp; omega)
  refine spec_of_go (N := 13) Try.func50 rfl (by decide) rfl rfl ?_
  refine zB ?_
  refine pA ?_
  refine zC ?_
  refine ar_qd rfl (qop_buildRo tOk rfl ?_ rfl) rfl rfl rfl rfl ?_
  · repeat any_goals (first | trivial | decide | omega | (simp; done) | (rw [wu8]; omega) | refine ⟨?_, ?_⟩)
  iterate 2 refine pA ?_
  refine ar_pure tOk rfl rfl rfl ?_ ?_
  · show a.length + b.length ≤ _; omega
  refine ar_qd rfl (qop_strBytes tOk rfl) rfl rfl rfl rfl ?_
  refine ar_pur (c1) rfl rfl rfl rfl rfl rfl rfl ?_
  refine ar_pur (c2) rfl rfl rfl rfl rfl rfl rfl ?_
  iterate 2 refine pA ?_
  refine ar_nil ?_
  refine ag_ret tOk Try.func50 rfl rfl (by simp) ?_
  exact eqStr (by simp [sumL])
theorem w_path1 (L : List (List UInt8)) (h1 : L.length = 1) (i : Int) : Pur Try.prog 49 [roS L, .r (.int .i64 i)] (.r .nil) := by
  refine spec_of_go (N := 39) Try.func49 rfl (by decide) rfl rfl ?_
  refine zB ?_
  refine pA ?_
  refine zA ?_
  refine zB ?_
  iterate 3 refine pA ?_
  refine ar_nil ?_
  refine ag_true rfl (decide_eq_true (by omega)) ?_
  refine zB ?_
  refine pA ?_
  refine ar_nil ?_
  refine ag_ret tOk Try.func49 rfl rfl (by simp) ?_
  rfl
theorem w_pathAN (L : List (List UInt8)) (h2 : 2 ≤ L.length) (hL : L.length ≤ 1000000000000) (k : Nat) (hk : k = (L.length + 1) / 2) (i : Nat) (hi : i < k) (hiL : i < L.length) (B : List UInt8) (c1 : Pur Try.prog 49 [AVal.r (.ro (Int.toNat (k : Int)) (List.take (mulz (k : Int) 1) (sL L))), .r (.int .i64 (i : Int))] (.r .nil)) (c2 : Pur Try.prog 48 [AVal.r (.ro (L.length - (k : Int).toNat) (List.drop (mulz (k : Int) 1) (sL L)))] (.r (.str B))) : Own Try.prog 49 [roS L, .r (.int .i64 (i : Int))] 1 1 (.plain (sL ([B]))) := by
  have hsL : (sL L).length = L.length := by simp [sL]
  refine spec_of_go (N := 39) Try.func49 rfl (by decide) rfl rfl ?_
  refine zB ?_
  refine pA ?_
  refine zA ?_
  refine zB ?_
  iterate 3 refine pA ?_
  refine ar_nil ?_
  refine ag_false rfl (decide_eq_false (by omega)) ?_
  refine ag_skip ?_
  refine zB ?_
  iterate 2 refine pA ?_
  refine ar_pur (w_half (L.length : Int) ⟨by omega, by omega⟩) rfl rfl rfl rfl rfl rfl rfl ?_
  refine ar_ent (ent_reg 11 (.r (.int .i64 ((k : Int)))) (by show AVal.r (.int _ _) = _; exact eqI ((show (k : Int) = ((L.length : Int) + 1) / 2 by omega).symm))) ?_
  refine pA ?_
  refine zA ?_
  refine zB ?_
  refine ar_pure tOk rfl rfl rfl ?_ ?_
  · first | trivial | (simp only [boundsOk]; omega) | omega | (unfold inI64; omega) | decide
  iterate 2 refine pA ?_
  refine ar_nil ?_
  refine ag_true rfl (decide_eq_true (by omega)) ?_
  refine ag_seq ?_
  apply ag_draw1 [25] (by kernel_rfl) (by kernel_rfl)
  iterate 2 refine aq_pure tOk rfl rfl rfl trivial ?_
  refine aq_pure tOk rfl rfl rfl ?_ ?_
  · first | trivial | (simp only [boundsOk]; omega) | omega | (unfold inI64; omega) | decide
  refine aq_pure tOk rfl rfl rfl ?_ ?_
  · first | trivial | (simp only [boundsOk]; omega) | omega | (unfold inI64; omega) | decide
  refine aq_pur (c1) rfl rfl rfl rfl rfl rfl rfl ?_
  refine aq_pure tOk rfl rfl rfl ?_ ?_
  · first | trivial | (simp only [boundsOk]; omega) | omega | (unfold inI64; omega) | decide
  refine aq_pure tOk rfl rfl rfl trivial ?_
  refine aq_pure tOk rfl rfl rfl ?_ ?_
  · first | trivial | (simp only [boundsOk]; omega) | omega | (unfold inI64; omega) | decide
  refine aq_pur (c2) rfl rfl rfl rfl rfl rfl rfl ?_
  refine aq_qd (fun _ => qop_buildRo tOk rfl ?_ rfl) rfl rfl rfl rfl ?_
  · first | trivial | (simp only [boundsOk]; omega) | omega | (unfold inI64; omega) | decide
  refine aq_app10 tOk rfl rfl rfl rfl rfl ?_ ?_
  · refine ⟨⟨?_, ?_, ?_⟩, ⟨?_, ?_⟩, ⟨?_, ?_⟩, ?_⟩ <;> first | trivial | decide | omega | (simp [sL]; done) | (simp [sL]; omega)
  refine aq_pure tOk rfl rfl rfl trivial ?_
  refine aq_nil rfl ?_
  refine ag_ret tOk Try.func49 rfl rfl (by simp) ?_
  refine ⟨_, rfl, eqPl ?_⟩
  simp [sL, cutA_eq, List.take_of_length_le]
theorem w_pathAO (L : List (List UInt8)) (h2 : 2 ≤ L.length) (hL : L.length ≤ 1000000000000) (k : Nat) (hk : k = (L.length + 1) / 2) (i : Nat) (hi : i < k) (hiL : i < L.length) (Q : List (List UInt8)) (hQ : Q.length ≤ 1000000000000) (B : List UInt8) (c1 : Own Try.prog 49 [AVal.r (.ro (Int.toNat (k : Int)) (List.take (mulz (k : Int) 1) (sL L))), .r (.int .i64 (i : Int))] Q.length 1 (.plain (sL Q))) (c2 : Pur Try.prog 48 [AVal.r (.ro (L.length - (k : Int).toNat) (List.drop (mulz (k : Int) 1) (sL L)))] (.r (.str B))) : Own Try.prog 49 [roS L, .r (.int .i64 (i : Int))] (Q.length + 1) 1 (.plain (sL (Q ++ [B]))) := by
  have hsL : (sL L).length = L.length := by simp [sL]
  refine spec_of_go (N := 39) Try.func49 rfl (by decide) rfl rfl ?_
  refine zB ?_
  refine pA ?_
  refine zA ?_
  refine zB ?_
  iterate 3 refine pA ?_
  refine ar_nil ?_
  refine ag_false rfl (decide_eq_false (by omega)) ?_
  refine ag_skip ?_
  refine zB ?_
  iterate 2 refine pA ?_
  refine ar_pur (w_half (L.length : Int) ⟨by omega, by omega⟩) rfl rfl rfl rfl rfl rfl rfl ?_
  refine ar_ent (ent_reg 11 (.r (.int .i64 ((k : Int)))) (by show AVal.r (.int _ _) = _; exact eqI ((show (k : Int) = ((L.length : Int) + 1) / 2 by omega).symm))) ?_
  refine pA ?_
  refine zA ?_
  refine zB ?_
  refine ar_pure tOk rfl rfl rfl ?_ ?_
  · first | trivial | (simp only [boundsOk]; omega) | omega | (unfold inI64; omega) | decide
  iterate 2 refine pA ?_
  refine ar_nil ?_
  refine ag_true rfl (decide_eq_true (by omega)) ?_
  refine ag_seq ?_
  apply ag_draw2 [19, 25] (by kernel_rfl) (by kernel_rfl)
  iterate 2 refine aq_pure tOk rfl rfl rfl trivial ?_
  refine aq_pure tOk rfl rfl rfl ?_ ?_
  · first | trivial | (simp only [boundsOk]; omega) | omega | (unfold inI64; omega) | decide
  refine aq_pure tOk rfl rfl rfl ?_ ?_
  · first | trivial | (simp only [boundsOk]; omega) | omega | (unfold inI64; omega) | decide
  refine' aq_own20 (c1) rfl rfl rfl rfl rfl rfl rfl rfl rfl ?_
  rotate_left 1
  refine aq_pure tOk rfl rfl rfl ?_ ?_
  · first | trivial | (simp only [boundsOk]; omega) | omega | (unfold inI64; omega) | decide
  refine aq_pure tOk rfl rfl rfl trivial ?_
  refine aq_pure tOk rfl rfl rfl ?_ ?_
  · first | trivial | (simp only [boundsOk]; omega) | omega | (unfold inI64; omega) | decide
  refine aq_pur (c2) rfl rfl rfl rfl rfl rfl rfl ?_
  refine aq_qd (fun _ => qop_buildRo tOk rfl ?_ rfl) rfl rfl rfl rfl ?_
  · first | trivial | (simp only [boundsOk]; omega) | omega | (unfold inI64; omega) | decide
  refine aq_app21 tOk rfl rfl rfl rfl rfl ?_ ?_
  · refine ⟨⟨?_, ?_, ?_⟩, ⟨?_, ?_⟩, ⟨?_, ?_⟩, ?_⟩ <;> first | trivial | decide | omega | (simp [sL]; done) | (simp [sL]; omega)
  refine aq_pure tOk rfl rfl rfl trivial ?_
  refine aq_nil rfl ?_
  refine ag_ret tOk Try.func49 rfl rfl (by simp) ?_
  refine ⟨_, rfl, eqPl ?_⟩
  simp [sL, cutA_eq, List.take_of_length_le]
theorem w_pathBN (L : List (List UInt8)) (h2 : 2 ≤ L.length) (hL : L.length ≤ 1000000000000) (k : Nat) (hk : k = (L.length + 1) / 2) (i : Nat) (hi : ¬ i < k) (hiL : i < L.length) (B : List UInt8) (c1 : Pur Try.prog 49 [AVal.r (.ro (L.length - (k : Int).toNat) (List.drop (mulz (k : Int) 1) (sL L))), .r (.int .i64 ((i : Int) - (k : Int)))] (.r .nil)) (c2 : Pur Try.prog 48 [AVal.r (.ro (Int.toNat (k : Int)) (List.take (mulz (k : Int) 1) (sL L)))] (.r (.str B))) : Own Try.prog 49 [roS L, .r (.int .i64 (i : Int))] 1 1 (.plain (sL ([B]))) := by
  have hsL : (sL L).length = L.length := by simp [sL]
  refine spec_of_go (N := 39) Try.func49 rfl (by decide) rfl rfl ?_
  refine zB ?_
  refine pA ?_
  refine zA ?_
  refine zB ?_
  iterate 3 refine pA ?_
  refine ar_nil ?_
  refine ag_false rfl (decide_eq_false (by omega)) ?_
  refine ag_skip ?_
  refine zB ?_
  iterate 2 refine pA ?_
  refine ar_pur (w_half (L.length : Int) ⟨by omega, by omega⟩) rfl rfl rfl rfl rfl rfl rfl ?_
  refine ar_ent (ent_reg 11 (.r (.int .i64 ((k : Int)))) (by show AVal.r (.int _ _) = _; exact eqI ((show (k : Int) = ((L.length : Int) + 1) / 2 by omega).symm))) ?_
  refine pA ?_
  refine zA ?_
  refine zB ?_
  refine ar_pure tOk rfl rfl rfl ?_ ?_
  · first | trivial | (simp only [boundsOk]; omega) | omega | (unfold inI64; omega) | decide
  iterate 2 refine pA ?_
  refine ar_nil ?_
  refine ag_false rfl (decide_eq_false (by omega)) ?_
  refine ag_skip ?_
  refine ag_seq ?_
  apply ag_draw1 [38] (by kernel_rfl) (by kernel_rfl)
  iterate 2 refine aq_pure tOk rfl rfl rfl trivial ?_
  refine aq_pure tOk rfl rfl rfl ?_ ?_
  · first | trivial | (simp only [boundsOk]; omega) | omega | (unfold inI64; omega) | decide
  refine aq_pure tOk rfl rfl rfl ?_ ?_
  · first | trivial | (simp only [boundsOk]; omega) | omega | (unfold inI64; omega) | decide
  refine aq_pure tOk rfl rfl rfl trivial ?_
  refine aq_pure tOk rfl rfl rfl ?_ ?_
  · first | trivial | (simp only [boundsOk]; omega) | omega | (unfold inI64; omega) | decide
  refine aq_pur (c1) rfl rfl rfl rfl rfl rfl rfl ?_
  iterate 2 refine aq_pure tOk rfl rfl rfl trivial ?_
  refine aq_pure tOk rfl rfl rfl ?_ ?_
  · first | trivial | (simp only [boundsOk]; omega) | omega | (unfold inI64; omega) | decide
  refine aq_pur (c2) rfl rfl rfl rfl rfl rfl rfl ?_
  refine aq_qd (fun _ => qop_buildRo tOk rfl ?_ rfl) rfl rfl rfl rfl ?_
  · repeat any_goals (first | trivial | decide | omega | (simp; done) | (rw [wu8]; omega) | refine ⟨?_, ?_⟩)
  refine aq_app10 tOk rfl rfl rfl rfl rfl ?_ ?_
  · refine ⟨⟨?_, ?_, ?_⟩, ⟨?_, ?_⟩, ⟨?_, ?_⟩, ?_⟩ <;> first | trivial | decide | omega | (simp [sL]; done) | (simp [sL]; omega)
  refine aq_pure tOk rfl rfl rfl trivial ?_
  refine aq_nil rfl ?_
  refine ag_ret tOk Try.func49 rfl rfl (by simp) ?_
  refine ⟨_, rfl, eqPl ?_⟩
  simp [sL, cutA_eq, List.take_of_length_le]
theorem w_pathBO (L : List (List UInt8)) (h2 : 2 ≤ L.length) (hL : L.length ≤ 1000000000000) (k : Nat) (hk : k = (L.length + 1) / 2) (i : Nat) (hi : ¬ i < k) (hiL : i < L.length) (Q : List (List UInt8)) (hQ : Q.length ≤ 1000000000000) (B : List UInt8) (c1 : Own Try.prog 49 [AVal.r (.ro (L.length - (k : Int).toNat) (List.drop (mulz (k : Int) 1) (sL L))), .r (.int .i64 ((i : Int) - (k : Int)))] Q.length 1 (.plain (sL Q))) (c2 : Pur Try.prog 48 [AVal.r (.ro (Int.toNat (k : Int)) (List.take (mulz (k : Int) 1) (sL L)))] (.r (.str B))) : Own Try.prog 49 [roS L, .r (.int .i64 (i : Int))] (Q.length + 1) 1 (.plain (sL (Q ++ [B]))) := by
  have hsL : (sL L).length = L.length := by simp [sL]
  refine spec_of_go (N := 39) Try.func49 rfl (by decide) rfl rfl ?_
  refine zB ?_
  refine pA ?_
  refine zA ?_
  refine zB ?_
  iterate 3 refine pA ?_
  refine ar_nil ?_
  refine ag_false rfl (decide_eq_false (by omega)) ?_
  refine ag_skip ?_
  refine zB ?_
  iterate 2 refine pA ?_
  refine ar_pur (w_half (L.length : Int) ⟨by omega, by omega⟩) rfl rfl rfl rfl rfl rfl rfl ?_
  refine ar_ent (ent_reg 11 (.r (.int .i64 ((k : Int)))) (by show AVal.r (.int _ _) = _; exact eqI ((show (k : Int) = ((L.length : Int) + 1) / 2 by omega).symm))) ?_
  refine pA ?_
  refine zA ?_
  refine zB ?_
  refine ar_pure tOk rfl rfl rfl ?_ ?_
  · first | trivial | (simp only [boundsOk]; omega) | omega | (unfold inI64; omega) | decide
  iterate 2 refine pA ?_
  refine ar_nil ?_
  refine ag_false rfl (decide_eq_false (by omega)) ?_
  refine ag_skip ?_
  refine ag_seq ?_
  apply ag_draw2 [32, 38] (by kernel_rfl) (by kernel_rfl)
  iterate 2 refine aq_pure tOk rfl rfl rfl trivial ?_
  refine aq_pure tOk rfl rfl rfl ?_ ?_
  · first | trivial | (simp only [boundsOk]; omega) | omega | (unfold inI64; omega) | decide
  refine aq_pure tOk rfl rfl rfl ?_ ?_
  · first | trivial | (simp only [boundsOk]; omega) | omega | (unfold inI64; omega) | decide
  refine aq_pure tOk rfl rfl rfl trivial ?_
  refine aq_pure tOk rfl rfl rfl ?_ ?_
  · first | trivial | (simp only [boundsOk]; omega) | omega | (unfold inI64; omega) | decide
  refine' aq_own20 (c1) rfl rfl rfl rfl rfl rfl rfl rfl rfl ?_
  rotate_left 1
  iterate 2 refine aq_pure tOk rfl rfl rfl trivial ?_
  refine aq_pure tOk rfl rfl rfl ?_ ?_
  · first | trivial | (simp only [boundsOk]; omega) | omega | (unfold inI64; omega) | decide
  refine aq_pur (c2) rfl rfl rfl rfl rfl rfl rfl ?_
  refine aq_qd (fun _ => qop_buildRo tOk rfl ?_ rfl) rfl rfl rfl rfl ?_
  · repeat any_goals (first | trivial | decide | omega | (simp; done) | (rw [wu8]; omega) | refine ⟨?_, ?_⟩)
  refine aq_app21 tOk rfl rfl rfl rfl rfl ?_ ?_
  · refine ⟨⟨?_, ?_, ?_⟩, ⟨?_, ?_⟩, ⟨?_, ?_⟩, ?_⟩ <;> first | trivial | decide | omega | (simp [sL]; done) | (simp [sL]; omega)
  refine aq_pure tOk rfl rfl rfl trivial ?_
  refine aq_nil rfl ?_
  refine ag_ret tOk Try.func49 rfl rfl (by simp) ?_
  refine ⟨_, rfl, eqPl ?_⟩
  simp [sL, cutA_eq, List.take_of_length_le]
end Go.Proofs.Ytancdgbclbkpkaa


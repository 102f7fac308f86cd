/-
  WALKS: receipts (climb, Check, and the law's). (Printed by gen.py out of w_rcpt6.py.)
-/
import Derived.Test.YtancdgbclbkpkaaRcpt5
namespace Go.Proofs.Ytancdgbclbkpkaa
open Go
set_option maxRecDepth 20000
set_option linter.unusedVariables false
set_option linter.unusedSimpArgs false
/-- Where a leaf leads, along a path told from its end. -/
def clR (s : List UInt8) : List (List UInt8) → Nat → Nat → List UInt8 × Bool
  | [], n, _ => if n = 1 then (s, true) else ([], false)
  | q :: r, n, i => if n = 1 then (s, false) else if i < (n + 1) / 2 then (sumL 1 [(clR s r ((n + 1) / 2) i).1, q], (clR s r ((n + 1) / 2) i).2) else (sumL 1 [q, (clR s r (n - (n + 1) / 2) (i - (n + 1) / 2)).1], (clR s r (n - (n + 1) / 2) (i - (n + 1) / 2)).2)
theorem clR_le {s : List UInt8} (hs : s.length ≤ 32) : ∀ (R : List (List UInt8)) (n i : Nat), (clR s R n i).1.length ≤ 32
  | [], n, i => by unfold clR; split; exact hs; simp
  | q :: r, n, i => by
    unfold clR
    split
    · exact hs
    · split <;> (simp only; rw [sumL_length]; exact Nat.le_refl _)
theorem w_climb1 (s : List UInt8) (P : List (List UInt8)) (i : Int) : Pur Try.prog 51 [.r (.str s), .r (.int .i64 1), .r (.int .i64 i), roS P] (.tuple [.r (.str s), .r (.bool (decide (P.length = 0)))]) := by
  refine spec_of_go (N := 74) Try.func51 rfl (by decide) rfl rfl ?_
  refine zB ?_
  iterate 2 refine pA ?_
  refine zA ?_
  refine zB ?_
  iterate 2 refine pA ?_
  refine ar_nil ?_
  refine ag_true rfl (by decide) ?_
  refine zB ?_
  iterate 4 refine pA ?_
  refine ar_ent (ent_reg 21 (.r (.bool (decide (P.length = 0)))) (by show AVal.r (.bool _) = _; exact eqB (by simp))) ?_
  iterate 2 refine pA ?_
  refine ar_nil ?_
  refine ag_ret tOk Try.func51 rfl rfl (by first | trivial | exact ⟨trivial, trivial⟩ | simp) ?_
  rfl
theorem w_climbE (s : List UInt8) (n : Nat) (hn : 2 ≤ n) (i : Int) : Pur Try.prog 51 [.r (.str s), .r (.int .i64 (n : Int)), .r (.int .i64 i), roS []] (.tuple [.r (.str []), .r (.bool false)]) := by
  refine spec_of_go (N := 74) Try.func51 rfl (by decide) rfl rfl ?_
  refine zB ?_
  iterate 2 refine pA ?_
  refine zA ?_
  refine zB ?_
  iterate 2 refine pA ?_
  refine ar_nil ?_
  refine ag_false rfl (decide_eq_false (by omega)) ?_
  refine ag_skip ?_
  refine ag_seq ?_
  refine zB ?_
  iterate 3 refine pA ?_
  refine ar_nil ?_
  refine ag_true rfl (by decide) ?_
  refine zB ?_
  iterate 2 refine pA ?_
  refine ar_nil ?_
  refine ag_ret tOk Try.func51 rfl rfl (by first | trivial | exact ⟨trivial, trivial⟩ | simp) ?_
  rfl
theorem w_climbA (s : List UInt8) (n i k : Nat) (hn : 2 ≤ n) (hn2 : n ≤ 1099511627776) (hin : i < n) (hk : k = (n + 1) / 2) (hi : i < k) (P : List (List UInt8)) (q x : List UInt8) (b : Bool) (hP : P.length ≤ 1000000000) (hq : q.length ≤ 140737488350000) (hx : x.length ≤ 32) (c : Pur Try.prog 51 [.r (.str s), .r (.int .i64 (k : Int)), .r (.int .i64 (i : Int)), .r (.ro ((P.length : Int).toNat) (List.take (mulz (P.length : Int) 1) (sL (P ++ [q]))))] (.tuple [.r (.str x), .r (.bool b)])) : Pur Try.prog 51 [.r (.str s), .r (.int .i64 (n : Int)), .r (.int .i64 (i : Int)), roS (P ++ [q])] (.tuple [.r (.str (sumL 1 [x, q])), .r (.bool b)]) := by
  have hl : (P ++ [q]).length = P.length + 1 := by simp
  have hsl : (sL (P ++ [q])).length = P.length + 1 := by simp [sL]
  have hp : (P ++ [q])[P.length]? = some q := by simp
  have cS : Pur Try.prog 46 [.r (.int .u8 1), .r (.ro 2 [.str x, .str q])] (.r (.str (sumL 1 [x, q]))) := w_sum1 [x, q] (by simp) (by simp; omega)
  refine spec_of_go (N := 74) Try.func51 rfl (by decide) rfl rfl ?_
  refine zB ?_
  iterate 2 refine pA ?_
  refine zA ?_
  refine zB ?_
  iterate 2 refine pA ?_
  refine ar_nil ?_
  refine ag_false rfl (decide_eq_false (by omega)) ?_
  refine ag_skip ?_
  refine ag_seq ?_
  refine zB ?_
  iterate 3 refine pA ?_
  refine ar_nil ?_
  refine ag_false rfl (decide_eq_false (by omega)) ?_
  refine ag_skip ?_
  refine ag_seq ?_
  refine ag_draw0 (by kernel_rfl) (by kernel_rfl) ?_
  refine aq_pure tOk rfl rfl rfl trivial ?_
  refine aq_pure tOk rfl rfl rfl ?_ ?_
  · first | trivial | (simp only [boundsOk]; omega) | omega | (unfold inI64; omega) | decide
  refine aq_pure tOk rfl rfl rfl trivial ?_
  refine aq_pureE tOk (.r (.int .i64 (P.length : Int))) rfl (by show AVal.r (.int _ _) = _; exact eqI (by simp)) rfl rfl (by unfold inI64; omega) ?_
  refine aq_pure tOk rfl rfl rfl ?_ ?_
  · refine ⟨?_, ?_⟩ <;> first | omega | exact ne_mp hp | (refine ⟨?_, ?_⟩ <;> omega)
  refine aq_loadAs tOk (.r (.str q)) rfl rfl rfl rfl (fun _ => rfl) rfl rfl (.inl ⟨rfl, by simp [Body.cells, mulz_eq, sL]⟩) ?_
  refine aq_pure tOk rfl rfl rfl ?_ ?_
  · first | trivial | (simp only [boundsOk]; omega) | omega | (unfold inI64; omega) | decide
  refine aq_pur (w_half (n : Int) ⟨by omega, by omega⟩) rfl rfl rfl rfl rfl rfl rfl ?_
  iterate 2 refine aq_pure tOk rfl rfl rfl trivial ?_
  refine aq_nil rfl ?_
  refine ag_ent (ent_reg 11 (.r (.int .i64 (k : Int))) (by show AVal.r (.int _ _) = _; exact eqI ((show (k : Int) = ((n : Int) + 1) / 2 by omega).symm))) ?_
  refine ag_seq ?_
  refine zB ?_
  iterate 3 refine pA ?_
  refine ar_nil ?_
  refine ag_true rfl (decide_eq_true (by omega)) ?_
  refine zB ?_
  iterate 6 refine pA ?_
  refine ar_pure tOk rfl rfl rfl ?_ ?_
  · first | trivial | (simp only [boundsOk]; omega) | omega | (unfold inI64; omega) | decide
  refine ar_ent (ent_reg 43 (.r (.int .i64 ((P.length : Int)))) (by show AVal.r (.int _ _) = _; exact eqI (by simp))) ?_
  refine ar_pure tOk rfl rfl rfl ?_ ?_
  · first | trivial | (simp only [boundsOk]; omega) | omega | (unfold inI64; omega) | decide
  refine ar_pur (c) rfl rfl rfl rfl rfl rfl rfl ?_
  iterate 5 refine pA ?_
  refine zC ?_
  iterate 2 refine pA ?_
  refine ar_qd rfl (qop_buildRo tOk rfl ?_ rfl) rfl rfl rfl rfl ?_
  · repeat any_goals (first | trivial | decide | omega | (simp; done) | (rw [wu8]; omega) | refine ⟨?_, ?_⟩)
  refine ar_pur (cS) rfl rfl rfl rfl rfl rfl rfl ?_
  iterate 3 refine pA ?_
  refine ar_nil ?_
  refine ag_ret tOk Try.func51 rfl rfl (by first | trivial | exact ⟨trivial, trivial⟩ | simp) ?_
  rfl
theorem w_climbB (s : List UInt8) (n i k : Nat) (hn : 2 ≤ n) (hn2 : n ≤ 1099511627776) (hin : i < n) (hk : k = (n + 1) / 2) (hi : ¬ i < k) (P : List (List UInt8)) (q x : List UInt8) (b : Bool) (hP : P.length ≤ 1000000000) (hq : q.length ≤ 140737488350000) (hx : x.length ≤ 32) (c : Pur Try.prog 51 [.r (.str s), .r (.int .i64 ((n : Int) - (k : Int))), .r (.int .i64 ((i : Int) - (k : Int))), .r (.ro ((P.length : Int).toNat) (List.take (mulz (P.length : Int) 1) (sL (P ++ [q]))))] (.tuple [.r (.str x), .r (.bool b)])) : Pur Try.prog 51 [.r (.str s), .r (.int .i64 (n : Int)), .r (.int .i64 (i : Int)), roS (P ++ [q])] (.tuple [.r (.str (sumL 1 [q, x])), .r (.bool b)]) := by
  have hl : (P ++ [q]).length = P.length + 1 := by simp
  have hsl : (sL (P ++ [q])).length = P.length + 1 := by simp [sL]
  have hp : (P ++ [q])[P.length]? = some q := by simp
  have cS : Pur Try.prog 46 [.r (.int .u8 1), .r (.ro 2 [.str q, .str x])] (.r (.str (sumL 1 [q, x]))) := w_sum1 [q, x] (by simp) (by simp; omega)
  refine spec_of_go (N := 74) Try.func51 rfl (by decide) rfl rfl ?_
  refine zB ?_
  iterate 2 refine pA ?_
  refine zA ?_
  refine zB ?_
  iterate 2 refine pA ?_
  refine ar_nil ?_
  refine ag_false rfl (decide_eq_false (by omega)) ?_
  refine ag_skip ?_
  refine ag_seq ?_
  refine zB ?_
  iterate 3 refine pA ?_
  refine ar_nil ?_
  refine ag_false rfl (decide_eq_false (by omega)) ?_
  refine ag_skip ?_
  refine ag_seq ?_
  refine ag_draw0 (by kernel_rfl) (by kernel_rfl) ?_
  refine aq_pure tOk rfl rfl rfl trivial ?_
  refine aq_pure tOk rfl rfl rfl ?_ ?_
  · first | trivial | (simp only [boundsOk]; omega) | omega | (unfold inI64; omega) | decide
  refine aq_pure tOk rfl rfl rfl trivial ?_
  refine aq_pureE tOk (.r (.int .i64 (P.length : Int))) rfl (by show AVal.r (.int _ _) = _; exact eqI (by simp)) rfl rfl (by unfold inI64; omega) ?_
  refine aq_pure tOk rfl rfl rfl ?_ ?_
  · refine ⟨?_, ?_⟩ <;> first | omega | exact ne_mp hp | (refine ⟨?_, ?_⟩ <;> omega)
  refine aq_loadAs tOk (.r (.str q)) rfl rfl rfl rfl (fun _ => rfl) rfl rfl (.inl ⟨rfl, by simp [Body.cells, mulz_eq, sL]⟩) ?_
  refine aq_pure tOk rfl rfl rfl ?_ ?_
  · first | trivial | (simp only [boundsOk]; omega) | omega | (unfold inI64; omega) | decide
  refine aq_pur (w_half (n : Int) ⟨by omega, by omega⟩) rfl rfl rfl rfl rfl rfl rfl ?_
  iterate 2 refine aq_pure tOk rfl rfl rfl trivial ?_
  refine aq_nil rfl ?_
  refine ag_ent (ent_reg 11 (.r (.int .i64 (k : Int))) (by show AVal.r (.int _ _) = _; exact eqI ((show (k : Int) = ((n : Int) + 1) / 2 by omega).symm))) ?_
  refine ag_seq ?_
  refine zB ?_
  iterate 3 refine pA ?_
  refine ar_nil ?_
  refine ag_false rfl (decide_eq_false (by omega)) ?_
  refine ag_skip ?_
  refine zB ?_
  iterate 3 refine pA ?_
  refine ar_pure tOk rfl rfl rfl ?_ ?_
  · first | trivial | (simp only [boundsOk]; omega) | omega | (unfold inI64; omega) | decide
  iterate 2 refine pA ?_
  refine ar_pure tOk rfl rfl rfl ?_ ?_
  · first | trivial | (simp only [boundsOk]; omega) | omega | (unfold inI64; omega) | decide
  iterate 3 refine pA ?_
  refine ar_pure tOk rfl rfl rfl ?_ ?_
  · first | trivial | (simp only [boundsOk]; omega) | omega | (unfold inI64; omega) | decide
  refine ar_ent (ent_reg 64 (.r (.int .i64 ((P.length : Int)))) (by show AVal.r (.int _ _) = _; exact eqI (by simp))) ?_
  refine ar_pure tOk rfl rfl rfl ?_ ?_
  · first | trivial | (simp only [boundsOk]; omega) | omega | (unfold inI64; omega) | decide
  refine ar_pur (c) rfl rfl rfl rfl rfl rfl rfl ?_
  iterate 5 refine pA ?_
  refine zC ?_
  iterate 2 refine pA ?_
  refine ar_qd rfl (qop_buildRo tOk rfl ?_ rfl) rfl rfl rfl rfl ?_
  · repeat any_goals (first | trivial | decide | omega | (simp; done) | (rw [wu8]; omega) | refine ⟨?_, ?_⟩)
  refine ar_pur (cS) rfl rfl rfl rfl rfl rfl rfl ?_
  iterate 3 refine pA ?_
  refine ar_nil ?_
  refine ag_ret tOk Try.func51 rfl rfl (by first | trivial | exact ⟨trivial, trivial⟩ | simp) ?_
  rfl
theorem w_climbR (s : List UInt8) (hs : s.length ≤ 32) : ∀ (R : List (List UInt8)) (n i : Nat), 1 ≤ n → n ≤ 1099511627776 → i < n → R.length ≤ 1000000000 → (∀ p ∈ R, p.length ≤ 140737488350000) → Pur Try.prog 51 [.r (.str s), .r (.int .i64 (n : Int)), .r (.int .i64 (i : Int)), roS R.reverse] (.tuple [.r (.str (clR s R n i).1), .r (.bool (clR s R n i).2)])
  | [], n, i, h1, h2, hi, hR, hq => by
    unfold clR
    by_cases e : n = 1
    · subst e; exact w_climb1 s [] i
    · rw [if_neg e]; exact w_climbE s n (by omega) i
  | q :: r, n, i, h1, h2, hi, hR, hq => by
    unfold clR
    have hr : ∀ p ∈ r, p.length ≤ 140737488350000 := fun p hp => hq p (by simp [hp])
    have hqq := hq q (by simp)
    simp only [List.length_cons] at hR
    by_cases e : n = 1
    · subst e
      have := w_climb1 s (q :: r).reverse i
      rw [decide_eq_false (by simp)] at this
      exact this
    · rw [if_neg e, List.reverse_cons]
      by_cases hk : i < (n + 1) / 2
      · rw [if_pos hk]
        have ih := w_climbR s hs r ((n + 1) / 2) i (by omega) (by omega) hk (by omega) hr
        have e2 : roS r.reverse = .r (.ro ((r.reverse.length : Int).toNat) (List.take (mulz (r.reverse.length : Int) 1) (sL (r.reverse ++ [q])))) := by rw [take_roS (C := r.reverse ++ [q]) (by simp), List.take_left]
        rw [e2] at ih
        exact w_climbA s n i _ (by omega) h2 hi rfl hk r.reverse q _ _ (by rw [List.length_reverse]; omega) hqq (clR_le hs _ _ _) ih
      · rw [if_neg hk]
        have ih := w_climbR s hs r (n - (n + 1) / 2) (i - (n + 1) / 2) (by omega) (by omega) (by omega) (by omega) hr
        have e2 : roS r.reverse = .r (.ro ((r.reverse.length : Int).toNat) (List.take (mulz (r.reverse.length : Int) 1) (sL (r.reverse ++ [q])))) := by rw [take_roS (C := r.reverse ++ [q]) (by simp), List.take_left]
        rw [e2, show ((n - (n + 1) / 2 : Nat) : Int) = (n : Int) - (((n + 1) / 2 : Nat) : Int) by omega, show ((i - (n + 1) / 2 : Nat) : Int) = (i : Int) - (((n + 1) / 2 : Nat) : Int) by omega] at ih
        exact w_climbB s n i _ (by omega) h2 hi rfl hk r.reverse q _ _ (by rw [List.length_reverse]; omega) hqq (clR_le hs _ _ _) ih
theorem w_climbP (s : List UInt8) (hs : s.length ≤ 32) (P : List (List UInt8)) (n i : Nat) (h1 : 1 ≤ n) (h2 : n ≤ 1099511627776) (hi : i < n) (hP : P.length ≤ 1000000000) (hq : ∀ p ∈ P, p.length ≤ 140737488350000) : Pur Try.prog 51 [.r (.str s), .r (.int .i64 (n : Int)), .r (.int .i64 (i : Int)), roS P] (.tuple [.r (.str (clR s P.reverse n i).1), .r (.bool (clR s P.reverse n i).2)]) := by
  have := w_climbR s hs P.reverse n i h1 h2 hi (by rw [List.length_reverse]; exact hP) (fun p hp => hq p (List.mem_reverse.1 hp))
  rw [List.reverse_reverse] at this
  exact this
theorem w_rclimb1 (s : List UInt8) (P : List (List UInt8)) (i : Int) : Pur Try.prog 27 [.r (.str s), .r (.int .i64 1), .r (.int .i64 i), roS P] (.tuple [.r (.str s), .r (.bool (decide (P.length = 0)))]) := by
  refine spec_of_go (N := 73) Try.func27 rfl (by decide) rfl rfl ?_
  refine zB ?_
  iterate 2 refine pA ?_
  refine zA ?_
  refine zB ?_
  iterate 2 refine pA ?_
  refine ar_nil ?_
  refine ag_true rfl (by decide) ?_
  refine zB ?_
  iterate 4 refine pA ?_
  refine ar_ent (ent_reg 21 (.r (.bool (decide (P.length = 0)))) (by show AVal.r (.bool _) = _; exact eqB (by simp))) ?_
  iterate 2 refine pA ?_
  refine ar_nil ?_
  refine ag_ret tOk Try.func27 rfl rfl (by first | trivial | exact ⟨trivial, trivial⟩ | simp) ?_
  rfl
theorem w_rclimbE (s : List UInt8) (n : Nat) (hn : 2 ≤ n) (i : Int) : Pur Try.prog 27 [.r (.str s), .r (.int .i64 (n : Int)), .r (.int .i64 i), roS []] (.tuple [.r (.str []), .r (.bool false)]) := by
  refine spec_of_go (N := 73) Try.func27 rfl (by decide) rfl rfl ?_
  refine zB ?_
  iterate 2 refine pA ?_
  refine zA ?_
  refine zB ?_
  iterate 2 refine pA ?_
  refine ar_nil ?_
  refine ag_false rfl (decide_eq_false (by omega)) ?_
  refine ag_skip ?_
  refine ag_seq ?_
  refine zB ?_
  iterate 3 refine pA ?_
  refine ar_nil ?_
  refine ag_true rfl (by decide) ?_
  refine zB ?_
  iterate 2 refine pA ?_
  refine ar_nil ?_
  refine ag_ret tOk Try.func27 rfl rfl (by first | trivial | exact ⟨trivial, trivial⟩ | simp) ?_
  rfl
theorem w_rclimbA (s : List UInt8) (n i k : Nat) (hn : 2 ≤ n) (hn2 : n ≤ 1099511627776) (hin : i < n) (hk : k = (n + 1) / 2) (hi : i < k) (P : List (List UInt8)) (q x : List UInt8) (b : Bool) (hP : P.length ≤ 1000000000) (hq : q.length ≤ 140737488350000) (hx : x.length ≤ 32) (c : Pur Try.prog 27 [.r (.str s), .r (.int .i64 (k : Int)), .r (.int .i64 (i : Int)), .r (.ro ((P.length : Int).toNat) (List.take (mulz (P.length : Int) 1) (sL (P ++ [q]))))] (.tuple [.r (.str x), .r (.bool b)])) : Pur Try.prog 27 [.r (.str s), .r (.int .i64 (n : Int)), .r (.int .i64 (i : Int)), roS (P ++ [q])] (.tuple [.r (.str (sumL 1 [x, q])), .r (.bool b)]) := by
  have hl : (P ++ [q]).length = P.length + 1 := by simp
  have hsl : (sL (P ++ [q])).length = P.length + 1 := by simp [sL]
  have hp : (P ++ [q])[P.length]? = some q := by simp
  refine spec_of_go (N := 73) Try.func27 rfl (by decide) rfl rfl ?_
  refine zB ?_
  iterate 2 refine pA ?_
  refine zA ?_
  refine zB ?_
  iterate 2 refine pA ?_
  refine ar_nil ?_
  refine ag_false rfl (decide_eq_false (by omega)) ?_
  refine ag_skip ?_
  refine ag_seq ?_
  refine zB ?_
  iterate 3 refine pA ?_
  refine ar_nil ?_
  refine ag_false rfl (decide_eq_false (by omega)) ?_
  refine ag_skip ?_
  refine ag_seq ?_
  refine ag_draw0 (by kernel_rfl) (by kernel_rfl) ?_
  refine aq_pure tOk rfl rfl rfl trivial ?_
  refine aq_pure tOk rfl rfl rfl ?_ ?_
  · first | trivial | (simp only [boundsOk]; omega) | omega | (unfold inI64; omega) | decide
  refine aq_pureE tOk (.r (.int .i64 (k : Int))) rfl (by show AVal.r (.int _ _) = _; exact eqI (by rw [Int.tdiv_eq_ediv_of_nonneg (by omega)]; exact (show (k : Int) = ((n : Int) + 1) / 2 by omega).symm)) rfl rfl (by refine ⟨?_, by decide⟩; show inI64 (Int.tdiv _ _); rw [Int.tdiv_eq_ediv_of_nonneg (by omega)]; unfold inI64; omega) ?_
  refine aq_pure tOk rfl rfl rfl ?_ ?_
  · first | trivial | (simp only [boundsOk]; omega) | omega | (unfold inI64; omega) | decide
  iterate 2 refine aq_pure tOk rfl rfl rfl trivial ?_
  refine aq_pureE tOk (.r (.int .i64 (P.length : Int))) rfl (by show AVal.r (.int _ _) = _; exact eqI (by simp)) rfl rfl (by unfold inI64; omega) ?_
  refine aq_pure tOk rfl rfl rfl ?_ ?_
  · refine ⟨?_, ?_⟩ <;> first | omega | exact ne_mp hp | (refine ⟨?_, ?_⟩ <;> omega)
  refine aq_loadAs tOk (.r (.str q)) rfl rfl rfl rfl (fun _ => rfl) rfl rfl (.inl ⟨rfl, by simp [Body.cells, mulz_eq, sL]⟩) ?_
  iterate 2 refine aq_pure tOk rfl rfl rfl trivial ?_
  refine aq_nil rfl ?_
  refine ag_seq ?_
  refine zB ?_
  iterate 3 refine pA ?_
  refine ar_nil ?_
  refine ag_true rfl (decide_eq_true (by omega)) ?_
  refine zB ?_
  iterate 5 refine pA ?_
  refine ar_pure tOk rfl rfl rfl ?_ ?_
  · first | trivial | (simp only [boundsOk]; omega) | omega | (unfold inI64; omega) | decide
  refine ar_pure tOk rfl rfl rfl ?_ ?_
  · first | trivial | (simp only [boundsOk]; omega) | omega | (unfold inI64; omega) | decide
  refine ar_ent (ent_reg 44 (.r (.int .i64 ((P.length : Int)))) (by show AVal.r (.int _ _) = _; exact eqI (by simp))) ?_
  refine ar_pure tOk rfl rfl rfl ?_ ?_
  · first | trivial | (simp only [boundsOk]; omega) | omega | (unfold inI64; omega) | decide
  refine ar_pur (c) rfl rfl rfl rfl rfl rfl rfl ?_
  iterate 5 refine pA ?_
  refine zC ?_
  iterate 2 refine pA ?_
  refine ar_pur (w_node x q (by omega)) rfl rfl rfl rfl rfl rfl rfl ?_
  iterate 3 refine pA ?_
  refine ar_nil ?_
  refine ag_ret tOk Try.func27 rfl rfl (by first | trivial | exact ⟨trivial, trivial⟩ | simp) ?_
  rfl
theorem w_rclimbB (s : List UInt8) (n i k : Nat) (hn : 2 ≤ n) (hn2 : n ≤ 1099511627776) (hin : i < n) (hk : k = (n + 1) / 2) (hi : ¬ i < k) (P : List (List UInt8)) (q x : List UInt8) (b : Bool) (hP : P.length ≤ 1000000000) (hq : q.length ≤ 140737488350000) (hx : x.length ≤ 32) (c : Pur Try.prog 27 [.r (.str s), .r (.int .i64 ((n : Int) - (k : Int))), .r (.int .i64 ((i : Int) - (k : Int))), .r (.ro ((P.length : Int).toNat) (List.take (mulz (P.length : Int) 1) (sL (P ++ [q]))))] (.tuple [.r (.str x), .r (.bool b)])) : Pur Try.prog 27 [.r (.str s), .r (.int .i64 (n : Int)), .r (.int .i64 (i : Int)), roS (P ++ [q])] (.tuple [.r (.str (sumL 1 [q, x])), .r (.bool b)]) := by
  have hl : (P ++ [q]).length = P.length + 1 := by simp
  have hsl : (sL (P ++ [q])).length = P.length + 1 := by simp [sL]
  have hp : (P ++ [q])[P.length]? = some q := by simp
  refine spec_of_go (N := 73) Try.func27 rfl (by decide) rfl rfl ?_
  refine zB ?_
  iterate 2 refine pA ?_
  refine zA ?_
  refine zB ?_
  iterate 2 refine pA ?_
  refine ar_nil ?_
  refine ag_false rfl (decide_eq_false (by omega)) ?_
  refine ag_skip ?_
  refine ag_seq ?_
  refine zB ?_
  iterate 3 refine pA ?_
  refine ar_nil ?_
  refine ag_false rfl (decide_eq_false (by omega)) ?_
  refine ag_skip ?_
  refine ag_seq ?_
  refine ag_draw0 (by kernel_rfl) (by kernel_rfl) ?_
  refine aq_pure tOk rfl rfl rfl trivial ?_
  refine aq_pure tOk rfl rfl rfl ?_ ?_
  · first | trivial | (simp only [boundsOk]; omega) | omega | (unfold inI64; omega) | decide
  refine aq_pureE tOk (.r (.int .i64 (k : Int))) rfl (by show AVal.r (.int _ _) = _; exact eqI (by rw [Int.tdiv_eq_ediv_of_nonneg (by omega)]; exact (show (k : Int) = ((n : Int) + 1) / 2 by omega).symm)) rfl rfl (by refine ⟨?_, by decide⟩; show inI64 (Int.tdiv _ _); rw [Int.tdiv_eq_ediv_of_nonneg (by omega)]; unfold inI64; omega) ?_
  refine aq_pure tOk rfl rfl rfl ?_ ?_
  · first | trivial | (simp only [boundsOk]; omega) | omega | (unfold inI64; omega) | decide
  iterate 2 refine aq_pure tOk rfl rfl rfl trivial ?_
  refine aq_pureE tOk (.r (.int .i64 (P.length : Int))) rfl (by show AVal.r (.int _ _) = _; exact eqI (by simp)) rfl rfl (by unfold inI64; omega) ?_
  refine aq_pure tOk rfl rfl rfl ?_ ?_
  · refine ⟨?_, ?_⟩ <;> first | omega | exact ne_mp hp | (refine ⟨?_, ?_⟩ <;> omega)
  refine aq_loadAs tOk (.r (.str q)) rfl rfl rfl rfl (fun _ => rfl) rfl rfl (.inl ⟨rfl, by simp [Body.cells, mulz_eq, sL]⟩) ?_
  iterate 2 refine aq_pure tOk rfl rfl rfl trivial ?_
  refine aq_nil rfl ?_
  refine ag_seq ?_
  refine zB ?_
  iterate 3 refine pA ?_
  refine ar_nil ?_
  refine ag_false rfl (decide_eq_false (by omega)) ?_
  refine ag_skip ?_
  refine zB ?_
  iterate 3 refine pA ?_
  refine ar_pure tOk rfl rfl rfl ?_ ?_
  · first | trivial | (simp only [boundsOk]; omega) | omega | (unfold inI64; omega) | decide
  iterate 2 refine pA ?_
  refine ar_pure tOk rfl rfl rfl ?_ ?_
  · first | trivial | (simp only [boundsOk]; omega) | omega | (unfold inI64; omega) | decide
  iterate 3 refine pA ?_
  refine ar_pure tOk rfl rfl rfl ?_ ?_
  · first | trivial | (simp only [boundsOk]; omega) | omega | (unfold inI64; omega) | decide
  refine ar_ent (ent_reg 64 (.r (.int .i64 ((P.length : Int)))) (by show AVal.r (.int _ _) = _; exact eqI (by simp))) ?_
  refine ar_pure tOk rfl rfl rfl ?_ ?_
  · first | trivial | (simp only [boundsOk]; omega) | omega | (unfold inI64; omega) | decide
  refine ar_pur (c) rfl rfl rfl rfl rfl rfl rfl ?_
  iterate 5 refine pA ?_
  refine zC ?_
  iterate 2 refine pA ?_
  refine ar_pur (w_node q x (by omega)) rfl rfl rfl rfl rfl rfl rfl ?_
  iterate 3 refine pA ?_
  refine ar_nil ?_
  refine ag_ret tOk Try.func27 rfl rfl (by first | trivial | exact ⟨trivial, trivial⟩ | simp) ?_
  rfl
theorem w_rclimbR (s : List UInt8) (hs : s.length ≤ 32) : ∀ (R : List (List UInt8)) (n i : Nat), 1 ≤ n → n ≤ 1099511627776 → i < n → R.length ≤ 1000000000 → (∀ p ∈ R, p.length ≤ 140737488350000) → Pur Try.prog 27 [.r (.str s), .r (.int .i64 (n : Int)), .r (.int .i64 (i : Int)), roS R.reverse] (.tuple [.r (.str (clR s R n i).1), .r (.bool (clR s R n i).2)])
  | [], n, i, h1, h2, hi, hR, hq => by
    unfold clR
    by_cases e : n = 1
    · subst e; exact w_rclimb1 s [] i
    · rw [if_neg e]; exact w_rclimbE s n (by omega) i
  | q :: r, n, i, h1, h2, hi, hR, hq => by
    unfold clR
    have hr : ∀ p ∈ r, p.length ≤ 140737488350000 := fun p hp => hq p (by simp [hp])
    have hqq := hq q (by simp)
    simp only [List.length_cons] at hR
    by_cases e : n = 1
    · subst e
      have := w_rclimb1 s (q :: r).reverse i
      rw [decide_eq_false (by simp)] at this
      exact this
    · rw [if_neg e, List.reverse_cons]
      by_cases hk : i < (n + 1) / 2
      · rw [if_pos hk]
        have ih := w_rclimbR s hs r ((n + 1) / 2) i (by omega) (by omega) hk (by omega) hr
        have e2 : roS r.reverse = .r (.ro ((r.reverse.length : Int).toNat) (List.take (mulz (r.reverse.length : Int) 1) (sL (r.reverse ++ [q])))) := by rw [take_roS (C := r.reverse ++ [q]) (by simp), List.take_left]
        rw [e2] at ih
        exact w_rclimbA s n i _ (by omega) h2 hi rfl hk r.reverse q _ _ (by rw [List.length_reverse]; omega) hqq (clR_le hs _ _ _) ih
      · rw [if_neg hk]
        have ih := w_rclimbR s hs r (n - (n + 1) / 2) (i - (n + 1) / 2) (by omega) (by omega) (by omega) (by omega) hr
        have e2 : roS r.reverse = .r (.ro ((r.reverse.length : Int).toNat) (List.take (mulz (r.reverse.length : Int) 1) (sL (r.reverse ++ [q])))) := by rw [take_roS (C := r.reverse ++ [q]) (by simp), List.take_left]
        rw [e2, show ((n - (n + 1) / 2 : Nat) : Int) = (n : Int) - (((n + 1) / 2 : Nat) : Int) by omega, show ((i - (n + 1) / 2 : Nat) : Int) = (i : Int) - (((n + 1) / 2 : Nat) : Int) by omega] at ih
        exact w_rclimbB s n i _ (by omega) h2 hi rfl hk r.reverse q _ _ (by rw [List.length_reverse]; omega) hqq (clR_le hs _ _ _) ih
theorem w_rclimbP (s : List UInt8) (hs : s.length ≤ 32) (P : List (List UInt8)) (n i : Nat) (h1 : 1 ≤ n) (h2 : n ≤ 1099511627776) (hi : i < n) (hP : P.length ≤ 1000000000) (hq : ∀ p ∈ P, p.length ≤ 140737488350000) : Pur Try.prog 27 [.r (.str s), .r (.int .i64 (n : Int)), .r (.int .i64 (i : Int)), roS P] (.tuple [.r (.str (clR s P.reverse n i).1), .r (.bool (clR s P.reverse n i).2)]) := by
  have := w_rclimbR s hs P.reverse n i h1 h2 hi (by rw [List.length_reverse]; exact hP) (fun p hp => hq p (List.mem_reverse.1 hp))
  rw [List.reverse_reverse] at this
  exact this
end Go.Proofs.Ytancdgbclbkpkaa


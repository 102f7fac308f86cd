/-
  WALKS: receipts (climb, Check, and the law's). (Printed by gen.py out of w_rcpt6.py.)
-/
import Derived.Test.YtancdgbclbkpkaaRcpt5
namespace Go.Proofs.Ytancdgbclbkpkaa
open Go
set_option maxRecDepth 20000
set_option linter.unusedVariables false
set_option linter.unusedSimpArgs false
/-- Where a leaf leads, along a path told from its end. -/
def clR (s : List UInt8) : List (List UInt8) → Nat → Nat → List UInt8 × Bool
  | [], n, _ => if n = 1 then (s, true) else ([], false)
  | q :: r, n, i => if n = 1 then (s, false) else if i < (n + 1) / 2 then (sumL 1 [(clR s r ((n + 1) / 2) i).1, q], (clR s r ((n + 1) / 2) i).2) else (sumL 1 [q, (clR s r (n - (n + 1) / 2) (i - (n + 1) / 2)).1], (clR s r (n - (n + 1) / 2) (i - (n + 1) / 2)).2)
theorem clR_le {s : List UInt8} (hs : s.length ≤ 32) : ∀ (R : List (List UInt8)) (n i : Nat), (clR s R n i).1.length ≤ 32
  | [], n, i => by unfold clR; split; exact hs; simp
  | q :: r, n, i => by
    unfold clR
    split
    · exact hs
    · split <;> (simp only; rw [sumL_length]; exact Nat.le_refl _)
/-- How long a path has to be. -/
def dep (n i : Nat) : Nat := if h : 2 ≤ n then (if i < (n + 1) / 2 then 1 + dep ((n + 1) / 2) i else 1 + dep (n - (n + 1) / 2) (i - (n + 1) / 2)) else 0
termination_by n
decreasing_by all_goals omega
theorem clR_ok (s : List UInt8) : ∀ (R : List (List UInt8)) (n i : Nat), 1 ≤ n → (clR s R n i).2 = decide (R.length = dep n i)
  | [], n, i, h => by
    unfold clR
    by_cases h1 : n = 1
    · rw [if_pos h1, dep, dif_neg (by omega)]; rfl
    · rw [if_neg h1, dep, dif_pos (by omega)]
      split
      · exact (decide_eq_false (by simp only [List.length_nil]; omega)).symm
      · exact (decide_eq_false (by simp only [List.length_nil]; omega)).symm
  | q :: r, n, i, h => by
    unfold clR
    by_cases h1 : n = 1
    · rw [if_pos h1, dep, dif_neg (by omega)]; exact (decide_eq_false (by simp)).symm
    · rw [if_neg h1, dep, dif_pos (by omega)]
      by_cases hi : i < (n + 1) / 2
      · rw [if_pos hi, if_pos hi]
        simp only
        rw [clR_ok s r _ _ (by omega), List.length_cons]
        by_cases e : r.length = dep ((n + 1) / 2) i
        · rw [decide_eq_true e, decide_eq_true (by omega)]
        · rw [decide_eq_false e, decide_eq_false (by omega)]
      · rw [if_neg hi, if_neg hi]
        simp only
        rw [clR_ok s r _ _ (by omega), List.length_cons]
        by_cases e : r.length = dep (n - (n + 1) / 2) (i - (n + 1) / 2)
        · rw [decide_eq_true e, decide_eq_true (by omega)]
        · rw [decide_eq_false e, decide_eq_false (by omega)]
theorem clR_path : ∀ (n : Nat) (L : List (List UInt8)) (i : Nat) (s : List UInt8), L.length = n → L[i]? = some s → clR s (pathR L i).reverse n i = (rootR L, true)
  | n, L, i, s, hn, hs => by
    obtain ⟨hlt, he⟩ := List.getElem?_eq_some_iff.1 hs
    by_cases h : 2 ≤ L.length
    · have hl := half_lt h
      have tl : (L.take ((L.length + 1) / 2)).length = (L.length + 1) / 2 := by rw [List.length_take]; omega
      have dl : (L.drop ((L.length + 1) / 2)).length = L.length - (L.length + 1) / 2 := List.length_drop
      by_cases hi : i < (L.length + 1) / 2
      · rw [pathR_a h hi, List.reverse_append, List.reverse_singleton, List.singleton_append, clR, if_neg (by omega), if_pos (by omega), ← hn]
        have ih := clR_path ((L.length + 1) / 2) (L.take ((L.length + 1) / 2)) i s tl (by rw [List.getElem?_take, if_pos hi]; exact hs)
        rw [ih, rootR_2 h]
      · rw [pathR_b h hi, List.reverse_append, List.reverse_singleton, List.singleton_append, clR, if_neg (by omega), if_neg (by omega), ← hn]
        have ih := clR_path (L.length - (L.length + 1) / 2) (L.drop ((L.length + 1) / 2)) (i - (L.length + 1) / 2) s dl (by rw [List.getElem?_drop, show (L.length + 1) / 2 + (i - (L.length + 1) / 2) = i by omega]; exact hs)
        rw [ih, rootR_2 h]
    · match L, h, hn, hs, hlt with
      | [x], h, hn, hs, hlt =>
        have i0 : i = 0 := by simpa using hlt
        subst i0
        simp at hs
        subst hs
        rw [pathR_1 h, List.reverse_nil, clR, if_pos (by simp at hn; omega), rootR_1]
      | _ :: _ :: _, h, _, _, _ => simp at h
termination_by n => n
decreasing_by all_goals omega
theorem dep_path (L : List (List UInt8)) (i : Nat) (hi : i < L.length) : (pathR L i).length = dep L.length i := by
  obtain ⟨s, hs⟩ := getI hi
  have h1 := clR_path _ L i s rfl hs
  have h2 := clR_ok s (pathR L i).reverse L.length i (by omega)
  rw [h1, List.length_reverse] at h2
  exact of_decide_eq_true h2.symm
theorem w_climb1 (s : List UInt8) (P : List (List UInt8)) (i : Int) : Pur Try.prog 51 [.r (.str s), .r (.int .i64 1), .r (.int .i64 i), roS P] (.tuple [.r (.str s), .r (.bool (decide (P.length = 0)))]) := by
  refine spec_of_go (N := 74) Try.func51 rfl (by decide) rfl rfl ?_
  refine zB ?_
  iterate 2 refine pA ?_
  refine zA ?_
  refine zB ?_
  iterate 2 refine pA ?_
  refine ar_nil ?_
  refine ag_true rfl (by decide) ?_
  refine zB ?_
  iterate 4 refine pA ?_
  refine ar_ent (ent_reg 21 (.r (.bool (decide (P.length = 0)))) (by show AVal.r (.bool _) = _; exact eqB (by simp))) ?_
  iterate 2 refine pA ?_
  refine ar_nil ?_
  refine ag_ret tOk Try.func51 rfl rfl (by first | trivial | exact ⟨trivial, trivial⟩ | simp) ?_
  rfl
theorem w_climbE (s : List UInt8) (n : Nat) (hn : 2 ≤ n) (i : Int) : Pur Try.prog 51 [.r (.str s), .r (.int .i64 (n : Int)), .r (.int .i64 i), roS []] (.tuple [.r (.str []), .r (.bool false)]) := by
  refine spec_of_go (N := 74) Try.func51 rfl (by decide) rfl rfl ?_
  refine zB ?_
  iterate 2 refine pA ?_
  refine zA ?_
  refine zB ?_
  iterate 2 refine pA ?_
  refine ar_nil ?_
  refine ag_false rfl (decide_eq_false (by omega)) ?_
  refine ag_skip ?_
  refine ag_seq ?_
  refine zB ?_
  iterate 3 refine pA ?_
  refine ar_nil ?_
  refine ag_true rfl (by decide) ?_
  refine zB ?_
  iterate 2 refine pA ?_
  refine ar_nil ?_
  refine ag_ret tOk Try.func51 rfl rfl (by first | trivial | exact ⟨trivial, trivial⟩ | simp) ?_
  rfl
theorem w_climbA (s : List UInt8) (n i k : Nat) (hn : 2 ≤ n) (hn2 : n ≤ 1099511627776) (hin : i < n) (hk : k = (n + 1) / 2) (hi : i < k) (P : List (List UInt8)) (q x : List UInt8) (b : Bool) (hP : P.length ≤ 1000000000) (hq : q.length ≤ 140737488350000) (hx : x.length ≤ 32) (c : Pur Try.prog 51 [.r (.str s), .r (.int .i64 (k : Int)), .r (.int .i64 (i : Int)), .r (.ro ((P.length : Int).toNat) (List.take (mulz (P.length : Int) 1) (sL (P ++ [q]))))] (.tuple [.r (.str x), .r (.bool b)])) : Pur Try.prog 51 [.r (.str s), .r (.int .i64 (n : Int)), .r (.int .i64 (i : Int)), roS (P ++ [q])] (.tuple [.r (.str (sumL 1 [x, q])), .r (.bool b)]) := by
  have hl : (P ++ [q]).length = P.length + 1 := by simp
  have hsl : (sL (P ++ [q])).length = P.length + 1 := by simp [sL]
  have hp : (P ++ [q])[P.length]? = some q := by simp
  have cS : Pur Try.prog 46 [.r (.int .u8 1), .r (.ro 2 [.str x, .str q])] (.r (.str (sumL 1 [x, q]))) := w_sum1 [x, q] (by simp) (by simp; omega)
  refine spec_of_go (N := 74) Try.func51 rfl (by decide) rfl rfl ?_
  refine zB ?_
  iterate 2 refine pA ?_
  refine zA ?_
  refine zB ?_
  iterate 2 refine pA ?_
  refine ar_nil ?_
  refine ag_false rfl (decide_eq_false (by omega)) ?_
  refine ag_skip ?_
  refine ag_seq ?_
  refine zB ?_
  iterate 3 refine pA ?_
  refine ar_nil ?_
  refine ag_false rfl (decide_eq_false (by omega)) ?_
  refine ag_skip ?_
  refine ag_seq ?_
  refine ag_draw0 (by kernel_rfl) (by kernel_rfl) ?_
  refine aq_pure tOk rfl rfl rfl trivial ?_
  refine aq_pure tOk rfl rfl rfl ?_ ?_
  · first | trivial | (simp only [boundsOk]; omega) | omega | (unfold inI64; omega) | decide
  refine aq_pure tOk rfl rfl rfl trivial ?_
  refine aq_pureE tOk (.r (.int .i64 (P.length : Int))) rfl (by show AVal.r (.int _ _) = _; exact eqI (by simp)) rfl rfl (by unfold inI64; omega) ?_
  refine aq_pure tOk rfl rfl rfl ?_ ?_
  · refine ⟨?_, ?_⟩ <;> first | omega | exact ne_mp hp | (refine ⟨?_, ?_⟩ <;> omega)
  refine aq_loadAs tOk (.r (.str q)) rfl rfl rfl rfl (fun _ => rfl) rfl rfl (.inl ⟨rfl, by simp [Body.cells, mulz_eq, sL]⟩) ?_
  refine aq_pure tOk rfl rfl rfl ?_ ?_
  · first | trivial | (simp only [boundsOk]; omega) | omega | (unfold inI64; omega) | decide
  refine aq_pur (w_half (n : Int) ⟨by omega, by omega⟩) rfl rfl rfl rfl rfl rfl rfl ?_
  iterate 2 refine aq_pure tOk rfl rfl rfl trivial ?_
  refine aq_nil rfl ?_
  refine ag_ent (ent_reg 11 (.r (.int .i64 (k : Int))) (by show AVal.r (.int _ _) = _; exact eqI ((show (k : Int) = ((n : Int) + 1) / 2 by omega).symm))) ?_
  refine ag_seq ?_
  refine zB ?_
  iterate 3 refine pA ?_
  refine ar_nil ?_
  refine ag_true rfl (decide_eq_true (by omega)) ?_
  refine zB ?_
  iterate 6 refine pA ?_
  refine ar_pure tOk rfl rfl rfl ?_ ?_
  · first | trivial | (simp only [boundsOk]; omega) | omega | (unfold inI64; omega) | decide
  refine ar_ent (ent_reg 43 (.r (.int .i64 ((P.length : Int)))) (by show AVal.r (.int _ _) = _; exact eqI (by simp))) ?_
  refine ar_pure tOk rfl rfl rfl ?_ ?_
  · first | trivial | (simp only [boundsOk]; omega) | omega | (unfold inI64; omega) | decide
  refine ar_pur (c) rfl rfl rfl rfl rfl rfl rfl ?_
  iterate 5 refine pA ?_
  refine zC ?_
  iterate 2 refine pA ?_
  refine ar_qd rfl (qop_buildRo tOk rfl ?_ rfl) rfl rfl rfl rfl ?_
  · repeat any_goals (first | trivial | decide | omega | (simp; done) | (rw [wu8]; omega) | refine ⟨?_, ?_⟩)
  refine ar_pur (cS) rfl rfl rfl rfl rfl rfl rfl ?_
  iterate 3 refine pA ?_
  refine ar_nil ?_
  refine ag_ret tOk Try.func51 rfl rfl (by first | trivial | exact ⟨trivial, trivial⟩ | simp) ?_
  rfl
theorem w_climbB (s : List UInt8) (n i k : Nat) (hn : 2 ≤ n) (hn2 : n ≤ 1099511627776) (hin : i < n) (hk : k = (n + 1) / 2) (hi : ¬ i < k) (P : List (List UInt8)) (q x : List UInt8) (b : Bool) (hP : P.length ≤ 1000000000) (hq : q.length ≤ 140737488350000) (hx : x.length ≤ 32) (c : Pur Try.prog 51 [.r (.str s), .r (.int .i64 ((n : Int) - (k : Int))), .r (.int .i64 ((i : Int) - (k : Int))), .r (.ro ((P.length : Int).toNat) (List.take (mulz (P.length : Int) 1) (sL (P ++ [q]))))] (.tuple [.r (.str x), .r (.bool b)])) : Pur Try.prog 51 [.r (.str s), .r (.int .i64 (n : Int)), .r (.int .i64 (i : Int)), roS (P ++ [q])] (.tuple [.r (.str (sumL 1 [q, x])), .r (.bool b)]) := by
  have hl : (P ++ [q]).length = P.length + 1 := by simp
  have hsl : (sL (P ++ [q])).length = P.length + 1 := by simp [sL]
  have hp : (P ++ [q])[P.length]? = some q := by simp
  have cS : Pur Try.prog 46 [.r (.int .u8 1), .r (.ro 2 [.str q, .str x])] (.r (.str (sumL 1 [q, x]))) := w_sum1 [q, x] (by simp) (by simp; omega)
  refine spec_of_go (N := 74) Try.func51 rfl (by decide) rfl rfl ?_
  refine zB ?_
  iterate 2 refine pA ?_
  refine zA ?_
  refine zB ?_
  iterate 2 refine pA ?_
  refine ar_nil ?_
  refine ag_false rfl (decide_eq_false (by omega)) ?_
  refine ag_skip ?_
  refine ag_seq ?_
  refine zB ?_
  iterate 3 refine pA ?_
  refine ar_nil ?_
  refine ag_false rfl (decide_eq_false (by omega)) ?_
  refine ag_skip ?_
  refine ag_seq ?_
  refine ag_draw0 (by kernel_rfl) (by kernel_rfl) ?_
  refine aq_pure tOk rfl rfl rfl trivial ?_
  refine aq_pure tOk rfl rfl rfl ?_ ?_
  · first | trivial | (simp only [boundsOk]; omega) | omega | (unfold inI64; omega) | decide
  refine aq_pure tOk rfl rfl rfl trivial ?_
  refine aq_pureE tOk (.r (.int .i64 (P.length : Int))) rfl (by show AVal.r (.int _ _) = _; exact eqI (by simp)) rfl rfl (by unfold inI64; omega) ?_
  refine aq_pure tOk rfl rfl rfl ?_ ?_
  · refine ⟨?_, ?_⟩ <;> first | omega | exact ne_mp hp | (refine ⟨?_, ?_⟩ <;> omega)
  refine aq_loadAs tOk (.r (.str q)) rfl rfl rfl rfl (fun _ => rfl) rfl rfl (.inl ⟨rfl, by simp [Body.cells, mulz_eq, sL]⟩) ?_
  refine aq_pure tOk rfl rfl rfl ?_ ?_
  · first | trivial | (simp only [boundsOk]; omega) | omega | (unfold inI64; omega) | decide
  refine aq_pur (w_half (n : Int) ⟨by omega, by omega⟩) rfl rfl rfl rfl rfl rfl rfl ?_
  iterate 2 refine aq_pure tOk rfl rfl rfl trivial ?_
  refine aq_nil rfl ?_
  refine ag_ent (ent_reg 11 (.r (.int .i64 (k : Int))) (by show AVal.r (.int _ _) = _; exact eqI ((show (k : Int) = ((n : Int) + 1) / 2 by omega).symm))) ?_
  refine ag_seq ?_
  refine zB ?_
  iterate 3 refine pA ?_
  refine ar_nil ?_
  refine ag_false rfl (decide_eq_false (by omega)) ?_
  refine ag_skip ?_
  refine zB ?_
  iterate 3 refine pA ?_
  refine ar_pure tOk rfl rfl rfl ?_ ?_
  · first | trivial | (simp only [boundsOk]; omega) | omega | (unfold inI64; omega) | decide
  iterate 2 refine pA ?_
  refine ar_pure tOk rfl rfl rfl ?_ ?_
  · first | trivial | (simp only [boundsOk]; omega) | omega | (unfold inI64; omega) | decide
  iterate 3 refine pA ?_
  refine ar_pure tOk rfl rfl rfl ?_ ?_
  · first | trivial | (simp only [boundsOk]; omega) | omega | (unfold inI64; omega) | decide
  refine ar_ent (ent_reg 64 (.r (.int .i64 ((P.length : Int)))) (by show AVal.r (.int _ _) = _; exact eqI (by simp))) ?_
  refine ar_pure tOk rfl rfl rfl ?_ ?_
  · first | trivial | (simp only [boundsOk]; omega) | omega | (unfold inI64; omega) | decide
  refine ar_pur (c) rfl rfl rfl rfl rfl rfl rfl ?_
  iterate 5 refine pA ?_
  refine zC ?_
  iterate 2 refine pA ?_
  refine ar_qd rfl (qop_buildRo tOk rfl ?_ rfl) rfl rfl rfl rfl ?_
  · repeat any_goals (first | trivial | decide | omega | (simp; done) | (rw [wu8]; omega) | refine ⟨?_, ?_⟩)
  refine ar_pur (cS) rfl rfl rfl rfl rfl rfl rfl ?_
  iterate 3 refine pA ?_
  refine ar_nil ?_
  refine ag_ret tOk Try.func51 rfl rfl (by first | trivial | exact ⟨trivial, trivial⟩ | simp) ?_
  rfl
theorem w_climbR (s : List UInt8) (hs : s.length ≤ 32) : ∀ (R : List (List UInt8)) (n i : Nat), 1 ≤ n → n ≤ 1099511627776 → i < n → R.length ≤ 1000000000 → (∀ p ∈ R, p.length ≤ 140737488350000) → Pur Try.prog 51 [.r (.str s), .r (.int .i64 (n : Int)), .r (.int .i64 (i : Int)), roS R.reverse] (.tuple [.r (.str (clR s R n i).1), .r (.bool (clR s R n i).2)])
  | [], n, i, h1, h2, hi, hR, hq => by
    unfold clR
    by_cases e : n = 1
    · subst e; exact w_climb1 s [] i
    · rw [if_neg e]; exact w_climbE s n (by omega) i
  | q :: r, n, i, h1, h2, hi, hR, hq => by
    unfold clR
    have hr : ∀ p ∈ r, p.length ≤ 140737488350000 := fun p hp => hq p (by simp [hp])
    have hqq := hq q (by simp)
    simp only [List.length_cons] at hR
    by_cases e : n = 1
    · subst e
      have := w_climb1 s (q :: r).reverse i
      rw [decide_eq_false (by simp)] at this
      exact this
    · rw [if_neg e, List.reverse_cons]
      by_cases hk : i < (n + 1) / 2
      · rw [if_pos hk]
        have ih := w_climbR s hs r ((n + 1) / 2) i (by omega) (by omega) hk (by omega) hr
        have e2 : roS r.reverse = .r (.ro ((r.reverse.length : Int).toNat) (List.take (mulz (r.reverse.length : Int) 1) (sL (r.reverse ++ [q])))) := by rw [take_roS (C := r.reverse ++ [q]) (by simp), List.take_left]
        rw [e2] at ih
        exact w_climbA s n i _ (by omega) h2 hi rfl hk r.reverse q _ _ (by rw [List.length_reverse]; omega) hqq (clR_le hs _ _ _) ih
      · rw [if_neg hk]
        have ih := w_climbR s hs r (n - (n + 1) / 2) (i - (n + 1) / 2) (by omega) (by omega) (by omega) (by omega) hr
        have e2 : roS r.reverse = .r (.ro ((r.reverse.length : Int).toNat) (List.take (mulz (r.reverse.length : Int) 1) (sL (r.reverse ++ [q])))) := by rw [take_roS (C := r.reverse ++ [q]) (by simp), List.take_left]
        rw [e2, show ((n - (n + 1) / 2 : Nat) : Int) = (n : Int) - (((n + 1) / 2 : Nat) : Int) by omega, show ((i - (n + 1) / 2 : Nat) : Int) = (i : Int) - (((n + 1) / 2 : Nat) : Int) by omega] at ih
        exact w_climbB s n i _ (by omega) h2 hi rfl hk r.reverse q _ _ (by rw [List.length_reverse]; omega) hqq (clR_le hs _ _ _) ih
theorem w_climbP (s : List UInt8) (hs : s.length ≤ 32) (P : List (List UInt8)) (n i : Nat) (h1 : 1 ≤ n) (h2 : n ≤ 1099511627776) (hi : i < n) (hP : P.length ≤ 1000000000) (hq : ∀ p ∈ P, p.length ≤ 140737488350000) : Pur Try.prog 51 [.r (.str s), .r (.int .i64 (n : Int)), .r (.int .i64 (i : Int)), roS P] (.tuple [.r (.str (clR s P.reverse n i).1), .r (.bool (clR s P.reverse n i).2)]) := by
  have := w_climbR s hs P.reverse n i h1 h2 hi (by rw [List.length_reverse]; exact hP) (fun p hp => hq p (List.mem_reverse.1 hp))
  rw [List.reverse_reverse] at this
  exact this
end Go.Proofs.Ytancdgbclbkpkaa


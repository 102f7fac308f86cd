/-
  WALKS: receipts (paths whole, Root, Show, the law's leaf). (Printed by gen.py out of w_rcpt4.py.)
-/
import Derived.Test.YtancdgbclbkpkaaRcpt3
namespace Go.Proofs.Ytancdgbclbkpkaa
open Go
set_option maxRecDepth 20000
set_option linter.unusedVariables false
set_option linter.unusedSimpArgs false
theorem w_pathOwn : ∀ (n : Nat) (L : List (List UInt8)) (i : Nat), L.length = n → n ≤ 1000000000000 → (∀ p ∈ L, p.length ≤ 32) → i < n → 2 ≤ n → Own Try.prog 49 [roS L, .r (.int .i64 (i : Int))] (pathR L i).length 1 (.plain (sL (pathR L i)))
  | n, L, i, hn, hb, h32, hi, h2 => by
    have h2' : 2 ≤ L.length := by omega
    have hl := half_lt h2'
    have t32 : ∀ p ∈ L.take ((L.length + 1) / 2), p.length ≤ 32 := fun p hp => h32 p (List.mem_of_mem_take hp)
    have d32 : ∀ p ∈ L.drop ((L.length + 1) / 2), p.length ≤ 32 := fun p hp => h32 p (List.mem_of_mem_drop hp)
    have tl : (L.take ((L.length + 1) / 2)).length = (L.length + 1) / 2 := by rw [List.length_take]; omega
    have dl : (L.drop ((L.length + 1) / 2)).length = L.length - (L.length + 1) / 2 := List.length_drop
    have i1 := w_root ((L.length + 1) / 2) (L.take ((L.length + 1) / 2)) tl (by omega) t32
    have i2 := w_root (L.length - (L.length + 1) / 2) (L.drop ((L.length + 1) / 2)) dl (by omega) d32
    rw [← take_roS (by omega)] at i1
    rw [← drop_roS] at i2
    by_cases hk : i < (L.length + 1) / 2
    · rw [pathR_a h2' hk, List.length_append]
      have pl := pathR_len _ (L.take ((L.length + 1) / 2)) i rfl
      by_cases hs : 2 ≤ (L.length + 1) / 2
      · have ih := w_pathOwn ((L.length + 1) / 2) (L.take ((L.length + 1) / 2)) i tl (by omega) t32 hk hs
        rw [← take_roS (by omega)] at ih
        exact w_pathAO L h2' (by omega) _ rfl i hk (by omega) _ (by omega) _ ih i2
      · have c := w_path1 (L.take ((L.length + 1) / 2)) (by omega) (i : Int)
        rw [← take_roS (by omega)] at c
        rw [pathR_1 (by omega)]
        exact w_pathAN L h2' (by omega) _ rfl i hk (by omega) _ c i2
    · rw [pathR_b h2' hk, List.length_append]
      have pl := pathR_len _ (L.drop ((L.length + 1) / 2)) (i - (L.length + 1) / 2) rfl
      have ei : ((i - (L.length + 1) / 2 : Nat) : Int) = (i : Int) - (((L.length + 1) / 2 : Nat) : Int) := by omega
      by_cases hs : 2 ≤ L.length - (L.length + 1) / 2
      · have ih := w_pathOwn (L.length - (L.length + 1) / 2) (L.drop ((L.length + 1) / 2)) (i - (L.length + 1) / 2) dl (by omega) d32 (by omega) hs
        rw [← drop_roS, ei] at ih
        exact w_pathBO L h2' (by omega) _ rfl i hk (by omega) _ (by omega) _ ih i1
      · have c := w_path1 (L.drop ((L.length + 1) / 2)) (by omega) ((i : Int) - (((L.length + 1) / 2 : Nat) : Int))
        rw [← drop_roS] at c
        rw [pathR_1 (by omega)]
        exact w_pathBN L h2' (by omega) _ rfl i hk (by omega) _ c i1
termination_by n => n
decreasing_by all_goals omega
theorem w_pathRo (L : List (List UInt8)) (i : Nat) (hb : L.length ≤ 1000000000000) (h32 : ∀ p ∈ L, p.length ≤ 32) (hi : i < L.length) : Pur Try.prog 49 [roS L, .r (.int .i64 (i : Int))] (roS (pathR L i)) := by
  by_cases h : 2 ≤ L.length
  · refine (own_to_ro (w_pathOwn _ L i rfl hb h32 hi h) rfl trivial).mono_r ?_
    rw [cutA_eq, List.drop_zero, List.take_of_length_le (by simp [sL])]
    rfl
  · rw [pathR_1 h]; exact nil_ro (w_path1 L (by omega) i)
theorem w_RootG (L : List EvV) (hok : ∀ e ∈ L, e.x.ok) (hL : L.length * 240 ≤ 140737488355328) (hg : allG L) : Pur Try.prog 21 [roE L] (.tuple [.r (.str (rootR (lefs L))), .r (.int .i64 0)]) := by
  have cL := w_leaves L hok (by omega)
  rw [lvs_g hg] at cL
  have hll : (lefs L).length = L.length := by simp [lefs]
  refine spec_of_go (N := 16) Try.func21 rfl (by decide) rfl rfl ?_
  refine zB ?_
  iterate 2 refine pA ?_
  refine zC ?_
  refine pA ?_
  refine ar_pur (cL) rfl rfl rfl rfl rfl rfl rfl ?_
  iterate 5 refine pA ?_
  refine zA ?_
  refine zB ?_
  iterate 2 refine pA ?_
  refine ar_nil ?_
  refine ag_false rfl (by decide) ?_
  refine ag_skip ?_
  refine zB ?_
  refine pA ?_
  refine ar_pur (w_root _ (lefs L) rfl (by omega) (lefs_32 L)) rfl rfl rfl rfl rfl rfl rfl ?_
  iterate 2 refine pA ?_
  refine ar_nil ?_
  refine ag_ret tOk Try.func21 rfl rfl (by first | trivial | exact ⟨trivial, trivial⟩ | simp) ?_
  rfl
theorem w_RootB (L : List EvV) (hok : ∀ e ∈ L, e.x.ok) (hL : L.length * 240 ≤ 140737488355328) (hg : ¬ allG L) : Pur Try.prog 21 [roE L] (.tuple [.r (.str []), .r (.int .i64 9)]) := by
  have cL := w_leaves L hok (by omega)
  rw [lvs_b hg] at cL
  have hll : (lefs L).length = L.length := by simp [lefs]
  refine spec_of_go (N := 16) Try.func21 rfl (by decide) rfl rfl ?_
  refine zB ?_
  iterate 2 refine pA ?_
  refine zC ?_
  refine pA ?_
  refine ar_pur (cL) rfl rfl rfl rfl rfl rfl rfl ?_
  iterate 5 refine pA ?_
  refine zA ?_
  refine zB ?_
  iterate 2 refine pA ?_
  refine ar_nil ?_
  refine ag_true rfl (by decide) ?_
  refine zB ?_
  iterate 3 refine pA ?_
  refine ar_nil ?_
  refine ag_ret tOk Try.func21 rfl rfl (by first | trivial | exact ⟨trivial, trivial⟩ | simp) ?_
  rfl
theorem w_ShowB (L : List EvV) (hok : ∀ e ∈ L, e.x.ok) (hL : L.length * 240 ≤ 140737488355328) (hg : ¬ allG L) (i : Int) : Pur Try.prog 22 [roE L, .r (.int .i64 (i : Int))] (.tuple [.r .nil, .r (.int .i64 9)]) := by
  have cL := w_leaves L hok (by omega)
  rw [lvs_b hg] at cL
  have hll : (lefs L).length = L.length := by simp [lefs]
  refine spec_of_go (N := 29) Try.func22 rfl (by decide) rfl rfl ?_
  refine zB ?_
  iterate 2 refine pA ?_
  refine zC ?_
  refine pA ?_
  refine ar_pur (cL) rfl rfl rfl rfl rfl rfl rfl ?_
  iterate 5 refine pA ?_
  refine zA ?_
  refine ag_block ?_
  refine zB ?_
  iterate 3 refine pA ?_
  refine ar_nil ?_
  refine ag_true rfl (by decide) ?_
  refine zB ?_
  iterate 3 refine pA ?_
  refine ar_nil ?_
  refine ag_ret tOk Try.func22 rfl rfl (by first | trivial | exact ⟨trivial, trivial⟩ | simp) ?_
  rfl
theorem w_ShowX (L : List EvV) (hok : ∀ e ∈ L, e.x.ok) (hL : L.length * 240 ≤ 140737488355328) (hg : allG L) (i : Int) (hi : i < 0 ∨ (L.length : Int) ≤ i) : Pur Try.prog 22 [roE L, .r (.int .i64 (i : Int))] (.tuple [.r .nil, .r (.int .i64 4)]) := by
  have cL := w_leaves L hok (by omega)
  rw [lvs_g hg] at cL
  have hll : (lefs L).length = L.length := by simp [lefs]
  refine spec_of_go (N := 29) Try.func22 rfl (by decide) rfl rfl ?_
  refine zB ?_
  iterate 2 refine pA ?_
  refine zC ?_
  refine pA ?_
  refine ar_pur (cL) rfl rfl rfl rfl rfl rfl rfl ?_
  iterate 5 refine pA ?_
  refine zA ?_
  refine ag_block ?_
  refine zB ?_
  iterate 3 refine pA ?_
  refine ar_nil ?_
  refine ag_false rfl (by decide) ?_
  refine zB ?_
  iterate 3 refine pA ?_
  refine ar_guard (t := decide (i < 0)) (fun ht => ?_) (fun ht => ?_)
  · refine ar_ent (ent_reg 20 (.r (.bool true)) (by show AVal.r (.bool _) = _; rw [ht])) ?_
    have hn0 := of_decide_eq_true ht
    iterate 4 refine ar_skip rfl rfl rfl ?_
    iterate 2 refine pA ?_
    refine ar_nil ?_
    refine ag_true rfl (by rfl) ?_
    refine zB ?_
    iterate 2 refine pA ?_
    refine ar_nil ?_
    refine ag_ret tOk Try.func22 rfl rfl (by first | trivial | exact ⟨trivial, trivial⟩ | simp) ?_
    rfl
  · refine ar_ent (ent_reg 20 (.r (.bool false)) (by show AVal.r (.bool _) = _; rw [ht])) ?_
    have hn0 := of_decide_eq_false ht
    iterate 6 refine pA ?_
    refine ar_nil ?_
    refine ag_true rfl (by show decide _ = true; exact decide_eq_true (by omega)) ?_
    refine zB ?_
    iterate 2 refine pA ?_
    refine ar_nil ?_
    refine ag_ret tOk Try.func22 rfl rfl (by first | trivial | exact ⟨trivial, trivial⟩ | simp) ?_
    rfl
theorem w_ShowG (L : List EvV) (hok : ∀ e ∈ L, e.x.ok) (hL : L.length * 240 ≤ 140737488355328) (hg : allG L) (i : Nat) (hi : i < L.length) : Pur Try.prog 22 [roE L, .r (.int .i64 (i : Int))] (.tuple [roS (pathR (lefs L) i), .r (.int .i64 0)]) := by
  have cL := w_leaves L hok (by omega)
  rw [lvs_g hg] at cL
  have hll : (lefs L).length = L.length := by simp [lefs]
  refine spec_of_go (N := 29) Try.func22 rfl (by decide) rfl rfl ?_
  refine zB ?_
  iterate 2 refine pA ?_
  refine zC ?_
  refine pA ?_
  refine ar_pur (cL) rfl rfl rfl rfl rfl rfl rfl ?_
  iterate 5 refine pA ?_
  refine zA ?_
  refine ag_block ?_
  refine zB ?_
  iterate 3 refine pA ?_
  refine ar_nil ?_
  refine ag_false rfl (by decide) ?_
  refine zB ?_
  iterate 3 refine pA ?_
  refine ar_ent (ent_reg 20 (.r (.bool false)) (by show AVal.r (.bool _) = _; exact eqB (decide_eq_false (by omega)))) ?_
  iterate 6 refine pA ?_
  refine ar_nil ?_
  refine ag_false rfl (by show decide _ = false; exact decide_eq_false (by omega)) ?_
  refine ag_skip ?_
  refine ag_inBlock ?_
  refine zB ?_
  iterate 2 refine pA ?_
  refine ar_pur (w_pathRo (lefs L) i (by omega) (lefs_32 L) (by omega)) rfl rfl rfl rfl rfl rfl rfl ?_
  iterate 2 refine pA ?_
  refine ar_nil ?_
  refine ag_ret tOk Try.func22 rfl rfl (by first | trivial | exact ⟨trivial, trivial⟩ | simp) ?_
  rfl
theorem w_alive30  : Pur Try.prog 18 [] (.r (.bool true)) := by
  have hg : allG [⟨0, 0, ⟨0, 0, 1, 0, 1, 0, 0, 0, inv0, var0, 0, 0, 0, 0, []⟩⟩] := by intro e he; simp at he; subst he; decide +kernel
  have cS0 := w_ShowG [⟨0, 0, ⟨0, 0, 1, 0, 1, 0, 0, 0, inv0, var0, 0, 0, 0, 0, []⟩⟩] (by intro e he; simp at he; subst he; exact ⟨⟨by decide, by decide⟩, ⟨by decide, by decide⟩, ⟨by decide, by decide⟩, ⟨by decide, by decide⟩, ⟨by decide, by decide⟩, ⟨⟨by decide, by decide⟩, ⟨by decide, by decide⟩, ⟨by decide, by decide⟩, ⟨by decide, by decide⟩⟩, ⟨by decide, by decide⟩, ⟨by decide, by decide⟩, ⟨by decide, by decide⟩, ⟨by decide, by decide⟩, by decide⟩) (by decide) hg 0 (by decide)
  rw [pathR_1 (by simp [lefs])] at cS0
  have cS : Pur Try.prog 22 [.r (.ro 1 (evC ⟨0, 0, ⟨0, 0, 1, 0, 1, 0, 0, 0, inv0, var0, 0, 0, 0, 0, []⟩⟩)), .r (.int .i64 0)] (.tuple [.r (.ro 0 []), .r (.int .i64 0)]) := cS0
  have cR0 : Pur Try.prog 21 [.r (.ro 0 [])] (.tuple [.r (.str (rootR (lefs []))), .r (.int .i64 0)]) := w_RootG [] (by simp) (by decide) (by intro e he; simp at he)
  have hl : (rootR (lefs [])).length = 32 := by rw [show lefs [] = [] from rfl, rootR_0, sumL_length]
  generalize rootR (lefs []) = S at cR0 hl
  have cR : Pur Try.prog 21 [.r .nil] (.tuple [.r (.str S), .r (.int .i64 0)]) := Spec.nils cR0 (by exact ⟨trivial, trivial⟩)
  refine spec_of_go (N := 33) Try.func18 rfl (by decide) rfl rfl ?_
  refine zB ?_
  refine pA ?_
  refine zC ?_
  refine ar_pure tOk rfl rfl rfl ?_ ?_
  · simp
  refine ar_pure tOk rfl rfl rfl ?_ ?_
  · simp
  refine ar_pure tOk rfl rfl rfl ?_ ?_
  · simp
  refine ar_qd rfl (qop_buildRoK tOk (v := .ro 1 (evC ⟨0, 0, ⟨0, 0, 1, 0, 1, 0, 0, 0, inv0, var0, 0, 0, 0, 0, []⟩⟩)) (by kernel_rfl) (by kernel_rfl)) rfl rfl rfl rfl ?_
  refine ar_pur (cS) rfl rfl rfl rfl rfl rfl rfl ?_
  iterate 5 refine pA ?_
  refine zC ?_
  refine ar_pur (cR) rfl rfl rfl rfl rfl rfl rfl ?_
  iterate 5 refine pA ?_
  refine zC ?_
  iterate 3 refine pA ?_
  refine ar_ent (ent_reg 19 (.r (.bool true)) (by show AVal.r (.bool _) = _; exact eqB (by rfl))) ?_
  iterate 5 refine pA ?_
  refine ar_ent (ent_reg 24 (.r (.bool true)) (by show AVal.r (.bool _) = _; exact eqB (by rfl))) ?_
  iterate 4 refine pA ?_
  refine ar_ent (ent_reg 28 (.r (.bool true)) (by show AVal.r (.bool _) = _; exact eqB (by rfl))) ?_
  iterate 5 refine pA ?_
  refine ar_nil ?_
  refine ag_ret tOk Try.func18 rfl rfl (by simp) ?_
  exact eqB (by simp [hl])
end Go.Proofs.Ytancdgbclbkpkaa


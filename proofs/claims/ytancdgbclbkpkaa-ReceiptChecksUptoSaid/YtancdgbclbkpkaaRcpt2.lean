/-
  WALKS: receipts (leaves, root, path). (Printed by gen.py out of w_rcpt2.py.)
-/
import Derived.Test.YtancdgbclbkpkaaRcpt
namespace Go.Proofs.Ytancdgbclbkpkaa
open Go
set_option maxRecDepth 20000
set_option linter.unusedVariables false
set_option linter.unusedSimpArgs false
theorem nil_ro {P : Program} {n : FuncId} {xs : List AVal} (hs : Pur P n xs (.r .nil)) : Pur P n xs (.r (.ro 0 [])) := by
  refine ⟨hs.can, fun R μ w cargs h1 h2 => (hs.run R μ w cargs h1 h2).mono ?_⟩
  rintro e w' ⟨u, rfl, R', μ', av, h', h3, h4, rfl⟩
  refine ⟨u, rfl, R', μ', .r (.ro 0 []), h', ?_, h4, rfl⟩
  simp only [ARel, RRel] at h3 ⊢
  obtain ⟨ad, rfl⟩ := h3
  exact ⟨ad, 0, [], rfl, Nat.le_refl _, .inl rfl, by simp [RRels]⟩
def lefs (L : List EvV) : List (List UInt8) := L.map lefL
def allG (L : List EvV) : Prop := ∀ e ∈ L, ¬ lefBad e
instance (L : List EvV) : Decidable (allG L) := by unfold allG; infer_instance
theorem lefs_next {L : List EvV} {i : Nat} {e : EvV} (h : L[i]? = some e) : sL (lefs (L.take (i + 1))) = sL (lefs (L.take i)) ++ [.str (lefL e)] := by rw [List.take_add_one, h]; simp [lefs, sL]
theorem allG_next {L : List EvV} {i : Nat} {e : EvV} (h : L[i]? = some e) (hb : ¬ lefBad e) (hg : allG (L.take i)) : allG (L.take (i + 1)) := by
  rw [List.take_add_one, h]
  intro y hy
  rcases List.mem_append.1 hy with q | q
  · exact hg y q
  · simp at q; rw [q]; exact hb
theorem lef_32 (e : EvV) : (lefL e).length ≤ 32 := by unfold lefL; split; simp; rw [sumL_length]; exact Nat.le_refl _
theorem lefs_32 (L : List EvV) : ∀ p ∈ lefs L, p.length ≤ 32 := by intro p hp; obtain ⟨e, _, rfl⟩ := List.mem_map.1 hp; exact lef_32 e
/-- What a list of leaves is told as. -/
def lvsT (L : List EvV) : AVal := if allG L then .tuple [roS (lefs L), .r (.int .i64 0)] else .tuple [.r (.ro 0 []), .r (.int .i64 9)]
theorem lvs_g {L : List EvV} (h : allG L) : lvsT L = .tuple [roS (lefs L), .r (.int .i64 0)] := by rw [lvsT, if_pos h]
theorem lvs_b {L : List EvV} (h : ¬ allG L) : lvsT L = .tuple [.r (.ro 0 []), .r (.int .i64 9)] := by rw [lvsT, if_neg h]
def strLv_0 (L : List EvV) : Nat × List RVal → Regs × Hp := fun ⟨i, acc⟩ => ([(9, roE L), (10, .r (.int .i64 (L.length : Int))), (11, .r (.int .i64 (i : Int))), (4, accA acc)], accH acc)
def prrLv_0 (L : List EvV) : Nat × List RVal → Prop := fun ⟨i, acc⟩ => i ≤ L.length ∧ acc = sL (lefs (L.take i)) ∧ allG (L.take i)
theorem w_leaves (L : List EvV) (hok : ∀ e ∈ L, e.x.ok) (hL : L.length * 16 ≤ 140737488355328) : Pur Try.prog 47 [roE L] (lvsT L) := by
  refine spec_of_go (N := 29) Try.func47 rfl (by decide) rfl rfl ?_
  refine zB ?_
  iterate 2 refine pA ?_
  refine zC ?_
  refine pA ?_
  refine zA ?_
  refine zB ?_
  iterate 3 refine pA ?_
  refine ar_nil ?_
  refine ag_block ?_
  refine ag_loopS (strLv_0 L) (prrLv_0 L) (fun ⟨i, acc⟩ => L.length - i) (0, []) (ent_weak [] rfl rfl rfl rfl ?_ ?_ rfl) (show prrLv_0 L (0, []) from ?_) ?_
  · exact ⟨⟨rfl, rfl⟩, ⟨rfl, rfl⟩, ⟨rfl, rfl⟩, ⟨rfl, rfl⟩, trivial⟩
  · trivial
  · exact ⟨Nat.zero_le _, rfl, by intro e he; simp at he⟩
  rintro ⟨i, acc⟩ hp hrec
  cases acc with
  | nil =>
    obtain ⟨hi, hacc, hall⟩ : _ := hp
    refine ag_ent (ent_weak (g' := [(9, roE L), (10, .r (.int .i64 (L.length : Int))), (11, .r (.int .i64 (i : Int))), (4, .r .nil)]) (h' := ⟨0, [], false⟩) [] rfl rfl rfl rfl ?_ ?_ rfl) ?_
    · exact ⟨⟨rfl, rfl⟩, ⟨rfl, rfl⟩, ⟨rfl, rfl⟩, ⟨rfl, rfl⟩, trivial⟩
    · trivial
    refine zB ?_
    refine pA ?_
    refine zA ?_
    refine ag_if rfl ?_ ?_
    · intro h12
      obtain ⟨e, hx⟩ : ∃ e, L[i]? = some e := ⟨L[i]'(by omega), by simp⟩
      have hex := hok e (List.mem_of_getElem? hx)
      have hln := congrArg List.length hacc
      simp only [sL, lefs, List.length_map, List.length_take, List.length_cons, List.length_nil] at hln
      refine ag_skip ?_
      refine ag_seq ?_
      refine ag_block ?_
      refine zB ?_
      refine ar_pure tOk rfl rfl rfl ?_ ?_
      · refine ⟨?_, ?_⟩ <;> first | omega | exact evsC_ne hx | (refine ⟨?_, ?_⟩ <;> omega)
      refine ar_loadAs tOk (eventA e) rfl rfl rfl rfl rfl rfl rfl (.inr ⟨rfl, _, rfl, by rw [mulz_eq, Int.toNat_natCast]; exact evsC_get hx, rfl⟩) ?_
      refine ar_new tOk rfl rfl rfl ?_ ?_
      · simp
      refine ar_store (h' := ⟨1, [(0, some (.mixed ((evC e).map .r))), (0, some (.mixed ((evC ev0).map .r)))], false⟩) (c := True) tOk (by kernel_rfl) rfl rfl trivial ?_
      refine zA ?_
      by_cases hbe : lefBad e
      · skip
        have cL := w_Leaf e hex
        rw [(lef_b hbe).1, (lef_b hbe).2] at cL
        refine ag_reg ?_
        refine pB ?_
        refine ar_pur (cL) rfl rfl rfl rfl rfl rfl rfl ?_
        iterate 5 refine pA ?_
        refine zA ?_
        refine zB ?_
        iterate 2 refine pA ?_
        refine ar_nil ?_
        refine ag_true rfl (by decide) ?_
        refine zB ?_
        iterate 3 refine pA ?_
        refine ar_nil ?_
        refine ag_ent (ent_nil 2 (.ro 0 []) rfl (.inr rfl)) ?_
        refine ag_ret tOk Try.func47 rfl rfl (by first | trivial | exact ⟨trivial, trivial⟩ | simp) ?_
        rw [lvs_b (fun q => q e (List.mem_of_getElem? hx) hbe)]
        rfl
      · skip
        have cL := w_Leaf e hex
        rw [(lef_g hbe).2] at cL
        refine ag_reg ?_
        refine pB ?_
        refine ar_pur (cL) rfl rfl rfl rfl rfl rfl rfl ?_
        iterate 5 refine pA ?_
        refine zA ?_
        refine zB ?_
        iterate 2 refine pA ?_
        refine ar_nil ?_
        refine ag_false rfl (by decide) ?_
        refine ag_skip ?_
        refine ag_reg ?_
        iterate 2 refine pA ?_
        refine ar_qd rfl (qop_buildRo tOk rfl ?_ rfl) rfl rfl rfl rfl ?_
        · repeat any_goals (first | trivial | decide | omega | (simp; done) | (rw [wu8]; omega) | refine ⟨?_, ?_⟩)
        refine ar_app tOk rfl rfl rfl ?_ ?_
        · refine ⟨⟨?_, ?_, ?_⟩, ⟨?_, ?_⟩, ⟨?_, ?_⟩, ?_⟩ <;> first | trivial | omega | (simp; done) | (simp; omega)
        refine pA ?_
        refine ar_nil ?_
        refine ag_inBlock ?_
        refine ag_reg ?_
        refine ar_pure tOk rfl rfl rfl ?_ ?_
        · unfold inI64; omega
        refine pA ?_
        refine ar_nil ?_
        refine ag_ent (ent_weak (g' := (strLv_0 L (i + 1, [.str (lefL e)])).1) (h' := (strLv_0 L (i + 1, [.str (lefL e)])).2) [1] rfl rfl rfl rfl ?_ ?_ rfl) ?_
        · exact ⟨⟨rfl, rfl⟩, ⟨rfl, rfl⟩, ⟨rfl, by exact eqI (by omega)⟩, ⟨rfl, rfl⟩, trivial⟩
        · exact ⟨⟨rfl, rfl, rfl⟩, trivial⟩
        have hnx := hrec (i + 1, [.str (lefL e)])
        refine hnx ?_ ?_
        · exact ⟨by omega, by rw [lefs_next hx, ← hacc]; try rfl, allG_next hx hbe hall⟩
        · show L.length - (i + 1) < L.length - i; omega
    · intro h12
      obtain rfl : i = L.length := by omega
      rw [List.take_length] at hacc hall
      refine ag_exit rfl ?_
      refine zB ?_
      iterate 3 refine pA ?_
      refine ar_nil ?_
      refine ag_ent (ent_nil 2 (.ro 0 []) rfl (.inr rfl)) ?_
      refine ag_ret tOk Try.func47 rfl rfl (by first | trivial | exact ⟨trivial, trivial⟩ | simp) ?_
      rw [lvs_g hall, show lefs L = [] from List.map_eq_nil_iff.1 hacc.symm]
      rfl
  | cons a l =>
    obtain ⟨hi, hacc, hall⟩ : _ := hp
    refine ag_ent (ent_weak (g' := [(9, roE L), (10, .r (.int .i64 (L.length : Int))), (11, .r (.int .i64 (i : Int))), (4, .sl 0 0 (l.length + 1) 1)]) (h' := ⟨1, [(0, some (.plain (a :: l)))], false⟩) [0] rfl rfl rfl rfl ?_ ?_ rfl) ?_
    · exact ⟨⟨rfl, rfl⟩, ⟨rfl, rfl⟩, ⟨rfl, rfl⟩, ⟨rfl, rfl⟩, trivial⟩
    · exact ⟨⟨rfl, rfl, rfl⟩, trivial⟩
    refine zB ?_
    refine pA ?_
    refine zA ?_
    refine ag_if rfl ?_ ?_
    · intro h12
      obtain ⟨e, hx⟩ : ∃ e, L[i]? = some e := ⟨L[i]'(by omega), by simp⟩
      have hex := hok e (List.mem_of_getElem? hx)
      have hln := congrArg List.length hacc
      simp only [sL, lefs, List.length_map, List.length_take, List.length_cons, List.length_nil] at hln
      refine ag_skip ?_
      refine ag_seq ?_
      refine ag_block ?_
      refine zB ?_
      refine ar_pure tOk rfl rfl rfl ?_ ?_
      · refine ⟨?_, ?_⟩ <;> first | omega | exact evsC_ne hx | (refine ⟨?_, ?_⟩ <;> omega)
      refine ar_loadAs tOk (eventA e) rfl rfl rfl rfl rfl rfl rfl (.inr ⟨rfl, _, rfl, by rw [mulz_eq, Int.toNat_natCast]; exact evsC_get hx, rfl⟩) ?_
      refine ar_new tOk rfl rfl rfl ?_ ?_
      · simp
      refine ar_store (h' := ⟨2, [(1, some (.mixed ((evC e).map .r))), (1, some (.mixed ((evC ev0).map .r))), (0, some (.plain (a :: l)))], false⟩) (c := True) tOk (by kernel_rfl) rfl rfl trivial ?_
      refine zA ?_
      by_cases hbe : lefBad e
      · skip
        have cL := w_Leaf e hex
        rw [(lef_b hbe).1, (lef_b hbe).2] at cL
        refine ag_reg ?_
        refine pB ?_
        refine ar_pur (cL) rfl rfl rfl rfl rfl rfl rfl ?_
        iterate 5 refine pA ?_
        refine zA ?_
        refine zB ?_
        iterate 2 refine pA ?_
        refine ar_nil ?_
        refine ag_true rfl (by decide) ?_
        refine zB ?_
        iterate 3 refine pA ?_
        refine ar_nil ?_
        refine ag_ent (ent_nil 2 (.ro 0 []) rfl (.inr rfl)) ?_
        refine ag_ret tOk Try.func47 rfl rfl (by first | trivial | exact ⟨trivial, trivial⟩ | simp) ?_
        rw [lvs_b (fun q => q e (List.mem_of_getElem? hx) hbe)]
        rfl
      · skip
        have cL := w_Leaf e hex
        rw [(lef_g hbe).2] at cL
        refine ag_reg ?_
        refine pB ?_
        refine ar_pur (cL) rfl rfl rfl rfl rfl rfl rfl ?_
        iterate 5 refine pA ?_
        refine zA ?_
        refine zB ?_
        iterate 2 refine pA ?_
        refine ar_nil ?_
        refine ag_false rfl (by decide) ?_
        refine ag_skip ?_
        refine ag_reg ?_
        iterate 2 refine pA ?_
        refine ar_qd rfl (qop_buildRo tOk rfl ?_ rfl) rfl rfl rfl rfl ?_
        · repeat any_goals (first | trivial | decide | omega | (simp; done) | (rw [wu8]; omega) | refine ⟨?_, ?_⟩)
        refine ar_app tOk rfl rfl rfl ?_ ?_
        · refine ⟨⟨?_, ?_, ?_⟩, ⟨?_, ?_⟩, ⟨?_, ?_⟩, ?_⟩ <;> first | trivial | omega | (simp; done) | (simp; omega)
        refine pA ?_
        refine ar_nil ?_
        refine ag_inBlock ?_
        refine ag_reg ?_
        refine ar_pure tOk rfl rfl rfl ?_ ?_
        · unfold inI64; omega
        refine pA ?_
        refine ar_nil ?_
        refine ag_ent (ent_weak (g' := (strLv_0 L (i + 1, a :: l ++ [.str (lefL e)])).1) (h' := (strLv_0 L (i + 1, a :: l ++ [.str (lefL e)])).2) [2] rfl rfl rfl rfl ?_ ?_ rfl) ?_
        · exact ⟨⟨rfl, rfl⟩, ⟨rfl, rfl⟩, ⟨rfl, by exact eqI (by omega)⟩, ⟨rfl, by exact eqSl (by simp)⟩, trivial⟩
        · exact ⟨⟨rfl, rfl, by exact eqPl (by simp [cutA_eq])⟩, trivial⟩
        have hnx := hrec (i + 1, a :: l ++ [.str (lefL e)])
        refine hnx ?_ ?_
        · exact ⟨by omega, by rw [lefs_next hx, ← hacc]; try rfl, allG_next hx hbe hall⟩
        · show L.length - (i + 1) < L.length - i; omega
    · intro h12
      obtain rfl : i = L.length := by omega
      rw [List.take_length] at hacc hall
      refine ag_exit rfl ?_
      refine zB ?_
      iterate 3 refine pA ?_
      refine ar_nil ?_
      refine ag_ent (ent_freeze 2 rfl rfl rfl trivial) ?_
      refine ag_ret tOk Try.func47 rfl rfl (by first | trivial | exact ⟨trivial, trivial⟩ | simp) ?_
      rw [lvs_g hall]
      show AVal.tuple [.r (.ro _ (cutA _ 0 _)), _] = _
      rw [roS_of2 hacc]
      rfl
theorem half_lt {n : Nat} (h : 2 ≤ n) : 1 ≤ (n + 1) / 2 ∧ (n + 1) / 2 < n := by omega
def rootR (L : List (List UInt8)) : List UInt8 :=
  if h : 2 ≤ L.length then sumL 1 [rootR (L.take ((L.length + 1) / 2)), rootR (L.drop ((L.length + 1) / 2))] else L.headD (sumL 2 [])
termination_by L.length
decreasing_by
  all_goals (first | rw [List.length_take] | rw [List.length_drop]); have := half_lt h; omega
theorem rootR_2 {L : List (List UInt8)} (h : 2 ≤ L.length) : rootR L = sumL 1 [rootR (L.take ((L.length + 1) / 2)), rootR (L.drop ((L.length + 1) / 2))] := by rw [rootR, dif_pos h]
theorem rootR_0 : rootR [] = sumL 2 [] := by rw [rootR, dif_neg (by decide)]; rfl
theorem rootR_1 (x : List UInt8) : rootR [x] = x := by rw [rootR, dif_neg (by simp)]; rfl
theorem rootR_le {L : List (List UInt8)} (h : ∀ p ∈ L, p.length ≤ 32) : (rootR L).length ≤ 32 := by
  by_cases h2 : 2 ≤ L.length
  · rw [rootR_2 h2, sumL_length]; exact Nat.le_refl _
  · match L, h2, h with
    | [], _, _ => rw [rootR_0, sumL_length]; exact Nat.le_refl _
    | [x], _, h => rw [rootR_1]; exact h x (by simp)
    | _ :: _ :: _, h2, _ => simp at h2
def pathR (L : List (List UInt8)) (i : Nat) : List (List UInt8) :=
  if h : 2 ≤ L.length then (if i < (L.length + 1) / 2 then pathR (L.take ((L.length + 1) / 2)) i ++ [rootR (L.drop ((L.length + 1) / 2))] else pathR (L.drop ((L.length + 1) / 2)) (i - (L.length + 1) / 2) ++ [rootR (L.take ((L.length + 1) / 2))]) else []
termination_by L.length
decreasing_by
  all_goals (first | rw [List.length_take] | rw [List.length_drop]); have := half_lt h; omega
theorem pathR_a {L : List (List UInt8)} {i : Nat} (h : 2 ≤ L.length) (hi : i < (L.length + 1) / 2) : pathR L i = pathR (L.take ((L.length + 1) / 2)) i ++ [rootR (L.drop ((L.length + 1) / 2))] := by rw [pathR, dif_pos h, if_pos hi]
theorem pathR_b {L : List (List UInt8)} {i : Nat} (h : 2 ≤ L.length) (hi : ¬ i < (L.length + 1) / 2) : pathR L i = pathR (L.drop ((L.length + 1) / 2)) (i - (L.length + 1) / 2) ++ [rootR (L.take ((L.length + 1) / 2))] := by rw [pathR, dif_pos h, if_neg hi]
theorem pathR_1 {L : List (List UInt8)} {i : Nat} (h : ¬ 2 ≤ L.length) : pathR L i = [] := by rw [pathR, dif_neg h]
theorem pathR_len : ∀ (n : Nat) (L : List (List UInt8)) (i : Nat), L.length = n → (pathR L i).length ≤ L.length
  | n, L, i, hn => by
    by_cases h : 2 ≤ L.length
    · have hl := half_lt h
      by_cases hi : i < (L.length + 1) / 2
      · rw [pathR_a h hi, List.length_append]
        have := pathR_len ((L.length + 1) / 2) (L.take ((L.length + 1) / 2)) i (by rw [List.length_take]; omega)
        rw [List.length_take] at this
        simp; omega
      · rw [pathR_b h hi, List.length_append]
        have := pathR_len (L.length - (L.length + 1) / 2) (L.drop ((L.length + 1) / 2)) (i - (L.length + 1) / 2) (by rw [List.length_drop])
        rw [List.length_drop] at this
        simp; omega
    · rw [pathR_1 h]; simp
termination_by n => n
decreasing_by all_goals omega
theorem take_roS {C : List (List UInt8)} {k : Nat} (h : k ≤ C.length) : AVal.r (.ro (Int.toNat (k : Int)) (List.take (mulz (k : Int) 1) (sL C))) = roS (C.take k) := by
  simp [roS, sL, mulz_eq, List.map_take, Nat.min_eq_left h]
theorem drop_roS {C : List (List UInt8)} {k : Nat} : AVal.r (.ro (C.length - (k : Int).toNat) (List.drop (mulz (k : Int) 1) (sL C))) = roS (C.drop k) := by simp [roS, sL, mulz_eq]
theorem w_half (n : Int) (h : 0 ≤ n ∧ n ≤ 9223372036854775806) : Pur Try.prog 71 [.r (.int .i64 n)] (.r (.int .i64 ((n + 1) / 2))) := by
  refine spec_of_go (N := 6) Try.func71 rfl (by decide) rfl rfl ?_
  refine zB ?_
  refine pA ?_
  refine zC ?_
  refine pA ?_
  refine ar_pure tOk rfl rfl rfl ?_ ?_
  · unfold inI64; omega
  refine ar_pure tOk rfl rfl rfl ?_ ?_
  · refine ⟨?_, by decide⟩
    show inI64 (Int.tdiv _ _)
    rw [Int.tdiv_eq_ediv_of_nonneg (by omega)]; unfold inI64; omega
  refine ar_ent (ent_reg 5 (.r (.int .i64 (((n + 1) / 2)))) (by show AVal.r (.int _ _) = _; exact eqI (Int.tdiv_eq_ediv_of_nonneg (by omega)))) ?_
  refine pA ?_
  refine ar_nil ?_
  refine ag_ret tOk Try.func71 rfl rfl (by simp) ?_
  rfl
theorem w_root0  : Pur Try.prog 48 [roS []] (.r (.str (rootR []))) := by
  have hS0 : Pur Try.prog 46 [.r (.int .u8 2), .r (.ro 0 [])] (.r (.str (sumL 2 []))) := w_sum2 [] (by decide) (by decide)
  refine spec_of_go (N := 27) Try.func48 rfl (by decide) rfl rfl ?_
  refine zB ?_
  refine pA ?_
  refine zA ?_
  refine zB ?_
  iterate 2 refine pA ?_
  refine ar_nil ?_
  refine ag_block ?_
  refine zB ?_
  iterate 2 refine pA ?_
  refine ar_nil ?_
  refine ag_true rfl (rfl) ?_
  refine zB ?_
  refine ar_pur (Spec.nils hS0 (by exact ⟨rfl, trivial, trivial⟩)) rfl rfl rfl rfl rfl rfl rfl ?_
  refine pA ?_
  refine ar_nil ?_
  refine ag_ret tOk Try.func48 rfl rfl (by simp) ?_
  rw [rootR_0]; rfl
theorem w_root1 (x : List UInt8) : Pur Try.prog 48 [roS [x]] (.r (.str (rootR [x]))) := by
  refine spec_of_go (N := 27) Try.func48 rfl (by decide) rfl rfl ?_
  refine zB ?_
  refine pA ?_
  refine zA ?_
  refine zB ?_
  iterate 2 refine pA ?_
  refine ar_nil ?_
  refine ag_block ?_
  refine zB ?_
  iterate 2 refine pA ?_
  refine ar_nil ?_
  refine ag_false rfl (rfl) ?_
  refine zB ?_
  iterate 2 refine pA ?_
  refine ar_nil ?_
  refine ag_true rfl (rfl) ?_
  refine zB ?_
  refine pA ?_
  refine ar_pure tOk rfl rfl rfl ?_ ?_
  · refine ⟨?_, ?_⟩ <;> first | (simp [sL]; done) | (refine ⟨?_, ?_⟩ <;> simp)
  refine ar_loadAs tOk (.r (.str x)) rfl rfl rfl rfl rfl rfl rfl (.inl ⟨rfl, by simp [Body.cells, mulz_eq, sL]⟩) ?_
  refine pA ?_
  refine ar_nil ?_
  refine ag_ret tOk Try.func48 rfl rfl (by simp) ?_
  rw [rootR_1]; rfl
theorem w_root2 (L : List (List UInt8)) (h2 : 2 ≤ L.length) (hL : L.length ≤ 1000000000000) (k : Nat) (hk : k = (L.length + 1) / 2) (A B : List UInt8) (hA : A.length ≤ 32) (hB : B.length ≤ 32) (c1 : Pur Try.prog 48 [AVal.r (.ro (Int.toNat (k : Int)) (List.take (mulz (k : Int) 1) (sL L)))] (.r (.str A))) (c2 : Pur Try.prog 48 [AVal.r (.ro (L.length - (k : Int).toNat) (List.drop (mulz (k : Int) 1) (sL L)))] (.r (.str B))) : Pur Try.prog 48 [roS L] (.r (.str (sumL 1 [A, B]))) := by
  have hsL : (sL L).length = L.length := by simp [sL]
  have cS : Pur Try.prog 46 [.r (.int .u8 1), .r (.ro 2 [.str A, .str B])] (.r (.str (sumL 1 [A, B]))) := w_sum1 [A, B] (by simp) (by simp; omega)
  refine spec_of_go (N := 27) Try.func48 rfl (by decide) rfl rfl ?_
  refine zB ?_
  refine pA ?_
  refine zA ?_
  refine zB ?_
  iterate 2 refine pA ?_
  refine ar_nil ?_
  refine ag_block ?_
  refine zB ?_
  iterate 2 refine pA ?_
  refine ar_nil ?_
  refine ag_false rfl (decide_eq_false (by omega)) ?_
  refine zB ?_
  iterate 2 refine pA ?_
  refine ar_nil ?_
  refine ag_false rfl (decide_eq_false (by omega)) ?_
  refine ag_skip ?_
  refine ag_inBlock ?_
  refine zB ?_
  iterate 2 refine pA ?_
  refine ar_pur (w_half (L.length : Int) ⟨by omega, by omega⟩) rfl rfl rfl rfl rfl rfl rfl ?_
  refine ar_ent (ent_reg 16 (.r (.int .i64 ((k : Int)))) (by show AVal.r (.int _ _) = _; exact eqI ((show (k : Int) = ((L.length : Int) + 1) / 2 by omega).symm))) ?_
  refine pA ?_
  refine zA ?_
  refine ag_draw0 (by kernel_rfl) (by kernel_rfl) ?_
  iterate 2 refine aq_pure tOk rfl rfl rfl trivial ?_
  refine aq_pure tOk rfl rfl rfl ?_ ?_
  · simp only [boundsOk]; omega
  refine aq_pur (c1) rfl rfl rfl rfl rfl rfl rfl ?_
  iterate 2 refine aq_pure tOk rfl rfl rfl trivial ?_
  refine aq_pure tOk rfl rfl rfl ?_ ?_
  · simp only [boundsOk]; omega
  refine aq_pur (c2) rfl rfl rfl rfl rfl rfl rfl ?_
  refine aq_qd (fun _ => qop_buildRo tOk rfl ?_ rfl) rfl rfl rfl rfl ?_
  · repeat any_goals (first | trivial | decide | omega | (simp; done) | (rw [wu8]; omega) | refine ⟨?_, ?_⟩)
  refine aq_pur (cS) rfl rfl rfl rfl rfl rfl rfl ?_
  refine aq_pure tOk rfl rfl rfl trivial ?_
  refine aq_nil rfl ?_
  refine ag_ret tOk Try.func48 rfl rfl (by simp) ?_
  rfl
theorem w_root : ∀ (n : Nat) (L : List (List UInt8)), L.length = n → n ≤ 1000000000000 → (∀ p ∈ L, p.length ≤ 32) → Pur Try.prog 48 [roS L] (.r (.str (rootR L)))
  | n, L, hn, hb, h32 => by
    by_cases h : 2 ≤ L.length
    · have hl := half_lt h
      have t32 : ∀ p ∈ L.take ((L.length + 1) / 2), p.length ≤ 32 := fun p hp => h32 p (List.mem_of_mem_take hp)
      have d32 : ∀ p ∈ L.drop ((L.length + 1) / 2), p.length ≤ 32 := fun p hp => h32 p (List.mem_of_mem_drop hp)
      have i1 := w_root ((L.length + 1) / 2) (L.take ((L.length + 1) / 2)) (by rw [List.length_take]; omega) (by omega) t32
      have i2 := w_root (L.length - (L.length + 1) / 2) (L.drop ((L.length + 1) / 2)) (by rw [List.length_drop]) (by omega) d32
      rw [← take_roS (by omega)] at i1
      rw [← drop_roS] at i2
      rw [rootR_2 h]
      exact w_root2 L h (by omega) _ rfl _ _ (rootR_le t32) (rootR_le d32) i1 i2
    · match L, h with
      | [], _ => exact w_root0
      | [x], _ => exact w_root1 x
      | _ :: _ :: _, h => simp at h
termination_by n => n
decreasing_by all_goals omega
end Go.Proofs.Ytancdgbclbkpkaa


/-
  WALKS: the laws ReceiptChecks, ReceiptBack. (Printed by gen.py out of w_rcpt7.py.)
-/
import Derived.Test.YtancdgbclbkpkaaRcpt6
namespace Go.Proofs.Ytancdgbclbkpkaa
open Go
set_option maxRecDepth 20000
set_option linter.unusedVariables false
set_option linter.unusedSimpArgs false
theorem lefE_z {e : EvV} : lefE e ≠ 0 ↔ lefBad e := by
  unfold lefE; split
  · rename_i h; exact ⟨fun _ => h, fun _ => by decide⟩
  · rename_i h; exact ⟨fun q => absurd rfl q, fun q => absurd q h⟩
theorem pathR_32 : ∀ (n : Nat) (L : List (List UInt8)) (i : Nat), L.length = n → (∀ p ∈ L, p.length ≤ 32) → ∀ p ∈ pathR L i, p.length ≤ 32
  | n, L, i, hn, h32 => by
    by_cases h : 2 ≤ L.length
    · have hl := half_lt h
      have t32 : ∀ p ∈ L.take ((L.length + 1) / 2), p.length ≤ 32 := fun p hp => h32 p (List.mem_of_mem_take hp)
      have d32 : ∀ p ∈ L.drop ((L.length + 1) / 2), p.length ≤ 32 := fun p hp => h32 p (List.mem_of_mem_drop hp)
      by_cases hi : i < (L.length + 1) / 2
      · rw [pathR_a h hi]
        intro p hp
        rcases List.mem_append.1 hp with q | q
        · exact pathR_32 ((L.length + 1) / 2) (L.take ((L.length + 1) / 2)) i (by rw [List.length_take]; omega) t32 p q
        · simp at q; rw [q]; exact rootR_le d32
      · rw [pathR_b h hi]
        intro p hp
        rcases List.mem_append.1 hp with q | q
        · exact pathR_32 (L.length - (L.length + 1) / 2) (L.drop ((L.length + 1) / 2)) (i - (L.length + 1) / 2) (by rw [List.length_drop]) d32 p q
        · simp at q; rw [q]; exact rootR_le t32
    · rw [pathR_1 h]; intro p hp; simp at hp
termination_by n => n
decreasing_by all_goals omega
theorem w_CheckN (top : List UInt8) (many i : Int) (e : EvV) (he : e.x.ok) (P : List (List UInt8)) (h : lefBad e ∨ i < 0 ∨ many ≤ i ∨ many > 1099511627776) : Pur Try.prog 26 [.r (.str top), .r (.int .i64 many), .r (.int .i64 i), eventA e, roS P] (.r (.bool false)) := by
  have cL := w_Leaf e he
  have hz := lefE_z (e := e)
  generalize lefE e = E at cL hz
  rw [← hz] at h
  refine spec_of_go (N := 49) Try.func26 rfl (by decide) rfl rfl ?_
  refine zB ?_
  refine ar_new tOk rfl rfl rfl trivial ?_
  refine pA ?_
  refine zC ?_
  refine pB ?_
  refine ar_pur (cL) rfl rfl rfl rfl rfl rfl rfl ?_
  iterate 5 refine pA ?_
  refine zA ?_
  refine zB ?_
  iterate 3 refine pA ?_
  refine ar_guard (t := decide (E ≠ 0)) (fun ht => ?_) (fun ht => ?_)
  · refine ar_ent (ent_reg 22 (.r (.bool true)) (by show AVal.r (.bool _) = _; exact eqB ht)) ?_
    have hk := of_decide_eq_true ht
    repeat (first | refine ar_skip rfl rfl rfl ?_ | refine ar_pure tOk rfl rfl rfl trivial ?_)
    refine ar_nil ?_
    refine ag_true rfl (by rfl) ?_
    refine zB ?_
    refine pA ?_
    refine ar_nil ?_
    refine ag_ret tOk Try.func26 rfl rfl (by simp) ?_
    rfl
  · refine ar_ent (ent_reg 22 (.r (.bool false)) (by show AVal.r (.bool _) = _; exact eqB ht)) ?_
    have hk0 := of_decide_eq_false ht
    iterate 4 refine pA ?_
    refine ar_guard (t := decide (i < 0)) (fun ht => ?_) (fun ht => ?_)
    · refine ar_ent (ent_reg 26 (.r (.bool true)) (by show AVal.r (.bool _) = _; exact eqB ht)) ?_
      have hk := of_decide_eq_true ht
      repeat (first | refine ar_skip rfl rfl rfl ?_ | refine ar_pure tOk rfl rfl rfl trivial ?_)
      refine ar_nil ?_
      refine ag_true rfl (by rfl) ?_
      refine zB ?_
      refine pA ?_
      refine ar_nil ?_
      refine ag_ret tOk Try.func26 rfl rfl (by simp) ?_
      rfl
    · refine ar_ent (ent_reg 26 (.r (.bool false)) (by show AVal.r (.bool _) = _; exact eqB ht)) ?_
      have hk1 := of_decide_eq_false ht
      iterate 5 refine pA ?_
      refine ar_guard (t := decide (i ≥ many)) (fun ht => ?_) (fun ht => ?_)
      · refine ar_ent (ent_reg 31 (.r (.bool true)) (by show AVal.r (.bool _) = _; exact eqB ht)) ?_
        have hk := of_decide_eq_true ht
        repeat (first | refine ar_skip rfl rfl rfl ?_ | refine ar_pure tOk rfl rfl rfl trivial ?_)
        refine ar_nil ?_
        refine ag_true rfl (by rfl) ?_
        refine zB ?_
        refine pA ?_
        refine ar_nil ?_
        refine ag_ret tOk Try.func26 rfl rfl (by simp) ?_
        rfl
      · refine ar_ent (ent_reg 31 (.r (.bool false)) (by show AVal.r (.bool _) = _; exact eqB ht)) ?_
        have hk2 := of_decide_eq_false ht
        iterate 3 refine pA ?_
        refine ar_nil ?_
        refine ag_true rfl (by show decide _ = true; exact decide_eq_true (by omega)) ?_
        refine zB ?_
        refine pA ?_
        refine ar_nil ?_
        refine ag_ret tOk Try.func26 rfl rfl (by simp) ?_
        rfl
theorem w_CheckG (top : List UInt8) (n i : Nat) (e : EvV) (he : e.x.ok) (P : List (List UInt8)) (hg : ¬ lefBad e) (hi : i < n) (hn : n ≤ 1099511627776) (hP : P.length ≤ 1000000000) (hq : ∀ p ∈ P, p.length ≤ 140737488350000) (x : List UInt8) (b : Bool) (hx : clR (lefL e) P.reverse n i = (x, b)) : Pur Try.prog 26 [.r (.str top), .r (.int .i64 (n : Int)), .r (.int .i64 (i : Int)), eventA e, roS P] (.r (.bool (b && decide (x = top)))) := by
  have cL := w_Leaf e he
  rw [(lef_g hg).2] at cL
  have cC := w_climbP (lefL e) (lef_32 e) P n i (by omega) hn hi hP hq
  rw [hx] at cC
  have cC2 : Pur Try.prog 51 [.r (.str (lefL e)), .r (.int .i64 (n : Int)), .r (.int .i64 (i : Int)), roS P] (.tuple [.r (.str x), .r (.bool b)]) := cC
  refine spec_of_go (N := 49) Try.func26 rfl (by decide) rfl rfl ?_
  refine zB ?_
  refine ar_new tOk rfl rfl rfl trivial ?_
  refine pA ?_
  refine zC ?_
  refine pB ?_
  refine ar_pur (cL) rfl rfl rfl rfl rfl rfl rfl ?_
  iterate 5 refine pA ?_
  refine zA ?_
  refine zB ?_
  iterate 3 refine pA ?_
  refine ar_ent (ent_reg 22 (.r (.bool false)) (by show AVal.r (.bool _) = _; exact eqB (by first | rfl | (show decide _ = false; exact decide_eq_false (by omega))))) ?_
  iterate 4 refine pA ?_
  refine ar_ent (ent_reg 26 (.r (.bool false)) (by show AVal.r (.bool _) = _; exact eqB (by first | rfl | (show decide _ = false; exact decide_eq_false (by omega))))) ?_
  iterate 5 refine pA ?_
  refine ar_ent (ent_reg 31 (.r (.bool false)) (by show AVal.r (.bool _) = _; exact eqB (by first | rfl | (show decide _ = false; exact decide_eq_false (by omega))))) ?_
  iterate 3 refine pA ?_
  refine ar_nil ?_
  refine ag_false rfl (by show decide _ = false; exact decide_eq_false (by omega)) ?_
  refine ag_skip ?_
  refine zB ?_
  iterate 4 refine pA ?_
  refine ar_pur (cC2) rfl rfl rfl rfl rfl rfl rfl ?_
  iterate 5 refine pA ?_
  refine zC ?_
  iterate 2 refine pA ?_
  refine ar_guard (t := b) (fun ht => ?_) (fun ht => ?_)
  · refine ar_ent (ent_reg 44 (.r (.bool true)) (by show AVal.r (.bool _) = _; exact eqB ht)) ?_
    have hb := ht
    iterate 5 refine pA ?_
    refine ar_nil ?_
    refine ag_ret tOk Try.func26 rfl rfl (by simp) ?_
    exact eqB (by simp [hb])
  · refine ar_ent (ent_reg 44 (.r (.bool false)) (by show AVal.r (.bool _) = _; exact eqB ht)) ?_
    have hb := ht
    repeat (first | refine ar_skip rfl rfl rfl ?_ | refine ar_pure tOk rfl rfl rfl trivial ?_)
    refine ar_nil ?_
    refine ag_ret tOk Try.func26 rfl rfl (by simp) ?_
    exact eqB (by simp [hb])
theorem roS_cutS {L : List (List UInt8)} {n : Nat} {l : List RVal} (hn : n = L.length) (hl : l = sL L) : AVal.r (.ro n (cutA l 0 (n * 1))) = roS L := by
  subst hn hl
  rw [cutA_eq, List.drop_zero, List.take_of_length_le (by simp [sL])]
  rfl
theorem w_ReceiptBack (L : List EvV) (hok : ∀ e ∈ L, e.x.ok) (hL : L.length * 240 ≤ 140737488355328) (i0 : Int) (other : List UInt8) (ho : other.length ≤ 1048576) : Pur Try.prog 7 [roE L, .r (.int .i64 i0), .r (.str other)] (.r (.bool true)) := by
  refine spec_of_go (N := 118) Try.func7 rfl (by decide) rfl rfl ?_
  refine zB ?_
  refine pA ?_
  refine zA ?_
  refine zB ?_
  refine ar_pur (w_alive30) rfl rfl rfl rfl rfl rfl rfl ?_
  refine pA ?_
  refine ar_nil ?_
  refine ag_false rfl (rfl) ?_
  refine ag_skip ?_
  refine ag_seq ?_
  refine zB ?_
  iterate 3 refine pA ?_
  refine ar_nil ?_
  refine ag_if rfl ?_ ?_
  · intro h16
    refine ag_reg ?_
    refine pA ?_
    refine ar_pure tOk rfl rfl rfl ?_ ?_
    · first | (simp only [boundsOk]; rw [evsC_len5]; omega) | (simp only [boundsOk]; omega)
    refine pA ?_
    refine zA ?_
    obtain ⟨M, hMl, hMok, hMe⟩ : ∃ M : List EvV, M.length ≤ 12 ∧ (∀ e ∈ M, e.x.ok) ∧ M = L.take 12 := ⟨_, by rw [List.length_take]; omega, fun e he => hok e (List.mem_of_mem_take he), rfl⟩
    refine ag_ent (ent_reg 0 (roE M) (by rw [hMe]; exact roE_take (L := L) (k := 12) (by omega))) ?_
    have hll : (lefs M).length = M.length := by simp [lefs]
    rcases (show ¬ allG M ∨ (allG M ∧ (i0 < 0 ∨ (M.length : Int) ≤ i0)) ∨ (allG M ∧ ∃ j : Nat, i0 = (j : Int) ∧ j < M.length) by
      by_cases g : allG M
      · by_cases h1 : i0 < 0 ∨ (M.length : Int) ≤ i0
        · exact .inr (.inl ⟨g, h1⟩)
        · exact .inr (.inr ⟨g, i0.toNat, by omega, by omega⟩)
      · exact .inl g) with hg | ⟨hg, hi0⟩ | ⟨hg, j, hj, hjl⟩
    · skip
      refine ag_reg ?_
      refine pA ?_
      refine ar_pur (w_RootB M hMok (by omega) hg) rfl rfl rfl rfl rfl rfl rfl ?_
      iterate 5 refine pA ?_
      refine zC ?_
      iterate 2 refine pA ?_
      refine ar_pur (w_ShowB M hMok (by omega) hg i0) rfl rfl rfl rfl rfl rfl rfl ?_
      iterate 5 refine pA ?_
      refine zA ?_
      refine zB ?_
      iterate 3 refine pA ?_
      refine ar_ent (ent_reg 32 (.r (.bool true)) (by show AVal.r (.bool _) = _; exact eqB (by rfl))) ?_
      iterate 2 refine ar_skip rfl rfl rfl ?_
      refine pA ?_
      refine ar_nil ?_
      refine ag_true rfl (by rfl) ?_
      refine zB ?_
      iterate 4 refine pA ?_
      refine ar_nil ?_
      refine ag_ret tOk Try.func7 rfl rfl (by simp) ?_
      rfl
    · skip
      refine ag_reg ?_
      refine pA ?_
      refine ar_pur (w_RootG M hMok (by omega) hg) rfl rfl rfl rfl rfl rfl rfl ?_
      iterate 5 refine pA ?_
      refine zC ?_
      iterate 2 refine pA ?_
      refine ar_pur (w_ShowX M hMok (by omega) hg i0 hi0) rfl rfl rfl rfl rfl rfl rfl ?_
      iterate 5 refine pA ?_
      refine zA ?_
      refine zB ?_
      iterate 3 refine pA ?_
      refine ar_ent (ent_reg 32 (.r (.bool false)) (by show AVal.r (.bool _) = _; exact eqB (by rfl))) ?_
      iterate 3 refine pA ?_
      refine ar_nil ?_
      refine ag_true rfl (by rfl) ?_
      refine zB ?_
      iterate 4 refine pA ?_
      refine ar_nil ?_
      refine ag_ret tOk Try.func7 rfl rfl (by simp) ?_
      rfl
    · skip
      subst hj
      obtain ⟨e, hx⟩ : ∃ e, M[j]? = some e := ⟨M[j]'(by omega), by simp⟩
      have hex := hMok e (List.mem_of_getElem? hx)
      have hge := hg e (List.mem_of_getElem? hx)
      have hsl : (lefs M)[j]? = some (lefL e) := by rw [lefs, List.getElem?_map, hx]; rfl
      have hcp := clR_path _ (lefs M) j (lefL e) hll hsl
      have hdp := dep_path (lefs M) j (by omega)
      rw [hll] at hdp
      have hp32 := pathR_32 _ (lefs M) j rfl (lefs_32 M)
      have hpl := pathR_len _ (lefs M) j rfl
      have cRt := w_RootG M hMok (by omega) hg
      have cSh := w_ShowG M hMok (by omega) hg j hjl
      generalize pathR (lefs M) j = P at hcp hdp hp32 hpl cSh
      generalize rootR (lefs M) = S at hcp cRt
      have hq0 : ∀ p ∈ P, p.length ≤ 140737488350000 := fun p hp => by have := hp32 p hp; omega
      have cG := fun top => w_CheckG top M.length j e hex P hge hjl (by omega) (by omega) hq0 S true hcp
      obtain ⟨x1, b1, hx1⟩ : ∃ x b, clR (lefL e) (P ++ [other]).reverse M.length j = (x, b) := ⟨_, _, rfl⟩
      have hb1 : b1 = false := by
        have h := clR_ok (lefL e) (P ++ [other]).reverse M.length j (by omega)
        rw [hx1, List.length_reverse, List.length_append] at h
        rw [show b1 = _ from h]; exact decide_eq_false (by simp only [List.length_cons, List.length_nil]; omega)
      subst hb1
      have c1 : Pur Try.prog 26 [.r (.str S), .r (.int .i64 (M.length : Int)), .r (.int .i64 (j : Int)), eventA e, roS (P ++ [other])] (.r (.bool false)) := w_CheckG S M.length j e hex (P ++ [other]) hge hjl (by omega) (by simp; omega) (fun p hp => (List.mem_append.1 hp).elim (fun q => hq0 p q) (fun q => by simp at q; rw [q]; omega)) x1 false hx1
      have c3 : Pur Try.prog 26 [.r (.str S), .r (.int .i64 (M.length : Int)), .r (.int .i64 (j : Int)), eventA e, roS P] (.r (.bool true)) := (cG S).mono_r (by simp)
      have c4 := cG other
      have c5 := w_CheckN S (M.length : Int) (M.length : Int) e hex P (.inr (.inr (.inl (Int.le_refl _))))
      clear cG hcp hx1
      refine ag_reg ?_
      refine pA ?_
      refine ar_pur (cRt) rfl rfl rfl rfl rfl rfl rfl ?_
      iterate 5 refine pA ?_
      refine zC ?_
      iterate 2 refine pA ?_
      refine ar_pur (cSh) rfl rfl rfl rfl rfl rfl rfl ?_
      iterate 5 refine pA ?_
      refine zA ?_
      refine zB ?_
      iterate 3 refine pA ?_
      refine ar_ent (ent_reg 32 (.r (.bool false)) (by show AVal.r (.bool _) = _; exact eqB (by rfl))) ?_
      iterate 3 refine pA ?_
      refine ar_nil ?_
      refine ag_false rfl (by rfl) ?_
      refine ag_skip ?_
      refine zB ?_
      refine ar_new tOk rfl rfl rfl ?_ ?_
      · simp
      refine pA ?_
      refine ar_app tOk rfl rfl rfl ?_ ?_
      · refine ⟨⟨?_, ?_, ?_⟩, ⟨?_, ?_⟩, ⟨?_, ?_⟩, ?_⟩ <;> first | trivial | decide | omega | (simp [sL]; done) | (simp [sL]; omega)
      refine pA ?_
      refine ar_qd rfl (qop_buildRo tOk rfl ?_ rfl) rfl rfl rfl rfl ?_
      · repeat any_goals (first | trivial | decide | omega | (simp; done) | (rw [wu8]; omega) | refine ⟨?_, ?_⟩)
      refine ar_app tOk rfl rfl rfl ?_ ?_
      · refine ⟨⟨?_, ?_, ?_⟩, ⟨?_, ?_⟩, ⟨?_, ?_⟩, ?_⟩ <;> first | trivial | decide | omega | (simp [sL]; done) | (simp [sL]; omega)
      refine pA ?_
      refine ar_nil ?_
      refine ag_ent (ent_freeze 11 rfl rfl rfl trivial) ?_
      refine ag_ent (ent_reg 11 (roS (P ++ [other])) (by show AVal.r (.ro _ (cutA _ 0 _)) = _; exact roS_cutS (by simp) (by simp [sL, cutA_eq, List.take_of_length_le]))) ?_
      refine ag_ent (ent_weak (g' := [(0, roE M), (1, .r (.int .i64 (j : Int))), (2, .r (.str other)), (7, .r (.str S)), (9, roS P), (11, roS (P ++ [other]))]) (h' := ⟨0, [], false⟩) [] rfl rfl rfl rfl ?_ ?_ rfl) ?_
      · exact ⟨⟨rfl, rfl⟩, ⟨rfl, rfl⟩, ⟨rfl, rfl⟩, ⟨rfl, rfl⟩, ⟨rfl, rfl⟩, ⟨rfl, rfl⟩, trivial⟩
      · trivial
      iterate 2 refine ag_seq ?_
      rcases (show P.length = 0 ∨ ∃ k, P.length = k + 1 by cases h : P.length with
        | zero => exact .inl rfl
        | succ k => exact .inr ⟨k, rfl⟩) with hk | ⟨k, hk⟩
      · skip
        refine ag_draw0 (by kernel_rfl) (by kernel_rfl) ?_
        iterate 6 refine aq_pure tOk rfl rfl rfl trivial ?_
        refine aq_pure tOk rfl rfl rfl ?_ ?_
        · refine ⟨?_, ?_⟩ <;> first | omega | exact evsC_ne hx | (refine ⟨?_, ?_⟩ <;> omega)
        refine aq_loadAs tOk (eventA e) rfl rfl rfl rfl (fun _ => rfl) rfl rfl (.inr ⟨rfl, _, rfl, by rw [mulz_eq, Int.toNat_natCast]; exact evsC_get hx, rfl⟩) ?_
        refine aq_pure tOk rfl rfl rfl trivial ?_
        refine aq_pur (c1) rfl rfl rfl rfl rfl rfl rfl ?_
        iterate 3 refine aq_pure tOk rfl rfl rfl trivial ?_
        refine aq_pureE tOk (.r (.bool false)) rfl (by show AVal.r (.bool _) = _; exact eqB (by simp [hk])) rfl rfl trivial ?_
        refine aq_pure tOk rfl rfl rfl trivial ?_
        iterate 14 refine aq_skip rfl rfl rfl ?_
        iterate 2 refine aq_pure tOk rfl rfl rfl trivial ?_
        refine aq_nil rfl ?_
        refine ag_false rfl (by rfl) ?_
        refine ag_skip ?_
        refine zB ?_
        iterate 6 refine pA ?_
        refine ar_pure tOk rfl rfl rfl ?_ ?_
        · refine ⟨?_, ?_⟩ <;> first | omega | exact evsC_ne hx | (refine ⟨?_, ?_⟩ <;> omega)
        refine ar_loadAs tOk (eventA e) rfl rfl rfl rfl rfl rfl rfl (.inr ⟨rfl, _, rfl, by rw [mulz_eq, Int.toNat_natCast]; exact evsC_get hx, rfl⟩) ?_
        refine pA ?_
        refine ar_pur (c3) rfl rfl rfl rfl rfl rfl rfl ?_
        refine pA ?_
        refine ar_ent (ent_reg 86 (.r (.bool true)) (by show AVal.r (.bool _) = _; exact eqB (by rfl))) ?_
        iterate 4 refine pA ?_
        refine ar_guard (t := decide (other = S)) (fun ht => ?_) (fun ht => ?_)
        · refine ar_ent (ent_reg 90 (.r (.bool true)) (by show AVal.r (.bool _) = _; exact eqB ht)) ?_
          have hk1 := ht
          iterate 11 refine ar_skip rfl rfl rfl ?_
          iterate 3 refine pA ?_
          refine ar_ent (ent_reg 104 (.r (.bool true)) (by show AVal.r (.bool _) = _; exact eqB (by first | rfl | (show (!(true && decide _)) = true; rw [decide_eq_false (fun q => hne q.symm)]; rfl)))) ?_
          iterate 7 refine pA ?_
          refine ar_pure tOk rfl rfl rfl ?_ ?_
          · refine ⟨?_, ?_⟩ <;> first | omega | exact evsC_ne hx | (refine ⟨?_, ?_⟩ <;> omega)
          refine ar_loadAs tOk (eventA e) rfl rfl rfl rfl rfl rfl rfl (.inr ⟨rfl, _, rfl, by rw [mulz_eq, Int.toNat_natCast]; exact evsC_get hx, rfl⟩) ?_
          refine pA ?_
          refine ar_pur (c5) rfl rfl rfl rfl rfl rfl rfl ?_
          iterate 3 refine pA ?_
          refine ar_nil ?_
          refine ag_ret tOk Try.func7 rfl rfl (by simp) ?_
          rfl
        · refine ar_ent (ent_reg 90 (.r (.bool false)) (by show AVal.r (.bool _) = _; exact eqB ht)) ?_
          have hne := of_decide_eq_false ht
          iterate 6 refine pA ?_
          refine ar_pure tOk rfl rfl rfl ?_ ?_
          · refine ⟨?_, ?_⟩ <;> first | omega | exact evsC_ne hx | (refine ⟨?_, ?_⟩ <;> omega)
          refine ar_loadAs tOk (eventA e) rfl rfl rfl rfl rfl rfl rfl (.inr ⟨rfl, _, rfl, by rw [mulz_eq, Int.toNat_natCast]; exact evsC_get hx, rfl⟩) ?_
          refine pA ?_
          refine ar_pur (c4) rfl rfl rfl rfl rfl rfl rfl ?_
          iterate 4 refine pA ?_
          refine ar_ent (ent_reg 104 (.r (.bool true)) (by show AVal.r (.bool _) = _; exact eqB (by first | rfl | (show (!(true && decide _)) = true; rw [decide_eq_false (fun q => hne q.symm)]; rfl)))) ?_
          iterate 7 refine pA ?_
          refine ar_pure tOk rfl rfl rfl ?_ ?_
          · refine ⟨?_, ?_⟩ <;> first | omega | exact evsC_ne hx | (refine ⟨?_, ?_⟩ <;> omega)
          refine ar_loadAs tOk (eventA e) rfl rfl rfl rfl rfl rfl rfl (.inr ⟨rfl, _, rfl, by rw [mulz_eq, Int.toNat_natCast]; exact evsC_get hx, rfl⟩) ?_
          refine pA ?_
          refine ar_pur (c5) rfl rfl rfl rfl rfl rfl rfl ?_
          iterate 3 refine pA ?_
          refine ar_nil ?_
          refine ag_ret tOk Try.func7 rfl rfl (by simp) ?_
          rfl
      · skip
        have hdl : (P.take k).length = k := by rw [List.length_take]; omega
        obtain ⟨x2, b2, hx2⟩ : ∃ x b, clR (lefL e) (P.take k).reverse M.length j = (x, b) := ⟨_, _, rfl⟩
        have hb2 : b2 = false := by
          have h := clR_ok (lefL e) (P.take k).reverse M.length j (by omega)
          rw [hx2, List.length_reverse, hdl] at h
          rw [show b2 = _ from h]; exact decide_eq_false (by omega)
        subst hb2
        have c2 : Pur Try.prog 26 [.r (.str S), .r (.int .i64 (M.length : Int)), .r (.int .i64 (j : Int)), eventA e, .r (.ro ((k : Int).toNat) (List.take (mulz (k : Int) 1) (sL P)))] (.r (.bool false)) := by
          rw [take_roS (by omega)]
          exact w_CheckG S M.length j e hex (P.take k) hge hjl (by omega) (by omega) (fun p hp => hq0 p (List.mem_of_mem_take hp)) x2 false hx2
        clear hx2
        refine ag_draw0 (by kernel_rfl) (by kernel_rfl) ?_
        iterate 6 refine aq_pure tOk rfl rfl rfl trivial ?_
        refine aq_pure tOk rfl rfl rfl ?_ ?_
        · refine ⟨?_, ?_⟩ <;> first | omega | exact evsC_ne hx | (refine ⟨?_, ?_⟩ <;> omega)
        refine aq_loadAs tOk (eventA e) rfl rfl rfl rfl (fun _ => rfl) rfl rfl (.inr ⟨rfl, _, rfl, by rw [mulz_eq, Int.toNat_natCast]; exact evsC_get hx, rfl⟩) ?_
        refine aq_pure tOk rfl rfl rfl trivial ?_
        refine aq_pur (c1) rfl rfl rfl rfl rfl rfl rfl ?_
        iterate 3 refine aq_pure tOk rfl rfl rfl trivial ?_
        refine aq_pureE tOk (.r (.bool true)) rfl (by show AVal.r (.bool _) = _; exact eqB (decide_eq_true (by omega))) rfl rfl trivial ?_
        iterate 7 refine aq_pure tOk rfl rfl rfl trivial ?_
        refine aq_pure tOk rfl rfl rfl ?_ ?_
        · refine ⟨?_, ?_⟩ <;> first | omega | exact evsC_ne hx | (refine ⟨?_, ?_⟩ <;> omega)
        refine aq_loadAs tOk (eventA e) rfl rfl rfl rfl (fun _ => rfl) rfl rfl (.inr ⟨rfl, _, rfl, by rw [mulz_eq, Int.toNat_natCast]; exact evsC_get hx, rfl⟩) ?_
        iterate 3 refine aq_pure tOk rfl rfl rfl trivial ?_
        refine aq_pureE tOk (.r (.int .i64 (k : Int))) rfl (by show AVal.r (.int _ _) = _; exact eqI (by omega)) rfl rfl (by unfold inI64; omega) ?_
        refine aq_pure tOk rfl rfl rfl ?_ ?_
        · simp only [boundsOk]; omega
        refine aq_pur (c2) rfl rfl rfl rfl rfl rfl rfl ?_
        iterate 2 refine aq_pure tOk rfl rfl rfl trivial ?_
        refine aq_nil rfl ?_
        refine ag_false rfl (by rfl) ?_
        refine ag_skip ?_
        refine zB ?_
        iterate 6 refine pA ?_
        refine ar_pure tOk rfl rfl rfl ?_ ?_
        · refine ⟨?_, ?_⟩ <;> first | omega | exact evsC_ne hx | (refine ⟨?_, ?_⟩ <;> omega)
        refine ar_loadAs tOk (eventA e) rfl rfl rfl rfl rfl rfl rfl (.inr ⟨rfl, _, rfl, by rw [mulz_eq, Int.toNat_natCast]; exact evsC_get hx, rfl⟩) ?_
        refine pA ?_
        refine ar_pur (c3) rfl rfl rfl rfl rfl rfl rfl ?_
        refine pA ?_
        refine ar_ent (ent_reg 86 (.r (.bool true)) (by show AVal.r (.bool _) = _; exact eqB (by rfl))) ?_
        iterate 4 refine pA ?_
        refine ar_guard (t := decide (other = S)) (fun ht => ?_) (fun ht => ?_)
        · refine ar_ent (ent_reg 90 (.r (.bool true)) (by show AVal.r (.bool _) = _; exact eqB ht)) ?_
          have hk1 := ht
          iterate 11 refine ar_skip rfl rfl rfl ?_
          iterate 3 refine pA ?_
          refine ar_ent (ent_reg 104 (.r (.bool true)) (by show AVal.r (.bool _) = _; exact eqB (by first | rfl | (show (!(true && decide _)) = true; rw [decide_eq_false (fun q => hne q.symm)]; rfl)))) ?_
          iterate 7 refine pA ?_
          refine ar_pure tOk rfl rfl rfl ?_ ?_
          · refine ⟨?_, ?_⟩ <;> first | omega | exact evsC_ne hx | (refine ⟨?_, ?_⟩ <;> omega)
          refine ar_loadAs tOk (eventA e) rfl rfl rfl rfl rfl rfl rfl (.inr ⟨rfl, _, rfl, by rw [mulz_eq, Int.toNat_natCast]; exact evsC_get hx, rfl⟩) ?_
          refine pA ?_
          refine ar_pur (c5) rfl rfl rfl rfl rfl rfl rfl ?_
          iterate 3 refine pA ?_
          refine ar_nil ?_
          refine ag_ret tOk Try.func7 rfl rfl (by simp) ?_
          rfl
        · refine ar_ent (ent_reg 90 (.r (.bool false)) (by show AVal.r (.bool _) = _; exact eqB ht)) ?_
          have hne := of_decide_eq_false ht
          iterate 6 refine pA ?_
          refine ar_pure tOk rfl rfl rfl ?_ ?_
          · refine ⟨?_, ?_⟩ <;> first | omega | exact evsC_ne hx | (refine ⟨?_, ?_⟩ <;> omega)
          refine ar_loadAs tOk (eventA e) rfl rfl rfl rfl rfl rfl rfl (.inr ⟨rfl, _, rfl, by rw [mulz_eq, Int.toNat_natCast]; exact evsC_get hx, rfl⟩) ?_
          refine pA ?_
          refine ar_pur (c4) rfl rfl rfl rfl rfl rfl rfl ?_
          iterate 4 refine pA ?_
          refine ar_ent (ent_reg 104 (.r (.bool true)) (by show AVal.r (.bool _) = _; exact eqB (by first | rfl | (show (!(true && decide _)) = true; rw [decide_eq_false (fun q => hne q.symm)]; rfl)))) ?_
          iterate 7 refine pA ?_
          refine ar_pure tOk rfl rfl rfl ?_ ?_
          · refine ⟨?_, ?_⟩ <;> first | omega | exact evsC_ne hx | (refine ⟨?_, ?_⟩ <;> omega)
          refine ar_loadAs tOk (eventA e) rfl rfl rfl rfl rfl rfl rfl (.inr ⟨rfl, _, rfl, by rw [mulz_eq, Int.toNat_natCast]; exact evsC_get hx, rfl⟩) ?_
          refine pA ?_
          refine ar_pur (c5) rfl rfl rfl rfl rfl rfl rfl ?_
          iterate 3 refine pA ?_
          refine ar_nil ?_
          refine ag_ret tOk Try.func7 rfl rfl (by simp) ?_
          rfl
  · intro h16
    refine ag_skip ?_
    refine ag_seq ?_
    obtain ⟨M, hMl, hMok, hMe⟩ : ∃ M : List EvV, M.length ≤ 12 ∧ (∀ e ∈ M, e.x.ok) ∧ M = L := ⟨L, by omega, hok, rfl⟩
    refine ag_ent (ent_reg 0 (roE M) (by rw [hMe]; rfl)) ?_
    have hll : (lefs M).length = M.length := by simp [lefs]
    rcases (show ¬ allG M ∨ (allG M ∧ (i0 < 0 ∨ (M.length : Int) ≤ i0)) ∨ (allG M ∧ ∃ j : Nat, i0 = (j : Int) ∧ j < M.length) by
      by_cases g : allG M
      · by_cases h1 : i0 < 0 ∨ (M.length : Int) ≤ i0
        · exact .inr (.inl ⟨g, h1⟩)
        · exact .inr (.inr ⟨g, i0.toNat, by omega, by omega⟩)
      · exact .inl g) with hg | ⟨hg, hi0⟩ | ⟨hg, j, hj, hjl⟩
    · skip
      refine ag_reg ?_
      refine pA ?_
      refine ar_pur (w_RootB M hMok (by omega) hg) rfl rfl rfl rfl rfl rfl rfl ?_
      iterate 5 refine pA ?_
      refine zC ?_
      iterate 2 refine pA ?_
      refine ar_pur (w_ShowB M hMok (by omega) hg i0) rfl rfl rfl rfl rfl rfl rfl ?_
      iterate 5 refine pA ?_
      refine zA ?_
      refine zB ?_
      iterate 3 refine pA ?_
      refine ar_ent (ent_reg 32 (.r (.bool true)) (by show AVal.r (.bool _) = _; exact eqB (by rfl))) ?_
      iterate 2 refine ar_skip rfl rfl rfl ?_
      refine pA ?_
      refine ar_nil ?_
      refine ag_true rfl (by rfl) ?_
      refine zB ?_
      iterate 4 refine pA ?_
      refine ar_nil ?_
      refine ag_ret tOk Try.func7 rfl rfl (by simp) ?_
      rfl
    · skip
      refine ag_reg ?_
      refine pA ?_
      refine ar_pur (w_RootG M hMok (by omega) hg) rfl rfl rfl rfl rfl rfl rfl ?_
      iterate 5 refine pA ?_
      refine zC ?_
      iterate 2 refine pA ?_
      refine ar_pur (w_ShowX M hMok (by omega) hg i0 hi0) rfl rfl rfl rfl rfl rfl rfl ?_
      iterate 5 refine pA ?_
      refine zA ?_
      refine zB ?_
      iterate 3 refine pA ?_
      refine ar_ent (ent_reg 32 (.r (.bool false)) (by show AVal.r (.bool _) = _; exact eqB (by rfl))) ?_
      iterate 3 refine pA ?_
      refine ar_nil ?_
      refine ag_true rfl (by rfl) ?_
      refine zB ?_
      iterate 4 refine pA ?_
      refine ar_nil ?_
      refine ag_ret tOk Try.func7 rfl rfl (by simp) ?_
      rfl
    · skip
      subst hj
      obtain ⟨e, hx⟩ : ∃ e, M[j]? = some e := ⟨M[j]'(by omega), by simp⟩
      have hex := hMok e (List.mem_of_getElem? hx)
      have hge := hg e (List.mem_of_getElem? hx)
      have hsl : (lefs M)[j]? = some (lefL e) := by rw [lefs, List.getElem?_map, hx]; rfl
      have hcp := clR_path _ (lefs M) j (lefL e) hll hsl
      have hdp := dep_path (lefs M) j (by omega)
      rw [hll] at hdp
      have hp32 := pathR_32 _ (lefs M) j rfl (lefs_32 M)
      have hpl := pathR_len _ (lefs M) j rfl
      have cRt := w_RootG M hMok (by omega) hg
      have cSh := w_ShowG M hMok (by omega) hg j hjl
      generalize pathR (lefs M) j = P at hcp hdp hp32 hpl cSh
      generalize rootR (lefs M) = S at hcp cRt
      have hq0 : ∀ p ∈ P, p.length ≤ 140737488350000 := fun p hp => by have := hp32 p hp; omega
      have cG := fun top => w_CheckG top M.length j e hex P hge hjl (by omega) (by omega) hq0 S true hcp
      obtain ⟨x1, b1, hx1⟩ : ∃ x b, clR (lefL e) (P ++ [other]).reverse M.length j = (x, b) := ⟨_, _, rfl⟩
      have hb1 : b1 = false := by
        have h := clR_ok (lefL e) (P ++ [other]).reverse M.length j (by omega)
        rw [hx1, List.length_reverse, List.length_append] at h
        rw [show b1 = _ from h]; exact decide_eq_false (by simp only [List.length_cons, List.length_nil]; omega)
      subst hb1
      have c1 : Pur Try.prog 26 [.r (.str S), .r (.int .i64 (M.length : Int)), .r (.int .i64 (j : Int)), eventA e, roS (P ++ [other])] (.r (.bool false)) := w_CheckG S M.length j e hex (P ++ [other]) hge hjl (by omega) (by simp; omega) (fun p hp => (List.mem_append.1 hp).elim (fun q => hq0 p q) (fun q => by simp at q; rw [q]; omega)) x1 false hx1
      have c3 : Pur Try.prog 26 [.r (.str S), .r (.int .i64 (M.length : Int)), .r (.int .i64 (j : Int)), eventA e, roS P] (.r (.bool true)) := (cG S).mono_r (by simp)
      have c4 := cG other
      have c5 := w_CheckN S (M.length : Int) (M.length : Int) e hex P (.inr (.inr (.inl (Int.le_refl _))))
      clear cG hcp hx1
      refine ag_reg ?_
      refine pA ?_
      refine ar_pur (cRt) rfl rfl rfl rfl rfl rfl rfl ?_
      iterate 5 refine pA ?_
      refine zC ?_
      iterate 2 refine pA ?_
      refine ar_pur (cSh) rfl rfl rfl rfl rfl rfl rfl ?_
      iterate 5 refine pA ?_
      refine zA ?_
      refine zB ?_
      iterate 3 refine pA ?_
      refine ar_ent (ent_reg 32 (.r (.bool false)) (by show AVal.r (.bool _) = _; exact eqB (by rfl))) ?_
      iterate 3 refine pA ?_
      refine ar_nil ?_
      refine ag_false rfl (by rfl) ?_
      refine ag_skip ?_
      refine zB ?_
      refine ar_new tOk rfl rfl rfl ?_ ?_
      · simp
      refine pA ?_
      refine ar_app tOk rfl rfl rfl ?_ ?_
      · refine ⟨⟨?_, ?_, ?_⟩, ⟨?_, ?_⟩, ⟨?_, ?_⟩, ?_⟩ <;> first | trivial | decide | omega | (simp [sL]; done) | (simp [sL]; omega)
      refine pA ?_
      refine ar_qd rfl (qop_buildRo tOk rfl ?_ rfl) rfl rfl rfl rfl ?_
      · repeat any_goals (first | trivial | decide | omega | (simp; done) | (rw [wu8]; omega) | refine ⟨?_, ?_⟩)
      refine ar_app tOk rfl rfl rfl ?_ ?_
      · refine ⟨⟨?_, ?_, ?_⟩, ⟨?_, ?_⟩, ⟨?_, ?_⟩, ?_⟩ <;> first | trivial | decide | omega | (simp [sL]; done) | (simp [sL]; omega)
      refine pA ?_
      refine ar_nil ?_
      refine ag_ent (ent_freeze 11 rfl rfl rfl trivial) ?_
      refine ag_ent (ent_reg 11 (roS (P ++ [other])) (by show AVal.r (.ro _ (cutA _ 0 _)) = _; exact roS_cutS (by simp) (by simp [sL, cutA_eq, List.take_of_length_le]))) ?_
      refine ag_ent (ent_weak (g' := [(0, roE M), (1, .r (.int .i64 (j : Int))), (2, .r (.str other)), (7, .r (.str S)), (9, roS P), (11, roS (P ++ [other]))]) (h' := ⟨0, [], false⟩) [] rfl rfl rfl rfl ?_ ?_ rfl) ?_
      · exact ⟨⟨rfl, rfl⟩, ⟨rfl, rfl⟩, ⟨rfl, rfl⟩, ⟨rfl, rfl⟩, ⟨rfl, rfl⟩, ⟨rfl, rfl⟩, trivial⟩
      · trivial
      iterate 2 refine ag_seq ?_
      rcases (show P.length = 0 ∨ ∃ k, P.length = k + 1 by cases h : P.length with
        | zero => exact .inl rfl
        | succ k => exact .inr ⟨k, rfl⟩) with hk | ⟨k, hk⟩
      · skip
        refine ag_draw0 (by kernel_rfl) (by kernel_rfl) ?_
        iterate 6 refine aq_pure tOk rfl rfl rfl trivial ?_
        refine aq_pure tOk rfl rfl rfl ?_ ?_
        · refine ⟨?_, ?_⟩ <;> first | omega | exact evsC_ne hx | (refine ⟨?_, ?_⟩ <;> omega)
        refine aq_loadAs tOk (eventA e) rfl rfl rfl rfl (fun _ => rfl) rfl rfl (.inr ⟨rfl, _, rfl, by rw [mulz_eq, Int.toNat_natCast]; exact evsC_get hx, rfl⟩) ?_
        refine aq_pure tOk rfl rfl rfl trivial ?_
        refine aq_pur (c1) rfl rfl rfl rfl rfl rfl rfl ?_
        iterate 3 refine aq_pure tOk rfl rfl rfl trivial ?_
        refine aq_pureE tOk (.r (.bool false)) rfl (by show AVal.r (.bool _) = _; exact eqB (by simp [hk])) rfl rfl trivial ?_
        refine aq_pure tOk rfl rfl rfl trivial ?_
        iterate 14 refine aq_skip rfl rfl rfl ?_
        iterate 2 refine aq_pure tOk rfl rfl rfl trivial ?_
        refine aq_nil rfl ?_
        refine ag_false rfl (by rfl) ?_
        refine ag_skip ?_
        refine zB ?_
        iterate 6 refine pA ?_
        refine ar_pure tOk rfl rfl rfl ?_ ?_
        · refine ⟨?_, ?_⟩ <;> first | omega | exact evsC_ne hx | (refine ⟨?_, ?_⟩ <;> omega)
        refine ar_loadAs tOk (eventA e) rfl rfl rfl rfl rfl rfl rfl (.inr ⟨rfl, _, rfl, by rw [mulz_eq, Int.toNat_natCast]; exact evsC_get hx, rfl⟩) ?_
        refine pA ?_
        refine ar_pur (c3) rfl rfl rfl rfl rfl rfl rfl ?_
        refine pA ?_
        refine ar_ent (ent_reg 86 (.r (.bool true)) (by show AVal.r (.bool _) = _; exact eqB (by rfl))) ?_
        iterate 4 refine pA ?_
        refine ar_guard (t := decide (other = S)) (fun ht => ?_) (fun ht => ?_)
        · refine ar_ent (ent_reg 90 (.r (.bool true)) (by show AVal.r (.bool _) = _; exact eqB ht)) ?_
          have hk1 := ht
          iterate 11 refine ar_skip rfl rfl rfl ?_
          iterate 3 refine pA ?_
          refine ar_ent (ent_reg 104 (.r (.bool true)) (by show AVal.r (.bool _) = _; exact eqB (by first | rfl | (show (!(true && decide _)) = true; rw [decide_eq_false (fun q => hne q.symm)]; rfl)))) ?_
          iterate 7 refine pA ?_
          refine ar_pure tOk rfl rfl rfl ?_ ?_
          · refine ⟨?_, ?_⟩ <;> first | omega | exact evsC_ne hx | (refine ⟨?_, ?_⟩ <;> omega)
          refine ar_loadAs tOk (eventA e) rfl rfl rfl rfl rfl rfl rfl (.inr ⟨rfl, _, rfl, by rw [mulz_eq, Int.toNat_natCast]; exact evsC_get hx, rfl⟩) ?_
          refine pA ?_
          refine ar_pur (c5) rfl rfl rfl rfl rfl rfl rfl ?_
          iterate 3 refine pA ?_
          refine ar_nil ?_
          refine ag_ret tOk Try.func7 rfl rfl (by simp) ?_
          rfl
        · refine ar_ent (ent_reg 90 (.r (.bool false)) (by show AVal.r (.bool _) = _; exact eqB ht)) ?_
          have hne := of_decide_eq_false ht
          iterate 6 refine pA ?_
          refine ar_pure tOk rfl rfl rfl ?_ ?_
          · refine ⟨?_, ?_⟩ <;> first | omega | exact evsC_ne hx | (refine ⟨?_, ?_⟩ <;> omega)
          refine ar_loadAs tOk (eventA e) rfl rfl rfl rfl rfl rfl rfl (.inr ⟨rfl, _, rfl, by rw [mulz_eq, Int.toNat_natCast]; exact evsC_get hx, rfl⟩) ?_
          refine pA ?_
          refine ar_pur (c4) rfl rfl rfl rfl rfl rfl rfl ?_
          iterate 4 refine pA ?_
          refine ar_ent (ent_reg 104 (.r (.bool true)) (by show AVal.r (.bool _) = _; exact eqB (by first | rfl | (show (!(true && decide _)) = true; rw [decide_eq_false (fun q => hne q.symm)]; rfl)))) ?_
          iterate 7 refine pA ?_
          refine ar_pure tOk rfl rfl rfl ?_ ?_
          · refine ⟨?_, ?_⟩ <;> first | omega | exact evsC_ne hx | (refine ⟨?_, ?_⟩ <;> omega)
          refine ar_loadAs tOk (eventA e) rfl rfl rfl rfl rfl rfl rfl (.inr ⟨rfl, _, rfl, by rw [mulz_eq, Int.toNat_natCast]; exact evsC_get hx, rfl⟩) ?_
          refine pA ?_
          refine ar_pur (c5) rfl rfl rfl rfl rfl rfl rfl ?_
          iterate 3 refine pA ?_
          refine ar_nil ?_
          refine ag_ret tOk Try.func7 rfl rfl (by simp) ?_
          rfl
      · skip
        have hdl : (P.take k).length = k := by rw [List.length_take]; omega
        obtain ⟨x2, b2, hx2⟩ : ∃ x b, clR (lefL e) (P.take k).reverse M.length j = (x, b) := ⟨_, _, rfl⟩
        have hb2 : b2 = false := by
          have h := clR_ok (lefL e) (P.take k).reverse M.length j (by omega)
          rw [hx2, List.length_reverse, hdl] at h
          rw [show b2 = _ from h]; exact decide_eq_false (by omega)
        subst hb2
        have c2 : Pur Try.prog 26 [.r (.str S), .r (.int .i64 (M.length : Int)), .r (.int .i64 (j : Int)), eventA e, .r (.ro ((k : Int).toNat) (List.take (mulz (k : Int) 1) (sL P)))] (.r (.bool false)) := by
          rw [take_roS (by omega)]
          exact w_CheckG S M.length j e hex (P.take k) hge hjl (by omega) (by omega) (fun p hp => hq0 p (List.mem_of_mem_take hp)) x2 false hx2
        clear hx2
        refine ag_draw0 (by kernel_rfl) (by kernel_rfl) ?_
        iterate 6 refine aq_pure tOk rfl rfl rfl trivial ?_
        refine aq_pure tOk rfl rfl rfl ?_ ?_
        · refine ⟨?_, ?_⟩ <;> first | omega | exact evsC_ne hx | (refine ⟨?_, ?_⟩ <;> omega)
        refine aq_loadAs tOk (eventA e) rfl rfl rfl rfl (fun _ => rfl) rfl rfl (.inr ⟨rfl, _, rfl, by rw [mulz_eq, Int.toNat_natCast]; exact evsC_get hx, rfl⟩) ?_
        refine aq_pure tOk rfl rfl rfl trivial ?_
        refine aq_pur (c1) rfl rfl rfl rfl rfl rfl rfl ?_
        iterate 3 refine aq_pure tOk rfl rfl rfl trivial ?_
        refine aq_pureE tOk (.r (.bool true)) rfl (by show AVal.r (.bool _) = _; exact eqB (decide_eq_true (by omega))) rfl rfl trivial ?_
        iterate 7 refine aq_pure tOk rfl rfl rfl trivial ?_
        refine aq_pure tOk rfl rfl rfl ?_ ?_
        · refine ⟨?_, ?_⟩ <;> first | omega | exact evsC_ne hx | (refine ⟨?_, ?_⟩ <;> omega)
        refine aq_loadAs tOk (eventA e) rfl rfl rfl rfl (fun _ => rfl) rfl rfl (.inr ⟨rfl, _, rfl, by rw [mulz_eq, Int.toNat_natCast]; exact evsC_get hx, rfl⟩) ?_
        iterate 3 refine aq_pure tOk rfl rfl rfl trivial ?_
        refine aq_pureE tOk (.r (.int .i64 (k : Int))) rfl (by show AVal.r (.int _ _) = _; exact eqI (by omega)) rfl rfl (by unfold inI64; omega) ?_
        refine aq_pure tOk rfl rfl rfl ?_ ?_
        · simp only [boundsOk]; omega
        refine aq_pur (c2) rfl rfl rfl rfl rfl rfl rfl ?_
        iterate 2 refine aq_pure tOk rfl rfl rfl trivial ?_
        refine aq_nil rfl ?_
        refine ag_false rfl (by rfl) ?_
        refine ag_skip ?_
        refine zB ?_
        iterate 6 refine pA ?_
        refine ar_pure tOk rfl rfl rfl ?_ ?_
        · refine ⟨?_, ?_⟩ <;> first | omega | exact evsC_ne hx | (refine ⟨?_, ?_⟩ <;> omega)
        refine ar_loadAs tOk (eventA e) rfl rfl rfl rfl rfl rfl rfl (.inr ⟨rfl, _, rfl, by rw [mulz_eq, Int.toNat_natCast]; exact evsC_get hx, rfl⟩) ?_
        refine pA ?_
        refine ar_pur (c3) rfl rfl rfl rfl rfl rfl rfl ?_
        refine pA ?_
        refine ar_ent (ent_reg 86 (.r (.bool true)) (by show AVal.r (.bool _) = _; exact eqB (by rfl))) ?_
        iterate 4 refine pA ?_
        refine ar_guard (t := decide (other = S)) (fun ht => ?_) (fun ht => ?_)
        · refine ar_ent (ent_reg 90 (.r (.bool true)) (by show AVal.r (.bool _) = _; exact eqB ht)) ?_
          have hk1 := ht
          iterate 11 refine ar_skip rfl rfl rfl ?_
          iterate 3 refine pA ?_
          refine ar_ent (ent_reg 104 (.r (.bool true)) (by show AVal.r (.bool _) = _; exact eqB (by first | rfl | (show (!(true && decide _)) = true; rw [decide_eq_false (fun q => hne q.symm)]; rfl)))) ?_
          iterate 7 refine pA ?_
          refine ar_pure tOk rfl rfl rfl ?_ ?_
          · refine ⟨?_, ?_⟩ <;> first | omega | exact evsC_ne hx | (refine ⟨?_, ?_⟩ <;> omega)
          refine ar_loadAs tOk (eventA e) rfl rfl rfl rfl rfl rfl rfl (.inr ⟨rfl, _, rfl, by rw [mulz_eq, Int.toNat_natCast]; exact evsC_get hx, rfl⟩) ?_
          refine pA ?_
          refine ar_pur (c5) rfl rfl rfl rfl rfl rfl rfl ?_
          iterate 3 refine pA ?_
          refine ar_nil ?_
          refine ag_ret tOk Try.func7 rfl rfl (by simp) ?_
          rfl
        · refine ar_ent (ent_reg 90 (.r (.bool false)) (by show AVal.r (.bool _) = _; exact eqB ht)) ?_
          have hne := of_decide_eq_false ht
          iterate 6 refine pA ?_
          refine ar_pure tOk rfl rfl rfl ?_ ?_
          · refine ⟨?_, ?_⟩ <;> first | omega | exact evsC_ne hx | (refine ⟨?_, ?_⟩ <;> omega)
          refine ar_loadAs tOk (eventA e) rfl rfl rfl rfl rfl rfl rfl (.inr ⟨rfl, _, rfl, by rw [mulz_eq, Int.toNat_natCast]; exact evsC_get hx, rfl⟩) ?_
          refine pA ?_
          refine ar_pur (c4) rfl rfl rfl rfl rfl rfl rfl ?_
          iterate 4 refine pA ?_
          refine ar_ent (ent_reg 104 (.r (.bool true)) (by show AVal.r (.bool _) = _; exact eqB (by first | rfl | (show (!(true && decide _)) = true; rw [decide_eq_false (fun q => hne q.symm)]; rfl)))) ?_
          iterate 7 refine pA ?_
          refine ar_pure tOk rfl rfl rfl ?_ ?_
          · refine ⟨?_, ?_⟩ <;> first | omega | exact evsC_ne hx | (refine ⟨?_, ?_⟩ <;> omega)
          refine ar_loadAs tOk (eventA e) rfl rfl rfl rfl rfl rfl rfl (.inr ⟨rfl, _, rfl, by rw [mulz_eq, Int.toNat_natCast]; exact evsC_get hx, rfl⟩) ?_
          refine pA ?_
          refine ar_pur (c5) rfl rfl rfl rfl rfl rfl rfl ?_
          iterate 3 refine pA ?_
          refine ar_nil ?_
          refine ag_ret tOk Try.func7 rfl rfl (by simp) ?_
          rfl
end Go.Proofs.Ytancdgbclbkpkaa


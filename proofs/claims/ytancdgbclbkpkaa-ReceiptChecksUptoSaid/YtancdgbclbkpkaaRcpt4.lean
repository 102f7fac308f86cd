/-
  WALKS: receipts (paths whole, Root, Show, the law's leaf). (Printed by gen.py out of w_rcpt4.py.)
-/
import Derived.Test.YtancdgbclbkpkaaRcpt3
namespace Go.Proofs.Ytancdgbclbkpkaa
open Go
set_option maxRecDepth 20000
set_option linter.unusedVariables false
set_option linter.unusedSimpArgs false
theorem w_pathOwn : ∀ (n : Nat) (L : List (List UInt8)) (i : Nat), L.length = n → n ≤ 1000000000000 → (∀ p ∈ L, p.length ≤ 32) → i < n → 2 ≤ n → Own Try.prog 49 [roS L, .r (.int .i64 (i : Int))] (pathR L i).length 1 (.plain (sL (pathR L i)))
  | n, L, i, hn, hb, h32, hi, h2 => by
    have h2' : 2 ≤ L.length := by omega
    have hl := half_lt h2'
    have t32 : ∀ p ∈ L.take ((L.length + 1) / 2), p.length ≤ 32 := fun p hp => h32 p (List.mem_of_mem_take hp)
    have d32 : ∀ p ∈ L.drop ((L.length + 1) / 2), p.length ≤ 32 := fun p hp => h32 p (List.mem_of_mem_drop hp)
    have tl : (L.take ((L.length + 1) / 2)).length = (L.length + 1) / 2 := by rw [List.length_take]; omega
    have dl : (L.drop ((L.length + 1) / 2)).length = L.length - (L.length + 1) / 2 := List.length_drop
    have i1 := w_root ((L.length + 1) / 2) (L.take ((L.length + 1) / 2)) tl (by omega) t32
    have i2 := w_root (L.length - (L.length + 1) / 2) (L.drop ((L.length + 1) / 2)) dl (by omega) d32
    rw [← take_roS (by omega)] at i1
    rw [← drop_roS] at i2
    by_cases hk : i < (L.length + 1) / 2
    · rw [pathR_a h2' hk, List.length_append]
      have pl := pathR_len _ (L.take ((L.length + 1) / 2)) i rfl
      by_cases hs : 2 ≤ (L.length + 1) / 2
      · have ih := w_pathOwn ((L.length + 1) / 2) (L.take ((L.length + 1) / 2)) i tl (by omega) t32 hk hs
        rw [← take_roS (by omega)] at ih
        exact w_pathAO L h2' (by omega) _ rfl i hk (by omega) _ (by omega) _ ih i2
      · have c := w_path1 (L.take ((L.length + 1) / 2)) (by omega) (i : Int)
        rw [← take_roS (by omega)] at c
        rw [pathR_1 (by omega)]
        exact w_pathAN L h2' (by omega) _ rfl i hk (by omega) _ c i2
    · rw [pathR_b h2' hk, List.length_append]
      have pl := pathR_len _ (L.drop ((L.length + 1) / 2)) (i - (L.length + 1) / 2) rfl
      have ei : ((i - (L.length + 1) / 2 : Nat) : Int) = (i : Int) - (((L.length + 1) / 2 : Nat) : Int) := by omega
      by_cases hs : 2 ≤ L.length - (L.length + 1) / 2
      · have ih := w_pathOwn (L.length - (L.length + 1) / 2) (L.drop ((L.length + 1) / 2)) (i - (L.length + 1) / 2) dl (by omega) d32 (by omega) hs
        rw [← drop_roS, ei] at ih
        exact w_pathBO L h2' (by omega) _ rfl i hk (by omega) _ (by omega) _ ih i1
      · have c := w_path1 (L.drop ((L.length + 1) / 2)) (by omega) ((i : Int) - (((L.length + 1) / 2 : Nat) : Int))
        rw [← drop_roS] at c
        rw [pathR_1 (by omega)]
        exact w_pathBN L h2' (by omega) _ rfl i hk (by omega) _ c i1
termination_by n => n
decreasing_by all_goals omega
theorem w_pathRo (L : List (List UInt8)) (i : Nat) (hb : L.length ≤ 1000000000000) (h32 : ∀ p ∈ L, p.length ≤ 32) (hi : i < L.length) : Pur Try.prog 49 [roS L, .r (.int .i64 (i : Int))] (roS (pathR L i)) := by
  by_cases h : 2 ≤ L.length
  · refine (own_to_ro (w_pathOwn _ L i rfl hb h32 hi h) rfl trivial).mono_r ?_
    rw [cutA_eq, List.drop_zero, List.take_of_length_le (by simp [sL])]
    rfl
  · rw [pathR_1 h]; exact nil_ro (w_path1 L (by omega) i)
theorem w_RootG (L : List EvV) (hok : ∀ e ∈ L, e.x.ok) (hL : L.length * 240 ≤ 140737488355328) (hg : allG L) : Pur Try.prog 21 [roE L] (.tuple [.r (.str (rootR (lefs L))), .r (.int .i64 0)]) := by
  have cL := w_leaves L hok (by omega)
  rw [lvs_g hg] at cL
  have hll : (lefs L).length = L.length := by simp [lefs]
  refine spec_of_go (N := 16) Try.func21 rfl (by decide) rfl rfl ?_
  refine zB ?_
  iterate 2 refine pA ?_
  refine zC ?_
  refine pA ?_
  refine ar_pur (cL) rfl rfl rfl rfl rfl rfl rfl ?_
  iterate 5 refine pA ?_
  refine zA ?_
  refine zB ?_
  iterate 2 refine pA ?_
  refine ar_nil ?_
  refine ag_false rfl (by decide) ?_
  refine ag_skip ?_
  refine zB ?_
  refine pA ?_
  refine ar_pur (w_root _ (lefs L) rfl (by omega) (lefs_32 L)) rfl rfl rfl rfl rfl rfl rfl ?_
  iterate 2 refine pA ?_
  refine ar_nil ?_
  refine ag_ret tOk Try.func21 rfl rfl (by first | trivial | exact ⟨trivial, trivial⟩ | simp) ?_
  rfl
theorem w_ShowG (L : List EvV) (hok : ∀ e ∈ L, e.x.ok) (hL : L.length * 240 ≤ 140737488355328) (hg : allG L) (i : Nat) (hi : i < L.length) : Pur Try.prog 22 [roE L, .r (.int .i64 (i : Int))] (.tuple [roS (pathR (lefs L) i), .r (.int .i64 0)]) := by
  have cL := w_leaves L hok (by omega)
  rw [lvs_g hg] at cL
  have hll : (lefs L).length = L.length := by simp [lefs]
  refine spec_of_go (N := 29) Try.func22 rfl (by decide) rfl rfl ?_
  refine zB ?_
  iterate 2 refine pA ?_
  refine zC ?_
  refine pA ?_
  refine ar_pur (cL) rfl rfl rfl rfl rfl rfl rfl ?_
  iterate 5 refine pA ?_
  refine zA ?_
  refine ag_block ?_
  refine zB ?_
  iterate 3 refine pA ?_
  refine ar_nil ?_
  refine ag_false rfl (by decide) ?_
  refine zB ?_
  iterate 3 refine pA ?_
  refine ar_ent (ent_reg 20 (.r (.bool false)) (by show AVal.r (.bool _) = _; exact eqB (decide_eq_false (by omega)))) ?_
  iterate 6 refine pA ?_
  refine ar_nil ?_
  refine ag_false rfl (by show decide _ = false; exact decide_eq_false (by omega)) ?_
  refine ag_skip ?_
  refine ag_inBlock ?_
  refine zB ?_
  iterate 2 refine pA ?_
  refine ar_pur (w_pathRo (lefs L) i (by omega) (lefs_32 L) (by omega)) rfl rfl rfl rfl rfl rfl rfl ?_
  iterate 2 refine pA ?_
  refine ar_nil ?_
  refine ag_ret tOk Try.func22 rfl rfl (by first | trivial | exact ⟨trivial, trivial⟩ | simp) ?_
  rfl
theorem lf_fin (b : List UInt8) : AVal.tuple [.r (.str (sha ([0] ++ b))), .r (.bool true)] = .tuple [.r (.str (sumL 0 [b])), .r (.bool true)] := by simp [sumL]
theorem w_rleaf (e : EvV) (he : e.x.ok) : Pur Try.prog 19 [eventA e] (.tuple [.r (.str (lefL e)), .r (.bool (decide (¬ lefBad e)))]) := by
  have c1 := w_rTx e.x
  have cP : Pur Try.prog 38 [.agg [.r .nil, .r (.int .i64 0)], txA e.x] (wV (pTx ([], 0) e.x)) := Spec.args (w_rPutTx ([], 0) wok0 e.x he) (fun R μ w cs h => by simp only [ARels] at h ⊢; obtain ⟨c, r, rfl, h1, h2⟩ := h; exact ⟨c, r, rfl, nil_agg h1, h2⟩)
  have cN : Pur Try.prog 40 [.agg [.r .nil, .r (.int .i64 0)], .r (.int .i64 e.t)] (wV (wnum ([], 0) e.t)) := Spec.args (w_rNumC ([], 0) e.t wok0) (fun R μ w cs h => by simp only [ARels] at h ⊢; obtain ⟨c, r, rfl, h1, h2⟩ := h; exact ⟨c, r, rfl, nil_agg h1, h2⟩)
  have hb1 : (txE e.x ≠ 0 ∨ e.t < 0 ∨ e.t > 1099511627776 ∨ e.c < 0 ∨ e.c > 255) → lefBad e := by
    unfold lefBad
    rintro (q | q | q | q | q)
    · exact .inl (by rw [octL, if_pos q]; exact q)
    · exact .inr (.inl q)
    · exact .inr (.inr (.inl q))
    · exact .inr (.inr (.inr (.inl q)))
    · exact .inr (.inr (.inr (.inr (.inl q))))
  have hx0 : txE e.x = 0 → octL e.x = pTx ([], 0) e.x := fun h => by rw [octL, if_neg (by omega)]
  have hwp := wok_pTx (t := e.x) wok0
  obtain ⟨x, hx⟩ : ∃ x, pTx ([], 0) e.x = x := ⟨_, rfl⟩
  rw [hx] at cP hx0 hwp
  obtain ⟨w, hw⟩ : ∃ w, wtxt (wnum (wnum ([], 0) e.t) e.c) x.1 = w := ⟨_, rfl⟩
  have hW : txE e.x = 0 → lefW e = w := fun h => by rw [lefW, hx0 h, hw]
  have hwk : wok w := by rw [← hw]; exact wok_txt (wok_num (wok_num wok0))
  have hb3 : ¬ (txE e.x ≠ 0 ∨ e.t < 0 ∨ e.t > 1099511627776 ∨ e.c < 0 ∨ e.c > 255) → ¬ x.2 ≠ 0 → ¬ w.2 ≠ 0 → ¬ lefBad e := by
    intro q r s
    unfold lefBad
    rw [hx0 (by omega), hW (by omega)]
    omega
  have c2 := w_rNumC _ e.c (wok_num (n := e.t) wok0)
  have c3 := w_rTextC _ x.1 (wok_num (n := e.c) (wok_num (n := e.t) wok0))
  rw [hw] at c3
  generalize txE e.x = E at c1 hb1 hb3 hx0 hW
  have hb2 : (x.2 ≠ 0 ∨ w.2 ≠ 0) → ¬ (E ≠ 0 ∨ e.t < 0 ∨ e.t > 1099511627776 ∨ e.c < 0 ∨ e.c > 255) → lefBad e := by
    intro q r
    unfold lefBad
    rw [hx0 (by omega), hW (by omega)]
    rcases q with q | q
    · exact .inl q
    · exact .inr (.inr (.inr (.inr (.inr q))))
  refine spec_of_go (N := 59) Try.func19 rfl (by decide) rfl rfl ?_
  refine zB ?_
  refine ar_new tOk rfl rfl rfl trivial ?_
  iterate 2 refine pA ?_
  refine zA ?_
  refine zB ?_
  refine pA ?_
  refine pB ?_
  refine ar_pur (c1) rfl rfl rfl rfl rfl rfl rfl ?_
  iterate 2 refine pA ?_
  refine ar_guard (t := decide (E ≠ 0)) (fun ht => ?_) (fun ht => ?_)
  · refine ar_ent (ent_reg 10 (.r (.bool true)) (by show AVal.r (.bool _) = _; exact eqB ht)) ?_
    have hk := of_decide_eq_true ht
    repeat (first | refine ar_skip rfl rfl rfl ?_ | refine ar_pure tOk rfl rfl rfl trivial ?_)
    refine ar_nil ?_
    refine ag_true rfl (by rfl) ?_
    refine zB ?_
    iterate 2 refine pA ?_
    refine ar_nil ?_
    refine ag_ret tOk Try.func19 rfl rfl (by first | trivial | exact ⟨trivial, trivial⟩ | simp) ?_
    have hbad : lefBad e := hb1 (by omega)
    rw [(lef_b hbad).1, decide_eq_false (p := ¬ lefBad e) (fun q => q hbad)]
    rfl
  · refine ar_ent (ent_reg 10 (.r (.bool false)) (by show AVal.r (.bool _) = _; exact eqB ht)) ?_
    have hk0 := of_decide_eq_false ht
    refine pA ?_
    refine pB ?_
    iterate 3 refine pA ?_
    refine ar_guard (t := decide (e.t < 0)) (fun ht => ?_) (fun ht => ?_)
    · refine ar_ent (ent_reg 15 (.r (.bool true)) (by show AVal.r (.bool _) = _; exact eqB ht)) ?_
      have hk := of_decide_eq_true ht
      repeat (first | refine ar_skip rfl rfl rfl ?_ | refine ar_pure tOk rfl rfl rfl trivial ?_)
      refine ar_nil ?_
      refine ag_true rfl (by rfl) ?_
      refine zB ?_
      iterate 2 refine pA ?_
      refine ar_nil ?_
      refine ag_ret tOk Try.func19 rfl rfl (by first | trivial | exact ⟨trivial, trivial⟩ | simp) ?_
      have hbad : lefBad e := hb1 (by omega)
      rw [(lef_b hbad).1, decide_eq_false (p := ¬ lefBad e) (fun q => q hbad)]
      rfl
    · refine ar_ent (ent_reg 15 (.r (.bool false)) (by show AVal.r (.bool _) = _; exact eqB ht)) ?_
      have hk1 := of_decide_eq_false ht
      refine pA ?_
      refine pB ?_
      iterate 3 refine pA ?_
      refine ar_guard (t := decide (e.t > 1099511627776)) (fun ht => ?_) (fun ht => ?_)
      · refine ar_ent (ent_reg 20 (.r (.bool true)) (by show AVal.r (.bool _) = _; exact eqB ht)) ?_
        have hk := of_decide_eq_true ht
        repeat (first | refine ar_skip rfl rfl rfl ?_ | refine ar_pure tOk rfl rfl rfl trivial ?_)
        refine ar_nil ?_
        refine ag_true rfl (by rfl) ?_
        refine zB ?_
        iterate 2 refine pA ?_
        refine ar_nil ?_
        refine ag_ret tOk Try.func19 rfl rfl (by first | trivial | exact ⟨trivial, trivial⟩ | simp) ?_
        have hbad : lefBad e := hb1 (by omega)
        rw [(lef_b hbad).1, decide_eq_false (p := ¬ lefBad e) (fun q => q hbad)]
        rfl
      · refine ar_ent (ent_reg 20 (.r (.bool false)) (by show AVal.r (.bool _) = _; exact eqB ht)) ?_
        have hk2 := of_decide_eq_false ht
        refine pA ?_
        refine pB ?_
        iterate 3 refine pA ?_
        refine ar_guard (t := decide (e.c < 0)) (fun ht => ?_) (fun ht => ?_)
        · refine ar_ent (ent_reg 25 (.r (.bool true)) (by show AVal.r (.bool _) = _; exact eqB ht)) ?_
          have hk := of_decide_eq_true ht
          repeat (first | refine ar_skip rfl rfl rfl ?_ | refine ar_pure tOk rfl rfl rfl trivial ?_)
          refine ar_nil ?_
          refine ag_true rfl (by rfl) ?_
          refine zB ?_
          iterate 2 refine pA ?_
          refine ar_nil ?_
          refine ag_ret tOk Try.func19 rfl rfl (by first | trivial | exact ⟨trivial, trivial⟩ | simp) ?_
          have hbad : lefBad e := hb1 (by omega)
          rw [(lef_b hbad).1, decide_eq_false (p := ¬ lefBad e) (fun q => q hbad)]
          rfl
        · refine ar_ent (ent_reg 25 (.r (.bool false)) (by show AVal.r (.bool _) = _; exact eqB ht)) ?_
          have hk3 := of_decide_eq_false ht
          refine pA ?_
          refine pB ?_
          iterate 2 refine pA ?_
          refine ar_nil ?_
          refine ag_if rfl ?_ ?_
          · intro h29
            refine zB ?_
            iterate 2 refine pA ?_
            refine ar_nil ?_
            refine ag_ret tOk Try.func19 rfl rfl (by first | trivial | exact ⟨trivial, trivial⟩ | simp) ?_
            have hbad : lefBad e := hb1 (by omega)
            rw [(lef_b hbad).1, decide_eq_false (p := ¬ lefBad e) (fun q => q hbad)]
            rfl
          · intro h29
            refine ag_skip ?_
            refine zB ?_
            refine ar_pure tOk rfl rfl rfl ?_ ?_
            · simp
            refine pA ?_
            refine pB ?_
            refine ar_pur (cP) rfl rfl rfl rfl rfl rfl rfl ?_
            refine ar_new tOk rfl rfl rfl ?_ ?_
            · simp
            refine ar_store tOk rfl rfl rfl trivial ?_
            refine ar_nil ?_
            refine ag_ent (ent_weak (g' := [(1, .ptr 0 0), (4, .ptr 1 0)]) (h' := ⟨2, [(0, some (.mixed ((evC e).map .r))), (1, some (.mixed [.r (.bs x.1), .r (.int .i64 x.2)]))], false⟩) [0, 1] rfl rfl rfl rfl ?_ ?_ rfl) ?_
            · exact ⟨⟨rfl, rfl⟩, ⟨rfl, rfl⟩, trivial⟩
            · exact ⟨⟨rfl, rfl, rfl⟩, ⟨rfl, rfl, rfl⟩, trivial⟩
            refine ag_seq ?_
            apply ag_draw2 (h1 := ⟨3, [(2, some (.mixed [.r .nil, .r (.int .i64 0)])), (0, some (.mixed ((evC e).map .r))), (1, some (.mixed [.r (.bs x.1), .r (.int .i64 x.2)]))], false⟩) [5] (by kernel_rfl) (by kernel_rfl)
            refine aq_pure tOk rfl rfl rfl ?_ ?_
            · simp
            refine aq_pure tOk rfl rfl rfl trivial ?_
            refine aq_load1 tOk rfl (by kernel_rfl) rfl rfl rfl rfl trivial ⟨_, rfl, trivial⟩ ?_
            refine aq_pur (cN) rfl rfl rfl rfl rfl rfl rfl ?_
            refine aq_pure tOk rfl rfl rfl trivial ?_
            refine aq_load1 tOk rfl (by kernel_rfl) rfl rfl rfl rfl trivial ⟨_, rfl, trivial⟩ ?_
            refine aq_pur (c2) rfl rfl rfl rfl rfl rfl rfl ?_
            refine aq_pure tOk rfl rfl rfl trivial ?_
            refine aq_load1 tOk rfl (by kernel_rfl) rfl rfl rfl rfl trivial ⟨_, rfl, trivial⟩ ?_
            refine aq_pure tOk rfl rfl rfl trivial ?_
            refine aq_pur (c3) rfl rfl rfl rfl rfl rfl rfl ?_
            refine' aq_new20 tOk rfl rfl rfl rfl rfl ?_ ?_
            rotate_left 1
            · simp
            refine aq_store21 tOk rfl rfl rfl rfl trivial ?_
            refine aq_nil rfl ?_
            refine ag_ent (ent_weak (g' := [(1, .ptr 0 0), (4, .ptr 1 0), (5, .ptr 2 0)]) (h' := ⟨3, [(0, some (.mixed ((evC e).map .r))), (1, some (.mixed [.r (.bs x.1), .r (.int .i64 x.2)])), (2, some (.mixed [.r (.bs w.1), .r (.int .i64 w.2)]))], false⟩) [0, 1, 2] rfl rfl rfl rfl ?_ ?_ rfl) ?_
            · exact ⟨⟨rfl, rfl⟩, ⟨rfl, rfl⟩, ⟨rfl, rfl⟩, trivial⟩
            · exact ⟨⟨rfl, rfl, rfl⟩, ⟨rfl, rfl, rfl⟩, ⟨rfl, rfl, rfl⟩, trivial⟩
            refine ag_seq ?_
            refine zB ?_
            refine pA ?_
            refine pB ?_
            iterate 2 refine pA ?_
            refine ar_guard (t := decide (x.2 ≠ 0)) (fun ht => ?_) (fun ht => ?_)
            · refine ar_ent (ent_reg 48 (.r (.bool true)) (by show AVal.r (.bool _) = _; exact eqB ht)) ?_
              have hk := of_decide_eq_true ht
              repeat (first | refine ar_skip rfl rfl rfl ?_ | refine ar_pure tOk rfl rfl rfl trivial ?_)
              refine ar_nil ?_
              refine ag_true rfl (by rfl) ?_
              refine zB ?_
              iterate 2 refine pA ?_
              refine ar_nil ?_
              refine ag_ret tOk Try.func19 rfl rfl (by first | trivial | exact ⟨trivial, trivial⟩ | simp) ?_
              have hbad : lefBad e := hb2 (.inl hk) (by omega)
              rw [(lef_b hbad).1, decide_eq_false (p := ¬ lefBad e) (fun q => q hbad)]
              rfl
            · refine ar_ent (ent_reg 48 (.r (.bool false)) (by show AVal.r (.bool _) = _; exact eqB ht)) ?_
              have hk5 := of_decide_eq_false ht
              refine pA ?_
              refine pB ?_
              iterate 2 refine pA ?_
              refine ar_nil ?_
              refine ag_if rfl ?_ ?_
              · intro h52
                refine zB ?_
                iterate 2 refine pA ?_
                refine ar_nil ?_
                refine ag_ret tOk Try.func19 rfl rfl (by first | trivial | exact ⟨trivial, trivial⟩ | simp) ?_
                have hbad : lefBad e := hb2 (.inr h52) (by omega)
                rw [(lef_b hbad).1, decide_eq_false (p := ¬ lefBad e) (fun q => q hbad)]
                rfl
              · intro h52
                refine ag_skip ?_
                refine zB ?_
                refine ar_qd rfl (qop_buildRo tOk rfl ?_ rfl) rfl rfl rfl rfl ?_
                · repeat any_goals (first | trivial | decide | omega | (simp; done) | (rw [wu8]; omega) | refine ⟨?_, ?_⟩)
                refine pA ?_
                refine pB ?_
                refine ar_pur (w_rCat [0] w.1 (by have := hwk.1; simp; omega)) rfl rfl rfl rfl rfl rfl rfl ?_
                refine ar_pur (w_rSum ([0] ++ w.1) (by have := hwk.1; simp; omega)) rfl rfl rfl rfl rfl rfl rfl ?_
                iterate 3 refine pA ?_
                refine ar_nil ?_
                refine ag_ret tOk Try.func19 rfl rfl (by first | trivial | exact ⟨trivial, trivial⟩ | simp) ?_
                have hgood : ¬ lefBad e := hb3 (by omega) (by simpa using hk5) (by simpa using h52)
                rw [(lef_g hgood).1, decide_eq_true (p := ¬ lefBad e) hgood, hW (by omega)]
                exact lf_fin w.1
theorem w_alive30  : Pur Try.prog 18 [] (.r (.bool true)) := by
  have hg : allG [⟨0, 0, ⟨0, 0, 1, 0, 1, 0, 0, 0, inv0, var0, 0, 0, 0, 0, []⟩⟩] := by intro e he; simp at he; subst he; decide +kernel
  have cS0 := w_ShowG [⟨0, 0, ⟨0, 0, 1, 0, 1, 0, 0, 0, inv0, var0, 0, 0, 0, 0, []⟩⟩] (by intro e he; simp at he; subst he; exact ⟨⟨by decide, by decide⟩, ⟨by decide, by decide⟩, ⟨by decide, by decide⟩, ⟨by decide, by decide⟩, ⟨by decide, by decide⟩, ⟨⟨by decide, by decide⟩, ⟨by decide, by decide⟩, ⟨by decide, by decide⟩, ⟨by decide, by decide⟩⟩, ⟨by decide, by decide⟩, ⟨by decide, by decide⟩, ⟨by decide, by decide⟩, ⟨by decide, by decide⟩, by decide⟩) (by decide) hg 0 (by decide)
  rw [pathR_1 (by simp [lefs])] at cS0
  have cS : Pur Try.prog 22 [.r (.ro 1 (evC ⟨0, 0, ⟨0, 0, 1, 0, 1, 0, 0, 0, inv0, var0, 0, 0, 0, 0, []⟩⟩)), .r (.int .i64 0)] (.tuple [.r (.ro 0 []), .r (.int .i64 0)]) := cS0
  have cR0 : Pur Try.prog 21 [.r (.ro 0 [])] (.tuple [.r (.str (rootR (lefs []))), .r (.int .i64 0)]) := w_RootG [] (by simp) (by decide) (by intro e he; simp at he)
  have hl : (rootR (lefs [])).length = 32 := by rw [show lefs [] = [] from rfl, rootR_0, sumL_length]
  generalize rootR (lefs []) = S at cR0 hl
  have cR : Pur Try.prog 21 [.r .nil] (.tuple [.r (.str S), .r (.int .i64 0)]) := Spec.nils cR0 (by exact ⟨trivial, trivial⟩)
  refine spec_of_go (N := 33) Try.func18 rfl (by decide) rfl rfl ?_
  refine zB ?_
  refine pA ?_
  refine zC ?_
  refine ar_pure tOk rfl rfl rfl ?_ ?_
  · simp
  refine ar_pure tOk rfl rfl rfl ?_ ?_
  · simp
  refine ar_pure tOk rfl rfl rfl ?_ ?_
  · simp
  refine ar_qd rfl (qop_buildRoK tOk (v := .ro 1 (evC ⟨0, 0, ⟨0, 0, 1, 0, 1, 0, 0, 0, inv0, var0, 0, 0, 0, 0, []⟩⟩)) (by kernel_rfl) (by kernel_rfl)) rfl rfl rfl rfl ?_
  refine ar_pur (cS) rfl rfl rfl rfl rfl rfl rfl ?_
  iterate 5 refine pA ?_
  refine zC ?_
  refine ar_pur (cR) rfl rfl rfl rfl rfl rfl rfl ?_
  iterate 5 refine pA ?_
  refine zC ?_
  iterate 3 refine pA ?_
  refine ar_ent (ent_reg 19 (.r (.bool true)) (by show AVal.r (.bool _) = _; exact eqB (by rfl))) ?_
  iterate 5 refine pA ?_
  refine ar_ent (ent_reg 24 (.r (.bool true)) (by show AVal.r (.bool _) = _; exact eqB (by rfl))) ?_
  iterate 4 refine pA ?_
  refine ar_ent (ent_reg 28 (.r (.bool true)) (by show AVal.r (.bool _) = _; exact eqB (by rfl))) ?_
  iterate 5 refine pA ?_
  refine ar_nil ?_
  refine ag_ret tOk Try.func18 rfl rfl (by simp) ?_
  exact eqB (by simp [hl])
end Go.Proofs.Ytancdgbclbkpkaa


/-
  WALKS: transactions read by the reference; octets; the whole by kinds. (Printed by gen.py out of w_txs3.py.)
-/
import Derived.Test.YtbofioheoohlgaaTxs2
namespace Go.Proofs.Ytbofioheoohlgaa
open Go
set_option maxRecDepth 20000
set_option linter.unusedVariables false
set_option linter.unusedSimpArgs false

theorem w_rGet1 (w : W) (hk : (gNu w M40).1 = 1) : Pur Try.prog 46 [wV w] (.tuple [txA (gTxs w).1, wV (gTxs w).2]) := by
  obtain ⟨a, ha⟩ : ∃ a, gNu w M40 = a := ⟨_, rfl⟩
  obtain ⟨b, hb⟩ : ∃ b, gNu a.2 M40 = b := ⟨_, rfl⟩
  obtain ⟨c, hc⟩ : ∃ c, gNu b.2 M40 = c := ⟨_, rfl⟩
  obtain ⟨d, hd⟩ : ∃ d, gNu c.2 M40 = d := ⟨_, rfl⟩
  obtain ⟨e, he⟩ : ∃ e, tkR d.2 32 = e := ⟨_, rfl⟩
  obtain ⟨f, hf⟩ : ∃ f, gNu e.2 M40 = f := ⟨_, rfl⟩
  rw [ha] at hk
  have hG : gTxs w = gTxsV (hdA a b c d e ⟨0, [], 0, 0, 0, f.1, []⟩ var0) f.2 := by simp only [gTxs, ha, hb, hc, hd, he]; rw [if_pos hk]; simp only [hf]
  rw [hG]
  have ca : Pur Try.prog 61 [wV w, .r (.int .i64 1099511627776)] (.tuple [.r (.int .i64 a.1), wV a.2]) := by rw [← ha]; exact w_rGetNum w 1099511627776
  have cb : Pur Try.prog 61 [wV a.2, .r (.int .i64 1099511627776)] (.tuple [.r (.int .i64 b.1), wV b.2]) := by rw [← hb]; exact w_rGetNum a.2 1099511627776
  have cc : Pur Try.prog 61 [wV b.2, .r (.int .i64 1099511627776)] (.tuple [.r (.int .i64 c.1), wV c.2]) := by rw [← hc]; exact w_rGetNum b.2 1099511627776
  have cd : Pur Try.prog 61 [wV c.2, .r (.int .i64 1099511627776)] (.tuple [.r (.int .i64 d.1), wV d.2]) := by rw [← hd]; exact w_rGetNum c.2 1099511627776
  have ce : Pur Try.prog 65 [wV d.2] (.tuple [wd e.1, wV e.2]) := by rw [← he]; exact w_rGetWide d.2
  have cf : Pur Try.prog 61 [wV e.2, .r (.int .i64 1099511627776)] (.tuple [.r (.int .i64 f.1), wV f.2]) := by rw [← hf]; exact w_rGetNum e.2 1099511627776
  clear hG ha hb hc hd he hf
  refine spec_of_go (N := 108) Try.func46 rfl (by decide) rfl rfl ?_
  refine z2 ?_
  refine ar_new tOk rfl rfl rfl trivial ?_
  refine ar_new tOk rfl rfl rfl ?_ ?_
  · simp
  refine ar_new tOk rfl rfl rfl ?_ ?_
  · simp
  refine z3 ?_
  refine ar_new tOk rfl rfl rfl ?_ ?_
  · simp
  refine z3 ?_
  refine p2 ?_
  refine ar_pur (ca) rfl rfl rfl rfl rfl rfl rfl ?_
  iterate 4 refine p1 ?_
  iterate 2 refine ar_store tOk rfl rfl rfl trivial ?_
  refine ar_nil ?_
  refine ag_ent (ent_weak (g' := [(1, .ptr 0 0), (2, .ptr 1 0), (3, .ptr 2 0), (4, .ptr 3 0)]) (h' := ⟨4, [(0, some (.mixed [.r (.bs a.2.1), .r (.int .i64 a.2.2)])), (1, some (.mixed ((txC tx0).map .r))), (2, some (.mixed [.r .nil, .r (.int .i64 0)])), (3, some (.mixed ((txC (⟨0, 0, a.1, 0, 0, 0, 0, 0, inv0, var0, 0, 0, 0, 0, []⟩)).map .r)))], false⟩) [0, 1, 2, 3] rfl rfl rfl rfl ?_ ?_ rfl) ?_
  · exact ⟨⟨rfl, rfl⟩, ⟨rfl, rfl⟩, ⟨rfl, rfl⟩, ⟨rfl, rfl⟩, trivial⟩
  · exact ⟨⟨rfl, rfl, rfl⟩, ⟨rfl, rfl, rfl⟩, ⟨rfl, rfl, rfl⟩, ⟨rfl, rfl, rfl⟩, trivial⟩
  refine z2 ?_
  refine p2 ?_
  refine ar_pur (cb) rfl rfl rfl rfl rfl rfl rfl ?_
  iterate 4 refine p1 ?_
  iterate 2 refine ar_store tOk rfl rfl rfl trivial ?_
  refine ar_nil ?_
  refine ag_ent (ent_weak (g' := [(1, .ptr 0 0), (2, .ptr 1 0), (3, .ptr 2 0), (4, .ptr 3 0)]) (h' := ⟨4, [(0, some (.mixed [.r (.bs b.2.1), .r (.int .i64 b.2.2)])), (1, some (.mixed ((txC tx0).map .r))), (2, some (.mixed [.r .nil, .r (.int .i64 0)])), (3, some (.mixed ((txC (⟨b.1, 0, a.1, 0, 0, 0, 0, 0, inv0, var0, 0, 0, 0, 0, []⟩)).map .r)))], false⟩) [0, 1, 2, 3] rfl rfl rfl rfl ?_ ?_ rfl) ?_
  · exact ⟨⟨rfl, rfl⟩, ⟨rfl, rfl⟩, ⟨rfl, rfl⟩, ⟨rfl, rfl⟩, trivial⟩
  · exact ⟨⟨rfl, rfl, rfl⟩, ⟨rfl, rfl, rfl⟩, ⟨rfl, rfl, rfl⟩, ⟨rfl, rfl, rfl⟩, trivial⟩
  refine z2 ?_
  refine p2 ?_
  refine ar_pur (cc) rfl rfl rfl rfl rfl rfl rfl ?_
  iterate 4 refine p1 ?_
  iterate 2 refine ar_store tOk rfl rfl rfl trivial ?_
  refine ar_nil ?_
  refine ag_ent (ent_weak (g' := [(1, .ptr 0 0), (2, .ptr 1 0), (3, .ptr 2 0), (4, .ptr 3 0)]) (h' := ⟨4, [(0, some (.mixed [.r (.bs c.2.1), .r (.int .i64 c.2.2)])), (1, some (.mixed ((txC tx0).map .r))), (2, some (.mixed [.r .nil, .r (.int .i64 0)])), (3, some (.mixed ((txC (⟨b.1, c.1, a.1, 0, 0, 0, 0, 0, inv0, var0, 0, 0, 0, 0, []⟩)).map .r)))], false⟩) [0, 1, 2, 3] rfl rfl rfl rfl ?_ ?_ rfl) ?_
  · exact ⟨⟨rfl, rfl⟩, ⟨rfl, rfl⟩, ⟨rfl, rfl⟩, ⟨rfl, rfl⟩, trivial⟩
  · exact ⟨⟨rfl, rfl, rfl⟩, ⟨rfl, rfl, rfl⟩, ⟨rfl, rfl, rfl⟩, ⟨rfl, rfl, rfl⟩, trivial⟩
  refine z2 ?_
  refine p2 ?_
  refine ar_pur (cd) rfl rfl rfl rfl rfl rfl rfl ?_
  iterate 4 refine p1 ?_
  iterate 2 refine ar_store tOk rfl rfl rfl trivial ?_
  refine ar_nil ?_
  refine ag_ent (ent_weak (g' := [(1, .ptr 0 0), (2, .ptr 1 0), (3, .ptr 2 0), (4, .ptr 3 0)]) (h' := ⟨4, [(0, some (.mixed [.r (.bs d.2.1), .r (.int .i64 d.2.2)])), (1, some (.mixed ((txC tx0).map .r))), (2, some (.mixed [.r .nil, .r (.int .i64 0)])), (3, some (.mixed ((txC (⟨b.1, c.1, a.1, d.1, 0, 0, 0, 0, inv0, var0, 0, 0, 0, 0, []⟩)).map .r)))], false⟩) [0, 1, 2, 3] rfl rfl rfl rfl ?_ ?_ rfl) ?_
  · exact ⟨⟨rfl, rfl⟩, ⟨rfl, rfl⟩, ⟨rfl, rfl⟩, ⟨rfl, rfl⟩, trivial⟩
  · exact ⟨⟨rfl, rfl, rfl⟩, ⟨rfl, rfl, rfl⟩, ⟨rfl, rfl, rfl⟩, ⟨rfl, rfl, rfl⟩, trivial⟩
  refine z2 ?_
  refine p2 ?_
  refine ar_pur (ce) rfl rfl rfl rfl rfl rfl rfl ?_
  iterate 4 refine p1 ?_
  iterate 2 refine ar_store tOk rfl rfl rfl trivial ?_
  refine ar_nil ?_
  refine ag_ent (ent_weak (g' := [(1, .ptr 0 0), (2, .ptr 1 0), (3, .ptr 2 0), (4, .ptr 3 0)]) (h' := ⟨4, [(0, some (.mixed [.r (.bs e.2.1), .r (.int .i64 e.2.2)])), (1, some (.mixed ((txC tx0).map .r))), (2, some (.mixed [.r .nil, .r (.int .i64 0)])), (3, some (.mixed ((txC (hdA a b c d e inv0 var0)).map .r)))], false⟩) [0, 1, 2, 3] rfl rfl rfl rfl ?_ ?_ rfl) ?_
  · exact ⟨⟨rfl, rfl⟩, ⟨rfl, rfl⟩, ⟨rfl, rfl⟩, ⟨rfl, rfl⟩, trivial⟩
  · exact ⟨⟨rfl, rfl, rfl⟩, ⟨rfl, rfl, rfl⟩, ⟨rfl, rfl, rfl⟩, ⟨rfl, rfl, rfl⟩, trivial⟩
  refine ag_seq ?_
  refine z2 ?_
  refine p1 ?_
  refine p2 ?_
  refine p1 ?_
  refine ar_nil ?_
  refine ag_true rfl (decide_eq_true (show a.1 = 1 by omega)) ?_
  refine ag_reg ?_
  refine p2 ?_
  refine ar_pur (cf) rfl rfl rfl rfl rfl rfl rfl ?_
  iterate 5 refine p1 ?_
  iterate 2 refine ar_store tOk rfl rfl rfl trivial ?_
  refine ar_nil ?_
  refine ag_ent (ent_weak (g' := [(1, .ptr 0 0), (2, .ptr 1 0), (3, .ptr 2 0), (4, .ptr 3 0)]) (h' := ⟨4, [(0, some (.mixed [.r (.bs f.2.1), .r (.int .i64 f.2.2)])), (1, some (.mixed ((txC tx0).map .r))), (2, some (.mixed [.r .nil, .r (.int .i64 0)])), (3, some (.mixed ((txC (hdA a b c d e ⟨0, [], 0, 0, 0, f.1, []⟩ var0)).map .r)))], false⟩) [0, 1, 2, 3] rfl rfl rfl rfl ?_ ?_ rfl) ?_
  · exact ⟨⟨rfl, rfl⟩, ⟨rfl, rfl⟩, ⟨rfl, rfl⟩, ⟨rfl, rfl⟩, trivial⟩
  · exact ⟨⟨rfl, rfl, rfl⟩, ⟨rfl, rfl, rfl⟩, ⟨rfl, rfl, rfl⟩, ⟨rfl, rfl, rfl⟩, trivial⟩
  refine ag_seq ?_
  refine z2 ?_
  refine p1 ?_
  refine p2 ?_
  refine p1 ?_
  refine ar_nil ?_
  refine ag_false rfl (decide_eq_false (show ¬ a.1 = 2 by omega)) ?_
  refine ag_skip ?_
  refine ag_seq ?_
  refine z2 ?_
  refine p1 ?_
  refine p2 ?_
  iterate 2 refine p1 ?_
  refine ar_ent (ent_reg 58 (.r (.bool false)) (by show AVal.r (.bool _) = _; exact eqB (decide_eq_false (show ¬ a.1 ≥ 4 by omega)))) ?_
  iterate 3 refine ar_skip rfl rfl rfl ?_
  refine p1 ?_
  refine ar_nil ?_
  refine ag_false rfl (by rfl) ?_
  refine ag_skip ?_
  refine ag_seq ?_
  refine z2 ?_
  refine p1 ?_
  refine p2 ?_
  iterate 2 refine p1 ?_
  refine ar_ent (ent_reg 78 (.r (.bool false)) (by show AVal.r (.bool _) = _; exact eqB (decide_eq_false (show ¬ a.1 = 5 by omega)))) ?_
  refine p1 ?_
  refine p2 ?_
  iterate 2 refine p1 ?_
  refine ar_nil ?_
  refine ag_false rfl (decide_eq_false (show ¬ a.1 = 6 by omega)) ?_
  refine ag_skip ?_
  refine ag_seq ?_
  refine z2 ?_
  refine p1 ?_
  refine p2 ?_
  iterate 2 refine p1 ?_
  refine ar_guard (t := decide (f.2.2 ≠ 0)) (fun ht => ?_) (fun ht => ?_)
  · refine ar_ent (ent_reg 98 (.r (.bool true)) (by show AVal.r (.bool _) = _; exact eqB ht)) ?_
    have hk0 := of_decide_eq_true ht
    repeat (first | refine ar_skip rfl rfl rfl ?_ | refine ar_pure tOk rfl rfl rfl trivial ?_)
    refine ar_nil ?_
    refine ag_true rfl (by rfl) ?_
    refine z2 ?_
    refine ar_pure tOk rfl rfl rfl ?_ ?_
    · simp
    refine p2 ?_
    refine ar_pur (w_rSpoil f.2) rfl rfl rfl rfl rfl rfl rfl ?_
    iterate 2 refine ar_store tOk rfl rfl rfl trivial ?_
    refine ar_nil ?_
    refine ag_ret tOk Try.func46 rfl rfl (by first | trivial | exact ⟨trivial, trivial⟩ | simp) ?_
    rw [show gTxsV (hdA a b c d e ⟨0, [], 0, 0, 0, f.1, []⟩ var0) f.2 = (tx0, spR f.2) from by rw [gTxsV, if_pos (.inl hk0)]]
    rfl
  · refine ar_ent (ent_reg 98 (.r (.bool false)) (by show AVal.r (.bool _) = _; exact eqB ht)) ?_
    have hk0 := of_decide_eq_false ht
    refine p2 ?_
    refine ar_pur (w_rTx (hdA a b c d e ⟨0, [], 0, 0, 0, f.1, []⟩ var0)) rfl rfl rfl rfl rfl rfl rfl ?_
    iterate 2 refine p1 ?_
    refine ar_nil ?_
    refine ag_if rfl ?_ ?_
    · intro h102
      refine z2 ?_
      refine ar_pure tOk rfl rfl rfl ?_ ?_
      · simp
      refine p2 ?_
      refine ar_pur (w_rSpoil f.2) rfl rfl rfl rfl rfl rfl rfl ?_
      iterate 2 refine ar_store tOk rfl rfl rfl trivial ?_
      refine ar_nil ?_
      refine ag_ret tOk Try.func46 rfl rfl (by first | trivial | exact ⟨trivial, trivial⟩ | simp) ?_
      rw [show gTxsV (hdA a b c d e ⟨0, [], 0, 0, 0, f.1, []⟩ var0) f.2 = (tx0, spR f.2) from by rw [gTxsV, if_pos (.inr (by simpa using h102))]]
      rfl
    · intro h102
      refine ag_ent (ent_weak (g' := [(1, .ptr 0 0), (2, .ptr 1 0), (3, .ptr 2 0), (4, .ptr 3 0)]) (h' := ⟨4, [(0, some (.mixed [.r (.bs f.2.1), .r (.int .i64 f.2.2)])), (1, some (.mixed ((txC tx0).map .r))), (2, some (.mixed [.r .nil, .r (.int .i64 0)])), (3, some (.mixed ((txC (hdA a b c d e ⟨0, [], 0, 0, 0, f.1, []⟩ var0)).map .r)))], false⟩) [0, 1, 2, 3] rfl rfl rfl rfl ?_ ?_ rfl) ?_
      · exact ⟨⟨rfl, rfl⟩, ⟨rfl, rfl⟩, ⟨rfl, rfl⟩, ⟨rfl, rfl⟩, trivial⟩
      · exact ⟨⟨rfl, rfl, rfl⟩, ⟨rfl, rfl, rfl⟩, ⟨rfl, rfl, rfl⟩, ⟨rfl, rfl, rfl⟩, trivial⟩
      refine ag_skip ?_
      refine ag_seq ?_
      apply ag_draw2 [] (by kernel_rfl) (by kernel_rfl)
      refine aq_load0 tOk rfl (by kernel_rfl) rfl rfl trivial ?_
      refine aq_load1 tOk rfl (by kernel_rfl) rfl rfl rfl rfl trivial ?_ ?_
      rotate_left 1
      refine' aq_store20 (h' := ⟨4, [(1, some (.mixed ((txC (hdA a b c d e ⟨0, [], 0, 0, 0, f.1, []⟩ var0)).map .r))), (0, some (.mixed [.r (.bs f.2.1), .r (.int .i64 f.2.2)])), (1, some (.mixed ((txC tx0).map .r))), (2, some (.mixed [.r .nil, .r (.int .i64 0)])), (3, some (.mixed ((txC (hdA a b c d e ⟨0, [], 0, 0, 0, f.1, []⟩ var0)).map .r)))], false⟩) (c := True) tOk ?hp ?hh ?hg rfl trivial ?hk
      case hp => kernel_rfl
      case hh => rfl
      case hg => rfl
      case' hk => skip
      refine aq_store21 tOk rfl rfl rfl rfl trivial ?_
      refine aq_nil rfl ?_
      refine ag_ret tOk Try.func46 rfl rfl (by first | trivial | exact ⟨trivial, trivial⟩ | simp) ?_
      rw [show gTxsV (hdA a b c d e ⟨0, [], 0, 0, 0, f.1, []⟩ var0) f.2 = (hdA a b c d e ⟨0, [], 0, 0, 0, f.1, []⟩ var0, f.2) from by rw [gTxsV, if_neg (by rintro (q | q); exact hk0 q; exact q (by simpa using h102))]]
      rfl
      all_goals exact ⟨_, rfl, trivial⟩

theorem w_rGet2 (w : W) (hk : (gNu w M40).1 = 2) : Pur Try.prog 46 [wV w] (.tuple [txA (gTxs w).1, wV (gTxs w).2]) := by
  obtain ⟨a, ha⟩ : ∃ a, gNu w M40 = a := ⟨_, rfl⟩
  obtain ⟨b, hb⟩ : ∃ b, gNu a.2 M40 = b := ⟨_, rfl⟩
  obtain ⟨c, hc⟩ : ∃ c, gNu b.2 M40 = c := ⟨_, rfl⟩
  obtain ⟨d, hd⟩ : ∃ d, gNu c.2 M40 = d := ⟨_, rfl⟩
  obtain ⟨e, he⟩ : ∃ e, tkR d.2 32 = e := ⟨_, rfl⟩
  obtain ⟨f, hf⟩ : ∃ f, gNu e.2 M40 = f := ⟨_, rfl⟩
  rw [ha] at hk
  have hG : gTxs w = gTxsV (hdA a b c d e ⟨0, [], f.1, 0, 0, 0, []⟩ var0) f.2 := by simp only [gTxs, ha, hb, hc, hd, he]; rw [if_neg (by omega), if_pos hk]; simp only [hf]
  rw [hG]
  have ca : Pur Try.prog 61 [wV w, .r (.int .i64 1099511627776)] (.tuple [.r (.int .i64 a.1), wV a.2]) := by rw [← ha]; exact w_rGetNum w 1099511627776
  have cb : Pur Try.prog 61 [wV a.2, .r (.int .i64 1099511627776)] (.tuple [.r (.int .i64 b.1), wV b.2]) := by rw [← hb]; exact w_rGetNum a.2 1099511627776
  have cc : Pur Try.prog 61 [wV b.2, .r (.int .i64 1099511627776)] (.tuple [.r (.int .i64 c.1), wV c.2]) := by rw [← hc]; exact w_rGetNum b.2 1099511627776
  have cd : Pur Try.prog 61 [wV c.2, .r (.int .i64 1099511627776)] (.tuple [.r (.int .i64 d.1), wV d.2]) := by rw [← hd]; exact w_rGetNum c.2 1099511627776
  have ce : Pur Try.prog 65 [wV d.2] (.tuple [wd e.1, wV e.2]) := by rw [← he]; exact w_rGetWide d.2
  have cf : Pur Try.prog 61 [wV e.2, .r (.int .i64 1099511627776)] (.tuple [.r (.int .i64 f.1), wV f.2]) := by rw [← hf]; exact w_rGetNum e.2 1099511627776
  clear hG ha hb hc hd he hf
  refine spec_of_go (N := 108) Try.func46 rfl (by decide) rfl rfl ?_
  refine z2 ?_
  refine ar_new tOk rfl rfl rfl trivial ?_
  refine ar_new tOk rfl rfl rfl ?_ ?_
  · simp
  refine ar_new tOk rfl rfl rfl ?_ ?_
  · simp
  refine z3 ?_
  refine ar_new tOk rfl rfl rfl ?_ ?_
  · simp
  refine z3 ?_
  refine p2 ?_
  refine ar_pur (ca) rfl rfl rfl rfl rfl rfl rfl ?_
  iterate 4 refine p1 ?_
  iterate 2 refine ar_store tOk rfl rfl rfl trivial ?_
  refine ar_nil ?_
  refine ag_ent (ent_weak (g' := [(1, .ptr 0 0), (2, .ptr 1 0), (3, .ptr 2 0), (4, .ptr 3 0)]) (h' := ⟨4, [(0, some (.mixed [.r (.bs a.2.1), .r (.int .i64 a.2.2)])), (1, some (.mixed ((txC tx0).map .r))), (2, some (.mixed [.r .nil, .r (.int .i64 0)])), (3, some (.mixed ((txC (⟨0, 0, a.1, 0, 0, 0, 0, 0, inv0, var0, 0, 0, 0, 0, []⟩)).map .r)))], false⟩) [0, 1, 2, 3] rfl rfl rfl rfl ?_ ?_ rfl) ?_
  · exact ⟨⟨rfl, rfl⟩, ⟨rfl, rfl⟩, ⟨rfl, rfl⟩, ⟨rfl, rfl⟩, trivial⟩
  · exact ⟨⟨rfl, rfl, rfl⟩, ⟨rfl, rfl, rfl⟩, ⟨rfl, rfl, rfl⟩, ⟨rfl, rfl, rfl⟩, trivial⟩
  refine z2 ?_
  refine p2 ?_
  refine ar_pur (cb) rfl rfl rfl rfl rfl rfl rfl ?_
  iterate 4 refine p1 ?_
  iterate 2 refine ar_store tOk rfl rfl rfl trivial ?_
  refine ar_nil ?_
  refine ag_ent (ent_weak (g' := [(1, .ptr 0 0), (2, .ptr 1 0), (3, .ptr 2 0), (4, .ptr 3 0)]) (h' := ⟨4, [(0, some (.mixed [.r (.bs b.2.1), .r (.int .i64 b.2.2)])), (1, some (.mixed ((txC tx0).map .r))), (2, some (.mixed [.r .nil, .r (.int .i64 0)])), (3, some (.mixed ((txC (⟨b.1, 0, a.1, 0, 0, 0, 0, 0, inv0, var0, 0, 0, 0, 0, []⟩)).map .r)))], false⟩) [0, 1, 2, 3] rfl rfl rfl rfl ?_ ?_ rfl) ?_
  · exact ⟨⟨rfl, rfl⟩, ⟨rfl, rfl⟩, ⟨rfl, rfl⟩, ⟨rfl, rfl⟩, trivial⟩
  · exact ⟨⟨rfl, rfl, rfl⟩, ⟨rfl, rfl, rfl⟩, ⟨rfl, rfl, rfl⟩, ⟨rfl, rfl, rfl⟩, trivial⟩
  refine z2 ?_
  refine p2 ?_
  refine ar_pur (cc) rfl rfl rfl rfl rfl rfl rfl ?_
  iterate 4 refine p1 ?_
  iterate 2 refine ar_store tOk rfl rfl rfl trivial ?_
  refine ar_nil ?_
  refine ag_ent (ent_weak (g' := [(1, .ptr 0 0), (2, .ptr 1 0), (3, .ptr 2 0), (4, .ptr 3 0)]) (h' := ⟨4, [(0, some (.mixed [.r (.bs c.2.1), .r (.int .i64 c.2.2)])), (1, some (.mixed ((txC tx0).map .r))), (2, some (.mixed [.r .nil, .r (.int .i64 0)])), (3, some (.mixed ((txC (⟨b.1, c.1, a.1, 0, 0, 0, 0, 0, inv0, var0, 0, 0, 0, 0, []⟩)).map .r)))], false⟩) [0, 1, 2, 3] rfl rfl rfl rfl ?_ ?_ rfl) ?_
  · exact ⟨⟨rfl, rfl⟩, ⟨rfl, rfl⟩, ⟨rfl, rfl⟩, ⟨rfl, rfl⟩, trivial⟩
  · exact ⟨⟨rfl, rfl, rfl⟩, ⟨rfl, rfl, rfl⟩, ⟨rfl, rfl, rfl⟩, ⟨rfl, rfl, rfl⟩, trivial⟩
  refine z2 ?_
  refine p2 ?_
  refine ar_pur (cd) rfl rfl rfl rfl rfl rfl rfl ?_
  iterate 4 refine p1 ?_
  iterate 2 refine ar_store tOk rfl rfl rfl trivial ?_
  refine ar_nil ?_
  refine ag_ent (ent_weak (g' := [(1, .ptr 0 0), (2, .ptr 1 0), (3, .ptr 2 0), (4, .ptr 3 0)]) (h' := ⟨4, [(0, some (.mixed [.r (.bs d.2.1), .r (.int .i64 d.2.2)])), (1, some (.mixed ((txC tx0).map .r))), (2, some (.mixed [.r .nil, .r (.int .i64 0)])), (3, some (.mixed ((txC (⟨b.1, c.1, a.1, d.1, 0, 0, 0, 0, inv0, var0, 0, 0, 0, 0, []⟩)).map .r)))], false⟩) [0, 1, 2, 3] rfl rfl rfl rfl ?_ ?_ rfl) ?_
  · exact ⟨⟨rfl, rfl⟩, ⟨rfl, rfl⟩, ⟨rfl, rfl⟩, ⟨rfl, rfl⟩, trivial⟩
  · exact ⟨⟨rfl, rfl, rfl⟩, ⟨rfl, rfl, rfl⟩, ⟨rfl, rfl, rfl⟩, ⟨rfl, rfl, rfl⟩, trivial⟩
  refine z2 ?_
  refine p2 ?_
  refine ar_pur (ce) rfl rfl rfl rfl rfl rfl rfl ?_
  iterate 4 refine p1 ?_
  iterate 2 refine ar_store tOk rfl rfl rfl trivial ?_
  refine ar_nil ?_
  refine ag_ent (ent_weak (g' := [(1, .ptr 0 0), (2, .ptr 1 0), (3, .ptr 2 0), (4, .ptr 3 0)]) (h' := ⟨4, [(0, some (.mixed [.r (.bs e.2.1), .r (.int .i64 e.2.2)])), (1, some (.mixed ((txC tx0).map .r))), (2, some (.mixed [.r .nil, .r (.int .i64 0)])), (3, some (.mixed ((txC (hdA a b c d e inv0 var0)).map .r)))], false⟩) [0, 1, 2, 3] rfl rfl rfl rfl ?_ ?_ rfl) ?_
  · exact ⟨⟨rfl, rfl⟩, ⟨rfl, rfl⟩, ⟨rfl, rfl⟩, ⟨rfl, rfl⟩, trivial⟩
  · exact ⟨⟨rfl, rfl, rfl⟩, ⟨rfl, rfl, rfl⟩, ⟨rfl, rfl, rfl⟩, ⟨rfl, rfl, rfl⟩, trivial⟩
  refine ag_seq ?_
  refine z2 ?_
  refine p1 ?_
  refine p2 ?_
  refine p1 ?_
  refine ar_nil ?_
  refine ag_false rfl (decide_eq_false (show ¬ a.1 = 1 by omega)) ?_
  refine ag_skip ?_
  refine ag_seq ?_
  refine z2 ?_
  refine p1 ?_
  refine p2 ?_
  refine p1 ?_
  refine ar_nil ?_
  refine ag_true rfl (decide_eq_true (show a.1 = 2 by omega)) ?_
  refine ag_reg ?_
  refine p2 ?_
  refine ar_pur (cf) rfl rfl rfl rfl rfl rfl rfl ?_
  iterate 5 refine p1 ?_
  iterate 2 refine ar_store tOk rfl rfl rfl trivial ?_
  refine ar_nil ?_
  refine ag_ent (ent_weak (g' := [(1, .ptr 0 0), (2, .ptr 1 0), (3, .ptr 2 0), (4, .ptr 3 0)]) (h' := ⟨4, [(0, some (.mixed [.r (.bs f.2.1), .r (.int .i64 f.2.2)])), (1, some (.mixed ((txC tx0).map .r))), (2, some (.mixed [.r .nil, .r (.int .i64 0)])), (3, some (.mixed ((txC (hdA a b c d e ⟨0, [], f.1, 0, 0, 0, []⟩ var0)).map .r)))], false⟩) [0, 1, 2, 3] rfl rfl rfl rfl ?_ ?_ rfl) ?_
  · exact ⟨⟨rfl, rfl⟩, ⟨rfl, rfl⟩, ⟨rfl, rfl⟩, ⟨rfl, rfl⟩, trivial⟩
  · exact ⟨⟨rfl, rfl, rfl⟩, ⟨rfl, rfl, rfl⟩, ⟨rfl, rfl, rfl⟩, ⟨rfl, rfl, rfl⟩, trivial⟩
  refine ag_seq ?_
  refine z2 ?_
  refine p1 ?_
  refine p2 ?_
  iterate 2 refine p1 ?_
  refine ar_ent (ent_reg 58 (.r (.bool false)) (by show AVal.r (.bool _) = _; exact eqB (decide_eq_false (show ¬ a.1 ≥ 4 by omega)))) ?_
  iterate 3 refine ar_skip rfl rfl rfl ?_
  refine p1 ?_
  refine ar_nil ?_
  refine ag_false rfl (by rfl) ?_
  refine ag_skip ?_
  refine ag_seq ?_
  refine z2 ?_
  refine p1 ?_
  refine p2 ?_
  iterate 2 refine p1 ?_
  refine ar_ent (ent_reg 78 (.r (.bool false)) (by show AVal.r (.bool _) = _; exact eqB (decide_eq_false (show ¬ a.1 = 5 by omega)))) ?_
  refine p1 ?_
  refine p2 ?_
  iterate 2 refine p1 ?_
  refine ar_nil ?_
  refine ag_false rfl (decide_eq_false (show ¬ a.1 = 6 by omega)) ?_
  refine ag_skip ?_
  refine ag_seq ?_
  refine z2 ?_
  refine p1 ?_
  refine p2 ?_
  iterate 2 refine p1 ?_
  refine ar_guard (t := decide (f.2.2 ≠ 0)) (fun ht => ?_) (fun ht => ?_)
  · refine ar_ent (ent_reg 98 (.r (.bool true)) (by show AVal.r (.bool _) = _; exact eqB ht)) ?_
    have hk0 := of_decide_eq_true ht
    repeat (first | refine ar_skip rfl rfl rfl ?_ | refine ar_pure tOk rfl rfl rfl trivial ?_)
    refine ar_nil ?_
    refine ag_true rfl (by rfl) ?_
    refine z2 ?_
    refine ar_pure tOk rfl rfl rfl ?_ ?_
    · simp
    refine p2 ?_
    refine ar_pur (w_rSpoil f.2) rfl rfl rfl rfl rfl rfl rfl ?_
    iterate 2 refine ar_store tOk rfl rfl rfl trivial ?_
    refine ar_nil ?_
    refine ag_ret tOk Try.func46 rfl rfl (by first | trivial | exact ⟨trivial, trivial⟩ | simp) ?_
    rw [show gTxsV (hdA a b c d e ⟨0, [], f.1, 0, 0, 0, []⟩ var0) f.2 = (tx0, spR f.2) from by rw [gTxsV, if_pos (.inl hk0)]]
    rfl
  · refine ar_ent (ent_reg 98 (.r (.bool false)) (by show AVal.r (.bool _) = _; exact eqB ht)) ?_
    have hk0 := of_decide_eq_false ht
    refine p2 ?_
    refine ar_pur (w_rTx (hdA a b c d e ⟨0, [], f.1, 0, 0, 0, []⟩ var0)) rfl rfl rfl rfl rfl rfl rfl ?_
    iterate 2 refine p1 ?_
    refine ar_nil ?_
    refine ag_if rfl ?_ ?_
    · intro h102
      refine z2 ?_
      refine ar_pure tOk rfl rfl rfl ?_ ?_
      · simp
      refine p2 ?_
      refine ar_pur (w_rSpoil f.2) rfl rfl rfl rfl rfl rfl rfl ?_
      iterate 2 refine ar_store tOk rfl rfl rfl trivial ?_
      refine ar_nil ?_
      refine ag_ret tOk Try.func46 rfl rfl (by first | trivial | exact ⟨trivial, trivial⟩ | simp) ?_
      rw [show gTxsV (hdA a b c d e ⟨0, [], f.1, 0, 0, 0, []⟩ var0) f.2 = (tx0, spR f.2) from by rw [gTxsV, if_pos (.inr (by simpa using h102))]]
      rfl
    · intro h102
      refine ag_ent (ent_weak (g' := [(1, .ptr 0 0), (2, .ptr 1 0), (3, .ptr 2 0), (4, .ptr 3 0)]) (h' := ⟨4, [(0, some (.mixed [.r (.bs f.2.1), .r (.int .i64 f.2.2)])), (1, some (.mixed ((txC tx0).map .r))), (2, some (.mixed [.r .nil, .r (.int .i64 0)])), (3, some (.mixed ((txC (hdA a b c d e ⟨0, [], f.1, 0, 0, 0, []⟩ var0)).map .r)))], false⟩) [0, 1, 2, 3] rfl rfl rfl rfl ?_ ?_ rfl) ?_
      · exact ⟨⟨rfl, rfl⟩, ⟨rfl, rfl⟩, ⟨rfl, rfl⟩, ⟨rfl, rfl⟩, trivial⟩
      · exact ⟨⟨rfl, rfl, rfl⟩, ⟨rfl, rfl, rfl⟩, ⟨rfl, rfl, rfl⟩, ⟨rfl, rfl, rfl⟩, trivial⟩
      refine ag_skip ?_
      refine ag_seq ?_
      apply ag_draw2 [] (by kernel_rfl) (by kernel_rfl)
      refine aq_load0 tOk rfl (by kernel_rfl) rfl rfl trivial ?_
      refine aq_load1 tOk rfl (by kernel_rfl) rfl rfl rfl rfl trivial ?_ ?_
      rotate_left 1
      refine' aq_store20 (h' := ⟨4, [(1, some (.mixed ((txC (hdA a b c d e ⟨0, [], f.1, 0, 0, 0, []⟩ var0)).map .r))), (0, some (.mixed [.r (.bs f.2.1), .r (.int .i64 f.2.2)])), (1, some (.mixed ((txC tx0).map .r))), (2, some (.mixed [.r .nil, .r (.int .i64 0)])), (3, some (.mixed ((txC (hdA a b c d e ⟨0, [], f.1, 0, 0, 0, []⟩ var0)).map .r)))], false⟩) (c := True) tOk ?hp ?hh ?hg rfl trivial ?hk
      case hp => kernel_rfl
      case hh => rfl
      case hg => rfl
      case' hk => skip
      refine aq_store21 tOk rfl rfl rfl rfl trivial ?_
      refine aq_nil rfl ?_
      refine ag_ret tOk Try.func46 rfl rfl (by first | trivial | exact ⟨trivial, trivial⟩ | simp) ?_
      rw [show gTxsV (hdA a b c d e ⟨0, [], f.1, 0, 0, 0, []⟩ var0) f.2 = (hdA a b c d e ⟨0, [], f.1, 0, 0, 0, []⟩ var0, f.2) from by rw [gTxsV, if_neg (by rintro (q | q); exact hk0 q; exact q (by simpa using h102))]]
      rfl
      all_goals exact ⟨_, rfl, trivial⟩

theorem w_rGet4 (w : W) (hk : (gNu w M40).1 = 4) : Pur Try.prog 46 [wV w] (.tuple [txA (gTxs w).1, wV (gTxs w).2]) := by
  obtain ⟨a, ha⟩ : ∃ a, gNu w M40 = a := ⟨_, rfl⟩
  obtain ⟨b, hb⟩ : ∃ b, gNu a.2 M40 = b := ⟨_, rfl⟩
  obtain ⟨c, hc⟩ : ∃ c, gNu b.2 M40 = c := ⟨_, rfl⟩
  obtain ⟨d, hd⟩ : ∃ d, gNu c.2 M40 = d := ⟨_, rfl⟩
  obtain ⟨e, he⟩ : ∃ e, tkR d.2 32 = e := ⟨_, rfl⟩
  obtain ⟨i, hi⟩ : ∃ i, gInv e.2 = i := ⟨_, rfl⟩
  obtain ⟨j, hj⟩ : ∃ j, gVar i.2 = j := ⟨_, rfl⟩
  rw [ha] at hk
  have hG : gTxs w = gTxsV (hdA a b c d e i.1 j.1) j.2 := by simp only [gTxs, ha, hb, hc, hd, he]; rw [if_neg (by omega), if_neg (by omega), if_pos hk]; simp only [hi, hj]
  rw [hG]
  have ca : Pur Try.prog 61 [wV w, .r (.int .i64 1099511627776)] (.tuple [.r (.int .i64 a.1), wV a.2]) := by rw [← ha]; exact w_rGetNum w 1099511627776
  have cb : Pur Try.prog 61 [wV a.2, .r (.int .i64 1099511627776)] (.tuple [.r (.int .i64 b.1), wV b.2]) := by rw [← hb]; exact w_rGetNum a.2 1099511627776
  have cc : Pur Try.prog 61 [wV b.2, .r (.int .i64 1099511627776)] (.tuple [.r (.int .i64 c.1), wV c.2]) := by rw [← hc]; exact w_rGetNum b.2 1099511627776
  have cd : Pur Try.prog 61 [wV c.2, .r (.int .i64 1099511627776)] (.tuple [.r (.int .i64 d.1), wV d.2]) := by rw [← hd]; exact w_rGetNum c.2 1099511627776
  have ce : Pur Try.prog 65 [wV d.2] (.tuple [wd e.1, wV e.2]) := by rw [← he]; exact w_rGetWide d.2
  have ci : Pur Try.prog 25 [wV e.2] (.tuple [invA i.1, wV i.2]) := by rw [← hi]; exact w_rGetInv e.2
  have cj : Pur Try.prog 29 [wV i.2] (.tuple [varA j.1, wV j.2]) := by rw [← hj]; exact w_rGetVar i.2
  clear hG ha hb hc hd he hi hj
  refine spec_of_go (N := 108) Try.func46 rfl (by decide) rfl rfl ?_
  refine z2 ?_
  refine ar_new tOk rfl rfl rfl trivial ?_
  refine ar_new tOk rfl rfl rfl ?_ ?_
  · simp
  refine ar_new tOk rfl rfl rfl ?_ ?_
  · simp
  refine z3 ?_
  refine ar_new tOk rfl rfl rfl ?_ ?_
  · simp
  refine z3 ?_
  refine p2 ?_
  refine ar_pur (ca) rfl rfl rfl rfl rfl rfl rfl ?_
  iterate 4 refine p1 ?_
  iterate 2 refine ar_store tOk rfl rfl rfl trivial ?_
  refine ar_nil ?_
  refine ag_ent (ent_weak (g' := [(1, .ptr 0 0), (2, .ptr 1 0), (3, .ptr 2 0), (4, .ptr 3 0)]) (h' := ⟨4, [(0, some (.mixed [.r (.bs a.2.1), .r (.int .i64 a.2.2)])), (1, some (.mixed ((txC tx0).map .r))), (2, some (.mixed [.r .nil, .r (.int .i64 0)])), (3, some (.mixed ((txC (⟨0, 0, a.1, 0, 0, 0, 0, 0, inv0, var0, 0, 0, 0, 0, []⟩)).map .r)))], false⟩) [0, 1, 2, 3] rfl rfl rfl rfl ?_ ?_ rfl) ?_
  · exact ⟨⟨rfl, rfl⟩, ⟨rfl, rfl⟩, ⟨rfl, rfl⟩, ⟨rfl, rfl⟩, trivial⟩
  · exact ⟨⟨rfl, rfl, rfl⟩, ⟨rfl, rfl, rfl⟩, ⟨rfl, rfl, rfl⟩, ⟨rfl, rfl, rfl⟩, trivial⟩
  refine z2 ?_
  refine p2 ?_
  refine ar_pur (cb) rfl rfl rfl rfl rfl rfl rfl ?_
  iterate 4 refine p1 ?_
  iterate 2 refine ar_store tOk rfl rfl rfl trivial ?_
  refine ar_nil ?_
  refine ag_ent (ent_weak (g' := [(1, .ptr 0 0), (2, .ptr 1 0), (3, .ptr 2 0), (4, .ptr 3 0)]) (h' := ⟨4, [(0, some (.mixed [.r (.bs b.2.1), .r (.int .i64 b.2.2)])), (1, some (.mixed ((txC tx0).map .r))), (2, some (.mixed [.r .nil, .r (.int .i64 0)])), (3, some (.mixed ((txC (⟨b.1, 0, a.1, 0, 0, 0, 0, 0, inv0, var0, 0, 0, 0, 0, []⟩)).map .r)))], false⟩) [0, 1, 2, 3] rfl rfl rfl rfl ?_ ?_ rfl) ?_
  · exact ⟨⟨rfl, rfl⟩, ⟨rfl, rfl⟩, ⟨rfl, rfl⟩, ⟨rfl, rfl⟩, trivial⟩
  · exact ⟨⟨rfl, rfl, rfl⟩, ⟨rfl, rfl, rfl⟩, ⟨rfl, rfl, rfl⟩, ⟨rfl, rfl, rfl⟩, trivial⟩
  refine z2 ?_
  refine p2 ?_
  refine ar_pur (cc) rfl rfl rfl rfl rfl rfl rfl ?_
  iterate 4 refine p1 ?_
  iterate 2 refine ar_store tOk rfl rfl rfl trivial ?_
  refine ar_nil ?_
  refine ag_ent (ent_weak (g' := [(1, .ptr 0 0), (2, .ptr 1 0), (3, .ptr 2 0), (4, .ptr 3 0)]) (h' := ⟨4, [(0, some (.mixed [.r (.bs c.2.1), .r (.int .i64 c.2.2)])), (1, some (.mixed ((txC tx0).map .r))), (2, some (.mixed [.r .nil, .r (.int .i64 0)])), (3, some (.mixed ((txC (⟨b.1, c.1, a.1, 0, 0, 0, 0, 0, inv0, var0, 0, 0, 0, 0, []⟩)).map .r)))], false⟩) [0, 1, 2, 3] rfl rfl rfl rfl ?_ ?_ rfl) ?_
  · exact ⟨⟨rfl, rfl⟩, ⟨rfl, rfl⟩, ⟨rfl, rfl⟩, ⟨rfl, rfl⟩, trivial⟩
  · exact ⟨⟨rfl, rfl, rfl⟩, ⟨rfl, rfl, rfl⟩, ⟨rfl, rfl, rfl⟩, ⟨rfl, rfl, rfl⟩, trivial⟩
  refine z2 ?_
  refine p2 ?_
  refine ar_pur (cd) rfl rfl rfl rfl rfl rfl rfl ?_
  iterate 4 refine p1 ?_
  iterate 2 refine ar_store tOk rfl rfl rfl trivial ?_
  refine ar_nil ?_
  refine ag_ent (ent_weak (g' := [(1, .ptr 0 0), (2, .ptr 1 0), (3, .ptr 2 0), (4, .ptr 3 0)]) (h' := ⟨4, [(0, some (.mixed [.r (.bs d.2.1), .r (.int .i64 d.2.2)])), (1, some (.mixed ((txC tx0).map .r))), (2, some (.mixed [.r .nil, .r (.int .i64 0)])), (3, some (.mixed ((txC (⟨b.1, c.1, a.1, d.1, 0, 0, 0, 0, inv0, var0, 0, 0, 0, 0, []⟩)).map .r)))], false⟩) [0, 1, 2, 3] rfl rfl rfl rfl ?_ ?_ rfl) ?_
  · exact ⟨⟨rfl, rfl⟩, ⟨rfl, rfl⟩, ⟨rfl, rfl⟩, ⟨rfl, rfl⟩, trivial⟩
  · exact ⟨⟨rfl, rfl, rfl⟩, ⟨rfl, rfl, rfl⟩, ⟨rfl, rfl, rfl⟩, ⟨rfl, rfl, rfl⟩, trivial⟩
  refine z2 ?_
  refine p2 ?_
  refine ar_pur (ce) rfl rfl rfl rfl rfl rfl rfl ?_
  iterate 4 refine p1 ?_
  iterate 2 refine ar_store tOk rfl rfl rfl trivial ?_
  refine ar_nil ?_
  refine ag_ent (ent_weak (g' := [(1, .ptr 0 0), (2, .ptr 1 0), (3, .ptr 2 0), (4, .ptr 3 0)]) (h' := ⟨4, [(0, some (.mixed [.r (.bs e.2.1), .r (.int .i64 e.2.2)])), (1, some (.mixed ((txC tx0).map .r))), (2, some (.mixed [.r .nil, .r (.int .i64 0)])), (3, some (.mixed ((txC (hdA a b c d e inv0 var0)).map .r)))], false⟩) [0, 1, 2, 3] rfl rfl rfl rfl ?_ ?_ rfl) ?_
  · exact ⟨⟨rfl, rfl⟩, ⟨rfl, rfl⟩, ⟨rfl, rfl⟩, ⟨rfl, rfl⟩, trivial⟩
  · exact ⟨⟨rfl, rfl, rfl⟩, ⟨rfl, rfl, rfl⟩, ⟨rfl, rfl, rfl⟩, ⟨rfl, rfl, rfl⟩, trivial⟩
  refine ag_seq ?_
  refine z2 ?_
  refine p1 ?_
  refine p2 ?_
  refine p1 ?_
  refine ar_nil ?_
  refine ag_false rfl (decide_eq_false (show ¬ a.1 = 1 by omega)) ?_
  refine ag_skip ?_
  refine ag_seq ?_
  refine z2 ?_
  refine p1 ?_
  refine p2 ?_
  refine p1 ?_
  refine ar_nil ?_
  refine ag_false rfl (decide_eq_false (show ¬ a.1 = 2 by omega)) ?_
  refine ag_skip ?_
  refine ag_seq ?_
  refine z2 ?_
  refine p1 ?_
  refine p2 ?_
  iterate 2 refine p1 ?_
  refine ar_ent (ent_reg 58 (.r (.bool true)) (by show AVal.r (.bool _) = _; exact eqB (decide_eq_true (show a.1 ≥ 4 by omega)))) ?_
  refine p1 ?_
  refine p2 ?_
  iterate 2 refine p1 ?_
  refine ar_nil ?_
  refine ag_true rfl (decide_eq_true (show a.1 ≤ 6 by omega)) ?_
  refine z2 ?_
  refine p2 ?_
  refine ar_pur (ci) rfl rfl rfl rfl rfl rfl rfl ?_
  iterate 4 refine p1 ?_
  iterate 2 refine ar_store tOk rfl rfl rfl trivial ?_
  refine ar_nil ?_
  refine ag_ent (ent_weak (g' := [(1, .ptr 0 0), (2, .ptr 1 0), (3, .ptr 2 0), (4, .ptr 3 0)]) (h' := ⟨4, [(0, some (.mixed [.r (.bs i.2.1), .r (.int .i64 i.2.2)])), (1, some (.mixed ((txC tx0).map .r))), (2, some (.mixed [.r .nil, .r (.int .i64 0)])), (3, some (.mixed ((txC (hdA a b c d e i.1 var0)).map .r)))], false⟩) [0, 1, 2, 3] rfl rfl rfl rfl ?_ ?_ rfl) ?_
  · exact ⟨⟨rfl, rfl⟩, ⟨rfl, rfl⟩, ⟨rfl, rfl⟩, ⟨rfl, rfl⟩, trivial⟩
  · exact ⟨⟨rfl, rfl, rfl⟩, ⟨rfl, rfl, rfl⟩, ⟨rfl, rfl, rfl⟩, ⟨rfl, rfl, rfl⟩, trivial⟩
  refine ag_reg ?_
  refine p2 ?_
  refine ar_pur (cj) rfl rfl rfl rfl rfl rfl rfl ?_
  iterate 4 refine p1 ?_
  iterate 2 refine ar_store tOk rfl rfl rfl trivial ?_
  refine ar_nil ?_
  refine ag_ent (ent_weak (g' := [(1, .ptr 0 0), (2, .ptr 1 0), (3, .ptr 2 0), (4, .ptr 3 0)]) (h' := ⟨4, [(0, some (.mixed [.r (.bs j.2.1), .r (.int .i64 j.2.2)])), (1, some (.mixed ((txC tx0).map .r))), (2, some (.mixed [.r .nil, .r (.int .i64 0)])), (3, some (.mixed ((txC (hdA a b c d e i.1 j.1)).map .r)))], false⟩) [0, 1, 2, 3] rfl rfl rfl rfl ?_ ?_ rfl) ?_
  · exact ⟨⟨rfl, rfl⟩, ⟨rfl, rfl⟩, ⟨rfl, rfl⟩, ⟨rfl, rfl⟩, trivial⟩
  · exact ⟨⟨rfl, rfl, rfl⟩, ⟨rfl, rfl, rfl⟩, ⟨rfl, rfl, rfl⟩, ⟨rfl, rfl, rfl⟩, trivial⟩
  refine ag_seq ?_
  refine z2 ?_
  refine p1 ?_
  refine p2 ?_
  iterate 2 refine p1 ?_
  refine ar_ent (ent_reg 78 (.r (.bool false)) (by show AVal.r (.bool _) = _; exact eqB (decide_eq_false (show ¬ a.1 = 5 by omega)))) ?_
  refine p1 ?_
  refine p2 ?_
  iterate 2 refine p1 ?_
  refine ar_nil ?_
  refine ag_false rfl (decide_eq_false (show ¬ a.1 = 6 by omega)) ?_
  refine ag_skip ?_
  refine ag_seq ?_
  refine z2 ?_
  refine p1 ?_
  refine p2 ?_
  iterate 2 refine p1 ?_
  refine ar_guard (t := decide (j.2.2 ≠ 0)) (fun ht => ?_) (fun ht => ?_)
  · refine ar_ent (ent_reg 98 (.r (.bool true)) (by show AVal.r (.bool _) = _; exact eqB ht)) ?_
    have hk0 := of_decide_eq_true ht
    repeat (first | refine ar_skip rfl rfl rfl ?_ | refine ar_pure tOk rfl rfl rfl trivial ?_)
    refine ar_nil ?_
    refine ag_true rfl (by rfl) ?_
    refine z2 ?_
    refine ar_pure tOk rfl rfl rfl ?_ ?_
    · simp
    refine p2 ?_
    refine ar_pur (w_rSpoil j.2) rfl rfl rfl rfl rfl rfl rfl ?_
    iterate 2 refine ar_store tOk rfl rfl rfl trivial ?_
    refine ar_nil ?_
    refine ag_ret tOk Try.func46 rfl rfl (by first | trivial | exact ⟨trivial, trivial⟩ | simp) ?_
    rw [show gTxsV (hdA a b c d e i.1 j.1) j.2 = (tx0, spR j.2) from by rw [gTxsV, if_pos (.inl hk0)]]
    rfl
  · refine ar_ent (ent_reg 98 (.r (.bool false)) (by show AVal.r (.bool _) = _; exact eqB ht)) ?_
    have hk0 := of_decide_eq_false ht
    refine p2 ?_
    refine ar_pur (w_rTx (hdA a b c d e i.1 j.1)) rfl rfl rfl rfl rfl rfl rfl ?_
    iterate 2 refine p1 ?_
    refine ar_nil ?_
    refine ag_if rfl ?_ ?_
    · intro h102
      refine z2 ?_
      refine ar_pure tOk rfl rfl rfl ?_ ?_
      · simp
      refine p2 ?_
      refine ar_pur (w_rSpoil j.2) rfl rfl rfl rfl rfl rfl rfl ?_
      iterate 2 refine ar_store tOk rfl rfl rfl trivial ?_
      refine ar_nil ?_
      refine ag_ret tOk Try.func46 rfl rfl (by first | trivial | exact ⟨trivial, trivial⟩ | simp) ?_
      rw [show gTxsV (hdA a b c d e i.1 j.1) j.2 = (tx0, spR j.2) from by rw [gTxsV, if_pos (.inr (by simpa using h102))]]
      rfl
    · intro h102
      refine ag_ent (ent_weak (g' := [(1, .ptr 0 0), (2, .ptr 1 0), (3, .ptr 2 0), (4, .ptr 3 0)]) (h' := ⟨4, [(0, some (.mixed [.r (.bs j.2.1), .r (.int .i64 j.2.2)])), (1, some (.mixed ((txC tx0).map .r))), (2, some (.mixed [.r .nil, .r (.int .i64 0)])), (3, some (.mixed ((txC (hdA a b c d e i.1 j.1)).map .r)))], false⟩) [0, 1, 2, 3] rfl rfl rfl rfl ?_ ?_ rfl) ?_
      · exact ⟨⟨rfl, rfl⟩, ⟨rfl, rfl⟩, ⟨rfl, rfl⟩, ⟨rfl, rfl⟩, trivial⟩
      · exact ⟨⟨rfl, rfl, rfl⟩, ⟨rfl, rfl, rfl⟩, ⟨rfl, rfl, rfl⟩, ⟨rfl, rfl, rfl⟩, trivial⟩
      refine ag_skip ?_
      refine ag_seq ?_
      apply ag_draw2 [] (by kernel_rfl) (by kernel_rfl)
      refine aq_load0 tOk rfl (by kernel_rfl) rfl rfl trivial ?_
      refine aq_load1 tOk rfl (by kernel_rfl) rfl rfl rfl rfl trivial ?_ ?_
      rotate_left 1
      refine' aq_store20 (h' := ⟨4, [(1, some (.mixed ((txC (hdA a b c d e i.1 j.1)).map .r))), (0, some (.mixed [.r (.bs j.2.1), .r (.int .i64 j.2.2)])), (1, some (.mixed ((txC tx0).map .r))), (2, some (.mixed [.r .nil, .r (.int .i64 0)])), (3, some (.mixed ((txC (hdA a b c d e i.1 j.1)).map .r)))], false⟩) (c := True) tOk ?hp ?hh ?hg rfl trivial ?hk
      case hp => kernel_rfl
      case hh => rfl
      case hg => rfl
      case' hk => skip
      refine aq_store21 tOk rfl rfl rfl rfl trivial ?_
      refine aq_nil rfl ?_
      refine ag_ret tOk Try.func46 rfl rfl (by first | trivial | exact ⟨trivial, trivial⟩ | simp) ?_
      rw [show gTxsV (hdA a b c d e i.1 j.1) j.2 = (hdA a b c d e i.1 j.1, j.2) from by rw [gTxsV, if_neg (by rintro (q | q); exact hk0 q; exact q (by simpa using h102))]]
      rfl
      all_goals exact ⟨_, rfl, trivial⟩

theorem w_rGet5 (w : W) (hk : (gNu w M40).1 = 5) : Pur Try.prog 46 [wV w] (.tuple [txA (gTxs w).1, wV (gTxs w).2]) := by
  obtain ⟨a, ha⟩ : ∃ a, gNu w M40 = a := ⟨_, rfl⟩
  obtain ⟨b, hb⟩ : ∃ b, gNu a.2 M40 = b := ⟨_, rfl⟩
  obtain ⟨c, hc⟩ : ∃ c, gNu b.2 M40 = c := ⟨_, rfl⟩
  obtain ⟨d, hd⟩ : ∃ d, gNu c.2 M40 = d := ⟨_, rfl⟩
  obtain ⟨e, he⟩ : ∃ e, tkR d.2 32 = e := ⟨_, rfl⟩
  obtain ⟨i, hi⟩ : ∃ i, gInv e.2 = i := ⟨_, rfl⟩
  obtain ⟨j, hj⟩ : ∃ j, gVar i.2 = j := ⟨_, rfl⟩
  obtain ⟨g, hg⟩ : ∃ g, tkR j.2 32 = g := ⟨_, rfl⟩
  obtain ⟨s, hs⟩ : ∃ s, gTx g.2 1024 = s := ⟨_, rfl⟩
  rw [ha] at hk
  have hG : gTxs w = gTxsV (hdB a b c d e i.1 j.1 g.1 s.1) s.2 := by simp only [gTxs, ha, hb, hc, hd, he]; rw [if_neg (by omega), if_neg (by omega), if_neg (by omega), if_pos (by omega)]; simp only [hi, hj, hg, hs]
  rw [hG]
  have ca : Pur Try.prog 61 [wV w, .r (.int .i64 1099511627776)] (.tuple [.r (.int .i64 a.1), wV a.2]) := by rw [← ha]; exact w_rGetNum w 1099511627776
  have cb : Pur Try.prog 61 [wV a.2, .r (.int .i64 1099511627776)] (.tuple [.r (.int .i64 b.1), wV b.2]) := by rw [← hb]; exact w_rGetNum a.2 1099511627776
  have cc : Pur Try.prog 61 [wV b.2, .r (.int .i64 1099511627776)] (.tuple [.r (.int .i64 c.1), wV c.2]) := by rw [← hc]; exact w_rGetNum b.2 1099511627776
  have cd : Pur Try.prog 61 [wV c.2, .r (.int .i64 1099511627776)] (.tuple [.r (.int .i64 d.1), wV d.2]) := by rw [← hd]; exact w_rGetNum c.2 1099511627776
  have ce : Pur Try.prog 65 [wV d.2] (.tuple [wd e.1, wV e.2]) := by rw [← he]; exact w_rGetWide d.2
  have ci : Pur Try.prog 25 [wV e.2] (.tuple [invA i.1, wV i.2]) := by rw [← hi]; exact w_rGetInv e.2
  have cj : Pur Try.prog 29 [wV i.2] (.tuple [varA j.1, wV j.2]) := by rw [← hj]; exact w_rGetVar i.2
  have cg : Pur Try.prog 65 [wV j.2] (.tuple [wd g.1, wV g.2]) := by rw [← hg]; exact w_rGetWide j.2
  have cs : Pur Try.prog 60 [wV g.2, .r (.int .i64 1024)] (.tuple [.r (.str s.1), wV s.2]) := by rw [← hs]; exact w_rGetText g.2 1024
  clear hG ha hb hc hd he hi hj hg hs
  refine spec_of_go (N := 108) Try.func46 rfl (by decide) rfl rfl ?_
  refine z2 ?_
  refine ar_new tOk rfl rfl rfl trivial ?_
  refine ar_new tOk rfl rfl rfl ?_ ?_
  · simp
  refine ar_new tOk rfl rfl rfl ?_ ?_
  · simp
  refine z3 ?_
  refine ar_new tOk rfl rfl rfl ?_ ?_
  · simp
  refine z3 ?_
  refine p2 ?_
  refine ar_pur (ca) rfl rfl rfl rfl rfl rfl rfl ?_
  iterate 4 refine p1 ?_
  iterate 2 refine ar_store tOk rfl rfl rfl trivial ?_
  refine ar_nil ?_
  refine ag_ent (ent_weak (g' := [(1, .ptr 0 0), (2, .ptr 1 0), (3, .ptr 2 0), (4, .ptr 3 0)]) (h' := ⟨4, [(0, some (.mixed [.r (.bs a.2.1), .r (.int .i64 a.2.2)])), (1, some (.mixed ((txC tx0).map .r))), (2, some (.mixed [.r .nil, .r (.int .i64 0)])), (3, some (.mixed ((txC (⟨0, 0, a.1, 0, 0, 0, 0, 0, inv0, var0, 0, 0, 0, 0, []⟩)).map .r)))], false⟩) [0, 1, 2, 3] rfl rfl rfl rfl ?_ ?_ rfl) ?_
  · exact ⟨⟨rfl, rfl⟩, ⟨rfl, rfl⟩, ⟨rfl, rfl⟩, ⟨rfl, rfl⟩, trivial⟩
  · exact ⟨⟨rfl, rfl, rfl⟩, ⟨rfl, rfl, rfl⟩, ⟨rfl, rfl, rfl⟩, ⟨rfl, rfl, rfl⟩, trivial⟩
  refine z2 ?_
  refine p2 ?_
  refine ar_pur (cb) rfl rfl rfl rfl rfl rfl rfl ?_
  iterate 4 refine p1 ?_
  iterate 2 refine ar_store tOk rfl rfl rfl trivial ?_
  refine ar_nil ?_
  refine ag_ent (ent_weak (g' := [(1, .ptr 0 0), (2, .ptr 1 0), (3, .ptr 2 0), (4, .ptr 3 0)]) (h' := ⟨4, [(0, some (.mixed [.r (.bs b.2.1), .r (.int .i64 b.2.2)])), (1, some (.mixed ((txC tx0).map .r))), (2, some (.mixed [.r .nil, .r (.int .i64 0)])), (3, some (.mixed ((txC (⟨b.1, 0, a.1, 0, 0, 0, 0, 0, inv0, var0, 0, 0, 0, 0, []⟩)).map .r)))], false⟩) [0, 1, 2, 3] rfl rfl rfl rfl ?_ ?_ rfl) ?_
  · exact ⟨⟨rfl, rfl⟩, ⟨rfl, rfl⟩, ⟨rfl, rfl⟩, ⟨rfl, rfl⟩, trivial⟩
  · exact ⟨⟨rfl, rfl, rfl⟩, ⟨rfl, rfl, rfl⟩, ⟨rfl, rfl, rfl⟩, ⟨rfl, rfl, rfl⟩, trivial⟩
  refine z2 ?_
  refine p2 ?_
  refine ar_pur (cc) rfl rfl rfl rfl rfl rfl rfl ?_
  iterate 4 refine p1 ?_
  iterate 2 refine ar_store tOk rfl rfl rfl trivial ?_
  refine ar_nil ?_
  refine ag_ent (ent_weak (g' := [(1, .ptr 0 0), (2, .ptr 1 0), (3, .ptr 2 0), (4, .ptr 3 0)]) (h' := ⟨4, [(0, some (.mixed [.r (.bs c.2.1), .r (.int .i64 c.2.2)])), (1, some (.mixed ((txC tx0).map .r))), (2, some (.mixed [.r .nil, .r (.int .i64 0)])), (3, some (.mixed ((txC (⟨b.1, c.1, a.1, 0, 0, 0, 0, 0, inv0, var0, 0, 0, 0, 0, []⟩)).map .r)))], false⟩) [0, 1, 2, 3] rfl rfl rfl rfl ?_ ?_ rfl) ?_
  · exact ⟨⟨rfl, rfl⟩, ⟨rfl, rfl⟩, ⟨rfl, rfl⟩, ⟨rfl, rfl⟩, trivial⟩
  · exact ⟨⟨rfl, rfl, rfl⟩, ⟨rfl, rfl, rfl⟩, ⟨rfl, rfl, rfl⟩, ⟨rfl, rfl, rfl⟩, trivial⟩
  refine z2 ?_
  refine p2 ?_
  refine ar_pur (cd) rfl rfl rfl rfl rfl rfl rfl ?_
  iterate 4 refine p1 ?_
  iterate 2 refine ar_store tOk rfl rfl rfl trivial ?_
  refine ar_nil ?_
  refine ag_ent (ent_weak (g' := [(1, .ptr 0 0), (2, .ptr 1 0), (3, .ptr 2 0), (4, .ptr 3 0)]) (h' := ⟨4, [(0, some (.mixed [.r (.bs d.2.1), .r (.int .i64 d.2.2)])), (1, some (.mixed ((txC tx0).map .r))), (2, some (.mixed [.r .nil, .r (.int .i64 0)])), (3, some (.mixed ((txC (⟨b.1, c.1, a.1, d.1, 0, 0, 0, 0, inv0, var0, 0, 0, 0, 0, []⟩)).map .r)))], false⟩) [0, 1, 2, 3] rfl rfl rfl rfl ?_ ?_ rfl) ?_
  · exact ⟨⟨rfl, rfl⟩, ⟨rfl, rfl⟩, ⟨rfl, rfl⟩, ⟨rfl, rfl⟩, trivial⟩
  · exact ⟨⟨rfl, rfl, rfl⟩, ⟨rfl, rfl, rfl⟩, ⟨rfl, rfl, rfl⟩, ⟨rfl, rfl, rfl⟩, trivial⟩
  refine z2 ?_
  refine p2 ?_
  refine ar_pur (ce) rfl rfl rfl rfl rfl rfl rfl ?_
  iterate 4 refine p1 ?_
  iterate 2 refine ar_store tOk rfl rfl rfl trivial ?_
  refine ar_nil ?_
  refine ag_ent (ent_weak (g' := [(1, .ptr 0 0), (2, .ptr 1 0), (3, .ptr 2 0), (4, .ptr 3 0)]) (h' := ⟨4, [(0, some (.mixed [.r (.bs e.2.1), .r (.int .i64 e.2.2)])), (1, some (.mixed ((txC tx0).map .r))), (2, some (.mixed [.r .nil, .r (.int .i64 0)])), (3, some (.mixed ((txC (hdA a b c d e inv0 var0)).map .r)))], false⟩) [0, 1, 2, 3] rfl rfl rfl rfl ?_ ?_ rfl) ?_
  · exact ⟨⟨rfl, rfl⟩, ⟨rfl, rfl⟩, ⟨rfl, rfl⟩, ⟨rfl, rfl⟩, trivial⟩
  · exact ⟨⟨rfl, rfl, rfl⟩, ⟨rfl, rfl, rfl⟩, ⟨rfl, rfl, rfl⟩, ⟨rfl, rfl, rfl⟩, trivial⟩
  refine ag_seq ?_
  refine z2 ?_
  refine p1 ?_
  refine p2 ?_
  refine p1 ?_
  refine ar_nil ?_
  refine ag_false rfl (decide_eq_false (show ¬ a.1 = 1 by omega)) ?_
  refine ag_skip ?_
  refine ag_seq ?_
  refine z2 ?_
  refine p1 ?_
  refine p2 ?_
  refine p1 ?_
  refine ar_nil ?_
  refine ag_false rfl (decide_eq_false (show ¬ a.1 = 2 by omega)) ?_
  refine ag_skip ?_
  refine ag_seq ?_
  refine z2 ?_
  refine p1 ?_
  refine p2 ?_
  iterate 2 refine p1 ?_
  refine ar_ent (ent_reg 58 (.r (.bool true)) (by show AVal.r (.bool _) = _; exact eqB (decide_eq_true (show a.1 ≥ 4 by omega)))) ?_
  refine p1 ?_
  refine p2 ?_
  iterate 2 refine p1 ?_
  refine ar_nil ?_
  refine ag_true rfl (decide_eq_true (show a.1 ≤ 6 by omega)) ?_
  refine z2 ?_
  refine p2 ?_
  refine ar_pur (ci) rfl rfl rfl rfl rfl rfl rfl ?_
  iterate 4 refine p1 ?_
  iterate 2 refine ar_store tOk rfl rfl rfl trivial ?_
  refine ar_nil ?_
  refine ag_ent (ent_weak (g' := [(1, .ptr 0 0), (2, .ptr 1 0), (3, .ptr 2 0), (4, .ptr 3 0)]) (h' := ⟨4, [(0, some (.mixed [.r (.bs i.2.1), .r (.int .i64 i.2.2)])), (1, some (.mixed ((txC tx0).map .r))), (2, some (.mixed [.r .nil, .r (.int .i64 0)])), (3, some (.mixed ((txC (hdA a b c d e i.1 var0)).map .r)))], false⟩) [0, 1, 2, 3] rfl rfl rfl rfl ?_ ?_ rfl) ?_
  · exact ⟨⟨rfl, rfl⟩, ⟨rfl, rfl⟩, ⟨rfl, rfl⟩, ⟨rfl, rfl⟩, trivial⟩
  · exact ⟨⟨rfl, rfl, rfl⟩, ⟨rfl, rfl, rfl⟩, ⟨rfl, rfl, rfl⟩, ⟨rfl, rfl, rfl⟩, trivial⟩
  refine ag_reg ?_
  refine p2 ?_
  refine ar_pur (cj) rfl rfl rfl rfl rfl rfl rfl ?_
  iterate 4 refine p1 ?_
  iterate 2 refine ar_store tOk rfl rfl rfl trivial ?_
  refine ar_nil ?_
  refine ag_ent (ent_weak (g' := [(1, .ptr 0 0), (2, .ptr 1 0), (3, .ptr 2 0), (4, .ptr 3 0)]) (h' := ⟨4, [(0, some (.mixed [.r (.bs j.2.1), .r (.int .i64 j.2.2)])), (1, some (.mixed ((txC tx0).map .r))), (2, some (.mixed [.r .nil, .r (.int .i64 0)])), (3, some (.mixed ((txC (hdA a b c d e i.1 j.1)).map .r)))], false⟩) [0, 1, 2, 3] rfl rfl rfl rfl ?_ ?_ rfl) ?_
  · exact ⟨⟨rfl, rfl⟩, ⟨rfl, rfl⟩, ⟨rfl, rfl⟩, ⟨rfl, rfl⟩, trivial⟩
  · exact ⟨⟨rfl, rfl, rfl⟩, ⟨rfl, rfl, rfl⟩, ⟨rfl, rfl, rfl⟩, ⟨rfl, rfl, rfl⟩, trivial⟩
  refine ag_seq ?_
  refine z2 ?_
  refine p1 ?_
  refine p2 ?_
  iterate 2 refine p1 ?_
  refine ar_ent (ent_reg 78 (.r (.bool true)) (by show AVal.r (.bool _) = _; exact eqB (decide_eq_true (show a.1 = 5 by omega)))) ?_
  iterate 3 refine ar_skip rfl rfl rfl ?_
  refine p1 ?_
  refine ar_nil ?_
  refine ag_true rfl (by rfl) ?_
  refine z2 ?_
  refine p2 ?_
  refine ar_pur (cg) rfl rfl rfl rfl rfl rfl rfl ?_
  iterate 4 refine p1 ?_
  iterate 2 refine ar_store tOk rfl rfl rfl trivial ?_
  refine ar_nil ?_
  refine ag_ent (ent_weak (g' := [(1, .ptr 0 0), (2, .ptr 1 0), (3, .ptr 2 0), (4, .ptr 3 0)]) (h' := ⟨4, [(0, some (.mixed [.r (.bs g.2.1), .r (.int .i64 g.2.2)])), (1, some (.mixed ((txC tx0).map .r))), (2, some (.mixed [.r .nil, .r (.int .i64 0)])), (3, some (.mixed ((txC (hdB a b c d e i.1 j.1 g.1 [])).map .r)))], false⟩) [0, 1, 2, 3] rfl rfl rfl rfl ?_ ?_ rfl) ?_
  · exact ⟨⟨rfl, rfl⟩, ⟨rfl, rfl⟩, ⟨rfl, rfl⟩, ⟨rfl, rfl⟩, trivial⟩
  · exact ⟨⟨rfl, rfl, rfl⟩, ⟨rfl, rfl, rfl⟩, ⟨rfl, rfl, rfl⟩, ⟨rfl, rfl, rfl⟩, trivial⟩
  refine ag_reg ?_
  refine p2 ?_
  refine ar_pur (cs) rfl rfl rfl rfl rfl rfl rfl ?_
  iterate 4 refine p1 ?_
  iterate 2 refine ar_store tOk rfl rfl rfl trivial ?_
  refine ar_nil ?_
  refine ag_ent (ent_weak (g' := [(1, .ptr 0 0), (2, .ptr 1 0), (3, .ptr 2 0), (4, .ptr 3 0)]) (h' := ⟨4, [(0, some (.mixed [.r (.bs s.2.1), .r (.int .i64 s.2.2)])), (1, some (.mixed ((txC tx0).map .r))), (2, some (.mixed [.r .nil, .r (.int .i64 0)])), (3, some (.mixed ((txC (hdB a b c d e i.1 j.1 g.1 s.1)).map .r)))], false⟩) [0, 1, 2, 3] rfl rfl rfl rfl ?_ ?_ rfl) ?_
  · exact ⟨⟨rfl, rfl⟩, ⟨rfl, rfl⟩, ⟨rfl, rfl⟩, ⟨rfl, rfl⟩, trivial⟩
  · exact ⟨⟨rfl, rfl, rfl⟩, ⟨rfl, rfl, rfl⟩, ⟨rfl, rfl, rfl⟩, ⟨rfl, rfl, rfl⟩, trivial⟩
  refine ag_seq ?_
  refine z2 ?_
  refine p1 ?_
  refine p2 ?_
  iterate 2 refine p1 ?_
  refine ar_guard (t := decide (s.2.2 ≠ 0)) (fun ht => ?_) (fun ht => ?_)
  · refine ar_ent (ent_reg 98 (.r (.bool true)) (by show AVal.r (.bool _) = _; exact eqB ht)) ?_
    have hk0 := of_decide_eq_true ht
    repeat (first | refine ar_skip rfl rfl rfl ?_ | refine ar_pure tOk rfl rfl rfl trivial ?_)
    refine ar_nil ?_
    refine ag_true rfl (by rfl) ?_
    refine z2 ?_
    refine ar_pure tOk rfl rfl rfl ?_ ?_
    · simp
    refine p2 ?_
    refine ar_pur (w_rSpoil s.2) rfl rfl rfl rfl rfl rfl rfl ?_
    iterate 2 refine ar_store tOk rfl rfl rfl trivial ?_
    refine ar_nil ?_
    refine ag_ret tOk Try.func46 rfl rfl (by first | trivial | exact ⟨trivial, trivial⟩ | simp) ?_
    rw [show gTxsV (hdB a b c d e i.1 j.1 g.1 s.1) s.2 = (tx0, spR s.2) from by rw [gTxsV, if_pos (.inl hk0)]]
    rfl
  · refine ar_ent (ent_reg 98 (.r (.bool false)) (by show AVal.r (.bool _) = _; exact eqB ht)) ?_
    have hk0 := of_decide_eq_false ht
    refine p2 ?_
    refine ar_pur (w_rTx (hdB a b c d e i.1 j.1 g.1 s.1)) rfl rfl rfl rfl rfl rfl rfl ?_
    iterate 2 refine p1 ?_
    refine ar_nil ?_
    refine ag_if rfl ?_ ?_
    · intro h102
      refine z2 ?_
      refine ar_pure tOk rfl rfl rfl ?_ ?_
      · simp
      refine p2 ?_
      refine ar_pur (w_rSpoil s.2) rfl rfl rfl rfl rfl rfl rfl ?_
      iterate 2 refine ar_store tOk rfl rfl rfl trivial ?_
      refine ar_nil ?_
      refine ag_ret tOk Try.func46 rfl rfl (by first | trivial | exact ⟨trivial, trivial⟩ | simp) ?_
      rw [show gTxsV (hdB a b c d e i.1 j.1 g.1 s.1) s.2 = (tx0, spR s.2) from by rw [gTxsV, if_pos (.inr (by simpa using h102))]]
      rfl
    · intro h102
      refine ag_ent (ent_weak (g' := [(1, .ptr 0 0), (2, .ptr 1 0), (3, .ptr 2 0), (4, .ptr 3 0)]) (h' := ⟨4, [(0, some (.mixed [.r (.bs s.2.1), .r (.int .i64 s.2.2)])), (1, some (.mixed ((txC tx0).map .r))), (2, some (.mixed [.r .nil, .r (.int .i64 0)])), (3, some (.mixed ((txC (hdB a b c d e i.1 j.1 g.1 s.1)).map .r)))], false⟩) [0, 1, 2, 3] rfl rfl rfl rfl ?_ ?_ rfl) ?_
      · exact ⟨⟨rfl, rfl⟩, ⟨rfl, rfl⟩, ⟨rfl, rfl⟩, ⟨rfl, rfl⟩, trivial⟩
      · exact ⟨⟨rfl, rfl, rfl⟩, ⟨rfl, rfl, rfl⟩, ⟨rfl, rfl, rfl⟩, ⟨rfl, rfl, rfl⟩, trivial⟩
      refine ag_skip ?_
      refine ag_seq ?_
      apply ag_draw2 [] (by kernel_rfl) (by kernel_rfl)
      refine aq_load0 tOk rfl (by kernel_rfl) rfl rfl trivial ?_
      refine aq_load1 tOk rfl (by kernel_rfl) rfl rfl rfl rfl trivial ?_ ?_
      rotate_left 1
      refine' aq_store20 (h' := ⟨4, [(1, some (.mixed ((txC (hdB a b c d e i.1 j.1 g.1 s.1)).map .r))), (0, some (.mixed [.r (.bs s.2.1), .r (.int .i64 s.2.2)])), (1, some (.mixed ((txC tx0).map .r))), (2, some (.mixed [.r .nil, .r (.int .i64 0)])), (3, some (.mixed ((txC (hdB a b c d e i.1 j.1 g.1 s.1)).map .r)))], false⟩) (c := True) tOk ?hp ?hh ?hg rfl trivial ?hk
      case hp => kernel_rfl
      case hh => rfl
      case hg => rfl
      case' hk => skip
      refine aq_store21 tOk rfl rfl rfl rfl trivial ?_
      refine aq_nil rfl ?_
      refine ag_ret tOk Try.func46 rfl rfl (by first | trivial | exact ⟨trivial, trivial⟩ | simp) ?_
      rw [show gTxsV (hdB a b c d e i.1 j.1 g.1 s.1) s.2 = (hdB a b c d e i.1 j.1 g.1 s.1, s.2) from by rw [gTxsV, if_neg (by rintro (q | q); exact hk0 q; exact q (by simpa using h102))]]
      rfl
      all_goals exact ⟨_, rfl, trivial⟩

theorem w_rGet6 (w : W) (hk : (gNu w M40).1 = 6) : Pur Try.prog 46 [wV w] (.tuple [txA (gTxs w).1, wV (gTxs w).2]) := by
  obtain ⟨a, ha⟩ : ∃ a, gNu w M40 = a := ⟨_, rfl⟩
  obtain ⟨b, hb⟩ : ∃ b, gNu a.2 M40 = b := ⟨_, rfl⟩
  obtain ⟨c, hc⟩ : ∃ c, gNu b.2 M40 = c := ⟨_, rfl⟩
  obtain ⟨d, hd⟩ : ∃ d, gNu c.2 M40 = d := ⟨_, rfl⟩
  obtain ⟨e, he⟩ : ∃ e, tkR d.2 32 = e := ⟨_, rfl⟩
  obtain ⟨i, hi⟩ : ∃ i, gInv e.2 = i := ⟨_, rfl⟩
  obtain ⟨j, hj⟩ : ∃ j, gVar i.2 = j := ⟨_, rfl⟩
  obtain ⟨g, hg⟩ : ∃ g, tkR j.2 32 = g := ⟨_, rfl⟩
  obtain ⟨s, hs⟩ : ∃ s, gTx g.2 1024 = s := ⟨_, rfl⟩
  rw [ha] at hk
  have hG : gTxs w = gTxsV (hdB a b c d e i.1 j.1 g.1 s.1) s.2 := by simp only [gTxs, ha, hb, hc, hd, he]; rw [if_neg (by omega), if_neg (by omega), if_neg (by omega), if_pos (by omega)]; simp only [hi, hj, hg, hs]
  rw [hG]
  have ca : Pur Try.prog 61 [wV w, .r (.int .i64 1099511627776)] (.tuple [.r (.int .i64 a.1), wV a.2]) := by rw [← ha]; exact w_rGetNum w 1099511627776
  have cb : Pur Try.prog 61 [wV a.2, .r (.int .i64 1099511627776)] (.tuple [.r (.int .i64 b.1), wV b.2]) := by rw [← hb]; exact w_rGetNum a.2 1099511627776
  have cc : Pur Try.prog 61 [wV b.2, .r (.int .i64 1099511627776)] (.tuple [.r (.int .i64 c.1), wV c.2]) := by rw [← hc]; exact w_rGetNum b.2 1099511627776
  have cd : Pur Try.prog 61 [wV c.2, .r (.int .i64 1099511627776)] (.tuple [.r (.int .i64 d.1), wV d.2]) := by rw [← hd]; exact w_rGetNum c.2 1099511627776
  have ce : Pur Try.prog 65 [wV d.2] (.tuple [wd e.1, wV e.2]) := by rw [← he]; exact w_rGetWide d.2
  have ci : Pur Try.prog 25 [wV e.2] (.tuple [invA i.1, wV i.2]) := by rw [← hi]; exact w_rGetInv e.2
  have cj : Pur Try.prog 29 [wV i.2] (.tuple [varA j.1, wV j.2]) := by rw [← hj]; exact w_rGetVar i.2
  have cg : Pur Try.prog 65 [wV j.2] (.tuple [wd g.1, wV g.2]) := by rw [← hg]; exact w_rGetWide j.2
  have cs : Pur Try.prog 60 [wV g.2, .r (.int .i64 1024)] (.tuple [.r (.str s.1), wV s.2]) := by rw [← hs]; exact w_rGetText g.2 1024
  clear hG ha hb hc hd he hi hj hg hs
  refine spec_of_go (N := 108) Try.func46 rfl (by decide) rfl rfl ?_
  refine z2 ?_
  refine ar_new tOk rfl rfl rfl trivial ?_
  refine ar_new tOk rfl rfl rfl ?_ ?_
  · simp
  refine ar_new tOk rfl rfl rfl ?_ ?_
  · simp
  refine z3 ?_
  refine ar_new tOk rfl rfl rfl ?_ ?_
  · simp
  refine z3 ?_
  refine p2 ?_
  refine ar_pur (ca) rfl rfl rfl rfl rfl rfl rfl ?_
  iterate 4 refine p1 ?_
  iterate 2 refine ar_store tOk rfl rfl rfl trivial ?_
  refine ar_nil ?_
  refine ag_ent (ent_weak (g' := [(1, .ptr 0 0), (2, .ptr 1 0), (3, .ptr 2 0), (4, .ptr 3 0)]) (h' := ⟨4, [(0, some (.mixed [.r (.bs a.2.1), .r (.int .i64 a.2.2)])), (1, some (.mixed ((txC tx0).map .r))), (2, some (.mixed [.r .nil, .r (.int .i64 0)])), (3, some (.mixed ((txC (⟨0, 0, a.1, 0, 0, 0, 0, 0, inv0, var0, 0, 0, 0, 0, []⟩)).map .r)))], false⟩) [0, 1, 2, 3] rfl rfl rfl rfl ?_ ?_ rfl) ?_
  · exact ⟨⟨rfl, rfl⟩, ⟨rfl, rfl⟩, ⟨rfl, rfl⟩, ⟨rfl, rfl⟩, trivial⟩
  · exact ⟨⟨rfl, rfl, rfl⟩, ⟨rfl, rfl, rfl⟩, ⟨rfl, rfl, rfl⟩, ⟨rfl, rfl, rfl⟩, trivial⟩
  refine z2 ?_
  refine p2 ?_
  refine ar_pur (cb) rfl rfl rfl rfl rfl rfl rfl ?_
  iterate 4 refine p1 ?_
  iterate 2 refine ar_store tOk rfl rfl rfl trivial ?_
  refine ar_nil ?_
  refine ag_ent (ent_weak (g' := [(1, .ptr 0 0), (2, .ptr 1 0), (3, .ptr 2 0), (4, .ptr 3 0)]) (h' := ⟨4, [(0, some (.mixed [.r (.bs b.2.1), .r (.int .i64 b.2.2)])), (1, some (.mixed ((txC tx0).map .r))), (2, some (.mixed [.r .nil, .r (.int .i64 0)])), (3, some (.mixed ((txC (⟨b.1, 0, a.1, 0, 0, 0, 0, 0, inv0, var0, 0, 0, 0, 0, []⟩)).map .r)))], false⟩) [0, 1, 2, 3] rfl rfl rfl rfl ?_ ?_ rfl) ?_
  · exact ⟨⟨rfl, rfl⟩, ⟨rfl, rfl⟩, ⟨rfl, rfl⟩, ⟨rfl, rfl⟩, trivial⟩
  · exact ⟨⟨rfl, rfl, rfl⟩, ⟨rfl, rfl, rfl⟩, ⟨rfl, rfl, rfl⟩, ⟨rfl, rfl, rfl⟩, trivial⟩
  refine z2 ?_
  refine p2 ?_
  refine ar_pur (cc) rfl rfl rfl rfl rfl rfl rfl ?_
  iterate 4 refine p1 ?_
  iterate 2 refine ar_store tOk rfl rfl rfl trivial ?_
  refine ar_nil ?_
  refine ag_ent (ent_weak (g' := [(1, .ptr 0 0), (2, .ptr 1 0), (3, .ptr 2 0), (4, .ptr 3 0)]) (h' := ⟨4, [(0, some (.mixed [.r (.bs c.2.1), .r (.int .i64 c.2.2)])), (1, some (.mixed ((txC tx0).map .r))), (2, some (.mixed [.r .nil, .r (.int .i64 0)])), (3, some (.mixed ((txC (⟨b.1, c.1, a.1, 0, 0, 0, 0, 0, inv0, var0, 0, 0, 0, 0, []⟩)).map .r)))], false⟩) [0, 1, 2, 3] rfl rfl rfl rfl ?_ ?_ rfl) ?_
  · exact ⟨⟨rfl, rfl⟩, ⟨rfl, rfl⟩, ⟨rfl, rfl⟩, ⟨rfl, rfl⟩, trivial⟩
  · exact ⟨⟨rfl, rfl, rfl⟩, ⟨rfl, rfl, rfl⟩, ⟨rfl, rfl, rfl⟩, ⟨rfl, rfl, rfl⟩, trivial⟩
  refine z2 ?_
  refine p2 ?_
  refine ar_pur (cd) rfl rfl rfl rfl rfl rfl rfl ?_
  iterate 4 refine p1 ?_
  iterate 2 refine ar_store tOk rfl rfl rfl trivial ?_
  refine ar_nil ?_
  refine ag_ent (ent_weak (g' := [(1, .ptr 0 0), (2, .ptr 1 0), (3, .ptr 2 0), (4, .ptr 3 0)]) (h' := ⟨4, [(0, some (.mixed [.r (.bs d.2.1), .r (.int .i64 d.2.2)])), (1, some (.mixed ((txC tx0).map .r))), (2, some (.mixed [.r .nil, .r (.int .i64 0)])), (3, some (.mixed ((txC (⟨b.1, c.1, a.1, d.1, 0, 0, 0, 0, inv0, var0, 0, 0, 0, 0, []⟩)).map .r)))], false⟩) [0, 1, 2, 3] rfl rfl rfl rfl ?_ ?_ rfl) ?_
  · exact ⟨⟨rfl, rfl⟩, ⟨rfl, rfl⟩, ⟨rfl, rfl⟩, ⟨rfl, rfl⟩, trivial⟩
  · exact ⟨⟨rfl, rfl, rfl⟩, ⟨rfl, rfl, rfl⟩, ⟨rfl, rfl, rfl⟩, ⟨rfl, rfl, rfl⟩, trivial⟩
  refine z2 ?_
  refine p2 ?_
  refine ar_pur (ce) rfl rfl rfl rfl rfl rfl rfl ?_
  iterate 4 refine p1 ?_
  iterate 2 refine ar_store tOk rfl rfl rfl trivial ?_
  refine ar_nil ?_
  refine ag_ent (ent_weak (g' := [(1, .ptr 0 0), (2, .ptr 1 0), (3, .ptr 2 0), (4, .ptr 3 0)]) (h' := ⟨4, [(0, some (.mixed [.r (.bs e.2.1), .r (.int .i64 e.2.2)])), (1, some (.mixed ((txC tx0).map .r))), (2, some (.mixed [.r .nil, .r (.int .i64 0)])), (3, some (.mixed ((txC (hdA a b c d e inv0 var0)).map .r)))], false⟩) [0, 1, 2, 3] rfl rfl rfl rfl ?_ ?_ rfl) ?_
  · exact ⟨⟨rfl, rfl⟩, ⟨rfl, rfl⟩, ⟨rfl, rfl⟩, ⟨rfl, rfl⟩, trivial⟩
  · exact ⟨⟨rfl, rfl, rfl⟩, ⟨rfl, rfl, rfl⟩, ⟨rfl, rfl, rfl⟩, ⟨rfl, rfl, rfl⟩, trivial⟩
  refine ag_seq ?_
  refine z2 ?_
  refine p1 ?_
  refine p2 ?_
  refine p1 ?_
  refine ar_nil ?_
  refine ag_false rfl (decide_eq_false (show ¬ a.1 = 1 by omega)) ?_
  refine ag_skip ?_
  refine ag_seq ?_
  refine z2 ?_
  refine p1 ?_
  refine p2 ?_
  refine p1 ?_
  refine ar_nil ?_
  refine ag_false rfl (decide_eq_false (show ¬ a.1 = 2 by omega)) ?_
  refine ag_skip ?_
  refine ag_seq ?_
  refine z2 ?_
  refine p1 ?_
  refine p2 ?_
  iterate 2 refine p1 ?_
  refine ar_ent (ent_reg 58 (.r (.bool true)) (by show AVal.r (.bool _) = _; exact eqB (decide_eq_true (show a.1 ≥ 4 by omega)))) ?_
  refine p1 ?_
  refine p2 ?_
  iterate 2 refine p1 ?_
  refine ar_nil ?_
  refine ag_true rfl (decide_eq_true (show a.1 ≤ 6 by omega)) ?_
  refine z2 ?_
  refine p2 ?_
  refine ar_pur (ci) rfl rfl rfl rfl rfl rfl rfl ?_
  iterate 4 refine p1 ?_
  iterate 2 refine ar_store tOk rfl rfl rfl trivial ?_
  refine ar_nil ?_
  refine ag_ent (ent_weak (g' := [(1, .ptr 0 0), (2, .ptr 1 0), (3, .ptr 2 0), (4, .ptr 3 0)]) (h' := ⟨4, [(0, some (.mixed [.r (.bs i.2.1), .r (.int .i64 i.2.2)])), (1, some (.mixed ((txC tx0).map .r))), (2, some (.mixed [.r .nil, .r (.int .i64 0)])), (3, some (.mixed ((txC (hdA a b c d e i.1 var0)).map .r)))], false⟩) [0, 1, 2, 3] rfl rfl rfl rfl ?_ ?_ rfl) ?_
  · exact ⟨⟨rfl, rfl⟩, ⟨rfl, rfl⟩, ⟨rfl, rfl⟩, ⟨rfl, rfl⟩, trivial⟩
  · exact ⟨⟨rfl, rfl, rfl⟩, ⟨rfl, rfl, rfl⟩, ⟨rfl, rfl, rfl⟩, ⟨rfl, rfl, rfl⟩, trivial⟩
  refine ag_reg ?_
  refine p2 ?_
  refine ar_pur (cj) rfl rfl rfl rfl rfl rfl rfl ?_
  iterate 4 refine p1 ?_
  iterate 2 refine ar_store tOk rfl rfl rfl trivial ?_
  refine ar_nil ?_
  refine ag_ent (ent_weak (g' := [(1, .ptr 0 0), (2, .ptr 1 0), (3, .ptr 2 0), (4, .ptr 3 0)]) (h' := ⟨4, [(0, some (.mixed [.r (.bs j.2.1), .r (.int .i64 j.2.2)])), (1, some (.mixed ((txC tx0).map .r))), (2, some (.mixed [.r .nil, .r (.int .i64 0)])), (3, some (.mixed ((txC (hdA a b c d e i.1 j.1)).map .r)))], false⟩) [0, 1, 2, 3] rfl rfl rfl rfl ?_ ?_ rfl) ?_
  · exact ⟨⟨rfl, rfl⟩, ⟨rfl, rfl⟩, ⟨rfl, rfl⟩, ⟨rfl, rfl⟩, trivial⟩
  · exact ⟨⟨rfl, rfl, rfl⟩, ⟨rfl, rfl, rfl⟩, ⟨rfl, rfl, rfl⟩, ⟨rfl, rfl, rfl⟩, trivial⟩
  refine ag_seq ?_
  refine z2 ?_
  refine p1 ?_
  refine p2 ?_
  iterate 2 refine p1 ?_
  refine ar_ent (ent_reg 78 (.r (.bool false)) (by show AVal.r (.bool _) = _; exact eqB (decide_eq_false (show ¬ a.1 = 5 by omega)))) ?_
  refine p1 ?_
  refine p2 ?_
  iterate 2 refine p1 ?_
  refine ar_nil ?_
  refine ag_true rfl (decide_eq_true (show a.1 = 6 by omega)) ?_
  refine z2 ?_
  refine p2 ?_
  refine ar_pur (cg) rfl rfl rfl rfl rfl rfl rfl ?_
  iterate 4 refine p1 ?_
  iterate 2 refine ar_store tOk rfl rfl rfl trivial ?_
  refine ar_nil ?_
  refine ag_ent (ent_weak (g' := [(1, .ptr 0 0), (2, .ptr 1 0), (3, .ptr 2 0), (4, .ptr 3 0)]) (h' := ⟨4, [(0, some (.mixed [.r (.bs g.2.1), .r (.int .i64 g.2.2)])), (1, some (.mixed ((txC tx0).map .r))), (2, some (.mixed [.r .nil, .r (.int .i64 0)])), (3, some (.mixed ((txC (hdB a b c d e i.1 j.1 g.1 [])).map .r)))], false⟩) [0, 1, 2, 3] rfl rfl rfl rfl ?_ ?_ rfl) ?_
  · exact ⟨⟨rfl, rfl⟩, ⟨rfl, rfl⟩, ⟨rfl, rfl⟩, ⟨rfl, rfl⟩, trivial⟩
  · exact ⟨⟨rfl, rfl, rfl⟩, ⟨rfl, rfl, rfl⟩, ⟨rfl, rfl, rfl⟩, ⟨rfl, rfl, rfl⟩, trivial⟩
  refine ag_reg ?_
  refine p2 ?_
  refine ar_pur (cs) rfl rfl rfl rfl rfl rfl rfl ?_
  iterate 4 refine p1 ?_
  iterate 2 refine ar_store tOk rfl rfl rfl trivial ?_
  refine ar_nil ?_
  refine ag_ent (ent_weak (g' := [(1, .ptr 0 0), (2, .ptr 1 0), (3, .ptr 2 0), (4, .ptr 3 0)]) (h' := ⟨4, [(0, some (.mixed [.r (.bs s.2.1), .r (.int .i64 s.2.2)])), (1, some (.mixed ((txC tx0).map .r))), (2, some (.mixed [.r .nil, .r (.int .i64 0)])), (3, some (.mixed ((txC (hdB a b c d e i.1 j.1 g.1 s.1)).map .r)))], false⟩) [0, 1, 2, 3] rfl rfl rfl rfl ?_ ?_ rfl) ?_
  · exact ⟨⟨rfl, rfl⟩, ⟨rfl, rfl⟩, ⟨rfl, rfl⟩, ⟨rfl, rfl⟩, trivial⟩
  · exact ⟨⟨rfl, rfl, rfl⟩, ⟨rfl, rfl, rfl⟩, ⟨rfl, rfl, rfl⟩, ⟨rfl, rfl, rfl⟩, trivial⟩
  refine ag_seq ?_
  refine z2 ?_
  refine p1 ?_
  refine p2 ?_
  iterate 2 refine p1 ?_
  refine ar_guard (t := decide (s.2.2 ≠ 0)) (fun ht => ?_) (fun ht => ?_)
  · refine ar_ent (ent_reg 98 (.r (.bool true)) (by show AVal.r (.bool _) = _; exact eqB ht)) ?_
    have hk0 := of_decide_eq_true ht
    repeat (first | refine ar_skip rfl rfl rfl ?_ | refine ar_pure tOk rfl rfl rfl trivial ?_)
    refine ar_nil ?_
    refine ag_true rfl (by rfl) ?_
    refine z2 ?_
    refine ar_pure tOk rfl rfl rfl ?_ ?_
    · simp
    refine p2 ?_
    refine ar_pur (w_rSpoil s.2) rfl rfl rfl rfl rfl rfl rfl ?_
    iterate 2 refine ar_store tOk rfl rfl rfl trivial ?_
    refine ar_nil ?_
    refine ag_ret tOk Try.func46 rfl rfl (by first | trivial | exact ⟨trivial, trivial⟩ | simp) ?_
    rw [show gTxsV (hdB a b c d e i.1 j.1 g.1 s.1) s.2 = (tx0, spR s.2) from by rw [gTxsV, if_pos (.inl hk0)]]
    rfl
  · refine ar_ent (ent_reg 98 (.r (.bool false)) (by show AVal.r (.bool _) = _; exact eqB ht)) ?_
    have hk0 := of_decide_eq_false ht
    refine p2 ?_
    refine ar_pur (w_rTx (hdB a b c d e i.1 j.1 g.1 s.1)) rfl rfl rfl rfl rfl rfl rfl ?_
    iterate 2 refine p1 ?_
    refine ar_nil ?_
    refine ag_if rfl ?_ ?_
    · intro h102
      refine z2 ?_
      refine ar_pure tOk rfl rfl rfl ?_ ?_
      · simp
      refine p2 ?_
      refine ar_pur (w_rSpoil s.2) rfl rfl rfl rfl rfl rfl rfl ?_
      iterate 2 refine ar_store tOk rfl rfl rfl trivial ?_
      refine ar_nil ?_
      refine ag_ret tOk Try.func46 rfl rfl (by first | trivial | exact ⟨trivial, trivial⟩ | simp) ?_
      rw [show gTxsV (hdB a b c d e i.1 j.1 g.1 s.1) s.2 = (tx0, spR s.2) from by rw [gTxsV, if_pos (.inr (by simpa using h102))]]
      rfl
    · intro h102
      refine ag_ent (ent_weak (g' := [(1, .ptr 0 0), (2, .ptr 1 0), (3, .ptr 2 0), (4, .ptr 3 0)]) (h' := ⟨4, [(0, some (.mixed [.r (.bs s.2.1), .r (.int .i64 s.2.2)])), (1, some (.mixed ((txC tx0).map .r))), (2, some (.mixed [.r .nil, .r (.int .i64 0)])), (3, some (.mixed ((txC (hdB a b c d e i.1 j.1 g.1 s.1)).map .r)))], false⟩) [0, 1, 2, 3] rfl rfl rfl rfl ?_ ?_ rfl) ?_
      · exact ⟨⟨rfl, rfl⟩, ⟨rfl, rfl⟩, ⟨rfl, rfl⟩, ⟨rfl, rfl⟩, trivial⟩
      · exact ⟨⟨rfl, rfl, rfl⟩, ⟨rfl, rfl, rfl⟩, ⟨rfl, rfl, rfl⟩, ⟨rfl, rfl, rfl⟩, trivial⟩
      refine ag_skip ?_
      refine ag_seq ?_
      apply ag_draw2 [] (by kernel_rfl) (by kernel_rfl)
      refine aq_load0 tOk rfl (by kernel_rfl) rfl rfl trivial ?_
      refine aq_load1 tOk rfl (by kernel_rfl) rfl rfl rfl rfl trivial ?_ ?_
      rotate_left 1
      refine' aq_store20 (h' := ⟨4, [(1, some (.mixed ((txC (hdB a b c d e i.1 j.1 g.1 s.1)).map .r))), (0, some (.mixed [.r (.bs s.2.1), .r (.int .i64 s.2.2)])), (1, some (.mixed ((txC tx0).map .r))), (2, some (.mixed [.r .nil, .r (.int .i64 0)])), (3, some (.mixed ((txC (hdB a b c d e i.1 j.1 g.1 s.1)).map .r)))], false⟩) (c := True) tOk ?hp ?hh ?hg rfl trivial ?hk
      case hp => kernel_rfl
      case hh => rfl
      case hg => rfl
      case' hk => skip
      refine aq_store21 tOk rfl rfl rfl rfl trivial ?_
      refine aq_nil rfl ?_
      refine ag_ret tOk Try.func46 rfl rfl (by first | trivial | exact ⟨trivial, trivial⟩ | simp) ?_
      rw [show gTxsV (hdB a b c d e i.1 j.1 g.1 s.1) s.2 = (hdB a b c d e i.1 j.1 g.1 s.1, s.2) from by rw [gTxsV, if_neg (by rintro (q | q); exact hk0 q; exact q (by simpa using h102))]]
      rfl
      all_goals exact ⟨_, rfl, trivial⟩

theorem w_rGet0 (w : W) (hk : (gNu w M40).1 < 1 ∨ (gNu w M40).1 = 3 ∨ (gNu w M40).1 > 6) : Pur Try.prog 46 [wV w] (.tuple [txA (gTxs w).1, wV (gTxs w).2]) := by
  obtain ⟨a, ha⟩ : ∃ a, gNu w M40 = a := ⟨_, rfl⟩
  obtain ⟨b, hb⟩ : ∃ b, gNu a.2 M40 = b := ⟨_, rfl⟩
  obtain ⟨c, hc⟩ : ∃ c, gNu b.2 M40 = c := ⟨_, rfl⟩
  obtain ⟨d, hd⟩ : ∃ d, gNu c.2 M40 = d := ⟨_, rfl⟩
  obtain ⟨e, he⟩ : ∃ e, tkR d.2 32 = e := ⟨_, rfl⟩
  rw [ha] at hk
  have hG : gTxs w = gTxsV (hdA a b c d e inv0 var0) e.2 := by simp only [gTxs, ha, hb, hc, hd, he]; rw [if_neg (by omega), if_neg (by omega), if_neg (by omega), if_neg (by omega)]
  rw [hG]
  have ca : Pur Try.prog 61 [wV w, .r (.int .i64 1099511627776)] (.tuple [.r (.int .i64 a.1), wV a.2]) := by rw [← ha]; exact w_rGetNum w 1099511627776
  have cb : Pur Try.prog 61 [wV a.2, .r (.int .i64 1099511627776)] (.tuple [.r (.int .i64 b.1), wV b.2]) := by rw [← hb]; exact w_rGetNum a.2 1099511627776
  have cc : Pur Try.prog 61 [wV b.2, .r (.int .i64 1099511627776)] (.tuple [.r (.int .i64 c.1), wV c.2]) := by rw [← hc]; exact w_rGetNum b.2 1099511627776
  have cd : Pur Try.prog 61 [wV c.2, .r (.int .i64 1099511627776)] (.tuple [.r (.int .i64 d.1), wV d.2]) := by rw [← hd]; exact w_rGetNum c.2 1099511627776
  have ce : Pur Try.prog 65 [wV d.2] (.tuple [wd e.1, wV e.2]) := by rw [← he]; exact w_rGetWide d.2
  clear hG ha hb hc hd he
  refine spec_of_go (N := 108) Try.func46 rfl (by decide) rfl rfl ?_
  refine z2 ?_
  refine ar_new tOk rfl rfl rfl trivial ?_
  refine ar_new tOk rfl rfl rfl ?_ ?_
  · simp
  refine ar_new tOk rfl rfl rfl ?_ ?_
  · simp
  refine z3 ?_
  refine ar_new tOk rfl rfl rfl ?_ ?_
  · simp
  refine z3 ?_
  refine p2 ?_
  refine ar_pur (ca) rfl rfl rfl rfl rfl rfl rfl ?_
  iterate 4 refine p1 ?_
  iterate 2 refine ar_store tOk rfl rfl rfl trivial ?_
  refine ar_nil ?_
  refine ag_ent (ent_weak (g' := [(1, .ptr 0 0), (2, .ptr 1 0), (3, .ptr 2 0), (4, .ptr 3 0)]) (h' := ⟨4, [(0, some (.mixed [.r (.bs a.2.1), .r (.int .i64 a.2.2)])), (1, some (.mixed ((txC tx0).map .r))), (2, some (.mixed [.r .nil, .r (.int .i64 0)])), (3, some (.mixed ((txC (⟨0, 0, a.1, 0, 0, 0, 0, 0, inv0, var0, 0, 0, 0, 0, []⟩)).map .r)))], false⟩) [0, 1, 2, 3] rfl rfl rfl rfl ?_ ?_ rfl) ?_
  · exact ⟨⟨rfl, rfl⟩, ⟨rfl, rfl⟩, ⟨rfl, rfl⟩, ⟨rfl, rfl⟩, trivial⟩
  · exact ⟨⟨rfl, rfl, rfl⟩, ⟨rfl, rfl, rfl⟩, ⟨rfl, rfl, rfl⟩, ⟨rfl, rfl, rfl⟩, trivial⟩
  refine z2 ?_
  refine p2 ?_
  refine ar_pur (cb) rfl rfl rfl rfl rfl rfl rfl ?_
  iterate 4 refine p1 ?_
  iterate 2 refine ar_store tOk rfl rfl rfl trivial ?_
  refine ar_nil ?_
  refine ag_ent (ent_weak (g' := [(1, .ptr 0 0), (2, .ptr 1 0), (3, .ptr 2 0), (4, .ptr 3 0)]) (h' := ⟨4, [(0, some (.mixed [.r (.bs b.2.1), .r (.int .i64 b.2.2)])), (1, some (.mixed ((txC tx0).map .r))), (2, some (.mixed [.r .nil, .r (.int .i64 0)])), (3, some (.mixed ((txC (⟨b.1, 0, a.1, 0, 0, 0, 0, 0, inv0, var0, 0, 0, 0, 0, []⟩)).map .r)))], false⟩) [0, 1, 2, 3] rfl rfl rfl rfl ?_ ?_ rfl) ?_
  · exact ⟨⟨rfl, rfl⟩, ⟨rfl, rfl⟩, ⟨rfl, rfl⟩, ⟨rfl, rfl⟩, trivial⟩
  · exact ⟨⟨rfl, rfl, rfl⟩, ⟨rfl, rfl, rfl⟩, ⟨rfl, rfl, rfl⟩, ⟨rfl, rfl, rfl⟩, trivial⟩
  refine z2 ?_
  refine p2 ?_
  refine ar_pur (cc) rfl rfl rfl rfl rfl rfl rfl ?_
  iterate 4 refine p1 ?_
  iterate 2 refine ar_store tOk rfl rfl rfl trivial ?_
  refine ar_nil ?_
  refine ag_ent (ent_weak (g' := [(1, .ptr 0 0), (2, .ptr 1 0), (3, .ptr 2 0), (4, .ptr 3 0)]) (h' := ⟨4, [(0, some (.mixed [.r (.bs c.2.1), .r (.int .i64 c.2.2)])), (1, some (.mixed ((txC tx0).map .r))), (2, some (.mixed [.r .nil, .r (.int .i64 0)])), (3, some (.mixed ((txC (⟨b.1, c.1, a.1, 0, 0, 0, 0, 0, inv0, var0, 0, 0, 0, 0, []⟩)).map .r)))], false⟩) [0, 1, 2, 3] rfl rfl rfl rfl ?_ ?_ rfl) ?_
  · exact ⟨⟨rfl, rfl⟩, ⟨rfl, rfl⟩, ⟨rfl, rfl⟩, ⟨rfl, rfl⟩, trivial⟩
  · exact ⟨⟨rfl, rfl, rfl⟩, ⟨rfl, rfl, rfl⟩, ⟨rfl, rfl, rfl⟩, ⟨rfl, rfl, rfl⟩, trivial⟩
  refine z2 ?_
  refine p2 ?_
  refine ar_pur (cd) rfl rfl rfl rfl rfl rfl rfl ?_
  iterate 4 refine p1 ?_
  iterate 2 refine ar_store tOk rfl rfl rfl trivial ?_
  refine ar_nil ?_
  refine ag_ent (ent_weak (g' := [(1, .ptr 0 0), (2, .ptr 1 0), (3, .ptr 2 0), (4, .ptr 3 0)]) (h' := ⟨4, [(0, some (.mixed [.r (.bs d.2.1), .r (.int .i64 d.2.2)])), (1, some (.mixed ((txC tx0).map .r))), (2, some (.mixed [.r .nil, .r (.int .i64 0)])), (3, some (.mixed ((txC (⟨b.1, c.1, a.1, d.1, 0, 0, 0, 0, inv0, var0, 0, 0, 0, 0, []⟩)).map .r)))], false⟩) [0, 1, 2, 3] rfl rfl rfl rfl ?_ ?_ rfl) ?_
  · exact ⟨⟨rfl, rfl⟩, ⟨rfl, rfl⟩, ⟨rfl, rfl⟩, ⟨rfl, rfl⟩, trivial⟩
  · exact ⟨⟨rfl, rfl, rfl⟩, ⟨rfl, rfl, rfl⟩, ⟨rfl, rfl, rfl⟩, ⟨rfl, rfl, rfl⟩, trivial⟩
  refine z2 ?_
  refine p2 ?_
  refine ar_pur (ce) rfl rfl rfl rfl rfl rfl rfl ?_
  iterate 4 refine p1 ?_
  iterate 2 refine ar_store tOk rfl rfl rfl trivial ?_
  refine ar_nil ?_
  refine ag_ent (ent_weak (g' := [(1, .ptr 0 0), (2, .ptr 1 0), (3, .ptr 2 0), (4, .ptr 3 0)]) (h' := ⟨4, [(0, some (.mixed [.r (.bs e.2.1), .r (.int .i64 e.2.2)])), (1, some (.mixed ((txC tx0).map .r))), (2, some (.mixed [.r .nil, .r (.int .i64 0)])), (3, some (.mixed ((txC (hdA a b c d e inv0 var0)).map .r)))], false⟩) [0, 1, 2, 3] rfl rfl rfl rfl ?_ ?_ rfl) ?_
  · exact ⟨⟨rfl, rfl⟩, ⟨rfl, rfl⟩, ⟨rfl, rfl⟩, ⟨rfl, rfl⟩, trivial⟩
  · exact ⟨⟨rfl, rfl, rfl⟩, ⟨rfl, rfl, rfl⟩, ⟨rfl, rfl, rfl⟩, ⟨rfl, rfl, rfl⟩, trivial⟩
  refine ag_seq ?_
  refine z2 ?_
  refine p1 ?_
  refine p2 ?_
  refine p1 ?_
  refine ar_nil ?_
  refine ag_false rfl (decide_eq_false (show ¬ a.1 = 1 by omega)) ?_
  refine ag_skip ?_
  refine ag_seq ?_
  refine z2 ?_
  refine p1 ?_
  refine p2 ?_
  refine p1 ?_
  refine ar_nil ?_
  refine ag_false rfl (decide_eq_false (show ¬ a.1 = 2 by omega)) ?_
  refine ag_skip ?_
  refine ag_seq ?_
  refine z2 ?_
  refine p1 ?_
  refine p2 ?_
  iterate 2 refine p1 ?_
  refine ar_guard (t := decide (a.1 ≥ 4)) (fun ht => ?_) (fun ht => ?_)
  · refine ar_ent (ent_reg 58 (.r (.bool true)) (by show AVal.r (.bool _) = _; exact eqB ht)) ?_
    have hq := of_decide_eq_true ht
    refine p1 ?_
    refine p2 ?_
    iterate 2 refine p1 ?_
    refine ar_nil ?_
    refine ag_false rfl (decide_eq_false (show ¬ a.1 ≤ 6 by omega)) ?_
    refine ag_skip ?_
    refine ag_seq ?_
    refine z2 ?_
    refine p1 ?_
    refine p2 ?_
    iterate 2 refine p1 ?_
    refine ar_ent (ent_reg 78 (.r (.bool false)) (by show AVal.r (.bool _) = _; exact eqB (decide_eq_false (show ¬ a.1 = 5 by omega)))) ?_
    refine p1 ?_
    refine p2 ?_
    iterate 2 refine p1 ?_
    refine ar_nil ?_
    refine ag_false rfl (decide_eq_false (show ¬ a.1 = 6 by omega)) ?_
    refine ag_skip ?_
    refine ag_seq ?_
    refine z2 ?_
    refine p1 ?_
    refine p2 ?_
    iterate 2 refine p1 ?_
    refine ar_guard (t := decide (e.2.2 ≠ 0)) (fun ht => ?_) (fun ht => ?_)
    · refine ar_ent (ent_reg 98 (.r (.bool true)) (by show AVal.r (.bool _) = _; exact eqB ht)) ?_
      have hk0 := of_decide_eq_true ht
      repeat (first | refine ar_skip rfl rfl rfl ?_ | refine ar_pure tOk rfl rfl rfl trivial ?_)
      refine ar_nil ?_
      refine ag_true rfl (by rfl) ?_
      refine z2 ?_
      refine ar_pure tOk rfl rfl rfl ?_ ?_
      · simp
      refine p2 ?_
      refine ar_pur (w_rSpoil e.2) rfl rfl rfl rfl rfl rfl rfl ?_
      iterate 2 refine ar_store tOk rfl rfl rfl trivial ?_
      refine ar_nil ?_
      refine ag_ret tOk Try.func46 rfl rfl (by first | trivial | exact ⟨trivial, trivial⟩ | simp) ?_
      rw [show gTxsV (hdA a b c d e inv0 var0) e.2 = (tx0, spR e.2) from by rw [gTxsV, if_pos (.inl hk0)]]
      rfl
    · refine ar_ent (ent_reg 98 (.r (.bool false)) (by show AVal.r (.bool _) = _; exact eqB ht)) ?_
      have hk0 := of_decide_eq_false ht
      refine p2 ?_
      refine ar_pur (w_rTx (hdA a b c d e inv0 var0)) rfl rfl rfl rfl rfl rfl rfl ?_
      iterate 2 refine p1 ?_
      refine ar_nil ?_
      refine ag_if rfl ?_ ?_
      · intro h102
        refine z2 ?_
        refine ar_pure tOk rfl rfl rfl ?_ ?_
        · simp
        refine p2 ?_
        refine ar_pur (w_rSpoil e.2) rfl rfl rfl rfl rfl rfl rfl ?_
        iterate 2 refine ar_store tOk rfl rfl rfl trivial ?_
        refine ar_nil ?_
        refine ag_ret tOk Try.func46 rfl rfl (by first | trivial | exact ⟨trivial, trivial⟩ | simp) ?_
        rw [show gTxsV (hdA a b c d e inv0 var0) e.2 = (tx0, spR e.2) from by rw [gTxsV, if_pos (.inr (by simpa using h102))]]
        rfl
      · intro h102
        refine ag_ent (ent_weak (g' := [(1, .ptr 0 0), (2, .ptr 1 0), (3, .ptr 2 0), (4, .ptr 3 0)]) (h' := ⟨4, [(0, some (.mixed [.r (.bs e.2.1), .r (.int .i64 e.2.2)])), (1, some (.mixed ((txC tx0).map .r))), (2, some (.mixed [.r .nil, .r (.int .i64 0)])), (3, some (.mixed ((txC (hdA a b c d e inv0 var0)).map .r)))], false⟩) [0, 1, 2, 3] rfl rfl rfl rfl ?_ ?_ rfl) ?_
        · exact ⟨⟨rfl, rfl⟩, ⟨rfl, rfl⟩, ⟨rfl, rfl⟩, ⟨rfl, rfl⟩, trivial⟩
        · exact ⟨⟨rfl, rfl, rfl⟩, ⟨rfl, rfl, rfl⟩, ⟨rfl, rfl, rfl⟩, ⟨rfl, rfl, rfl⟩, trivial⟩
        refine ag_skip ?_
        refine ag_seq ?_
        apply ag_draw2 [] (by kernel_rfl) (by kernel_rfl)
        refine aq_load0 tOk rfl (by kernel_rfl) rfl rfl trivial ?_
        refine aq_load1 tOk rfl (by kernel_rfl) rfl rfl rfl rfl trivial ?_ ?_
        rotate_left 1
        refine' aq_store20 (h' := ⟨4, [(1, some (.mixed ((txC (hdA a b c d e inv0 var0)).map .r))), (0, some (.mixed [.r (.bs e.2.1), .r (.int .i64 e.2.2)])), (1, some (.mixed ((txC tx0).map .r))), (2, some (.mixed [.r .nil, .r (.int .i64 0)])), (3, some (.mixed ((txC (hdA a b c d e inv0 var0)).map .r)))], false⟩) (c := True) tOk ?hp ?hh ?hg rfl trivial ?hk
        case hp => kernel_rfl
        case hh => rfl
        case hg => rfl
        case' hk => skip
        refine aq_store21 tOk rfl rfl rfl rfl trivial ?_
        refine aq_nil rfl ?_
        refine ag_ret tOk Try.func46 rfl rfl (by first | trivial | exact ⟨trivial, trivial⟩ | simp) ?_
        rw [show gTxsV (hdA a b c d e inv0 var0) e.2 = (hdA a b c d e inv0 var0, e.2) from by rw [gTxsV, if_neg (by rintro (q | q); exact hk0 q; exact q (by simpa using h102))]]
        rfl
        all_goals exact ⟨_, rfl, trivial⟩
  · refine ar_ent (ent_reg 58 (.r (.bool false)) (by show AVal.r (.bool _) = _; exact eqB ht)) ?_
    have hq := of_decide_eq_false ht
    repeat (first | refine ar_skip rfl rfl rfl ?_ | refine ar_pure tOk rfl rfl rfl trivial ?_)
    refine ar_nil ?_
    refine ag_false rfl (by rfl) ?_
    refine ag_skip ?_
    refine ag_seq ?_
    refine z2 ?_
    refine p1 ?_
    refine p2 ?_
    iterate 2 refine p1 ?_
    refine ar_ent (ent_reg 78 (.r (.bool false)) (by show AVal.r (.bool _) = _; exact eqB (decide_eq_false (show ¬ a.1 = 5 by omega)))) ?_
    refine p1 ?_
    refine p2 ?_
    iterate 2 refine p1 ?_
    refine ar_nil ?_
    refine ag_false rfl (decide_eq_false (show ¬ a.1 = 6 by omega)) ?_
    refine ag_skip ?_
    refine ag_seq ?_
    refine z2 ?_
    refine p1 ?_
    refine p2 ?_
    iterate 2 refine p1 ?_
    refine ar_guard (t := decide (e.2.2 ≠ 0)) (fun ht => ?_) (fun ht => ?_)
    · refine ar_ent (ent_reg 98 (.r (.bool true)) (by show AVal.r (.bool _) = _; exact eqB ht)) ?_
      have hk0 := of_decide_eq_true ht
      repeat (first | refine ar_skip rfl rfl rfl ?_ | refine ar_pure tOk rfl rfl rfl trivial ?_)
      refine ar_nil ?_
      refine ag_true rfl (by rfl) ?_
      refine z2 ?_
      refine ar_pure tOk rfl rfl rfl ?_ ?_
      · simp
      refine p2 ?_
      refine ar_pur (w_rSpoil e.2) rfl rfl rfl rfl rfl rfl rfl ?_
      iterate 2 refine ar_store tOk rfl rfl rfl trivial ?_
      refine ar_nil ?_
      refine ag_ret tOk Try.func46 rfl rfl (by first | trivial | exact ⟨trivial, trivial⟩ | simp) ?_
      rw [show gTxsV (hdA a b c d e inv0 var0) e.2 = (tx0, spR e.2) from by rw [gTxsV, if_pos (.inl hk0)]]
      rfl
    · refine ar_ent (ent_reg 98 (.r (.bool false)) (by show AVal.r (.bool _) = _; exact eqB ht)) ?_
      have hk0 := of_decide_eq_false ht
      refine p2 ?_
      refine ar_pur (w_rTx (hdA a b c d e inv0 var0)) rfl rfl rfl rfl rfl rfl rfl ?_
      iterate 2 refine p1 ?_
      refine ar_nil ?_
      refine ag_if rfl ?_ ?_
      · intro h102
        refine z2 ?_
        refine ar_pure tOk rfl rfl rfl ?_ ?_
        · simp
        refine p2 ?_
        refine ar_pur (w_rSpoil e.2) rfl rfl rfl rfl rfl rfl rfl ?_
        iterate 2 refine ar_store tOk rfl rfl rfl trivial ?_
        refine ar_nil ?_
        refine ag_ret tOk Try.func46 rfl rfl (by first | trivial | exact ⟨trivial, trivial⟩ | simp) ?_
        rw [show gTxsV (hdA a b c d e inv0 var0) e.2 = (tx0, spR e.2) from by rw [gTxsV, if_pos (.inr (by simpa using h102))]]
        rfl
      · intro h102
        refine ag_ent (ent_weak (g' := [(1, .ptr 0 0), (2, .ptr 1 0), (3, .ptr 2 0), (4, .ptr 3 0)]) (h' := ⟨4, [(0, some (.mixed [.r (.bs e.2.1), .r (.int .i64 e.2.2)])), (1, some (.mixed ((txC tx0).map .r))), (2, some (.mixed [.r .nil, .r (.int .i64 0)])), (3, some (.mixed ((txC (hdA a b c d e inv0 var0)).map .r)))], false⟩) [0, 1, 2, 3] rfl rfl rfl rfl ?_ ?_ rfl) ?_
        · exact ⟨⟨rfl, rfl⟩, ⟨rfl, rfl⟩, ⟨rfl, rfl⟩, ⟨rfl, rfl⟩, trivial⟩
        · exact ⟨⟨rfl, rfl, rfl⟩, ⟨rfl, rfl, rfl⟩, ⟨rfl, rfl, rfl⟩, ⟨rfl, rfl, rfl⟩, trivial⟩
        refine ag_skip ?_
        refine ag_seq ?_
        apply ag_draw2 [] (by kernel_rfl) (by kernel_rfl)
        refine aq_load0 tOk rfl (by kernel_rfl) rfl rfl trivial ?_
        refine aq_load1 tOk rfl (by kernel_rfl) rfl rfl rfl rfl trivial ?_ ?_
        rotate_left 1
        refine' aq_store20 (h' := ⟨4, [(1, some (.mixed ((txC (hdA a b c d e inv0 var0)).map .r))), (0, some (.mixed [.r (.bs e.2.1), .r (.int .i64 e.2.2)])), (1, some (.mixed ((txC tx0).map .r))), (2, some (.mixed [.r .nil, .r (.int .i64 0)])), (3, some (.mixed ((txC (hdA a b c d e inv0 var0)).map .r)))], false⟩) (c := True) tOk ?hpB ?hhB ?hgB rfl trivial ?hkB
        case hpB => kernel_rfl
        case hhB => rfl
        case hgB => rfl
        case' hkB => skip
        refine aq_store21 tOk rfl rfl rfl rfl trivial ?_
        refine aq_nil rfl ?_
        refine ag_ret tOk Try.func46 rfl rfl (by first | trivial | exact ⟨trivial, trivial⟩ | simp) ?_
        rw [show gTxsV (hdA a b c d e inv0 var0) e.2 = (hdA a b c d e inv0 var0, e.2) from by rw [gTxsV, if_neg (by rintro (q | q); exact hk0 q; exact q (by simpa using h102))]]
        rfl
        all_goals exact ⟨_, rfl, trivial⟩

theorem kcase (k : Int) : k = 1 ∨ k = 2 ∨ k = 4 ∨ k = 5 ∨ k = 6 ∨ (k < 1 ∨ k = 3 ∨ k > 6) := by omega
theorem pTx_1 (w : W) {t : TxV} (hk : t.k = 1) : pTx w t = wnum (pHd w t) t.inv.t := by rw [pTx, if_pos (by omega)]
theorem pTx_2 (w : W) {t : TxV} (hk : t.k = 2) : pTx w t = wnum (pHd w t) t.inv.r := by rw [pTx, if_neg (by omega), if_pos (by omega)]
theorem pTx_4 (w : W) {t : TxV} (hk : t.k = 4) : pTx w t = pVar (pInv (pHd w t) t.inv) t.var := by rw [pTx, if_neg (by omega), if_neg (by omega), if_pos (by omega)]
theorem pTx_5 (w : W) {t : TxV} (hk : t.k = 5) : pTx w t = wtxt (wwid (pVar (pInv (pHd w t) t.inv) t.var) t.g0 t.g1 t.g2 t.g3) t.sig := by rw [pTx, if_neg (by omega), if_neg (by omega), if_neg (by omega), if_pos (by omega)]
theorem pTx_6 (w : W) {t : TxV} (hk : t.k = 6) : pTx w t = wtxt (wwid (pVar (pInv (pHd w t) t.inv) t.var) t.g0 t.g1 t.g2 t.g3) t.sig := by rw [pTx, if_neg (by omega), if_neg (by omega), if_neg (by omega), if_pos (by omega)]
theorem pTx_0 (w : W) {t : TxV} (hk : t.k < 1 ∨ t.k = 3 ∨ t.k > 6) : pTx w t = pHd w t := by rw [pTx, if_neg (by omega), if_neg (by omega), if_neg (by omega), if_neg (by omega)]
theorem w_xPut (w : W) (sl : Option (List UInt8)) (tl : List RVal) (hr : oRel w sl tl) (t : TxV) (ht : t.ok) : Spec Try.prog 37 [.ptr 0 0, txA t] (obP sl tl) (fun u h' => ∃ sl' tl', OQ (pTx w t) u sl' tl' ∧ ObIs sl' tl' h') := by
  rcases kcase t.k with h | h | h | h | h | h
  · rw [pTx_1 w h]; exact w_xPut1 w sl tl hr t ht h
  · rw [pTx_2 w h]; exact w_xPut2 w sl tl hr t ht h
  · rw [pTx_4 w h]; exact w_xPut4 w sl tl hr t ht h
  · rw [pTx_5 w h]; exact w_xPut5 w sl tl hr t ht h
  · rw [pTx_6 w h]; exact w_xPut6 w sl tl hr t ht h
  · rw [pTx_0 w h]; exact w_xPut0 w sl tl hr t ht h
theorem w_rPutTx (w : W) (hw : wok w) (t : TxV) (ht : t.ok) : Pur Try.prog 38 [wV w, txA t] (wV (pTx w t)) := by
  rcases kcase t.k with h | h | h | h | h | h
  · rw [pTx_1 w h]; exact w_rPut1 w hw t ht h
  · rw [pTx_2 w h]; exact w_rPut2 w hw t ht h
  · rw [pTx_4 w h]; exact w_rPut4 w hw t ht h
  · rw [pTx_5 w h]; exact w_rPut5 w hw t ht h
  · rw [pTx_6 w h]; exact w_rPut6 w hw t ht h
  · rw [pTx_0 w h]; exact w_rPut0 w hw t ht h
theorem w_xGet (w : W) : Spec Try.prog 48 [.ptr 0 0] (iH w.1 w.2) (fun u h' => u = txA (gTxs w).1 ∧ h' = iH ((gTxs w).2).1 ((gTxs w).2).2) := by
  rcases kcase (gNu w M40).1 with h | h | h | h | h | h
  · exact w_xGet1 w h
  · exact w_xGet2 w h
  · exact w_xGet4 w h
  · exact w_xGet5 w h
  · exact w_xGet6 w h
  · exact w_xGet0 w h
theorem w_rGetTx (w : W) : Pur Try.prog 46 [wV w] (.tuple [txA (gTxs w).1, wV (gTxs w).2]) := by
  rcases kcase (gNu w M40).1 with h | h | h | h | h | h
  · exact w_rGet1 w h
  · exact w_rGet2 w h
  · exact w_rGet4 w h
  · exact w_rGet5 w h
  · exact w_rGet6 w h
  · exact w_rGet0 w h

end Go.Proofs.Ytbofioheoohlgaa

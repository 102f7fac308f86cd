/-
  WALKS: messages of octets, by the reference. (Printed by gen.py out of w_mail5.py.)
-/
import Derived.Test.YtppniggpdepabaaMail4
namespace Go.Proofs.Ytppniggpdepabaa
open Go
set_option maxRecDepth 20000
set_option linter.unusedVariables false
set_option linter.unusedSimpArgs false

theorem w_rGetM1 (b : List UInt8) (a : Int × W) (ha : gNu (opR b) M40 = a) (hk : a.1 = 1) : Pur Try.prog 37 [.r (.bs b)] (.tuple [msgA (rdM b).1, .r (.int .i64 (rdM b).2)]) := by
  rw [rdM, ha]
  obtain ⟨c, hc⟩ : ∃ c, gAsk a.2 = c := ⟨_, rfl⟩
  have hG : rdK a = rdV ⟨a.1, c.1, bid0, inv0, var0, 0, 0, 0, 0, []⟩ c.2 := by rw [rdK, if_pos hk]; simp only [hc]
  rw [hG]
  have oc := gAsk_ok1 a.2
  rw [hc] at oc
  have cc : Pur Try.prog 17 [wV a.2] (.tuple [askA c.1, wV c.2]) := by rw [← hc]; exact w_rGetAsk a.2
  obtain ⟨w, hw⟩ : ∃ w, opR b = w := ⟨_, rfl⟩
  rw [hw] at ha
  have ca : Pur Try.prog 49 [wV w, .r (.int .i64 1099511627776)] (.tuple [.r (.int .i64 a.1), wV a.2]) := by rw [← ha]; exact w_rGetNum w 1099511627776
  have c0 := w_rOpen b
  rw [hw] at c0
  clear hG ha hw hc
  have hok : (⟨a.1, c.1, bid0, inv0, var0, 0, 0, 0, 0, []⟩ : MsgV).ok := ⟨oc, bid0_ok, inv0_ok8, var0_ok8, u0_ok, u0_ok, u0_ok, u0_ok, Nat.zero_le _⟩
  have cM := w_rMsg _ hok
  obtain ⟨E, hEE⟩ : ∃ E, msgE ⟨a.1, c.1, bid0, inv0, var0, 0, 0, 0, 0, []⟩ = E := ⟨_, rfl⟩
  obtain ⟨p, hp⟩ : ∃ p, plM ⟨a.1, c.1, bid0, inv0, var0, 0, 0, 0, 0, []⟩ = p := ⟨_, rfl⟩
  rw [hEE, hp] at cM
  clear hp hok
  refine spec_of_go (N := 113) Try.func37 rfl (by decide) rfl rfl ?_
  refine z2 ?_
  refine ar_new tOk rfl rfl rfl ?_ ?_
  · simp
  refine p1 ?_
  refine z3 ?_
  refine ar_new tOk rfl rfl rfl ?_ ?_
  · simp
  refine z3 ?_
  refine ar_new tOk rfl rfl rfl ?_ ?_
  · simp
  refine ar_nil ?_
  refine ag_ent (ent_weak (g' := [(0, .r (.bs b)), (2, .ptr 0 0), (4, .ptr 1 0), (5, .ptr 2 0)]) (h' := ⟨3, [(0, some (.mixed ((msgC (msg0)).map .r))), (1, some (.mixed ((msgC (msg0)).map .r))), (2, some (.mixed [.r .nil, .r (.int .i64 0)]))], false⟩) [0, 1, 2] rfl rfl rfl rfl ?_ ?_ rfl) ?_
  · exact ⟨⟨rfl, rfl⟩, ⟨rfl, rfl⟩, ⟨rfl, rfl⟩, ⟨rfl, rfl⟩, trivial⟩
  · exact ⟨⟨rfl, rfl, rfl⟩, ⟨rfl, rfl, rfl⟩, ⟨rfl, rfl, rfl⟩, trivial⟩
  refine z2 ?_
  refine p1 ?_
  refine ar_pur (c0) rfl rfl rfl rfl rfl rfl rfl ?_
  refine ar_pur (ca) rfl rfl rfl rfl rfl rfl rfl ?_
  iterate 4 refine p1 ?_
  refine ar_store (h' := ⟨3, [(1, some (.mixed ((msgC (⟨a.1, ask0, bid0, inv0, var0, 0, 0, 0, 0, []⟩)).map .r))), (0, some (.mixed ((msgC (msg0)).map .r))), (1, some (.mixed ((msgC (msg0)).map .r))), (2, some (.mixed [.r .nil, .r (.int .i64 0)]))], false⟩) (c := True) tOk (by kernel_rfl) rfl rfl trivial ?_
  refine ar_store tOk rfl rfl rfl trivial ?_
  refine ar_nil ?_
  refine ag_ent (ent_weak (g' := [(2, .ptr 0 0), (4, .ptr 1 0), (5, .ptr 2 0)]) (h' := ⟨3, [(0, some (.mixed ((msgC (msg0)).map .r))), (1, some (.mixed ((msgC (⟨a.1, ask0, bid0, inv0, var0, 0, 0, 0, 0, []⟩)).map .r))), (2, some (.mixed [.r (.bs a.2.1), .r (.int .i64 a.2.2)]))], false⟩) [0, 1, 2] rfl rfl rfl rfl ?_ ?_ rfl) ?_
  · exact ⟨⟨rfl, rfl⟩, ⟨rfl, rfl⟩, ⟨rfl, rfl⟩, trivial⟩
  · exact ⟨⟨rfl, rfl, rfl⟩, ⟨rfl, rfl, rfl⟩, ⟨rfl, rfl, rfl⟩, trivial⟩
  refine ag_seq ?_
  refine z2 ?_
  refine p1 ?_
  refine p2 ?_
  refine ar_nil ?_
  refine ag_block ?_
  refine z2 ?_
  iterate 2 refine p1 ?_
  refine ar_nil ?_
  refine ag_true rfl (decide_eq_true (show a.1 = 1 by omega)) ?_
  refine ag_reg ?_
  refine p2 ?_
  refine ar_pur (cc) rfl rfl rfl rfl rfl rfl rfl ?_
  iterate 4 refine p1 ?_
  refine ar_store (h' := ⟨3, [(1, some (.mixed ((msgC (⟨a.1, c.1, bid0, inv0, var0, 0, 0, 0, 0, []⟩)).map .r))), (0, some (.mixed ((msgC (msg0)).map .r))), (1, some (.mixed ((msgC (⟨a.1, ask0, bid0, inv0, var0, 0, 0, 0, 0, []⟩)).map .r))), (2, some (.mixed [.r (.bs a.2.1), .r (.int .i64 a.2.2)]))], false⟩) (c := True) tOk (by kernel_rfl) rfl rfl trivial ?_
  refine ar_store tOk rfl rfl rfl trivial ?_
  refine ar_nil ?_
  refine ag_ent (ent_weak (g' := [(2, .ptr 0 0), (4, .ptr 1 0), (5, .ptr 2 0)]) (h' := ⟨3, [(0, some (.mixed ((msgC (msg0)).map .r))), (1, some (.mixed ((msgC (⟨a.1, c.1, bid0, inv0, var0, 0, 0, 0, 0, []⟩)).map .r))), (2, some (.mixed [.r (.bs c.2.1), .r (.int .i64 c.2.2)]))], false⟩) [0, 1, 2] rfl rfl rfl rfl ?_ ?_ rfl) ?_
  · exact ⟨⟨rfl, rfl⟩, ⟨rfl, rfl⟩, ⟨rfl, rfl⟩, trivial⟩
  · exact ⟨⟨rfl, rfl, rfl⟩, ⟨rfl, rfl, rfl⟩, ⟨rfl, rfl, rfl⟩, trivial⟩
  refine ag_inBlock ?_
  refine ag_seq ?_
  refine z2 ?_
  refine p1 ?_
  refine p2 ?_
  refine p1 ?_
  refine ar_nil ?_
  refine ag_if rfl ?_ ?_
  · intro h94
    refine ag_seq ?_
    refine ag_ent (ent_weak (g' := [(2, .ptr 0 0), (4, .ptr 1 0), (5, .ptr 2 0)]) (h' := ⟨3, [(0, some (.mixed ((msgC (msg0)).map .r))), (1, some (.mixed ((msgC (⟨a.1, c.1, bid0, inv0, var0, 0, 0, 0, 0, []⟩)).map .r))), (2, some (.mixed [.r (.bs c.2.1), .r (.int .i64 c.2.2)]))], false⟩) [0, 1, 2] rfl rfl rfl rfl ?_ ?_ rfl) ?_
    · exact ⟨⟨rfl, rfl⟩, ⟨rfl, rfl⟩, ⟨rfl, rfl⟩, trivial⟩
    · exact ⟨⟨rfl, rfl, rfl⟩, ⟨rfl, rfl, rfl⟩, ⟨rfl, rfl, rfl⟩, trivial⟩
    apply ag_draw1 [] (by kernel_rfl) (by kernel_rfl)
    refine aq_pure tOk rfl rfl rfl ?_ ?_
    · simp
    refine aq_pure tOk rfl rfl rfl trivial ?_
    refine aq_load1 tOk rfl (by kernel_rfl) rfl rfl rfl rfl trivial ?_ ?_
    rotate_left 1
    refine aq_store10 (h' := ⟨3, [(0, some (.mixed ((msgC (msg0)).map .r))), (0, some (.mixed ((msgC (msg0)).map .r))), (1, some (.mixed ((msgC (⟨a.1, c.1, bid0, inv0, var0, 0, 0, 0, 0, []⟩)).map .r))), (2, some (.mixed [.r (.bs c.2.1), .r (.int .i64 c.2.2)]))], false⟩) (c := True) tOk (by kernel_rfl) rfl rfl rfl trivial ?_
    refine aq_pure tOk rfl rfl rfl trivial ?_
    refine aq_nil rfl ?_
    refine ag_ret tOk Try.func37 rfl rfl (by first | trivial | exact ⟨trivial, trivial⟩ | simp) ?_
    rw [rd_1 h94]
    rfl
    all_goals exact ⟨_, rfl, trivial⟩
  · intro h94
    refine ag_skip ?_
    iterate 2 refine ag_seq ?_
    refine ag_ent (ent_weak (g' := [(2, .ptr 0 0), (4, .ptr 1 0), (5, .ptr 2 0)]) (h' := ⟨3, [(0, some (.mixed ((msgC (msg0)).map .r))), (1, some (.mixed ((msgC (⟨a.1, c.1, bid0, inv0, var0, 0, 0, 0, 0, []⟩)).map .r))), (2, some (.mixed [.r (.bs c.2.1), .r (.int .i64 c.2.2)]))], false⟩) [0, 1, 2] rfl rfl rfl rfl ?_ ?_ rfl) ?_
    · exact ⟨⟨rfl, rfl⟩, ⟨rfl, rfl⟩, ⟨rfl, rfl⟩, trivial⟩
    · exact ⟨⟨rfl, rfl, rfl⟩, ⟨rfl, rfl, rfl⟩, ⟨rfl, rfl, rfl⟩, trivial⟩
    refine ag_reg ?_
    refine p2 ?_
    refine ar_pur (cM) rfl rfl rfl rfl rfl rfl rfl ?_
    iterate 3 refine p1 ?_
    refine ar_new tOk rfl rfl rfl ?_ ?_
    · simp
    refine ar_store (h' := ⟨4, [(3, some (.mixed ((msgC (p)).map .r))), (3, some (.mixed ((msgC (msg0)).map .r))), (0, some (.mixed ((msgC (msg0)).map .r))), (1, some (.mixed ((msgC (⟨a.1, c.1, bid0, inv0, var0, 0, 0, 0, 0, []⟩)).map .r))), (2, some (.mixed [.r (.bs c.2.1), .r (.int .i64 c.2.2)]))], false⟩) (c := True) tOk (by kernel_rfl) rfl rfl trivial ?_
    refine p1 ?_
    refine ar_nil ?_
    refine ag_ent (ent_weak (g' := [(2, .ptr 0 0), (4, .ptr 1 0), (5, .ptr 2 0), (7, .r (.int .i64 E))]) (h' := ⟨3, [(0, some (.mixed ((msgC (msg0)).map .r))), (1, some (.mixed ((msgC (⟨a.1, c.1, bid0, inv0, var0, 0, 0, 0, 0, []⟩)).map .r))), (2, some (.mixed [.r (.bs c.2.1), .r (.int .i64 c.2.2)]))], false⟩) [0, 1, 2] rfl rfl rfl rfl ?_ ?_ rfl) ?_
    · exact ⟨⟨rfl, rfl⟩, ⟨rfl, rfl⟩, ⟨rfl, rfl⟩, ⟨rfl, rfl⟩, trivial⟩
    · exact ⟨⟨rfl, rfl, rfl⟩, ⟨rfl, rfl, rfl⟩, ⟨rfl, rfl, rfl⟩, trivial⟩
    refine z2 ?_
    iterate 3 refine p1 ?_
    refine ar_guard (t := decide (E ≠ 0)) (fun ht => ?_) (fun ht => ?_)
    · refine ar_ent (ent_reg 105 (.r (.bool true)) (by show AVal.r (.bool _) = _; exact eqB ht)) ?_
      have hk0 := of_decide_eq_true ht
      repeat (first | refine ar_skip rfl rfl rfl ?_ | refine ar_pure tOk rfl rfl rfl trivial ?_)
      refine ar_nil ?_
      refine ag_true rfl (by rfl) ?_
      refine ag_seq ?_
      refine ag_ent (ent_weak (g' := [(2, .ptr 0 0), (4, .ptr 1 0), (5, .ptr 2 0)]) (h' := ⟨3, [(0, some (.mixed ((msgC (msg0)).map .r))), (1, some (.mixed ((msgC (⟨a.1, c.1, bid0, inv0, var0, 0, 0, 0, 0, []⟩)).map .r))), (2, some (.mixed [.r (.bs c.2.1), .r (.int .i64 c.2.2)]))], false⟩) [0, 1, 2] rfl rfl rfl rfl ?_ ?_ rfl) ?_
      · exact ⟨⟨rfl, rfl⟩, ⟨rfl, rfl⟩, ⟨rfl, rfl⟩, trivial⟩
      · exact ⟨⟨rfl, rfl, rfl⟩, ⟨rfl, rfl, rfl⟩, ⟨rfl, rfl, rfl⟩, trivial⟩
      refine ag_reg ?_
      refine ar_pure tOk rfl rfl rfl ?_ ?_
      · simp
      refine ar_store (h' := ⟨3, [(0, some (.mixed ((msgC (msg0)).map .r))), (0, some (.mixed ((msgC (msg0)).map .r))), (1, some (.mixed ((msgC (⟨a.1, c.1, bid0, inv0, var0, 0, 0, 0, 0, []⟩)).map .r))), (2, some (.mixed [.r (.bs c.2.1), .r (.int .i64 c.2.2)]))], false⟩) (c := True) tOk (by kernel_rfl) rfl rfl trivial ?_
      refine p1 ?_
      refine ar_nil ?_
      refine ag_ret tOk Try.func37 rfl rfl (by first | trivial | exact ⟨trivial, trivial⟩ | simp) ?_
      rw [rd_2 h94 (.inr (by rw [hEE]; exact hk0))]
      rfl
    · refine ar_ent (ent_reg 105 (.r (.bool false)) (by show AVal.r (.bool _) = _; exact eqB ht)) ?_
      have hk0 := of_decide_eq_false ht
      refine p1 ?_
      refine p2 ?_
      iterate 3 refine p1 ?_
      refine ar_nil ?_
      refine ag_if rfl ?_ ?_
      · intro h110
        refine ag_seq ?_
        refine ag_ent (ent_weak (g' := [(2, .ptr 0 0), (4, .ptr 1 0), (5, .ptr 2 0)]) (h' := ⟨3, [(0, some (.mixed ((msgC (msg0)).map .r))), (1, some (.mixed ((msgC (⟨a.1, c.1, bid0, inv0, var0, 0, 0, 0, 0, []⟩)).map .r))), (2, some (.mixed [.r (.bs c.2.1), .r (.int .i64 c.2.2)]))], false⟩) [0, 1, 2] rfl rfl rfl rfl ?_ ?_ rfl) ?_
        · exact ⟨⟨rfl, rfl⟩, ⟨rfl, rfl⟩, ⟨rfl, rfl⟩, trivial⟩
        · exact ⟨⟨rfl, rfl, rfl⟩, ⟨rfl, rfl, rfl⟩, ⟨rfl, rfl, rfl⟩, trivial⟩
        refine ag_reg ?_
        refine ar_pure tOk rfl rfl rfl ?_ ?_
        · simp
        refine ar_store (h' := ⟨3, [(0, some (.mixed ((msgC (msg0)).map .r))), (0, some (.mixed ((msgC (msg0)).map .r))), (1, some (.mixed ((msgC (⟨a.1, c.1, bid0, inv0, var0, 0, 0, 0, 0, []⟩)).map .r))), (2, some (.mixed [.r (.bs c.2.1), .r (.int .i64 c.2.2)]))], false⟩) (c := True) tOk (by kernel_rfl) rfl rfl trivial ?_
        refine p1 ?_
        refine ar_nil ?_
        refine ag_ret tOk Try.func37 rfl rfl (by first | trivial | exact ⟨trivial, trivial⟩ | simp) ?_
        rw [rd_2 h94 (.inl (by omega))]
        rfl
      · intro h110
        refine ag_skip ?_
        refine ag_seq ?_
        refine ag_ent (ent_weak (g' := [(2, .ptr 0 0), (4, .ptr 1 0), (5, .ptr 2 0)]) (h' := ⟨3, [(0, some (.mixed ((msgC (msg0)).map .r))), (1, some (.mixed ((msgC (⟨a.1, c.1, bid0, inv0, var0, 0, 0, 0, 0, []⟩)).map .r))), (2, some (.mixed [.r (.bs c.2.1), .r (.int .i64 c.2.2)]))], false⟩) [0, 1, 2] rfl rfl rfl rfl ?_ ?_ rfl) ?_
        · exact ⟨⟨rfl, rfl⟩, ⟨rfl, rfl⟩, ⟨rfl, rfl⟩, trivial⟩
        · exact ⟨⟨rfl, rfl, rfl⟩, ⟨rfl, rfl, rfl⟩, ⟨rfl, rfl, rfl⟩, trivial⟩
        refine ag_reg ?_
        refine p2 ?_
        refine ar_store (h' := ⟨3, [(0, some (.mixed ((msgC (⟨a.1, c.1, bid0, inv0, var0, 0, 0, 0, 0, []⟩)).map .r))), (0, some (.mixed ((msgC (msg0)).map .r))), (1, some (.mixed ((msgC (⟨a.1, c.1, bid0, inv0, var0, 0, 0, 0, 0, []⟩)).map .r))), (2, some (.mixed [.r (.bs c.2.1), .r (.int .i64 c.2.2)]))], false⟩) (c := True) tOk (by kernel_rfl) rfl rfl trivial ?_
        refine p1 ?_
        refine ar_nil ?_
        refine ag_ret tOk Try.func37 rfl rfl (by first | trivial | exact ⟨trivial, trivial⟩ | simp) ?_
        rw [rd_3 h94 (by rintro (q | q); omega; rw [hEE] at q; exact hk0 q)]
        rfl

theorem w_rGetM2 (b : List UInt8) (a : Int × W) (ha : gNu (opR b) M40 = a) (hk : a.1 = 2) : Pur Try.prog 37 [.r (.bs b)] (.tuple [msgA (rdM b).1, .r (.int .i64 (rdM b).2)]) := by
  rw [rdM, ha]
  obtain ⟨c, hc⟩ : ∃ c, gNu a.2 M40 = c := ⟨_, rfl⟩
  obtain ⟨d, hd⟩ : ∃ d, gAsk c.2 = d := ⟨_, rfl⟩
  obtain ⟨e, he⟩ : ∃ e, tkR d.2 32 = e := ⟨_, rfl⟩
  obtain ⟨f, hf⟩ : ∃ f, gNu e.2 M40 = f := ⟨_, rfl⟩
  obtain ⟨s, hs⟩ : ∃ s, gTx f.2 1024 = s := ⟨_, rfl⟩
  have hG : rdK a = rdV ⟨a.1, ask0, ⟨c.1, d.1, fB e.1 24 8, fB e.1 16 8, fB e.1 8 8, fB e.1 0 8, f.1, s.1⟩, inv0, var0, 0, 0, 0, 0, []⟩ s.2 := by rw [rdK, if_neg (by omega), if_pos hk]; simp only [hc, hd, he, hf, hs]
  rw [hG]
  have od := gAsk_ok1 c.2
  rw [hd] at od
  have os := gTx_len f.2 1024
  rw [hs] at os
  have cc : Pur Try.prog 49 [wV a.2, .r (.int .i64 1099511627776)] (.tuple [.r (.int .i64 c.1), wV c.2]) := by rw [← hc]; exact w_rGetNum a.2 1099511627776
  have cd : Pur Try.prog 17 [wV c.2] (.tuple [askA d.1, wV d.2]) := by rw [← hd]; exact w_rGetAsk c.2
  have ce : Pur Try.prog 50 [wV d.2] (.tuple [wd e.1, wV e.2]) := by rw [← he]; exact w_rGetWide d.2
  have cf : Pur Try.prog 49 [wV e.2, .r (.int .i64 1099511627776)] (.tuple [.r (.int .i64 f.1), wV f.2]) := by rw [← hf]; exact w_rGetNum e.2 1099511627776
  have cs : Pur Try.prog 51 [wV f.2, .r (.int .i64 1024)] (.tuple [.r (.str s.1), wV s.2]) := by rw [← hs]; exact w_rGetText f.2 1024
  obtain ⟨w, hw⟩ : ∃ w, opR b = w := ⟨_, rfl⟩
  rw [hw] at ha
  have ca : Pur Try.prog 49 [wV w, .r (.int .i64 1099511627776)] (.tuple [.r (.int .i64 a.1), wV a.2]) := by rw [← ha]; exact w_rGetNum w 1099511627776
  have c0 := w_rOpen b
  rw [hw] at c0
  clear hG ha hw hc hd he hf hs
  have hok : (⟨a.1, ask0, ⟨c.1, d.1, fB e.1 24 8, fB e.1 16 8, fB e.1 8 8, fB e.1 0 8, f.1, s.1⟩, inv0, var0, 0, 0, 0, 0, []⟩ : MsgV).ok := ⟨ask0_ok, ⟨od, fB_u64 _ _ _ (by decide), fB_u64 _ _ _ (by decide), fB_u64 _ _ _ (by decide), fB_u64 _ _ _ (by decide), by show s.1.length ≤ _; omega⟩, inv0_ok8, var0_ok8, u0_ok, u0_ok, u0_ok, u0_ok, Nat.zero_le _⟩
  have cM := w_rMsg _ hok
  obtain ⟨E, hEE⟩ : ∃ E, msgE ⟨a.1, ask0, ⟨c.1, d.1, fB e.1 24 8, fB e.1 16 8, fB e.1 8 8, fB e.1 0 8, f.1, s.1⟩, inv0, var0, 0, 0, 0, 0, []⟩ = E := ⟨_, rfl⟩
  obtain ⟨p, hp⟩ : ∃ p, plM ⟨a.1, ask0, ⟨c.1, d.1, fB e.1 24 8, fB e.1 16 8, fB e.1 8 8, fB e.1 0 8, f.1, s.1⟩, inv0, var0, 0, 0, 0, 0, []⟩ = p := ⟨_, rfl⟩
  rw [hEE, hp] at cM
  clear hp hok
  refine spec_of_go (N := 113) Try.func37 rfl (by decide) rfl rfl ?_
  refine z2 ?_
  refine ar_new tOk rfl rfl rfl ?_ ?_
  · simp
  refine p1 ?_
  refine z3 ?_
  refine ar_new tOk rfl rfl rfl ?_ ?_
  · simp
  refine z3 ?_
  refine ar_new tOk rfl rfl rfl ?_ ?_
  · simp
  refine ar_nil ?_
  refine ag_ent (ent_weak (g' := [(0, .r (.bs b)), (2, .ptr 0 0), (4, .ptr 1 0), (5, .ptr 2 0)]) (h' := ⟨3, [(0, some (.mixed ((msgC (msg0)).map .r))), (1, some (.mixed ((msgC (msg0)).map .r))), (2, some (.mixed [.r .nil, .r (.int .i64 0)]))], false⟩) [0, 1, 2] rfl rfl rfl rfl ?_ ?_ rfl) ?_
  · exact ⟨⟨rfl, rfl⟩, ⟨rfl, rfl⟩, ⟨rfl, rfl⟩, ⟨rfl, rfl⟩, trivial⟩
  · exact ⟨⟨rfl, rfl, rfl⟩, ⟨rfl, rfl, rfl⟩, ⟨rfl, rfl, rfl⟩, trivial⟩
  refine z2 ?_
  refine p1 ?_
  refine ar_pur (c0) rfl rfl rfl rfl rfl rfl rfl ?_
  refine ar_pur (ca) rfl rfl rfl rfl rfl rfl rfl ?_
  iterate 4 refine p1 ?_
  refine ar_store (h' := ⟨3, [(1, some (.mixed ((msgC (⟨a.1, ask0, bid0, inv0, var0, 0, 0, 0, 0, []⟩)).map .r))), (0, some (.mixed ((msgC (msg0)).map .r))), (1, some (.mixed ((msgC (msg0)).map .r))), (2, some (.mixed [.r .nil, .r (.int .i64 0)]))], false⟩) (c := True) tOk (by kernel_rfl) rfl rfl trivial ?_
  refine ar_store tOk rfl rfl rfl trivial ?_
  refine ar_nil ?_
  refine ag_ent (ent_weak (g' := [(2, .ptr 0 0), (4, .ptr 1 0), (5, .ptr 2 0)]) (h' := ⟨3, [(0, some (.mixed ((msgC (msg0)).map .r))), (1, some (.mixed ((msgC (⟨a.1, ask0, bid0, inv0, var0, 0, 0, 0, 0, []⟩)).map .r))), (2, some (.mixed [.r (.bs a.2.1), .r (.int .i64 a.2.2)]))], false⟩) [0, 1, 2] rfl rfl rfl rfl ?_ ?_ rfl) ?_
  · exact ⟨⟨rfl, rfl⟩, ⟨rfl, rfl⟩, ⟨rfl, rfl⟩, trivial⟩
  · exact ⟨⟨rfl, rfl, rfl⟩, ⟨rfl, rfl, rfl⟩, ⟨rfl, rfl, rfl⟩, trivial⟩
  refine ag_seq ?_
  refine z2 ?_
  refine p1 ?_
  refine p2 ?_
  refine ar_nil ?_
  refine ag_block ?_
  refine z2 ?_
  iterate 2 refine p1 ?_
  refine ar_nil ?_
  refine ag_false rfl (decide_eq_false (show ¬ a.1 = 1 by omega)) ?_
  refine z2 ?_
  iterate 2 refine p1 ?_
  refine ar_nil ?_
  refine ag_true rfl (decide_eq_true (show a.1 = 2 by omega)) ?_
  refine z2 ?_
  refine p2 ?_
  refine ar_pur (cc) rfl rfl rfl rfl rfl rfl rfl ?_
  iterate 5 refine p1 ?_
  refine ar_store (h' := ⟨3, [(1, some (.mixed ((msgC (⟨a.1, ask0, ⟨c.1, ask0, 0, 0, 0, 0, 0, []⟩, inv0, var0, 0, 0, 0, 0, []⟩)).map .r))), (0, some (.mixed ((msgC (msg0)).map .r))), (1, some (.mixed ((msgC (⟨a.1, ask0, bid0, inv0, var0, 0, 0, 0, 0, []⟩)).map .r))), (2, some (.mixed [.r (.bs a.2.1), .r (.int .i64 a.2.2)]))], false⟩) (c := True) tOk (by kernel_rfl) rfl rfl trivial ?_
  refine ar_store tOk rfl rfl rfl trivial ?_
  refine ar_nil ?_
  refine ag_ent (ent_weak (g' := [(2, .ptr 0 0), (4, .ptr 1 0), (5, .ptr 2 0)]) (h' := ⟨3, [(0, some (.mixed ((msgC (msg0)).map .r))), (1, some (.mixed ((msgC (⟨a.1, ask0, ⟨c.1, ask0, 0, 0, 0, 0, 0, []⟩, inv0, var0, 0, 0, 0, 0, []⟩)).map .r))), (2, some (.mixed [.r (.bs c.2.1), .r (.int .i64 c.2.2)]))], false⟩) [0, 1, 2] rfl rfl rfl rfl ?_ ?_ rfl) ?_
  · exact ⟨⟨rfl, rfl⟩, ⟨rfl, rfl⟩, ⟨rfl, rfl⟩, trivial⟩
  · exact ⟨⟨rfl, rfl, rfl⟩, ⟨rfl, rfl, rfl⟩, ⟨rfl, rfl, rfl⟩, trivial⟩
  refine z2 ?_
  refine p2 ?_
  refine ar_pur (cd) rfl rfl rfl rfl rfl rfl rfl ?_
  iterate 5 refine p1 ?_
  refine ar_store (h' := ⟨3, [(1, some (.mixed ((msgC (⟨a.1, ask0, ⟨c.1, d.1, 0, 0, 0, 0, 0, []⟩, inv0, var0, 0, 0, 0, 0, []⟩)).map .r))), (0, some (.mixed ((msgC (msg0)).map .r))), (1, some (.mixed ((msgC (⟨a.1, ask0, ⟨c.1, ask0, 0, 0, 0, 0, 0, []⟩, inv0, var0, 0, 0, 0, 0, []⟩)).map .r))), (2, some (.mixed [.r (.bs c.2.1), .r (.int .i64 c.2.2)]))], false⟩) (c := True) tOk (by kernel_rfl) rfl rfl trivial ?_
  refine ar_store tOk rfl rfl rfl trivial ?_
  refine ar_nil ?_
  refine ag_ent (ent_weak (g' := [(2, .ptr 0 0), (4, .ptr 1 0), (5, .ptr 2 0)]) (h' := ⟨3, [(0, some (.mixed ((msgC (msg0)).map .r))), (1, some (.mixed ((msgC (⟨a.1, ask0, ⟨c.1, d.1, 0, 0, 0, 0, 0, []⟩, inv0, var0, 0, 0, 0, 0, []⟩)).map .r))), (2, some (.mixed [.r (.bs d.2.1), .r (.int .i64 d.2.2)]))], false⟩) [0, 1, 2] rfl rfl rfl rfl ?_ ?_ rfl) ?_
  · exact ⟨⟨rfl, rfl⟩, ⟨rfl, rfl⟩, ⟨rfl, rfl⟩, trivial⟩
  · exact ⟨⟨rfl, rfl, rfl⟩, ⟨rfl, rfl, rfl⟩, ⟨rfl, rfl, rfl⟩, trivial⟩
  refine z2 ?_
  refine p2 ?_
  refine ar_pur (ce) rfl rfl rfl rfl rfl rfl rfl ?_
  iterate 5 refine p1 ?_
  refine ar_store (h' := ⟨3, [(1, some (.mixed ((msgC (⟨a.1, ask0, ⟨c.1, d.1, fB e.1 24 8, fB e.1 16 8, fB e.1 8 8, fB e.1 0 8, 0, []⟩, inv0, var0, 0, 0, 0, 0, []⟩)).map .r))), (0, some (.mixed ((msgC (msg0)).map .r))), (1, some (.mixed ((msgC (⟨a.1, ask0, ⟨c.1, d.1, 0, 0, 0, 0, 0, []⟩, inv0, var0, 0, 0, 0, 0, []⟩)).map .r))), (2, some (.mixed [.r (.bs d.2.1), .r (.int .i64 d.2.2)]))], false⟩) (c := True) tOk (by kernel_rfl) rfl rfl trivial ?_
  refine ar_store tOk rfl rfl rfl trivial ?_
  refine ar_nil ?_
  refine ag_ent (ent_weak (g' := [(2, .ptr 0 0), (4, .ptr 1 0), (5, .ptr 2 0)]) (h' := ⟨3, [(0, some (.mixed ((msgC (msg0)).map .r))), (1, some (.mixed ((msgC (⟨a.1, ask0, ⟨c.1, d.1, fB e.1 24 8, fB e.1 16 8, fB e.1 8 8, fB e.1 0 8, 0, []⟩, inv0, var0, 0, 0, 0, 0, []⟩)).map .r))), (2, some (.mixed [.r (.bs e.2.1), .r (.int .i64 e.2.2)]))], false⟩) [0, 1, 2] rfl rfl rfl rfl ?_ ?_ rfl) ?_
  · exact ⟨⟨rfl, rfl⟩, ⟨rfl, rfl⟩, ⟨rfl, rfl⟩, trivial⟩
  · exact ⟨⟨rfl, rfl, rfl⟩, ⟨rfl, rfl, rfl⟩, ⟨rfl, rfl, rfl⟩, trivial⟩
  refine z2 ?_
  refine p2 ?_
  refine ar_pur (cf) rfl rfl rfl rfl rfl rfl rfl ?_
  iterate 5 refine p1 ?_
  refine ar_store (h' := ⟨3, [(1, some (.mixed ((msgC (⟨a.1, ask0, ⟨c.1, d.1, fB e.1 24 8, fB e.1 16 8, fB e.1 8 8, fB e.1 0 8, f.1, []⟩, inv0, var0, 0, 0, 0, 0, []⟩)).map .r))), (0, some (.mixed ((msgC (msg0)).map .r))), (1, some (.mixed ((msgC (⟨a.1, ask0, ⟨c.1, d.1, fB e.1 24 8, fB e.1 16 8, fB e.1 8 8, fB e.1 0 8, 0, []⟩, inv0, var0, 0, 0, 0, 0, []⟩)).map .r))), (2, some (.mixed [.r (.bs e.2.1), .r (.int .i64 e.2.2)]))], false⟩) (c := True) tOk (by kernel_rfl) rfl rfl trivial ?_
  refine ar_store tOk rfl rfl rfl trivial ?_
  refine ar_nil ?_
  refine ag_ent (ent_weak (g' := [(2, .ptr 0 0), (4, .ptr 1 0), (5, .ptr 2 0)]) (h' := ⟨3, [(0, some (.mixed ((msgC (msg0)).map .r))), (1, some (.mixed ((msgC (⟨a.1, ask0, ⟨c.1, d.1, fB e.1 24 8, fB e.1 16 8, fB e.1 8 8, fB e.1 0 8, f.1, []⟩, inv0, var0, 0, 0, 0, 0, []⟩)).map .r))), (2, some (.mixed [.r (.bs f.2.1), .r (.int .i64 f.2.2)]))], false⟩) [0, 1, 2] rfl rfl rfl rfl ?_ ?_ rfl) ?_
  · exact ⟨⟨rfl, rfl⟩, ⟨rfl, rfl⟩, ⟨rfl, rfl⟩, trivial⟩
  · exact ⟨⟨rfl, rfl, rfl⟩, ⟨rfl, rfl, rfl⟩, ⟨rfl, rfl, rfl⟩, trivial⟩
  refine ag_reg ?_
  refine p2 ?_
  refine ar_pur (cs) rfl rfl rfl rfl rfl rfl rfl ?_
  iterate 5 refine p1 ?_
  refine ar_store (h' := ⟨3, [(1, some (.mixed ((msgC (⟨a.1, ask0, ⟨c.1, d.1, fB e.1 24 8, fB e.1 16 8, fB e.1 8 8, fB e.1 0 8, f.1, s.1⟩, inv0, var0, 0, 0, 0, 0, []⟩)).map .r))), (0, some (.mixed ((msgC (msg0)).map .r))), (1, some (.mixed ((msgC (⟨a.1, ask0, ⟨c.1, d.1, fB e.1 24 8, fB e.1 16 8, fB e.1 8 8, fB e.1 0 8, f.1, []⟩, inv0, var0, 0, 0, 0, 0, []⟩)).map .r))), (2, some (.mixed [.r (.bs f.2.1), .r (.int .i64 f.2.2)]))], false⟩) (c := True) tOk (by kernel_rfl) rfl rfl trivial ?_
  refine ar_store tOk rfl rfl rfl trivial ?_
  refine ar_nil ?_
  refine ag_ent (ent_weak (g' := [(2, .ptr 0 0), (4, .ptr 1 0), (5, .ptr 2 0)]) (h' := ⟨3, [(0, some (.mixed ((msgC (msg0)).map .r))), (1, some (.mixed ((msgC (⟨a.1, ask0, ⟨c.1, d.1, fB e.1 24 8, fB e.1 16 8, fB e.1 8 8, fB e.1 0 8, f.1, s.1⟩, inv0, var0, 0, 0, 0, 0, []⟩)).map .r))), (2, some (.mixed [.r (.bs s.2.1), .r (.int .i64 s.2.2)]))], false⟩) [0, 1, 2] rfl rfl rfl rfl ?_ ?_ rfl) ?_
  · exact ⟨⟨rfl, rfl⟩, ⟨rfl, rfl⟩, ⟨rfl, rfl⟩, trivial⟩
  · exact ⟨⟨rfl, rfl, rfl⟩, ⟨rfl, rfl, rfl⟩, ⟨rfl, rfl, rfl⟩, trivial⟩
  refine ag_inBlock ?_
  refine ag_seq ?_
  refine z2 ?_
  refine p1 ?_
  refine p2 ?_
  refine p1 ?_
  refine ar_nil ?_
  refine ag_if rfl ?_ ?_
  · intro h94
    refine ag_seq ?_
    refine ag_ent (ent_weak (g' := [(2, .ptr 0 0), (4, .ptr 1 0), (5, .ptr 2 0)]) (h' := ⟨3, [(0, some (.mixed ((msgC (msg0)).map .r))), (1, some (.mixed ((msgC (⟨a.1, ask0, ⟨c.1, d.1, fB e.1 24 8, fB e.1 16 8, fB e.1 8 8, fB e.1 0 8, f.1, s.1⟩, inv0, var0, 0, 0, 0, 0, []⟩)).map .r))), (2, some (.mixed [.r (.bs s.2.1), .r (.int .i64 s.2.2)]))], false⟩) [0, 1, 2] rfl rfl rfl rfl ?_ ?_ rfl) ?_
    · exact ⟨⟨rfl, rfl⟩, ⟨rfl, rfl⟩, ⟨rfl, rfl⟩, trivial⟩
    · exact ⟨⟨rfl, rfl, rfl⟩, ⟨rfl, rfl, rfl⟩, ⟨rfl, rfl, rfl⟩, trivial⟩
    apply ag_draw1 [] (by kernel_rfl) (by kernel_rfl)
    refine aq_pure tOk rfl rfl rfl ?_ ?_
    · simp
    refine aq_pure tOk rfl rfl rfl trivial ?_
    refine aq_load1 tOk rfl (by kernel_rfl) rfl rfl rfl rfl trivial ?_ ?_
    rotate_left 1
    refine aq_store10 (h' := ⟨3, [(0, some (.mixed ((msgC (msg0)).map .r))), (0, some (.mixed ((msgC (msg0)).map .r))), (1, some (.mixed ((msgC (⟨a.1, ask0, ⟨c.1, d.1, fB e.1 24 8, fB e.1 16 8, fB e.1 8 8, fB e.1 0 8, f.1, s.1⟩, inv0, var0, 0, 0, 0, 0, []⟩)).map .r))), (2, some (.mixed [.r (.bs s.2.1), .r (.int .i64 s.2.2)]))], false⟩) (c := True) tOk (by kernel_rfl) rfl rfl rfl trivial ?_
    refine aq_pure tOk rfl rfl rfl trivial ?_
    refine aq_nil rfl ?_
    refine ag_ret tOk Try.func37 rfl rfl (by first | trivial | exact ⟨trivial, trivial⟩ | simp) ?_
    rw [rd_1 h94]
    rfl
    all_goals exact ⟨_, rfl, trivial⟩
  · intro h94
    refine ag_skip ?_
    iterate 2 refine ag_seq ?_
    refine ag_ent (ent_weak (g' := [(2, .ptr 0 0), (4, .ptr 1 0), (5, .ptr 2 0)]) (h' := ⟨3, [(0, some (.mixed ((msgC (msg0)).map .r))), (1, some (.mixed ((msgC (⟨a.1, ask0, ⟨c.1, d.1, fB e.1 24 8, fB e.1 16 8, fB e.1 8 8, fB e.1 0 8, f.1, s.1⟩, inv0, var0, 0, 0, 0, 0, []⟩)).map .r))), (2, some (.mixed [.r (.bs s.2.1), .r (.int .i64 s.2.2)]))], false⟩) [0, 1, 2] rfl rfl rfl rfl ?_ ?_ rfl) ?_
    · exact ⟨⟨rfl, rfl⟩, ⟨rfl, rfl⟩, ⟨rfl, rfl⟩, trivial⟩
    · exact ⟨⟨rfl, rfl, rfl⟩, ⟨rfl, rfl, rfl⟩, ⟨rfl, rfl, rfl⟩, trivial⟩
    refine ag_reg ?_
    refine p2 ?_
    refine ar_pur (cM) rfl rfl rfl rfl rfl rfl rfl ?_
    iterate 3 refine p1 ?_
    refine ar_new tOk rfl rfl rfl ?_ ?_
    · simp
    refine ar_store (h' := ⟨4, [(3, some (.mixed ((msgC (p)).map .r))), (3, some (.mixed ((msgC (msg0)).map .r))), (0, some (.mixed ((msgC (msg0)).map .r))), (1, some (.mixed ((msgC (⟨a.1, ask0, ⟨c.1, d.1, fB e.1 24 8, fB e.1 16 8, fB e.1 8 8, fB e.1 0 8, f.1, s.1⟩, inv0, var0, 0, 0, 0, 0, []⟩)).map .r))), (2, some (.mixed [.r (.bs s.2.1), .r (.int .i64 s.2.2)]))], false⟩) (c := True) tOk (by kernel_rfl) rfl rfl trivial ?_
    refine p1 ?_
    refine ar_nil ?_
    refine ag_ent (ent_weak (g' := [(2, .ptr 0 0), (4, .ptr 1 0), (5, .ptr 2 0), (7, .r (.int .i64 E))]) (h' := ⟨3, [(0, some (.mixed ((msgC (msg0)).map .r))), (1, some (.mixed ((msgC (⟨a.1, ask0, ⟨c.1, d.1, fB e.1 24 8, fB e.1 16 8, fB e.1 8 8, fB e.1 0 8, f.1, s.1⟩, inv0, var0, 0, 0, 0, 0, []⟩)).map .r))), (2, some (.mixed [.r (.bs s.2.1), .r (.int .i64 s.2.2)]))], false⟩) [0, 1, 2] rfl rfl rfl rfl ?_ ?_ rfl) ?_
    · exact ⟨⟨rfl, rfl⟩, ⟨rfl, rfl⟩, ⟨rfl, rfl⟩, ⟨rfl, rfl⟩, trivial⟩
    · exact ⟨⟨rfl, rfl, rfl⟩, ⟨rfl, rfl, rfl⟩, ⟨rfl, rfl, rfl⟩, trivial⟩
    refine z2 ?_
    iterate 3 refine p1 ?_
    refine ar_guard (t := decide (E ≠ 0)) (fun ht => ?_) (fun ht => ?_)
    · refine ar_ent (ent_reg 105 (.r (.bool true)) (by show AVal.r (.bool _) = _; exact eqB ht)) ?_
      have hk0 := of_decide_eq_true ht
      repeat (first | refine ar_skip rfl rfl rfl ?_ | refine ar_pure tOk rfl rfl rfl trivial ?_)
      refine ar_nil ?_
      refine ag_true rfl (by rfl) ?_
      refine ag_seq ?_
      refine ag_ent (ent_weak (g' := [(2, .ptr 0 0), (4, .ptr 1 0), (5, .ptr 2 0)]) (h' := ⟨3, [(0, some (.mixed ((msgC (msg0)).map .r))), (1, some (.mixed ((msgC (⟨a.1, ask0, ⟨c.1, d.1, fB e.1 24 8, fB e.1 16 8, fB e.1 8 8, fB e.1 0 8, f.1, s.1⟩, inv0, var0, 0, 0, 0, 0, []⟩)).map .r))), (2, some (.mixed [.r (.bs s.2.1), .r (.int .i64 s.2.2)]))], false⟩) [0, 1, 2] rfl rfl rfl rfl ?_ ?_ rfl) ?_
      · exact ⟨⟨rfl, rfl⟩, ⟨rfl, rfl⟩, ⟨rfl, rfl⟩, trivial⟩
      · exact ⟨⟨rfl, rfl, rfl⟩, ⟨rfl, rfl, rfl⟩, ⟨rfl, rfl, rfl⟩, trivial⟩
      refine ag_reg ?_
      refine ar_pure tOk rfl rfl rfl ?_ ?_
      · simp
      refine ar_store (h' := ⟨3, [(0, some (.mixed ((msgC (msg0)).map .r))), (0, some (.mixed ((msgC (msg0)).map .r))), (1, some (.mixed ((msgC (⟨a.1, ask0, ⟨c.1, d.1, fB e.1 24 8, fB e.1 16 8, fB e.1 8 8, fB e.1 0 8, f.1, s.1⟩, inv0, var0, 0, 0, 0, 0, []⟩)).map .r))), (2, some (.mixed [.r (.bs s.2.1), .r (.int .i64 s.2.2)]))], false⟩) (c := True) tOk (by kernel_rfl) rfl rfl trivial ?_
      refine p1 ?_
      refine ar_nil ?_
      refine ag_ret tOk Try.func37 rfl rfl (by first | trivial | exact ⟨trivial, trivial⟩ | simp) ?_
      rw [rd_2 h94 (.inr (by rw [hEE]; exact hk0))]
      rfl
    · refine ar_ent (ent_reg 105 (.r (.bool false)) (by show AVal.r (.bool _) = _; exact eqB ht)) ?_
      have hk0 := of_decide_eq_false ht
      refine p1 ?_
      refine p2 ?_
      iterate 3 refine p1 ?_
      refine ar_nil ?_
      refine ag_if rfl ?_ ?_
      · intro h110
        refine ag_seq ?_
        refine ag_ent (ent_weak (g' := [(2, .ptr 0 0), (4, .ptr 1 0), (5, .ptr 2 0)]) (h' := ⟨3, [(0, some (.mixed ((msgC (msg0)).map .r))), (1, some (.mixed ((msgC (⟨a.1, ask0, ⟨c.1, d.1, fB e.1 24 8, fB e.1 16 8, fB e.1 8 8, fB e.1 0 8, f.1, s.1⟩, inv0, var0, 0, 0, 0, 0, []⟩)).map .r))), (2, some (.mixed [.r (.bs s.2.1), .r (.int .i64 s.2.2)]))], false⟩) [0, 1, 2] rfl rfl rfl rfl ?_ ?_ rfl) ?_
        · exact ⟨⟨rfl, rfl⟩, ⟨rfl, rfl⟩, ⟨rfl, rfl⟩, trivial⟩
        · exact ⟨⟨rfl, rfl, rfl⟩, ⟨rfl, rfl, rfl⟩, ⟨rfl, rfl, rfl⟩, trivial⟩
        refine ag_reg ?_
        refine ar_pure tOk rfl rfl rfl ?_ ?_
        · simp
        refine ar_store (h' := ⟨3, [(0, some (.mixed ((msgC (msg0)).map .r))), (0, some (.mixed ((msgC (msg0)).map .r))), (1, some (.mixed ((msgC (⟨a.1, ask0, ⟨c.1, d.1, fB e.1 24 8, fB e.1 16 8, fB e.1 8 8, fB e.1 0 8, f.1, s.1⟩, inv0, var0, 0, 0, 0, 0, []⟩)).map .r))), (2, some (.mixed [.r (.bs s.2.1), .r (.int .i64 s.2.2)]))], false⟩) (c := True) tOk (by kernel_rfl) rfl rfl trivial ?_
        refine p1 ?_
        refine ar_nil ?_
        refine ag_ret tOk Try.func37 rfl rfl (by first | trivial | exact ⟨trivial, trivial⟩ | simp) ?_
        rw [rd_2 h94 (.inl (by omega))]
        rfl
      · intro h110
        refine ag_skip ?_
        refine ag_seq ?_
        refine ag_ent (ent_weak (g' := [(2, .ptr 0 0), (4, .ptr 1 0), (5, .ptr 2 0)]) (h' := ⟨3, [(0, some (.mixed ((msgC (msg0)).map .r))), (1, some (.mixed ((msgC (⟨a.1, ask0, ⟨c.1, d.1, fB e.1 24 8, fB e.1 16 8, fB e.1 8 8, fB e.1 0 8, f.1, s.1⟩, inv0, var0, 0, 0, 0, 0, []⟩)).map .r))), (2, some (.mixed [.r (.bs s.2.1), .r (.int .i64 s.2.2)]))], false⟩) [0, 1, 2] rfl rfl rfl rfl ?_ ?_ rfl) ?_
        · exact ⟨⟨rfl, rfl⟩, ⟨rfl, rfl⟩, ⟨rfl, rfl⟩, trivial⟩
        · exact ⟨⟨rfl, rfl, rfl⟩, ⟨rfl, rfl, rfl⟩, ⟨rfl, rfl, rfl⟩, trivial⟩
        refine ag_reg ?_
        refine p2 ?_
        refine ar_store (h' := ⟨3, [(0, some (.mixed ((msgC (⟨a.1, ask0, ⟨c.1, d.1, fB e.1 24 8, fB e.1 16 8, fB e.1 8 8, fB e.1 0 8, f.1, s.1⟩, inv0, var0, 0, 0, 0, 0, []⟩)).map .r))), (0, some (.mixed ((msgC (msg0)).map .r))), (1, some (.mixed ((msgC (⟨a.1, ask0, ⟨c.1, d.1, fB e.1 24 8, fB e.1 16 8, fB e.1 8 8, fB e.1 0 8, f.1, s.1⟩, inv0, var0, 0, 0, 0, 0, []⟩)).map .r))), (2, some (.mixed [.r (.bs s.2.1), .r (.int .i64 s.2.2)]))], false⟩) (c := True) tOk (by kernel_rfl) rfl rfl trivial ?_
        refine p1 ?_
        refine ar_nil ?_
        refine ag_ret tOk Try.func37 rfl rfl (by first | trivial | exact ⟨trivial, trivial⟩ | simp) ?_
        rw [rd_3 h94 (by rintro (q | q); omega; rw [hEE] at q; exact hk0 q)]
        rfl

theorem w_rGetM3 (b : List UInt8) (a : Int × W) (ha : gNu (opR b) M40 = a) (hk : a.1 = 3) : Pur Try.prog 37 [.r (.bs b)] (.tuple [msgA (rdM b).1, .r (.int .i64 (rdM b).2)]) := by
  rw [rdM, ha]
  obtain ⟨i, hi⟩ : ∃ i, gInv a.2 = i := ⟨_, rfl⟩
  obtain ⟨j, hj⟩ : ∃ j, gVar i.2 = j := ⟨_, rfl⟩
  obtain ⟨g, hg⟩ : ∃ g, tkR j.2 32 = g := ⟨_, rfl⟩
  obtain ⟨s, hs⟩ : ∃ s, gTx g.2 1024 = s := ⟨_, rfl⟩
  have hG : rdK a = rdV ⟨a.1, ask0, bid0, i.1, j.1, fB g.1 24 8, fB g.1 16 8, fB g.1 8 8, fB g.1 0 8, s.1⟩ s.2 := by rw [rdK, if_neg (by omega), if_neg (by omega), if_pos hk]; simp only [hi, hj, hg, hs]
  rw [hG]
  have oi := gInv_ok1 a.2
  rw [hi] at oi
  have oj := gVar_ok1 i.2
  rw [hj] at oj
  have os := gTx_len g.2 1024
  rw [hs] at os
  have ci : Pur Try.prog 76 [wV a.2] (.tuple [invA i.1, wV i.2]) := by rw [← hi]; exact w_rGetInv a.2
  have cj : Pur Try.prog 77 [wV i.2] (.tuple [varA j.1, wV j.2]) := by rw [← hj]; exact w_rGetVar i.2
  have cg : Pur Try.prog 50 [wV j.2] (.tuple [wd g.1, wV g.2]) := by rw [← hg]; exact w_rGetWide j.2
  have cs : Pur Try.prog 51 [wV g.2, .r (.int .i64 1024)] (.tuple [.r (.str s.1), wV s.2]) := by rw [← hs]; exact w_rGetText g.2 1024
  obtain ⟨w, hw⟩ : ∃ w, opR b = w := ⟨_, rfl⟩
  rw [hw] at ha
  have ca : Pur Try.prog 49 [wV w, .r (.int .i64 1099511627776)] (.tuple [.r (.int .i64 a.1), wV a.2]) := by rw [← ha]; exact w_rGetNum w 1099511627776
  have c0 := w_rOpen b
  rw [hw] at c0
  clear hG ha hw hi hj hg hs
  have hok : (⟨a.1, ask0, bid0, i.1, j.1, fB g.1 24 8, fB g.1 16 8, fB g.1 8 8, fB g.1 0 8, s.1⟩ : MsgV).ok := ⟨ask0_ok, bid0_ok, oi, oj, fB_u64 _ _ _ (by decide), fB_u64 _ _ _ (by decide), fB_u64 _ _ _ (by decide), fB_u64 _ _ _ (by decide), by show s.1.length ≤ _; omega⟩
  have cM := w_rMsg _ hok
  obtain ⟨E, hEE⟩ : ∃ E, msgE ⟨a.1, ask0, bid0, i.1, j.1, fB g.1 24 8, fB g.1 16 8, fB g.1 8 8, fB g.1 0 8, s.1⟩ = E := ⟨_, rfl⟩
  obtain ⟨p, hp⟩ : ∃ p, plM ⟨a.1, ask0, bid0, i.1, j.1, fB g.1 24 8, fB g.1 16 8, fB g.1 8 8, fB g.1 0 8, s.1⟩ = p := ⟨_, rfl⟩
  rw [hEE, hp] at cM
  clear hp hok
  refine spec_of_go (N := 113) Try.func37 rfl (by decide) rfl rfl ?_
  refine z2 ?_
  refine ar_new tOk rfl rfl rfl ?_ ?_
  · simp
  refine p1 ?_
  refine z3 ?_
  refine ar_new tOk rfl rfl rfl ?_ ?_
  · simp
  refine z3 ?_
  refine ar_new tOk rfl rfl rfl ?_ ?_
  · simp
  refine ar_nil ?_
  refine ag_ent (ent_weak (g' := [(0, .r (.bs b)), (2, .ptr 0 0), (4, .ptr 1 0), (5, .ptr 2 0)]) (h' := ⟨3, [(0, some (.mixed ((msgC (msg0)).map .r))), (1, some (.mixed ((msgC (msg0)).map .r))), (2, some (.mixed [.r .nil, .r (.int .i64 0)]))], false⟩) [0, 1, 2] rfl rfl rfl rfl ?_ ?_ rfl) ?_
  · exact ⟨⟨rfl, rfl⟩, ⟨rfl, rfl⟩, ⟨rfl, rfl⟩, ⟨rfl, rfl⟩, trivial⟩
  · exact ⟨⟨rfl, rfl, rfl⟩, ⟨rfl, rfl, rfl⟩, ⟨rfl, rfl, rfl⟩, trivial⟩
  refine z2 ?_
  refine p1 ?_
  refine ar_pur (c0) rfl rfl rfl rfl rfl rfl rfl ?_
  refine ar_pur (ca) rfl rfl rfl rfl rfl rfl rfl ?_
  iterate 4 refine p1 ?_
  refine ar_store (h' := ⟨3, [(1, some (.mixed ((msgC (⟨a.1, ask0, bid0, inv0, var0, 0, 0, 0, 0, []⟩)).map .r))), (0, some (.mixed ((msgC (msg0)).map .r))), (1, some (.mixed ((msgC (msg0)).map .r))), (2, some (.mixed [.r .nil, .r (.int .i64 0)]))], false⟩) (c := True) tOk (by kernel_rfl) rfl rfl trivial ?_
  refine ar_store tOk rfl rfl rfl trivial ?_
  refine ar_nil ?_
  refine ag_ent (ent_weak (g' := [(2, .ptr 0 0), (4, .ptr 1 0), (5, .ptr 2 0)]) (h' := ⟨3, [(0, some (.mixed ((msgC (msg0)).map .r))), (1, some (.mixed ((msgC (⟨a.1, ask0, bid0, inv0, var0, 0, 0, 0, 0, []⟩)).map .r))), (2, some (.mixed [.r (.bs a.2.1), .r (.int .i64 a.2.2)]))], false⟩) [0, 1, 2] rfl rfl rfl rfl ?_ ?_ rfl) ?_
  · exact ⟨⟨rfl, rfl⟩, ⟨rfl, rfl⟩, ⟨rfl, rfl⟩, trivial⟩
  · exact ⟨⟨rfl, rfl, rfl⟩, ⟨rfl, rfl, rfl⟩, ⟨rfl, rfl, rfl⟩, trivial⟩
  refine ag_seq ?_
  refine z2 ?_
  refine p1 ?_
  refine p2 ?_
  refine ar_nil ?_
  refine ag_block ?_
  refine z2 ?_
  iterate 2 refine p1 ?_
  refine ar_nil ?_
  refine ag_false rfl (decide_eq_false (show ¬ a.1 = 1 by omega)) ?_
  refine z2 ?_
  iterate 2 refine p1 ?_
  refine ar_nil ?_
  refine ag_false rfl (decide_eq_false (show ¬ a.1 = 2 by omega)) ?_
  refine z2 ?_
  iterate 2 refine p1 ?_
  refine ar_nil ?_
  refine ag_true rfl (decide_eq_true (show a.1 = 3 by omega)) ?_
  refine z2 ?_
  refine p2 ?_
  refine ar_pur (ci) rfl rfl rfl rfl rfl rfl rfl ?_
  iterate 4 refine p1 ?_
  refine ar_store (h' := ⟨3, [(1, some (.mixed ((msgC (⟨a.1, ask0, bid0, i.1, var0, 0, 0, 0, 0, []⟩)).map .r))), (0, some (.mixed ((msgC (msg0)).map .r))), (1, some (.mixed ((msgC (⟨a.1, ask0, bid0, inv0, var0, 0, 0, 0, 0, []⟩)).map .r))), (2, some (.mixed [.r (.bs a.2.1), .r (.int .i64 a.2.2)]))], false⟩) (c := True) tOk (by kernel_rfl) rfl rfl trivial ?_
  refine ar_store tOk rfl rfl rfl trivial ?_
  refine ar_nil ?_
  refine ag_ent (ent_weak (g' := [(2, .ptr 0 0), (4, .ptr 1 0), (5, .ptr 2 0)]) (h' := ⟨3, [(0, some (.mixed ((msgC (msg0)).map .r))), (1, some (.mixed ((msgC (⟨a.1, ask0, bid0, i.1, var0, 0, 0, 0, 0, []⟩)).map .r))), (2, some (.mixed [.r (.bs i.2.1), .r (.int .i64 i.2.2)]))], false⟩) [0, 1, 2] rfl rfl rfl rfl ?_ ?_ rfl) ?_
  · exact ⟨⟨rfl, rfl⟩, ⟨rfl, rfl⟩, ⟨rfl, rfl⟩, trivial⟩
  · exact ⟨⟨rfl, rfl, rfl⟩, ⟨rfl, rfl, rfl⟩, ⟨rfl, rfl, rfl⟩, trivial⟩
  refine z2 ?_
  refine p2 ?_
  refine ar_pur (cj) rfl rfl rfl rfl rfl rfl rfl ?_
  iterate 4 refine p1 ?_
  refine ar_store (h' := ⟨3, [(1, some (.mixed ((msgC (⟨a.1, ask0, bid0, i.1, j.1, 0, 0, 0, 0, []⟩)).map .r))), (0, some (.mixed ((msgC (msg0)).map .r))), (1, some (.mixed ((msgC (⟨a.1, ask0, bid0, i.1, var0, 0, 0, 0, 0, []⟩)).map .r))), (2, some (.mixed [.r (.bs i.2.1), .r (.int .i64 i.2.2)]))], false⟩) (c := True) tOk (by kernel_rfl) rfl rfl trivial ?_
  refine ar_store tOk rfl rfl rfl trivial ?_
  refine ar_nil ?_
  refine ag_ent (ent_weak (g' := [(2, .ptr 0 0), (4, .ptr 1 0), (5, .ptr 2 0)]) (h' := ⟨3, [(0, some (.mixed ((msgC (msg0)).map .r))), (1, some (.mixed ((msgC (⟨a.1, ask0, bid0, i.1, j.1, 0, 0, 0, 0, []⟩)).map .r))), (2, some (.mixed [.r (.bs j.2.1), .r (.int .i64 j.2.2)]))], false⟩) [0, 1, 2] rfl rfl rfl rfl ?_ ?_ rfl) ?_
  · exact ⟨⟨rfl, rfl⟩, ⟨rfl, rfl⟩, ⟨rfl, rfl⟩, trivial⟩
  · exact ⟨⟨rfl, rfl, rfl⟩, ⟨rfl, rfl, rfl⟩, ⟨rfl, rfl, rfl⟩, trivial⟩
  refine z2 ?_
  refine p2 ?_
  refine ar_pur (cg) rfl rfl rfl rfl rfl rfl rfl ?_
  iterate 4 refine p1 ?_
  refine ar_store (h' := ⟨3, [(1, some (.mixed ((msgC (⟨a.1, ask0, bid0, i.1, j.1, fB g.1 24 8, fB g.1 16 8, fB g.1 8 8, fB g.1 0 8, []⟩)).map .r))), (0, some (.mixed ((msgC (msg0)).map .r))), (1, some (.mixed ((msgC (⟨a.1, ask0, bid0, i.1, j.1, 0, 0, 0, 0, []⟩)).map .r))), (2, some (.mixed [.r (.bs j.2.1), .r (.int .i64 j.2.2)]))], false⟩) (c := True) tOk (by kernel_rfl) rfl rfl trivial ?_
  refine ar_store tOk rfl rfl rfl trivial ?_
  refine ar_nil ?_
  refine ag_ent (ent_weak (g' := [(2, .ptr 0 0), (4, .ptr 1 0), (5, .ptr 2 0)]) (h' := ⟨3, [(0, some (.mixed ((msgC (msg0)).map .r))), (1, some (.mixed ((msgC (⟨a.1, ask0, bid0, i.1, j.1, fB g.1 24 8, fB g.1 16 8, fB g.1 8 8, fB g.1 0 8, []⟩)).map .r))), (2, some (.mixed [.r (.bs g.2.1), .r (.int .i64 g.2.2)]))], false⟩) [0, 1, 2] rfl rfl rfl rfl ?_ ?_ rfl) ?_
  · exact ⟨⟨rfl, rfl⟩, ⟨rfl, rfl⟩, ⟨rfl, rfl⟩, trivial⟩
  · exact ⟨⟨rfl, rfl, rfl⟩, ⟨rfl, rfl, rfl⟩, ⟨rfl, rfl, rfl⟩, trivial⟩
  refine ag_reg ?_
  refine p2 ?_
  refine ar_pur (cs) rfl rfl rfl rfl rfl rfl rfl ?_
  iterate 4 refine p1 ?_
  refine ar_store (h' := ⟨3, [(1, some (.mixed ((msgC (⟨a.1, ask0, bid0, i.1, j.1, fB g.1 24 8, fB g.1 16 8, fB g.1 8 8, fB g.1 0 8, s.1⟩)).map .r))), (0, some (.mixed ((msgC (msg0)).map .r))), (1, some (.mixed ((msgC (⟨a.1, ask0, bid0, i.1, j.1, fB g.1 24 8, fB g.1 16 8, fB g.1 8 8, fB g.1 0 8, []⟩)).map .r))), (2, some (.mixed [.r (.bs g.2.1), .r (.int .i64 g.2.2)]))], false⟩) (c := True) tOk (by kernel_rfl) rfl rfl trivial ?_
  refine ar_store tOk rfl rfl rfl trivial ?_
  refine ar_nil ?_
  refine ag_ent (ent_weak (g' := [(2, .ptr 0 0), (4, .ptr 1 0), (5, .ptr 2 0)]) (h' := ⟨3, [(0, some (.mixed ((msgC (msg0)).map .r))), (1, some (.mixed ((msgC (⟨a.1, ask0, bid0, i.1, j.1, fB g.1 24 8, fB g.1 16 8, fB g.1 8 8, fB g.1 0 8, s.1⟩)).map .r))), (2, some (.mixed [.r (.bs s.2.1), .r (.int .i64 s.2.2)]))], false⟩) [0, 1, 2] rfl rfl rfl rfl ?_ ?_ rfl) ?_
  · exact ⟨⟨rfl, rfl⟩, ⟨rfl, rfl⟩, ⟨rfl, rfl⟩, trivial⟩
  · exact ⟨⟨rfl, rfl, rfl⟩, ⟨rfl, rfl, rfl⟩, ⟨rfl, rfl, rfl⟩, trivial⟩
  refine ag_inBlock ?_
  refine ag_seq ?_
  refine z2 ?_
  refine p1 ?_
  refine p2 ?_
  refine p1 ?_
  refine ar_nil ?_
  refine ag_if rfl ?_ ?_
  · intro h94
    refine ag_seq ?_
    refine ag_ent (ent_weak (g' := [(2, .ptr 0 0), (4, .ptr 1 0), (5, .ptr 2 0)]) (h' := ⟨3, [(0, some (.mixed ((msgC (msg0)).map .r))), (1, some (.mixed ((msgC (⟨a.1, ask0, bid0, i.1, j.1, fB g.1 24 8, fB g.1 16 8, fB g.1 8 8, fB g.1 0 8, s.1⟩)).map .r))), (2, some (.mixed [.r (.bs s.2.1), .r (.int .i64 s.2.2)]))], false⟩) [0, 1, 2] rfl rfl rfl rfl ?_ ?_ rfl) ?_
    · exact ⟨⟨rfl, rfl⟩, ⟨rfl, rfl⟩, ⟨rfl, rfl⟩, trivial⟩
    · exact ⟨⟨rfl, rfl, rfl⟩, ⟨rfl, rfl, rfl⟩, ⟨rfl, rfl, rfl⟩, trivial⟩
    apply ag_draw1 [] (by kernel_rfl) (by kernel_rfl)
    refine aq_pure tOk rfl rfl rfl ?_ ?_
    · simp
    refine aq_pure tOk rfl rfl rfl trivial ?_
    refine aq_load1 tOk rfl (by kernel_rfl) rfl rfl rfl rfl trivial ?_ ?_
    rotate_left 1
    refine aq_store10 (h' := ⟨3, [(0, some (.mixed ((msgC (msg0)).map .r))), (0, some (.mixed ((msgC (msg0)).map .r))), (1, some (.mixed ((msgC (⟨a.1, ask0, bid0, i.1, j.1, fB g.1 24 8, fB g.1 16 8, fB g.1 8 8, fB g.1 0 8, s.1⟩)).map .r))), (2, some (.mixed [.r (.bs s.2.1), .r (.int .i64 s.2.2)]))], false⟩) (c := True) tOk (by kernel_rfl) rfl rfl rfl trivial ?_
    refine aq_pure tOk rfl rfl rfl trivial ?_
    refine aq_nil rfl ?_
    refine ag_ret tOk Try.func37 rfl rfl (by first | trivial | exact ⟨trivial, trivial⟩ | simp) ?_
    rw [rd_1 h94]
    rfl
    all_goals exact ⟨_, rfl, trivial⟩
  · intro h94
    refine ag_skip ?_
    iterate 2 refine ag_seq ?_
    refine ag_ent (ent_weak (g' := [(2, .ptr 0 0), (4, .ptr 1 0), (5, .ptr 2 0)]) (h' := ⟨3, [(0, some (.mixed ((msgC (msg0)).map .r))), (1, some (.mixed ((msgC (⟨a.1, ask0, bid0, i.1, j.1, fB g.1 24 8, fB g.1 16 8, fB g.1 8 8, fB g.1 0 8, s.1⟩)).map .r))), (2, some (.mixed [.r (.bs s.2.1), .r (.int .i64 s.2.2)]))], false⟩) [0, 1, 2] rfl rfl rfl rfl ?_ ?_ rfl) ?_
    · exact ⟨⟨rfl, rfl⟩, ⟨rfl, rfl⟩, ⟨rfl, rfl⟩, trivial⟩
    · exact ⟨⟨rfl, rfl, rfl⟩, ⟨rfl, rfl, rfl⟩, ⟨rfl, rfl, rfl⟩, trivial⟩
    refine ag_reg ?_
    refine p2 ?_
    refine ar_pur (cM) rfl rfl rfl rfl rfl rfl rfl ?_
    iterate 3 refine p1 ?_
    refine ar_new tOk rfl rfl rfl ?_ ?_
    · simp
    refine ar_store (h' := ⟨4, [(3, some (.mixed ((msgC (p)).map .r))), (3, some (.mixed ((msgC (msg0)).map .r))), (0, some (.mixed ((msgC (msg0)).map .r))), (1, some (.mixed ((msgC (⟨a.1, ask0, bid0, i.1, j.1, fB g.1 24 8, fB g.1 16 8, fB g.1 8 8, fB g.1 0 8, s.1⟩)).map .r))), (2, some (.mixed [.r (.bs s.2.1), .r (.int .i64 s.2.2)]))], false⟩) (c := True) tOk (by kernel_rfl) rfl rfl trivial ?_
    refine p1 ?_
    refine ar_nil ?_
    refine ag_ent (ent_weak (g' := [(2, .ptr 0 0), (4, .ptr 1 0), (5, .ptr 2 0), (7, .r (.int .i64 E))]) (h' := ⟨3, [(0, some (.mixed ((msgC (msg0)).map .r))), (1, some (.mixed ((msgC (⟨a.1, ask0, bid0, i.1, j.1, fB g.1 24 8, fB g.1 16 8, fB g.1 8 8, fB g.1 0 8, s.1⟩)).map .r))), (2, some (.mixed [.r (.bs s.2.1), .r (.int .i64 s.2.2)]))], false⟩) [0, 1, 2] rfl rfl rfl rfl ?_ ?_ rfl) ?_
    · exact ⟨⟨rfl, rfl⟩, ⟨rfl, rfl⟩, ⟨rfl, rfl⟩, ⟨rfl, rfl⟩, trivial⟩
    · exact ⟨⟨rfl, rfl, rfl⟩, ⟨rfl, rfl, rfl⟩, ⟨rfl, rfl, rfl⟩, trivial⟩
    refine z2 ?_
    iterate 3 refine p1 ?_
    refine ar_guard (t := decide (E ≠ 0)) (fun ht => ?_) (fun ht => ?_)
    · refine ar_ent (ent_reg 105 (.r (.bool true)) (by show AVal.r (.bool _) = _; exact eqB ht)) ?_
      have hk0 := of_decide_eq_true ht
      repeat (first | refine ar_skip rfl rfl rfl ?_ | refine ar_pure tOk rfl rfl rfl trivial ?_)
      refine ar_nil ?_
      refine ag_true rfl (by rfl) ?_
      refine ag_seq ?_
      refine ag_ent (ent_weak (g' := [(2, .ptr 0 0), (4, .ptr 1 0), (5, .ptr 2 0)]) (h' := ⟨3, [(0, some (.mixed ((msgC (msg0)).map .r))), (1, some (.mixed ((msgC (⟨a.1, ask0, bid0, i.1, j.1, fB g.1 24 8, fB g.1 16 8, fB g.1 8 8, fB g.1 0 8, s.1⟩)).map .r))), (2, some (.mixed [.r (.bs s.2.1), .r (.int .i64 s.2.2)]))], false⟩) [0, 1, 2] rfl rfl rfl rfl ?_ ?_ rfl) ?_
      · exact ⟨⟨rfl, rfl⟩, ⟨rfl, rfl⟩, ⟨rfl, rfl⟩, trivial⟩
      · exact ⟨⟨rfl, rfl, rfl⟩, ⟨rfl, rfl, rfl⟩, ⟨rfl, rfl, rfl⟩, trivial⟩
      refine ag_reg ?_
      refine ar_pure tOk rfl rfl rfl ?_ ?_
      · simp
      refine ar_store (h' := ⟨3, [(0, some (.mixed ((msgC (msg0)).map .r))), (0, some (.mixed ((msgC (msg0)).map .r))), (1, some (.mixed ((msgC (⟨a.1, ask0, bid0, i.1, j.1, fB g.1 24 8, fB g.1 16 8, fB g.1 8 8, fB g.1 0 8, s.1⟩)).map .r))), (2, some (.mixed [.r (.bs s.2.1), .r (.int .i64 s.2.2)]))], false⟩) (c := True) tOk (by kernel_rfl) rfl rfl trivial ?_
      refine p1 ?_
      refine ar_nil ?_
      refine ag_ret tOk Try.func37 rfl rfl (by first | trivial | exact ⟨trivial, trivial⟩ | simp) ?_
      rw [rd_2 h94 (.inr (by rw [hEE]; exact hk0))]
      rfl
    · refine ar_ent (ent_reg 105 (.r (.bool false)) (by show AVal.r (.bool _) = _; exact eqB ht)) ?_
      have hk0 := of_decide_eq_false ht
      refine p1 ?_
      refine p2 ?_
      iterate 3 refine p1 ?_
      refine ar_nil ?_
      refine ag_if rfl ?_ ?_
      · intro h110
        refine ag_seq ?_
        refine ag_ent (ent_weak (g' := [(2, .ptr 0 0), (4, .ptr 1 0), (5, .ptr 2 0)]) (h' := ⟨3, [(0, some (.mixed ((msgC (msg0)).map .r))), (1, some (.mixed ((msgC (⟨a.1, ask0, bid0, i.1, j.1, fB g.1 24 8, fB g.1 16 8, fB g.1 8 8, fB g.1 0 8, s.1⟩)).map .r))), (2, some (.mixed [.r (.bs s.2.1), .r (.int .i64 s.2.2)]))], false⟩) [0, 1, 2] rfl rfl rfl rfl ?_ ?_ rfl) ?_
        · exact ⟨⟨rfl, rfl⟩, ⟨rfl, rfl⟩, ⟨rfl, rfl⟩, trivial⟩
        · exact ⟨⟨rfl, rfl, rfl⟩, ⟨rfl, rfl, rfl⟩, ⟨rfl, rfl, rfl⟩, trivial⟩
        refine ag_reg ?_
        refine ar_pure tOk rfl rfl rfl ?_ ?_
        · simp
        refine ar_store (h' := ⟨3, [(0, some (.mixed ((msgC (msg0)).map .r))), (0, some (.mixed ((msgC (msg0)).map .r))), (1, some (.mixed ((msgC (⟨a.1, ask0, bid0, i.1, j.1, fB g.1 24 8, fB g.1 16 8, fB g.1 8 8, fB g.1 0 8, s.1⟩)).map .r))), (2, some (.mixed [.r (.bs s.2.1), .r (.int .i64 s.2.2)]))], false⟩) (c := True) tOk (by kernel_rfl) rfl rfl trivial ?_
        refine p1 ?_
        refine ar_nil ?_
        refine ag_ret tOk Try.func37 rfl rfl (by first | trivial | exact ⟨trivial, trivial⟩ | simp) ?_
        rw [rd_2 h94 (.inl (by omega))]
        rfl
      · intro h110
        refine ag_skip ?_
        refine ag_seq ?_
        refine ag_ent (ent_weak (g' := [(2, .ptr 0 0), (4, .ptr 1 0), (5, .ptr 2 0)]) (h' := ⟨3, [(0, some (.mixed ((msgC (msg0)).map .r))), (1, some (.mixed ((msgC (⟨a.1, ask0, bid0, i.1, j.1, fB g.1 24 8, fB g.1 16 8, fB g.1 8 8, fB g.1 0 8, s.1⟩)).map .r))), (2, some (.mixed [.r (.bs s.2.1), .r (.int .i64 s.2.2)]))], false⟩) [0, 1, 2] rfl rfl rfl rfl ?_ ?_ rfl) ?_
        · exact ⟨⟨rfl, rfl⟩, ⟨rfl, rfl⟩, ⟨rfl, rfl⟩, trivial⟩
        · exact ⟨⟨rfl, rfl, rfl⟩, ⟨rfl, rfl, rfl⟩, ⟨rfl, rfl, rfl⟩, trivial⟩
        refine ag_reg ?_
        refine p2 ?_
        refine ar_store (h' := ⟨3, [(0, some (.mixed ((msgC (⟨a.1, ask0, bid0, i.1, j.1, fB g.1 24 8, fB g.1 16 8, fB g.1 8 8, fB g.1 0 8, s.1⟩)).map .r))), (0, some (.mixed ((msgC (msg0)).map .r))), (1, some (.mixed ((msgC (⟨a.1, ask0, bid0, i.1, j.1, fB g.1 24 8, fB g.1 16 8, fB g.1 8 8, fB g.1 0 8, s.1⟩)).map .r))), (2, some (.mixed [.r (.bs s.2.1), .r (.int .i64 s.2.2)]))], false⟩) (c := True) tOk (by kernel_rfl) rfl rfl trivial ?_
        refine p1 ?_
        refine ar_nil ?_
        refine ag_ret tOk Try.func37 rfl rfl (by first | trivial | exact ⟨trivial, trivial⟩ | simp) ?_
        rw [rd_3 h94 (by rintro (q | q); omega; rw [hEE] at q; exact hk0 q)]
        rfl

theorem w_rGetM0 (b : List UInt8) (a : Int × W) (ha : gNu (opR b) M40 = a) (hk : ¬ a.1 = 1 ∧ ¬ a.1 = 2 ∧ ¬ a.1 = 3) : Pur Try.prog 37 [.r (.bs b)] (.tuple [msgA (rdM b).1, .r (.int .i64 (rdM b).2)]) := by
  rw [rdM, ha]
  have hG : rdK a = rdV ⟨a.1, ask0, bid0, inv0, var0, 0, 0, 0, 0, []⟩ a.2 := by rw [rdK, if_neg hk.1, if_neg hk.2.1, if_neg hk.2.2]
  rw [hG]
  obtain ⟨w, hw⟩ : ∃ w, opR b = w := ⟨_, rfl⟩
  rw [hw] at ha
  have ca : Pur Try.prog 49 [wV w, .r (.int .i64 1099511627776)] (.tuple [.r (.int .i64 a.1), wV a.2]) := by rw [← ha]; exact w_rGetNum w 1099511627776
  have c0 := w_rOpen b
  rw [hw] at c0
  clear hG ha hw
  have hok : (⟨a.1, ask0, bid0, inv0, var0, 0, 0, 0, 0, []⟩ : MsgV).ok := ⟨ask0_ok, bid0_ok, inv0_ok8, var0_ok8, u0_ok, u0_ok, u0_ok, u0_ok, Nat.zero_le _⟩
  have cM := w_rMsg _ hok
  obtain ⟨E, hEE⟩ : ∃ E, msgE ⟨a.1, ask0, bid0, inv0, var0, 0, 0, 0, 0, []⟩ = E := ⟨_, rfl⟩
  obtain ⟨p, hp⟩ : ∃ p, plM ⟨a.1, ask0, bid0, inv0, var0, 0, 0, 0, 0, []⟩ = p := ⟨_, rfl⟩
  rw [hEE, hp] at cM
  clear hp hok
  have hbad : msgE ⟨a.1, ask0, bid0, inv0, var0, 0, 0, 0, 0, []⟩ ≠ 0 := by rw [msgE, if_neg hk.1, if_neg hk.2.1, if_neg hk.2.2]; decide
  refine spec_of_go (N := 113) Try.func37 rfl (by decide) rfl rfl ?_
  refine z2 ?_
  refine ar_new tOk rfl rfl rfl ?_ ?_
  · simp
  refine p1 ?_
  refine z3 ?_
  refine ar_new tOk rfl rfl rfl ?_ ?_
  · simp
  refine z3 ?_
  refine ar_new tOk rfl rfl rfl ?_ ?_
  · simp
  refine ar_nil ?_
  refine ag_ent (ent_weak (g' := [(0, .r (.bs b)), (2, .ptr 0 0), (4, .ptr 1 0), (5, .ptr 2 0)]) (h' := ⟨3, [(0, some (.mixed ((msgC (msg0)).map .r))), (1, some (.mixed ((msgC (msg0)).map .r))), (2, some (.mixed [.r .nil, .r (.int .i64 0)]))], false⟩) [0, 1, 2] rfl rfl rfl rfl ?_ ?_ rfl) ?_
  · exact ⟨⟨rfl, rfl⟩, ⟨rfl, rfl⟩, ⟨rfl, rfl⟩, ⟨rfl, rfl⟩, trivial⟩
  · exact ⟨⟨rfl, rfl, rfl⟩, ⟨rfl, rfl, rfl⟩, ⟨rfl, rfl, rfl⟩, trivial⟩
  refine z2 ?_
  refine p1 ?_
  refine ar_pur (c0) rfl rfl rfl rfl rfl rfl rfl ?_
  refine ar_pur (ca) rfl rfl rfl rfl rfl rfl rfl ?_
  iterate 4 refine p1 ?_
  refine ar_store (h' := ⟨3, [(1, some (.mixed ((msgC (⟨a.1, ask0, bid0, inv0, var0, 0, 0, 0, 0, []⟩)).map .r))), (0, some (.mixed ((msgC (msg0)).map .r))), (1, some (.mixed ((msgC (msg0)).map .r))), (2, some (.mixed [.r .nil, .r (.int .i64 0)]))], false⟩) (c := True) tOk (by kernel_rfl) rfl rfl trivial ?_
  refine ar_store tOk rfl rfl rfl trivial ?_
  refine ar_nil ?_
  refine ag_ent (ent_weak (g' := [(2, .ptr 0 0), (4, .ptr 1 0), (5, .ptr 2 0)]) (h' := ⟨3, [(0, some (.mixed ((msgC (msg0)).map .r))), (1, some (.mixed ((msgC (⟨a.1, ask0, bid0, inv0, var0, 0, 0, 0, 0, []⟩)).map .r))), (2, some (.mixed [.r (.bs a.2.1), .r (.int .i64 a.2.2)]))], false⟩) [0, 1, 2] rfl rfl rfl rfl ?_ ?_ rfl) ?_
  · exact ⟨⟨rfl, rfl⟩, ⟨rfl, rfl⟩, ⟨rfl, rfl⟩, trivial⟩
  · exact ⟨⟨rfl, rfl, rfl⟩, ⟨rfl, rfl, rfl⟩, ⟨rfl, rfl, rfl⟩, trivial⟩
  refine ag_seq ?_
  refine z2 ?_
  refine p1 ?_
  refine p2 ?_
  refine ar_nil ?_
  refine ag_block ?_
  refine z2 ?_
  iterate 2 refine p1 ?_
  refine ar_nil ?_
  refine ag_false rfl (decide_eq_false (show ¬ a.1 = 1 by omega)) ?_
  refine z2 ?_
  iterate 2 refine p1 ?_
  refine ar_nil ?_
  refine ag_false rfl (decide_eq_false (show ¬ a.1 = 2 by omega)) ?_
  refine z2 ?_
  iterate 2 refine p1 ?_
  refine ar_nil ?_
  refine ag_false rfl (decide_eq_false (show ¬ a.1 = 3 by omega)) ?_
  refine z2 ?_
  refine p1 ?_
  refine p2 ?_
  refine p1 ?_
  refine ar_nil ?_
  refine ag_if rfl ?_ ?_
  · intro h19
    refine ag_seq ?_
    refine ag_ent (ent_weak (g' := [(2, .ptr 0 0), (4, .ptr 1 0), (5, .ptr 2 0)]) (h' := ⟨3, [(0, some (.mixed ((msgC (msg0)).map .r))), (1, some (.mixed ((msgC (⟨a.1, ask0, bid0, inv0, var0, 0, 0, 0, 0, []⟩)).map .r))), (2, some (.mixed [.r (.bs a.2.1), .r (.int .i64 a.2.2)]))], false⟩) [0, 1, 2] rfl rfl rfl rfl ?_ ?_ rfl) ?_
    · exact ⟨⟨rfl, rfl⟩, ⟨rfl, rfl⟩, ⟨rfl, rfl⟩, trivial⟩
    · exact ⟨⟨rfl, rfl, rfl⟩, ⟨rfl, rfl, rfl⟩, ⟨rfl, rfl, rfl⟩, trivial⟩
    refine ag_reg ?_
    refine ar_pure tOk rfl rfl rfl ?_ ?_
    · simp
    refine ar_store (h' := ⟨3, [(0, some (.mixed ((msgC (msg0)).map .r))), (0, some (.mixed ((msgC (msg0)).map .r))), (1, some (.mixed ((msgC (⟨a.1, ask0, bid0, inv0, var0, 0, 0, 0, 0, []⟩)).map .r))), (2, some (.mixed [.r (.bs a.2.1), .r (.int .i64 a.2.2)]))], false⟩) (c := True) tOk (by kernel_rfl) rfl rfl trivial ?_
    refine p1 ?_
    refine ar_nil ?_
    refine ag_ret tOk Try.func37 rfl rfl (by first | trivial | exact ⟨trivial, trivial⟩ | simp) ?_
    rw [rd_2 (by omega) (.inr hbad)]
    rfl
  · intro h19
    refine ag_skip ?_
    refine ag_inBlock ?_
    refine ag_seq ?_
    refine z2 ?_
    refine p1 ?_
    refine p2 ?_
    refine p1 ?_
    refine ar_nil ?_
    refine ag_if rfl ?_ ?_
    · intro h94
      refine ag_seq ?_
      refine ag_ent (ent_weak (g' := [(2, .ptr 0 0), (4, .ptr 1 0), (5, .ptr 2 0)]) (h' := ⟨3, [(0, some (.mixed ((msgC (msg0)).map .r))), (1, some (.mixed ((msgC (⟨a.1, ask0, bid0, inv0, var0, 0, 0, 0, 0, []⟩)).map .r))), (2, some (.mixed [.r (.bs a.2.1), .r (.int .i64 a.2.2)]))], false⟩) [0, 1, 2] rfl rfl rfl rfl ?_ ?_ rfl) ?_
      · exact ⟨⟨rfl, rfl⟩, ⟨rfl, rfl⟩, ⟨rfl, rfl⟩, trivial⟩
      · exact ⟨⟨rfl, rfl, rfl⟩, ⟨rfl, rfl, rfl⟩, ⟨rfl, rfl, rfl⟩, trivial⟩
      apply ag_draw1 [] (by kernel_rfl) (by kernel_rfl)
      refine aq_pure tOk rfl rfl rfl ?_ ?_
      · simp
      refine aq_pure tOk rfl rfl rfl trivial ?_
      refine aq_load1 tOk rfl (by kernel_rfl) rfl rfl rfl rfl trivial ?_ ?_
      rotate_left 1
      refine aq_store10 (h' := ⟨3, [(0, some (.mixed ((msgC (msg0)).map .r))), (0, some (.mixed ((msgC (msg0)).map .r))), (1, some (.mixed ((msgC (⟨a.1, ask0, bid0, inv0, var0, 0, 0, 0, 0, []⟩)).map .r))), (2, some (.mixed [.r (.bs a.2.1), .r (.int .i64 a.2.2)]))], false⟩) (c := True) tOk (by kernel_rfl) rfl rfl rfl trivial ?_
      refine aq_pure tOk rfl rfl rfl trivial ?_
      refine aq_nil rfl ?_
      refine ag_ret tOk Try.func37 rfl rfl (by first | trivial | exact ⟨trivial, trivial⟩ | simp) ?_
      rw [rd_1 h94]
      rfl
      all_goals exact ⟨_, rfl, trivial⟩
    · intro h94
      refine ag_skip ?_
      iterate 2 refine ag_seq ?_
      refine ag_ent (ent_weak (g' := [(2, .ptr 0 0), (4, .ptr 1 0), (5, .ptr 2 0)]) (h' := ⟨3, [(0, some (.mixed ((msgC (msg0)).map .r))), (1, some (.mixed ((msgC (⟨a.1, ask0, bid0, inv0, var0, 0, 0, 0, 0, []⟩)).map .r))), (2, some (.mixed [.r (.bs a.2.1), .r (.int .i64 a.2.2)]))], false⟩) [0, 1, 2] rfl rfl rfl rfl ?_ ?_ rfl) ?_
      · exact ⟨⟨rfl, rfl⟩, ⟨rfl, rfl⟩, ⟨rfl, rfl⟩, trivial⟩
      · exact ⟨⟨rfl, rfl, rfl⟩, ⟨rfl, rfl, rfl⟩, ⟨rfl, rfl, rfl⟩, trivial⟩
      refine ag_reg ?_
      refine p2 ?_
      refine ar_pur (cM) rfl rfl rfl rfl rfl rfl rfl ?_
      iterate 3 refine p1 ?_
      refine ar_new tOk rfl rfl rfl ?_ ?_
      · simp
      refine ar_store (h' := ⟨4, [(3, some (.mixed ((msgC (p)).map .r))), (3, some (.mixed ((msgC (msg0)).map .r))), (0, some (.mixed ((msgC (msg0)).map .r))), (1, some (.mixed ((msgC (⟨a.1, ask0, bid0, inv0, var0, 0, 0, 0, 0, []⟩)).map .r))), (2, some (.mixed [.r (.bs a.2.1), .r (.int .i64 a.2.2)]))], false⟩) (c := True) tOk (by kernel_rfl) rfl rfl trivial ?_
      refine p1 ?_
      refine ar_nil ?_
      refine ag_ent (ent_weak (g' := [(2, .ptr 0 0), (4, .ptr 1 0), (5, .ptr 2 0), (7, .r (.int .i64 E))]) (h' := ⟨3, [(0, some (.mixed ((msgC (msg0)).map .r))), (1, some (.mixed ((msgC (⟨a.1, ask0, bid0, inv0, var0, 0, 0, 0, 0, []⟩)).map .r))), (2, some (.mixed [.r (.bs a.2.1), .r (.int .i64 a.2.2)]))], false⟩) [0, 1, 2] rfl rfl rfl rfl ?_ ?_ rfl) ?_
      · exact ⟨⟨rfl, rfl⟩, ⟨rfl, rfl⟩, ⟨rfl, rfl⟩, ⟨rfl, rfl⟩, trivial⟩
      · exact ⟨⟨rfl, rfl, rfl⟩, ⟨rfl, rfl, rfl⟩, ⟨rfl, rfl, rfl⟩, trivial⟩
      refine z2 ?_
      iterate 3 refine p1 ?_
      refine ar_guard (t := decide (E ≠ 0)) (fun ht => ?_) (fun ht => ?_)
      · refine ar_ent (ent_reg 105 (.r (.bool true)) (by show AVal.r (.bool _) = _; exact eqB ht)) ?_
        have hk0 := of_decide_eq_true ht
        repeat (first | refine ar_skip rfl rfl rfl ?_ | refine ar_pure tOk rfl rfl rfl trivial ?_)
        refine ar_nil ?_
        refine ag_true rfl (by rfl) ?_
        refine ag_seq ?_
        refine ag_ent (ent_weak (g' := [(2, .ptr 0 0), (4, .ptr 1 0), (5, .ptr 2 0)]) (h' := ⟨3, [(0, some (.mixed ((msgC (msg0)).map .r))), (1, some (.mixed ((msgC (⟨a.1, ask0, bid0, inv0, var0, 0, 0, 0, 0, []⟩)).map .r))), (2, some (.mixed [.r (.bs a.2.1), .r (.int .i64 a.2.2)]))], false⟩) [0, 1, 2] rfl rfl rfl rfl ?_ ?_ rfl) ?_
        · exact ⟨⟨rfl, rfl⟩, ⟨rfl, rfl⟩, ⟨rfl, rfl⟩, trivial⟩
        · exact ⟨⟨rfl, rfl, rfl⟩, ⟨rfl, rfl, rfl⟩, ⟨rfl, rfl, rfl⟩, trivial⟩
        refine ag_reg ?_
        refine ar_pure tOk rfl rfl rfl ?_ ?_
        · simp
        refine ar_store (h' := ⟨3, [(0, some (.mixed ((msgC (msg0)).map .r))), (0, some (.mixed ((msgC (msg0)).map .r))), (1, some (.mixed ((msgC (⟨a.1, ask0, bid0, inv0, var0, 0, 0, 0, 0, []⟩)).map .r))), (2, some (.mixed [.r (.bs a.2.1), .r (.int .i64 a.2.2)]))], false⟩) (c := True) tOk (by kernel_rfl) rfl rfl trivial ?_
        refine p1 ?_
        refine ar_nil ?_
        refine ag_ret tOk Try.func37 rfl rfl (by first | trivial | exact ⟨trivial, trivial⟩ | simp) ?_
        rw [rd_2 h94 (.inr (by rw [hEE]; exact hk0))]
        rfl
      · refine ar_ent (ent_reg 105 (.r (.bool false)) (by show AVal.r (.bool _) = _; exact eqB ht)) ?_
        have hk0 := of_decide_eq_false ht
        refine p1 ?_
        refine p2 ?_
        iterate 3 refine p1 ?_
        refine ar_nil ?_
        refine ag_if rfl ?_ ?_
        · intro h110
          refine ag_seq ?_
          refine ag_ent (ent_weak (g' := [(2, .ptr 0 0), (4, .ptr 1 0), (5, .ptr 2 0)]) (h' := ⟨3, [(0, some (.mixed ((msgC (msg0)).map .r))), (1, some (.mixed ((msgC (⟨a.1, ask0, bid0, inv0, var0, 0, 0, 0, 0, []⟩)).map .r))), (2, some (.mixed [.r (.bs a.2.1), .r (.int .i64 a.2.2)]))], false⟩) [0, 1, 2] rfl rfl rfl rfl ?_ ?_ rfl) ?_
          · exact ⟨⟨rfl, rfl⟩, ⟨rfl, rfl⟩, ⟨rfl, rfl⟩, trivial⟩
          · exact ⟨⟨rfl, rfl, rfl⟩, ⟨rfl, rfl, rfl⟩, ⟨rfl, rfl, rfl⟩, trivial⟩
          refine ag_reg ?_
          refine ar_pure tOk rfl rfl rfl ?_ ?_
          · simp
          refine ar_store (h' := ⟨3, [(0, some (.mixed ((msgC (msg0)).map .r))), (0, some (.mixed ((msgC (msg0)).map .r))), (1, some (.mixed ((msgC (⟨a.1, ask0, bid0, inv0, var0, 0, 0, 0, 0, []⟩)).map .r))), (2, some (.mixed [.r (.bs a.2.1), .r (.int .i64 a.2.2)]))], false⟩) (c := True) tOk (by kernel_rfl) rfl rfl trivial ?_
          refine p1 ?_
          refine ar_nil ?_
          refine ag_ret tOk Try.func37 rfl rfl (by first | trivial | exact ⟨trivial, trivial⟩ | simp) ?_
          rw [rd_2 h94 (.inl (by omega))]
          rfl
        · intro h110
          refine ag_skip ?_
          refine ag_seq ?_
          refine ag_ent (ent_weak (g' := [(2, .ptr 0 0), (4, .ptr 1 0), (5, .ptr 2 0)]) (h' := ⟨3, [(0, some (.mixed ((msgC (msg0)).map .r))), (1, some (.mixed ((msgC (⟨a.1, ask0, bid0, inv0, var0, 0, 0, 0, 0, []⟩)).map .r))), (2, some (.mixed [.r (.bs a.2.1), .r (.int .i64 a.2.2)]))], false⟩) [0, 1, 2] rfl rfl rfl rfl ?_ ?_ rfl) ?_
          · exact ⟨⟨rfl, rfl⟩, ⟨rfl, rfl⟩, ⟨rfl, rfl⟩, trivial⟩
          · exact ⟨⟨rfl, rfl, rfl⟩, ⟨rfl, rfl, rfl⟩, ⟨rfl, rfl, rfl⟩, trivial⟩
          refine ag_reg ?_
          refine p2 ?_
          refine ar_store (h' := ⟨3, [(0, some (.mixed ((msgC (⟨a.1, ask0, bid0, inv0, var0, 0, 0, 0, 0, []⟩)).map .r))), (0, some (.mixed ((msgC (msg0)).map .r))), (1, some (.mixed ((msgC (⟨a.1, ask0, bid0, inv0, var0, 0, 0, 0, 0, []⟩)).map .r))), (2, some (.mixed [.r (.bs a.2.1), .r (.int .i64 a.2.2)]))], false⟩) (c := True) tOk (by kernel_rfl) rfl rfl trivial ?_
          refine p1 ?_
          refine ar_nil ?_
          refine ag_ret tOk Try.func37 rfl rfl (by first | trivial | exact ⟨trivial, trivial⟩ | simp) ?_
          rw [rd_3 h94 (by rintro (q | q); omega; rw [hEE] at q; exact hk0 q)]
          rfl

theorem w_mRead (b : List UInt8) : Pur Try.prog 36 [.r (.bs b)] (.tuple [msgA (rdM b).1, .r (.int .i64 (rdM b).2)]) := by
  rcases mcase (gNu (opR b) M40).1 with h | h | h | h
  · exact w_mRead1 b _ rfl h
  · exact w_mRead2 b _ rfl h
  · exact w_mRead3 b _ rfl h
  · exact w_mRead0 b _ rfl h
theorem w_rGetM (b : List UInt8) : Pur Try.prog 37 [.r (.bs b)] (.tuple [msgA (rdM b).1, .r (.int .i64 (rdM b).2)]) := by
  rcases mcase (gNu (opR b) M40).1 with h | h | h | h
  · exact w_rGetM1 b _ rfl h
  · exact w_rGetM2 b _ rfl h
  · exact w_rGetM3 b _ rfl h
  · exact w_rGetM0 b _ rfl h

end Go.Proofs.Ytppniggpdepabaa

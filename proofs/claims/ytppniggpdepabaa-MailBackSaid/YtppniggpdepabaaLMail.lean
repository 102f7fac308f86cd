/-
  WALKS: the laws of layer 10. (Printed by gen.py out of w_lmail.py.)
-/
import Derived.Test.YtppniggpdepabaaMail5
namespace Go.Proofs.Ytppniggpdepabaa
open Go
set_option maxRecDepth 20000
set_option linter.unusedVariables false
set_option linter.unusedSimpArgs false

theorem w_num10 (e : Int) : Pur Try.prog 39 [.r (.int .i64 e)] (.r (.int .i64 e)) := by
  refine spec_of_go (N := 4) Try.func39 rfl (by decide) rfl rfl ?_
  refine z2 ?_
  refine p1 ?_
  refine z3 ?_
  iterate 2 refine p1 ?_
  refine ar_nil ?_
  refine ag_ret tOk Try.func39 rfl rfl (by simp) ?_
  rfl

theorem w_alive10  : Pur Try.prog 41 [] (.r (.bool true)) := by
  have hA : Pur Try.prog 40 [msgA msg0] (.r (.int .i64 12)) := (w_mCheck _).mono_r (by rw [msgE, if_neg (by decide), if_neg (by decide), if_neg (by decide)])
  have hB : Pur Try.prog 40 [msgA ⟨1, ⟨0, 0, 0, 0, 1, 0, 0, 0, [120]⟩, bid0, inv0, var0, 0, 0, 0, 0, []⟩] (.r (.int .i64 0)) := (w_mCheck _).mono_r (by rw [msgE, if_pos (by decide), askE, if_neg (by decide)])
  refine spec_of_go (N := 13) Try.func41 rfl (by decide) rfl rfl ?_
  refine z2 ?_
  refine p1 ?_
  refine z3 ?_
  refine ar_pure tOk rfl rfl rfl ?_ ?_
  · simp
  refine ar_pure tOk rfl rfl rfl ?_ ?_
  · simp
  refine ar_pure (d := 4) (v := msgA ⟨1, ⟨0, 0, 0, 0, 1, 0, 0, 0, [120]⟩, bid0, inv0, var0, 0, 0, 0, 0, []⟩) (c := msgC msg0 ≠ []) tOk (by kernel_rfl) rfl rfl (by simp [msgC]) ?_
  refine ar_new tOk rfl rfl rfl ?_ ?_
  · simp
  refine ar_store (h' := ⟨1, [(0, some (.mixed ((msgC (⟨1, ⟨0, 0, 0, 0, 1, 0, 0, 0, [120]⟩, bid0, inv0, var0, 0, 0, 0, 0, []⟩)).map .r))), (0, some (.mixed ((msgC (msg0)).map .r)))], false⟩) (c := True) tOk (by kernel_rfl) rfl rfl trivial ?_
  refine ar_nil ?_
  refine ag_ent (ent_weak (g' := [(1, .ptr 0 0)]) (h' := ⟨1, [(0, some (.mixed ((msgC (⟨1, ⟨0, 0, 0, 0, 1, 0, 0, 0, [120]⟩, bid0, inv0, var0, 0, 0, 0, 0, []⟩)).map .r)))], false⟩) [0] rfl rfl rfl rfl ?_ ?_ rfl) ?_
  · exact ⟨⟨rfl, rfl⟩, trivial⟩
  · exact ⟨⟨rfl, rfl, rfl⟩, trivial⟩
  refine z2 ?_
  refine ar_pure (d := 5) (v := msgA msg0) (c := msgC msg0 ≠ []) tOk (by kernel_rfl) rfl rfl (by simp [msgC]) ?_
  refine ar_pur (hA) rfl rfl rfl rfl rfl rfl rfl ?_
  iterate 2 refine p1 ?_
  refine p2 ?_
  refine ar_pur (hB) rfl rfl rfl rfl rfl rfl rfl ?_
  iterate 3 refine p1 ?_
  refine ar_nil ?_
  refine ag_ret tOk Try.func41 rfl rfl (by simp) ?_
  rfl

theorem w_MailTells (m : MsgV) (hm : m.ok) (b : List UInt8) : Pur Try.prog 6 [msgA m, .r (.bs b)] (.r (.bool true)) := by
  have c1 := w_mPut m hm
  have c2 := w_rPutM m hm
  generalize putM m = o at c1 c2
  have c3 := w_mRead b
  have c4 := w_rGetM b
  generalize rdM b = r at c3 c4
  have c5 := w_rMsg m hm
  have c6 := w_mCheck m
  generalize msgE m = E at c5 c6
  generalize plM m = p at c5
  refine spec_of_go (N := 72) Try.func6 rfl (by decide) rfl rfl ?_
  refine z2 ?_
  refine ar_new tOk rfl rfl rfl trivial ?_
  refine p1 ?_
  refine z3 ?_
  refine p2 ?_
  refine ar_pur (c1) rfl rfl rfl rfl rfl rfl rfl ?_
  iterate 5 refine p1 ?_
  refine z3 ?_
  refine p2 ?_
  refine ar_pur (c2) rfl rfl rfl rfl rfl rfl rfl ?_
  iterate 5 refine p1 ?_
  refine ar_nil ?_
  refine ag_ent (ent_weak (g' := [(1, .r (.bs b)), (2, .ptr 0 0), (5, .r (.bs o.1)), (6, .r (.int .i64 o.2)), (7, .r (.bs o.1)), (8, .r (.int .i64 o.2))]) (h' := ⟨1, [(0, some (.mixed ((msgC (m)).map .r)))], false⟩) [0] rfl rfl rfl rfl ?_ ?_ rfl) ?_
  · exact ⟨⟨rfl, rfl⟩, ⟨rfl, rfl⟩, ⟨rfl, rfl⟩, ⟨rfl, rfl⟩, ⟨rfl, rfl⟩, ⟨rfl, rfl⟩, trivial⟩
  · exact ⟨⟨rfl, rfl, rfl⟩, trivial⟩
  refine z2 ?_
  refine p1 ?_
  refine ar_pur (c3) rfl rfl rfl rfl rfl rfl rfl ?_
  iterate 3 refine p1 ?_
  refine ar_new tOk rfl rfl rfl ?_ ?_
  · simp
  refine ar_store (h' := ⟨2, [(1, some (.mixed ((msgC (r.1)).map .r))), (1, some (.mixed ((msgC (msg0)).map .r))), (0, some (.mixed ((msgC (m)).map .r)))], false⟩) (c := True) tOk (by kernel_rfl) rfl rfl trivial ?_
  refine p1 ?_
  refine ar_nil ?_
  refine ag_ent (ent_weak (g' := [(1, .r (.bs b)), (2, .ptr 0 0), (5, .r (.bs o.1)), (6, .r (.int .i64 o.2)), (7, .r (.bs o.1)), (8, .r (.int .i64 o.2)), (9, .ptr 1 0), (10, .r (.int .i64 r.2))]) (h' := ⟨2, [(0, some (.mixed ((msgC (m)).map .r))), (1, some (.mixed ((msgC (r.1)).map .r)))], false⟩) [0, 1] rfl rfl rfl rfl ?_ ?_ rfl) ?_
  · exact ⟨⟨rfl, rfl⟩, ⟨rfl, rfl⟩, ⟨rfl, rfl⟩, ⟨rfl, rfl⟩, ⟨rfl, rfl⟩, ⟨rfl, rfl⟩, ⟨rfl, rfl⟩, ⟨rfl, rfl⟩, trivial⟩
  · exact ⟨⟨rfl, rfl, rfl⟩, ⟨rfl, rfl, rfl⟩, trivial⟩
  refine z2 ?_
  refine p1 ?_
  refine ar_pur (c4) rfl rfl rfl rfl rfl rfl rfl ?_
  iterate 3 refine p1 ?_
  refine ar_new tOk rfl rfl rfl ?_ ?_
  · simp
  refine ar_store (h' := ⟨3, [(2, some (.mixed ((msgC (r.1)).map .r))), (2, some (.mixed ((msgC (msg0)).map .r))), (0, some (.mixed ((msgC (m)).map .r))), (1, some (.mixed ((msgC (r.1)).map .r)))], false⟩) (c := True) tOk (by kernel_rfl) rfl rfl trivial ?_
  refine p1 ?_
  refine ar_nil ?_
  refine ag_ent (ent_weak (g' := [(2, .ptr 0 0), (5, .r (.bs o.1)), (6, .r (.int .i64 o.2)), (7, .r (.bs o.1)), (8, .r (.int .i64 o.2)), (9, .ptr 1 0), (10, .r (.int .i64 r.2)), (11, .ptr 2 0), (12, .r (.int .i64 r.2))]) (h' := ⟨3, [(0, some (.mixed ((msgC (m)).map .r))), (1, some (.mixed ((msgC (r.1)).map .r))), (2, some (.mixed ((msgC (r.1)).map .r)))], false⟩) [0, 1, 2] rfl rfl rfl rfl ?_ ?_ rfl) ?_
  · exact ⟨⟨rfl, rfl⟩, ⟨rfl, rfl⟩, ⟨rfl, rfl⟩, ⟨rfl, rfl⟩, ⟨rfl, rfl⟩, ⟨rfl, rfl⟩, ⟨rfl, rfl⟩, ⟨rfl, rfl⟩, ⟨rfl, rfl⟩, trivial⟩
  · exact ⟨⟨rfl, rfl, rfl⟩, ⟨rfl, rfl, rfl⟩, ⟨rfl, rfl, rfl⟩, trivial⟩
  refine z2 ?_
  refine p2 ?_
  refine ar_pur (c5) rfl rfl rfl rfl rfl rfl rfl ?_
  iterate 3 refine p1 ?_
  refine ar_new tOk rfl rfl rfl ?_ ?_
  · simp
  refine ar_store (h' := ⟨4, [(3, some (.mixed ((msgC (p)).map .r))), (3, some (.mixed ((msgC (msg0)).map .r))), (0, some (.mixed ((msgC (m)).map .r))), (1, some (.mixed ((msgC (r.1)).map .r))), (2, some (.mixed ((msgC (r.1)).map .r)))], false⟩) (c := True) tOk (by kernel_rfl) rfl rfl trivial ?_
  refine p1 ?_
  refine ar_nil ?_
  refine ag_ent (ent_weak (g' := [(2, .ptr 0 0), (5, .r (.bs o.1)), (6, .r (.int .i64 o.2)), (7, .r (.bs o.1)), (8, .r (.int .i64 o.2)), (9, .ptr 1 0), (10, .r (.int .i64 r.2)), (11, .ptr 2 0), (12, .r (.int .i64 r.2)), (14, .r (.int .i64 E))]) (h' := ⟨3, [(0, some (.mixed ((msgC (m)).map .r))), (1, some (.mixed ((msgC (r.1)).map .r))), (2, some (.mixed ((msgC (r.1)).map .r)))], false⟩) [0, 1, 2] rfl rfl rfl rfl ?_ ?_ rfl) ?_
  · exact ⟨⟨rfl, rfl⟩, ⟨rfl, rfl⟩, ⟨rfl, rfl⟩, ⟨rfl, rfl⟩, ⟨rfl, rfl⟩, ⟨rfl, rfl⟩, ⟨rfl, rfl⟩, ⟨rfl, rfl⟩, ⟨rfl, rfl⟩, ⟨rfl, rfl⟩, trivial⟩
  · exact ⟨⟨rfl, rfl, rfl⟩, ⟨rfl, rfl, rfl⟩, ⟨rfl, rfl, rfl⟩, trivial⟩
  refine z2 ?_
  refine p2 ?_
  refine ar_pur (c6) rfl rfl rfl rfl rfl rfl rfl ?_
  refine ar_pur (w_num10 _) rfl rfl rfl rfl rfl rfl rfl ?_
  iterate 3 refine p1 ?_
  refine ar_pure tOk rfl rfl (by simp) trivial ?_
  refine ar_pur (w_num10 _) rfl rfl rfl rfl rfl rfl (by simp) ?_
  iterate 2 refine ar_pure tOk rfl rfl (by simp) trivial ?_
  iterate 2 refine p1 ?_
  iterate 5 refine ar_pure tOk rfl rfl (by simp) trivial ?_
  iterate 2 refine p1 ?_
  iterate 2 refine ar_load tOk rfl rfl (by simp) trivial ?_
  refine ar_pure tOk rfl rfl (by simp) trivial ?_
  iterate 2 refine p1 ?_
  refine ar_pure tOk rfl rfl (by simp) trivial ?_
  refine ar_pur (w_num10 _) rfl rfl rfl rfl rfl rfl (by simp) ?_
  iterate 2 refine ar_pure tOk rfl rfl (by simp) trivial ?_
  iterate 2 refine p1 ?_
  refine ar_pur (w_alive10) rfl rfl rfl rfl rfl rfl (by simp) ?_
  iterate 2 refine p1 ?_
  refine ar_nil ?_
  refine ag_ret tOk Try.func6 rfl rfl (by simp) ?_
  exact eqB (by simp)

end Go.Proofs.Ytppniggpdepabaa

/-
  WALKS: the laws MailBack, MailCuts. (Printed by gen.py out of w_lmail2.py.)
-/
import Derived.Test.YtppniggpdepabaaLMail
import Derived.Test.YtppniggpdepabaaMailP
namespace Go.Proofs.Ytppniggpdepabaa
open Go
set_option maxRecDepth 20000
set_option linter.unusedVariables false
set_option linter.unusedSimpArgs false

theorem putM_no {m : MsgV} (h : ¬ (putM m).2 = 0) : (putM m).1 = [] := by
  by_cases p : msgE m = 0
  · rw [putM_0 p, pMs_ok p] at h; exact absurd rfl h
  · rw [putM_N p]

theorem w_MailBack (m : MsgV) (hm : m.ok) (b : List UInt8) : Pur Try.prog 7 [msgA m, .r (.bs b)] (.r (.bool true)) := by
  have c1 := w_mPut m hm
  have c2 := w_mRead (putM m).1
  have f1 : (putM m).2 = 0 → rdM (putM m).1 = (plM m, 0) := fun h => rdm_fwd hm h
  have f0 : ¬ (putM m).2 = 0 → (putM m).1 = [] := putM_no
  have c3 := w_rMsg m hm
  have c4 := w_mRead b
  have f2 : (rdM b).2 ≠ 0 → (rdM b).1 = msg0 := fun h => rdm_err h
  have f3 : (rdM b).2 = 0 → (rdM b).1.ok ∧ putM (rdM b).1 = (b, 0) := fun h => rdm_put h
  have c5 : (rdM b).1.ok → _ := fun h => w_mPut (rdM b).1 h
  generalize rdM (putM m).1 = r at c2 f1
  generalize putM m = o at c1 c2 f1 f0
  generalize plM m = p at c3 f1
  generalize msgE m = E at c3
  generalize putM (rdM b).1 = y at f3 c5
  generalize rdM b = z at c4 f2 f3 c5
  refine spec_of_go (N := 68) Try.func7 rfl (by decide) rfl rfl ?_
  refine z2 ?_
  refine ar_new tOk rfl rfl rfl trivial ?_
  refine p1 ?_
  refine z1 ?_
  refine z2 ?_
  refine ar_pur (w_alive10) rfl rfl rfl rfl rfl rfl rfl ?_
  refine p1 ?_
  refine ar_nil ?_
  refine ag_false rfl (rfl) ?_
  refine ag_skip ?_
  refine z2 ?_
  refine p2 ?_
  refine ar_pur (c1) rfl rfl rfl rfl rfl rfl rfl ?_
  iterate 5 refine p1 ?_
  refine ar_nil ?_
  refine ag_ent (ent_weak (g' := [(1, .r (.bs b)), (2, .ptr 0 0), (5, .r (.bs o.1)), (6, .r (.int .i64 o.2))]) (h' := ⟨1, [(0, some (.mixed ((msgC (m)).map .r)))], false⟩) [0] rfl rfl rfl rfl ?_ ?_ rfl) ?_
  · exact ⟨⟨rfl, rfl⟩, ⟨rfl, rfl⟩, ⟨rfl, rfl⟩, ⟨rfl, rfl⟩, trivial⟩
  · exact ⟨⟨rfl, rfl, rfl⟩, trivial⟩
  refine ag_seq ?_
  refine z2 ?_
  iterate 2 refine p1 ?_
  refine ar_nil ?_
  refine ag_if rfl ?_ ?_
  · intro h23
    obtain rfl := f1 h23
    refine z2 ?_
    refine p1 ?_
    refine ar_pur (c2) rfl rfl rfl rfl rfl rfl rfl ?_
    iterate 3 refine p1 ?_
    refine ar_new tOk rfl rfl rfl ?_ ?_
    · simp
    refine ar_store (h' := ⟨2, [(1, some (.mixed ((msgC (p)).map .r))), (1, some (.mixed ((msgC (msg0)).map .r))), (0, some (.mixed ((msgC (m)).map .r)))], false⟩) (c := True) tOk (by kernel_rfl) rfl rfl trivial ?_
    refine p1 ?_
    refine ar_nil ?_
    refine ag_ent (ent_weak (g' := [(1, .r (.bs b)), (2, .ptr 0 0), (7, .ptr 1 0), (8, .r (.int .i64 0))]) (h' := ⟨2, [(0, some (.mixed ((msgC (m)).map .r))), (1, some (.mixed ((msgC (p)).map .r)))], false⟩) [0, 1] rfl rfl rfl rfl ?_ ?_ rfl) ?_
    · exact ⟨⟨rfl, rfl⟩, ⟨rfl, rfl⟩, ⟨rfl, rfl⟩, ⟨rfl, rfl⟩, trivial⟩
    · exact ⟨⟨rfl, rfl, rfl⟩, ⟨rfl, rfl, rfl⟩, trivial⟩
    refine z2 ?_
    refine p2 ?_
    refine ar_pur (c3) rfl rfl rfl rfl rfl rfl rfl ?_
    iterate 3 refine p1 ?_
    refine ar_new tOk rfl rfl rfl ?_ ?_
    · simp
    refine ar_store (h' := ⟨3, [(2, some (.mixed ((msgC (p)).map .r))), (2, some (.mixed ((msgC (msg0)).map .r))), (0, some (.mixed ((msgC (m)).map .r))), (1, some (.mixed ((msgC (p)).map .r)))], false⟩) (c := True) tOk (by kernel_rfl) rfl rfl trivial ?_
    refine p1 ?_
    refine ar_nil ?_
    refine ag_ent (ent_weak (g' := [(1, .r (.bs b)), (2, .ptr 0 0), (7, .ptr 1 0), (8, .r (.int .i64 0)), (9, .ptr 2 0)]) (h' := ⟨3, [(0, some (.mixed ((msgC (m)).map .r))), (1, some (.mixed ((msgC (p)).map .r))), (2, some (.mixed ((msgC (p)).map .r)))], false⟩) [0, 1, 2] rfl rfl rfl rfl ?_ ?_ rfl) ?_
    · exact ⟨⟨rfl, rfl⟩, ⟨rfl, rfl⟩, ⟨rfl, rfl⟩, ⟨rfl, rfl⟩, ⟨rfl, rfl⟩, trivial⟩
    · exact ⟨⟨rfl, rfl, rfl⟩, ⟨rfl, rfl, rfl⟩, ⟨rfl, rfl, rfl⟩, trivial⟩
    refine z2 ?_
    iterate 3 refine p1 ?_
    iterate 2 refine ar_load tOk rfl rfl (by simp) trivial ?_
    refine ar_pure tOk rfl rfl (by simp) trivial ?_
    refine p1 ?_
    refine ar_nil ?_
    refine ag_false rfl (by simp) ?_
    refine ag_skip ?_
    refine ag_seq ?_
    refine ag_ent (ent_weak (g' := [(1, .r (.bs b)), (2, .ptr 0 0)]) (h' := ⟨1, [(0, some (.mixed ((msgC (m)).map .r)))], false⟩) [0] rfl rfl rfl rfl ?_ ?_ rfl) ?_
    · exact ⟨⟨rfl, rfl⟩, ⟨rfl, rfl⟩, trivial⟩
    · exact ⟨⟨rfl, rfl, rfl⟩, trivial⟩
    refine ag_reg ?_
    refine p1 ?_
    refine ar_pur (c4) rfl rfl rfl rfl rfl rfl rfl ?_
    iterate 3 refine p1 ?_
    refine ar_new tOk rfl rfl rfl ?_ ?_
    · simp
    refine ar_store (h' := ⟨2, [(1, some (.mixed ((msgC (z.1)).map .r))), (1, some (.mixed ((msgC (msg0)).map .r))), (0, some (.mixed ((msgC (m)).map .r)))], false⟩) (c := True) tOk (by kernel_rfl) rfl rfl trivial ?_
    refine p1 ?_
    refine ar_nil ?_
    refine ag_ent (ent_weak (g' := [(1, .r (.bs b)), (2, .ptr 0 0), (11, .ptr 1 0), (12, .r (.int .i64 z.2))]) (h' := ⟨2, [(0, some (.mixed ((msgC (m)).map .r))), (1, some (.mixed ((msgC (z.1)).map .r)))], false⟩) [0, 1] rfl rfl rfl rfl ?_ ?_ rfl) ?_
    · exact ⟨⟨rfl, rfl⟩, ⟨rfl, rfl⟩, ⟨rfl, rfl⟩, ⟨rfl, rfl⟩, trivial⟩
    · exact ⟨⟨rfl, rfl, rfl⟩, ⟨rfl, rfl, rfl⟩, trivial⟩
    refine ag_seq ?_
    refine z2 ?_
    iterate 2 refine p1 ?_
    refine ar_nil ?_
    refine ag_if rfl ?_ ?_
    · intro h50
      have e1 := f2 h50
      obtain ⟨za, zb⟩ := z
      simp only at e1
      subst e1
      refine z2 ?_
      refine p2 ?_
      refine ar_pure (d := 52) (v := msgA msg0) (c := msgC msg0 ≠ []) tOk (by kernel_rfl) rfl rfl (by simp [msgC]) ?_
      iterate 2 refine p1 ?_
      refine ar_nil ?_
      refine ag_ret tOk Try.func7 rfl rfl (by simp) ?_
      exact eqB (by simp [msg0, ask0, bid0, inv0, var0])
    · intro h50
      obtain ⟨za, zb⟩ := f3 (by omega)
      obtain rfl := zb
      refine ag_skip ?_
      refine z2 ?_
      refine p2 ?_
      refine ar_pur (c5 za) rfl rfl rfl rfl rfl rfl rfl ?_
      iterate 5 refine p1 ?_
      refine z3 ?_
      iterate 3 refine p1 ?_
      iterate 5 refine ar_pure tOk rfl rfl (by simp) trivial ?_
      iterate 2 refine p1 ?_
      refine ar_nil ?_
      refine ag_ret tOk Try.func7 rfl rfl (by simp) ?_
      exact eqB (by simp [msg0, ask0, bid0, inv0, var0])
  · intro h23
    have e0 := f0 h23
    refine z2 ?_
    iterate 3 refine p1 ?_
    refine ar_nil ?_
    refine ag_false rfl (by simp [e0]) ?_
    refine ag_skip ?_
    refine ag_seq ?_
    refine ag_ent (ent_weak (g' := [(1, .r (.bs b)), (2, .ptr 0 0)]) (h' := ⟨1, [(0, some (.mixed ((msgC (m)).map .r)))], false⟩) [0] rfl rfl rfl rfl ?_ ?_ rfl) ?_
    · exact ⟨⟨rfl, rfl⟩, ⟨rfl, rfl⟩, trivial⟩
    · exact ⟨⟨rfl, rfl, rfl⟩, trivial⟩
    refine ag_reg ?_
    refine p1 ?_
    refine ar_pur (c4) rfl rfl rfl rfl rfl rfl rfl ?_
    iterate 3 refine p1 ?_
    refine ar_new tOk rfl rfl rfl ?_ ?_
    · simp
    refine ar_store (h' := ⟨2, [(1, some (.mixed ((msgC (z.1)).map .r))), (1, some (.mixed ((msgC (msg0)).map .r))), (0, some (.mixed ((msgC (m)).map .r)))], false⟩) (c := True) tOk (by kernel_rfl) rfl rfl trivial ?_
    refine p1 ?_
    refine ar_nil ?_
    refine ag_ent (ent_weak (g' := [(1, .r (.bs b)), (2, .ptr 0 0), (11, .ptr 1 0), (12, .r (.int .i64 z.2))]) (h' := ⟨2, [(0, some (.mixed ((msgC (m)).map .r))), (1, some (.mixed ((msgC (z.1)).map .r)))], false⟩) [0, 1] rfl rfl rfl rfl ?_ ?_ rfl) ?_
    · exact ⟨⟨rfl, rfl⟩, ⟨rfl, rfl⟩, ⟨rfl, rfl⟩, ⟨rfl, rfl⟩, trivial⟩
    · exact ⟨⟨rfl, rfl, rfl⟩, ⟨rfl, rfl, rfl⟩, trivial⟩
    refine ag_seq ?_
    refine z2 ?_
    iterate 2 refine p1 ?_
    refine ar_nil ?_
    refine ag_if rfl ?_ ?_
    · intro h50
      have e1 := f2 h50
      obtain ⟨za, zb⟩ := z
      simp only at e1
      subst e1
      refine z2 ?_
      refine p2 ?_
      refine ar_pure (d := 52) (v := msgA msg0) (c := msgC msg0 ≠ []) tOk (by kernel_rfl) rfl rfl (by simp [msgC]) ?_
      iterate 2 refine p1 ?_
      refine ar_nil ?_
      refine ag_ret tOk Try.func7 rfl rfl (by simp) ?_
      exact eqB (by simp [msg0, ask0, bid0, inv0, var0])
    · intro h50
      obtain ⟨za, zb⟩ := f3 (by omega)
      obtain rfl := zb
      refine ag_skip ?_
      refine z2 ?_
      refine p2 ?_
      refine ar_pur (c5 za) rfl rfl rfl rfl rfl rfl rfl ?_
      iterate 5 refine p1 ?_
      refine z3 ?_
      iterate 3 refine p1 ?_
      iterate 5 refine ar_pure tOk rfl rfl (by simp) trivial ?_
      iterate 2 refine p1 ?_
      refine ar_nil ?_
      refine ag_ret tOk Try.func7 rfl rfl (by simp) ?_
      exact eqB (by simp [msg0, ask0, bid0, inv0, var0])

end Go.Proofs.Ytppniggpdepabaa

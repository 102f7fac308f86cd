/-
  WALKS: the law ScanOnce. (Printed by gen.py out of w_lscan.py.)
-/
import Derived.Test.YtancdgbclbkpkaaScan
namespace Go.Proofs.Ytancdgbclbkpkaa
open Go
set_option maxRecDepth 20000
set_option linter.unusedVariables false
set_option linter.unusedSimpArgs false
def i14 : InvV := ⟨0, [49, 50, 51, 52, 53, 54, 55, 56], 2, 0, 0, 0, [120]⟩
def t14 : TxV := ⟨0, 0, 4, 0, 0, 0, 0, 0, i14, var0, 0, 0, 0, 0, []⟩
theorem find_ev {L : List EvV} {key : List UInt8} {kind : Int} {e : EvV} (h : fstV L key kind = some e) : key ≠ [] ∧ e.c = 0 ∧ e.x.k = kind ∧ keyL e.x.inv = key := isV_key (List.find?_some h)
theorem find_mem {L : List EvV} {key : List UInt8} {kind : Int} {e : EvV} (h : fstV L key kind = some e) : e ∈ L := List.mem_of_find?_eq_some h
theorem w_alive14  : Pur Try.prog 9 [] (.r (.bool true)) := by
  have hk := w_dKey i14 ⟨by decide, by decide⟩
  have hl : (keyL i14).length = 32 := keyL_len (by decide)
  have hf : fstV [⟨0, 0, t14⟩] (keyL i14) 4 = some ⟨0, 0, t14⟩ := by
    have hne : keyL i14 ≠ [] := by intro q; rw [q] at hl; cases hl
    have hp : isV (keyL i14) 4 ⟨0, 0, t14⟩ = true := decide_eq_true ⟨hne, rfl, rfl, rfl⟩
    rw [fstV, List.find?_cons, hp]
  have hP := w_Prepared [⟨0, 0, t14⟩] (by intro e he; simp at he; subst he; exact ⟨⟨by decide, by decide⟩, ⟨by decide, by decide⟩, ⟨by decide, by decide⟩, ⟨by decide, by decide⟩, ⟨by decide, by decide⟩, ⟨⟨by decide, by decide⟩, ⟨by decide, by decide⟩, ⟨by decide, by decide⟩, ⟨by decide, by decide⟩⟩, ⟨by decide, by decide⟩, ⟨by decide, by decide⟩, ⟨by decide, by decide⟩, ⟨by decide, by decide⟩, by decide⟩) (by decide) (keyL i14)
  rw [hf] at hP
  clear hf hl
  generalize keyL i14 = K at hk hP
  have hP2 : Pur Try.prog 10 [.r (.ro 1 (evC ⟨0, 0, t14⟩)), .r (.str K)] (.tuple [txA t14, .r (.bool true)]) := hP
  clear hP
  have hLs0 : Pur Try.prog 15 [.r (.ro 0 [])] (.r (.int .i64 (-1))) := w_Last [] (by decide)
  have hLs : Pur Try.prog 15 [.r .nil] (.r (.int .i64 (-1))) := Spec.nils hLs0 (by exact ⟨trivial, trivial⟩)
  refine spec_of_go (N := 26) Try.func9 rfl (by decide) rfl rfl ?_
  refine zB ?_
  refine pA ?_
  refine zC ?_
  refine ar_pure tOk rfl rfl rfl ?_ ?_
  · simp
  refine ar_new tOk rfl rfl rfl ?_ ?_
  · simp
  refine ar_store tOk rfl rfl rfl trivial ?_
  refine ar_nil ?_
  refine ag_ent (ent_weak (g' := [(1, .ptr 0 0)]) (h' := ⟨1, [(0, some (.mixed ((invC i14).map .r)))], false⟩) [0] rfl rfl rfl rfl ?_ ?_ rfl) ?_
  · exact ⟨⟨rfl, rfl⟩, trivial⟩
  · exact ⟨⟨rfl, rfl, rfl⟩, trivial⟩
  refine ag_seq ?_
  apply ag_draw2 (h1 := ⟨2, [(1, some (.mixed ((txC tx0).map .r))), (0, some (.mixed ((invC i14).map .r)))], false⟩) [2] (by kernel_rfl) (by kernel_rfl)
  refine aq_load1 tOk rfl (by kernel_rfl) rfl rfl rfl rfl trivial ⟨_, rfl, trivial⟩ ?_
  refine aq_pure tOk rfl rfl rfl ?_ ?_
  · simp
  refine aq_pure tOk rfl rfl rfl ?_ ?_
  · simp
  refine aq_qd (fun _ => qop_buildRoK tOk (v := .ro 1 (evC ⟨0, 0, t14⟩)) (by kernel_rfl) (by kernel_rfl)) rfl rfl rfl rfl ?_
  refine aq_load1 tOk rfl (by kernel_rfl) rfl rfl rfl rfl trivial ⟨_, rfl, trivial⟩ ?_
  refine aq_pur (hk) rfl rfl rfl rfl rfl rfl rfl ?_
  refine aq_pur (hP2) rfl rfl rfl rfl rfl rfl rfl ?_
  iterate 3 refine aq_pure tOk rfl rfl rfl trivial ?_
  refine' aq_new20 tOk rfl rfl rfl rfl rfl ?_ ?_
  rotate_left 1
  · simp
  refine aq_store21 tOk rfl rfl rfl rfl trivial ?_
  refine aq_pure tOk rfl rfl rfl trivial ?_
  refine aq_nil rfl ?_
  refine zB ?_
  iterate 2 refine pA ?_
  refine ar_ent (ent_reg 16 (.r (.bool true)) (by show AVal.r (.bool _) = _; exact eqB (by rfl))) ?_
  refine pA ?_
  iterate 2 refine pB ?_
  iterate 3 refine pA ?_
  refine ar_ent (ent_reg 22 (.r (.bool true)) (by show AVal.r (.bool _) = _; exact eqB (by decide))) ?_
  refine ar_pur (hLs) rfl rfl rfl rfl rfl rfl rfl ?_
  iterate 3 refine pA ?_
  refine ar_nil ?_
  refine ag_ret tOk Try.func9 rfl rfl (by simp) ?_
  exact eqB (by decide)
theorem w_OnceYYY (L : List EvV) (key : List UInt8) (e1 : EvV) (he1 : e1.x.ok) (ke1 : key ≠ [] ∧ e1.c = 0 ∧ e1.x.k = 4 ∧ keyL e1.x.inv = key) (c4 : Pur Try.prog 10 [roE L, .r (.str key)] (.tuple [txA e1.x, .r (.bool true)])) (e2 : EvV) (he2 : e2.x.ok) (ke2 : key ≠ [] ∧ e2.c = 0 ∧ e2.x.k = 5 ∧ keyL e2.x.inv = key) (c5 : Pur Try.prog 11 [roE L, .r (.str key)] (.tuple [eventA e2, .r (.bool true)])) (e3 : EvV) (he3 : e3.x.ok) (ke3 : key ≠ [] ∧ e3.c = 0 ∧ e3.x.k = 6 ∧ keyL e3.x.inv = key) (c6 : Pur Try.prog 12 [roE L, .r (.str key)] (.tuple [eventA e3, .r (.bool true)])) : Pur Try.prog 3 [roE L, .r (.str key)] (.r (.bool true)) := by
  refine spec_of_go (N := 126) Try.func3 rfl (by decide) rfl rfl ?_
  refine zB ?_
  refine pA ?_
  refine zA ?_
  refine zB ?_
  refine ar_pur (w_alive14) rfl rfl rfl rfl rfl rfl rfl ?_
  refine pA ?_
  refine ar_nil ?_
  refine ag_false rfl (rfl) ?_
  refine ag_skip ?_
  refine zB ?_
  iterate 2 refine pA ?_
  refine ar_pur (c4) rfl rfl rfl rfl rfl rfl rfl ?_
  iterate 3 refine pA ?_
  refine ar_new tOk rfl rfl rfl ?_ ?_
  · simp
  refine ar_store (h' := ⟨1, [(0, some (.mixed ((txC e1.x).map .r))), (0, some (.mixed ((txC tx0).map .r)))], false⟩) (c := True) tOk (by kernel_rfl) rfl rfl trivial ?_
  refine pA ?_
  refine ar_nil ?_
  refine ag_ent (ent_weak (g' := [(0, roE L), (1, .r (.str key)), (5, .ptr 0 0), (6, .r (.bool true))]) (h' := ⟨1, [(0, some (.mixed ((txC e1.x).map .r)))], false⟩) [0] rfl rfl rfl rfl ?_ ?_ rfl) ?_
  · exact ⟨⟨rfl, rfl⟩, ⟨rfl, rfl⟩, ⟨rfl, rfl⟩, ⟨rfl, rfl⟩, trivial⟩
  · exact ⟨⟨rfl, rfl, rfl⟩, trivial⟩
  refine zB ?_
  iterate 2 refine pA ?_
  refine ar_pur (c5) rfl rfl rfl rfl rfl rfl rfl ?_
  iterate 3 refine pA ?_
  refine ar_new tOk rfl rfl rfl ?_ ?_
  · simp
  refine ar_store (h' := ⟨2, [(1, some (.mixed ((evC e2).map .r))), (1, some (.mixed ((evC ev0).map .r))), (0, some (.mixed ((txC e1.x).map .r)))], false⟩) (c := True) tOk (by kernel_rfl) rfl rfl trivial ?_
  refine pA ?_
  refine ar_nil ?_
  refine ag_ent (ent_weak (g' := [(0, roE L), (1, .r (.str key)), (5, .ptr 0 0), (6, .r (.bool true)), (7, .ptr 1 0), (8, .r (.bool true))]) (h' := ⟨2, [(0, some (.mixed ((txC e1.x).map .r))), (1, some (.mixed ((evC e2).map .r)))], false⟩) [0, 1] rfl rfl rfl rfl ?_ ?_ rfl) ?_
  · exact ⟨⟨rfl, rfl⟩, ⟨rfl, rfl⟩, ⟨rfl, rfl⟩, ⟨rfl, rfl⟩, ⟨rfl, rfl⟩, ⟨rfl, rfl⟩, trivial⟩
  · exact ⟨⟨rfl, rfl, rfl⟩, ⟨rfl, rfl, rfl⟩, trivial⟩
  refine zB ?_
  iterate 2 refine pA ?_
  refine ar_pur (c6) rfl rfl rfl rfl rfl rfl rfl ?_
  iterate 3 refine pA ?_
  refine ar_new tOk rfl rfl rfl ?_ ?_
  · simp
  refine ar_store (h' := ⟨3, [(2, some (.mixed ((evC e3).map .r))), (2, some (.mixed ((evC ev0).map .r))), (0, some (.mixed ((txC e1.x).map .r))), (1, some (.mixed ((evC e2).map .r)))], false⟩) (c := True) tOk (by kernel_rfl) rfl rfl trivial ?_
  refine pA ?_
  refine ar_nil ?_
  refine ag_ent (ent_weak (g' := [(1, .r (.str key)), (5, .ptr 0 0), (6, .r (.bool true)), (7, .ptr 1 0), (8, .r (.bool true)), (9, .ptr 2 0), (10, .r (.bool true))]) (h' := ⟨3, [(0, some (.mixed ((txC e1.x).map .r))), (1, some (.mixed ((evC e2).map .r))), (2, some (.mixed ((evC e3).map .r)))], false⟩) [0, 1, 2] rfl rfl rfl rfl ?_ ?_ rfl) ?_
  · exact ⟨⟨rfl, rfl⟩, ⟨rfl, rfl⟩, ⟨rfl, rfl⟩, ⟨rfl, rfl⟩, ⟨rfl, rfl⟩, ⟨rfl, rfl⟩, ⟨rfl, rfl⟩, trivial⟩
  · exact ⟨⟨rfl, rfl, rfl⟩, ⟨rfl, rfl, rfl⟩, ⟨rfl, rfl, rfl⟩, trivial⟩
  refine ag_seq ?_
  refine zB ?_
  iterate 2 refine pA ?_
  refine ar_ent (ent_reg 32 (.r (.bool true)) (by show AVal.r (.bool _) = _; exact eqB (by rfl))) ?_
  refine pA ?_
  refine pB ?_
  refine ar_pur (w_dKey e1.x.inv he1.inv) rfl rfl rfl rfl rfl rfl rfl ?_
  iterate 3 refine pA ?_
  refine ar_ent (ent_reg 38 (.r (.bool false)) (by show AVal.r (.bool _) = _; exact eqB (by simp [ke1.2.2.2]))) ?_
  refine pA ?_
  refine pB ?_
  iterate 4 refine pA ?_
  refine ar_ent (ent_reg 44 (.r (.bool false)) (by show AVal.r (.bool _) = _; exact eqB (by simp [ke1.2.2.1]))) ?_
  iterate 2 refine pA ?_
  refine ar_ent (ent_reg 46 (.r (.bool true)) (by show AVal.r (.bool _) = _; exact eqB (by rfl))) ?_
  iterate 2 refine pA ?_
  refine pB ?_
  refine ar_pur (w_dKey e2.x.inv he2.inv) rfl rfl rfl rfl rfl rfl rfl ?_
  iterate 3 refine pA ?_
  refine ar_ent (ent_reg 53 (.r (.bool false)) (by show AVal.r (.bool _) = _; exact eqB (by simp [ke2.2.2.2]))) ?_
  iterate 2 refine pA ?_
  refine pB ?_
  iterate 3 refine pA ?_
  refine ar_ent (ent_reg 59 (.r (.bool false)) (by show AVal.r (.bool _) = _; exact eqB (by simp [ke2.2.2.1]))) ?_
  refine pA ?_
  refine pB ?_
  iterate 5 refine pA ?_
  refine ar_ent (ent_reg 66 (.r (.bool false)) (by show AVal.r (.bool _) = _; exact eqB (by simp [ke2.2.1]))) ?_
  iterate 2 refine pA ?_
  refine ar_ent (ent_reg 68 (.r (.bool true)) (by show AVal.r (.bool _) = _; exact eqB (by rfl))) ?_
  iterate 2 refine pA ?_
  refine pB ?_
  refine ar_pur (w_dKey e3.x.inv he3.inv) rfl rfl rfl rfl rfl rfl rfl ?_
  iterate 3 refine pA ?_
  refine ar_ent (ent_reg 75 (.r (.bool false)) (by show AVal.r (.bool _) = _; exact eqB (by simp [ke3.2.2.2]))) ?_
  iterate 2 refine pA ?_
  refine pB ?_
  iterate 3 refine pA ?_
  refine ar_ent (ent_reg 81 (.r (.bool false)) (by show AVal.r (.bool _) = _; exact eqB (by simp [ke3.2.2.1]))) ?_
  refine pA ?_
  refine pB ?_
  iterate 4 refine pA ?_
  refine ar_nil ?_
  refine ag_false rfl (by simp [ke3.2.1]) ?_
  refine ag_skip ?_
  refine zB ?_
  iterate 2 refine pA ?_
  refine ar_ent (ent_reg 89 (.r (.bool true)) (by show AVal.r (.bool _) = _; exact eqB (by rfl))) ?_
  iterate 3 refine ar_skip rfl rfl rfl ?_
  iterate 2 refine pA ?_
  refine ar_ent (ent_reg 94 (.r (.bool true)) (by show AVal.r (.bool _) = _; exact eqB (by rfl))) ?_
  iterate 2 refine pA ?_
  refine ar_ent (ent_reg 96 (.r (.bool true)) (by show AVal.r (.bool _) = _; exact eqB (by rfl))) ?_
  iterate 3 refine ar_skip rfl rfl rfl ?_
  iterate 3 refine pA ?_
  refine ar_ent (ent_reg 102 (.r (.bool true)) (by show AVal.r (.bool _) = _; exact eqB (by rfl))) ?_
  iterate 2 refine pA ?_
  refine ar_ent (ent_reg 104 (.r (.bool true)) (by show AVal.r (.bool _) = _; exact eqB (by rfl))) ?_
  iterate 3 refine ar_skip rfl rfl rfl ?_
  iterate 3 refine pA ?_
  refine ar_ent (ent_reg 110 (.r (.bool true)) (by show AVal.r (.bool _) = _; exact eqB (by rfl))) ?_
  iterate 3 refine pA ?_
  refine ar_ent (ent_reg 113 (.r (.bool true)) (by show AVal.r (.bool _) = _; exact eqB (by simp [ke1.1]))) ?_
  iterate 10 refine ar_skip rfl rfl rfl ?_
  iterate 3 refine pA ?_
  refine ar_nil ?_
  refine ag_ret tOk Try.func3 rfl rfl (by simp) ?_
  exact eqB (by simp)
theorem w_OnceYYN (L : List EvV) (key : List UInt8) (e1 : EvV) (he1 : e1.x.ok) (ke1 : key ≠ [] ∧ e1.c = 0 ∧ e1.x.k = 4 ∧ keyL e1.x.inv = key) (c4 : Pur Try.prog 10 [roE L, .r (.str key)] (.tuple [txA e1.x, .r (.bool true)])) (e2 : EvV) (he2 : e2.x.ok) (ke2 : key ≠ [] ∧ e2.c = 0 ∧ e2.x.k = 5 ∧ keyL e2.x.inv = key) (c5 : Pur Try.prog 11 [roE L, .r (.str key)] (.tuple [eventA e2, .r (.bool true)])) (c6 : Pur Try.prog 12 [roE L, .r (.str key)] (.tuple [eventA ev0, .r (.bool false)])) : Pur Try.prog 3 [roE L, .r (.str key)] (.r (.bool true)) := by
  refine spec_of_go (N := 126) Try.func3 rfl (by decide) rfl rfl ?_
  refine zB ?_
  refine pA ?_
  refine zA ?_
  refine zB ?_
  refine ar_pur (w_alive14) rfl rfl rfl rfl rfl rfl rfl ?_
  refine pA ?_
  refine ar_nil ?_
  refine ag_false rfl (rfl) ?_
  refine ag_skip ?_
  refine zB ?_
  iterate 2 refine pA ?_
  refine ar_pur (c4) rfl rfl rfl rfl rfl rfl rfl ?_
  iterate 3 refine pA ?_
  refine ar_new tOk rfl rfl rfl ?_ ?_
  · simp
  refine ar_store (h' := ⟨1, [(0, some (.mixed ((txC e1.x).map .r))), (0, some (.mixed ((txC tx0).map .r)))], false⟩) (c := True) tOk (by kernel_rfl) rfl rfl trivial ?_
  refine pA ?_
  refine ar_nil ?_
  refine ag_ent (ent_weak (g' := [(0, roE L), (1, .r (.str key)), (5, .ptr 0 0), (6, .r (.bool true))]) (h' := ⟨1, [(0, some (.mixed ((txC e1.x).map .r)))], false⟩) [0] rfl rfl rfl rfl ?_ ?_ rfl) ?_
  · exact ⟨⟨rfl, rfl⟩, ⟨rfl, rfl⟩, ⟨rfl, rfl⟩, ⟨rfl, rfl⟩, trivial⟩
  · exact ⟨⟨rfl, rfl, rfl⟩, trivial⟩
  refine zB ?_
  iterate 2 refine pA ?_
  refine ar_pur (c5) rfl rfl rfl rfl rfl rfl rfl ?_
  iterate 3 refine pA ?_
  refine ar_new tOk rfl rfl rfl ?_ ?_
  · simp
  refine ar_store (h' := ⟨2, [(1, some (.mixed ((evC e2).map .r))), (1, some (.mixed ((evC ev0).map .r))), (0, some (.mixed ((txC e1.x).map .r)))], false⟩) (c := True) tOk (by kernel_rfl) rfl rfl trivial ?_
  refine pA ?_
  refine ar_nil ?_
  refine ag_ent (ent_weak (g' := [(0, roE L), (1, .r (.str key)), (5, .ptr 0 0), (6, .r (.bool true)), (7, .ptr 1 0), (8, .r (.bool true))]) (h' := ⟨2, [(0, some (.mixed ((txC e1.x).map .r))), (1, some (.mixed ((evC e2).map .r)))], false⟩) [0, 1] rfl rfl rfl rfl ?_ ?_ rfl) ?_
  · exact ⟨⟨rfl, rfl⟩, ⟨rfl, rfl⟩, ⟨rfl, rfl⟩, ⟨rfl, rfl⟩, ⟨rfl, rfl⟩, ⟨rfl, rfl⟩, trivial⟩
  · exact ⟨⟨rfl, rfl, rfl⟩, ⟨rfl, rfl, rfl⟩, trivial⟩
  refine zB ?_
  iterate 2 refine pA ?_
  refine ar_pur (c6) rfl rfl rfl rfl rfl rfl rfl ?_
  iterate 3 refine pA ?_
  refine ar_new tOk rfl rfl rfl ?_ ?_
  · simp
  refine ar_store (h' := ⟨3, [(2, some (.mixed ((evC ev0).map .r))), (2, some (.mixed ((evC ev0).map .r))), (0, some (.mixed ((txC e1.x).map .r))), (1, some (.mixed ((evC e2).map .r)))], false⟩) (c := True) tOk (by kernel_rfl) rfl rfl trivial ?_
  refine pA ?_
  refine ar_nil ?_
  refine ag_ent (ent_weak (g' := [(1, .r (.str key)), (5, .ptr 0 0), (6, .r (.bool true)), (7, .ptr 1 0), (8, .r (.bool true)), (9, .ptr 2 0), (10, .r (.bool false))]) (h' := ⟨3, [(0, some (.mixed ((txC e1.x).map .r))), (1, some (.mixed ((evC e2).map .r))), (2, some (.mixed ((evC ev0).map .r)))], false⟩) [0, 1, 2] rfl rfl rfl rfl ?_ ?_ rfl) ?_
  · exact ⟨⟨rfl, rfl⟩, ⟨rfl, rfl⟩, ⟨rfl, rfl⟩, ⟨rfl, rfl⟩, ⟨rfl, rfl⟩, ⟨rfl, rfl⟩, ⟨rfl, rfl⟩, trivial⟩
  · exact ⟨⟨rfl, rfl, rfl⟩, ⟨rfl, rfl, rfl⟩, ⟨rfl, rfl, rfl⟩, trivial⟩
  refine ag_seq ?_
  refine zB ?_
  iterate 2 refine pA ?_
  refine ar_ent (ent_reg 32 (.r (.bool true)) (by show AVal.r (.bool _) = _; exact eqB (by rfl))) ?_
  refine pA ?_
  refine pB ?_
  refine ar_pur (w_dKey e1.x.inv he1.inv) rfl rfl rfl rfl rfl rfl rfl ?_
  iterate 3 refine pA ?_
  refine ar_ent (ent_reg 38 (.r (.bool false)) (by show AVal.r (.bool _) = _; exact eqB (by simp [ke1.2.2.2]))) ?_
  refine pA ?_
  refine pB ?_
  iterate 4 refine pA ?_
  refine ar_ent (ent_reg 44 (.r (.bool false)) (by show AVal.r (.bool _) = _; exact eqB (by simp [ke1.2.2.1]))) ?_
  iterate 2 refine pA ?_
  refine ar_ent (ent_reg 46 (.r (.bool true)) (by show AVal.r (.bool _) = _; exact eqB (by rfl))) ?_
  iterate 2 refine pA ?_
  refine pB ?_
  refine ar_pur (w_dKey e2.x.inv he2.inv) rfl rfl rfl rfl rfl rfl rfl ?_
  iterate 3 refine pA ?_
  refine ar_ent (ent_reg 53 (.r (.bool false)) (by show AVal.r (.bool _) = _; exact eqB (by simp [ke2.2.2.2]))) ?_
  iterate 2 refine pA ?_
  refine pB ?_
  iterate 3 refine pA ?_
  refine ar_ent (ent_reg 59 (.r (.bool false)) (by show AVal.r (.bool _) = _; exact eqB (by simp [ke2.2.2.1]))) ?_
  refine pA ?_
  refine pB ?_
  iterate 5 refine pA ?_
  refine ar_ent (ent_reg 66 (.r (.bool false)) (by show AVal.r (.bool _) = _; exact eqB (by simp [ke2.2.1]))) ?_
  iterate 2 refine pA ?_
  refine ar_ent (ent_reg 68 (.r (.bool false)) (by show AVal.r (.bool _) = _; exact eqB (by rfl))) ?_
  iterate 17 refine ar_skip rfl rfl rfl ?_
  iterate 2 refine pA ?_
  refine ar_nil ?_
  refine ag_false rfl (by simp) ?_
  refine ag_skip ?_
  refine zB ?_
  iterate 2 refine pA ?_
  refine ar_ent (ent_reg 89 (.r (.bool true)) (by show AVal.r (.bool _) = _; exact eqB (by rfl))) ?_
  iterate 3 refine ar_skip rfl rfl rfl ?_
  iterate 2 refine pA ?_
  refine ar_ent (ent_reg 94 (.r (.bool true)) (by show AVal.r (.bool _) = _; exact eqB (by rfl))) ?_
  iterate 2 refine pA ?_
  refine ar_ent (ent_reg 96 (.r (.bool true)) (by show AVal.r (.bool _) = _; exact eqB (by rfl))) ?_
  iterate 3 refine ar_skip rfl rfl rfl ?_
  iterate 3 refine pA ?_
  refine ar_ent (ent_reg 102 (.r (.bool true)) (by show AVal.r (.bool _) = _; exact eqB (by rfl))) ?_
  iterate 2 refine pA ?_
  refine ar_ent (ent_reg 104 (.r (.bool false)) (by show AVal.r (.bool _) = _; exact eqB (by rfl))) ?_
  refine pB ?_
  refine ar_pure tOk rfl rfl rfl ?_ ?_
  · simp
  iterate 4 refine pA ?_
  refine ar_ent (ent_reg 110 (.r (.bool true)) (by show AVal.r (.bool _) = _; exact eqB (by decide))) ?_
  iterate 3 refine pA ?_
  refine ar_ent (ent_reg 113 (.r (.bool true)) (by show AVal.r (.bool _) = _; exact eqB (by simp [ke1.1]))) ?_
  iterate 10 refine ar_skip rfl rfl rfl ?_
  iterate 3 refine pA ?_
  refine ar_nil ?_
  refine ag_ret tOk Try.func3 rfl rfl (by simp) ?_
  exact eqB (by simp)
theorem w_OnceYNY (L : List EvV) (key : List UInt8) (e1 : EvV) (he1 : e1.x.ok) (ke1 : key ≠ [] ∧ e1.c = 0 ∧ e1.x.k = 4 ∧ keyL e1.x.inv = key) (c4 : Pur Try.prog 10 [roE L, .r (.str key)] (.tuple [txA e1.x, .r (.bool true)])) (c5 : Pur Try.prog 11 [roE L, .r (.str key)] (.tuple [eventA ev0, .r (.bool false)])) (e3 : EvV) (he3 : e3.x.ok) (ke3 : key ≠ [] ∧ e3.c = 0 ∧ e3.x.k = 6 ∧ keyL e3.x.inv = key) (c6 : Pur Try.prog 12 [roE L, .r (.str key)] (.tuple [eventA e3, .r (.bool true)])) : Pur Try.prog 3 [roE L, .r (.str key)] (.r (.bool true)) := by
  refine spec_of_go (N := 126) Try.func3 rfl (by decide) rfl rfl ?_
  refine zB ?_
  refine pA ?_
  refine zA ?_
  refine zB ?_
  refine ar_pur (w_alive14) rfl rfl rfl rfl rfl rfl rfl ?_
  refine pA ?_
  refine ar_nil ?_
  refine ag_false rfl (rfl) ?_
  refine ag_skip ?_
  refine zB ?_
  iterate 2 refine pA ?_
  refine ar_pur (c4) rfl rfl rfl rfl rfl rfl rfl ?_
  iterate 3 refine pA ?_
  refine ar_new tOk rfl rfl rfl ?_ ?_
  · simp
  refine ar_store (h' := ⟨1, [(0, some (.mixed ((txC e1.x).map .r))), (0, some (.mixed ((txC tx0).map .r)))], false⟩) (c := True) tOk (by kernel_rfl) rfl rfl trivial ?_
  refine pA ?_
  refine ar_nil ?_
  refine ag_ent (ent_weak (g' := [(0, roE L), (1, .r (.str key)), (5, .ptr 0 0), (6, .r (.bool true))]) (h' := ⟨1, [(0, some (.mixed ((txC e1.x).map .r)))], false⟩) [0] rfl rfl rfl rfl ?_ ?_ rfl) ?_
  · exact ⟨⟨rfl, rfl⟩, ⟨rfl, rfl⟩, ⟨rfl, rfl⟩, ⟨rfl, rfl⟩, trivial⟩
  · exact ⟨⟨rfl, rfl, rfl⟩, trivial⟩
  refine zB ?_
  iterate 2 refine pA ?_
  refine ar_pur (c5) rfl rfl rfl rfl rfl rfl rfl ?_
  iterate 3 refine pA ?_
  refine ar_new tOk rfl rfl rfl ?_ ?_
  · simp
  refine ar_store (h' := ⟨2, [(1, some (.mixed ((evC ev0).map .r))), (1, some (.mixed ((evC ev0).map .r))), (0, some (.mixed ((txC e1.x).map .r)))], false⟩) (c := True) tOk (by kernel_rfl) rfl rfl trivial ?_
  refine pA ?_
  refine ar_nil ?_
  refine ag_ent (ent_weak (g' := [(0, roE L), (1, .r (.str key)), (5, .ptr 0 0), (6, .r (.bool true)), (7, .ptr 1 0), (8, .r (.bool false))]) (h' := ⟨2, [(0, some (.mixed ((txC e1.x).map .r))), (1, some (.mixed ((evC ev0).map .r)))], false⟩) [0, 1] rfl rfl rfl rfl ?_ ?_ rfl) ?_
  · exact ⟨⟨rfl, rfl⟩, ⟨rfl, rfl⟩, ⟨rfl, rfl⟩, ⟨rfl, rfl⟩, ⟨rfl, rfl⟩, ⟨rfl, rfl⟩, trivial⟩
  · exact ⟨⟨rfl, rfl, rfl⟩, ⟨rfl, rfl, rfl⟩, trivial⟩
  refine zB ?_
  iterate 2 refine pA ?_
  refine ar_pur (c6) rfl rfl rfl rfl rfl rfl rfl ?_
  iterate 3 refine pA ?_
  refine ar_new tOk rfl rfl rfl ?_ ?_
  · simp
  refine ar_store (h' := ⟨3, [(2, some (.mixed ((evC e3).map .r))), (2, some (.mixed ((evC ev0).map .r))), (0, some (.mixed ((txC e1.x).map .r))), (1, some (.mixed ((evC ev0).map .r)))], false⟩) (c := True) tOk (by kernel_rfl) rfl rfl trivial ?_
  refine pA ?_
  refine ar_nil ?_
  refine ag_ent (ent_weak (g' := [(1, .r (.str key)), (5, .ptr 0 0), (6, .r (.bool true)), (7, .ptr 1 0), (8, .r (.bool false)), (9, .ptr 2 0), (10, .r (.bool true))]) (h' := ⟨3, [(0, some (.mixed ((txC e1.x).map .r))), (1, some (.mixed ((evC ev0).map .r))), (2, some (.mixed ((evC e3).map .r)))], false⟩) [0, 1, 2] rfl rfl rfl rfl ?_ ?_ rfl) ?_
  · exact ⟨⟨rfl, rfl⟩, ⟨rfl, rfl⟩, ⟨rfl, rfl⟩, ⟨rfl, rfl⟩, ⟨rfl, rfl⟩, ⟨rfl, rfl⟩, ⟨rfl, rfl⟩, trivial⟩
  · exact ⟨⟨rfl, rfl, rfl⟩, ⟨rfl, rfl, rfl⟩, ⟨rfl, rfl, rfl⟩, trivial⟩
  refine ag_seq ?_
  refine zB ?_
  iterate 2 refine pA ?_
  refine ar_ent (ent_reg 32 (.r (.bool true)) (by show AVal.r (.bool _) = _; exact eqB (by rfl))) ?_
  refine pA ?_
  refine pB ?_
  refine ar_pur (w_dKey e1.x.inv he1.inv) rfl rfl rfl rfl rfl rfl rfl ?_
  iterate 3 refine pA ?_
  refine ar_ent (ent_reg 38 (.r (.bool false)) (by show AVal.r (.bool _) = _; exact eqB (by simp [ke1.2.2.2]))) ?_
  refine pA ?_
  refine pB ?_
  iterate 4 refine pA ?_
  refine ar_ent (ent_reg 44 (.r (.bool false)) (by show AVal.r (.bool _) = _; exact eqB (by simp [ke1.2.2.1]))) ?_
  iterate 2 refine pA ?_
  refine ar_ent (ent_reg 46 (.r (.bool false)) (by show AVal.r (.bool _) = _; exact eqB (by rfl))) ?_
  iterate 17 refine ar_skip rfl rfl rfl ?_
  iterate 3 refine pA ?_
  refine ar_ent (ent_reg 66 (.r (.bool false)) (by show AVal.r (.bool _) = _; exact eqB (by rfl))) ?_
  iterate 2 refine pA ?_
  refine ar_ent (ent_reg 68 (.r (.bool true)) (by show AVal.r (.bool _) = _; exact eqB (by rfl))) ?_
  iterate 2 refine pA ?_
  refine pB ?_
  refine ar_pur (w_dKey e3.x.inv he3.inv) rfl rfl rfl rfl rfl rfl rfl ?_
  iterate 3 refine pA ?_
  refine ar_ent (ent_reg 75 (.r (.bool false)) (by show AVal.r (.bool _) = _; exact eqB (by simp [ke3.2.2.2]))) ?_
  iterate 2 refine pA ?_
  refine pB ?_
  iterate 3 refine pA ?_
  refine ar_ent (ent_reg 81 (.r (.bool false)) (by show AVal.r (.bool _) = _; exact eqB (by simp [ke3.2.2.1]))) ?_
  refine pA ?_
  refine pB ?_
  iterate 4 refine pA ?_
  refine ar_nil ?_
  refine ag_false rfl (by simp [ke3.2.1]) ?_
  refine ag_skip ?_
  refine zB ?_
  iterate 2 refine pA ?_
  refine ar_ent (ent_reg 89 (.r (.bool true)) (by show AVal.r (.bool _) = _; exact eqB (by rfl))) ?_
  iterate 3 refine ar_skip rfl rfl rfl ?_
  iterate 2 refine pA ?_
  refine ar_ent (ent_reg 94 (.r (.bool true)) (by show AVal.r (.bool _) = _; exact eqB (by rfl))) ?_
  iterate 2 refine pA ?_
  refine ar_ent (ent_reg 96 (.r (.bool false)) (by show AVal.r (.bool _) = _; exact eqB (by rfl))) ?_
  refine pB ?_
  refine ar_pure tOk rfl rfl rfl ?_ ?_
  · simp
  iterate 4 refine pA ?_
  refine ar_ent (ent_reg 102 (.r (.bool true)) (by show AVal.r (.bool _) = _; exact eqB (by decide))) ?_
  iterate 2 refine pA ?_
  refine ar_ent (ent_reg 104 (.r (.bool true)) (by show AVal.r (.bool _) = _; exact eqB (by rfl))) ?_
  iterate 3 refine ar_skip rfl rfl rfl ?_
  iterate 3 refine pA ?_
  refine ar_ent (ent_reg 110 (.r (.bool true)) (by show AVal.r (.bool _) = _; exact eqB (by rfl))) ?_
  iterate 3 refine pA ?_
  refine ar_ent (ent_reg 113 (.r (.bool true)) (by show AVal.r (.bool _) = _; exact eqB (by simp [ke1.1]))) ?_
  iterate 10 refine ar_skip rfl rfl rfl ?_
  iterate 3 refine pA ?_
  refine ar_nil ?_
  refine ag_ret tOk Try.func3 rfl rfl (by simp) ?_
  exact eqB (by simp)
theorem w_OnceYNN (L : List EvV) (key : List UInt8) (e1 : EvV) (he1 : e1.x.ok) (ke1 : key ≠ [] ∧ e1.c = 0 ∧ e1.x.k = 4 ∧ keyL e1.x.inv = key) (c4 : Pur Try.prog 10 [roE L, .r (.str key)] (.tuple [txA e1.x, .r (.bool true)])) (c5 : Pur Try.prog 11 [roE L, .r (.str key)] (.tuple [eventA ev0, .r (.bool false)])) (c6 : Pur Try.prog 12 [roE L, .r (.str key)] (.tuple [eventA ev0, .r (.bool false)])) : Pur Try.prog 3 [roE L, .r (.str key)] (.r (.bool true)) := by
  refine spec_of_go (N := 126) Try.func3 rfl (by decide) rfl rfl ?_
  refine zB ?_
  refine pA ?_
  refine zA ?_
  refine zB ?_
  refine ar_pur (w_alive14) rfl rfl rfl rfl rfl rfl rfl ?_
  refine pA ?_
  refine ar_nil ?_
  refine ag_false rfl (rfl) ?_
  refine ag_skip ?_
  refine zB ?_
  iterate 2 refine pA ?_
  refine ar_pur (c4) rfl rfl rfl rfl rfl rfl rfl ?_
  iterate 3 refine pA ?_
  refine ar_new tOk rfl rfl rfl ?_ ?_
  · simp
  refine ar_store (h' := ⟨1, [(0, some (.mixed ((txC e1.x).map .r))), (0, some (.mixed ((txC tx0).map .r)))], false⟩) (c := True) tOk (by kernel_rfl) rfl rfl trivial ?_
  refine pA ?_
  refine ar_nil ?_
  refine ag_ent (ent_weak (g' := [(0, roE L), (1, .r (.str key)), (5, .ptr 0 0), (6, .r (.bool true))]) (h' := ⟨1, [(0, some (.mixed ((txC e1.x).map .r)))], false⟩) [0] rfl rfl rfl rfl ?_ ?_ rfl) ?_
  · exact ⟨⟨rfl, rfl⟩, ⟨rfl, rfl⟩, ⟨rfl, rfl⟩, ⟨rfl, rfl⟩, trivial⟩
  · exact ⟨⟨rfl, rfl, rfl⟩, trivial⟩
  refine zB ?_
  iterate 2 refine pA ?_
  refine ar_pur (c5) rfl rfl rfl rfl rfl rfl rfl ?_
  iterate 3 refine pA ?_
  refine ar_new tOk rfl rfl rfl ?_ ?_
  · simp
  refine ar_store (h' := ⟨2, [(1, some (.mixed ((evC ev0).map .r))), (1, some (.mixed ((evC ev0).map .r))), (0, some (.mixed ((txC e1.x).map .r)))], false⟩) (c := True) tOk (by kernel_rfl) rfl rfl trivial ?_
  refine pA ?_
  refine ar_nil ?_
  refine ag_ent (ent_weak (g' := [(0, roE L), (1, .r (.str key)), (5, .ptr 0 0), (6, .r (.bool true)), (7, .ptr 1 0), (8, .r (.bool false))]) (h' := ⟨2, [(0, some (.mixed ((txC e1.x).map .r))), (1, some (.mixed ((evC ev0).map .r)))], false⟩) [0, 1] rfl rfl rfl rfl ?_ ?_ rfl) ?_
  · exact ⟨⟨rfl, rfl⟩, ⟨rfl, rfl⟩, ⟨rfl, rfl⟩, ⟨rfl, rfl⟩, ⟨rfl, rfl⟩, ⟨rfl, rfl⟩, trivial⟩
  · exact ⟨⟨rfl, rfl, rfl⟩, ⟨rfl, rfl, rfl⟩, trivial⟩
  refine zB ?_
  iterate 2 refine pA ?_
  refine ar_pur (c6) rfl rfl rfl rfl rfl rfl rfl ?_
  iterate 3 refine pA ?_
  refine ar_new tOk rfl rfl rfl ?_ ?_
  · simp
  refine ar_store (h' := ⟨3, [(2, some (.mixed ((evC ev0).map .r))), (2, some (.mixed ((evC ev0).map .r))), (0, some (.mixed ((txC e1.x).map .r))), (1, some (.mixed ((evC ev0).map .r)))], false⟩) (c := True) tOk (by kernel_rfl) rfl rfl trivial ?_
  refine pA ?_
  refine ar_nil ?_
  refine ag_ent (ent_weak (g' := [(1, .r (.str key)), (5, .ptr 0 0), (6, .r (.bool true)), (7, .ptr 1 0), (8, .r (.bool false)), (9, .ptr 2 0), (10, .r (.bool false))]) (h' := ⟨3, [(0, some (.mixed ((txC e1.x).map .r))), (1, some (.mixed ((evC ev0).map .r))), (2, some (.mixed ((evC ev0).map .r)))], false⟩) [0, 1, 2] rfl rfl rfl rfl ?_ ?_ rfl) ?_
  · exact ⟨⟨rfl, rfl⟩, ⟨rfl, rfl⟩, ⟨rfl, rfl⟩, ⟨rfl, rfl⟩, ⟨rfl, rfl⟩, ⟨rfl, rfl⟩, ⟨rfl, rfl⟩, trivial⟩
  · exact ⟨⟨rfl, rfl, rfl⟩, ⟨rfl, rfl, rfl⟩, ⟨rfl, rfl, rfl⟩, trivial⟩
  refine ag_seq ?_
  refine zB ?_
  iterate 2 refine pA ?_
  refine ar_ent (ent_reg 32 (.r (.bool true)) (by show AVal.r (.bool _) = _; exact eqB (by rfl))) ?_
  refine pA ?_
  refine pB ?_
  refine ar_pur (w_dKey e1.x.inv he1.inv) rfl rfl rfl rfl rfl rfl rfl ?_
  iterate 3 refine pA ?_
  refine ar_ent (ent_reg 38 (.r (.bool false)) (by show AVal.r (.bool _) = _; exact eqB (by simp [ke1.2.2.2]))) ?_
  refine pA ?_
  refine pB ?_
  iterate 4 refine pA ?_
  refine ar_ent (ent_reg 44 (.r (.bool false)) (by show AVal.r (.bool _) = _; exact eqB (by simp [ke1.2.2.1]))) ?_
  iterate 2 refine pA ?_
  refine ar_ent (ent_reg 46 (.r (.bool false)) (by show AVal.r (.bool _) = _; exact eqB (by rfl))) ?_
  iterate 17 refine ar_skip rfl rfl rfl ?_
  iterate 3 refine pA ?_
  refine ar_ent (ent_reg 66 (.r (.bool false)) (by show AVal.r (.bool _) = _; exact eqB (by rfl))) ?_
  iterate 2 refine pA ?_
  refine ar_ent (ent_reg 68 (.r (.bool false)) (by show AVal.r (.bool _) = _; exact eqB (by rfl))) ?_
  iterate 17 refine ar_skip rfl rfl rfl ?_
  iterate 2 refine pA ?_
  refine ar_nil ?_
  refine ag_false rfl (by simp) ?_
  refine ag_skip ?_
  refine zB ?_
  iterate 2 refine pA ?_
  refine ar_ent (ent_reg 89 (.r (.bool true)) (by show AVal.r (.bool _) = _; exact eqB (by rfl))) ?_
  iterate 3 refine ar_skip rfl rfl rfl ?_
  iterate 2 refine pA ?_
  refine ar_ent (ent_reg 94 (.r (.bool true)) (by show AVal.r (.bool _) = _; exact eqB (by rfl))) ?_
  iterate 2 refine pA ?_
  refine ar_ent (ent_reg 96 (.r (.bool false)) (by show AVal.r (.bool _) = _; exact eqB (by rfl))) ?_
  refine pB ?_
  refine ar_pure tOk rfl rfl rfl ?_ ?_
  · simp
  iterate 4 refine pA ?_
  refine ar_ent (ent_reg 102 (.r (.bool true)) (by show AVal.r (.bool _) = _; exact eqB (by decide))) ?_
  iterate 2 refine pA ?_
  refine ar_ent (ent_reg 104 (.r (.bool false)) (by show AVal.r (.bool _) = _; exact eqB (by rfl))) ?_
  refine pB ?_
  refine ar_pure tOk rfl rfl rfl ?_ ?_
  · simp
  iterate 4 refine pA ?_
  refine ar_ent (ent_reg 110 (.r (.bool true)) (by show AVal.r (.bool _) = _; exact eqB (by decide))) ?_
  iterate 3 refine pA ?_
  refine ar_ent (ent_reg 113 (.r (.bool true)) (by show AVal.r (.bool _) = _; exact eqB (by simp [ke1.1]))) ?_
  iterate 10 refine ar_skip rfl rfl rfl ?_
  iterate 3 refine pA ?_
  refine ar_nil ?_
  refine ag_ret tOk Try.func3 rfl rfl (by simp) ?_
  exact eqB (by simp)
theorem w_OnceNYY (L : List EvV) (key : List UInt8) (c4 : Pur Try.prog 10 [roE L, .r (.str key)] (.tuple [txA tx0, .r (.bool false)])) (e2 : EvV) (he2 : e2.x.ok) (ke2 : key ≠ [] ∧ e2.c = 0 ∧ e2.x.k = 5 ∧ keyL e2.x.inv = key) (c5 : Pur Try.prog 11 [roE L, .r (.str key)] (.tuple [eventA e2, .r (.bool true)])) (e3 : EvV) (he3 : e3.x.ok) (ke3 : key ≠ [] ∧ e3.c = 0 ∧ e3.x.k = 6 ∧ keyL e3.x.inv = key) (c6 : Pur Try.prog 12 [roE L, .r (.str key)] (.tuple [eventA e3, .r (.bool true)])) : Pur Try.prog 3 [roE L, .r (.str key)] (.r (.bool true)) := by
  refine spec_of_go (N := 126) Try.func3 rfl (by decide) rfl rfl ?_
  refine zB ?_
  refine pA ?_
  refine zA ?_
  refine zB ?_
  refine ar_pur (w_alive14) rfl rfl rfl rfl rfl rfl rfl ?_
  refine pA ?_
  refine ar_nil ?_
  refine ag_false rfl (rfl) ?_
  refine ag_skip ?_
  refine zB ?_
  iterate 2 refine pA ?_
  refine ar_pur (c4) rfl rfl rfl rfl rfl rfl rfl ?_
  iterate 3 refine pA ?_
  refine ar_new tOk rfl rfl rfl ?_ ?_
  · simp
  refine ar_store (h' := ⟨1, [(0, some (.mixed ((txC tx0).map .r))), (0, some (.mixed ((txC tx0).map .r)))], false⟩) (c := True) tOk (by kernel_rfl) rfl rfl trivial ?_
  refine pA ?_
  refine ar_nil ?_
  refine ag_ent (ent_weak (g' := [(0, roE L), (1, .r (.str key)), (5, .ptr 0 0), (6, .r (.bool false))]) (h' := ⟨1, [(0, some (.mixed ((txC tx0).map .r)))], false⟩) [0] rfl rfl rfl rfl ?_ ?_ rfl) ?_
  · exact ⟨⟨rfl, rfl⟩, ⟨rfl, rfl⟩, ⟨rfl, rfl⟩, ⟨rfl, rfl⟩, trivial⟩
  · exact ⟨⟨rfl, rfl, rfl⟩, trivial⟩
  refine zB ?_
  iterate 2 refine pA ?_
  refine ar_pur (c5) rfl rfl rfl rfl rfl rfl rfl ?_
  iterate 3 refine pA ?_
  refine ar_new tOk rfl rfl rfl ?_ ?_
  · simp
  refine ar_store (h' := ⟨2, [(1, some (.mixed ((evC e2).map .r))), (1, some (.mixed ((evC ev0).map .r))), (0, some (.mixed ((txC tx0).map .r)))], false⟩) (c := True) tOk (by kernel_rfl) rfl rfl trivial ?_
  refine pA ?_
  refine ar_nil ?_
  refine ag_ent (ent_weak (g' := [(0, roE L), (1, .r (.str key)), (5, .ptr 0 0), (6, .r (.bool false)), (7, .ptr 1 0), (8, .r (.bool true))]) (h' := ⟨2, [(0, some (.mixed ((txC tx0).map .r))), (1, some (.mixed ((evC e2).map .r)))], false⟩) [0, 1] rfl rfl rfl rfl ?_ ?_ rfl) ?_
  · exact ⟨⟨rfl, rfl⟩, ⟨rfl, rfl⟩, ⟨rfl, rfl⟩, ⟨rfl, rfl⟩, ⟨rfl, rfl⟩, ⟨rfl, rfl⟩, trivial⟩
  · exact ⟨⟨rfl, rfl, rfl⟩, ⟨rfl, rfl, rfl⟩, trivial⟩
  refine zB ?_
  iterate 2 refine pA ?_
  refine ar_pur (c6) rfl rfl rfl rfl rfl rfl rfl ?_
  iterate 3 refine pA ?_
  refine ar_new tOk rfl rfl rfl ?_ ?_
  · simp
  refine ar_store (h' := ⟨3, [(2, some (.mixed ((evC e3).map .r))), (2, some (.mixed ((evC ev0).map .r))), (0, some (.mixed ((txC tx0).map .r))), (1, some (.mixed ((evC e2).map .r)))], false⟩) (c := True) tOk (by kernel_rfl) rfl rfl trivial ?_
  refine pA ?_
  refine ar_nil ?_
  refine ag_ent (ent_weak (g' := [(1, .r (.str key)), (5, .ptr 0 0), (6, .r (.bool false)), (7, .ptr 1 0), (8, .r (.bool true)), (9, .ptr 2 0), (10, .r (.bool true))]) (h' := ⟨3, [(0, some (.mixed ((txC tx0).map .r))), (1, some (.mixed ((evC e2).map .r))), (2, some (.mixed ((evC e3).map .r)))], false⟩) [0, 1, 2] rfl rfl rfl rfl ?_ ?_ rfl) ?_
  · exact ⟨⟨rfl, rfl⟩, ⟨rfl, rfl⟩, ⟨rfl, rfl⟩, ⟨rfl, rfl⟩, ⟨rfl, rfl⟩, ⟨rfl, rfl⟩, ⟨rfl, rfl⟩, trivial⟩
  · exact ⟨⟨rfl, rfl, rfl⟩, ⟨rfl, rfl, rfl⟩, ⟨rfl, rfl, rfl⟩, trivial⟩
  refine ag_seq ?_
  refine zB ?_
  iterate 2 refine pA ?_
  refine ar_ent (ent_reg 32 (.r (.bool false)) (by show AVal.r (.bool _) = _; exact eqB (by rfl))) ?_
  iterate 10 refine ar_skip rfl rfl rfl ?_
  iterate 2 refine pA ?_
  refine ar_ent (ent_reg 44 (.r (.bool false)) (by show AVal.r (.bool _) = _; exact eqB (by rfl))) ?_
  iterate 2 refine pA ?_
  refine ar_ent (ent_reg 46 (.r (.bool true)) (by show AVal.r (.bool _) = _; exact eqB (by rfl))) ?_
  iterate 2 refine pA ?_
  refine pB ?_
  refine ar_pur (w_dKey e2.x.inv he2.inv) rfl rfl rfl rfl rfl rfl rfl ?_
  iterate 3 refine pA ?_
  refine ar_ent (ent_reg 53 (.r (.bool false)) (by show AVal.r (.bool _) = _; exact eqB (by simp [ke2.2.2.2]))) ?_
  iterate 2 refine pA ?_
  refine pB ?_
  iterate 3 refine pA ?_
  refine ar_ent (ent_reg 59 (.r (.bool false)) (by show AVal.r (.bool _) = _; exact eqB (by simp [ke2.2.2.1]))) ?_
  refine pA ?_
  refine pB ?_
  iterate 5 refine pA ?_
  refine ar_ent (ent_reg 66 (.r (.bool false)) (by show AVal.r (.bool _) = _; exact eqB (by simp [ke2.2.1]))) ?_
  iterate 2 refine pA ?_
  refine ar_ent (ent_reg 68 (.r (.bool true)) (by show AVal.r (.bool _) = _; exact eqB (by rfl))) ?_
  iterate 2 refine pA ?_
  refine pB ?_
  refine ar_pur (w_dKey e3.x.inv he3.inv) rfl rfl rfl rfl rfl rfl rfl ?_
  iterate 3 refine pA ?_
  refine ar_ent (ent_reg 75 (.r (.bool false)) (by show AVal.r (.bool _) = _; exact eqB (by simp [ke3.2.2.2]))) ?_
  iterate 2 refine pA ?_
  refine pB ?_
  iterate 3 refine pA ?_
  refine ar_ent (ent_reg 81 (.r (.bool false)) (by show AVal.r (.bool _) = _; exact eqB (by simp [ke3.2.2.1]))) ?_
  refine pA ?_
  refine pB ?_
  iterate 4 refine pA ?_
  refine ar_nil ?_
  refine ag_false rfl (by simp [ke3.2.1]) ?_
  refine ag_skip ?_
  refine zB ?_
  iterate 2 refine pA ?_
  refine ar_ent (ent_reg 89 (.r (.bool false)) (by show AVal.r (.bool _) = _; exact eqB (by rfl))) ?_
  refine pB ?_
  refine ar_pure tOk rfl rfl rfl ?_ ?_
  · simp
  iterate 3 refine pA ?_
  refine ar_ent (ent_reg 94 (.r (.bool true)) (by show AVal.r (.bool _) = _; exact eqB (by decide))) ?_
  iterate 2 refine pA ?_
  refine ar_ent (ent_reg 96 (.r (.bool true)) (by show AVal.r (.bool _) = _; exact eqB (by rfl))) ?_
  iterate 3 refine ar_skip rfl rfl rfl ?_
  iterate 3 refine pA ?_
  refine ar_ent (ent_reg 102 (.r (.bool true)) (by show AVal.r (.bool _) = _; exact eqB (by rfl))) ?_
  iterate 2 refine pA ?_
  refine ar_ent (ent_reg 104 (.r (.bool true)) (by show AVal.r (.bool _) = _; exact eqB (by rfl))) ?_
  iterate 3 refine ar_skip rfl rfl rfl ?_
  iterate 3 refine pA ?_
  refine ar_ent (ent_reg 110 (.r (.bool true)) (by show AVal.r (.bool _) = _; exact eqB (by rfl))) ?_
  iterate 3 refine pA ?_
  refine ar_ent (ent_reg 113 (.r (.bool true)) (by show AVal.r (.bool _) = _; exact eqB (by simp [ke2.1]))) ?_
  iterate 10 refine ar_skip rfl rfl rfl ?_
  iterate 3 refine pA ?_
  refine ar_nil ?_
  refine ag_ret tOk Try.func3 rfl rfl (by simp) ?_
  exact eqB (by simp)
theorem w_OnceNYN (L : List EvV) (key : List UInt8) (c4 : Pur Try.prog 10 [roE L, .r (.str key)] (.tuple [txA tx0, .r (.bool false)])) (e2 : EvV) (he2 : e2.x.ok) (ke2 : key ≠ [] ∧ e2.c = 0 ∧ e2.x.k = 5 ∧ keyL e2.x.inv = key) (c5 : Pur Try.prog 11 [roE L, .r (.str key)] (.tuple [eventA e2, .r (.bool true)])) (c6 : Pur Try.prog 12 [roE L, .r (.str key)] (.tuple [eventA ev0, .r (.bool false)])) : Pur Try.prog 3 [roE L, .r (.str key)] (.r (.bool true)) := by
  refine spec_of_go (N := 126) Try.func3 rfl (by decide) rfl rfl ?_
  refine zB ?_
  refine pA ?_
  refine zA ?_
  refine zB ?_
  refine ar_pur (w_alive14) rfl rfl rfl rfl rfl rfl rfl ?_
  refine pA ?_
  refine ar_nil ?_
  refine ag_false rfl (rfl) ?_
  refine ag_skip ?_
  refine zB ?_
  iterate 2 refine pA ?_
  refine ar_pur (c4) rfl rfl rfl rfl rfl rfl rfl ?_
  iterate 3 refine pA ?_
  refine ar_new tOk rfl rfl rfl ?_ ?_
  · simp
  refine ar_store (h' := ⟨1, [(0, some (.mixed ((txC tx0).map .r))), (0, some (.mixed ((txC tx0).map .r)))], false⟩) (c := True) tOk (by kernel_rfl) rfl rfl trivial ?_
  refine pA ?_
  refine ar_nil ?_
  refine ag_ent (ent_weak (g' := [(0, roE L), (1, .r (.str key)), (5, .ptr 0 0), (6, .r (.bool false))]) (h' := ⟨1, [(0, some (.mixed ((txC tx0).map .r)))], false⟩) [0] rfl rfl rfl rfl ?_ ?_ rfl) ?_
  · exact ⟨⟨rfl, rfl⟩, ⟨rfl, rfl⟩, ⟨rfl, rfl⟩, ⟨rfl, rfl⟩, trivial⟩
  · exact ⟨⟨rfl, rfl, rfl⟩, trivial⟩
  refine zB ?_
  iterate 2 refine pA ?_
  refine ar_pur (c5) rfl rfl rfl rfl rfl rfl rfl ?_
  iterate 3 refine pA ?_
  refine ar_new tOk rfl rfl rfl ?_ ?_
  · simp
  refine ar_store (h' := ⟨2, [(1, some (.mixed ((evC e2).map .r))), (1, some (.mixed ((evC ev0).map .r))), (0, some (.mixed ((txC tx0).map .r)))], false⟩) (c := True) tOk (by kernel_rfl) rfl rfl trivial ?_
  refine pA ?_
  refine ar_nil ?_
  refine ag_ent (ent_weak (g' := [(0, roE L), (1, .r (.str key)), (5, .ptr 0 0), (6, .r (.bool false)), (7, .ptr 1 0), (8, .r (.bool true))]) (h' := ⟨2, [(0, some (.mixed ((txC tx0).map .r))), (1, some (.mixed ((evC e2).map .r)))], false⟩) [0, 1] rfl rfl rfl rfl ?_ ?_ rfl) ?_
  · exact ⟨⟨rfl, rfl⟩, ⟨rfl, rfl⟩, ⟨rfl, rfl⟩, ⟨rfl, rfl⟩, ⟨rfl, rfl⟩, ⟨rfl, rfl⟩, trivial⟩
  · exact ⟨⟨rfl, rfl, rfl⟩, ⟨rfl, rfl, rfl⟩, trivial⟩
  refine zB ?_
  iterate 2 refine pA ?_
  refine ar_pur (c6) rfl rfl rfl rfl rfl rfl rfl ?_
  iterate 3 refine pA ?_
  refine ar_new tOk rfl rfl rfl ?_ ?_
  · simp
  refine ar_store (h' := ⟨3, [(2, some (.mixed ((evC ev0).map .r))), (2, some (.mixed ((evC ev0).map .r))), (0, some (.mixed ((txC tx0).map .r))), (1, some (.mixed ((evC e2).map .r)))], false⟩) (c := True) tOk (by kernel_rfl) rfl rfl trivial ?_
  refine pA ?_
  refine ar_nil ?_
  refine ag_ent (ent_weak (g' := [(1, .r (.str key)), (5, .ptr 0 0), (6, .r (.bool false)), (7, .ptr 1 0), (8, .r (.bool true)), (9, .ptr 2 0), (10, .r (.bool false))]) (h' := ⟨3, [(0, some (.mixed ((txC tx0).map .r))), (1, some (.mixed ((evC e2).map .r))), (2, some (.mixed ((evC ev0).map .r)))], false⟩) [0, 1, 2] rfl rfl rfl rfl ?_ ?_ rfl) ?_
  · exact ⟨⟨rfl, rfl⟩, ⟨rfl, rfl⟩, ⟨rfl, rfl⟩, ⟨rfl, rfl⟩, ⟨rfl, rfl⟩, ⟨rfl, rfl⟩, ⟨rfl, rfl⟩, trivial⟩
  · exact ⟨⟨rfl, rfl, rfl⟩, ⟨rfl, rfl, rfl⟩, ⟨rfl, rfl, rfl⟩, trivial⟩
  refine ag_seq ?_
  refine zB ?_
  iterate 2 refine pA ?_
  refine ar_ent (ent_reg 32 (.r (.bool false)) (by show AVal.r (.bool _) = _; exact eqB (by rfl))) ?_
  iterate 10 refine ar_skip rfl rfl rfl ?_
  iterate 2 refine pA ?_
  refine ar_ent (ent_reg 44 (.r (.bool false)) (by show AVal.r (.bool _) = _; exact eqB (by rfl))) ?_
  iterate 2 refine pA ?_
  refine ar_ent (ent_reg 46 (.r (.bool true)) (by show AVal.r (.bool _) = _; exact eqB (by rfl))) ?_
  iterate 2 refine pA ?_
  refine pB ?_
  refine ar_pur (w_dKey e2.x.inv he2.inv) rfl rfl rfl rfl rfl rfl rfl ?_
  iterate 3 refine pA ?_
  refine ar_ent (ent_reg 53 (.r (.bool false)) (by show AVal.r (.bool _) = _; exact eqB (by simp [ke2.2.2.2]))) ?_
  iterate 2 refine pA ?_
  refine pB ?_
  iterate 3 refine pA ?_
  refine ar_ent (ent_reg 59 (.r (.bool false)) (by show AVal.r (.bool _) = _; exact eqB (by simp [ke2.2.2.1]))) ?_
  refine pA ?_
  refine pB ?_
  iterate 5 refine pA ?_
  refine ar_ent (ent_reg 66 (.r (.bool false)) (by show AVal.r (.bool _) = _; exact eqB (by simp [ke2.2.1]))) ?_
  iterate 2 refine pA ?_
  refine ar_ent (ent_reg 68 (.r (.bool false)) (by show AVal.r (.bool _) = _; exact eqB (by rfl))) ?_
  iterate 17 refine ar_skip rfl rfl rfl ?_
  iterate 2 refine pA ?_
  refine ar_nil ?_
  refine ag_false rfl (by simp) ?_
  refine ag_skip ?_
  refine zB ?_
  iterate 2 refine pA ?_
  refine ar_ent (ent_reg 89 (.r (.bool false)) (by show AVal.r (.bool _) = _; exact eqB (by rfl))) ?_
  refine pB ?_
  refine ar_pure tOk rfl rfl rfl ?_ ?_
  · simp
  iterate 3 refine pA ?_
  refine ar_ent (ent_reg 94 (.r (.bool true)) (by show AVal.r (.bool _) = _; exact eqB (by decide))) ?_
  iterate 2 refine pA ?_
  refine ar_ent (ent_reg 96 (.r (.bool true)) (by show AVal.r (.bool _) = _; exact eqB (by rfl))) ?_
  iterate 3 refine ar_skip rfl rfl rfl ?_
  iterate 3 refine pA ?_
  refine ar_ent (ent_reg 102 (.r (.bool true)) (by show AVal.r (.bool _) = _; exact eqB (by rfl))) ?_
  iterate 2 refine pA ?_
  refine ar_ent (ent_reg 104 (.r (.bool false)) (by show AVal.r (.bool _) = _; exact eqB (by rfl))) ?_
  refine pB ?_
  refine ar_pure tOk rfl rfl rfl ?_ ?_
  · simp
  iterate 4 refine pA ?_
  refine ar_ent (ent_reg 110 (.r (.bool true)) (by show AVal.r (.bool _) = _; exact eqB (by decide))) ?_
  iterate 3 refine pA ?_
  refine ar_ent (ent_reg 113 (.r (.bool true)) (by show AVal.r (.bool _) = _; exact eqB (by simp [ke2.1]))) ?_
  iterate 10 refine ar_skip rfl rfl rfl ?_
  iterate 3 refine pA ?_
  refine ar_nil ?_
  refine ag_ret tOk Try.func3 rfl rfl (by simp) ?_
  exact eqB (by simp)
theorem w_OnceNNY (L : List EvV) (key : List UInt8) (c4 : Pur Try.prog 10 [roE L, .r (.str key)] (.tuple [txA tx0, .r (.bool false)])) (c5 : Pur Try.prog 11 [roE L, .r (.str key)] (.tuple [eventA ev0, .r (.bool false)])) (e3 : EvV) (he3 : e3.x.ok) (ke3 : key ≠ [] ∧ e3.c = 0 ∧ e3.x.k = 6 ∧ keyL e3.x.inv = key) (c6 : Pur Try.prog 12 [roE L, .r (.str key)] (.tuple [eventA e3, .r (.bool true)])) : Pur Try.prog 3 [roE L, .r (.str key)] (.r (.bool true)) := by
  refine spec_of_go (N := 126) Try.func3 rfl (by decide) rfl rfl ?_
  refine zB ?_
  refine pA ?_
  refine zA ?_
  refine zB ?_
  refine ar_pur (w_alive14) rfl rfl rfl rfl rfl rfl rfl ?_
  refine pA ?_
  refine ar_nil ?_
  refine ag_false rfl (rfl) ?_
  refine ag_skip ?_
  refine zB ?_
  iterate 2 refine pA ?_
  refine ar_pur (c4) rfl rfl rfl rfl rfl rfl rfl ?_
  iterate 3 refine pA ?_
  refine ar_new tOk rfl rfl rfl ?_ ?_
  · simp
  refine ar_store (h' := ⟨1, [(0, some (.mixed ((txC tx0).map .r))), (0, some (.mixed ((txC tx0).map .r)))], false⟩) (c := True) tOk (by kernel_rfl) rfl rfl trivial ?_
  refine pA ?_
  refine ar_nil ?_
  refine ag_ent (ent_weak (g' := [(0, roE L), (1, .r (.str key)), (5, .ptr 0 0), (6, .r (.bool false))]) (h' := ⟨1, [(0, some (.mixed ((txC tx0).map .r)))], false⟩) [0] rfl rfl rfl rfl ?_ ?_ rfl) ?_
  · exact ⟨⟨rfl, rfl⟩, ⟨rfl, rfl⟩, ⟨rfl, rfl⟩, ⟨rfl, rfl⟩, trivial⟩
  · exact ⟨⟨rfl, rfl, rfl⟩, trivial⟩
  refine zB ?_
  iterate 2 refine pA ?_
  refine ar_pur (c5) rfl rfl rfl rfl rfl rfl rfl ?_
  iterate 3 refine pA ?_
  refine ar_new tOk rfl rfl rfl ?_ ?_
  · simp
  refine ar_store (h' := ⟨2, [(1, some (.mixed ((evC ev0).map .r))), (1, some (.mixed ((evC ev0).map .r))), (0, some (.mixed ((txC tx0).map .r)))], false⟩) (c := True) tOk (by kernel_rfl) rfl rfl trivial ?_
  refine pA ?_
  refine ar_nil ?_
  refine ag_ent (ent_weak (g' := [(0, roE L), (1, .r (.str key)), (5, .ptr 0 0), (6, .r (.bool false)), (7, .ptr 1 0), (8, .r (.bool false))]) (h' := ⟨2, [(0, some (.mixed ((txC tx0).map .r))), (1, some (.mixed ((evC ev0).map .r)))], false⟩) [0, 1] rfl rfl rfl rfl ?_ ?_ rfl) ?_
  · exact ⟨⟨rfl, rfl⟩, ⟨rfl, rfl⟩, ⟨rfl, rfl⟩, ⟨rfl, rfl⟩, ⟨rfl, rfl⟩, ⟨rfl, rfl⟩, trivial⟩
  · exact ⟨⟨rfl, rfl, rfl⟩, ⟨rfl, rfl, rfl⟩, trivial⟩
  refine zB ?_
  iterate 2 refine pA ?_
  refine ar_pur (c6) rfl rfl rfl rfl rfl rfl rfl ?_
  iterate 3 refine pA ?_
  refine ar_new tOk rfl rfl rfl ?_ ?_
  · simp
  refine ar_store (h' := ⟨3, [(2, some (.mixed ((evC e3).map .r))), (2, some (.mixed ((evC ev0).map .r))), (0, some (.mixed ((txC tx0).map .r))), (1, some (.mixed ((evC ev0).map .r)))], false⟩) (c := True) tOk (by kernel_rfl) rfl rfl trivial ?_
  refine pA ?_
  refine ar_nil ?_
  refine ag_ent (ent_weak (g' := [(1, .r (.str key)), (5, .ptr 0 0), (6, .r (.bool false)), (7, .ptr 1 0), (8, .r (.bool false)), (9, .ptr 2 0), (10, .r (.bool true))]) (h' := ⟨3, [(0, some (.mixed ((txC tx0).map .r))), (1, some (.mixed ((evC ev0).map .r))), (2, some (.mixed ((evC e3).map .r)))], false⟩) [0, 1, 2] rfl rfl rfl rfl ?_ ?_ rfl) ?_
  · exact ⟨⟨rfl, rfl⟩, ⟨rfl, rfl⟩, ⟨rfl, rfl⟩, ⟨rfl, rfl⟩, ⟨rfl, rfl⟩, ⟨rfl, rfl⟩, ⟨rfl, rfl⟩, trivial⟩
  · exact ⟨⟨rfl, rfl, rfl⟩, ⟨rfl, rfl, rfl⟩, ⟨rfl, rfl, rfl⟩, trivial⟩
  refine ag_seq ?_
  refine zB ?_
  iterate 2 refine pA ?_
  refine ar_ent (ent_reg 32 (.r (.bool false)) (by show AVal.r (.bool _) = _; exact eqB (by rfl))) ?_
  iterate 10 refine ar_skip rfl rfl rfl ?_
  iterate 2 refine pA ?_
  refine ar_ent (ent_reg 44 (.r (.bool false)) (by show AVal.r (.bool _) = _; exact eqB (by rfl))) ?_
  iterate 2 refine pA ?_
  refine ar_ent (ent_reg 46 (.r (.bool false)) (by show AVal.r (.bool _) = _; exact eqB (by rfl))) ?_
  iterate 17 refine ar_skip rfl rfl rfl ?_
  iterate 3 refine pA ?_
  refine ar_ent (ent_reg 66 (.r (.bool false)) (by show AVal.r (.bool _) = _; exact eqB (by rfl))) ?_
  iterate 2 refine pA ?_
  refine ar_ent (ent_reg 68 (.r (.bool true)) (by show AVal.r (.bool _) = _; exact eqB (by rfl))) ?_
  iterate 2 refine pA ?_
  refine pB ?_
  refine ar_pur (w_dKey e3.x.inv he3.inv) rfl rfl rfl rfl rfl rfl rfl ?_
  iterate 3 refine pA ?_
  refine ar_ent (ent_reg 75 (.r (.bool false)) (by show AVal.r (.bool _) = _; exact eqB (by simp [ke3.2.2.2]))) ?_
  iterate 2 refine pA ?_
  refine pB ?_
  iterate 3 refine pA ?_
  refine ar_ent (ent_reg 81 (.r (.bool false)) (by show AVal.r (.bool _) = _; exact eqB (by simp [ke3.2.2.1]))) ?_
  refine pA ?_
  refine pB ?_
  iterate 4 refine pA ?_
  refine ar_nil ?_
  refine ag_false rfl (by simp [ke3.2.1]) ?_
  refine ag_skip ?_
  refine zB ?_
  iterate 2 refine pA ?_
  refine ar_ent (ent_reg 89 (.r (.bool false)) (by show AVal.r (.bool _) = _; exact eqB (by rfl))) ?_
  refine pB ?_
  refine ar_pure tOk rfl rfl rfl ?_ ?_
  · simp
  iterate 3 refine pA ?_
  refine ar_ent (ent_reg 94 (.r (.bool true)) (by show AVal.r (.bool _) = _; exact eqB (by decide))) ?_
  iterate 2 refine pA ?_
  refine ar_ent (ent_reg 96 (.r (.bool false)) (by show AVal.r (.bool _) = _; exact eqB (by rfl))) ?_
  refine pB ?_
  refine ar_pure tOk rfl rfl rfl ?_ ?_
  · simp
  iterate 4 refine pA ?_
  refine ar_ent (ent_reg 102 (.r (.bool true)) (by show AVal.r (.bool _) = _; exact eqB (by decide))) ?_
  iterate 2 refine pA ?_
  refine ar_ent (ent_reg 104 (.r (.bool true)) (by show AVal.r (.bool _) = _; exact eqB (by rfl))) ?_
  iterate 3 refine ar_skip rfl rfl rfl ?_
  iterate 3 refine pA ?_
  refine ar_ent (ent_reg 110 (.r (.bool true)) (by show AVal.r (.bool _) = _; exact eqB (by rfl))) ?_
  iterate 3 refine pA ?_
  refine ar_ent (ent_reg 113 (.r (.bool true)) (by show AVal.r (.bool _) = _; exact eqB (by simp [ke3.1]))) ?_
  iterate 10 refine ar_skip rfl rfl rfl ?_
  iterate 3 refine pA ?_
  refine ar_nil ?_
  refine ag_ret tOk Try.func3 rfl rfl (by simp) ?_
  exact eqB (by simp)
theorem w_OnceNNN (L : List EvV) (key : List UInt8) (c4 : Pur Try.prog 10 [roE L, .r (.str key)] (.tuple [txA tx0, .r (.bool false)])) (c5 : Pur Try.prog 11 [roE L, .r (.str key)] (.tuple [eventA ev0, .r (.bool false)])) (c6 : Pur Try.prog 12 [roE L, .r (.str key)] (.tuple [eventA ev0, .r (.bool false)])) : Pur Try.prog 3 [roE L, .r (.str key)] (.r (.bool true)) := by
  refine spec_of_go (N := 126) Try.func3 rfl (by decide) rfl rfl ?_
  refine zB ?_
  refine pA ?_
  refine zA ?_
  refine zB ?_
  refine ar_pur (w_alive14) rfl rfl rfl rfl rfl rfl rfl ?_
  refine pA ?_
  refine ar_nil ?_
  refine ag_false rfl (rfl) ?_
  refine ag_skip ?_
  refine zB ?_
  iterate 2 refine pA ?_
  refine ar_pur (c4) rfl rfl rfl rfl rfl rfl rfl ?_
  iterate 3 refine pA ?_
  refine ar_new tOk rfl rfl rfl ?_ ?_
  · simp
  refine ar_store (h' := ⟨1, [(0, some (.mixed ((txC tx0).map .r))), (0, some (.mixed ((txC tx0).map .r)))], false⟩) (c := True) tOk (by kernel_rfl) rfl rfl trivial ?_
  refine pA ?_
  refine ar_nil ?_
  refine ag_ent (ent_weak (g' := [(0, roE L), (1, .r (.str key)), (5, .ptr 0 0), (6, .r (.bool false))]) (h' := ⟨1, [(0, some (.mixed ((txC tx0).map .r)))], false⟩) [0] rfl rfl rfl rfl ?_ ?_ rfl) ?_
  · exact ⟨⟨rfl, rfl⟩, ⟨rfl, rfl⟩, ⟨rfl, rfl⟩, ⟨rfl, rfl⟩, trivial⟩
  · exact ⟨⟨rfl, rfl, rfl⟩, trivial⟩
  refine zB ?_
  iterate 2 refine pA ?_
  refine ar_pur (c5) rfl rfl rfl rfl rfl rfl rfl ?_
  iterate 3 refine pA ?_
  refine ar_new tOk rfl rfl rfl ?_ ?_
  · simp
  refine ar_store (h' := ⟨2, [(1, some (.mixed ((evC ev0).map .r))), (1, some (.mixed ((evC ev0).map .r))), (0, some (.mixed ((txC tx0).map .r)))], false⟩) (c := True) tOk (by kernel_rfl) rfl rfl trivial ?_
  refine pA ?_
  refine ar_nil ?_
  refine ag_ent (ent_weak (g' := [(0, roE L), (1, .r (.str key)), (5, .ptr 0 0), (6, .r (.bool false)), (7, .ptr 1 0), (8, .r (.bool false))]) (h' := ⟨2, [(0, some (.mixed ((txC tx0).map .r))), (1, some (.mixed ((evC ev0).map .r)))], false⟩) [0, 1] rfl rfl rfl rfl ?_ ?_ rfl) ?_
  · exact ⟨⟨rfl, rfl⟩, ⟨rfl, rfl⟩, ⟨rfl, rfl⟩, ⟨rfl, rfl⟩, ⟨rfl, rfl⟩, ⟨rfl, rfl⟩, trivial⟩
  · exact ⟨⟨rfl, rfl, rfl⟩, ⟨rfl, rfl, rfl⟩, trivial⟩
  refine zB ?_
  iterate 2 refine pA ?_
  refine ar_pur (c6) rfl rfl rfl rfl rfl rfl rfl ?_
  iterate 3 refine pA ?_
  refine ar_new tOk rfl rfl rfl ?_ ?_
  · simp
  refine ar_store (h' := ⟨3, [(2, some (.mixed ((evC ev0).map .r))), (2, some (.mixed ((evC ev0).map .r))), (0, some (.mixed ((txC tx0).map .r))), (1, some (.mixed ((evC ev0).map .r)))], false⟩) (c := True) tOk (by kernel_rfl) rfl rfl trivial ?_
  refine pA ?_
  refine ar_nil ?_
  refine ag_ent (ent_weak (g' := [(1, .r (.str key)), (5, .ptr 0 0), (6, .r (.bool false)), (7, .ptr 1 0), (8, .r (.bool false)), (9, .ptr 2 0), (10, .r (.bool false))]) (h' := ⟨3, [(0, some (.mixed ((txC tx0).map .r))), (1, some (.mixed ((evC ev0).map .r))), (2, some (.mixed ((evC ev0).map .r)))], false⟩) [0, 1, 2] rfl rfl rfl rfl ?_ ?_ rfl) ?_
  · exact ⟨⟨rfl, rfl⟩, ⟨rfl, rfl⟩, ⟨rfl, rfl⟩, ⟨rfl, rfl⟩, ⟨rfl, rfl⟩, ⟨rfl, rfl⟩, ⟨rfl, rfl⟩, trivial⟩
  · exact ⟨⟨rfl, rfl, rfl⟩, ⟨rfl, rfl, rfl⟩, ⟨rfl, rfl, rfl⟩, trivial⟩
  refine ag_seq ?_
  refine zB ?_
  iterate 2 refine pA ?_
  refine ar_ent (ent_reg 32 (.r (.bool false)) (by show AVal.r (.bool _) = _; exact eqB (by rfl))) ?_
  iterate 10 refine ar_skip rfl rfl rfl ?_
  iterate 2 refine pA ?_
  refine ar_ent (ent_reg 44 (.r (.bool false)) (by show AVal.r (.bool _) = _; exact eqB (by rfl))) ?_
  iterate 2 refine pA ?_
  refine ar_ent (ent_reg 46 (.r (.bool false)) (by show AVal.r (.bool _) = _; exact eqB (by rfl))) ?_
  iterate 17 refine ar_skip rfl rfl rfl ?_
  iterate 3 refine pA ?_
  refine ar_ent (ent_reg 66 (.r (.bool false)) (by show AVal.r (.bool _) = _; exact eqB (by rfl))) ?_
  iterate 2 refine pA ?_
  refine ar_ent (ent_reg 68 (.r (.bool false)) (by show AVal.r (.bool _) = _; exact eqB (by rfl))) ?_
  iterate 17 refine ar_skip rfl rfl rfl ?_
  iterate 2 refine pA ?_
  refine ar_nil ?_
  refine ag_false rfl (by simp) ?_
  refine ag_skip ?_
  refine zB ?_
  iterate 2 refine pA ?_
  refine ar_ent (ent_reg 89 (.r (.bool false)) (by show AVal.r (.bool _) = _; exact eqB (by rfl))) ?_
  refine pB ?_
  refine ar_pure tOk rfl rfl rfl ?_ ?_
  · simp
  iterate 3 refine pA ?_
  refine ar_ent (ent_reg 94 (.r (.bool true)) (by show AVal.r (.bool _) = _; exact eqB (by decide))) ?_
  iterate 2 refine pA ?_
  refine ar_ent (ent_reg 96 (.r (.bool false)) (by show AVal.r (.bool _) = _; exact eqB (by rfl))) ?_
  refine pB ?_
  refine ar_pure tOk rfl rfl rfl ?_ ?_
  · simp
  iterate 4 refine pA ?_
  refine ar_ent (ent_reg 102 (.r (.bool true)) (by show AVal.r (.bool _) = _; exact eqB (by decide))) ?_
  iterate 2 refine pA ?_
  refine ar_ent (ent_reg 104 (.r (.bool false)) (by show AVal.r (.bool _) = _; exact eqB (by rfl))) ?_
  refine pB ?_
  refine ar_pure tOk rfl rfl rfl ?_ ?_
  · simp
  iterate 4 refine pA ?_
  refine ar_ent (ent_reg 110 (.r (.bool true)) (by show AVal.r (.bool _) = _; exact eqB (by decide))) ?_
  iterate 3 refine pA ?_
  refine ar_guard (t := decide (key ≠ [])) (fun ht => ?_) (fun ht => ?_)
  · refine ar_ent (ent_reg 113 (.r (.bool true)) (by show AVal.r (.bool _) = _; exact eqB ht)) ?_
    skip
    repeat (first | refine ar_skip rfl rfl rfl ?_ | refine ar_pure tOk rfl rfl rfl trivial ?_)
    refine ar_nil ?_
    refine ag_ret tOk Try.func3 rfl rfl (by simp) ?_
    exact eqB (by simp)
  · refine ar_ent (ent_reg 113 (.r (.bool false)) (by show AVal.r (.bool _) = _; exact eqB ht)) ?_
    skip
    iterate 3 refine pA ?_
    refine ar_ent (ent_reg 116 (.r (.bool true)) (by show AVal.r (.bool _) = _; exact eqB (by rfl))) ?_
    iterate 4 refine pA ?_
    refine ar_ent (ent_reg 120 (.r (.bool true)) (by show AVal.r (.bool _) = _; exact eqB (by rfl))) ?_
    iterate 6 refine pA ?_
    refine ar_nil ?_
    refine ag_ret tOk Try.func3 rfl rfl (by simp) ?_
    exact eqB (by simp)
theorem w_ScanOnce (L : List EvV) (hok : ∀ e ∈ L, e.x.ok) (hL : L.length ≤ 9223372036854775807) (key : List UInt8) : Pur Try.prog 3 [roE L, .r (.str key)] (.r (.bool true)) := by
  have c4 := w_Prepared L hok hL key
  have c5 := w_Fulfilled L hok hL key
  have c6 := w_Cancelled L hok hL key
  cases he1 : fstV L key 4 with
  | none =>
    rw [he1] at c4
    cases he2 : fstV L key 5 with
    | none =>
      rw [he2] at c5
      cases he3 : fstV L key 6 with
      | none =>
        rw [he3] at c6
        exact w_OnceNNN L key c4 c5 c6
      | some e3 =>
        rw [he3] at c6
        exact w_OnceNNY L key c4 c5 e3 (hok _ (find_mem he3)) (find_ev he3) c6
    | some e2 =>
      rw [he2] at c5
      cases he3 : fstV L key 6 with
      | none =>
        rw [he3] at c6
        exact w_OnceNYN L key c4 e2 (hok _ (find_mem he2)) (find_ev he2) c5 c6
      | some e3 =>
        rw [he3] at c6
        exact w_OnceNYY L key c4 e2 (hok _ (find_mem he2)) (find_ev he2) c5 e3 (hok _ (find_mem he3)) (find_ev he3) c6
  | some e1 =>
    rw [he1] at c4
    cases he2 : fstV L key 5 with
    | none =>
      rw [he2] at c5
      cases he3 : fstV L key 6 with
      | none =>
        rw [he3] at c6
        exact w_OnceYNN L key e1 (hok _ (find_mem he1)) (find_ev he1) c4 c5 c6
      | some e3 =>
        rw [he3] at c6
        exact w_OnceYNY L key e1 (hok _ (find_mem he1)) (find_ev he1) c4 c5 e3 (hok _ (find_mem he3)) (find_ev he3) c6
    | some e2 =>
      rw [he2] at c5
      cases he3 : fstV L key 6 with
      | none =>
        rw [he3] at c6
        exact w_OnceYYN L key e1 (hok _ (find_mem he1)) (find_ev he1) c4 e2 (hok _ (find_mem he2)) (find_ev he2) c5 c6
      | some e3 =>
        rw [he3] at c6
        exact w_OnceYYY L key e1 (hok _ (find_mem he1)) (find_ev he1) c4 e2 (hok _ (find_mem he2)) (find_ev he2) c5 e3 (hok _ (find_mem he3)) (find_ev he3) c6
end Go.Proofs.Ytancdgbclbkpkaa


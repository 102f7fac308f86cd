/-
  WALKS: the law MailCuts. (Printed by gen.py out of w_lmail3.py.)
-/
import Derived.Test.YtnodpljgcdkbkaaLMail2
namespace Go.Proofs.Ytnodpljgcdkbkaa
open Go
set_option maxRecDepth 20000
set_option linter.unusedVariables false
set_option linter.unusedSimpArgs false
theorem putM_len {m : MsgV} (h : (putM m).2 = 0) : 6 ≤ (putM m).1.length ∧ (putM m).1.length ≤ 2000 := by
  obtain ⟨e, q⟩ := putM_E h
  have := msB_length e
  rw [q]
  refine ⟨?_, this⟩
  simp only [msB, List.length_append, numL_length]; omega
theorem rdm_more2 {m : MsgV} (hm : m.ok) (h : (putM m).2 = 0) (r : List UInt8) : (rdM ((putM m).1 ++ r)).2 = 0 ↔ r = [] := by
  obtain ⟨e, q⟩ := putM_E h
  rw [q]; exact rdm_more hm e r
theorem w_MailCuts (m : MsgV) (hm : m.ok) (cut : Int) (more : List UInt8) (hmore : more.length ≤ 140737488351232) : Pur Try.prog 3 [msgA m, .r (.int .i64 cut), .r (.bs more)] (.r (.bool true)) := by
  have c1 := w_mPut m hm
  have f1 := fun h => putM_len (m := m) h
  have f2 := fun h c hc => rdm_cut (m := m) hm h (c := c) hc
  have f3 := fun h => rdm_more2 (m := m) hm h more
  generalize putM m = o at c1 f1 f2 f3
  refine spec_of_go (N := 65) Try.func3 rfl (by decide) rfl rfl ?_
  refine zB ?_
  refine ar_new tOk rfl rfl rfl trivial ?_
  refine pA ?_
  refine zA ?_
  refine zB ?_
  refine ar_pur (w_alive10) rfl rfl rfl rfl rfl rfl rfl ?_
  refine pA ?_
  refine ar_nil ?_
  refine ag_false rfl (rfl) ?_
  refine ag_skip ?_
  refine zB ?_
  refine pB ?_
  refine ar_pur (c1) rfl rfl rfl rfl rfl rfl rfl ?_
  iterate 5 refine pA ?_
  refine ar_nil ?_
  refine ag_ent (ent_weak (g' := [(1, .r (.int .i64 cut)), (2, .r (.bs more)), (7, .r (.bs o.1)), (8, .r (.int .i64 o.2))]) (h' := ⟨0, [], false⟩) [] rfl rfl rfl rfl ?_ ?_ rfl) ?_
  · exact ⟨⟨rfl, rfl⟩, ⟨rfl, rfl⟩, ⟨rfl, rfl⟩, ⟨rfl, rfl⟩, trivial⟩
  · trivial
  refine ag_seq ?_
  refine zB ?_
  iterate 3 refine pA ?_
  refine ar_guard (t := decide (o.2 ≠ 0)) (fun ht => ?_) (fun ht => ?_)
  · refine ar_ent (ent_reg 22 (.r (.bool true)) (by show AVal.r (.bool _) = _; exact eqB ht)) ?_
    have hk := of_decide_eq_true ht
    repeat (first | refine ar_skip rfl rfl rfl ?_ | refine ar_pure tOk rfl rfl rfl trivial ?_)
    refine ar_nil ?_
    refine ag_true rfl (by rfl) ?_
    refine zB ?_
    iterate 3 refine pA ?_
    refine ar_nil ?_
    refine ag_ret tOk Try.func3 rfl rfl (by simp) ?_
    exact eqB (by simpa using hk)
  · refine ar_ent (ent_reg 22 (.r (.bool false)) (by show AVal.r (.bool _) = _; exact eqB ht)) ?_
    have hk0 := of_decide_eq_false ht
    have h0 : o.2 = 0 := by omega
    obtain ⟨l1, l2⟩ := f1 h0
    have hn0 : ((o.1.length : Nat) : Int) ≠ 0 := by omega
    have q1 := Int.lt_tmod_of_pos cut (show (0 : Int) < ((o.1.length : Nat) : Int) by omega)
    have q2 := Int.tmod_lt_of_pos cut (show (0 : Int) < ((o.1.length : Nat) : Int) by omega)
    obtain ⟨c, hc⟩ : ∃ c : Nat, Int.tmod (Int.tmod cut (o.1.length : Int) + (o.1.length : Int)) (o.1.length : Int) = (c : Int) := ⟨_, (Int.toNat_of_nonneg (Int.tmod_nonneg _ (by omega))).symm⟩
    have q3 := Int.tmod_lt_of_pos (Int.tmod cut (o.1.length : Int) + (o.1.length : Int)) (show (0 : Int) < ((o.1.length : Nat) : Int) by omega)
    rw [hc] at q3
    have hcl : c < o.1.length := by omega
    have g2 := f2 h0 c hcl
    have g3 := f3 h0
    have c3 := w_mRead (o.1.take c)
    have c4 := w_mRead (o.1 ++ more)
    generalize rdM (o.1.take c) = ra at g2 c3
    generalize rdM (o.1 ++ more) = rb at g3 c4
    clear f1 f2 f3
    iterate 4 refine pA ?_
    refine ar_nil ?_
    refine ag_false rfl (decide_eq_false hn0) ?_
    refine ag_skip ?_
    refine zB ?_
    iterate 3 refine pA ?_
    refine ar_pure tOk rfl rfl rfl ?_ ?_
    · exact hn0
    iterate 2 refine pA ?_
    refine ar_pure tOk rfl rfl rfl ?_ ?_
    · unfold inI64; omega
    iterate 2 refine pA ?_
    refine ar_pure tOk rfl rfl rfl ?_ ?_
    · exact hn0
    refine ar_ent (ent_reg 38 (.r (.int .i64 ((c : Int)))) (by show AVal.r (.int _ _) = _; exact eqI (hc))) ?_
    refine pA ?_
    refine zC ?_
    iterate 2 refine pA ?_
    refine ar_pure tOk rfl rfl rfl ?_ ?_
    · simp only [boundsOk]; omega
    refine ar_ent (ent_reg 42 (.r (.bs (o.1.take c))) (by show AVal.r (.bs _) = _; exact eqBsv (by simp [cutL, mulz]))) ?_
    refine ar_pur (c3) rfl rfl rfl rfl rfl rfl rfl ?_
    iterate 3 refine pA ?_
    refine ar_new tOk rfl rfl rfl ?_ ?_
    · simp
    refine ar_store (h' := ⟨1, [(0, some (.mixed ((msgC (ra.1)).map .r))), (0, some (.mixed ((msgC (msg0)).map .r)))], false⟩) (c := True) tOk (by kernel_rfl) rfl rfl trivial ?_
    refine pA ?_
    refine ar_nil ?_
    refine ag_ent (ent_weak (g' := [(2, .r (.bs more)), (7, .r (.bs o.1)), (10, .r (.int .i64 ra.2))]) (h' := ⟨0, [], false⟩) [] rfl rfl rfl rfl ?_ ?_ rfl) ?_
    · exact ⟨⟨rfl, rfl⟩, ⟨rfl, rfl⟩, ⟨rfl, rfl⟩, trivial⟩
    · trivial
    refine zB ?_
    refine ar_new tOk rfl rfl rfl ?_ ?_
    · simp
    refine pA ?_
    refine ar_app tOk rfl rfl rfl ?_ ?_
    · refine ⟨⟨?_, ?_, ?_⟩, ⟨?_, ?_⟩, ⟨?_, ?_⟩, ?_⟩ <;> first | trivial | omega | (simp; done) | (simp; omega)
    refine pA ?_
    refine ar_app tOk rfl rfl rfl ?_ ?_
    · refine ⟨⟨?_, ?_, ?_⟩, ⟨?_, ?_⟩, ⟨?_, ?_⟩, ?_⟩ <;> first | trivial | omega | (simp; done) | (simp; omega)
    refine ar_ent (ent_freeze 51 rfl rfl rfl ⟨by simp [cutA_eq, List.take_of_length_le], rfl⟩) ?_
    refine ar_ent (ent_reg 51 (.r (.bs (o.1 ++ more))) (by show AVal.r (.bs (cutA _ 0 _)) = _; exact eqBsv (by simp [cutA_eq, List.take_of_length_le]))) ?_
    refine ar_pur (c4) rfl rfl rfl rfl rfl rfl rfl ?_
    iterate 3 refine pA ?_
    refine ar_ent (ent_weak (g' := [(2, .r (.bs more)), (10, .r (.int .i64 ra.2)), (53, msgA rb.1), (54, .r (.int .i64 rb.2))]) (h' := ⟨0, [], false⟩) [] rfl rfl rfl rfl ?_ ?_ rfl) ?_
    · exact ⟨⟨rfl, rfl⟩, ⟨rfl, rfl⟩, ⟨rfl, rfl⟩, ⟨rfl, rfl⟩, trivial⟩
    · trivial
    refine ar_new tOk rfl rfl rfl ?_ ?_
    · simp
    refine ar_store (h' := ⟨1, [(0, some (.mixed ((msgC (rb.1)).map .r))), (0, some (.mixed ((msgC (msg0)).map .r)))], false⟩) (c := True) tOk (by kernel_rfl) rfl rfl trivial ?_
    refine pA ?_
    refine zC ?_
    iterate 3 refine pA ?_
    refine ar_ent (ent_reg 57 (.r (.bool true)) (by show AVal.r (.bool _) = _; exact eqB (by simpa using g2))) ?_
    iterate 8 refine pA ?_
    refine ar_nil ?_
    refine ag_ret tOk Try.func3 rfl rfl (by simp) ?_
    exact eqB (by simp [g3])
end Go.Proofs.Ytnodpljgcdkbkaa


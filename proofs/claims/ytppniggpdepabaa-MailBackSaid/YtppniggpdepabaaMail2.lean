/-
  WALKS: messages told by the reference, and put. (Printed by gen.py out of w_mail2.py.)
-/
import Derived.Test.YtppniggpdepabaaMail
namespace Go.Proofs.Ytppniggpdepabaa
open Go
set_option maxRecDepth 20000
set_option linter.unusedVariables false
set_option linter.unusedSimpArgs false

section
variable {P : Program} {T : TTab} {N : Nat} {ops : Array Oper} {o : Oper} {rest : List Oper} {g : Regs} {ld : List Nat} {K ix : Nat} {F : Regs → Prop}
theorem aq_load3 {Hs : Nat → Hp} {j : Nat} (hTO : TOk P T) {d : Nat} {v : AVal} {c : Prop} {t : Bool} (hp : stepLoad T N g (Hs 0) o = some (d, v, c)) (hl : limAt ld ops ix = 3) (hd : o.dst = some d) (hN : Nat.blt d N = true) (hg : guardB ops g o = some t) (ht : t = true) (hc : c)
    (hp1 : ∃ c, stepLoad T N g (Hs 1) o = some (d, v, c) ∧ c) (hp2 : ∃ c, stepLoad T N g (Hs 2) o = some (d, v, c) ∧ c) (hp3 : ∃ c, stepLoad T N g (Hs 3) o = some (d, v, c) ∧ c) (hk : QGo P N ld ops Hs K F rest (ix + 1) j ((d, v) :: g)) : QGo P N ld ops Hs K F (o :: rest) ix j g := by
  refine aq_load hTO hd hN (fun i hi => ?_) hg ht hk
  rw [hl] at hi
  rcases i with _ | _ | _ | i
  · exact ⟨c, hp, hc⟩
  · exact hp1
  · exact hp2
  · have : i = 0 := by omega
    subst this; exact hp3
end

theorem varE_n8 {v : VarV} (h : varE v ≠ 0) : varBad v := by
  by_cases p : varBad v
  · exact p
  · exact absurd (by rw [varE, if_neg p]) h

theorem w_rMsg1 (m : MsgV) (hm : m.ok) (hk : m.k = 1) : Pur Try.prog 38 [msgA m] (.tuple [msgA (⟨m.k, m.a, bid0, inv0, var0, 0, 0, 0, 0, []⟩), .r (.int .i64 (msgE m))]) := by
  refine spec_of_go (N := 62) Try.func38 rfl (by decide) rfl rfl ?_
  refine z2 ?_
  refine ar_new tOk rfl rfl rfl trivial ?_
  refine ar_new tOk rfl rfl rfl ?_ ?_
  · simp
  refine p1 ?_
  refine z3 ?_
  refine p1 ?_
  refine p2 ?_
  refine ar_pure tOk rfl rfl rfl ?_ ?_
  · simp
  refine ar_ent (ent_reg 7 (msgA ⟨m.k, ask0, bid0, inv0, var0, 0, 0, 0, 0, []⟩) (by kernel_rfl)) ?_
  refine ar_new tOk rfl rfl rfl ?_ ?_
  · simp
  refine ar_store (h' := ⟨3, [(2, some (.mixed ((msgC (⟨m.k, ask0, bid0, inv0, var0, 0, 0, 0, 0, []⟩)).map .r))), (2, some (.mixed ((msgC (msg0)).map .r))), (1, some (.mixed ((msgC (msg0)).map .r))), (0, some (.mixed ((msgC (m)).map .r)))], false⟩) (c := True) tOk (by kernel_rfl) rfl rfl trivial ?_
  refine ar_nil ?_
  refine ag_ent (ent_weak (g' := [(1, .ptr 0 0), (2, .ptr 1 0), (4, .ptr 2 0)]) (h' := ⟨3, [(0, some (.mixed ((msgC (m)).map .r))), (1, some (.mixed ((msgC (msg0)).map .r))), (2, some (.mixed ((msgC (⟨m.k, ask0, bid0, inv0, var0, 0, 0, 0, 0, []⟩)).map .r)))], false⟩) [0, 1, 2] rfl rfl rfl rfl ?_ ?_ rfl) ?_
  · exact ⟨⟨rfl, rfl⟩, ⟨rfl, rfl⟩, ⟨rfl, rfl⟩, trivial⟩
  · exact ⟨⟨rfl, rfl, rfl⟩, ⟨rfl, rfl, rfl⟩, ⟨rfl, rfl, rfl⟩, trivial⟩
  refine ag_seq ?_
  refine z2 ?_
  refine p1 ?_
  refine p2 ?_
  refine ar_nil ?_
  refine ag_block ?_
  refine z2 ?_
  iterate 2 refine p1 ?_
  refine ar_nil ?_
  refine ag_true rfl (decide_eq_true (show m.k = 1 by omega)) ?_
  refine z2 ?_
  refine p1 ?_
  refine p2 ?_
  refine p1 ?_
  refine ar_store (h' := ⟨3, [(2, some (.mixed ((msgC (⟨m.k, m.a, bid0, inv0, var0, 0, 0, 0, 0, []⟩)).map .r))), (0, some (.mixed ((msgC (m)).map .r))), (1, some (.mixed ((msgC (msg0)).map .r))), (2, some (.mixed ((msgC (⟨m.k, ask0, bid0, inv0, var0, 0, 0, 0, 0, []⟩)).map .r)))], false⟩) (c := True) tOk (by kernel_rfl) rfl rfl trivial ?_
  refine ar_nil ?_
  refine ag_ent (ent_weak (g' := [(1, .ptr 0 0), (2, .ptr 1 0), (4, .ptr 2 0)]) (h' := ⟨3, [(0, some (.mixed ((msgC (m)).map .r))), (1, some (.mixed ((msgC (msg0)).map .r))), (2, some (.mixed ((msgC (⟨m.k, m.a, bid0, inv0, var0, 0, 0, 0, 0, []⟩)).map .r)))], false⟩) [0, 1, 2] rfl rfl rfl rfl ?_ ?_ rfl) ?_
  · exact ⟨⟨rfl, rfl⟩, ⟨rfl, rfl⟩, ⟨rfl, rfl⟩, trivial⟩
  · exact ⟨⟨rfl, rfl, rfl⟩, ⟨rfl, rfl, rfl⟩, ⟨rfl, rfl, rfl⟩, trivial⟩
  refine ag_seq ?_
  apply ag_draw1 [] (by kernel_rfl) (by kernel_rfl)
  refine aq_load0 tOk rfl (by kernel_rfl) rfl rfl trivial ?_
  refine aq_pure tOk rfl rfl rfl trivial ?_
  refine aq_load0 tOk rfl (by kernel_rfl) rfl rfl trivial ?_
  refine aq_pur (w_rAsk m.a) rfl rfl rfl rfl rfl rfl rfl ?_
  refine aq_store10 (h' := ⟨3, [(1, some (.mixed ((msgC (⟨m.k, m.a, bid0, inv0, var0, 0, 0, 0, 0, []⟩)).map .r))), (0, some (.mixed ((msgC (m)).map .r))), (1, some (.mixed ((msgC (msg0)).map .r))), (2, some (.mixed ((msgC (⟨m.k, m.a, bid0, inv0, var0, 0, 0, 0, 0, []⟩)).map .r)))], false⟩) (c := True) tOk (by kernel_rfl) rfl rfl rfl trivial ?_
  refine aq_pure tOk rfl rfl rfl trivial ?_
  refine aq_nil rfl ?_
  refine ag_ret tOk Try.func38 rfl rfl (by first | trivial | exact ⟨trivial, trivial⟩ | simp) ?_
  rw [show msgE m = _ from by rw [msgE, if_pos hk]]
  rfl
  all_goals exact ⟨_, rfl, trivial⟩

theorem w_rMsg2 (m : MsgV) (hm : m.ok) (hk : m.k = 2) : Pur Try.prog 38 [msgA m] (.tuple [msgA (⟨m.k, ask0, m.b, inv0, var0, 0, 0, 0, 0, []⟩), .r (.int .i64 (msgE m))]) := by
  refine spec_of_go (N := 62) Try.func38 rfl (by decide) rfl rfl ?_
  refine z2 ?_
  refine ar_new tOk rfl rfl rfl trivial ?_
  refine ar_new tOk rfl rfl rfl ?_ ?_
  · simp
  refine p1 ?_
  refine z3 ?_
  refine p1 ?_
  refine p2 ?_
  refine ar_pure tOk rfl rfl rfl ?_ ?_
  · simp
  refine ar_ent (ent_reg 7 (msgA ⟨m.k, ask0, bid0, inv0, var0, 0, 0, 0, 0, []⟩) (by kernel_rfl)) ?_
  refine ar_new tOk rfl rfl rfl ?_ ?_
  · simp
  refine ar_store (h' := ⟨3, [(2, some (.mixed ((msgC (⟨m.k, ask0, bid0, inv0, var0, 0, 0, 0, 0, []⟩)).map .r))), (2, some (.mixed ((msgC (msg0)).map .r))), (1, some (.mixed ((msgC (msg0)).map .r))), (0, some (.mixed ((msgC (m)).map .r)))], false⟩) (c := True) tOk (by kernel_rfl) rfl rfl trivial ?_
  refine ar_nil ?_
  refine ag_ent (ent_weak (g' := [(1, .ptr 0 0), (2, .ptr 1 0), (4, .ptr 2 0)]) (h' := ⟨3, [(0, some (.mixed ((msgC (m)).map .r))), (1, some (.mixed ((msgC (msg0)).map .r))), (2, some (.mixed ((msgC (⟨m.k, ask0, bid0, inv0, var0, 0, 0, 0, 0, []⟩)).map .r)))], false⟩) [0, 1, 2] rfl rfl rfl rfl ?_ ?_ rfl) ?_
  · exact ⟨⟨rfl, rfl⟩, ⟨rfl, rfl⟩, ⟨rfl, rfl⟩, trivial⟩
  · exact ⟨⟨rfl, rfl, rfl⟩, ⟨rfl, rfl, rfl⟩, ⟨rfl, rfl, rfl⟩, trivial⟩
  refine ag_seq ?_
  refine z2 ?_
  refine p1 ?_
  refine p2 ?_
  refine ar_nil ?_
  refine ag_block ?_
  refine z2 ?_
  iterate 2 refine p1 ?_
  refine ar_nil ?_
  refine ag_false rfl (decide_eq_false (show ¬ m.k = 1 by omega)) ?_
  refine z2 ?_
  iterate 2 refine p1 ?_
  refine ar_nil ?_
  refine ag_true rfl (decide_eq_true (show m.k = 2 by omega)) ?_
  refine z2 ?_
  refine p1 ?_
  refine p2 ?_
  refine p1 ?_
  refine ar_store (h' := ⟨3, [(2, some (.mixed ((msgC (⟨m.k, ask0, m.b, inv0, var0, 0, 0, 0, 0, []⟩)).map .r))), (0, some (.mixed ((msgC (m)).map .r))), (1, some (.mixed ((msgC (msg0)).map .r))), (2, some (.mixed ((msgC (⟨m.k, ask0, bid0, inv0, var0, 0, 0, 0, 0, []⟩)).map .r)))], false⟩) (c := True) tOk (by kernel_rfl) rfl rfl trivial ?_
  refine ar_nil ?_
  refine ag_ent (ent_weak (g' := [(1, .ptr 0 0), (2, .ptr 1 0), (4, .ptr 2 0)]) (h' := ⟨3, [(0, some (.mixed ((msgC (m)).map .r))), (1, some (.mixed ((msgC (msg0)).map .r))), (2, some (.mixed ((msgC (⟨m.k, ask0, m.b, inv0, var0, 0, 0, 0, 0, []⟩)).map .r)))], false⟩) [0, 1, 2] rfl rfl rfl rfl ?_ ?_ rfl) ?_
  · exact ⟨⟨rfl, rfl⟩, ⟨rfl, rfl⟩, ⟨rfl, rfl⟩, trivial⟩
  · exact ⟨⟨rfl, rfl, rfl⟩, ⟨rfl, rfl, rfl⟩, ⟨rfl, rfl, rfl⟩, trivial⟩
  refine ag_seq ?_
  apply ag_draw1 [] (by kernel_rfl) (by kernel_rfl)
  refine aq_load0 tOk rfl (by kernel_rfl) rfl rfl trivial ?_
  refine aq_pure tOk rfl rfl rfl trivial ?_
  refine aq_load0 tOk rfl (by kernel_rfl) rfl rfl trivial ?_
  refine aq_pur (w_rBid m.b hm.b) rfl rfl rfl rfl rfl rfl rfl ?_
  refine aq_store10 (h' := ⟨3, [(1, some (.mixed ((msgC (⟨m.k, ask0, m.b, inv0, var0, 0, 0, 0, 0, []⟩)).map .r))), (0, some (.mixed ((msgC (m)).map .r))), (1, some (.mixed ((msgC (msg0)).map .r))), (2, some (.mixed ((msgC (⟨m.k, ask0, m.b, inv0, var0, 0, 0, 0, 0, []⟩)).map .r)))], false⟩) (c := True) tOk (by kernel_rfl) rfl rfl rfl trivial ?_
  refine aq_pure tOk rfl rfl rfl trivial ?_
  refine aq_nil rfl ?_
  refine ag_ret tOk Try.func38 rfl rfl (by first | trivial | exact ⟨trivial, trivial⟩ | simp) ?_
  rw [show msgE m = _ from by rw [msgE, if_neg (by omega), if_pos hk]]
  rfl
  all_goals exact ⟨_, rfl, trivial⟩

theorem w_rMsg3 (m : MsgV) (hm : m.ok) (hk : m.k = 3) : Pur Try.prog 38 [msgA m] (.tuple [msgA (⟨m.k, ask0, bid0, m.i, m.v, m.g0, m.g1, m.g2, m.g3, m.sig⟩), .r (.int .i64 (msgE m))]) := by
  refine spec_of_go (N := 62) Try.func38 rfl (by decide) rfl rfl ?_
  refine z2 ?_
  refine ar_new tOk rfl rfl rfl trivial ?_
  refine ar_new tOk rfl rfl rfl ?_ ?_
  · simp
  refine p1 ?_
  refine z3 ?_
  refine p1 ?_
  refine p2 ?_
  refine ar_pure tOk rfl rfl rfl ?_ ?_
  · simp
  refine ar_ent (ent_reg 7 (msgA ⟨m.k, ask0, bid0, inv0, var0, 0, 0, 0, 0, []⟩) (by kernel_rfl)) ?_
  refine ar_new tOk rfl rfl rfl ?_ ?_
  · simp
  refine ar_store (h' := ⟨3, [(2, some (.mixed ((msgC (⟨m.k, ask0, bid0, inv0, var0, 0, 0, 0, 0, []⟩)).map .r))), (2, some (.mixed ((msgC (msg0)).map .r))), (1, some (.mixed ((msgC (msg0)).map .r))), (0, some (.mixed ((msgC (m)).map .r)))], false⟩) (c := True) tOk (by kernel_rfl) rfl rfl trivial ?_
  refine ar_nil ?_
  refine ag_ent (ent_weak (g' := [(1, .ptr 0 0), (2, .ptr 1 0), (4, .ptr 2 0)]) (h' := ⟨3, [(0, some (.mixed ((msgC (m)).map .r))), (1, some (.mixed ((msgC (msg0)).map .r))), (2, some (.mixed ((msgC (⟨m.k, ask0, bid0, inv0, var0, 0, 0, 0, 0, []⟩)).map .r)))], false⟩) [0, 1, 2] rfl rfl rfl rfl ?_ ?_ rfl) ?_
  · exact ⟨⟨rfl, rfl⟩, ⟨rfl, rfl⟩, ⟨rfl, rfl⟩, trivial⟩
  · exact ⟨⟨rfl, rfl, rfl⟩, ⟨rfl, rfl, rfl⟩, ⟨rfl, rfl, rfl⟩, trivial⟩
  refine ag_seq ?_
  refine z2 ?_
  refine p1 ?_
  refine p2 ?_
  refine ar_nil ?_
  refine ag_block ?_
  refine z2 ?_
  iterate 2 refine p1 ?_
  refine ar_nil ?_
  refine ag_false rfl (decide_eq_false (show ¬ m.k = 1 by omega)) ?_
  refine z2 ?_
  iterate 2 refine p1 ?_
  refine ar_nil ?_
  refine ag_false rfl (decide_eq_false (show ¬ m.k = 2 by omega)) ?_
  refine z2 ?_
  iterate 2 refine p1 ?_
  refine ar_nil ?_
  refine ag_true rfl (decide_eq_true (show m.k = 3 by omega)) ?_
  refine ag_draw (Hs := hsL [⟨3, [(0, some (.mixed ((msgC (m)).map .r))), (1, some (.mixed ((msgC (msg0)).map .r))), (2, some (.mixed ((msgC (⟨m.k, ask0, bid0, inv0, var0, 0, 0, 0, 0, []⟩)).map .r)))], false⟩, ⟨3, [(2, some (.mixed ((msgC (⟨m.k, ask0, bid0, m.i, var0, 0, 0, 0, 0, []⟩)).map .r))), (0, some (.mixed ((msgC (m)).map .r))), (1, some (.mixed ((msgC (msg0)).map .r))), (2, some (.mixed ((msgC (⟨m.k, ask0, bid0, inv0, var0, 0, 0, 0, 0, []⟩)).map .r)))], false⟩, ⟨3, [(2, some (.mixed ((msgC (⟨m.k, ask0, bid0, m.i, m.v, 0, 0, 0, 0, []⟩)).map .r))), (2, some (.mixed ((msgC (⟨m.k, ask0, bid0, m.i, var0, 0, 0, 0, 0, []⟩)).map .r))), (0, some (.mixed ((msgC (m)).map .r))), (1, some (.mixed ((msgC (msg0)).map .r))), (2, some (.mixed ((msgC (⟨m.k, ask0, bid0, inv0, var0, 0, 0, 0, 0, []⟩)).map .r)))], false⟩, ⟨3, [(2, some (.mixed ((msgC (⟨m.k, ask0, bid0, m.i, m.v, m.g0, m.g1, m.g2, m.g3, []⟩)).map .r))), (2, some (.mixed ((msgC (⟨m.k, ask0, bid0, m.i, m.v, 0, 0, 0, 0, []⟩)).map .r))), (2, some (.mixed ((msgC (⟨m.k, ask0, bid0, m.i, var0, 0, 0, 0, 0, []⟩)).map .r))), (0, some (.mixed ((msgC (m)).map .r))), (1, some (.mixed ((msgC (msg0)).map .r))), (2, some (.mixed ((msgC (⟨m.k, ask0, bid0, inv0, var0, 0, 0, 0, 0, []⟩)).map .r)))], false⟩, ⟨3, [(2, some (.mixed ((msgC (⟨m.k, ask0, bid0, m.i, m.v, m.g0, m.g1, m.g2, m.g3, m.sig⟩)).map .r))), (2, some (.mixed ((msgC (⟨m.k, ask0, bid0, m.i, m.v, m.g0, m.g1, m.g2, m.g3, []⟩)).map .r))), (2, some (.mixed ((msgC (⟨m.k, ask0, bid0, m.i, m.v, 0, 0, 0, 0, []⟩)).map .r))), (2, some (.mixed ((msgC (⟨m.k, ask0, bid0, m.i, var0, 0, 0, 0, 0, []⟩)).map .r))), (0, some (.mixed ((msgC (m)).map .r))), (1, some (.mixed ((msgC (msg0)).map .r))), (2, some (.mixed ((msgC (⟨m.k, ask0, bid0, inv0, var0, 0, 0, 0, 0, []⟩)).map .r)))], false⟩]) (K := 4) [] (by kernel_rfl) (by kernel_rfl) ?_
  refine aq_pure tOk rfl rfl rfl trivial ?_
  refine aq_load0 tOk rfl (by kernel_rfl) rfl rfl trivial ?_
  refine aq_pure tOk rfl rfl rfl trivial ?_
  refine aq_load1 tOk rfl (by kernel_rfl) rfl rfl rfl rfl trivial ⟨_, rfl, trivial⟩ ?_
  refine aq_pure tOk rfl rfl rfl trivial ?_
  refine aq_load2 tOk rfl (by kernel_rfl) rfl rfl rfl rfl trivial ⟨_, rfl, trivial⟩ ⟨_, rfl, trivial⟩ ?_
  refine aq_pure tOk rfl rfl rfl trivial ?_
  refine aq_load3 tOk rfl (by kernel_rfl) rfl rfl rfl rfl trivial ⟨_, rfl, trivial⟩ ⟨_, rfl, trivial⟩ ⟨_, rfl, trivial⟩ ?_
  refine aq_pure tOk rfl rfl rfl trivial ?_
  refine aq_store (h' := ⟨3, [(2, some (.mixed ((msgC (⟨m.k, ask0, bid0, m.i, var0, 0, 0, 0, 0, []⟩)).map .r))), (0, some (.mixed ((msgC (m)).map .r))), (1, some (.mixed ((msgC (msg0)).map .r))), (2, some (.mixed ((msgC (⟨m.k, ask0, bid0, inv0, var0, 0, 0, 0, 0, []⟩)).map .r)))], false⟩) (c := True) tOk rfl (by kernel_rfl) rfl rfl rfl trivial ?_
  refine aq_pure tOk rfl rfl rfl trivial ?_
  refine aq_store (h' := ⟨3, [(2, some (.mixed ((msgC (⟨m.k, ask0, bid0, m.i, m.v, 0, 0, 0, 0, []⟩)).map .r))), (2, some (.mixed ((msgC (⟨m.k, ask0, bid0, m.i, var0, 0, 0, 0, 0, []⟩)).map .r))), (0, some (.mixed ((msgC (m)).map .r))), (1, some (.mixed ((msgC (msg0)).map .r))), (2, some (.mixed ((msgC (⟨m.k, ask0, bid0, inv0, var0, 0, 0, 0, 0, []⟩)).map .r)))], false⟩) (c := True) tOk rfl (by kernel_rfl) rfl rfl rfl trivial ?_
  refine aq_pure tOk rfl rfl rfl trivial ?_
  refine aq_store (h' := ⟨3, [(2, some (.mixed ((msgC (⟨m.k, ask0, bid0, m.i, m.v, m.g0, m.g1, m.g2, m.g3, []⟩)).map .r))), (2, some (.mixed ((msgC (⟨m.k, ask0, bid0, m.i, m.v, 0, 0, 0, 0, []⟩)).map .r))), (2, some (.mixed ((msgC (⟨m.k, ask0, bid0, m.i, var0, 0, 0, 0, 0, []⟩)).map .r))), (0, some (.mixed ((msgC (m)).map .r))), (1, some (.mixed ((msgC (msg0)).map .r))), (2, some (.mixed ((msgC (⟨m.k, ask0, bid0, inv0, var0, 0, 0, 0, 0, []⟩)).map .r)))], false⟩) (c := True) tOk rfl (by kernel_rfl) rfl rfl rfl trivial ?_
  refine aq_pure tOk rfl rfl rfl trivial ?_
  refine aq_store (h' := ⟨3, [(2, some (.mixed ((msgC (⟨m.k, ask0, bid0, m.i, m.v, m.g0, m.g1, m.g2, m.g3, m.sig⟩)).map .r))), (2, some (.mixed ((msgC (⟨m.k, ask0, bid0, m.i, m.v, m.g0, m.g1, m.g2, m.g3, []⟩)).map .r))), (2, some (.mixed ((msgC (⟨m.k, ask0, bid0, m.i, m.v, 0, 0, 0, 0, []⟩)).map .r))), (2, some (.mixed ((msgC (⟨m.k, ask0, bid0, m.i, var0, 0, 0, 0, 0, []⟩)).map .r))), (0, some (.mixed ((msgC (m)).map .r))), (1, some (.mixed ((msgC (msg0)).map .r))), (2, some (.mixed ((msgC (⟨m.k, ask0, bid0, inv0, var0, 0, 0, 0, 0, []⟩)).map .r)))], false⟩) (c := True) tOk rfl (by kernel_rfl) rfl rfl rfl trivial ?_
  refine aq_nil rfl ?_
  refine ag_ent (ent_weak (g' := [(1, .ptr 0 0), (2, .ptr 1 0), (4, .ptr 2 0)]) (h' := ⟨3, [(0, some (.mixed ((msgC (m)).map .r))), (1, some (.mixed ((msgC (msg0)).map .r))), (2, some (.mixed ((msgC (⟨m.k, ask0, bid0, m.i, m.v, m.g0, m.g1, m.g2, m.g3, m.sig⟩)).map .r)))], false⟩) [0, 1, 2] rfl rfl rfl rfl ?_ ?_ rfl) ?_
  · exact ⟨⟨rfl, rfl⟩, ⟨rfl, rfl⟩, ⟨rfl, rfl⟩, trivial⟩
  · exact ⟨⟨rfl, rfl, rfl⟩, ⟨rfl, rfl, rfl⟩, ⟨rfl, rfl, rfl⟩, trivial⟩
  refine ag_inBlock ?_
  refine ag_seq ?_
  refine ag_block ?_
  refine z2 ?_
  refine p1 ?_
  refine p2 ?_
  refine ar_pur (w_rInv m.i) rfl rfl rfl rfl rfl rfl rfl ?_
  iterate 2 refine p1 ?_
  refine ar_nil ?_
  refine ag_if rfl ?_ ?_
  · intro h43
    refine z2 ?_
    refine p2 ?_
    refine ar_store (h' := ⟨3, [(1, some (.mixed ((msgC (⟨m.k, ask0, bid0, m.i, m.v, m.g0, m.g1, m.g2, m.g3, m.sig⟩)).map .r))), (0, some (.mixed ((msgC (m)).map .r))), (1, some (.mixed ((msgC (msg0)).map .r))), (2, some (.mixed ((msgC (⟨m.k, ask0, bid0, m.i, m.v, m.g0, m.g1, m.g2, m.g3, m.sig⟩)).map .r)))], false⟩) (c := True) tOk (by kernel_rfl) rfl rfl trivial ?_
    refine p1 ?_
    refine ar_nil ?_
    refine ag_ret tOk Try.func38 rfl rfl (by first | trivial | exact ⟨trivial, trivial⟩ | simp) ?_
    rw [show msgE m = _ from by rw [msgE, if_neg (by omega), if_neg (by omega), if_pos hk, if_pos h43]]
    rw [invE, if_pos (invE_n8 h43)]
    rfl
    all_goals exact ⟨_, rfl, trivial⟩
  · intro h43
    refine z2 ?_
    refine p1 ?_
    refine p2 ?_
    refine ar_pur (w_rVar m.v) rfl rfl rfl rfl rfl rfl rfl ?_
    iterate 2 refine p1 ?_
    refine ar_nil ?_
    refine ag_if rfl ?_ ?_
    · intro h49
      refine z2 ?_
      refine p2 ?_
      refine ar_store (h' := ⟨3, [(1, some (.mixed ((msgC (⟨m.k, ask0, bid0, m.i, m.v, m.g0, m.g1, m.g2, m.g3, m.sig⟩)).map .r))), (0, some (.mixed ((msgC (m)).map .r))), (1, some (.mixed ((msgC (msg0)).map .r))), (2, some (.mixed ((msgC (⟨m.k, ask0, bid0, m.i, m.v, m.g0, m.g1, m.g2, m.g3, m.sig⟩)).map .r)))], false⟩) (c := True) tOk (by kernel_rfl) rfl rfl trivial ?_
      refine p1 ?_
      refine ar_nil ?_
      refine ag_ret tOk Try.func38 rfl rfl (by first | trivial | exact ⟨trivial, trivial⟩ | simp) ?_
      rw [show msgE m = _ from by rw [msgE, if_neg (by omega), if_neg (by omega), if_pos hk, if_neg h43, if_pos h49]]
      rw [varE, if_pos (varE_n8 h49)]
      rfl
      all_goals exact ⟨_, rfl, trivial⟩
    · intro h49
      refine z2 ?_
      refine p1 ?_
      refine p2 ?_
      iterate 3 refine p1 ?_
      refine ar_nil ?_
      refine ag_if rfl ?_ ?_
      · intro h55
        refine z2 ?_
        refine p2 ?_
        refine ar_store (h' := ⟨3, [(1, some (.mixed ((msgC (⟨m.k, ask0, bid0, m.i, m.v, m.g0, m.g1, m.g2, m.g3, m.sig⟩)).map .r))), (0, some (.mixed ((msgC (m)).map .r))), (1, some (.mixed ((msgC (msg0)).map .r))), (2, some (.mixed ((msgC (⟨m.k, ask0, bid0, m.i, m.v, m.g0, m.g1, m.g2, m.g3, m.sig⟩)).map .r)))], false⟩) (c := True) tOk (by kernel_rfl) rfl rfl trivial ?_
        refine p1 ?_
        refine ar_nil ?_
        refine ag_ret tOk Try.func38 rfl rfl (by first | trivial | exact ⟨trivial, trivial⟩ | simp) ?_
        rw [show msgE m = _ from by rw [msgE, if_neg (by omega), if_neg (by omega), if_pos hk, if_neg h43, if_neg h49, if_pos (by omega)]]
        rfl
        all_goals exact ⟨_, rfl, trivial⟩
      · intro h55
        refine ag_skip ?_
        refine ag_inBlock ?_
        refine z2 ?_
        refine p2 ?_
        refine ar_store (h' := ⟨3, [(1, some (.mixed ((msgC (⟨m.k, ask0, bid0, m.i, m.v, m.g0, m.g1, m.g2, m.g3, m.sig⟩)).map .r))), (0, some (.mixed ((msgC (m)).map .r))), (1, some (.mixed ((msgC (msg0)).map .r))), (2, some (.mixed ((msgC (⟨m.k, ask0, bid0, m.i, m.v, m.g0, m.g1, m.g2, m.g3, m.sig⟩)).map .r)))], false⟩) (c := True) tOk (by kernel_rfl) rfl rfl trivial ?_
        refine p1 ?_
        refine ar_nil ?_
        refine ag_ret tOk Try.func38 rfl rfl (by first | trivial | exact ⟨trivial, trivial⟩ | simp) ?_
        rw [show msgE m = _ from by rw [msgE, if_neg (by omega), if_neg (by omega), if_pos hk, if_neg h43, if_neg h49, if_neg (by omega)]]
        rfl
        all_goals exact ⟨_, rfl, trivial⟩

theorem w_rMsg0 (m : MsgV) (hm : m.ok) (hk : ¬ m.k = 1 ∧ ¬ m.k = 2 ∧ ¬ m.k = 3) : Pur Try.prog 38 [msgA m] (.tuple [msgA (⟨m.k, ask0, bid0, inv0, var0, 0, 0, 0, 0, []⟩), .r (.int .i64 (msgE m))]) := by
  refine spec_of_go (N := 62) Try.func38 rfl (by decide) rfl rfl ?_
  refine z2 ?_
  refine ar_new tOk rfl rfl rfl trivial ?_
  refine ar_new tOk rfl rfl rfl ?_ ?_
  · simp
  refine p1 ?_
  refine z3 ?_
  refine p1 ?_
  refine p2 ?_
  refine ar_pure tOk rfl rfl rfl ?_ ?_
  · simp
  refine ar_ent (ent_reg 7 (msgA ⟨m.k, ask0, bid0, inv0, var0, 0, 0, 0, 0, []⟩) (by kernel_rfl)) ?_
  refine ar_new tOk rfl rfl rfl ?_ ?_
  · simp
  refine ar_store (h' := ⟨3, [(2, some (.mixed ((msgC (⟨m.k, ask0, bid0, inv0, var0, 0, 0, 0, 0, []⟩)).map .r))), (2, some (.mixed ((msgC (msg0)).map .r))), (1, some (.mixed ((msgC (msg0)).map .r))), (0, some (.mixed ((msgC (m)).map .r)))], false⟩) (c := True) tOk (by kernel_rfl) rfl rfl trivial ?_
  refine ar_nil ?_
  refine ag_ent (ent_weak (g' := [(1, .ptr 0 0), (2, .ptr 1 0), (4, .ptr 2 0)]) (h' := ⟨3, [(0, some (.mixed ((msgC (m)).map .r))), (1, some (.mixed ((msgC (msg0)).map .r))), (2, some (.mixed ((msgC (⟨m.k, ask0, bid0, inv0, var0, 0, 0, 0, 0, []⟩)).map .r)))], false⟩) [0, 1, 2] rfl rfl rfl rfl ?_ ?_ rfl) ?_
  · exact ⟨⟨rfl, rfl⟩, ⟨rfl, rfl⟩, ⟨rfl, rfl⟩, trivial⟩
  · exact ⟨⟨rfl, rfl, rfl⟩, ⟨rfl, rfl, rfl⟩, ⟨rfl, rfl, rfl⟩, trivial⟩
  refine ag_seq ?_
  refine z2 ?_
  refine p1 ?_
  refine p2 ?_
  refine ar_nil ?_
  refine ag_block ?_
  refine z2 ?_
  iterate 2 refine p1 ?_
  refine ar_nil ?_
  refine ag_false rfl (decide_eq_false (show ¬ m.k = 1 by omega)) ?_
  refine z2 ?_
  iterate 2 refine p1 ?_
  refine ar_nil ?_
  refine ag_false rfl (decide_eq_false (show ¬ m.k = 2 by omega)) ?_
  refine z2 ?_
  iterate 2 refine p1 ?_
  refine ar_nil ?_
  refine ag_false rfl (decide_eq_false (show ¬ m.k = 3 by omega)) ?_
  refine z2 ?_
  refine p2 ?_
  refine ar_store (h' := ⟨3, [(1, some (.mixed ((msgC (⟨m.k, ask0, bid0, inv0, var0, 0, 0, 0, 0, []⟩)).map .r))), (0, some (.mixed ((msgC (m)).map .r))), (1, some (.mixed ((msgC (msg0)).map .r))), (2, some (.mixed ((msgC (⟨m.k, ask0, bid0, inv0, var0, 0, 0, 0, 0, []⟩)).map .r)))], false⟩) (c := True) tOk (by kernel_rfl) rfl rfl trivial ?_
  refine p1 ?_
  refine ar_nil ?_
  refine ag_ret tOk Try.func38 rfl rfl (by first | trivial | exact ⟨trivial, trivial⟩ | simp) ?_
  rw [show msgE m = _ from by rw [msgE, if_neg (by omega), if_neg (by omega), if_neg (by omega)]]
  rfl
  all_goals exact ⟨_, rfl, trivial⟩

end Go.Proofs.Ytppniggpdepabaa

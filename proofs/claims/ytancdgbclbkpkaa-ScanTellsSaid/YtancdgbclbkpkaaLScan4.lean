/-
  WALKS: the law ScanTells. (Printed by gen.py out of w_lscan4.py.)
-/
import Derived.Test.YtancdgbclbkpkaaLScan3
namespace Go.Proofs.Ytancdgbclbkpkaa
open Go
set_option maxRecDepth 20000
set_option linter.unusedVariables false
set_option linter.unusedSimpArgs false
def stLST_0 (L : List EvV) (acc : Int) : Nat × List TxV × List EvV → Regs × Hp := fun ⟨i, D, M⟩ => ([(0, roE L), (2, .r (.int .i64 acc)), (21, aT 0 D), (22, aE D M), (23, .r (.int .i64 (lastL (L.take i)))), (24, .r (.int .i64 (i : Int)))], hDM D M)
def prLST_0 (L : List EvV) (acc : Int) : Nat × List TxV × List EvV → Prop := fun ⟨i, D, M⟩ => i ≤ L.length ∧ D = dealsL (L.take i) ∧ M = keepL acc (L.take i)
def stLST_2 (L : List EvV) (acc : Int) : Nat → Regs × Hp := fun i => ([(25, roT (dealsL L)), (26, roE (keepL acc L)), (21, roT (dealsL L)), (22, roE (keepL acc L)), (27, .r (.int .i64 (i : Int)))], ⟨0, [], false⟩)
def prLST_2 (L : List EvV) (acc : Int) : Nat → Prop := fun i => i ≤ (dealsL L).length
def stLST_4 (L : List EvV) (acc : Int) : Nat → Regs × Hp := fun i => ([(25, roT (dealsL L)), (26, roE (keepL acc L)), (21, roT (dealsL L)), (22, roE (keepL acc L)), (28, .r (.int .i64 (i : Int)))], ⟨0, [], false⟩)
def prLST_4 (L : List EvV) (acc : Int) : Nat → Prop := fun i => i ≤ (keepL acc L).length
set_option maxHeartbeats 1000000 in
theorem w_ScanTells (L : List EvV) (hok : ∀ e ∈ L, e.x.ok) (hL : L.length * 240 ≤ 140737488355328) (at_ acc : Int) : Pur Try.prog 5 [roE L, .r (.int .i64 at_), .r (.int .i64 acc)] (.r (.bool true)) := by
  refine spec_of_go (N := 217) Try.func5 rfl (by decide) rfl rfl ?_
  refine zB ?_
  refine pA ?_
  refine zA ?_
  refine zB ?_
  refine ar_pur (w_alive14) rfl rfl rfl rfl rfl rfl rfl ?_
  refine pA ?_
  refine ar_nil ?_
  refine ag_false rfl (rfl) ?_
  refine ag_skip ?_
  refine zB ?_
  refine pA ?_
  refine zA ?_
  refine zB ?_
  iterate 3 refine pA ?_
  refine zC ?_
  iterate 2 refine pA ?_
  refine ar_nil ?_
  refine ag_join (fun (key : List UInt8) => ([(0, roE L), (2, .r (.int .i64 acc)), (7, .r (.str key))], ⟨0, [], false⟩)) (fun key => True) ?_ ?_
  · intro hjn
    refine ag_if rfl ?_ ?_
    · intro h34
      have hn0 : ((L.length : Nat) : Int) ≠ 0 := by omega
      have q1 := Int.lt_tmod_of_pos at_ (show (0 : Int) < ((L.length : Nat) : Int) by omega)
      have q2 := Int.tmod_lt_of_pos at_ (show (0 : Int) < ((L.length : Nat) : Int) by omega)
      obtain ⟨i, hi⟩ : ∃ i : Nat, Int.tmod (Int.tmod at_ (L.length : Int) + (L.length : Int)) (L.length : Int) = (i : Int) := ⟨_, (Int.toNat_of_nonneg (Int.tmod_nonneg _ (by omega))).symm⟩
      have q3 := Int.tmod_lt_of_pos (Int.tmod at_ (L.length : Int) + (L.length : Int)) (show (0 : Int) < ((L.length : Nat) : Int) by omega)
      rw [hi] at q3
      obtain ⟨e, hx⟩ : ∃ e, L[i]? = some e := ⟨L[i]'(by omega), by simp⟩
      have hex := hok e (List.mem_of_getElem? hx)
      have cK := w_dKey e.x.inv hex.inv
      refine ag_reg ?_
      iterate 3 refine pA ?_
      refine ar_pure tOk rfl rfl rfl ?_ ?_
      · exact hn0
      refine pA ?_
      refine ar_pure tOk rfl rfl rfl ?_ ?_
      · unfold inI64; omega
      refine pA ?_
      refine ar_pure tOk rfl rfl rfl ?_ ?_
      · exact hn0
      refine ar_ent (ent_reg 42 (.r (.int .i64 ((i : Int)))) (by show AVal.r (.int _ _) = _; exact eqI (hi))) ?_
      refine ar_pure tOk rfl rfl rfl ?_ ?_
      · refine ⟨?_, ?_⟩ <;> first | omega | exact evsC_ne hx | (refine ⟨?_, ?_⟩ <;> omega)
      iterate 2 refine pA ?_
      refine ar_loadAs tOk (invA e.x.inv) rfl rfl rfl rfl rfl rfl rfl (.inr ⟨rfl, _, rfl, by rw [addo_eq, addo_eq, mulz_eq, Int.toNat_natCast]; exact evsC_inv3 hx, rfl⟩) ?_
      refine ar_pur (cK) rfl rfl rfl rfl rfl rfl rfl ?_
      refine pA ?_
      refine ar_nil ?_
      refine ag_ent (ent_weak (g' := (((fun (key : List UInt8) => ([(0, roE L), (2, .r (.int .i64 acc)), (7, .r (.str key))], ⟨0, [], false⟩)) (keyL e.x.inv)) : Regs × Hp).1) (h' := (((fun (key : List UInt8) => ([(0, roE L), (2, .r (.int .i64 acc)), (7, .r (.str key))], ⟨0, [], false⟩)) (keyL e.x.inv)) : Regs × Hp).2) [] rfl rfl rfl rfl ?_ ?_ rfl) (hjn (keyL e.x.inv) ?_)
      · exact ⟨⟨rfl, rfl⟩, ⟨rfl, rfl⟩, ⟨rfl, rfl⟩, trivial⟩
      · trivial
      · trivial
    · intro h34
      refine ag_skip ?_
      refine ag_ent (ent_weak (g' := (((fun (key : List UInt8) => ([(0, roE L), (2, .r (.int .i64 acc)), (7, .r (.str key))], ⟨0, [], false⟩)) [110, 111, 110, 101]) : Regs × Hp).1) (h' := (((fun (key : List UInt8) => ([(0, roE L), (2, .r (.int .i64 acc)), (7, .r (.str key))], ⟨0, [], false⟩)) [110, 111, 110, 101]) : Regs × Hp).2) [] rfl rfl rfl rfl ?_ ?_ rfl) (hjn [110, 111, 110, 101] ?_)
      · exact ⟨⟨rfl, rfl⟩, ⟨rfl, rfl⟩, ⟨rfl, rfl⟩, trivial⟩
      · trivial
      · trivial
  · rintro key hjp
    have c4 := w_Prepared L hok (by omega) key
    have d4 := w_first14 L hok (by omega) key 4
    obtain ⟨e4, he4⟩ : ∃ e, e = (fstV L key 4).getD ev0 := ⟨_, rfl⟩
    obtain ⟨b4, hb4⟩ : ∃ b, b = (fstV L key 4).isSome := ⟨_, rfl⟩
    rw [← he4, ← hb4] at c4 d4
    clear he4 hb4
    have c5 := w_Fulfilled L hok (by omega) key
    have d5 := w_first14 L hok (by omega) key 5
    obtain ⟨e5, he5⟩ : ∃ e, e = (fstV L key 5).getD ev0 := ⟨_, rfl⟩
    obtain ⟨b5, hb5⟩ : ∃ b, b = (fstV L key 5).isSome := ⟨_, rfl⟩
    rw [← he5, ← hb5] at c5 d5
    clear he5 hb5
    have c6 := w_Cancelled L hok (by omega) key
    have d6 := w_first14 L hok (by omega) key 6
    obtain ⟨e6, he6⟩ : ∃ e, e = (fstV L key 6).getD ev0 := ⟨_, rfl⟩
    obtain ⟨b6, hb6⟩ : ∃ b, b = (fstV L key 6).isSome := ⟨_, rfl⟩
    rw [← he6, ← hb6] at c6 d6
    clear he6 hb6
    refine zB ?_
    iterate 2 refine pA ?_
    refine ar_pur (c4) rfl rfl rfl rfl rfl rfl rfl ?_
    iterate 3 refine pA ?_
    refine ar_new tOk rfl rfl rfl ?_ ?_
    · simp
    refine ar_store (h' := ⟨1, [(0, some (.mixed ((txC e4.x).map .r))), (0, some (.mixed ((txC tx0).map .r)))], false⟩) (c := True) tOk (by kernel_rfl) rfl rfl trivial ?_
    refine pA ?_
    refine ar_nil ?_
    refine ag_ent (ent_weak (g' := [(0, roE L), (2, .r (.int .i64 acc)), (7, .r (.str key)), (9, .ptr 0 0), (10, .r (.bool b4))]) (h' := ⟨1, [(0, some (.mixed ((txC e4.x).map .r)))], false⟩) [0] rfl rfl rfl rfl ?_ ?_ rfl) ?_
    · exact ⟨⟨rfl, rfl⟩, ⟨rfl, rfl⟩, ⟨rfl, rfl⟩, ⟨rfl, rfl⟩, ⟨rfl, rfl⟩, trivial⟩
    · exact ⟨⟨rfl, rfl, rfl⟩, trivial⟩
    refine zB ?_
    iterate 2 refine pA ?_
    refine ar_pur (c5) rfl rfl rfl rfl rfl rfl rfl ?_
    iterate 3 refine pA ?_
    refine ar_new tOk rfl rfl rfl ?_ ?_
    · simp
    refine ar_store (h' := ⟨2, [(1, some (.mixed ((evC e5).map .r))), (1, some (.mixed ((evC ev0).map .r))), (0, some (.mixed ((txC e4.x).map .r)))], false⟩) (c := True) tOk (by kernel_rfl) rfl rfl trivial ?_
    refine pA ?_
    refine ar_nil ?_
    refine ag_ent (ent_weak (g' := [(0, roE L), (2, .r (.int .i64 acc)), (7, .r (.str key)), (9, .ptr 0 0), (10, .r (.bool b4)), (11, .ptr 1 0), (12, .r (.bool b5))]) (h' := ⟨2, [(0, some (.mixed ((txC e4.x).map .r))), (1, some (.mixed ((evC e5).map .r)))], false⟩) [0, 1] rfl rfl rfl rfl ?_ ?_ rfl) ?_
    · exact ⟨⟨rfl, rfl⟩, ⟨rfl, rfl⟩, ⟨rfl, rfl⟩, ⟨rfl, rfl⟩, ⟨rfl, rfl⟩, ⟨rfl, rfl⟩, ⟨rfl, rfl⟩, trivial⟩
    · exact ⟨⟨rfl, rfl, rfl⟩, ⟨rfl, rfl, rfl⟩, trivial⟩
    refine zB ?_
    iterate 2 refine pA ?_
    refine ar_pur (c6) rfl rfl rfl rfl rfl rfl rfl ?_
    iterate 3 refine pA ?_
    refine ar_new tOk rfl rfl rfl ?_ ?_
    · simp
    refine ar_store (h' := ⟨3, [(2, some (.mixed ((evC e6).map .r))), (2, some (.mixed ((evC ev0).map .r))), (0, some (.mixed ((txC e4.x).map .r))), (1, some (.mixed ((evC e5).map .r)))], false⟩) (c := True) tOk (by kernel_rfl) rfl rfl trivial ?_
    refine pA ?_
    refine ar_nil ?_
    refine ag_ent (ent_weak (g' := [(0, roE L), (2, .r (.int .i64 acc)), (7, .r (.str key)), (9, .ptr 0 0), (10, .r (.bool b4)), (11, .ptr 1 0), (12, .r (.bool b5)), (13, .ptr 2 0), (14, .r (.bool b6))]) (h' := ⟨3, [(0, some (.mixed ((txC e4.x).map .r))), (1, some (.mixed ((evC e5).map .r))), (2, some (.mixed ((evC e6).map .r)))], false⟩) [0, 1, 2] rfl rfl rfl rfl ?_ ?_ rfl) ?_
    · exact ⟨⟨rfl, rfl⟩, ⟨rfl, rfl⟩, ⟨rfl, rfl⟩, ⟨rfl, rfl⟩, ⟨rfl, rfl⟩, ⟨rfl, rfl⟩, ⟨rfl, rfl⟩, ⟨rfl, rfl⟩, ⟨rfl, rfl⟩, trivial⟩
    · exact ⟨⟨rfl, rfl, rfl⟩, ⟨rfl, rfl, rfl⟩, ⟨rfl, rfl, rfl⟩, trivial⟩
    refine zB ?_
    iterate 2 refine pA ?_
    refine ar_pur (d4) rfl rfl rfl rfl rfl rfl rfl ?_
    iterate 3 refine pA ?_
    refine ar_new tOk rfl rfl rfl ?_ ?_
    · simp
    refine ar_store (h' := ⟨4, [(3, some (.mixed ((evC e4).map .r))), (3, some (.mixed ((evC ev0).map .r))), (0, some (.mixed ((txC e4.x).map .r))), (1, some (.mixed ((evC e5).map .r))), (2, some (.mixed ((evC e6).map .r)))], false⟩) (c := True) tOk (by kernel_rfl) rfl rfl trivial ?_
    refine pA ?_
    refine ar_nil ?_
    refine ag_ent (ent_weak (g' := [(0, roE L), (2, .r (.int .i64 acc)), (7, .r (.str key)), (9, .ptr 0 0), (10, .r (.bool b4)), (11, .ptr 1 0), (12, .r (.bool b5)), (13, .ptr 2 0), (14, .r (.bool b6)), (15, .ptr 3 0), (16, .r (.bool b4))]) (h' := ⟨4, [(0, some (.mixed ((txC e4.x).map .r))), (1, some (.mixed ((evC e5).map .r))), (2, some (.mixed ((evC e6).map .r))), (3, some (.mixed ((evC e4).map .r)))], false⟩) [0, 1, 2, 3] rfl rfl rfl rfl ?_ ?_ rfl) ?_
    · exact ⟨⟨rfl, rfl⟩, ⟨rfl, rfl⟩, ⟨rfl, rfl⟩, ⟨rfl, rfl⟩, ⟨rfl, rfl⟩, ⟨rfl, rfl⟩, ⟨rfl, rfl⟩, ⟨rfl, rfl⟩, ⟨rfl, rfl⟩, ⟨rfl, rfl⟩, ⟨rfl, rfl⟩, trivial⟩
    · exact ⟨⟨rfl, rfl, rfl⟩, ⟨rfl, rfl, rfl⟩, ⟨rfl, rfl, rfl⟩, ⟨rfl, rfl, rfl⟩, trivial⟩
    refine zB ?_
    iterate 2 refine pA ?_
    refine ar_pur (d5) rfl rfl rfl rfl rfl rfl rfl ?_
    iterate 3 refine pA ?_
    refine ar_new tOk rfl rfl rfl ?_ ?_
    · simp
    refine ar_store (h' := ⟨5, [(4, some (.mixed ((evC e5).map .r))), (4, some (.mixed ((evC ev0).map .r))), (0, some (.mixed ((txC e4.x).map .r))), (1, some (.mixed ((evC e5).map .r))), (2, some (.mixed ((evC e6).map .r))), (3, some (.mixed ((evC e4).map .r)))], false⟩) (c := True) tOk (by kernel_rfl) rfl rfl trivial ?_
    refine pA ?_
    refine ar_nil ?_
    refine ag_ent (ent_weak (g' := [(0, roE L), (2, .r (.int .i64 acc)), (7, .r (.str key)), (9, .ptr 0 0), (10, .r (.bool b4)), (11, .ptr 1 0), (12, .r (.bool b5)), (13, .ptr 2 0), (14, .r (.bool b6)), (15, .ptr 3 0), (16, .r (.bool b4)), (17, .ptr 4 0), (18, .r (.bool b5))]) (h' := ⟨5, [(0, some (.mixed ((txC e4.x).map .r))), (1, some (.mixed ((evC e5).map .r))), (2, some (.mixed ((evC e6).map .r))), (3, some (.mixed ((evC e4).map .r))), (4, some (.mixed ((evC e5).map .r)))], false⟩) [0, 1, 2, 3, 4] rfl rfl rfl rfl ?_ ?_ rfl) ?_
    · exact ⟨⟨rfl, rfl⟩, ⟨rfl, rfl⟩, ⟨rfl, rfl⟩, ⟨rfl, rfl⟩, ⟨rfl, rfl⟩, ⟨rfl, rfl⟩, ⟨rfl, rfl⟩, ⟨rfl, rfl⟩, ⟨rfl, rfl⟩, ⟨rfl, rfl⟩, ⟨rfl, rfl⟩, ⟨rfl, rfl⟩, ⟨rfl, rfl⟩, trivial⟩
    · exact ⟨⟨rfl, rfl, rfl⟩, ⟨rfl, rfl, rfl⟩, ⟨rfl, rfl, rfl⟩, ⟨rfl, rfl, rfl⟩, ⟨rfl, rfl, rfl⟩, trivial⟩
    refine zB ?_
    iterate 2 refine pA ?_
    refine ar_pur (d6) rfl rfl rfl rfl rfl rfl rfl ?_
    iterate 3 refine pA ?_
    refine ar_new tOk rfl rfl rfl ?_ ?_
    · simp
    refine ar_store (h' := ⟨6, [(5, some (.mixed ((evC e6).map .r))), (5, some (.mixed ((evC ev0).map .r))), (0, some (.mixed ((txC e4.x).map .r))), (1, some (.mixed ((evC e5).map .r))), (2, some (.mixed ((evC e6).map .r))), (3, some (.mixed ((evC e4).map .r))), (4, some (.mixed ((evC e5).map .r)))], false⟩) (c := True) tOk (by kernel_rfl) rfl rfl trivial ?_
    refine pA ?_
    refine ar_nil ?_
    refine ag_ent (ent_weak (g' := [(0, roE L), (2, .r (.int .i64 acc)), (7, .r (.str key)), (9, .ptr 0 0), (10, .r (.bool b4)), (11, .ptr 1 0), (12, .r (.bool b5)), (13, .ptr 2 0), (14, .r (.bool b6)), (15, .ptr 3 0), (16, .r (.bool b4)), (17, .ptr 4 0), (18, .r (.bool b5)), (19, .ptr 5 0), (20, .r (.bool b6))]) (h' := ⟨6, [(0, some (.mixed ((txC e4.x).map .r))), (1, some (.mixed ((evC e5).map .r))), (2, some (.mixed ((evC e6).map .r))), (3, some (.mixed ((evC e4).map .r))), (4, some (.mixed ((evC e5).map .r))), (5, some (.mixed ((evC e6).map .r)))], false⟩) [0, 1, 2, 3, 4, 5] rfl rfl rfl rfl ?_ ?_ rfl) ?_
    · exact ⟨⟨rfl, rfl⟩, ⟨rfl, rfl⟩, ⟨rfl, rfl⟩, ⟨rfl, rfl⟩, ⟨rfl, rfl⟩, ⟨rfl, rfl⟩, ⟨rfl, rfl⟩, ⟨rfl, rfl⟩, ⟨rfl, rfl⟩, ⟨rfl, rfl⟩, ⟨rfl, rfl⟩, ⟨rfl, rfl⟩, ⟨rfl, rfl⟩, ⟨rfl, rfl⟩, ⟨rfl, rfl⟩, trivial⟩
    · exact ⟨⟨rfl, rfl, rfl⟩, ⟨rfl, rfl, rfl⟩, ⟨rfl, rfl, rfl⟩, ⟨rfl, rfl, rfl⟩, ⟨rfl, rfl, rfl⟩, ⟨rfl, rfl, rfl⟩, trivial⟩
    refine ag_seq ?_
    refine zB ?_
    refine pB ?_
    refine pA ?_
    refine pB ?_
    iterate 2 refine pA ?_
    refine ar_ent (ent_reg 88 (.r (.bool false)) (by show AVal.r (.bool _) = _; exact eqB (by simp))) ?_
    iterate 5 refine pA ?_
    refine ar_ent (ent_reg 93 (.r (.bool false)) (by show AVal.r (.bool _) = _; exact eqB (by simp))) ?_
    iterate 2 refine pB ?_
    iterate 3 refine pA ?_
    refine ar_ent (ent_reg 98 (.r (.bool false)) (by show AVal.r (.bool _) = _; exact eqB (by simp))) ?_
    iterate 5 refine pA ?_
    refine ar_ent (ent_reg 103 (.r (.bool false)) (by show AVal.r (.bool _) = _; exact eqB (by simp))) ?_
    iterate 2 refine pB ?_
    iterate 3 refine pA ?_
    refine ar_ent (ent_reg 108 (.r (.bool false)) (by show AVal.r (.bool _) = _; exact eqB (by simp))) ?_
    iterate 4 refine pA ?_
    refine ar_nil ?_
    refine ag_false rfl (by simp) ?_
    refine ag_skip ?_
    refine ag_seq ?_
    refine ag_ent (ent_weak (g' := [(0, roE L), (2, .r (.int .i64 acc))]) (h' := ⟨0, [], false⟩) [] rfl rfl rfl rfl ?_ ?_ rfl) ?_
    · exact ⟨⟨rfl, rfl⟩, ⟨rfl, rfl⟩, trivial⟩
    · trivial
    refine ag_reg ?_
    refine pA ?_
    refine zC ?_
    refine pA ?_
    refine zC ?_
    refine pA ?_
    refine zA ?_
    refine zB ?_
    refine pA ?_
    refine ar_nil ?_
    refine ag_join (fun (_u : Unit) => ([(0, roE L), (2, .r (.int .i64 acc)), (21, roT (dealsL L)), (22, roE (keepL acc L)), (23, .r (.int .i64 (lastL L)))], ⟨0, [], false⟩)) (fun _u => True) ?_ ?_
    · intro hjn
      refine ag_block ?_
      refine ag_loopS (stLST_0 L acc) (prLST_0 L acc) (fun ⟨i, D, M⟩ => L.length - i) (0, [], []) (ent_weak [] rfl rfl rfl rfl ?_ ?_ rfl) (show prLST_0 L acc (0, [], []) from ?_) ?_
      · exact ⟨⟨rfl, rfl⟩, ⟨rfl, rfl⟩, ⟨rfl, rfl⟩, ⟨rfl, rfl⟩, ⟨rfl, rfl⟩, ⟨rfl, rfl⟩, trivial⟩
      · trivial
      · exact ⟨Nat.zero_le _, rfl, rfl⟩
      rintro ⟨i, D, M⟩ hp hrec
      obtain ⟨hi, hD, hM⟩ : _ := hp
      iterate 2 refine ag_seq ?_
      rcases D with _ | ⟨a, l⟩ <;> rcases M with _ | ⟨b, r⟩
      · skip
        refine ag_ent (ent_weak (g' := [(0, roE L), (2, .r (.int .i64 acc)), (21, .r .nil), (22, .r .nil), (23, .r (.int .i64 (lastL (L.take i)))), (24, .r (.int .i64 (i : Int)))]) (h' := ⟨0, [], false⟩) [] rfl rfl rfl rfl ?_ ?_ rfl) ?_
        · exact ⟨⟨rfl, rfl⟩, ⟨rfl, rfl⟩, ⟨rfl, rfl⟩, ⟨rfl, rfl⟩, ⟨rfl, rfl⟩, ⟨rfl, rfl⟩, trivial⟩
        · trivial
        refine ag_reg ?_
        iterate 4 refine pA ?_
        refine ar_nil ?_
        refine ag_if rfl ?_ ?_
        · intro h116
          obtain ⟨e, hx⟩ : ∃ e, L[i]? = some e := ⟨L[i]'(by omega), by simp⟩
          have hdl := deals_len (L.take i)
          have hml := keep_len acc (L.take i)
          rw [← hD, List.length_take] at hdl
          rw [← hM, List.length_take] at hml
          simp only [List.length_cons, List.length_nil] at hdl hml
          
          
          refine ag_skip ?_
          refine ag_seq ?_
          refine ag_block ?_
          refine ag_seq ?_
          refine zB ?_
          iterate 2 refine pA ?_
          refine ar_pure tOk rfl rfl rfl ?_ ?_
          · refine ⟨?_, ?_⟩ <;> first | omega | exact evsC_ne hx | (refine ⟨?_, ?_⟩ <;> omega)
          refine pA ?_
          refine ar_loadAs tOk (.r (.int .i64 e.c)) rfl rfl rfl rfl rfl rfl rfl (.inl ⟨rfl, by exact evsC_at hx (k := 1) (by simp only [addo_eq, mulz_eq, Int.toNat_natCast] <;> omega) (by decide) rfl⟩) ?_
          iterate 2 refine pA ?_
          refine ar_guard (t := decide (e.c = 0)) (fun ht => ?_) (fun ht => ?_)
          · refine ar_ent (ent_reg 125 (.r (.bool true)) (by show AVal.r (.bool _) = _; rw [ht])) ?_
            have hc0 := of_decide_eq_true ht
            iterate 2 refine pA ?_
            refine ar_pure tOk rfl rfl rfl ?_ ?_
            · refine ⟨?_, ?_⟩ <;> first | omega | exact evsC_ne hx | (refine ⟨?_, ?_⟩ <;> omega)
            iterate 2 refine pA ?_
            refine ar_loadAs tOk (.r (.int .i64 e.x.k)) rfl rfl rfl rfl rfl rfl rfl (.inl ⟨rfl, by exact evsC_at hx (k := 4) (by simp only [addo_eq, mulz_eq, Int.toNat_natCast] <;> omega) (by decide) rfl⟩) ?_
            iterate 2 refine pA ?_
            refine ar_nil ?_
            refine ag_cond rfl ?_ ?_
            · intro h133
              have hdv : dealV e = true := by simpa [dealV, hc0] using h133
              refine ag_reg ?_
              iterate 3 refine pA ?_
              refine ar_pure tOk rfl rfl rfl ?_ ?_
              · refine ⟨?_, ?_⟩ <;> first | omega | exact evsC_ne hx | (refine ⟨?_, ?_⟩ <;> omega)
              refine pA ?_
              refine ar_loadAs tOk (txA e.x) rfl rfl rfl rfl rfl rfl rfl (.inr ⟨rfl, _, rfl, by rw [addo_eq, mulz_eq, Int.toNat_natCast]; exact evsC_tx hx, rfl⟩) ?_
              refine ar_qd rfl (qop_buildRoK tOk (v := .ro 1 (txC e.x)) (by kernel_rfl) (by kernel_rfl)) rfl rfl rfl rfl ?_
              refine ar_app tOk rfl rfl rfl ?_ ?_
              · refine ⟨⟨?_, ?_, ?_⟩, ⟨?_, ?_⟩, ⟨?_, ?_⟩, ?_⟩ <;> first | trivial | omega | (simp; done) | (simp; omega)
              refine pA ?_
              refine zA ?_
              refine zB ?_
              iterate 2 refine pA ?_
              refine ar_pure tOk rfl rfl rfl ?_ ?_
              · refine ⟨?_, ?_⟩ <;> first | omega | exact evsC_ne hx | (refine ⟨?_, ?_⟩ <;> omega)
              iterate 2 refine pA ?_
              refine ar_loadAs tOk (.r (.int .i64 e.x.f)) rfl rfl rfl rfl rfl rfl rfl (.inl ⟨rfl, by exact evsC_at hx (k := 2) (by simp only [addo_eq, mulz_eq, Int.toNat_natCast] <;> omega) (by decide) rfl⟩) ?_
              iterate 2 refine pA ?_
              refine ar_nil ?_
              refine ag_if rfl ?_ ?_
              · intro h149
                have hmv : ¬ delP acc e = true := by simpa [delP] using h149
                refine ag_reg ?_
                iterate 3 refine pA ?_
                refine ar_pure tOk rfl rfl rfl ?_ ?_
                · refine ⟨?_, ?_⟩ <;> first | omega | exact evsC_ne hx | (refine ⟨?_, ?_⟩ <;> omega)
                refine ar_loadAs tOk (eventA e) rfl rfl rfl rfl rfl rfl rfl (.inr ⟨rfl, _, rfl, by rw [mulz_eq, Int.toNat_natCast]; exact evsC_get hx, rfl⟩) ?_
                refine ar_qd rfl (qop_buildRoK tOk (v := .ro 1 (evC e)) (by kernel_rfl) (by kernel_rfl)) rfl rfl rfl rfl ?_
                refine ar_app tOk rfl rfl rfl ?_ ?_
                · refine ⟨⟨?_, ?_, ?_⟩, ⟨?_, ?_⟩, ⟨?_, ?_⟩, ?_⟩ <;> first | trivial | omega | (simp; done) | (simp; omega)
                refine pA ?_
                refine ar_nil ?_
                refine ag_reg ?_
                iterate 3 refine pA ?_
                refine ar_pure tOk rfl rfl rfl ?_ ?_
                · refine ⟨?_, ?_⟩ <;> first | omega | exact evsC_ne hx | (refine ⟨?_, ?_⟩ <;> omega)
                refine pA ?_
                refine ar_loadAs tOk (.r (.int .i64 e.t)) rfl rfl rfl rfl rfl rfl rfl (.inl ⟨rfl, by exact evsC_at hx (k := 0) (by simp only [addo_eq, mulz_eq, Int.toNat_natCast] <;> omega) (by decide) rfl⟩) ?_
                iterate 2 refine pA ?_
                refine ar_nil ?_
                refine ag_inBlock ?_
                refine ag_reg ?_
                refine pA ?_
                refine ar_pure tOk rfl rfl rfl ?_ ?_
                · unfold inI64; omega
                refine pA ?_
                refine ar_nil ?_
                refine ag_ent (ent_weak (g' := (stLST_0 L acc (i + 1, [e.x], [e])).1) (h' := (stLST_0 L acc (i + 1, [e.x], [e])).2) [0, 1] rfl rfl rfl rfl ?_ ?_ rfl) ?_
                · exact ⟨⟨rfl, rfl⟩, ⟨rfl, rfl⟩, ⟨rfl, rfl⟩, ⟨rfl, rfl⟩, ⟨rfl, by exact eqI (last_next hx)⟩, ⟨rfl, by exact eqI (by omega)⟩, trivial⟩
                · exact ⟨⟨rfl, rfl, by exact eqPl (by simp [txsC, txC])⟩, ⟨rfl, rfl, by exact eqPl (by simp [evsC, evC, txC])⟩, trivial⟩
                have hnx := hrec (i + 1, [e.x], [e])
                refine hnx ?_ ?_
                · exact ⟨by omega, (by rw [deals_next hx, ← hD, if_pos hdv]; try rfl), (by rw [keep_next hx, ← hM, if_neg hmv]; try rfl)⟩
                · show L.length - (i + 1) < L.length - i; omega
              · intro h149
                have hmv : delP acc e = true := by simpa [delP] using h149
                refine ag_skip ?_
                refine ag_reg ?_
                iterate 3 refine pA ?_
                refine ar_pure tOk rfl rfl rfl ?_ ?_
                · refine ⟨?_, ?_⟩ <;> first | omega | exact evsC_ne hx | (refine ⟨?_, ?_⟩ <;> omega)
                refine pA ?_
                refine ar_loadAs tOk (.r (.int .i64 e.t)) rfl rfl rfl rfl rfl rfl rfl (.inl ⟨rfl, by exact evsC_at hx (k := 0) (by simp only [addo_eq, mulz_eq, Int.toNat_natCast] <;> omega) (by decide) rfl⟩) ?_
                iterate 2 refine pA ?_
                refine ar_nil ?_
                refine ag_inBlock ?_
                refine ag_reg ?_
                refine pA ?_
                refine ar_pure tOk rfl rfl rfl ?_ ?_
                · unfold inI64; omega
                refine pA ?_
                refine ar_nil ?_
                refine ag_ent (ent_weak (g' := (stLST_0 L acc (i + 1, [e.x], [])).1) (h' := (stLST_0 L acc (i + 1, [e.x], [])).2) [0] rfl rfl rfl rfl ?_ ?_ rfl) ?_
                · exact ⟨⟨rfl, rfl⟩, ⟨rfl, rfl⟩, ⟨rfl, rfl⟩, ⟨rfl, rfl⟩, ⟨rfl, by exact eqI (last_next hx)⟩, ⟨rfl, by exact eqI (by omega)⟩, trivial⟩
                · exact ⟨⟨rfl, rfl, by exact eqPl (by simp [txsC, txC])⟩, trivial⟩
                have hnx := hrec (i + 1, [e.x], [])
                refine hnx ?_ ?_
                · exact ⟨by omega, (by rw [deals_next hx, ← hD, if_pos hdv]; try rfl), (by rw [keep_next hx, ← hM, if_pos hmv, List.append_nil]; try rfl)⟩
                · show L.length - (i + 1) < L.length - i; omega
            · intro h133
              have hdv : ¬ dealV e = true := by simpa [dealV, hc0] using h133
              refine ag_skip ?_
              refine ag_seq ?_
              refine zB ?_
              iterate 2 refine pA ?_
              refine ar_pure tOk rfl rfl rfl ?_ ?_
              · refine ⟨?_, ?_⟩ <;> first | omega | exact evsC_ne hx | (refine ⟨?_, ?_⟩ <;> omega)
              iterate 2 refine pA ?_
              refine ar_loadAs tOk (.r (.int .i64 e.x.f)) rfl rfl rfl rfl rfl rfl rfl (.inl ⟨rfl, by exact evsC_at hx (k := 2) (by simp only [addo_eq, mulz_eq, Int.toNat_natCast] <;> omega) (by decide) rfl⟩) ?_
              iterate 2 refine pA ?_
              refine ar_nil ?_
              refine ag_if rfl ?_ ?_
              · intro h149
                have hmv : ¬ delP acc e = true := by simpa [delP] using h149
                refine ag_reg ?_
                iterate 3 refine pA ?_
                refine ar_pure tOk rfl rfl rfl ?_ ?_
                · refine ⟨?_, ?_⟩ <;> first | omega | exact evsC_ne hx | (refine ⟨?_, ?_⟩ <;> omega)
                refine ar_loadAs tOk (eventA e) rfl rfl rfl rfl rfl rfl rfl (.inr ⟨rfl, _, rfl, by rw [mulz_eq, Int.toNat_natCast]; exact evsC_get hx, rfl⟩) ?_
                refine ar_qd rfl (qop_buildRoK tOk (v := .ro 1 (evC e)) (by kernel_rfl) (by kernel_rfl)) rfl rfl rfl rfl ?_
                refine ar_app tOk rfl rfl rfl ?_ ?_
                · refine ⟨⟨?_, ?_, ?_⟩, ⟨?_, ?_⟩, ⟨?_, ?_⟩, ?_⟩ <;> first | trivial | omega | (simp; done) | (simp; omega)
                refine pA ?_
                refine ar_nil ?_
                refine ag_reg ?_
                iterate 3 refine pA ?_
                refine ar_pure tOk rfl rfl rfl ?_ ?_
                · refine ⟨?_, ?_⟩ <;> first | omega | exact evsC_ne hx | (refine ⟨?_, ?_⟩ <;> omega)
                refine pA ?_
                refine ar_loadAs tOk (.r (.int .i64 e.t)) rfl rfl rfl rfl rfl rfl rfl (.inl ⟨rfl, by exact evsC_at hx (k := 0) (by simp only [addo_eq, mulz_eq, Int.toNat_natCast] <;> omega) (by decide) rfl⟩) ?_
                iterate 2 refine pA ?_
                refine ar_nil ?_
                refine ag_inBlock ?_
                refine ag_reg ?_
                refine pA ?_
                refine ar_pure tOk rfl rfl rfl ?_ ?_
                · unfold inI64; omega
                refine pA ?_
                refine ar_nil ?_
                refine ag_ent (ent_weak (g' := (stLST_0 L acc (i + 1, [], [e])).1) (h' := (stLST_0 L acc (i + 1, [], [e])).2) [0] rfl rfl rfl rfl ?_ ?_ rfl) ?_
                · exact ⟨⟨rfl, rfl⟩, ⟨rfl, rfl⟩, ⟨rfl, rfl⟩, ⟨rfl, rfl⟩, ⟨rfl, by exact eqI (last_next hx)⟩, ⟨rfl, by exact eqI (by omega)⟩, trivial⟩
                · exact ⟨⟨rfl, rfl, by exact eqPl (by simp [evsC, evC, txC])⟩, trivial⟩
                have hnx := hrec (i + 1, [], [e])
                refine hnx ?_ ?_
                · exact ⟨by omega, (by rw [deals_next hx, ← hD, if_neg hdv, List.append_nil]; try rfl), (by rw [keep_next hx, ← hM, if_neg hmv]; try rfl)⟩
                · show L.length - (i + 1) < L.length - i; omega
              · intro h149
                have hmv : delP acc e = true := by simpa [delP] using h149
                refine ag_skip ?_
                refine ag_reg ?_
                iterate 3 refine pA ?_
                refine ar_pure tOk rfl rfl rfl ?_ ?_
                · refine ⟨?_, ?_⟩ <;> first | omega | exact evsC_ne hx | (refine ⟨?_, ?_⟩ <;> omega)
                refine pA ?_
                refine ar_loadAs tOk (.r (.int .i64 e.t)) rfl rfl rfl rfl rfl rfl rfl (.inl ⟨rfl, by exact evsC_at hx (k := 0) (by simp only [addo_eq, mulz_eq, Int.toNat_natCast] <;> omega) (by decide) rfl⟩) ?_
                iterate 2 refine pA ?_
                refine ar_nil ?_
                refine ag_inBlock ?_
                refine ag_reg ?_
                refine pA ?_
                refine ar_pure tOk rfl rfl rfl ?_ ?_
                · unfold inI64; omega
                refine pA ?_
                refine ar_nil ?_
                refine ag_ent (ent_weak (g' := (stLST_0 L acc (i + 1, [], [])).1) (h' := (stLST_0 L acc (i + 1, [], [])).2) [] rfl rfl rfl rfl ?_ ?_ rfl) ?_
                · exact ⟨⟨rfl, rfl⟩, ⟨rfl, rfl⟩, ⟨rfl, rfl⟩, ⟨rfl, rfl⟩, ⟨rfl, by exact eqI (last_next hx)⟩, ⟨rfl, by exact eqI (by omega)⟩, trivial⟩
                · trivial
                have hnx := hrec (i + 1, [], [])
                refine hnx ?_ ?_
                · exact ⟨by omega, (by rw [deals_next hx, ← hD, if_neg hdv, List.append_nil]; try rfl), (by rw [keep_next hx, ← hM, if_pos hmv, List.append_nil]; try rfl)⟩
                · show L.length - (i + 1) < L.length - i; omega
          · refine ar_ent (ent_reg 125 (.r (.bool false)) (by show AVal.r (.bool _) = _; rw [ht])) ?_
            have hc0 := of_decide_eq_false ht
            have hdv : ¬ dealV e = true := by simp [dealV, hc0]
            iterate 7 refine ar_skip rfl rfl rfl ?_
            refine pA ?_
            refine ar_nil ?_
            refine ag_false rfl (by rfl) ?_
            refine ag_skip ?_
            refine ag_seq ?_
            refine zB ?_
            iterate 2 refine pA ?_
            refine ar_pure tOk rfl rfl rfl ?_ ?_
            · refine ⟨?_, ?_⟩ <;> first | omega | exact evsC_ne hx | (refine ⟨?_, ?_⟩ <;> omega)
            iterate 2 refine pA ?_
            refine ar_loadAs tOk (.r (.int .i64 e.x.f)) rfl rfl rfl rfl rfl rfl rfl (.inl ⟨rfl, by exact evsC_at hx (k := 2) (by simp only [addo_eq, mulz_eq, Int.toNat_natCast] <;> omega) (by decide) rfl⟩) ?_
            iterate 2 refine pA ?_
            refine ar_nil ?_
            refine ag_if rfl ?_ ?_
            · intro h149
              have hmv : ¬ delP acc e = true := by simpa [delP] using h149
              refine ag_reg ?_
              iterate 3 refine pA ?_
              refine ar_pure tOk rfl rfl rfl ?_ ?_
              · refine ⟨?_, ?_⟩ <;> first | omega | exact evsC_ne hx | (refine ⟨?_, ?_⟩ <;> omega)
              refine ar_loadAs tOk (eventA e) rfl rfl rfl rfl rfl rfl rfl (.inr ⟨rfl, _, rfl, by rw [mulz_eq, Int.toNat_natCast]; exact evsC_get hx, rfl⟩) ?_
              refine ar_qd rfl (qop_buildRoK tOk (v := .ro 1 (evC e)) (by kernel_rfl) (by kernel_rfl)) rfl rfl rfl rfl ?_
              refine ar_app tOk rfl rfl rfl ?_ ?_
              · refine ⟨⟨?_, ?_, ?_⟩, ⟨?_, ?_⟩, ⟨?_, ?_⟩, ?_⟩ <;> first | trivial | omega | (simp; done) | (simp; omega)
              refine pA ?_
              refine ar_nil ?_
              refine ag_reg ?_
              iterate 3 refine pA ?_
              refine ar_pure tOk rfl rfl rfl ?_ ?_
              · refine ⟨?_, ?_⟩ <;> first | omega | exact evsC_ne hx | (refine ⟨?_, ?_⟩ <;> omega)
              refine pA ?_
              refine ar_loadAs tOk (.r (.int .i64 e.t)) rfl rfl rfl rfl rfl rfl rfl (.inl ⟨rfl, by exact evsC_at hx (k := 0) (by simp only [addo_eq, mulz_eq, Int.toNat_natCast] <;> omega) (by decide) rfl⟩) ?_
              iterate 2 refine pA ?_
              refine ar_nil ?_
              refine ag_inBlock ?_
              refine ag_reg ?_
              refine pA ?_
              refine ar_pure tOk rfl rfl rfl ?_ ?_
              · unfold inI64; omega
              refine pA ?_
              refine ar_nil ?_
              refine ag_ent (ent_weak (g' := (stLST_0 L acc (i + 1, [], [e])).1) (h' := (stLST_0 L acc (i + 1, [], [e])).2) [0] rfl rfl rfl rfl ?_ ?_ rfl) ?_
              · exact ⟨⟨rfl, rfl⟩, ⟨rfl, rfl⟩, ⟨rfl, rfl⟩, ⟨rfl, rfl⟩, ⟨rfl, by exact eqI (last_next hx)⟩, ⟨rfl, by exact eqI (by omega)⟩, trivial⟩
              · exact ⟨⟨rfl, rfl, by exact eqPl (by simp [evsC, evC, txC])⟩, trivial⟩
              have hnx := hrec (i + 1, [], [e])
              refine hnx ?_ ?_
              · exact ⟨by omega, (by rw [deals_next hx, ← hD, if_neg hdv, List.append_nil]; try rfl), (by rw [keep_next hx, ← hM, if_neg hmv]; try rfl)⟩
              · show L.length - (i + 1) < L.length - i; omega
            · intro h149
              have hmv : delP acc e = true := by simpa [delP] using h149
              refine ag_skip ?_
              refine ag_reg ?_
              iterate 3 refine pA ?_
              refine ar_pure tOk rfl rfl rfl ?_ ?_
              · refine ⟨?_, ?_⟩ <;> first | omega | exact evsC_ne hx | (refine ⟨?_, ?_⟩ <;> omega)
              refine pA ?_
              refine ar_loadAs tOk (.r (.int .i64 e.t)) rfl rfl rfl rfl rfl rfl rfl (.inl ⟨rfl, by exact evsC_at hx (k := 0) (by simp only [addo_eq, mulz_eq, Int.toNat_natCast] <;> omega) (by decide) rfl⟩) ?_
              iterate 2 refine pA ?_
              refine ar_nil ?_
              refine ag_inBlock ?_
              refine ag_reg ?_
              refine pA ?_
              refine ar_pure tOk rfl rfl rfl ?_ ?_
              · unfold inI64; omega
              refine pA ?_
              refine ar_nil ?_
              refine ag_ent (ent_weak (g' := (stLST_0 L acc (i + 1, [], [])).1) (h' := (stLST_0 L acc (i + 1, [], [])).2) [] rfl rfl rfl rfl ?_ ?_ rfl) ?_
              · exact ⟨⟨rfl, rfl⟩, ⟨rfl, rfl⟩, ⟨rfl, rfl⟩, ⟨rfl, rfl⟩, ⟨rfl, by exact eqI (last_next hx)⟩, ⟨rfl, by exact eqI (by omega)⟩, trivial⟩
              · trivial
              have hnx := hrec (i + 1, [], [])
              refine hnx ?_ ?_
              · exact ⟨by omega, (by rw [deals_next hx, ← hD, if_neg hdv, List.append_nil]; try rfl), (by rw [keep_next hx, ← hM, if_pos hmv, List.append_nil]; try rfl)⟩
              · show L.length - (i + 1) < L.length - i; omega
        · intro h116
          obtain rfl : i = L.length := by omega
          rw [List.take_length] at hD hM
          refine ag_ent (ent_reg 23 (.r (.int .i64 (lastL L))) (by show AVal.r (.int _ (lastL (L.take L.length))) = _; rw [List.take_length])) ?_
          refine ag_ent (ent_nil 21 (.ro 0 []) rfl (.inr rfl)) ?_
          refine ag_ent (ent_reg 21 (roT (dealsL L)) (by show AVal.r (.ro 0 []) = _; rw [← hD]; rfl)) ?_
          refine ag_ent (ent_nil 22 (.ro 0 []) rfl (.inr rfl)) ?_
          refine ag_ent (ent_reg 22 (roE (keepL acc L)) (by show AVal.r (.ro 0 []) = _; rw [← hM]; rfl)) ?_
          refine ag_exit rfl ?_
          refine ag_ent (ent_weak (g' := (((fun (_u : Unit) => ([(0, roE L), (2, .r (.int .i64 acc)), (21, roT (dealsL L)), (22, roE (keepL acc L)), (23, .r (.int .i64 (lastL L)))], ⟨0, [], false⟩)) ()) : Regs × Hp).1) (h' := (((fun (_u : Unit) => ([(0, roE L), (2, .r (.int .i64 acc)), (21, roT (dealsL L)), (22, roE (keepL acc L)), (23, .r (.int .i64 (lastL L)))], ⟨0, [], false⟩)) ()) : Regs × Hp).2) [] rfl rfl rfl rfl ?_ ?_ rfl) (hjn () ?_)
          · exact ⟨⟨rfl, rfl⟩, ⟨rfl, rfl⟩, ⟨rfl, rfl⟩, ⟨rfl, rfl⟩, ⟨rfl, rfl⟩, trivial⟩
          · trivial
          · trivial
      · skip
        refine ag_ent (ent_weak (g' := [(0, roE L), (2, .r (.int .i64 acc)), (21, .r .nil), (22, .sl 0 0 (r.length + 1) 27), (23, .r (.int .i64 (lastL (L.take i)))), (24, .r (.int .i64 (i : Int)))]) (h' := ⟨1, [(0, some (.plain (evsC (b :: r))))], false⟩) [0] rfl rfl rfl rfl ?_ ?_ rfl) ?_
        · exact ⟨⟨rfl, rfl⟩, ⟨rfl, rfl⟩, ⟨rfl, rfl⟩, ⟨rfl, rfl⟩, ⟨rfl, rfl⟩, ⟨rfl, rfl⟩, trivial⟩
        · exact ⟨⟨rfl, rfl, rfl⟩, trivial⟩
        refine ag_reg ?_
        iterate 4 refine pA ?_
        refine ar_nil ?_
        refine ag_if rfl ?_ ?_
        · intro h116
          obtain ⟨e, hx⟩ : ∃ e, L[i]? = some e := ⟨L[i]'(by omega), by simp⟩
          have hdl := deals_len (L.take i)
          have hml := keep_len acc (L.take i)
          rw [← hD, List.length_take] at hdl
          rw [← hM, List.length_take] at hml
          simp only [List.length_cons, List.length_nil] at hdl hml
          
          have hel := CSd_len (b :: r)
          simp only [List.length_cons] at hel
          refine ag_skip ?_
          refine ag_seq ?_
          refine ag_block ?_
          refine ag_seq ?_
          refine zB ?_
          iterate 2 refine pA ?_
          refine ar_pure tOk rfl rfl rfl ?_ ?_
          · refine ⟨?_, ?_⟩ <;> first | omega | exact evsC_ne hx | (refine ⟨?_, ?_⟩ <;> omega)
          refine pA ?_
          refine ar_loadAs tOk (.r (.int .i64 e.c)) rfl rfl rfl rfl rfl rfl rfl (.inl ⟨rfl, by exact evsC_at hx (k := 1) (by simp only [addo_eq, mulz_eq, Int.toNat_natCast] <;> omega) (by decide) rfl⟩) ?_
          iterate 2 refine pA ?_
          refine ar_guard (t := decide (e.c = 0)) (fun ht => ?_) (fun ht => ?_)
          · refine ar_ent (ent_reg 125 (.r (.bool true)) (by show AVal.r (.bool _) = _; rw [ht])) ?_
            have hc0 := of_decide_eq_true ht
            iterate 2 refine pA ?_
            refine ar_pure tOk rfl rfl rfl ?_ ?_
            · refine ⟨?_, ?_⟩ <;> first | omega | exact evsC_ne hx | (refine ⟨?_, ?_⟩ <;> omega)
            iterate 2 refine pA ?_
            refine ar_loadAs tOk (.r (.int .i64 e.x.k)) rfl rfl rfl rfl rfl rfl rfl (.inl ⟨rfl, by exact evsC_at hx (k := 4) (by simp only [addo_eq, mulz_eq, Int.toNat_natCast] <;> omega) (by decide) rfl⟩) ?_
            iterate 2 refine pA ?_
            refine ar_nil ?_
            refine ag_cond rfl ?_ ?_
            · intro h133
              have hdv : dealV e = true := by simpa [dealV, hc0] using h133
              refine ag_reg ?_
              iterate 3 refine pA ?_
              refine ar_pure tOk rfl rfl rfl ?_ ?_
              · refine ⟨?_, ?_⟩ <;> first | omega | exact evsC_ne hx | (refine ⟨?_, ?_⟩ <;> omega)
              refine pA ?_
              refine ar_loadAs tOk (txA e.x) rfl rfl rfl rfl rfl rfl rfl (.inr ⟨rfl, _, rfl, by rw [addo_eq, mulz_eq, Int.toNat_natCast]; exact evsC_tx hx, rfl⟩) ?_
              refine ar_qd rfl (qop_buildRoK tOk (v := .ro 1 (txC e.x)) (by kernel_rfl) (by kernel_rfl)) rfl rfl rfl rfl ?_
              refine ar_app tOk rfl rfl rfl ?_ ?_
              · refine ⟨⟨?_, ?_, ?_⟩, ⟨?_, ?_⟩, ⟨?_, ?_⟩, ?_⟩ <;> first | trivial | omega | (simp; done) | (simp; omega)
              refine pA ?_
              refine zA ?_
              refine zB ?_
              iterate 2 refine pA ?_
              refine ar_pure tOk rfl rfl rfl ?_ ?_
              · refine ⟨?_, ?_⟩ <;> first | omega | exact evsC_ne hx | (refine ⟨?_, ?_⟩ <;> omega)
              iterate 2 refine pA ?_
              refine ar_loadAs tOk (.r (.int .i64 e.x.f)) rfl rfl rfl rfl rfl rfl rfl (.inl ⟨rfl, by exact evsC_at hx (k := 2) (by simp only [addo_eq, mulz_eq, Int.toNat_natCast] <;> omega) (by decide) rfl⟩) ?_
              iterate 2 refine pA ?_
              refine ar_nil ?_
              refine ag_if rfl ?_ ?_
              · intro h149
                have hmv : ¬ delP acc e = true := by simpa [delP] using h149
                refine ag_reg ?_
                iterate 3 refine pA ?_
                refine ar_pure tOk rfl rfl rfl ?_ ?_
                · refine ⟨?_, ?_⟩ <;> first | omega | exact evsC_ne hx | (refine ⟨?_, ?_⟩ <;> omega)
                refine ar_loadAs tOk (eventA e) rfl rfl rfl rfl rfl rfl rfl (.inr ⟨rfl, _, rfl, by rw [mulz_eq, Int.toNat_natCast]; exact evsC_get hx, rfl⟩) ?_
                refine ar_qd rfl (qop_buildRoK tOk (v := .ro 1 (evC e)) (by kernel_rfl) (by kernel_rfl)) rfl rfl rfl rfl ?_
                refine ar_app tOk rfl rfl rfl ?_ ?_
                · refine ⟨⟨?_, ?_, ?_⟩, ⟨?_, ?_⟩, ⟨?_, ?_⟩, ?_⟩ <;> first | trivial | omega | (simp; done) | (simp; omega)
                refine pA ?_
                refine ar_nil ?_
                refine ag_reg ?_
                iterate 3 refine pA ?_
                refine ar_pure tOk rfl rfl rfl ?_ ?_
                · refine ⟨?_, ?_⟩ <;> first | omega | exact evsC_ne hx | (refine ⟨?_, ?_⟩ <;> omega)
                refine pA ?_
                refine ar_loadAs tOk (.r (.int .i64 e.t)) rfl rfl rfl rfl rfl rfl rfl (.inl ⟨rfl, by exact evsC_at hx (k := 0) (by simp only [addo_eq, mulz_eq, Int.toNat_natCast] <;> omega) (by decide) rfl⟩) ?_
                iterate 2 refine pA ?_
                refine ar_nil ?_
                refine ag_inBlock ?_
                refine ag_reg ?_
                refine pA ?_
                refine ar_pure tOk rfl rfl rfl ?_ ?_
                · unfold inI64; omega
                refine pA ?_
                refine ar_nil ?_
                refine ag_ent (ent_weak (g' := (stLST_0 L acc (i + 1, [e.x], b :: r ++ [e])).1) (h' := (stLST_0 L acc (i + 1, [e.x], b :: r ++ [e])).2) [1, 2] rfl rfl rfl rfl ?_ ?_ rfl) ?_
                · exact ⟨⟨rfl, rfl⟩, ⟨rfl, rfl⟩, ⟨rfl, rfl⟩, ⟨rfl, by exact eqSl (by simp)⟩, ⟨rfl, by exact eqI (last_next hx)⟩, ⟨rfl, by exact eqI (by omega)⟩, trivial⟩
                · exact ⟨⟨rfl, rfl, by exact eqPl (by simp [txsC, txC])⟩, ⟨rfl, rfl, by exact eqPl (evsC_nx b r e)⟩, trivial⟩
                have hnx := hrec (i + 1, [e.x], b :: r ++ [e])
                refine hnx ?_ ?_
                · exact ⟨by omega, (by rw [deals_next hx, ← hD, if_pos hdv]; try rfl), (by rw [keep_next hx, ← hM, if_neg hmv]; try rfl)⟩
                · show L.length - (i + 1) < L.length - i; omega
              · intro h149
                have hmv : delP acc e = true := by simpa [delP] using h149
                refine ag_skip ?_
                refine ag_reg ?_
                iterate 3 refine pA ?_
                refine ar_pure tOk rfl rfl rfl ?_ ?_
                · refine ⟨?_, ?_⟩ <;> first | omega | exact evsC_ne hx | (refine ⟨?_, ?_⟩ <;> omega)
                refine pA ?_
                refine ar_loadAs tOk (.r (.int .i64 e.t)) rfl rfl rfl rfl rfl rfl rfl (.inl ⟨rfl, by exact evsC_at hx (k := 0) (by simp only [addo_eq, mulz_eq, Int.toNat_natCast] <;> omega) (by decide) rfl⟩) ?_
                iterate 2 refine pA ?_
                refine ar_nil ?_
                refine ag_inBlock ?_
                refine ag_reg ?_
                refine pA ?_
                refine ar_pure tOk rfl rfl rfl ?_ ?_
                · unfold inI64; omega
                refine pA ?_
                refine ar_nil ?_
                refine ag_ent (ent_weak (g' := (stLST_0 L acc (i + 1, [e.x], b :: r)).1) (h' := (stLST_0 L acc (i + 1, [e.x], b :: r)).2) [1, 0] rfl rfl rfl rfl ?_ ?_ rfl) ?_
                · exact ⟨⟨rfl, rfl⟩, ⟨rfl, rfl⟩, ⟨rfl, rfl⟩, ⟨rfl, rfl⟩, ⟨rfl, by exact eqI (last_next hx)⟩, ⟨rfl, by exact eqI (by omega)⟩, trivial⟩
                · exact ⟨⟨rfl, rfl, by exact eqPl (by simp [txsC, txC])⟩, ⟨rfl, rfl, rfl⟩, trivial⟩
                have hnx := hrec (i + 1, [e.x], b :: r)
                refine hnx ?_ ?_
                · exact ⟨by omega, (by rw [deals_next hx, ← hD, if_pos hdv]; try rfl), (by rw [keep_next hx, ← hM, if_pos hmv, List.append_nil]; try rfl)⟩
                · show L.length - (i + 1) < L.length - i; omega
            · intro h133
              have hdv : ¬ dealV e = true := by simpa [dealV, hc0] using h133
              refine ag_skip ?_
              refine ag_seq ?_
              refine zB ?_
              iterate 2 refine pA ?_
              refine ar_pure tOk rfl rfl rfl ?_ ?_
              · refine ⟨?_, ?_⟩ <;> first | omega | exact evsC_ne hx | (refine ⟨?_, ?_⟩ <;> omega)
              iterate 2 refine pA ?_
              refine ar_loadAs tOk (.r (.int .i64 e.x.f)) rfl rfl rfl rfl rfl rfl rfl (.inl ⟨rfl, by exact evsC_at hx (k := 2) (by simp only [addo_eq, mulz_eq, Int.toNat_natCast] <;> omega) (by decide) rfl⟩) ?_
              iterate 2 refine pA ?_
              refine ar_nil ?_
              refine ag_if rfl ?_ ?_
              · intro h149
                have hmv : ¬ delP acc e = true := by simpa [delP] using h149
                refine ag_reg ?_
                iterate 3 refine pA ?_
                refine ar_pure tOk rfl rfl rfl ?_ ?_
                · refine ⟨?_, ?_⟩ <;> first | omega | exact evsC_ne hx | (refine ⟨?_, ?_⟩ <;> omega)
                refine ar_loadAs tOk (eventA e) rfl rfl rfl rfl rfl rfl rfl (.inr ⟨rfl, _, rfl, by rw [mulz_eq, Int.toNat_natCast]; exact evsC_get hx, rfl⟩) ?_
                refine ar_qd rfl (qop_buildRoK tOk (v := .ro 1 (evC e)) (by kernel_rfl) (by kernel_rfl)) rfl rfl rfl rfl ?_
                refine ar_app tOk rfl rfl rfl ?_ ?_
                · refine ⟨⟨?_, ?_, ?_⟩, ⟨?_, ?_⟩, ⟨?_, ?_⟩, ?_⟩ <;> first | trivial | omega | (simp; done) | (simp; omega)
                refine pA ?_
                refine ar_nil ?_
                refine ag_reg ?_
                iterate 3 refine pA ?_
                refine ar_pure tOk rfl rfl rfl ?_ ?_
                · refine ⟨?_, ?_⟩ <;> first | omega | exact evsC_ne hx | (refine ⟨?_, ?_⟩ <;> omega)
                refine pA ?_
                refine ar_loadAs tOk (.r (.int .i64 e.t)) rfl rfl rfl rfl rfl rfl rfl (.inl ⟨rfl, by exact evsC_at hx (k := 0) (by simp only [addo_eq, mulz_eq, Int.toNat_natCast] <;> omega) (by decide) rfl⟩) ?_
                iterate 2 refine pA ?_
                refine ar_nil ?_
                refine ag_inBlock ?_
                refine ag_reg ?_
                refine pA ?_
                refine ar_pure tOk rfl rfl rfl ?_ ?_
                · unfold inI64; omega
                refine pA ?_
                refine ar_nil ?_
                refine ag_ent (ent_weak (g' := (stLST_0 L acc (i + 1, [], b :: r ++ [e])).1) (h' := (stLST_0 L acc (i + 1, [], b :: r ++ [e])).2) [1] rfl rfl rfl rfl ?_ ?_ rfl) ?_
                · exact ⟨⟨rfl, rfl⟩, ⟨rfl, rfl⟩, ⟨rfl, rfl⟩, ⟨rfl, by exact eqSl (by simp)⟩, ⟨rfl, by exact eqI (last_next hx)⟩, ⟨rfl, by exact eqI (by omega)⟩, trivial⟩
                · exact ⟨⟨rfl, rfl, by exact eqPl (evsC_nx b r e)⟩, trivial⟩
                have hnx := hrec (i + 1, [], b :: r ++ [e])
                refine hnx ?_ ?_
                · exact ⟨by omega, (by rw [deals_next hx, ← hD, if_neg hdv, List.append_nil]; try rfl), (by rw [keep_next hx, ← hM, if_neg hmv]; try rfl)⟩
                · show L.length - (i + 1) < L.length - i; omega
              · intro h149
                have hmv : delP acc e = true := by simpa [delP] using h149
                refine ag_skip ?_
                refine ag_reg ?_
                iterate 3 refine pA ?_
                refine ar_pure tOk rfl rfl rfl ?_ ?_
                · refine ⟨?_, ?_⟩ <;> first | omega | exact evsC_ne hx | (refine ⟨?_, ?_⟩ <;> omega)
                refine pA ?_
                refine ar_loadAs tOk (.r (.int .i64 e.t)) rfl rfl rfl rfl rfl rfl rfl (.inl ⟨rfl, by exact evsC_at hx (k := 0) (by simp only [addo_eq, mulz_eq, Int.toNat_natCast] <;> omega) (by decide) rfl⟩) ?_
                iterate 2 refine pA ?_
                refine ar_nil ?_
                refine ag_inBlock ?_
                refine ag_reg ?_
                refine pA ?_
                refine ar_pure tOk rfl rfl rfl ?_ ?_
                · unfold inI64; omega
                refine pA ?_
                refine ar_nil ?_
                refine ag_ent (ent_weak (g' := (stLST_0 L acc (i + 1, [], b :: r)).1) (h' := (stLST_0 L acc (i + 1, [], b :: r)).2) [0] rfl rfl rfl rfl ?_ ?_ rfl) ?_
                · exact ⟨⟨rfl, rfl⟩, ⟨rfl, rfl⟩, ⟨rfl, rfl⟩, ⟨rfl, rfl⟩, ⟨rfl, by exact eqI (last_next hx)⟩, ⟨rfl, by exact eqI (by omega)⟩, trivial⟩
                · exact ⟨⟨rfl, rfl, rfl⟩, trivial⟩
                have hnx := hrec (i + 1, [], b :: r)
                refine hnx ?_ ?_
                · exact ⟨by omega, (by rw [deals_next hx, ← hD, if_neg hdv, List.append_nil]; try rfl), (by rw [keep_next hx, ← hM, if_pos hmv, List.append_nil]; try rfl)⟩
                · show L.length - (i + 1) < L.length - i; omega
          · refine ar_ent (ent_reg 125 (.r (.bool false)) (by show AVal.r (.bool _) = _; rw [ht])) ?_
            have hc0 := of_decide_eq_false ht
            have hdv : ¬ dealV e = true := by simp [dealV, hc0]
            iterate 7 refine ar_skip rfl rfl rfl ?_
            refine pA ?_
            refine ar_nil ?_
            refine ag_false rfl (by rfl) ?_
            refine ag_skip ?_
            refine ag_seq ?_
            refine zB ?_
            iterate 2 refine pA ?_
            refine ar_pure tOk rfl rfl rfl ?_ ?_
            · refine ⟨?_, ?_⟩ <;> first | omega | exact evsC_ne hx | (refine ⟨?_, ?_⟩ <;> omega)
            iterate 2 refine pA ?_
            refine ar_loadAs tOk (.r (.int .i64 e.x.f)) rfl rfl rfl rfl rfl rfl rfl (.inl ⟨rfl, by exact evsC_at hx (k := 2) (by simp only [addo_eq, mulz_eq, Int.toNat_natCast] <;> omega) (by decide) rfl⟩) ?_
            iterate 2 refine pA ?_
            refine ar_nil ?_
            refine ag_if rfl ?_ ?_
            · intro h149
              have hmv : ¬ delP acc e = true := by simpa [delP] using h149
              refine ag_reg ?_
              iterate 3 refine pA ?_
              refine ar_pure tOk rfl rfl rfl ?_ ?_
              · refine ⟨?_, ?_⟩ <;> first | omega | exact evsC_ne hx | (refine ⟨?_, ?_⟩ <;> omega)
              refine ar_loadAs tOk (eventA e) rfl rfl rfl rfl rfl rfl rfl (.inr ⟨rfl, _, rfl, by rw [mulz_eq, Int.toNat_natCast]; exact evsC_get hx, rfl⟩) ?_
              refine ar_qd rfl (qop_buildRoK tOk (v := .ro 1 (evC e)) (by kernel_rfl) (by kernel_rfl)) rfl rfl rfl rfl ?_
              refine ar_app tOk rfl rfl rfl ?_ ?_
              · refine ⟨⟨?_, ?_, ?_⟩, ⟨?_, ?_⟩, ⟨?_, ?_⟩, ?_⟩ <;> first | trivial | omega | (simp; done) | (simp; omega)
              refine pA ?_
              refine ar_nil ?_
              refine ag_reg ?_
              iterate 3 refine pA ?_
              refine ar_pure tOk rfl rfl rfl ?_ ?_
              · refine ⟨?_, ?_⟩ <;> first | omega | exact evsC_ne hx | (refine ⟨?_, ?_⟩ <;> omega)
              refine pA ?_
              refine ar_loadAs tOk (.r (.int .i64 e.t)) rfl rfl rfl rfl rfl rfl rfl (.inl ⟨rfl, by exact evsC_at hx (k := 0) (by simp only [addo_eq, mulz_eq, Int.toNat_natCast] <;> omega) (by decide) rfl⟩) ?_
              iterate 2 refine pA ?_
              refine ar_nil ?_
              refine ag_inBlock ?_
              refine ag_reg ?_
              refine pA ?_
              refine ar_pure tOk rfl rfl rfl ?_ ?_
              · unfold inI64; omega
              refine pA ?_
              refine ar_nil ?_
              refine ag_ent (ent_weak (g' := (stLST_0 L acc (i + 1, [], b :: r ++ [e])).1) (h' := (stLST_0 L acc (i + 1, [], b :: r ++ [e])).2) [1] rfl rfl rfl rfl ?_ ?_ rfl) ?_
              · exact ⟨⟨rfl, rfl⟩, ⟨rfl, rfl⟩, ⟨rfl, rfl⟩, ⟨rfl, by exact eqSl (by simp)⟩, ⟨rfl, by exact eqI (last_next hx)⟩, ⟨rfl, by exact eqI (by omega)⟩, trivial⟩
              · exact ⟨⟨rfl, rfl, by exact eqPl (evsC_nx b r e)⟩, trivial⟩
              have hnx := hrec (i + 1, [], b :: r ++ [e])
              refine hnx ?_ ?_
              · exact ⟨by omega, (by rw [deals_next hx, ← hD, if_neg hdv, List.append_nil]; try rfl), (by rw [keep_next hx, ← hM, if_neg hmv]; try rfl)⟩
              · show L.length - (i + 1) < L.length - i; omega
            · intro h149
              have hmv : delP acc e = true := by simpa [delP] using h149
              refine ag_skip ?_
              refine ag_reg ?_
              iterate 3 refine pA ?_
              refine ar_pure tOk rfl rfl rfl ?_ ?_
              · refine ⟨?_, ?_⟩ <;> first | omega | exact evsC_ne hx | (refine ⟨?_, ?_⟩ <;> omega)
              refine pA ?_
              refine ar_loadAs tOk (.r (.int .i64 e.t)) rfl rfl rfl rfl rfl rfl rfl (.inl ⟨rfl, by exact evsC_at hx (k := 0) (by simp only [addo_eq, mulz_eq, Int.toNat_natCast] <;> omega) (by decide) rfl⟩) ?_
              iterate 2 refine pA ?_
              refine ar_nil ?_
              refine ag_inBlock ?_
              refine ag_reg ?_
              refine pA ?_
              refine ar_pure tOk rfl rfl rfl ?_ ?_
              · unfold inI64; omega
              refine pA ?_
              refine ar_nil ?_
              refine ag_ent (ent_weak (g' := (stLST_0 L acc (i + 1, [], b :: r)).1) (h' := (stLST_0 L acc (i + 1, [], b :: r)).2) [0] rfl rfl rfl rfl ?_ ?_ rfl) ?_
              · exact ⟨⟨rfl, rfl⟩, ⟨rfl, rfl⟩, ⟨rfl, rfl⟩, ⟨rfl, rfl⟩, ⟨rfl, by exact eqI (last_next hx)⟩, ⟨rfl, by exact eqI (by omega)⟩, trivial⟩
              · exact ⟨⟨rfl, rfl, rfl⟩, trivial⟩
              have hnx := hrec (i + 1, [], b :: r)
              refine hnx ?_ ?_
              · exact ⟨by omega, (by rw [deals_next hx, ← hD, if_neg hdv, List.append_nil]; try rfl), (by rw [keep_next hx, ← hM, if_pos hmv, List.append_nil]; try rfl)⟩
              · show L.length - (i + 1) < L.length - i; omega
        · intro h116
          obtain rfl : i = L.length := by omega
          rw [List.take_length] at hD hM
          refine ag_ent (ent_reg 23 (.r (.int .i64 (lastL L))) (by show AVal.r (.int _ (lastL (L.take L.length))) = _; rw [List.take_length])) ?_
          refine ag_ent (ent_nil 21 (.ro 0 []) rfl (.inr rfl)) ?_
          refine ag_ent (ent_reg 21 (roT (dealsL L)) (by show AVal.r (.ro 0 []) = _; rw [← hD]; rfl)) ?_
          refine ag_ent (ent_freeze 22 rfl rfl rfl trivial) ?_
          refine ag_ent (ent_reg 22 (roE (keepL acc L)) (by show AVal.r (.ro _ (cutA _ 0 _)) = _; rw [← hM, cutA_eq, List.drop_zero, List.take_of_length_le (by rw [CSd_len]; simp)]; rfl)) ?_
          refine ag_exit rfl ?_
          refine ag_ent (ent_weak (g' := (((fun (_u : Unit) => ([(0, roE L), (2, .r (.int .i64 acc)), (21, roT (dealsL L)), (22, roE (keepL acc L)), (23, .r (.int .i64 (lastL L)))], ⟨0, [], false⟩)) ()) : Regs × Hp).1) (h' := (((fun (_u : Unit) => ([(0, roE L), (2, .r (.int .i64 acc)), (21, roT (dealsL L)), (22, roE (keepL acc L)), (23, .r (.int .i64 (lastL L)))], ⟨0, [], false⟩)) ()) : Regs × Hp).2) [] rfl rfl rfl rfl ?_ ?_ rfl) (hjn () ?_)
          · exact ⟨⟨rfl, rfl⟩, ⟨rfl, rfl⟩, ⟨rfl, rfl⟩, ⟨rfl, rfl⟩, ⟨rfl, rfl⟩, trivial⟩
          · trivial
          · trivial
      · skip
        refine ag_ent (ent_weak (g' := [(0, roE L), (2, .r (.int .i64 acc)), (21, .sl 0 0 (l.length + 1) 25), (22, .r .nil), (23, .r (.int .i64 (lastL (L.take i)))), (24, .r (.int .i64 (i : Int)))]) (h' := ⟨1, [(0, some (.plain (txsC (a :: l))))], false⟩) [0] rfl rfl rfl rfl ?_ ?_ rfl) ?_
        · exact ⟨⟨rfl, rfl⟩, ⟨rfl, rfl⟩, ⟨rfl, rfl⟩, ⟨rfl, rfl⟩, ⟨rfl, rfl⟩, ⟨rfl, rfl⟩, trivial⟩
        · exact ⟨⟨rfl, rfl, rfl⟩, trivial⟩
        refine ag_reg ?_
        iterate 4 refine pA ?_
        refine ar_nil ?_
        refine ag_if rfl ?_ ?_
        · intro h116
          obtain ⟨e, hx⟩ : ∃ e, L[i]? = some e := ⟨L[i]'(by omega), by simp⟩
          have hdl := deals_len (L.take i)
          have hml := keep_len acc (L.take i)
          rw [← hD, List.length_take] at hdl
          rw [← hM, List.length_take] at hml
          simp only [List.length_cons, List.length_nil] at hdl hml
          have htl := txsC_len (a :: l)
          simp only [List.length_cons] at htl
          
          refine ag_skip ?_
          refine ag_seq ?_
          refine ag_block ?_
          refine ag_seq ?_
          refine zB ?_
          iterate 2 refine pA ?_
          refine ar_pure tOk rfl rfl rfl ?_ ?_
          · refine ⟨?_, ?_⟩ <;> first | omega | exact evsC_ne hx | (refine ⟨?_, ?_⟩ <;> omega)
          refine pA ?_
          refine ar_loadAs tOk (.r (.int .i64 e.c)) rfl rfl rfl rfl rfl rfl rfl (.inl ⟨rfl, by exact evsC_at hx (k := 1) (by simp only [addo_eq, mulz_eq, Int.toNat_natCast] <;> omega) (by decide) rfl⟩) ?_
          iterate 2 refine pA ?_
          refine ar_guard (t := decide (e.c = 0)) (fun ht => ?_) (fun ht => ?_)
          · refine ar_ent (ent_reg 125 (.r (.bool true)) (by show AVal.r (.bool _) = _; rw [ht])) ?_
            have hc0 := of_decide_eq_true ht
            iterate 2 refine pA ?_
            refine ar_pure tOk rfl rfl rfl ?_ ?_
            · refine ⟨?_, ?_⟩ <;> first | omega | exact evsC_ne hx | (refine ⟨?_, ?_⟩ <;> omega)
            iterate 2 refine pA ?_
            refine ar_loadAs tOk (.r (.int .i64 e.x.k)) rfl rfl rfl rfl rfl rfl rfl (.inl ⟨rfl, by exact evsC_at hx (k := 4) (by simp only [addo_eq, mulz_eq, Int.toNat_natCast] <;> omega) (by decide) rfl⟩) ?_
            iterate 2 refine pA ?_
            refine ar_nil ?_
            refine ag_cond rfl ?_ ?_
            · intro h133
              have hdv : dealV e = true := by simpa [dealV, hc0] using h133
              refine ag_reg ?_
              iterate 3 refine pA ?_
              refine ar_pure tOk rfl rfl rfl ?_ ?_
              · refine ⟨?_, ?_⟩ <;> first | omega | exact evsC_ne hx | (refine ⟨?_, ?_⟩ <;> omega)
              refine pA ?_
              refine ar_loadAs tOk (txA e.x) rfl rfl rfl rfl rfl rfl rfl (.inr ⟨rfl, _, rfl, by rw [addo_eq, mulz_eq, Int.toNat_natCast]; exact evsC_tx hx, rfl⟩) ?_
              refine ar_qd rfl (qop_buildRoK tOk (v := .ro 1 (txC e.x)) (by kernel_rfl) (by kernel_rfl)) rfl rfl rfl rfl ?_
              refine ar_app tOk rfl rfl rfl ?_ ?_
              · refine ⟨⟨?_, ?_, ?_⟩, ⟨?_, ?_⟩, ⟨?_, ?_⟩, ?_⟩ <;> first | trivial | omega | (simp; done) | (simp; omega)
              refine pA ?_
              refine zA ?_
              refine zB ?_
              iterate 2 refine pA ?_
              refine ar_pure tOk rfl rfl rfl ?_ ?_
              · refine ⟨?_, ?_⟩ <;> first | omega | exact evsC_ne hx | (refine ⟨?_, ?_⟩ <;> omega)
              iterate 2 refine pA ?_
              refine ar_loadAs tOk (.r (.int .i64 e.x.f)) rfl rfl rfl rfl rfl rfl rfl (.inl ⟨rfl, by exact evsC_at hx (k := 2) (by simp only [addo_eq, mulz_eq, Int.toNat_natCast] <;> omega) (by decide) rfl⟩) ?_
              iterate 2 refine pA ?_
              refine ar_nil ?_
              refine ag_if rfl ?_ ?_
              · intro h149
                have hmv : ¬ delP acc e = true := by simpa [delP] using h149
                refine ag_reg ?_
                iterate 3 refine pA ?_
                refine ar_pure tOk rfl rfl rfl ?_ ?_
                · refine ⟨?_, ?_⟩ <;> first | omega | exact evsC_ne hx | (refine ⟨?_, ?_⟩ <;> omega)
                refine ar_loadAs tOk (eventA e) rfl rfl rfl rfl rfl rfl rfl (.inr ⟨rfl, _, rfl, by rw [mulz_eq, Int.toNat_natCast]; exact evsC_get hx, rfl⟩) ?_
                refine ar_qd rfl (qop_buildRoK tOk (v := .ro 1 (evC e)) (by kernel_rfl) (by kernel_rfl)) rfl rfl rfl rfl ?_
                refine ar_app tOk rfl rfl rfl ?_ ?_
                · refine ⟨⟨?_, ?_, ?_⟩, ⟨?_, ?_⟩, ⟨?_, ?_⟩, ?_⟩ <;> first | trivial | omega | (simp; done) | (simp; omega)
                refine pA ?_
                refine ar_nil ?_
                refine ag_reg ?_
                iterate 3 refine pA ?_
                refine ar_pure tOk rfl rfl rfl ?_ ?_
                · refine ⟨?_, ?_⟩ <;> first | omega | exact evsC_ne hx | (refine ⟨?_, ?_⟩ <;> omega)
                refine pA ?_
                refine ar_loadAs tOk (.r (.int .i64 e.t)) rfl rfl rfl rfl rfl rfl rfl (.inl ⟨rfl, by exact evsC_at hx (k := 0) (by simp only [addo_eq, mulz_eq, Int.toNat_natCast] <;> omega) (by decide) rfl⟩) ?_
                iterate 2 refine pA ?_
                refine ar_nil ?_
                refine ag_inBlock ?_
                refine ag_reg ?_
                refine pA ?_
                refine ar_pure tOk rfl rfl rfl ?_ ?_
                · unfold inI64; omega
                refine pA ?_
                refine ar_nil ?_
                refine ag_ent (ent_weak (g' := (stLST_0 L acc (i + 1, a :: l ++ [e.x], [e])).1) (h' := (stLST_0 L acc (i + 1, a :: l ++ [e.x], [e])).2) [1, 2] rfl rfl rfl rfl ?_ ?_ rfl) ?_
                · exact ⟨⟨rfl, rfl⟩, ⟨rfl, rfl⟩, ⟨rfl, by exact eqSl (by simp)⟩, ⟨rfl, rfl⟩, ⟨rfl, by exact eqI (last_next hx)⟩, ⟨rfl, by exact eqI (by omega)⟩, trivial⟩
                · exact ⟨⟨rfl, rfl, by exact eqPl (txsC_nx a l e.x)⟩, ⟨rfl, rfl, by exact eqPl (by simp [evsC, evC, txC])⟩, trivial⟩
                have hnx := hrec (i + 1, a :: l ++ [e.x], [e])
                refine hnx ?_ ?_
                · exact ⟨by omega, (by rw [deals_next hx, ← hD, if_pos hdv]; try rfl), (by rw [keep_next hx, ← hM, if_neg hmv]; try rfl)⟩
                · show L.length - (i + 1) < L.length - i; omega
              · intro h149
                have hmv : delP acc e = true := by simpa [delP] using h149
                refine ag_skip ?_
                refine ag_reg ?_
                iterate 3 refine pA ?_
                refine ar_pure tOk rfl rfl rfl ?_ ?_
                · refine ⟨?_, ?_⟩ <;> first | omega | exact evsC_ne hx | (refine ⟨?_, ?_⟩ <;> omega)
                refine pA ?_
                refine ar_loadAs tOk (.r (.int .i64 e.t)) rfl rfl rfl rfl rfl rfl rfl (.inl ⟨rfl, by exact evsC_at hx (k := 0) (by simp only [addo_eq, mulz_eq, Int.toNat_natCast] <;> omega) (by decide) rfl⟩) ?_
                iterate 2 refine pA ?_
                refine ar_nil ?_
                refine ag_inBlock ?_
                refine ag_reg ?_
                refine pA ?_
                refine ar_pure tOk rfl rfl rfl ?_ ?_
                · unfold inI64; omega
                refine pA ?_
                refine ar_nil ?_
                refine ag_ent (ent_weak (g' := (stLST_0 L acc (i + 1, a :: l ++ [e.x], [])).1) (h' := (stLST_0 L acc (i + 1, a :: l ++ [e.x], [])).2) [1] rfl rfl rfl rfl ?_ ?_ rfl) ?_
                · exact ⟨⟨rfl, rfl⟩, ⟨rfl, rfl⟩, ⟨rfl, by exact eqSl (by simp)⟩, ⟨rfl, rfl⟩, ⟨rfl, by exact eqI (last_next hx)⟩, ⟨rfl, by exact eqI (by omega)⟩, trivial⟩
                · exact ⟨⟨rfl, rfl, by exact eqPl (txsC_nx a l e.x)⟩, trivial⟩
                have hnx := hrec (i + 1, a :: l ++ [e.x], [])
                refine hnx ?_ ?_
                · exact ⟨by omega, (by rw [deals_next hx, ← hD, if_pos hdv]; try rfl), (by rw [keep_next hx, ← hM, if_pos hmv, List.append_nil]; try rfl)⟩
                · show L.length - (i + 1) < L.length - i; omega
            · intro h133
              have hdv : ¬ dealV e = true := by simpa [dealV, hc0] using h133
              refine ag_skip ?_
              refine ag_seq ?_
              refine zB ?_
              iterate 2 refine pA ?_
              refine ar_pure tOk rfl rfl rfl ?_ ?_
              · refine ⟨?_, ?_⟩ <;> first | omega | exact evsC_ne hx | (refine ⟨?_, ?_⟩ <;> omega)
              iterate 2 refine pA ?_
              refine ar_loadAs tOk (.r (.int .i64 e.x.f)) rfl rfl rfl rfl rfl rfl rfl (.inl ⟨rfl, by exact evsC_at hx (k := 2) (by simp only [addo_eq, mulz_eq, Int.toNat_natCast] <;> omega) (by decide) rfl⟩) ?_
              iterate 2 refine pA ?_
              refine ar_nil ?_
              refine ag_if rfl ?_ ?_
              · intro h149
                have hmv : ¬ delP acc e = true := by simpa [delP] using h149
                refine ag_reg ?_
                iterate 3 refine pA ?_
                refine ar_pure tOk rfl rfl rfl ?_ ?_
                · refine ⟨?_, ?_⟩ <;> first | omega | exact evsC_ne hx | (refine ⟨?_, ?_⟩ <;> omega)
                refine ar_loadAs tOk (eventA e) rfl rfl rfl rfl rfl rfl rfl (.inr ⟨rfl, _, rfl, by rw [mulz_eq, Int.toNat_natCast]; exact evsC_get hx, rfl⟩) ?_
                refine ar_qd rfl (qop_buildRoK tOk (v := .ro 1 (evC e)) (by kernel_rfl) (by kernel_rfl)) rfl rfl rfl rfl ?_
                refine ar_app tOk rfl rfl rfl ?_ ?_
                · refine ⟨⟨?_, ?_, ?_⟩, ⟨?_, ?_⟩, ⟨?_, ?_⟩, ?_⟩ <;> first | trivial | omega | (simp; done) | (simp; omega)
                refine pA ?_
                refine ar_nil ?_
                refine ag_reg ?_
                iterate 3 refine pA ?_
                refine ar_pure tOk rfl rfl rfl ?_ ?_
                · refine ⟨?_, ?_⟩ <;> first | omega | exact evsC_ne hx | (refine ⟨?_, ?_⟩ <;> omega)
                refine pA ?_
                refine ar_loadAs tOk (.r (.int .i64 e.t)) rfl rfl rfl rfl rfl rfl rfl (.inl ⟨rfl, by exact evsC_at hx (k := 0) (by simp only [addo_eq, mulz_eq, Int.toNat_natCast] <;> omega) (by decide) rfl⟩) ?_
                iterate 2 refine pA ?_
                refine ar_nil ?_
                refine ag_inBlock ?_
                refine ag_reg ?_
                refine pA ?_
                refine ar_pure tOk rfl rfl rfl ?_ ?_
                · unfold inI64; omega
                refine pA ?_
                refine ar_nil ?_
                refine ag_ent (ent_weak (g' := (stLST_0 L acc (i + 1, a :: l, [e])).1) (h' := (stLST_0 L acc (i + 1, a :: l, [e])).2) [0, 1] rfl rfl rfl rfl ?_ ?_ rfl) ?_
                · exact ⟨⟨rfl, rfl⟩, ⟨rfl, rfl⟩, ⟨rfl, rfl⟩, ⟨rfl, rfl⟩, ⟨rfl, by exact eqI (last_next hx)⟩, ⟨rfl, by exact eqI (by omega)⟩, trivial⟩
                · exact ⟨⟨rfl, rfl, rfl⟩, ⟨rfl, rfl, by exact eqPl (by simp [evsC, evC, txC])⟩, trivial⟩
                have hnx := hrec (i + 1, a :: l, [e])
                refine hnx ?_ ?_
                · exact ⟨by omega, (by rw [deals_next hx, ← hD, if_neg hdv, List.append_nil]; try rfl), (by rw [keep_next hx, ← hM, if_neg hmv]; try rfl)⟩
                · show L.length - (i + 1) < L.length - i; omega
              · intro h149
                have hmv : delP acc e = true := by simpa [delP] using h149
                refine ag_skip ?_
                refine ag_reg ?_
                iterate 3 refine pA ?_
                refine ar_pure tOk rfl rfl rfl ?_ ?_
                · refine ⟨?_, ?_⟩ <;> first | omega | exact evsC_ne hx | (refine ⟨?_, ?_⟩ <;> omega)
                refine pA ?_
                refine ar_loadAs tOk (.r (.int .i64 e.t)) rfl rfl rfl rfl rfl rfl rfl (.inl ⟨rfl, by exact evsC_at hx (k := 0) (by simp only [addo_eq, mulz_eq, Int.toNat_natCast] <;> omega) (by decide) rfl⟩) ?_
                iterate 2 refine pA ?_
                refine ar_nil ?_
                refine ag_inBlock ?_
                refine ag_reg ?_
                refine pA ?_
                refine ar_pure tOk rfl rfl rfl ?_ ?_
                · unfold inI64; omega
                refine pA ?_
                refine ar_nil ?_
                refine ag_ent (ent_weak (g' := (stLST_0 L acc (i + 1, a :: l, [])).1) (h' := (stLST_0 L acc (i + 1, a :: l, [])).2) [0] rfl rfl rfl rfl ?_ ?_ rfl) ?_
                · exact ⟨⟨rfl, rfl⟩, ⟨rfl, rfl⟩, ⟨rfl, rfl⟩, ⟨rfl, rfl⟩, ⟨rfl, by exact eqI (last_next hx)⟩, ⟨rfl, by exact eqI (by omega)⟩, trivial⟩
                · exact ⟨⟨rfl, rfl, rfl⟩, trivial⟩
                have hnx := hrec (i + 1, a :: l, [])
                refine hnx ?_ ?_
                · exact ⟨by omega, (by rw [deals_next hx, ← hD, if_neg hdv, List.append_nil]; try rfl), (by rw [keep_next hx, ← hM, if_pos hmv, List.append_nil]; try rfl)⟩
                · show L.length - (i + 1) < L.length - i; omega
          · refine ar_ent (ent_reg 125 (.r (.bool false)) (by show AVal.r (.bool _) = _; rw [ht])) ?_
            have hc0 := of_decide_eq_false ht
            have hdv : ¬ dealV e = true := by simp [dealV, hc0]
            iterate 7 refine ar_skip rfl rfl rfl ?_
            refine pA ?_
            refine ar_nil ?_
            refine ag_false rfl (by rfl) ?_
            refine ag_skip ?_
            refine ag_seq ?_
            refine zB ?_
            iterate 2 refine pA ?_
            refine ar_pure tOk rfl rfl rfl ?_ ?_
            · refine ⟨?_, ?_⟩ <;> first | omega | exact evsC_ne hx | (refine ⟨?_, ?_⟩ <;> omega)
            iterate 2 refine pA ?_
            refine ar_loadAs tOk (.r (.int .i64 e.x.f)) rfl rfl rfl rfl rfl rfl rfl (.inl ⟨rfl, by exact evsC_at hx (k := 2) (by simp only [addo_eq, mulz_eq, Int.toNat_natCast] <;> omega) (by decide) rfl⟩) ?_
            iterate 2 refine pA ?_
            refine ar_nil ?_
            refine ag_if rfl ?_ ?_
            · intro h149
              have hmv : ¬ delP acc e = true := by simpa [delP] using h149
              refine ag_reg ?_
              iterate 3 refine pA ?_
              refine ar_pure tOk rfl rfl rfl ?_ ?_
              · refine ⟨?_, ?_⟩ <;> first | omega | exact evsC_ne hx | (refine ⟨?_, ?_⟩ <;> omega)
              refine ar_loadAs tOk (eventA e) rfl rfl rfl rfl rfl rfl rfl (.inr ⟨rfl, _, rfl, by rw [mulz_eq, Int.toNat_natCast]; exact evsC_get hx, rfl⟩) ?_
              refine ar_qd rfl (qop_buildRoK tOk (v := .ro 1 (evC e)) (by kernel_rfl) (by kernel_rfl)) rfl rfl rfl rfl ?_
              refine ar_app tOk rfl rfl rfl ?_ ?_
              · refine ⟨⟨?_, ?_, ?_⟩, ⟨?_, ?_⟩, ⟨?_, ?_⟩, ?_⟩ <;> first | trivial | omega | (simp; done) | (simp; omega)
              refine pA ?_
              refine ar_nil ?_
              refine ag_reg ?_
              iterate 3 refine pA ?_
              refine ar_pure tOk rfl rfl rfl ?_ ?_
              · refine ⟨?_, ?_⟩ <;> first | omega | exact evsC_ne hx | (refine ⟨?_, ?_⟩ <;> omega)
              refine pA ?_
              refine ar_loadAs tOk (.r (.int .i64 e.t)) rfl rfl rfl rfl rfl rfl rfl (.inl ⟨rfl, by exact evsC_at hx (k := 0) (by simp only [addo_eq, mulz_eq, Int.toNat_natCast] <;> omega) (by decide) rfl⟩) ?_
              iterate 2 refine pA ?_
              refine ar_nil ?_
              refine ag_inBlock ?_
              refine ag_reg ?_
              refine pA ?_
              refine ar_pure tOk rfl rfl rfl ?_ ?_
              · unfold inI64; omega
              refine pA ?_
              refine ar_nil ?_
              refine ag_ent (ent_weak (g' := (stLST_0 L acc (i + 1, a :: l, [e])).1) (h' := (stLST_0 L acc (i + 1, a :: l, [e])).2) [0, 1] rfl rfl rfl rfl ?_ ?_ rfl) ?_
              · exact ⟨⟨rfl, rfl⟩, ⟨rfl, rfl⟩, ⟨rfl, rfl⟩, ⟨rfl, rfl⟩, ⟨rfl, by exact eqI (last_next hx)⟩, ⟨rfl, by exact eqI (by omega)⟩, trivial⟩
              · exact ⟨⟨rfl, rfl, rfl⟩, ⟨rfl, rfl, by exact eqPl (by simp [evsC, evC, txC])⟩, trivial⟩
              have hnx := hrec (i + 1, a :: l, [e])
              refine hnx ?_ ?_
              · exact ⟨by omega, (by rw [deals_next hx, ← hD, if_neg hdv, List.append_nil]; try rfl), (by rw [keep_next hx, ← hM, if_neg hmv]; try rfl)⟩
              · show L.length - (i + 1) < L.length - i; omega
            · intro h149
              have hmv : delP acc e = true := by simpa [delP] using h149
              refine ag_skip ?_
              refine ag_reg ?_
              iterate 3 refine pA ?_
              refine ar_pure tOk rfl rfl rfl ?_ ?_
              · refine ⟨?_, ?_⟩ <;> first | omega | exact evsC_ne hx | (refine ⟨?_, ?_⟩ <;> omega)
              refine pA ?_
              refine ar_loadAs tOk (.r (.int .i64 e.t)) rfl rfl rfl rfl rfl rfl rfl (.inl ⟨rfl, by exact evsC_at hx (k := 0) (by simp only [addo_eq, mulz_eq, Int.toNat_natCast] <;> omega) (by decide) rfl⟩) ?_
              iterate 2 refine pA ?_
              refine ar_nil ?_
              refine ag_inBlock ?_
              refine ag_reg ?_
              refine pA ?_
              refine ar_pure tOk rfl rfl rfl ?_ ?_
              · unfold inI64; omega
              refine pA ?_
              refine ar_nil ?_
              refine ag_ent (ent_weak (g' := (stLST_0 L acc (i + 1, a :: l, [])).1) (h' := (stLST_0 L acc (i + 1, a :: l, [])).2) [0] rfl rfl rfl rfl ?_ ?_ rfl) ?_
              · exact ⟨⟨rfl, rfl⟩, ⟨rfl, rfl⟩, ⟨rfl, rfl⟩, ⟨rfl, rfl⟩, ⟨rfl, by exact eqI (last_next hx)⟩, ⟨rfl, by exact eqI (by omega)⟩, trivial⟩
              · exact ⟨⟨rfl, rfl, rfl⟩, trivial⟩
              have hnx := hrec (i + 1, a :: l, [])
              refine hnx ?_ ?_
              · exact ⟨by omega, (by rw [deals_next hx, ← hD, if_neg hdv, List.append_nil]; try rfl), (by rw [keep_next hx, ← hM, if_pos hmv, List.append_nil]; try rfl)⟩
              · show L.length - (i + 1) < L.length - i; omega
        · intro h116
          obtain rfl : i = L.length := by omega
          rw [List.take_length] at hD hM
          refine ag_ent (ent_reg 23 (.r (.int .i64 (lastL L))) (by show AVal.r (.int _ (lastL (L.take L.length))) = _; rw [List.take_length])) ?_
          refine ag_ent (ent_freeze 21 rfl rfl rfl trivial) ?_
          refine ag_ent (ent_reg 21 (roT (dealsL L)) (by show AVal.r (.ro _ (cutA _ 0 _)) = _; rw [← hD, cutA_eq, List.drop_zero, List.take_of_length_le (by rw [txsC_len]; simp)]; rfl)) ?_
          refine ag_ent (ent_nil 22 (.ro 0 []) rfl (.inr rfl)) ?_
          refine ag_ent (ent_reg 22 (roE (keepL acc L)) (by show AVal.r (.ro 0 []) = _; rw [← hM]; rfl)) ?_
          refine ag_exit rfl ?_
          refine ag_ent (ent_weak (g' := (((fun (_u : Unit) => ([(0, roE L), (2, .r (.int .i64 acc)), (21, roT (dealsL L)), (22, roE (keepL acc L)), (23, .r (.int .i64 (lastL L)))], ⟨0, [], false⟩)) ()) : Regs × Hp).1) (h' := (((fun (_u : Unit) => ([(0, roE L), (2, .r (.int .i64 acc)), (21, roT (dealsL L)), (22, roE (keepL acc L)), (23, .r (.int .i64 (lastL L)))], ⟨0, [], false⟩)) ()) : Regs × Hp).2) [] rfl rfl rfl rfl ?_ ?_ rfl) (hjn () ?_)
          · exact ⟨⟨rfl, rfl⟩, ⟨rfl, rfl⟩, ⟨rfl, rfl⟩, ⟨rfl, rfl⟩, ⟨rfl, rfl⟩, trivial⟩
          · trivial
          · trivial
      · skip
        refine ag_ent (ent_weak (g' := [(0, roE L), (2, .r (.int .i64 acc)), (21, .sl 0 0 (l.length + 1) 25), (22, .sl 1 0 (r.length + 1) 27), (23, .r (.int .i64 (lastL (L.take i)))), (24, .r (.int .i64 (i : Int)))]) (h' := ⟨2, [(0, some (.plain (txsC (a :: l)))), (1, some (.plain (evsC (b :: r))))], false⟩) [0, 1] rfl rfl rfl rfl ?_ ?_ rfl) ?_
        · exact ⟨⟨rfl, rfl⟩, ⟨rfl, rfl⟩, ⟨rfl, rfl⟩, ⟨rfl, rfl⟩, ⟨rfl, rfl⟩, ⟨rfl, rfl⟩, trivial⟩
        · exact ⟨⟨rfl, rfl, rfl⟩, ⟨rfl, rfl, rfl⟩, trivial⟩
        refine ag_reg ?_
        iterate 4 refine pA ?_
        refine ar_nil ?_
        refine ag_if rfl ?_ ?_
        · intro h116
          obtain ⟨e, hx⟩ : ∃ e, L[i]? = some e := ⟨L[i]'(by omega), by simp⟩
          have hdl := deals_len (L.take i)
          have hml := keep_len acc (L.take i)
          rw [← hD, List.length_take] at hdl
          rw [← hM, List.length_take] at hml
          simp only [List.length_cons, List.length_nil] at hdl hml
          have htl := txsC_len (a :: l)
          simp only [List.length_cons] at htl
          have hel := CSd_len (b :: r)
          simp only [List.length_cons] at hel
          refine ag_skip ?_
          refine ag_seq ?_
          refine ag_block ?_
          refine ag_seq ?_
          refine zB ?_
          iterate 2 refine pA ?_
          refine ar_pure tOk rfl rfl rfl ?_ ?_
          · refine ⟨?_, ?_⟩ <;> first | omega | exact evsC_ne hx | (refine ⟨?_, ?_⟩ <;> omega)
          refine pA ?_
          refine ar_loadAs tOk (.r (.int .i64 e.c)) rfl rfl rfl rfl rfl rfl rfl (.inl ⟨rfl, by exact evsC_at hx (k := 1) (by simp only [addo_eq, mulz_eq, Int.toNat_natCast] <;> omega) (by decide) rfl⟩) ?_
          iterate 2 refine pA ?_
          refine ar_guard (t := decide (e.c = 0)) (fun ht => ?_) (fun ht => ?_)
          · refine ar_ent (ent_reg 125 (.r (.bool true)) (by show AVal.r (.bool _) = _; rw [ht])) ?_
            have hc0 := of_decide_eq_true ht
            iterate 2 refine pA ?_
            refine ar_pure tOk rfl rfl rfl ?_ ?_
            · refine ⟨?_, ?_⟩ <;> first | omega | exact evsC_ne hx | (refine ⟨?_, ?_⟩ <;> omega)
            iterate 2 refine pA ?_
            refine ar_loadAs tOk (.r (.int .i64 e.x.k)) rfl rfl rfl rfl rfl rfl rfl (.inl ⟨rfl, by exact evsC_at hx (k := 4) (by simp only [addo_eq, mulz_eq, Int.toNat_natCast] <;> omega) (by decide) rfl⟩) ?_
            iterate 2 refine pA ?_
            refine ar_nil ?_
            refine ag_cond rfl ?_ ?_
            · intro h133
              have hdv : dealV e = true := by simpa [dealV, hc0] using h133
              refine ag_reg ?_
              iterate 3 refine pA ?_
              refine ar_pure tOk rfl rfl rfl ?_ ?_
              · refine ⟨?_, ?_⟩ <;> first | omega | exact evsC_ne hx | (refine ⟨?_, ?_⟩ <;> omega)
              refine pA ?_
              refine ar_loadAs tOk (txA e.x) rfl rfl rfl rfl rfl rfl rfl (.inr ⟨rfl, _, rfl, by rw [addo_eq, mulz_eq, Int.toNat_natCast]; exact evsC_tx hx, rfl⟩) ?_
              refine ar_qd rfl (qop_buildRoK tOk (v := .ro 1 (txC e.x)) (by kernel_rfl) (by kernel_rfl)) rfl rfl rfl rfl ?_
              refine ar_app tOk rfl rfl rfl ?_ ?_
              · refine ⟨⟨?_, ?_, ?_⟩, ⟨?_, ?_⟩, ⟨?_, ?_⟩, ?_⟩ <;> first | trivial | omega | (simp; done) | (simp; omega)
              refine pA ?_
              refine zA ?_
              refine zB ?_
              iterate 2 refine pA ?_
              refine ar_pure tOk rfl rfl rfl ?_ ?_
              · refine ⟨?_, ?_⟩ <;> first | omega | exact evsC_ne hx | (refine ⟨?_, ?_⟩ <;> omega)
              iterate 2 refine pA ?_
              refine ar_loadAs tOk (.r (.int .i64 e.x.f)) rfl rfl rfl rfl rfl rfl rfl (.inl ⟨rfl, by exact evsC_at hx (k := 2) (by simp only [addo_eq, mulz_eq, Int.toNat_natCast] <;> omega) (by decide) rfl⟩) ?_
              iterate 2 refine pA ?_
              refine ar_nil ?_
              refine ag_if rfl ?_ ?_
              · intro h149
                have hmv : ¬ delP acc e = true := by simpa [delP] using h149
                refine ag_reg ?_
                iterate 3 refine pA ?_
                refine ar_pure tOk rfl rfl rfl ?_ ?_
                · refine ⟨?_, ?_⟩ <;> first | omega | exact evsC_ne hx | (refine ⟨?_, ?_⟩ <;> omega)
                refine ar_loadAs tOk (eventA e) rfl rfl rfl rfl rfl rfl rfl (.inr ⟨rfl, _, rfl, by rw [mulz_eq, Int.toNat_natCast]; exact evsC_get hx, rfl⟩) ?_
                refine ar_qd rfl (qop_buildRoK tOk (v := .ro 1 (evC e)) (by kernel_rfl) (by kernel_rfl)) rfl rfl rfl rfl ?_
                refine ar_app tOk rfl rfl rfl ?_ ?_
                · refine ⟨⟨?_, ?_, ?_⟩, ⟨?_, ?_⟩, ⟨?_, ?_⟩, ?_⟩ <;> first | trivial | omega | (simp; done) | (simp; omega)
                refine pA ?_
                refine ar_nil ?_
                refine ag_reg ?_
                iterate 3 refine pA ?_
                refine ar_pure tOk rfl rfl rfl ?_ ?_
                · refine ⟨?_, ?_⟩ <;> first | omega | exact evsC_ne hx | (refine ⟨?_, ?_⟩ <;> omega)
                refine pA ?_
                refine ar_loadAs tOk (.r (.int .i64 e.t)) rfl rfl rfl rfl rfl rfl rfl (.inl ⟨rfl, by exact evsC_at hx (k := 0) (by simp only [addo_eq, mulz_eq, Int.toNat_natCast] <;> omega) (by decide) rfl⟩) ?_
                iterate 2 refine pA ?_
                refine ar_nil ?_
                refine ag_inBlock ?_
                refine ag_reg ?_
                refine pA ?_
                refine ar_pure tOk rfl rfl rfl ?_ ?_
                · unfold inI64; omega
                refine pA ?_
                refine ar_nil ?_
                refine ag_ent (ent_weak (g' := (stLST_0 L acc (i + 1, a :: l ++ [e.x], b :: r ++ [e])).1) (h' := (stLST_0 L acc (i + 1, a :: l ++ [e.x], b :: r ++ [e])).2) [2, 3] rfl rfl rfl rfl ?_ ?_ rfl) ?_
                · exact ⟨⟨rfl, rfl⟩, ⟨rfl, rfl⟩, ⟨rfl, by exact eqSl (by simp)⟩, ⟨rfl, by exact eqSl (by simp)⟩, ⟨rfl, by exact eqI (last_next hx)⟩, ⟨rfl, by exact eqI (by omega)⟩, trivial⟩
                · exact ⟨⟨rfl, rfl, by exact eqPl (txsC_nx a l e.x)⟩, ⟨rfl, rfl, by exact eqPl (evsC_nx b r e)⟩, trivial⟩
                have hnx := hrec (i + 1, a :: l ++ [e.x], b :: r ++ [e])
                refine hnx ?_ ?_
                · exact ⟨by omega, (by rw [deals_next hx, ← hD, if_pos hdv]; try rfl), (by rw [keep_next hx, ← hM, if_neg hmv]; try rfl)⟩
                · show L.length - (i + 1) < L.length - i; omega
              · intro h149
                have hmv : delP acc e = true := by simpa [delP] using h149
                refine ag_skip ?_
                refine ag_reg ?_
                iterate 3 refine pA ?_
                refine ar_pure tOk rfl rfl rfl ?_ ?_
                · refine ⟨?_, ?_⟩ <;> first | omega | exact evsC_ne hx | (refine ⟨?_, ?_⟩ <;> omega)
                refine pA ?_
                refine ar_loadAs tOk (.r (.int .i64 e.t)) rfl rfl rfl rfl rfl rfl rfl (.inl ⟨rfl, by exact evsC_at hx (k := 0) (by simp only [addo_eq, mulz_eq, Int.toNat_natCast] <;> omega) (by decide) rfl⟩) ?_
                iterate 2 refine pA ?_
                refine ar_nil ?_
                refine ag_inBlock ?_
                refine ag_reg ?_
                refine pA ?_
                refine ar_pure tOk rfl rfl rfl ?_ ?_
                · unfold inI64; omega
                refine pA ?_
                refine ar_nil ?_
                refine ag_ent (ent_weak (g' := (stLST_0 L acc (i + 1, a :: l ++ [e.x], b :: r)).1) (h' := (stLST_0 L acc (i + 1, a :: l ++ [e.x], b :: r)).2) [2, 1] rfl rfl rfl rfl ?_ ?_ rfl) ?_
                · exact ⟨⟨rfl, rfl⟩, ⟨rfl, rfl⟩, ⟨rfl, by exact eqSl (by simp)⟩, ⟨rfl, rfl⟩, ⟨rfl, by exact eqI (last_next hx)⟩, ⟨rfl, by exact eqI (by omega)⟩, trivial⟩
                · exact ⟨⟨rfl, rfl, by exact eqPl (txsC_nx a l e.x)⟩, ⟨rfl, rfl, rfl⟩, trivial⟩
                have hnx := hrec (i + 1, a :: l ++ [e.x], b :: r)
                refine hnx ?_ ?_
                · exact ⟨by omega, (by rw [deals_next hx, ← hD, if_pos hdv]; try rfl), (by rw [keep_next hx, ← hM, if_pos hmv, List.append_nil]; try rfl)⟩
                · show L.length - (i + 1) < L.length - i; omega
            · intro h133
              have hdv : ¬ dealV e = true := by simpa [dealV, hc0] using h133
              refine ag_skip ?_
              refine ag_seq ?_
              refine zB ?_
              iterate 2 refine pA ?_
              refine ar_pure tOk rfl rfl rfl ?_ ?_
              · refine ⟨?_, ?_⟩ <;> first | omega | exact evsC_ne hx | (refine ⟨?_, ?_⟩ <;> omega)
              iterate 2 refine pA ?_
              refine ar_loadAs tOk (.r (.int .i64 e.x.f)) rfl rfl rfl rfl rfl rfl rfl (.inl ⟨rfl, by exact evsC_at hx (k := 2) (by simp only [addo_eq, mulz_eq, Int.toNat_natCast] <;> omega) (by decide) rfl⟩) ?_
              iterate 2 refine pA ?_
              refine ar_nil ?_
              refine ag_if rfl ?_ ?_
              · intro h149
                have hmv : ¬ delP acc e = true := by simpa [delP] using h149
                refine ag_reg ?_
                iterate 3 refine pA ?_
                refine ar_pure tOk rfl rfl rfl ?_ ?_
                · refine ⟨?_, ?_⟩ <;> first | omega | exact evsC_ne hx | (refine ⟨?_, ?_⟩ <;> omega)
                refine ar_loadAs tOk (eventA e) rfl rfl rfl rfl rfl rfl rfl (.inr ⟨rfl, _, rfl, by rw [mulz_eq, Int.toNat_natCast]; exact evsC_get hx, rfl⟩) ?_
                refine ar_qd rfl (qop_buildRoK tOk (v := .ro 1 (evC e)) (by kernel_rfl) (by kernel_rfl)) rfl rfl rfl rfl ?_
                refine ar_app tOk rfl rfl rfl ?_ ?_
                · refine ⟨⟨?_, ?_, ?_⟩, ⟨?_, ?_⟩, ⟨?_, ?_⟩, ?_⟩ <;> first | trivial | omega | (simp; done) | (simp; omega)
                refine pA ?_
                refine ar_nil ?_
                refine ag_reg ?_
                iterate 3 refine pA ?_
                refine ar_pure tOk rfl rfl rfl ?_ ?_
                · refine ⟨?_, ?_⟩ <;> first | omega | exact evsC_ne hx | (refine ⟨?_, ?_⟩ <;> omega)
                refine pA ?_
                refine ar_loadAs tOk (.r (.int .i64 e.t)) rfl rfl rfl rfl rfl rfl rfl (.inl ⟨rfl, by exact evsC_at hx (k := 0) (by simp only [addo_eq, mulz_eq, Int.toNat_natCast] <;> omega) (by decide) rfl⟩) ?_
                iterate 2 refine pA ?_
                refine ar_nil ?_
                refine ag_inBlock ?_
                refine ag_reg ?_
                refine pA ?_
                refine ar_pure tOk rfl rfl rfl ?_ ?_
                · unfold inI64; omega
                refine pA ?_
                refine ar_nil ?_
                refine ag_ent (ent_weak (g' := (stLST_0 L acc (i + 1, a :: l, b :: r ++ [e])).1) (h' := (stLST_0 L acc (i + 1, a :: l, b :: r ++ [e])).2) [0, 2] rfl rfl rfl rfl ?_ ?_ rfl) ?_
                · exact ⟨⟨rfl, rfl⟩, ⟨rfl, rfl⟩, ⟨rfl, rfl⟩, ⟨rfl, by exact eqSl (by simp)⟩, ⟨rfl, by exact eqI (last_next hx)⟩, ⟨rfl, by exact eqI (by omega)⟩, trivial⟩
                · exact ⟨⟨rfl, rfl, rfl⟩, ⟨rfl, rfl, by exact eqPl (evsC_nx b r e)⟩, trivial⟩
                have hnx := hrec (i + 1, a :: l, b :: r ++ [e])
                refine hnx ?_ ?_
                · exact ⟨by omega, (by rw [deals_next hx, ← hD, if_neg hdv, List.append_nil]; try rfl), (by rw [keep_next hx, ← hM, if_neg hmv]; try rfl)⟩
                · show L.length - (i + 1) < L.length - i; omega
              · intro h149
                have hmv : delP acc e = true := by simpa [delP] using h149
                refine ag_skip ?_
                refine ag_reg ?_
                iterate 3 refine pA ?_
                refine ar_pure tOk rfl rfl rfl ?_ ?_
                · refine ⟨?_, ?_⟩ <;> first | omega | exact evsC_ne hx | (refine ⟨?_, ?_⟩ <;> omega)
                refine pA ?_
                refine ar_loadAs tOk (.r (.int .i64 e.t)) rfl rfl rfl rfl rfl rfl rfl (.inl ⟨rfl, by exact evsC_at hx (k := 0) (by simp only [addo_eq, mulz_eq, Int.toNat_natCast] <;> omega) (by decide) rfl⟩) ?_
                iterate 2 refine pA ?_
                refine ar_nil ?_
                refine ag_inBlock ?_
                refine ag_reg ?_
                refine pA ?_
                refine ar_pure tOk rfl rfl rfl ?_ ?_
                · unfold inI64; omega
                refine pA ?_
                refine ar_nil ?_
                refine ag_ent (ent_weak (g' := (stLST_0 L acc (i + 1, a :: l, b :: r)).1) (h' := (stLST_0 L acc (i + 1, a :: l, b :: r)).2) [0, 1] rfl rfl rfl rfl ?_ ?_ rfl) ?_
                · exact ⟨⟨rfl, rfl⟩, ⟨rfl, rfl⟩, ⟨rfl, rfl⟩, ⟨rfl, rfl⟩, ⟨rfl, by exact eqI (last_next hx)⟩, ⟨rfl, by exact eqI (by omega)⟩, trivial⟩
                · exact ⟨⟨rfl, rfl, rfl⟩, ⟨rfl, rfl, rfl⟩, trivial⟩
                have hnx := hrec (i + 1, a :: l, b :: r)
                refine hnx ?_ ?_
                · exact ⟨by omega, (by rw [deals_next hx, ← hD, if_neg hdv, List.append_nil]; try rfl), (by rw [keep_next hx, ← hM, if_pos hmv, List.append_nil]; try rfl)⟩
                · show L.length - (i + 1) < L.length - i; omega
          · refine ar_ent (ent_reg 125 (.r (.bool false)) (by show AVal.r (.bool _) = _; rw [ht])) ?_
            have hc0 := of_decide_eq_false ht
            have hdv : ¬ dealV e = true := by simp [dealV, hc0]
            iterate 7 refine ar_skip rfl rfl rfl ?_
            refine pA ?_
            refine ar_nil ?_
            refine ag_false rfl (by rfl) ?_
            refine ag_skip ?_
            refine ag_seq ?_
            refine zB ?_
            iterate 2 refine pA ?_
            refine ar_pure tOk rfl rfl rfl ?_ ?_
            · refine ⟨?_, ?_⟩ <;> first | omega | exact evsC_ne hx | (refine ⟨?_, ?_⟩ <;> omega)
            iterate 2 refine pA ?_
            refine ar_loadAs tOk (.r (.int .i64 e.x.f)) rfl rfl rfl rfl rfl rfl rfl (.inl ⟨rfl, by exact evsC_at hx (k := 2) (by simp only [addo_eq, mulz_eq, Int.toNat_natCast] <;> omega) (by decide) rfl⟩) ?_
            iterate 2 refine pA ?_
            refine ar_nil ?_
            refine ag_if rfl ?_ ?_
            · intro h149
              have hmv : ¬ delP acc e = true := by simpa [delP] using h149
              refine ag_reg ?_
              iterate 3 refine pA ?_
              refine ar_pure tOk rfl rfl rfl ?_ ?_
              · refine ⟨?_, ?_⟩ <;> first | omega | exact evsC_ne hx | (refine ⟨?_, ?_⟩ <;> omega)
              refine ar_loadAs tOk (eventA e) rfl rfl rfl rfl rfl rfl rfl (.inr ⟨rfl, _, rfl, by rw [mulz_eq, Int.toNat_natCast]; exact evsC_get hx, rfl⟩) ?_
              refine ar_qd rfl (qop_buildRoK tOk (v := .ro 1 (evC e)) (by kernel_rfl) (by kernel_rfl)) rfl rfl rfl rfl ?_
              refine ar_app tOk rfl rfl rfl ?_ ?_
              · refine ⟨⟨?_, ?_, ?_⟩, ⟨?_, ?_⟩, ⟨?_, ?_⟩, ?_⟩ <;> first | trivial | omega | (simp; done) | (simp; omega)
              refine pA ?_
              refine ar_nil ?_
              refine ag_reg ?_
              iterate 3 refine pA ?_
              refine ar_pure tOk rfl rfl rfl ?_ ?_
              · refine ⟨?_, ?_⟩ <;> first | omega | exact evsC_ne hx | (refine ⟨?_, ?_⟩ <;> omega)
              refine pA ?_
              refine ar_loadAs tOk (.r (.int .i64 e.t)) rfl rfl rfl rfl rfl rfl rfl (.inl ⟨rfl, by exact evsC_at hx (k := 0) (by simp only [addo_eq, mulz_eq, Int.toNat_natCast] <;> omega) (by decide) rfl⟩) ?_
              iterate 2 refine pA ?_
              refine ar_nil ?_
              refine ag_inBlock ?_
              refine ag_reg ?_
              refine pA ?_
              refine ar_pure tOk rfl rfl rfl ?_ ?_
              · unfold inI64; omega
              refine pA ?_
              refine ar_nil ?_
              refine ag_ent (ent_weak (g' := (stLST_0 L acc (i + 1, a :: l, b :: r ++ [e])).1) (h' := (stLST_0 L acc (i + 1, a :: l, b :: r ++ [e])).2) [0, 2] rfl rfl rfl rfl ?_ ?_ rfl) ?_
              · exact ⟨⟨rfl, rfl⟩, ⟨rfl, rfl⟩, ⟨rfl, rfl⟩, ⟨rfl, by exact eqSl (by simp)⟩, ⟨rfl, by exact eqI (last_next hx)⟩, ⟨rfl, by exact eqI (by omega)⟩, trivial⟩
              · exact ⟨⟨rfl, rfl, rfl⟩, ⟨rfl, rfl, by exact eqPl (evsC_nx b r e)⟩, trivial⟩
              have hnx := hrec (i + 1, a :: l, b :: r ++ [e])
              refine hnx ?_ ?_
              · exact ⟨by omega, (by rw [deals_next hx, ← hD, if_neg hdv, List.append_nil]; try rfl), (by rw [keep_next hx, ← hM, if_neg hmv]; try rfl)⟩
              · show L.length - (i + 1) < L.length - i; omega
            · intro h149
              have hmv : delP acc e = true := by simpa [delP] using h149
              refine ag_skip ?_
              refine ag_reg ?_
              iterate 3 refine pA ?_
              refine ar_pure tOk rfl rfl rfl ?_ ?_
              · refine ⟨?_, ?_⟩ <;> first | omega | exact evsC_ne hx | (refine ⟨?_, ?_⟩ <;> omega)
              refine pA ?_
              refine ar_loadAs tOk (.r (.int .i64 e.t)) rfl rfl rfl rfl rfl rfl rfl (.inl ⟨rfl, by exact evsC_at hx (k := 0) (by simp only [addo_eq, mulz_eq, Int.toNat_natCast] <;> omega) (by decide) rfl⟩) ?_
              iterate 2 refine pA ?_
              refine ar_nil ?_
              refine ag_inBlock ?_
              refine ag_reg ?_
              refine pA ?_
              refine ar_pure tOk rfl rfl rfl ?_ ?_
              · unfold inI64; omega
              refine pA ?_
              refine ar_nil ?_
              refine ag_ent (ent_weak (g' := (stLST_0 L acc (i + 1, a :: l, b :: r)).1) (h' := (stLST_0 L acc (i + 1, a :: l, b :: r)).2) [0, 1] rfl rfl rfl rfl ?_ ?_ rfl) ?_
              · exact ⟨⟨rfl, rfl⟩, ⟨rfl, rfl⟩, ⟨rfl, rfl⟩, ⟨rfl, rfl⟩, ⟨rfl, by exact eqI (last_next hx)⟩, ⟨rfl, by exact eqI (by omega)⟩, trivial⟩
              · exact ⟨⟨rfl, rfl, rfl⟩, ⟨rfl, rfl, rfl⟩, trivial⟩
              have hnx := hrec (i + 1, a :: l, b :: r)
              refine hnx ?_ ?_
              · exact ⟨by omega, (by rw [deals_next hx, ← hD, if_neg hdv, List.append_nil]; try rfl), (by rw [keep_next hx, ← hM, if_pos hmv, List.append_nil]; try rfl)⟩
              · show L.length - (i + 1) < L.length - i; omega
        · intro h116
          obtain rfl : i = L.length := by omega
          rw [List.take_length] at hD hM
          refine ag_ent (ent_reg 23 (.r (.int .i64 (lastL L))) (by show AVal.r (.int _ (lastL (L.take L.length))) = _; rw [List.take_length])) ?_
          refine ag_ent (ent_freeze 21 rfl rfl rfl trivial) ?_
          refine ag_ent (ent_reg 21 (roT (dealsL L)) (by show AVal.r (.ro _ (cutA _ 0 _)) = _; rw [← hD, cutA_eq, List.drop_zero, List.take_of_length_le (by rw [txsC_len]; simp)]; rfl)) ?_
          refine ag_ent (ent_freeze 22 rfl rfl rfl trivial) ?_
          refine ag_ent (ent_reg 22 (roE (keepL acc L)) (by show AVal.r (.ro _ (cutA _ 0 _)) = _; rw [← hM, cutA_eq, List.drop_zero, List.take_of_length_le (by rw [CSd_len]; simp)]; rfl)) ?_
          refine ag_exit rfl ?_
          refine ag_ent (ent_weak (g' := (((fun (_u : Unit) => ([(0, roE L), (2, .r (.int .i64 acc)), (21, roT (dealsL L)), (22, roE (keepL acc L)), (23, .r (.int .i64 (lastL L)))], ⟨0, [], false⟩)) ()) : Regs × Hp).1) (h' := (((fun (_u : Unit) => ([(0, roE L), (2, .r (.int .i64 acc)), (21, roT (dealsL L)), (22, roE (keepL acc L)), (23, .r (.int .i64 (lastL L)))], ⟨0, [], false⟩)) ()) : Regs × Hp).2) [] rfl rfl rfl rfl ?_ ?_ rfl) (hjn () ?_)
          · exact ⟨⟨rfl, rfl⟩, ⟨rfl, rfl⟩, ⟨rfl, rfl⟩, ⟨rfl, rfl⟩, ⟨rfl, rfl⟩, trivial⟩
          · trivial
          · trivial
    · rintro _u hjp
      refine zB ?_
      refine pA ?_
      refine ar_pur (w_Deals L hL) rfl rfl rfl rfl rfl rfl rfl ?_
      iterate 2 refine pA ?_
      refine ar_pur (w_Of acc L hL) rfl rfl rfl rfl rfl rfl rfl ?_
      iterate 2 refine pA ?_
      refine zA ?_
      refine zB ?_
      iterate 6 refine pA ?_
      refine ar_ent (ent_reg 174 (.r (.bool false)) (by show AVal.r (.bool _) = _; exact eqB (by simp))) ?_
      iterate 7 refine pA ?_
      refine ar_ent (ent_reg 181 (.r (.bool false)) (by show AVal.r (.bool _) = _; exact eqB (by simp))) ?_
      refine pA ?_
      refine ar_pur (w_Last L (by omega)) rfl rfl rfl rfl rfl rfl rfl ?_
      iterate 3 refine pA ?_
      refine ar_nil ?_
      refine ag_false rfl (by simp) ?_
      refine ag_skip ?_
      refine ag_seq ?_
      refine zB ?_
      refine pA ?_
      refine ar_nil ?_
      refine ag_block ?_
      refine ag_loopS (stLST_2 L acc) (prLST_2 L acc) (fun (i : Nat) => (dealsL L).length - i) 0 (ent_weak [] rfl rfl rfl rfl ?_ ?_ rfl) (show prLST_2 L acc 0 from ?_) ?_
      · exact ⟨⟨rfl, rfl⟩, ⟨rfl, rfl⟩, ⟨rfl, rfl⟩, ⟨rfl, rfl⟩, ⟨rfl, rfl⟩, trivial⟩
      · trivial
      · exact Nat.zero_le _
      rintro i hi hrec
      have hi : i ≤ (dealsL L).length := hi
      refine ag_seq ?_
      refine zB ?_
      iterate 4 refine pA ?_
      refine ar_nil ?_
      refine ag_if rfl ?_ ?_
      · intro h190
        have hdl2 := deals_len L
        obtain ⟨y, hy⟩ : ∃ y, (dealsL L)[i]? = some y := ⟨(dealsL L)[i]'(by omega), by simp⟩
        refine ag_skip ?_
        refine ag_seq ?_
        refine ag_block ?_
        refine ag_seq ?_
        refine ag_draw0 (by kernel_rfl) (by kernel_rfl) ?_
        iterate 2 refine aq_pure tOk rfl rfl rfl trivial ?_
        refine aq_pure tOk rfl rfl rfl ?_ ?_
        · refine ⟨?_, ?_⟩ <;> first | omega | exact txsC_ne hy | (refine ⟨?_, ?_⟩ <;> omega)
        refine aq_loadAs tOk (txA y) rfl rfl rfl rfl (fun _ => rfl) rfl rfl (.inr ⟨rfl, _, rfl, by rw [mulz_eq, Int.toNat_natCast]; exact txsC_get hy, rfl⟩) ?_
        iterate 2 refine aq_pure tOk rfl rfl rfl trivial ?_
        refine aq_pure tOk rfl rfl rfl ?_ ?_
        · refine ⟨?_, ?_⟩ <;> first | omega | exact txsC_ne hy | (refine ⟨?_, ?_⟩ <;> omega)
        refine aq_loadAs tOk (txA y) rfl rfl rfl rfl (fun _ => rfl) rfl rfl (.inr ⟨rfl, _, rfl, by rw [mulz_eq, Int.toNat_natCast]; exact txsC_get hy, rfl⟩) ?_
        refine aq_pure tOk rfl rfl rfl trivial ?_
        refine aq_nil rfl ?_
        refine ag_false rfl (by simp) ?_
        refine ag_skip ?_
        refine ag_inBlock ?_
        refine ag_reg ?_
        refine pA ?_
        refine ar_pure tOk rfl rfl rfl ?_ ?_
        · unfold inI64; omega
        refine pA ?_
        refine ar_nil ?_
        refine ag_ent (ent_weak (g' := (stLST_2 L acc (i + 1)).1) (h' := (stLST_2 L acc (i + 1)).2) [] rfl rfl rfl rfl ?_ ?_ rfl) ?_
        · exact ⟨⟨rfl, rfl⟩, ⟨rfl, rfl⟩, ⟨rfl, rfl⟩, ⟨rfl, rfl⟩, ⟨rfl, by exact eqI (by omega)⟩, trivial⟩
        · trivial
        have hnx := hrec (i + 1)
        refine hnx ?_ ?_
        · show i + 1 ≤ (dealsL L).length; omega
        · show (dealsL L).length - (i + 1) < (dealsL L).length - i; omega
      · intro h190
        refine ag_exit rfl ?_
        refine ag_seq ?_
        refine zB ?_
        refine pA ?_
        refine ar_nil ?_
        refine ag_block ?_
        refine ag_loopS (stLST_4 L acc) (prLST_4 L acc) (fun (i : Nat) => (keepL acc L).length - i) 0 (ent_weak [] rfl rfl rfl rfl ?_ ?_ rfl) (show prLST_4 L acc 0 from ?_) ?_
        · exact ⟨⟨rfl, rfl⟩, ⟨rfl, rfl⟩, ⟨rfl, rfl⟩, ⟨rfl, rfl⟩, ⟨rfl, rfl⟩, trivial⟩
        · trivial
        · exact Nat.zero_le _
        rintro i hi hrec
        have hi : i ≤ (keepL acc L).length := hi
        refine ag_seq ?_
        refine zB ?_
        iterate 4 refine pA ?_
        refine ar_nil ?_
        refine ag_if rfl ?_ ?_
        · intro h205
          have hkl2 := keep_len acc L
          obtain ⟨y, hy⟩ : ∃ y, (keepL acc L)[i]? = some y := ⟨(keepL acc L)[i]'(by omega), by simp⟩
          refine ag_skip ?_
          refine ag_seq ?_
          refine ag_block ?_
          refine ag_seq ?_
          refine ag_draw0 (by kernel_rfl) (by kernel_rfl) ?_
          iterate 2 refine aq_pure tOk rfl rfl rfl trivial ?_
          refine aq_pure tOk rfl rfl rfl ?_ ?_
          · refine ⟨?_, ?_⟩ <;> first | omega | exact evsC_ne hy | (refine ⟨?_, ?_⟩ <;> omega)
          refine aq_loadAs tOk (eventA y) rfl rfl rfl rfl (fun _ => rfl) rfl rfl (.inr ⟨rfl, _, rfl, by rw [mulz_eq, Int.toNat_natCast]; exact evsC_get hy, rfl⟩) ?_
          iterate 2 refine aq_pure tOk rfl rfl rfl trivial ?_
          refine aq_pure tOk rfl rfl rfl ?_ ?_
          · refine ⟨?_, ?_⟩ <;> first | omega | exact evsC_ne hy | (refine ⟨?_, ?_⟩ <;> omega)
          refine aq_loadAs tOk (eventA y) rfl rfl rfl rfl (fun _ => rfl) rfl rfl (.inr ⟨rfl, _, rfl, by rw [mulz_eq, Int.toNat_natCast]; exact evsC_get hy, rfl⟩) ?_
          refine aq_pure tOk rfl rfl rfl trivial ?_
          refine aq_nil rfl ?_
          refine ag_false rfl (by simp) ?_
          refine ag_skip ?_
          refine ag_inBlock ?_
          refine ag_reg ?_
          refine pA ?_
          refine ar_pure tOk rfl rfl rfl ?_ ?_
          · unfold inI64; omega
          refine pA ?_
          refine ar_nil ?_
          refine ag_ent (ent_weak (g' := (stLST_4 L acc (i + 1)).1) (h' := (stLST_4 L acc (i + 1)).2) [] rfl rfl rfl rfl ?_ ?_ rfl) ?_
          · exact ⟨⟨rfl, rfl⟩, ⟨rfl, rfl⟩, ⟨rfl, rfl⟩, ⟨rfl, rfl⟩, ⟨rfl, by exact eqI (by omega)⟩, trivial⟩
          · trivial
          have hnx := hrec (i + 1)
          refine hnx ?_ ?_
          · show i + 1 ≤ (keepL acc L).length; omega
          · show (keepL acc L).length - (i + 1) < (keepL acc L).length - i; omega
        · intro h205
          refine ag_exit rfl ?_
          refine zB ?_
          refine pA ?_
          refine ar_nil ?_
          refine ag_ret tOk Try.func5 rfl rfl (by simp) ?_
          rfl
end Go.Proofs.Ytancdgbclbkpkaa


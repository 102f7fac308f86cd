/-
  WALKS: the law BidTells. (Printed by gen.py out of w_lbid.py.)
-/
import Derived.Test.YtnodpljgcdkbkaaBText
namespace Go.Proofs.Ytnodpljgcdkbkaa
open Go
set_option maxRecDepth 20000
set_option linter.unusedVariables false
set_option linter.unusedSimpArgs false
theorem w_BidTells (a b : BidV) (ha : a.ok) (hb : b.ok) (root : List UInt8) : Pur Try.prog 4 [bidA a, bidA b, .r (.str root)] (.r (.bool true)) := by
  refine spec_of_go (N := 95) Try.func4 rfl (by decide) rfl rfl ?_
  refine zB ?_
  iterate 2 refine ar_new tOk rfl rfl rfl trivial ?_
  refine pA ?_
  refine zC ?_
  refine pA ?_
  refine zA ?_
  refine zB ?_
  refine pA ?_
  refine ar_nil ?_
  refine ag_join (fun (m : Bool) => ([(2, .r (.str root)), (3, .ptr 0 0), (4, .ptr 1 0), (7, .r (.bool m))], ⟨2, [(0, some (.mixed ((bidC a).map .r))), (1, some (.mixed ((bidC b).map .r)))], false⟩)) (fun m => m = decide (cAB a b > 0)) ?_ ?_
  · intro hjn
    refine ag_block ?_
    refine ag_unroll ?_
    refine ag_seq ?_
    refine zB ?_
    iterate 3 refine pA ?_
    refine ar_ent (ent_reg 12 (.r (.bool true)) (by show AVal.r (.bool _) = _; exact eqB (by decide))) ?_
    iterate 3 refine pA ?_
    refine ar_nil ?_
    refine ag_true rfl (by decide) ?_
    refine ag_skip ?_
    refine ag_seq ?_
    refine ag_block ?_
    refine ag_seq ?_
    refine ag_draw0 (by kernel_rfl) (by kernel_rfl) ?_
    iterate 2 refine aq_pure tOk rfl rfl rfl trivial ?_
    refine aq_pure tOk rfl rfl rfl ?_ ?_
    · first | trivial | omega | (unfold inI64; omega) | (refine ⟨?_, ?_⟩ <;> first | trivial | rfl | omega | simp) | decide
    refine aq_load0 tOk rfl (by kernel_rfl) rfl rfl trivial ?_
    iterate 2 refine aq_pure tOk rfl rfl rfl trivial ?_
    refine aq_pure tOk rfl rfl rfl ?_ ?_
    · first | trivial | omega | (unfold inI64; omega) | (refine ⟨?_, ?_⟩ <;> first | trivial | rfl | omega | simp) | decide
    refine aq_load0 tOk rfl (by kernel_rfl) rfl rfl trivial ?_
    iterate 2 refine aq_pure tOk rfl rfl rfl trivial ?_
    refine aq_nil rfl ?_
    refine ag_seq ?_
    refine ag_draw0 (by kernel_rfl) (by kernel_rfl) ?_
    iterate 2 refine aq_pure tOk rfl rfl rfl trivial ?_
    refine aq_pure tOk rfl rfl rfl ?_ ?_
    · first | trivial | omega | (unfold inI64; omega) | (refine ⟨?_, ?_⟩ <;> first | trivial | rfl | omega | simp) | decide
    refine aq_load0 tOk rfl (by kernel_rfl) rfl rfl trivial ?_
    iterate 2 refine aq_pure tOk rfl rfl rfl trivial ?_
    refine aq_pure tOk rfl rfl rfl ?_ ?_
    · first | trivial | omega | (unfold inI64; omega) | (refine ⟨?_, ?_⟩ <;> first | trivial | rfl | omega | simp) | decide
    refine aq_load0 tOk rfl (by kernel_rfl) rfl rfl trivial ?_
    refine aq_pure tOk rfl rfl rfl trivial ?_
    refine aq_nil rfl ?_
    refine ag_if rfl ?_ ?_
    · intro h35
      refine ag_exit rfl ?_
      refine ag_ent (ent_weak (g' := (((fun (m : Bool) => ([(2, .r (.str root)), (3, .ptr 0 0), (4, .ptr 1 0), (7, .r (.bool m))], ⟨2, [(0, some (.mixed ((bidC a).map .r))), (1, some (.mixed ((bidC b).map .r)))], false⟩)) false) : Regs × Hp).1) (h' := (((fun (m : Bool) => ([(2, .r (.str root)), (3, .ptr 0 0), (4, .ptr 1 0), (7, .r (.bool m))], ⟨2, [(0, some (.mixed ((bidC a).map .r))), (1, some (.mixed ((bidC b).map .r)))], false⟩)) false) : Regs × Hp).2) [0, 1] rfl rfl rfl rfl ?_ ?_ rfl) (hjn false ?_)
      · exact ⟨⟨rfl, rfl⟩, ⟨rfl, rfl⟩, ⟨rfl, rfl⟩, ⟨rfl, by exact eqB (decide_eq_false (by omega)).symm⟩, trivial⟩
      · exact ⟨⟨rfl, rfl, rfl⟩, ⟨rfl, rfl, rfl⟩, trivial⟩
      · show false = decide (cmpL _ > 0)
        rw [cmpL_lt (by omega)]
        rfl
    · intro h35
      refine ag_skip ?_
      refine ag_inBlock ?_
      refine ag_reg ?_
      refine pA ?_
      refine ar_pure tOk rfl rfl rfl ?_ ?_
      · unfold inI64; decide
      refine pA ?_
      refine ar_nil ?_
      refine ag_again ?_
      refine ag_seq ?_
      refine zB ?_
      iterate 3 refine pA ?_
      refine ar_ent (ent_reg 12 (.r (.bool true)) (by show AVal.r (.bool _) = _; exact eqB (by decide))) ?_
      iterate 3 refine pA ?_
      refine ar_nil ?_
      refine ag_cond rfl ?_ ?_
      · intro h15
        simp at h15
        refine ag_skip ?_
        refine ag_seq ?_
        refine ag_block ?_
        refine ag_seq ?_
        refine ag_draw0 (by kernel_rfl) (by kernel_rfl) ?_
        iterate 2 refine aq_pure tOk rfl rfl rfl trivial ?_
        refine aq_pure tOk rfl rfl rfl ?_ ?_
        · first | trivial | omega | (unfold inI64; omega) | (refine ⟨?_, ?_⟩ <;> first | trivial | rfl | omega | simp) | decide
        refine aq_load0 tOk rfl (by kernel_rfl) rfl rfl trivial ?_
        iterate 2 refine aq_pure tOk rfl rfl rfl trivial ?_
        refine aq_pure tOk rfl rfl rfl ?_ ?_
        · first | trivial | omega | (unfold inI64; omega) | (refine ⟨?_, ?_⟩ <;> first | trivial | rfl | omega | simp) | decide
        refine aq_load0 tOk rfl (by kernel_rfl) rfl rfl trivial ?_
        iterate 2 refine aq_pure tOk rfl rfl rfl trivial ?_
        refine aq_nil rfl ?_
        refine ag_seq ?_
        refine ag_draw0 (by kernel_rfl) (by kernel_rfl) ?_
        iterate 2 refine aq_pure tOk rfl rfl rfl trivial ?_
        refine aq_pure tOk rfl rfl rfl ?_ ?_
        · first | trivial | omega | (unfold inI64; omega) | (refine ⟨?_, ?_⟩ <;> first | trivial | rfl | omega | simp) | decide
        refine aq_load0 tOk rfl (by kernel_rfl) rfl rfl trivial ?_
        iterate 2 refine aq_pure tOk rfl rfl rfl trivial ?_
        refine aq_pure tOk rfl rfl rfl ?_ ?_
        · first | trivial | omega | (unfold inI64; omega) | (refine ⟨?_, ?_⟩ <;> first | trivial | rfl | omega | simp) | decide
        refine aq_load0 tOk rfl (by kernel_rfl) rfl rfl trivial ?_
        refine aq_pure tOk rfl rfl rfl trivial ?_
        refine aq_nil rfl ?_
        refine ag_if rfl ?_ ?_
        · intro h35
          refine ag_exit rfl ?_
          refine ag_ent (ent_weak (g' := (((fun (m : Bool) => ([(2, .r (.str root)), (3, .ptr 0 0), (4, .ptr 1 0), (7, .r (.bool m))], ⟨2, [(0, some (.mixed ((bidC a).map .r))), (1, some (.mixed ((bidC b).map .r)))], false⟩)) false) : Regs × Hp).1) (h' := (((fun (m : Bool) => ([(2, .r (.str root)), (3, .ptr 0 0), (4, .ptr 1 0), (7, .r (.bool m))], ⟨2, [(0, some (.mixed ((bidC a).map .r))), (1, some (.mixed ((bidC b).map .r)))], false⟩)) false) : Regs × Hp).2) [0, 1] rfl rfl rfl rfl ?_ ?_ rfl) (hjn false ?_)
          · exact ⟨⟨rfl, rfl⟩, ⟨rfl, rfl⟩, ⟨rfl, rfl⟩, ⟨rfl, by exact eqB (decide_eq_false (by omega)).symm⟩, trivial⟩
          · exact ⟨⟨rfl, rfl, rfl⟩, ⟨rfl, rfl, rfl⟩, trivial⟩
          · show false = decide (cmpL _ > 0)
            rw [cmpL_eq (by omega), cmpL_lt (by omega)]
            rfl
        · intro h35
          refine ag_skip ?_
          refine ag_inBlock ?_
          refine ag_reg ?_
          refine pA ?_
          refine ar_pure tOk rfl rfl rfl ?_ ?_
          · unfold inI64; decide
          refine pA ?_
          refine ar_nil ?_
          refine ag_again ?_
          refine ag_seq ?_
          refine zB ?_
          iterate 3 refine pA ?_
          refine ar_ent (ent_reg 12 (.r (.bool true)) (by show AVal.r (.bool _) = _; exact eqB (by decide))) ?_
          iterate 3 refine pA ?_
          refine ar_nil ?_
          refine ag_cond rfl ?_ ?_
          · intro h15
            simp at h15
            refine ag_skip ?_
            refine ag_seq ?_
            refine ag_block ?_
            refine ag_seq ?_
            refine ag_draw0 (by kernel_rfl) (by kernel_rfl) ?_
            iterate 2 refine aq_pure tOk rfl rfl rfl trivial ?_
            refine aq_pure tOk rfl rfl rfl ?_ ?_
            · first | trivial | omega | (unfold inI64; omega) | (refine ⟨?_, ?_⟩ <;> first | trivial | rfl | omega | simp) | decide
            refine aq_load0 tOk rfl (by kernel_rfl) rfl rfl trivial ?_
            iterate 2 refine aq_pure tOk rfl rfl rfl trivial ?_
            refine aq_pure tOk rfl rfl rfl ?_ ?_
            · first | trivial | omega | (unfold inI64; omega) | (refine ⟨?_, ?_⟩ <;> first | trivial | rfl | omega | simp) | decide
            refine aq_load0 tOk rfl (by kernel_rfl) rfl rfl trivial ?_
            iterate 2 refine aq_pure tOk rfl rfl rfl trivial ?_
            refine aq_nil rfl ?_
            refine ag_seq ?_
            refine ag_draw0 (by kernel_rfl) (by kernel_rfl) ?_
            iterate 2 refine aq_pure tOk rfl rfl rfl trivial ?_
            refine aq_pure tOk rfl rfl rfl ?_ ?_
            · first | trivial | omega | (unfold inI64; omega) | (refine ⟨?_, ?_⟩ <;> first | trivial | rfl | omega | simp) | decide
            refine aq_load0 tOk rfl (by kernel_rfl) rfl rfl trivial ?_
            iterate 2 refine aq_pure tOk rfl rfl rfl trivial ?_
            refine aq_pure tOk rfl rfl rfl ?_ ?_
            · first | trivial | omega | (unfold inI64; omega) | (refine ⟨?_, ?_⟩ <;> first | trivial | rfl | omega | simp) | decide
            refine aq_load0 tOk rfl (by kernel_rfl) rfl rfl trivial ?_
            refine aq_pure tOk rfl rfl rfl trivial ?_
            refine aq_nil rfl ?_
            refine ag_if rfl ?_ ?_
            · intro h35
              refine ag_exit rfl ?_
              refine ag_ent (ent_weak (g' := (((fun (m : Bool) => ([(2, .r (.str root)), (3, .ptr 0 0), (4, .ptr 1 0), (7, .r (.bool m))], ⟨2, [(0, some (.mixed ((bidC a).map .r))), (1, some (.mixed ((bidC b).map .r)))], false⟩)) false) : Regs × Hp).1) (h' := (((fun (m : Bool) => ([(2, .r (.str root)), (3, .ptr 0 0), (4, .ptr 1 0), (7, .r (.bool m))], ⟨2, [(0, some (.mixed ((bidC a).map .r))), (1, some (.mixed ((bidC b).map .r)))], false⟩)) false) : Regs × Hp).2) [0, 1] rfl rfl rfl rfl ?_ ?_ rfl) (hjn false ?_)
              · exact ⟨⟨rfl, rfl⟩, ⟨rfl, rfl⟩, ⟨rfl, rfl⟩, ⟨rfl, by exact eqB (decide_eq_false (by omega)).symm⟩, trivial⟩
              · exact ⟨⟨rfl, rfl, rfl⟩, ⟨rfl, rfl, rfl⟩, trivial⟩
              · show false = decide (cmpL _ > 0)
                rw [cmpL_eq (by omega), cmpL_eq (by omega), cmpL_lt (by omega)]
                rfl
            · intro h35
              refine ag_skip ?_
              refine ag_inBlock ?_
              refine ag_reg ?_
              refine pA ?_
              refine ar_pure tOk rfl rfl rfl ?_ ?_
              · unfold inI64; decide
              refine pA ?_
              refine ar_nil ?_
              refine ag_again ?_
              refine ag_seq ?_
              refine zB ?_
              iterate 3 refine pA ?_
              refine ar_ent (ent_reg 12 (.r (.bool true)) (by show AVal.r (.bool _) = _; exact eqB (by decide))) ?_
              iterate 3 refine pA ?_
              refine ar_nil ?_
              refine ag_cond rfl ?_ ?_
              · intro h15
                simp at h15
                refine ag_skip ?_
                refine ag_seq ?_
                refine ag_block ?_
                refine ag_seq ?_
                refine ag_draw0 (by kernel_rfl) (by kernel_rfl) ?_
                iterate 2 refine aq_pure tOk rfl rfl rfl trivial ?_
                refine aq_pure tOk rfl rfl rfl ?_ ?_
                · first | trivial | omega | (unfold inI64; omega) | (refine ⟨?_, ?_⟩ <;> first | trivial | rfl | omega | simp) | decide
                refine aq_load0 tOk rfl (by kernel_rfl) rfl rfl trivial ?_
                iterate 2 refine aq_pure tOk rfl rfl rfl trivial ?_
                refine aq_pure tOk rfl rfl rfl ?_ ?_
                · first | trivial | omega | (unfold inI64; omega) | (refine ⟨?_, ?_⟩ <;> first | trivial | rfl | omega | simp) | decide
                refine aq_load0 tOk rfl (by kernel_rfl) rfl rfl trivial ?_
                iterate 2 refine aq_pure tOk rfl rfl rfl trivial ?_
                refine aq_nil rfl ?_
                refine ag_seq ?_
                refine ag_draw0 (by kernel_rfl) (by kernel_rfl) ?_
                iterate 2 refine aq_pure tOk rfl rfl rfl trivial ?_
                refine aq_pure tOk rfl rfl rfl ?_ ?_
                · first | trivial | omega | (unfold inI64; omega) | (refine ⟨?_, ?_⟩ <;> first | trivial | rfl | omega | simp) | decide
                refine aq_load0 tOk rfl (by kernel_rfl) rfl rfl trivial ?_
                iterate 2 refine aq_pure tOk rfl rfl rfl trivial ?_
                refine aq_pure tOk rfl rfl rfl ?_ ?_
                · first | trivial | omega | (unfold inI64; omega) | (refine ⟨?_, ?_⟩ <;> first | trivial | rfl | omega | simp) | decide
                refine aq_load0 tOk rfl (by kernel_rfl) rfl rfl trivial ?_
                refine aq_pure tOk rfl rfl rfl trivial ?_
                refine aq_nil rfl ?_
                refine ag_if rfl ?_ ?_
                · intro h35
                  refine ag_exit rfl ?_
                  refine ag_ent (ent_weak (g' := (((fun (m : Bool) => ([(2, .r (.str root)), (3, .ptr 0 0), (4, .ptr 1 0), (7, .r (.bool m))], ⟨2, [(0, some (.mixed ((bidC a).map .r))), (1, some (.mixed ((bidC b).map .r)))], false⟩)) false) : Regs × Hp).1) (h' := (((fun (m : Bool) => ([(2, .r (.str root)), (3, .ptr 0 0), (4, .ptr 1 0), (7, .r (.bool m))], ⟨2, [(0, some (.mixed ((bidC a).map .r))), (1, some (.mixed ((bidC b).map .r)))], false⟩)) false) : Regs × Hp).2) [0, 1] rfl rfl rfl rfl ?_ ?_ rfl) (hjn false ?_)
                  · exact ⟨⟨rfl, rfl⟩, ⟨rfl, rfl⟩, ⟨rfl, rfl⟩, ⟨rfl, by exact eqB (decide_eq_false (by omega)).symm⟩, trivial⟩
                  · exact ⟨⟨rfl, rfl, rfl⟩, ⟨rfl, rfl, rfl⟩, trivial⟩
                  · show false = decide (cmpL _ > 0)
                    rw [cmpL_eq (by omega), cmpL_eq (by omega), cmpL_eq (by omega), cmpL_lt (by omega)]
                    rfl
                · intro h35
                  refine ag_skip ?_
                  refine ag_inBlock ?_
                  refine ag_reg ?_
                  refine pA ?_
                  refine ar_pure tOk rfl rfl rfl ?_ ?_
                  · unfold inI64; decide
                  refine pA ?_
                  refine ar_nil ?_
                  refine ag_again ?_
                  refine ag_seq ?_
                  refine zB ?_
                  iterate 3 refine pA ?_
                  refine ar_ent (ent_reg 12 (.r (.bool false)) (by show AVal.r (.bool _) = _; exact eqB (by decide))) ?_
                  iterate 2 refine ar_skip rfl rfl rfl ?_
                  refine pA ?_
                  refine ar_nil ?_
                  refine ag_false rfl (by decide) ?_
                  refine ag_exit rfl ?_
                  refine ag_ent (ent_weak (g' := (((fun (m : Bool) => ([(2, .r (.str root)), (3, .ptr 0 0), (4, .ptr 1 0), (7, .r (.bool m))], ⟨2, [(0, some (.mixed ((bidC a).map .r))), (1, some (.mixed ((bidC b).map .r)))], false⟩)) (decide (a.x0 > b.x0))) : Regs × Hp).1) (h' := (((fun (m : Bool) => ([(2, .r (.str root)), (3, .ptr 0 0), (4, .ptr 1 0), (7, .r (.bool m))], ⟨2, [(0, some (.mixed ((bidC a).map .r))), (1, some (.mixed ((bidC b).map .r)))], false⟩)) (decide (a.x0 > b.x0))) : Regs × Hp).2) [0, 1] rfl rfl rfl rfl ?_ ?_ rfl) (hjn (decide (a.x0 > b.x0)) ?_)
                  · exact ⟨⟨rfl, rfl⟩, ⟨rfl, rfl⟩, ⟨rfl, rfl⟩, ⟨rfl, rfl⟩, trivial⟩
                  · exact ⟨⟨rfl, rfl, rfl⟩, ⟨rfl, rfl, rfl⟩, trivial⟩
                  · by_cases q : a.x0 > b.x0
                    · rw [decide_eq_true q]; show true = decide (cmpL _ > 0)
                      rw [cmpL_eq (by omega), cmpL_eq (by omega), cmpL_eq (by omega), cmpL_gt q]
                      rfl
                    · rw [decide_eq_false q]; show false = decide (cmpL _ > 0)
                      rw [cmpL_eq (by omega), cmpL_eq (by omega), cmpL_eq (by omega), cmpL_eq (by omega)]
                      rfl
              · intro h15
                simp at h15
                refine ag_exit rfl ?_
                refine ag_ent (ent_weak (g' := (((fun (m : Bool) => ([(2, .r (.str root)), (3, .ptr 0 0), (4, .ptr 1 0), (7, .r (.bool m))], ⟨2, [(0, some (.mixed ((bidC a).map .r))), (1, some (.mixed ((bidC b).map .r)))], false⟩)) true) : Regs × Hp).1) (h' := (((fun (m : Bool) => ([(2, .r (.str root)), (3, .ptr 0 0), (4, .ptr 1 0), (7, .r (.bool m))], ⟨2, [(0, some (.mixed ((bidC a).map .r))), (1, some (.mixed ((bidC b).map .r)))], false⟩)) true) : Regs × Hp).2) [0, 1] rfl rfl rfl rfl ?_ ?_ rfl) (hjn true ?_)
                · exact ⟨⟨rfl, rfl⟩, ⟨rfl, rfl⟩, ⟨rfl, rfl⟩, ⟨rfl, by exact eqB (decide_eq_true (by omega)).symm⟩, trivial⟩
                · exact ⟨⟨rfl, rfl, rfl⟩, ⟨rfl, rfl, rfl⟩, trivial⟩
                · show true = decide (cmpL _ > 0)
                  rw [cmpL_eq (by omega), cmpL_eq (by omega), cmpL_gt (by omega)]
                  rfl
          · intro h15
            simp at h15
            refine ag_exit rfl ?_
            refine ag_ent (ent_weak (g' := (((fun (m : Bool) => ([(2, .r (.str root)), (3, .ptr 0 0), (4, .ptr 1 0), (7, .r (.bool m))], ⟨2, [(0, some (.mixed ((bidC a).map .r))), (1, some (.mixed ((bidC b).map .r)))], false⟩)) true) : Regs × Hp).1) (h' := (((fun (m : Bool) => ([(2, .r (.str root)), (3, .ptr 0 0), (4, .ptr 1 0), (7, .r (.bool m))], ⟨2, [(0, some (.mixed ((bidC a).map .r))), (1, some (.mixed ((bidC b).map .r)))], false⟩)) true) : Regs × Hp).2) [0, 1] rfl rfl rfl rfl ?_ ?_ rfl) (hjn true ?_)
            · exact ⟨⟨rfl, rfl⟩, ⟨rfl, rfl⟩, ⟨rfl, rfl⟩, ⟨rfl, by exact eqB (decide_eq_true (by omega)).symm⟩, trivial⟩
            · exact ⟨⟨rfl, rfl, rfl⟩, ⟨rfl, rfl, rfl⟩, trivial⟩
            · show true = decide (cmpL _ > 0)
              rw [cmpL_eq (by omega), cmpL_gt (by omega)]
              rfl
      · intro h15
        simp at h15
        refine ag_exit rfl ?_
        refine ag_ent (ent_weak (g' := (((fun (m : Bool) => ([(2, .r (.str root)), (3, .ptr 0 0), (4, .ptr 1 0), (7, .r (.bool m))], ⟨2, [(0, some (.mixed ((bidC a).map .r))), (1, some (.mixed ((bidC b).map .r)))], false⟩)) true) : Regs × Hp).1) (h' := (((fun (m : Bool) => ([(2, .r (.str root)), (3, .ptr 0 0), (4, .ptr 1 0), (7, .r (.bool m))], ⟨2, [(0, some (.mixed ((bidC a).map .r))), (1, some (.mixed ((bidC b).map .r)))], false⟩)) true) : Regs × Hp).2) [0, 1] rfl rfl rfl rfl ?_ ?_ rfl) (hjn true ?_)
        · exact ⟨⟨rfl, rfl⟩, ⟨rfl, rfl⟩, ⟨rfl, rfl⟩, ⟨rfl, by exact eqB (decide_eq_true (by omega)).symm⟩, trivial⟩
        · exact ⟨⟨rfl, rfl, rfl⟩, ⟨rfl, rfl, rfl⟩, trivial⟩
        · show true = decide (cmpL _ > 0)
          rw [cmpL_gt (by omega)]
          rfl
  · rintro m hjp
    refine zB ?_
    iterate 2 refine pA ?_
    refine ar_guard (t := m) (fun ht => ?_) (fun ht => ?_)
    · refine ar_ent (ent_reg 37 (.r (.bool true)) (by show AVal.r (.bool _) = _; exact eqB ht)) ?_
      have hm := ht
      repeat (first | refine ar_skip rfl rfl rfl ?_ | refine ar_pure tOk rfl rfl rfl trivial ?_)
      refine zA ?_
      have hbe : betV a b = true := by
        unfold betV; exact decide_eq_true (.inl (of_decide_eq_true (hjp.symm.trans hm)))
      refine ag_draw0 (by kernel_rfl) (by kernel_rfl) ?_
      refine aq_pure tOk rfl rfl rfl trivial ?_
      refine aq_load0 tOk rfl (by kernel_rfl) rfl rfl trivial ?_
      refine aq_pur (w_bAsk a.a) rfl rfl rfl rfl rfl rfl rfl ?_
      refine aq_pur (w_num08 _) rfl rfl rfl rfl rfl rfl rfl ?_
      refine aq_pure tOk rfl rfl rfl trivial ?_
      refine aq_load0 tOk rfl (by kernel_rfl) rfl rfl trivial ?_
      refine aq_pur (w_rAsk a.a) rfl rfl rfl rfl rfl rfl rfl ?_
      refine aq_pureE tOk (.r (.bool true)) rfl (by show AVal.r (.bool _) = _; exact eqB (by simp)) rfl (by rfl) trivial ?_
      refine aq_pure tOk rfl rfl rfl trivial ?_
      refine aq_load0 tOk rfl (by kernel_rfl) rfl rfl trivial ?_
      refine aq_pur (w_bCheck a) rfl rfl rfl rfl rfl rfl rfl ?_
      refine aq_pur (w_num08 _) rfl rfl rfl rfl rfl rfl rfl ?_
      refine aq_load0 tOk rfl (by kernel_rfl) rfl rfl trivial ?_
      refine aq_pur (w_rBid a ha) rfl rfl rfl rfl rfl rfl rfl ?_
      refine aq_pureE tOk (.r (.bool true)) rfl (by show AVal.r (.bool _) = _; exact eqB (by simp)) rfl (by rfl) trivial ?_
      iterate 2 refine aq_pure tOk rfl rfl rfl trivial ?_
      refine aq_load0 tOk rfl (by kernel_rfl) rfl rfl trivial ?_
      refine aq_pur (w_bText a ha) rfl rfl rfl rfl rfl rfl rfl ?_
      refine aq_pure tOk rfl rfl rfl trivial ?_
      refine aq_load0 tOk rfl (by kernel_rfl) rfl rfl trivial ?_
      refine aq_pur (w_rBidText a ha) rfl rfl rfl rfl rfl rfl rfl ?_
      refine aq_pure tOk rfl rfl rfl trivial ?_
      refine aq_pureE tOk (.r (.bool true)) rfl (by show AVal.r (.bool _) = _; exact eqB (by simp)) rfl (by rfl) trivial ?_
      iterate 2 refine aq_pure tOk rfl rfl rfl trivial ?_
      refine aq_load0 tOk rfl (by kernel_rfl) rfl rfl trivial ?_
      refine aq_pure tOk rfl rfl rfl trivial ?_
      refine aq_pur (w_bValid a ha root) rfl rfl rfl rfl rfl rfl rfl ?_
      refine aq_load0 tOk rfl (by kernel_rfl) rfl rfl trivial ?_
      refine aq_pure tOk rfl rfl rfl trivial ?_
      refine aq_pur (w_rValid a ha root) rfl rfl rfl rfl rfl rfl rfl ?_
      refine aq_pureE tOk (.r (.bool true)) rfl (by show AVal.r (.bool _) = _; exact eqB (by simp)) rfl (by rfl) trivial ?_
      iterate 2 refine aq_pure tOk rfl rfl rfl trivial ?_
      iterate 2 refine aq_load0 tOk rfl (by kernel_rfl) rfl rfl trivial ?_
      refine aq_pur (w_bBetter a b) rfl rfl rfl rfl rfl rfl rfl ?_
      refine aq_pure tOk rfl rfl rfl trivial ?_
      refine aq_pureE tOk (.r (.bool true)) rfl (by show AVal.r (.bool _) = _; exact eqB (by simp [hbe])) rfl (by rfl) trivial ?_
      iterate 2 refine aq_pure tOk rfl rfl rfl trivial ?_
      refine aq_pur (w_alive08) rfl rfl rfl rfl rfl rfl rfl ?_
      iterate 2 refine aq_pure tOk rfl rfl rfl trivial ?_
      refine aq_nil rfl ?_
      refine ag_ret tOk Try.func4 rfl rfl (by simp) ?_
      rfl
    · refine ar_ent (ent_reg 37 (.r (.bool false)) (by show AVal.r (.bool _) = _; exact eqB ht)) ?_
      have hm := ht
      refine pA ?_
      refine pB ?_
      refine pA ?_
      refine pB ?_
      iterate 2 refine pA ?_
      refine ar_guard (t := decide (a.x0 = b.x0) && (decide (a.x1 = b.x1) && (decide (a.x2 = b.x2) && decide (a.x3 = b.x3)))) (fun ht => ?_) (fun ht => ?_)
      · refine ar_ent (ent_reg 43 (.r (.bool true)) (by show AVal.r (.bool _) = _; exact eqB ht)) ?_
        have hq := ht
        refine pA ?_
        refine pB ?_
        refine pA ?_
        refine pB ?_
        iterate 4 refine pA ?_
        refine zA ?_
        have hc0 : ¬ cAB a b > 0 := of_decide_eq_false (hjp.symm.trans hm)
        have hc1 : cAB a b = 0 := cmp_0.2 (by simpa using hq)
        have hbe : betV a b = decide (a.r < b.r) := by
          unfold betV; simp [hc1]
        refine ag_draw0 (by kernel_rfl) (by kernel_rfl) ?_
        refine aq_pure tOk rfl rfl rfl trivial ?_
        refine aq_load0 tOk rfl (by kernel_rfl) rfl rfl trivial ?_
        refine aq_pur (w_bAsk a.a) rfl rfl rfl rfl rfl rfl rfl ?_
        refine aq_pur (w_num08 _) rfl rfl rfl rfl rfl rfl rfl ?_
        refine aq_pure tOk rfl rfl rfl trivial ?_
        refine aq_load0 tOk rfl (by kernel_rfl) rfl rfl trivial ?_
        refine aq_pur (w_rAsk a.a) rfl rfl rfl rfl rfl rfl rfl ?_
        refine aq_pureE tOk (.r (.bool true)) rfl (by show AVal.r (.bool _) = _; exact eqB (by simp)) rfl (by rfl) trivial ?_
        refine aq_pure tOk rfl rfl rfl trivial ?_
        refine aq_load0 tOk rfl (by kernel_rfl) rfl rfl trivial ?_
        refine aq_pur (w_bCheck a) rfl rfl rfl rfl rfl rfl rfl ?_
        refine aq_pur (w_num08 _) rfl rfl rfl rfl rfl rfl rfl ?_
        refine aq_load0 tOk rfl (by kernel_rfl) rfl rfl trivial ?_
        refine aq_pur (w_rBid a ha) rfl rfl rfl rfl rfl rfl rfl ?_
        refine aq_pureE tOk (.r (.bool true)) rfl (by show AVal.r (.bool _) = _; exact eqB (by simp)) rfl (by rfl) trivial ?_
        iterate 2 refine aq_pure tOk rfl rfl rfl trivial ?_
        refine aq_load0 tOk rfl (by kernel_rfl) rfl rfl trivial ?_
        refine aq_pur (w_bText a ha) rfl rfl rfl rfl rfl rfl rfl ?_
        refine aq_pure tOk rfl rfl rfl trivial ?_
        refine aq_load0 tOk rfl (by kernel_rfl) rfl rfl trivial ?_
        refine aq_pur (w_rBidText a ha) rfl rfl rfl rfl rfl rfl rfl ?_
        refine aq_pure tOk rfl rfl rfl trivial ?_
        refine aq_pureE tOk (.r (.bool true)) rfl (by show AVal.r (.bool _) = _; exact eqB (by simp)) rfl (by rfl) trivial ?_
        iterate 2 refine aq_pure tOk rfl rfl rfl trivial ?_
        refine aq_load0 tOk rfl (by kernel_rfl) rfl rfl trivial ?_
        refine aq_pure tOk rfl rfl rfl trivial ?_
        refine aq_pur (w_bValid a ha root) rfl rfl rfl rfl rfl rfl rfl ?_
        refine aq_load0 tOk rfl (by kernel_rfl) rfl rfl trivial ?_
        refine aq_pure tOk rfl rfl rfl trivial ?_
        refine aq_pur (w_rValid a ha root) rfl rfl rfl rfl rfl rfl rfl ?_
        refine aq_pureE tOk (.r (.bool true)) rfl (by show AVal.r (.bool _) = _; exact eqB (by simp)) rfl (by rfl) trivial ?_
        iterate 2 refine aq_pure tOk rfl rfl rfl trivial ?_
        iterate 2 refine aq_load0 tOk rfl (by kernel_rfl) rfl rfl trivial ?_
        refine aq_pur (w_bBetter a b) rfl rfl rfl rfl rfl rfl rfl ?_
        refine aq_pure tOk rfl rfl rfl trivial ?_
        refine aq_pureE tOk (.r (.bool true)) rfl (by show AVal.r (.bool _) = _; exact eqB (by simp [hbe])) rfl (by rfl) trivial ?_
        iterate 2 refine aq_pure tOk rfl rfl rfl trivial ?_
        refine aq_pur (w_alive08) rfl rfl rfl rfl rfl rfl rfl ?_
        iterate 2 refine aq_pure tOk rfl rfl rfl trivial ?_
        refine aq_nil rfl ?_
        refine ag_ret tOk Try.func4 rfl rfl (by simp) ?_
        rfl
      · refine ar_ent (ent_reg 43 (.r (.bool false)) (by show AVal.r (.bool _) = _; exact eqB ht)) ?_
        have hq := ht
        repeat (first | refine ar_skip rfl rfl rfl ?_ | refine ar_pure tOk rfl rfl rfl trivial ?_)
        refine zA ?_
        have hc0 : ¬ cAB a b > 0 := of_decide_eq_false (hjp.symm.trans hm)
        have hc1 : ¬ cAB a b = 0 := by
          intro q; have := cmp_0.1 q; simp [this] at hq
        have hbe : betV a b = false := by
          unfold betV; exact decide_eq_false (fun q => q.elim hc0 (fun r => hc1 r.1))
        refine ag_draw0 (by kernel_rfl) (by kernel_rfl) ?_
        refine aq_pure tOk rfl rfl rfl trivial ?_
        refine aq_load0 tOk rfl (by kernel_rfl) rfl rfl trivial ?_
        refine aq_pur (w_bAsk a.a) rfl rfl rfl rfl rfl rfl rfl ?_
        refine aq_pur (w_num08 _) rfl rfl rfl rfl rfl rfl rfl ?_
        refine aq_pure tOk rfl rfl rfl trivial ?_
        refine aq_load0 tOk rfl (by kernel_rfl) rfl rfl trivial ?_
        refine aq_pur (w_rAsk a.a) rfl rfl rfl rfl rfl rfl rfl ?_
        refine aq_pureE tOk (.r (.bool true)) rfl (by show AVal.r (.bool _) = _; exact eqB (by simp)) rfl (by rfl) trivial ?_
        refine aq_pure tOk rfl rfl rfl trivial ?_
        refine aq_load0 tOk rfl (by kernel_rfl) rfl rfl trivial ?_
        refine aq_pur (w_bCheck a) rfl rfl rfl rfl rfl rfl rfl ?_
        refine aq_pur (w_num08 _) rfl rfl rfl rfl rfl rfl rfl ?_
        refine aq_load0 tOk rfl (by kernel_rfl) rfl rfl trivial ?_
        refine aq_pur (w_rBid a ha) rfl rfl rfl rfl rfl rfl rfl ?_
        refine aq_pureE tOk (.r (.bool true)) rfl (by show AVal.r (.bool _) = _; exact eqB (by simp)) rfl (by rfl) trivial ?_
        iterate 2 refine aq_pure tOk rfl rfl rfl trivial ?_
        refine aq_load0 tOk rfl (by kernel_rfl) rfl rfl trivial ?_
        refine aq_pur (w_bText a ha) rfl rfl rfl rfl rfl rfl rfl ?_
        refine aq_pure tOk rfl rfl rfl trivial ?_
        refine aq_load0 tOk rfl (by kernel_rfl) rfl rfl trivial ?_
        refine aq_pur (w_rBidText a ha) rfl rfl rfl rfl rfl rfl rfl ?_
        refine aq_pure tOk rfl rfl rfl trivial ?_
        refine aq_pureE tOk (.r (.bool true)) rfl (by show AVal.r (.bool _) = _; exact eqB (by simp)) rfl (by rfl) trivial ?_
        iterate 2 refine aq_pure tOk rfl rfl rfl trivial ?_
        refine aq_load0 tOk rfl (by kernel_rfl) rfl rfl trivial ?_
        refine aq_pure tOk rfl rfl rfl trivial ?_
        refine aq_pur (w_bValid a ha root) rfl rfl rfl rfl rfl rfl rfl ?_
        refine aq_load0 tOk rfl (by kernel_rfl) rfl rfl trivial ?_
        refine aq_pure tOk rfl rfl rfl trivial ?_
        refine aq_pur (w_rValid a ha root) rfl rfl rfl rfl rfl rfl rfl ?_
        refine aq_pureE tOk (.r (.bool true)) rfl (by show AVal.r (.bool _) = _; exact eqB (by simp)) rfl (by rfl) trivial ?_
        iterate 2 refine aq_pure tOk rfl rfl rfl trivial ?_
        iterate 2 refine aq_load0 tOk rfl (by kernel_rfl) rfl rfl trivial ?_
        refine aq_pur (w_bBetter a b) rfl rfl rfl rfl rfl rfl rfl ?_
        refine aq_pure tOk rfl rfl rfl trivial ?_
        refine aq_pureE tOk (.r (.bool true)) rfl (by show AVal.r (.bool _) = _; exact eqB (by simp [hbe])) rfl (by rfl) trivial ?_
        iterate 2 refine aq_pure tOk rfl rfl rfl trivial ?_
        refine aq_pur (w_alive08) rfl rfl rfl rfl rfl rfl rfl ?_
        iterate 2 refine aq_pure tOk rfl rfl rfl trivial ?_
        refine aq_nil rfl ?_
        refine ag_ret tOk Try.func4 rfl rfl (by simp) ?_
        rfl
end Go.Proofs.Ytnodpljgcdkbkaa


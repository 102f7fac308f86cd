/-
  WALKS: the laws over disk. (Printed by gen.py out of w_ldisk.py.)
-/
import Derived.Test.YtkcfmefleghnnaaDisk
namespace Go.Proofs.Ytkcfmefleghnnaa
open Go
set_option maxRecDepth 20000
set_option linter.unusedVariables false
set_option linter.unusedSimpArgs false

theorem eqBd {a b : Bool} (h : a = b) : AVal.r (.bool a) = AVal.r (.bool b) := by rw [h]

theorem w_alive15  : Pur Try.prog 28 [] (.r (.bool true)) := by
  refine spec_of_go (N := 29) Try.func28 rfl (by decide) rfl rfl ?_
  refine ag_seq ?_
  refine ag_reg ?_
  refine ar_pure tOk rfl rfl rfl trivial ?_
  refine ar_nil ?_
  refine ag_seq ?_
  refine ag_reg ?_
  refine ar_obj [] (w_New 9) rfl rfl (handed_of rfl rfl (by decide) trivial) rfl rfl rfl rfl ?_
  rintro _ _ ⟨rfl, rfl⟩
  refine ⟨_, _, rfl, ?_⟩
  refine ar_pure tOk rfl rfl rfl trivial ?_
  refine ar_nil ?_
  refine ag_ent (ent_weak (g' := [(1, .ptr 0 0)]) (h' := dN 0 9 true) [0] rfl rfl rfl rfl ?_ ?_ rfl) ?_
  · exact ⟨⟨rfl, rfl⟩, trivial⟩
  · exact ⟨⟨rfl, rfl, eqMxN rfl (by decide)⟩, trivial⟩
  refine ag_seq ?_
  refine ag_reg ?_
  refine ar_pure tOk rfl rfl rfl trivial ?_
  refine ar_new tOk rfl rfl rfl ?_ ?_
  · simp
  refine ar_ent (ent_body 1 (.mixed [.r (.int .u8 97), .r (.int .u8 98)]) (.bytes [97, 98]) rfl rfl) ?_
  refine ar_qd rfl (qop_convSl tOk rfl) rfl rfl rfl rfl ?_
  refine ar_ent (ent_freeze 7 rfl rfl rfl ⟨by decide, rfl⟩) ?_
  refine ar_ent (ent_reg 7 (.r (.bs [97, 98])) rfl) ?_
  refine ar_obj [0] (w_WriteN [97, 98] 9 (by decide) (by decide) (by simp) (by decide)) rfl rfl (handed_of rfl rfl (by decide) ⟨rfl, rfl, rfl, trivial⟩) rfl rfl rfl rfl ?_
  rintro _ _ ⟨rfl, rfl⟩
  refine ⟨_, _, rfl, ?_⟩
  refine ar_pure tOk rfl rfl rfl trivial ?_
  refine ar_nil ?_
  refine ag_ent (ent_weak (g' := [(1, .ptr 0 0), (2, .r (.int .i64 0))]) (h' := dB 2 [97, 98] 0 9 true) [0, 2] rfl rfl rfl rfl ?_ ?_ rfl) ?_
  · exact ⟨⟨rfl, rfl⟩, ⟨rfl, rfl⟩, trivial⟩
  · exact ⟨⟨rfl, rfl, rfl⟩, ⟨rfl, rfl, rfl⟩, trivial⟩
  refine ag_seq ?_
  refine ag_reg ?_
  refine ar_pure tOk rfl rfl rfl trivial ?_
  refine ar_obj [0, 1] (w_SyncB 2 [97, 98] 0 9 (by decide) (by decide) (by decide)) rfl rfl (handed_of rfl rfl (by decide) ⟨rfl, rfl, rfl, rfl, rfl, rfl, trivial⟩) rfl rfl rfl rfl ?_
  rintro _ _ ⟨rfl, rfl⟩
  refine ⟨_, _, rfl, ?_⟩
  refine ar_nil ?_
  refine ag_ent (ent_weak (g' := [(1, .ptr 0 0), (2, .r (.int .i64 0))]) (h' := dB 2 [97, 98] 2 9 true) [0, 1] rfl rfl rfl rfl ?_ ?_ rfl) ?_
  · exact ⟨⟨rfl, rfl⟩, ⟨rfl, rfl⟩, trivial⟩
  · exact ⟨⟨rfl, rfl, rfl⟩, ⟨rfl, rfl, rfl⟩, trivial⟩
  refine ag_seq ?_
  refine ag_reg ?_
  refine ar_pure tOk rfl rfl rfl trivial ?_
  refine ar_new tOk rfl rfl rfl ?_ ?_
  · simp
  refine ar_ent (ent_body 2 (.mixed [.r (.int .u8 99), .r (.int .u8 100)]) (.bytes [99, 100]) rfl rfl) ?_
  refine ar_qd rfl (qop_convSl tOk rfl) rfl rfl rfl rfl ?_
  refine ar_ent (ent_freeze 13 rfl rfl rfl ⟨by decide, rfl⟩) ?_
  refine ar_ent (ent_reg 13 (.r (.bs [99, 100])) rfl) ?_
  refine ar_obj [0, 1] (w_WriteB [99, 100] 2 [97, 98] 2 9 (by decide) (by decide) (by decide) (by decide) (by decide)) rfl rfl (handed_of rfl rfl (by decide) ⟨rfl, rfl, rfl, rfl, rfl, rfl, trivial⟩) rfl rfl rfl rfl ?_
  rintro _ _ ⟨rfl, rfl⟩
  refine ⟨_, _, rfl, ?_⟩
  refine ar_pure tOk rfl rfl rfl trivial ?_
  refine ar_nil ?_
  refine ag_ent (ent_weak (g' := [(1, .ptr 0 0), (2, .r (.int .i64 0)), (3, .r (.int .i64 0))]) (h' := dB 4 [97, 98, 99, 100] 2 9 true) [0, 3] rfl rfl rfl rfl ?_ ?_ rfl) ?_
  · exact ⟨⟨rfl, rfl⟩, ⟨rfl, rfl⟩, ⟨rfl, rfl⟩, trivial⟩
  · exact ⟨⟨rfl, rfl, rfl⟩, ⟨rfl, rfl, rfl⟩, trivial⟩
  refine ag_seq ?_
  refine ag_reg ?_
  refine ar_pure tOk rfl rfl rfl trivial ?_
  refine ar_obj [0, 1] (w_FallB 1 4 [97, 98, 99, 100] 2 9 3 (by decide) (by decide) (by decide) (by decide)) rfl rfl (handed_of rfl rfl (by decide) ⟨rfl, rfl, rfl, rfl, rfl, rfl, trivial⟩) rfl rfl rfl rfl ?_
  rintro _ _ ⟨rfl, rfl⟩
  refine ⟨_, _, rfl, ?_⟩
  refine ar_nil ?_
  refine ag_ent (ent_weak (g' := [(1, .ptr 0 0), (2, .r (.int .i64 0)), (3, .r (.int .i64 0))]) (h' := dB 3 [97, 98, 99, 100] 3 9 true) [0, 1] rfl rfl rfl rfl ?_ ?_ rfl) ?_
  · exact ⟨⟨rfl, rfl⟩, ⟨rfl, rfl⟩, ⟨rfl, rfl⟩, trivial⟩
  · exact ⟨⟨rfl, rfl, rfl⟩, ⟨rfl, rfl, rfl⟩, trivial⟩
  refine ag_seq ?_
  refine ag_reg ?_
  refine ar_pure tOk rfl rfl rfl trivial ?_
  refine ar_pure tOk rfl rfl rfl trivial ?_
  refine ar_pure tOk rfl rfl rfl trivial ?_
  refine ar_pure tOk rfl rfl (by decide) trivial ?_
  refine ar_pure tOk rfl rfl (by decide) trivial ?_
  refine ar_pure tOk rfl rfl rfl trivial ?_
  refine ar_pure tOk rfl rfl rfl trivial ?_
  refine ar_pure tOk rfl rfl (by decide) trivial ?_
  refine ar_qd rfl (qop_objR [0, 1] (w_OctetsB 3 [97, 98, 99, 100] 3 9 (by decide) (by decide)) (by rintro _ _ ⟨rfl, rfl⟩; exact ⟨rfl, rfl⟩) rfl rfl (handed_of rfl rfl (by decide) ⟨rfl, rfl, rfl, rfl, rfl, rfl, trivial⟩) rfl rfl) rfl (by decide) rfl rfl ?_
  refine ar_pure tOk rfl rfl (by decide) trivial ?_
  refine ar_pure tOk rfl rfl (by decide) trivial ?_
  refine ar_pure tOk rfl rfl rfl trivial ?_
  refine ar_pure tOk rfl rfl rfl trivial ?_
  refine ar_nil ?_
  refine ag_ret tOk Try.func28 rfl rfl (by simp) ?_
  exact eqBd (by decide)

theorem w_DiskNobody (b : List UInt8) (n : Int) : Pur Try.prog 10 [.r (.bs b), .r (.int .i64 n)] (.r (.bool true)) := by
  refine spec_of_go (N := 64) Try.func10 rfl (by decide) rfl rfl ?_
  refine ag_seq ?_
  refine ag_reg ?_
  refine ar_pure tOk rfl rfl rfl trivial ?_
  refine ar_nil ?_
  refine ag_seq ?_
  refine ag_reg ?_
  refine ar_pure tOk rfl rfl rfl trivial ?_
  refine ar_nil ?_
  refine ag_seq ?_
  refine ag_reg ?_
  refine ar_pure tOk rfl rfl rfl trivial ?_
  refine ar_pure tOk rfl rfl rfl ?_ ?_
  · simp
  refine ar_new tOk rfl rfl rfl trivial ?_
  refine ar_new tOk rfl rfl rfl ?_ ?_
  · simp
  refine ar_pure tOk rfl rfl rfl trivial ?_
  refine ar_nil ?_
  refine ag_seq ?_
  refine ag_seq ?_
  refine ag_reg ?_
  refine ar_pure tOk rfl rfl rfl trivial ?_
  refine ar_nil ?_
  refine ag_block ?_
  refine ag_unroll ?_
  refine ag_seq ?_
  refine ag_seq ?_
  refine ag_reg ?_
  refine ar_pure tOk rfl rfl rfl trivial ?_
  refine ar_pure tOk rfl rfl rfl trivial ?_
  refine ar_pure tOk rfl rfl rfl trivial ?_
  refine ar_pure tOk rfl rfl rfl trivial ?_
  refine ar_nil ?_
  refine ag_true rfl (by decide) ?_
  refine ag_skip ?_
  refine ag_seq ?_
  refine ag_block ?_
  refine ag_seq ?_
  refine ag_reg ?_
  refine ar_pure tOk rfl rfl rfl trivial ?_
  refine ar_pure tOk rfl rfl rfl trivial ?_
  refine ar_pure tOk rfl rfl rfl ?_ ?_
  · first | trivial | omega | (unfold inI64; omega) | (refine ⟨?_, ?_⟩ <;> first | trivial | rfl | omega | simp) | decide
  refine ar_load tOk rfl rfl rfl trivial ?_
  refine ar_pure tOk rfl rfl rfl trivial ?_
  refine ar_pur (w_Fall0 n) rfl rfl rfl rfl rfl rfl rfl ?_
  refine ar_nil ?_
  refine ag_seq ?_
  refine ag_draw0 (by kernel_rfl) (by kernel_rfl) ?_
  refine aq_pure tOk rfl rfl rfl trivial ?_
  refine aq_pure tOk rfl rfl rfl trivial ?_
  refine aq_pure tOk rfl rfl rfl ?_ ?_
  · first | trivial | omega | (unfold inI64; omega) | (refine ⟨?_, ?_⟩ <;> first | trivial | rfl | omega | simp) | decide
  refine aq_load0 tOk rfl (by kernel_rfl) rfl rfl trivial ?_
  refine aq_pure tOk rfl rfl rfl trivial ?_
  refine aq_pur (w_Write0 b) rfl rfl rfl rfl rfl rfl rfl ?_
  refine aq_pure tOk rfl rfl rfl trivial ?_
  refine aq_pure tOk rfl rfl rfl trivial ?_
  refine aq_pure tOk rfl rfl (by decide) trivial ?_
  refine aq_pure tOk rfl rfl (by decide) trivial ?_
  refine aq_pure tOk rfl rfl (by decide) ?_ ?_
  · first | trivial | omega | (unfold inI64; omega) | (refine ⟨?_, ?_⟩ <;> first | trivial | rfl | omega | simp) | decide
  refine aq_load0 tOk rfl (by kernel_rfl) rfl (by decide) trivial ?_
  refine aq_pur (w_Sync0 ) rfl rfl rfl rfl rfl rfl (by decide) ?_
  refine aq_pure tOk rfl rfl (by decide) trivial ?_
  refine aq_pure tOk rfl rfl (by decide) trivial ?_
  refine aq_pure tOk rfl rfl (by decide) ?_ ?_
  · first | trivial | omega | (unfold inI64; omega) | (refine ⟨?_, ?_⟩ <;> first | trivial | rfl | omega | simp) | decide
  refine aq_load0 tOk rfl (by kernel_rfl) rfl (by decide) trivial ?_
  refine aq_pur (w_Fresh0 ) rfl rfl rfl rfl rfl rfl (by decide) ?_
  refine aq_pure tOk rfl rfl (by decide) ?_ ?_
  · first | trivial | omega | (unfold inI64; omega) | (refine ⟨?_, ?_⟩ <;> first | trivial | rfl | omega | simp) | decide
  refine aq_pure tOk rfl rfl (by decide) trivial ?_
  refine aq_pure tOk rfl rfl rfl trivial ?_
  refine aq_pure tOk rfl rfl rfl trivial ?_
  refine aq_pure tOk rfl rfl (by decide) trivial ?_
  refine aq_pure tOk rfl rfl (by decide) trivial ?_
  refine aq_pure tOk rfl rfl (by decide) ?_ ?_
  · first | trivial | omega | (unfold inI64; omega) | (refine ⟨?_, ?_⟩ <;> first | trivial | rfl | omega | simp) | decide
  refine aq_load0 tOk rfl (by kernel_rfl) rfl (by decide) trivial ?_
  refine aq_pur (w_Octets0 ) rfl rfl rfl rfl rfl rfl (by decide) ?_
  refine aq_pure tOk rfl rfl (by decide) trivial ?_
  refine aq_pure tOk rfl rfl (by decide) trivial ?_
  refine aq_pure tOk rfl rfl rfl trivial ?_
  refine aq_pure tOk rfl rfl rfl trivial ?_
  refine aq_pure tOk rfl rfl (by decide) trivial ?_
  refine aq_pure tOk rfl rfl (by decide) trivial ?_
  refine aq_pure tOk rfl rfl (by decide) ?_ ?_
  · first | trivial | omega | (unfold inI64; omega) | (refine ⟨?_, ?_⟩ <;> first | trivial | rfl | omega | simp) | decide
  refine aq_load0 tOk rfl (by kernel_rfl) rfl (by decide) trivial ?_
  refine aq_pure tOk rfl rfl (by decide) trivial ?_
  refine aq_pur (w_Trim0 n) rfl rfl rfl rfl rfl rfl (by decide) ?_
  refine aq_pure tOk rfl rfl (by decide) trivial ?_
  refine aq_pure tOk rfl rfl rfl trivial ?_
  refine aq_nil rfl ?_
  refine ag_false rfl (by decide) ?_
  refine ag_skip ?_
  refine ag_inBlock ?_
  refine ag_reg ?_
  refine ar_pure tOk rfl rfl rfl trivial ?_
  refine ar_pure tOk rfl rfl rfl ?_ ?_
  · first | trivial | omega | (unfold inI64; omega) | (refine ⟨?_, ?_⟩ <;> first | trivial | rfl | omega | simp) | decide
  refine ar_pure tOk rfl rfl rfl trivial ?_
  refine ar_nil ?_
  refine ag_again ?_
  refine ag_seq ?_
  refine ag_seq ?_
  refine ag_reg ?_
  refine ar_pure tOk rfl rfl rfl trivial ?_
  refine ar_pure tOk rfl rfl rfl trivial ?_
  refine ar_pure tOk rfl rfl rfl trivial ?_
  refine ar_pure tOk rfl rfl rfl trivial ?_
  refine ar_nil ?_
  refine ag_true rfl (by decide) ?_
  refine ag_skip ?_
  refine ag_seq ?_
  refine ag_block ?_
  refine ag_seq ?_
  refine ag_reg ?_
  refine ar_pure tOk rfl rfl rfl trivial ?_
  refine ar_pure tOk rfl rfl rfl trivial ?_
  refine ar_pure tOk rfl rfl rfl ?_ ?_
  · first | trivial | omega | (unfold inI64; omega) | (refine ⟨?_, ?_⟩ <;> first | trivial | rfl | omega | simp) | decide
  refine ar_load tOk rfl rfl rfl trivial ?_
  refine ar_pure tOk rfl rfl rfl trivial ?_
  refine ar_qd rfl (qop_objR [0] (w_FallX n 0 0) (by rintro _ _ ⟨rfl, rfl⟩; exact ⟨rfl, rfl⟩) rfl rfl (handed_of rfl rfl (by decide) ⟨rfl, rfl, rfl, trivial⟩) rfl rfl) rfl rfl rfl rfl ?_
  refine ar_nil ?_
  refine ag_seq ?_
  refine ag_draw0 (by kernel_rfl) (by kernel_rfl) ?_
  refine aq_pure tOk rfl rfl rfl trivial ?_
  refine aq_pure tOk rfl rfl rfl trivial ?_
  refine aq_pure tOk rfl rfl rfl ?_ ?_
  · first | trivial | omega | (unfold inI64; omega) | (refine ⟨?_, ?_⟩ <;> first | trivial | rfl | omega | simp) | decide
  refine aq_load0 tOk rfl (by kernel_rfl) rfl rfl trivial ?_
  refine aq_pure tOk rfl rfl rfl trivial ?_
  refine aq_qd0 (qop_objR [0] (w_WriteX b 0 0) (by rintro _ _ ⟨rfl, rfl⟩; exact ⟨rfl, rfl⟩) rfl rfl (handed_of rfl rfl (by decide) ⟨rfl, rfl, rfl, trivial⟩) rfl rfl) (by kernel_rfl) rfl rfl rfl rfl ?_
  refine aq_pure tOk rfl rfl rfl trivial ?_
  refine aq_pure tOk rfl rfl rfl trivial ?_
  refine aq_pure tOk rfl rfl (by decide) trivial ?_
  refine aq_pure tOk rfl rfl (by decide) trivial ?_
  refine aq_pure tOk rfl rfl (by decide) ?_ ?_
  · first | trivial | omega | (unfold inI64; omega) | (refine ⟨?_, ?_⟩ <;> first | trivial | rfl | omega | simp) | decide
  refine aq_load0 tOk rfl (by kernel_rfl) rfl (by decide) trivial ?_
  refine aq_qd0 (qop_objR [0] (w_SyncX 0 0) (by rintro _ _ ⟨rfl, rfl⟩; exact ⟨rfl, rfl⟩) rfl rfl (handed_of rfl rfl (by decide) ⟨rfl, rfl, rfl, trivial⟩) rfl rfl) (by kernel_rfl) rfl (by decide) rfl rfl ?_
  refine aq_pure tOk rfl rfl (by decide) trivial ?_
  refine aq_pure tOk rfl rfl (by decide) trivial ?_
  refine aq_pure tOk rfl rfl (by decide) ?_ ?_
  · first | trivial | omega | (unfold inI64; omega) | (refine ⟨?_, ?_⟩ <;> first | trivial | rfl | omega | simp) | decide
  refine aq_load0 tOk rfl (by kernel_rfl) rfl (by decide) trivial ?_
  refine aq_qd0 (qop_objR [0] (w_FreshX 0 0) (by rintro _ _ ⟨rfl, rfl⟩; exact ⟨rfl, rfl⟩) rfl rfl (handed_of rfl rfl (by decide) ⟨rfl, rfl, rfl, trivial⟩) rfl rfl) (by kernel_rfl) rfl (by decide) rfl rfl ?_
  refine aq_pure tOk rfl rfl (by decide) ?_ ?_
  · first | trivial | omega | (unfold inI64; omega) | (refine ⟨?_, ?_⟩ <;> first | trivial | rfl | omega | simp) | decide
  refine aq_pure tOk rfl rfl (by decide) trivial ?_
  refine aq_pure tOk rfl rfl rfl trivial ?_
  refine aq_pure tOk rfl rfl rfl trivial ?_
  refine aq_pure tOk rfl rfl (by decide) trivial ?_
  refine aq_pure tOk rfl rfl (by decide) trivial ?_
  refine aq_pure tOk rfl rfl (by decide) ?_ ?_
  · first | trivial | omega | (unfold inI64; omega) | (refine ⟨?_, ?_⟩ <;> first | trivial | rfl | omega | simp) | decide
  refine aq_load0 tOk rfl (by kernel_rfl) rfl (by decide) trivial ?_
  refine aq_qd0 (qop_objR [0] (w_OctetsX 0 0) (by rintro _ _ ⟨rfl, rfl⟩; exact ⟨rfl, rfl⟩) rfl rfl (handed_of rfl rfl (by decide) ⟨rfl, rfl, rfl, trivial⟩) rfl rfl) (by kernel_rfl) rfl (by decide) rfl rfl ?_
  refine aq_pure tOk rfl rfl (by decide) trivial ?_
  refine aq_pure tOk rfl rfl (by decide) trivial ?_
  refine aq_pure tOk rfl rfl rfl trivial ?_
  refine aq_pure tOk rfl rfl rfl trivial ?_
  refine aq_pure tOk rfl rfl (by decide) trivial ?_
  refine aq_pure tOk rfl rfl (by decide) trivial ?_
  refine aq_pure tOk rfl rfl (by decide) ?_ ?_
  · first | trivial | omega | (unfold inI64; omega) | (refine ⟨?_, ?_⟩ <;> first | trivial | rfl | omega | simp) | decide
  refine aq_load0 tOk rfl (by kernel_rfl) rfl (by decide) trivial ?_
  refine aq_pure tOk rfl rfl (by decide) trivial ?_
  refine aq_qd0 (qop_objR [0] (w_TrimX n 0 0) (by rintro _ _ ⟨rfl, rfl⟩; exact ⟨rfl, rfl⟩) rfl rfl (handed_of rfl rfl (by decide) ⟨rfl, rfl, rfl, trivial⟩) rfl rfl) (by kernel_rfl) rfl (by decide) rfl rfl ?_
  refine aq_pure tOk rfl rfl (by decide) trivial ?_
  refine aq_pure tOk rfl rfl rfl trivial ?_
  refine aq_nil rfl ?_
  refine ag_false rfl (by decide) ?_
  refine ag_skip ?_
  refine ag_inBlock ?_
  refine ag_reg ?_
  refine ar_pure tOk rfl rfl rfl trivial ?_
  refine ar_pure tOk rfl rfl rfl ?_ ?_
  · first | trivial | omega | (unfold inI64; omega) | (refine ⟨?_, ?_⟩ <;> first | trivial | rfl | omega | simp) | decide
  refine ar_pure tOk rfl rfl rfl trivial ?_
  refine ar_nil ?_
  refine ag_again ?_
  refine ag_seq ?_
  refine ag_seq ?_
  refine ag_reg ?_
  refine ar_pure tOk rfl rfl rfl trivial ?_
  refine ar_pure tOk rfl rfl rfl trivial ?_
  refine ar_pure tOk rfl rfl rfl trivial ?_
  refine ar_pure tOk rfl rfl rfl trivial ?_
  refine ar_nil ?_
  refine ag_false rfl (by decide) ?_
  refine ag_exit rfl ?_
  refine ag_seq ?_
  refine ag_reg ?_
  refine ar_pur (w_alive15) rfl rfl rfl rfl rfl rfl rfl ?_
  refine ar_pure tOk rfl rfl rfl trivial ?_
  refine ar_nil ?_
  refine ag_ret tOk Try.func10 rfl rfl (by simp) ?_
  rfl

theorem w_OctB (x : List UInt8) (n : Nat) (s : List UInt8) (su ro : Int) (hn : n ≤ s.length) (h2 : n ≤ 65536) (hx : s.take n = x) : Spec Try.prog 33 [.ptr 0 0] (dB n s su ro true) (fun v h' => v = .r (.bs x) ∧ h' = dB n s su ro true) := hx ▸ w_OctetsB n s su ro hn h2

theorem w_SureFull (a b : List UInt8) (k k2 : Int) (ha : (a.length : Int) > 65536) : Pur Try.prog 8 [.r (.bs a), .r (.bs b), .r (.int .i64 k), .r (.int .i64 k2)] (.r (.bool true)) := by
  refine spec_of_go (N := 58) Try.func8 rfl (by decide) rfl rfl ?_
  refine ag_seq ?_
  refine ag_reg ?_
  refine ar_pure tOk rfl rfl rfl trivial ?_
  refine ar_nil ?_
  refine ag_seq ?_
  refine ag_seq ?_
  refine ag_reg ?_
  refine ar_pur (w_alive15) rfl rfl rfl rfl rfl rfl rfl ?_
  refine ar_pure tOk rfl rfl rfl trivial ?_
  refine ar_nil ?_
  refine ag_false rfl (rfl) ?_
  refine ag_skip ?_
  refine ag_seq ?_
  refine ag_reg ?_
  refine ar_obj [] (w_New 65536) rfl rfl (handed_of rfl rfl (by decide) trivial) rfl rfl rfl rfl ?_
  rintro _ _ ⟨rfl, rfl⟩
  refine ⟨_, _, rfl, ?_⟩
  refine ar_pure tOk rfl rfl rfl trivial ?_
  refine ar_nil ?_
  refine ag_ent (ent_weak (g' := [(0, .r (.bs a)), (1, .r (.bs b)), (2, .r (.int .i64 k)), (3, .r (.int .i64 k2)), (9, .ptr 0 0)]) (h' := dN 0 65536 true) [0] rfl rfl rfl rfl ?_ ?_ rfl) ?_
  · exact ⟨⟨rfl, rfl⟩, ⟨rfl, rfl⟩, ⟨rfl, rfl⟩, ⟨rfl, rfl⟩, ⟨rfl, rfl⟩, trivial⟩
  · exact ⟨⟨rfl, rfl, eqMxN rfl (by decide)⟩, trivial⟩
  refine ag_seq ?_
  refine ag_seq ?_
  refine ag_reg ?_
  refine ar_pure tOk rfl rfl rfl trivial ?_
  refine ar_pure tOk rfl rfl rfl trivial ?_
  refine ar_obj [0] (w_WriteFullN a 65536 (by decide) (by decide) ha) rfl rfl (handed_of rfl rfl (by decide) ⟨rfl, rfl, rfl, trivial⟩) rfl rfl rfl rfl ?_
  rintro _ _ ⟨rfl, rfl⟩
  refine ⟨_, _, rfl, ?_⟩
  refine ar_pure tOk rfl rfl rfl trivial ?_
  refine ar_nil ?_
  refine ag_true rfl (by decide) ?_
  refine ag_seq ?_
  refine ag_reg ?_
  refine ar_pure tOk rfl rfl rfl trivial ?_
  refine ar_nil ?_
  refine ag_ret tOk Try.func8 rfl rfl (by simp) ?_
  rfl

theorem w_SureNN (a b : List UInt8) (k k2 : Int)   : Pur Try.prog 8 [.r (.bs []), .r (.bs []), .r (.int .i64 k), .r (.int .i64 k2)] (.r (.bool true)) := by
  refine spec_of_go (N := 58) Try.func8 rfl (by decide) rfl rfl ?_
  refine ag_seq ?_
  refine ag_reg ?_
  refine ar_pure tOk rfl rfl rfl trivial ?_
  refine ar_nil ?_
  refine ag_seq ?_
  refine ag_seq ?_
  refine ag_reg ?_
  refine ar_pur (w_alive15) rfl rfl rfl rfl rfl rfl rfl ?_
  refine ar_pure tOk rfl rfl rfl trivial ?_
  refine ar_nil ?_
  refine ag_false rfl (rfl) ?_
  refine ag_skip ?_
  refine ag_seq ?_
  refine ag_reg ?_
  refine ar_obj [] (w_New 65536) rfl rfl (handed_of rfl rfl (by decide) trivial) rfl rfl rfl rfl ?_
  rintro _ _ ⟨rfl, rfl⟩
  refine ⟨_, _, rfl, ?_⟩
  refine ar_pure tOk rfl rfl rfl trivial ?_
  refine ar_nil ?_
  refine ag_ent (ent_weak (g' := [(0, .r (.bs [])), (1, .r (.bs [])), (2, .r (.int .i64 k)), (3, .r (.int .i64 k2)), (9, .ptr 0 0)]) (h' := dN 0 65536 true) [0] rfl rfl rfl rfl ?_ ?_ rfl) ?_
  · exact ⟨⟨rfl, rfl⟩, ⟨rfl, rfl⟩, ⟨rfl, rfl⟩, ⟨rfl, rfl⟩, ⟨rfl, rfl⟩, trivial⟩
  · exact ⟨⟨rfl, rfl, eqMxN rfl (by decide)⟩, trivial⟩
  refine ag_seq ?_
  refine ag_seq ?_
  refine ag_reg ?_
  refine ar_pure tOk rfl rfl rfl trivial ?_
  refine ar_pure tOk rfl rfl rfl trivial ?_
  refine ar_obj [0] (w_WriteN0 65536 (by decide) (by decide)) rfl rfl (handed_of rfl rfl (by decide) ⟨rfl, rfl, rfl, trivial⟩) rfl rfl rfl rfl ?_
  rintro _ _ ⟨rfl, rfl⟩
  refine ⟨_, _, rfl, ?_⟩
  refine ar_pure tOk rfl rfl rfl trivial ?_
  refine ar_nil ?_
  refine ag_ent (ent_weak (g' := [(0, .r (.bs [])), (1, .r (.bs [])), (2, .r (.int .i64 k)), (3, .r (.int .i64 k2)), (9, .ptr 0 0), (17, .r (.bool false))]) (h' := dN 0 65536 true) [0] rfl rfl rfl rfl ?_ ?_ rfl) ?_
  · exact ⟨⟨rfl, rfl⟩, ⟨rfl, rfl⟩, ⟨rfl, rfl⟩, ⟨rfl, rfl⟩, ⟨rfl, rfl⟩, ⟨rfl, rfl⟩, trivial⟩
  · exact ⟨⟨rfl, rfl, rfl⟩, trivial⟩
  refine ag_false rfl (by decide) ?_
  refine ag_skip ?_
  refine ag_seq ?_
  refine ag_reg ?_
  refine ar_pure tOk rfl rfl rfl trivial ?_
  refine ar_qd rfl (qop_objR [0] (w_SyncN 65536) (by rintro _ _ ⟨rfl, rfl⟩; exact ⟨rfl, rfl⟩) rfl rfl (handed_of rfl rfl (by decide) ⟨rfl, rfl, rfl, trivial⟩) rfl rfl) rfl rfl rfl rfl ?_
  refine ar_nil ?_
  refine ag_seq ?_
  refine ag_reg ?_
  refine ar_pure tOk rfl rfl rfl trivial ?_
  refine ar_pure tOk rfl rfl rfl trivial ?_
  refine ar_obj [0] (w_WriteN0 65536 (by decide) (by decide)) rfl rfl (handed_of rfl rfl (by decide) ⟨rfl, rfl, rfl, trivial⟩) rfl rfl rfl rfl ?_
  rintro _ _ ⟨rfl, rfl⟩
  refine ⟨_, _, rfl, ?_⟩
  refine ar_nil ?_
  refine ag_ent (ent_weak (g' := [(0, .r (.bs [])), (1, .r (.bs [])), (2, .r (.int .i64 k)), (3, .r (.int .i64 k2)), (9, .ptr 0 0)]) (h' := dN 0 65536 true) [0] rfl rfl rfl rfl ?_ ?_ rfl) ?_
  · exact ⟨⟨rfl, rfl⟩, ⟨rfl, rfl⟩, ⟨rfl, rfl⟩, ⟨rfl, rfl⟩, ⟨rfl, rfl⟩, trivial⟩
  · exact ⟨⟨rfl, rfl, rfl⟩, trivial⟩
  refine ag_seq ?_
  refine ag_reg ?_
  refine ar_pure tOk rfl rfl rfl trivial ?_
  refine ar_pure tOk rfl rfl rfl trivial ?_
  refine ar_qd rfl (qop_objR [0] (w_FallN k 65536) (by rintro _ _ ⟨rfl, rfl⟩; exact ⟨rfl, rfl⟩) rfl rfl (handed_of rfl rfl (by decide) ⟨rfl, rfl, rfl, trivial⟩) rfl rfl) rfl rfl rfl rfl ?_
  refine ar_nil ?_
  refine ag_seq ?_
  refine ag_reg ?_
  refine ar_pure tOk rfl rfl rfl trivial ?_
  refine ar_qd rfl (qop_objR [0] (w_OctetsN 0 65536) (by rintro _ _ ⟨rfl, rfl⟩; exact ⟨rfl, rfl⟩) rfl rfl (handed_of rfl rfl (by decide) ⟨rfl, rfl, rfl, trivial⟩) rfl rfl) rfl rfl rfl rfl ?_
  refine ar_pure tOk rfl rfl rfl trivial ?_
  refine ar_pure tOk rfl rfl rfl trivial ?_
  refine ar_nil ?_
  refine ag_seq ?_
  refine ag_reg ?_
  refine ar_pure tOk rfl rfl rfl trivial ?_
  refine ar_pure tOk rfl rfl rfl trivial ?_
  refine ar_qd rfl (qop_objR [0] (w_FallN k2 65536) (by rintro _ _ ⟨rfl, rfl⟩; exact ⟨rfl, rfl⟩) rfl rfl (handed_of rfl rfl (by decide) ⟨rfl, rfl, rfl, trivial⟩) rfl rfl) rfl rfl rfl rfl ?_
  refine ar_nil ?_
  refine ag_seq ?_
  refine ag_draw0 (by kernel_rfl) (by kernel_rfl) ?_
  refine aq_pure tOk rfl rfl rfl trivial ?_
  refine aq_qd0 (qop_objR [0] (w_OctetsN 0 65536) (by rintro _ _ ⟨rfl, rfl⟩; exact ⟨rfl, rfl⟩) rfl rfl (handed_of rfl rfl (by decide) ⟨rfl, rfl, rfl, trivial⟩) rfl rfl) (by kernel_rfl) rfl rfl rfl rfl ?_
  refine aq_pure tOk rfl rfl rfl trivial ?_
  refine aq_pure tOk rfl rfl rfl trivial ?_
  refine aq_pure tOk rfl rfl rfl trivial ?_
  refine aq_pure tOk rfl rfl rfl trivial ?_
  refine aq_pure tOk rfl rfl (by simp [cutL, mulz]) trivial ?_
  refine aq_pure tOk rfl rfl (by simp [cutL, mulz]) trivial ?_
  refine aq_pure tOk rfl rfl (by simp [cutL, mulz]) trivial ?_
  refine aq_pure tOk rfl rfl (by simp [cutL, mulz]) trivial ?_
  refine aq_pure tOk rfl rfl (by simp [cutL, mulz]) trivial ?_
  refine aq_pure tOk rfl rfl rfl trivial ?_
  refine aq_pure tOk rfl rfl rfl trivial ?_
  refine aq_pure tOk rfl rfl (by simp [cutL, mulz]) trivial ?_
  refine aq_pure tOk rfl rfl (by simp [cutL, mulz]) trivial ?_
  refine aq_pure tOk rfl rfl (by simp [cutL, mulz]) trivial ?_
  refine aq_pure tOk rfl rfl (by simp [cutL, mulz]) ?_ ?_
  · simp [boundsOk]
  refine aq_pure tOk rfl rfl (by simp [cutL, mulz]) trivial ?_
  refine aq_pure tOk rfl rfl (by simp [cutL, mulz]) trivial ?_
  refine aq_pure tOk rfl rfl (by simp [cutL, mulz]) trivial ?_
  refine aq_pure tOk rfl rfl rfl trivial ?_
  refine aq_pure tOk rfl rfl rfl trivial ?_
  refine aq_pure tOk rfl rfl (by simp [cutL, mulz]) trivial ?_
  refine aq_qd0 (qop_objR [0] (w_FreshN 65536) (by rintro _ _ ⟨rfl, rfl⟩; exact ⟨rfl, rfl⟩) rfl rfl (handed_of rfl rfl (by decide) ⟨rfl, rfl, rfl, trivial⟩) rfl rfl) (by kernel_rfl) rfl (by simp [cutL, mulz]) rfl rfl ?_
  refine aq_pure tOk rfl rfl (by simp [cutL, mulz]) trivial ?_
  refine aq_pure tOk rfl rfl rfl trivial ?_
  refine aq_pure tOk rfl rfl rfl trivial ?_
  refine aq_nil rfl ?_
  refine ag_ret tOk Try.func8 rfl rfl (by simp) ?_
  exact eqBd (by simp [cutL, mulz])

theorem w_SureNF (a b : List UInt8) (k k2 : Int) (hb : (b.length : Int) > 65536)  : Pur Try.prog 8 [.r (.bs []), .r (.bs b), .r (.int .i64 k), .r (.int .i64 k2)] (.r (.bool true)) := by
  refine spec_of_go (N := 58) Try.func8 rfl (by decide) rfl rfl ?_
  refine ag_seq ?_
  refine ag_reg ?_
  refine ar_pure tOk rfl rfl rfl trivial ?_
  refine ar_nil ?_
  refine ag_seq ?_
  refine ag_seq ?_
  refine ag_reg ?_
  refine ar_pur (w_alive15) rfl rfl rfl rfl rfl rfl rfl ?_
  refine ar_pure tOk rfl rfl rfl trivial ?_
  refine ar_nil ?_
  refine ag_false rfl (rfl) ?_
  refine ag_skip ?_
  refine ag_seq ?_
  refine ag_reg ?_
  refine ar_obj [] (w_New 65536) rfl rfl (handed_of rfl rfl (by decide) trivial) rfl rfl rfl rfl ?_
  rintro _ _ ⟨rfl, rfl⟩
  refine ⟨_, _, rfl, ?_⟩
  refine ar_pure tOk rfl rfl rfl trivial ?_
  refine ar_nil ?_
  refine ag_ent (ent_weak (g' := [(0, .r (.bs [])), (1, .r (.bs b)), (2, .r (.int .i64 k)), (3, .r (.int .i64 k2)), (9, .ptr 0 0)]) (h' := dN 0 65536 true) [0] rfl rfl rfl rfl ?_ ?_ rfl) ?_
  · exact ⟨⟨rfl, rfl⟩, ⟨rfl, rfl⟩, ⟨rfl, rfl⟩, ⟨rfl, rfl⟩, ⟨rfl, rfl⟩, trivial⟩
  · exact ⟨⟨rfl, rfl, eqMxN rfl (by decide)⟩, trivial⟩
  refine ag_seq ?_
  refine ag_seq ?_
  refine ag_reg ?_
  refine ar_pure tOk rfl rfl rfl trivial ?_
  refine ar_pure tOk rfl rfl rfl trivial ?_
  refine ar_obj [0] (w_WriteN0 65536 (by decide) (by decide)) rfl rfl (handed_of rfl rfl (by decide) ⟨rfl, rfl, rfl, trivial⟩) rfl rfl rfl rfl ?_
  rintro _ _ ⟨rfl, rfl⟩
  refine ⟨_, _, rfl, ?_⟩
  refine ar_pure tOk rfl rfl rfl trivial ?_
  refine ar_nil ?_
  refine ag_ent (ent_weak (g' := [(0, .r (.bs [])), (1, .r (.bs b)), (2, .r (.int .i64 k)), (3, .r (.int .i64 k2)), (9, .ptr 0 0), (17, .r (.bool false))]) (h' := dN 0 65536 true) [0] rfl rfl rfl rfl ?_ ?_ rfl) ?_
  · exact ⟨⟨rfl, rfl⟩, ⟨rfl, rfl⟩, ⟨rfl, rfl⟩, ⟨rfl, rfl⟩, ⟨rfl, rfl⟩, ⟨rfl, rfl⟩, trivial⟩
  · exact ⟨⟨rfl, rfl, rfl⟩, trivial⟩
  refine ag_false rfl (by decide) ?_
  refine ag_skip ?_
  refine ag_seq ?_
  refine ag_reg ?_
  refine ar_pure tOk rfl rfl rfl trivial ?_
  refine ar_qd rfl (qop_objR [0] (w_SyncN 65536) (by rintro _ _ ⟨rfl, rfl⟩; exact ⟨rfl, rfl⟩) rfl rfl (handed_of rfl rfl (by decide) ⟨rfl, rfl, rfl, trivial⟩) rfl rfl) rfl rfl rfl rfl ?_
  refine ar_nil ?_
  refine ag_seq ?_
  refine ag_reg ?_
  refine ar_pure tOk rfl rfl rfl trivial ?_
  refine ar_pure tOk rfl rfl rfl trivial ?_
  refine ar_obj [0] (w_WriteFullN b 65536 (by decide) (by decide) hb) rfl rfl (handed_of rfl rfl (by decide) ⟨rfl, rfl, rfl, trivial⟩) rfl rfl rfl rfl ?_
  rintro _ _ ⟨rfl, rfl⟩
  refine ⟨_, _, rfl, ?_⟩
  refine ar_nil ?_
  refine ag_ent (ent_weak (g' := [(0, .r (.bs [])), (1, .r (.bs b)), (2, .r (.int .i64 k)), (3, .r (.int .i64 k2)), (9, .ptr 0 0)]) (h' := dN 0 65536 true) [0] rfl rfl rfl rfl ?_ ?_ rfl) ?_
  · exact ⟨⟨rfl, rfl⟩, ⟨rfl, rfl⟩, ⟨rfl, rfl⟩, ⟨rfl, rfl⟩, ⟨rfl, rfl⟩, trivial⟩
  · exact ⟨⟨rfl, rfl, rfl⟩, trivial⟩
  refine ag_seq ?_
  refine ag_reg ?_
  refine ar_pure tOk rfl rfl rfl trivial ?_
  refine ar_pure tOk rfl rfl rfl trivial ?_
  refine ar_qd rfl (qop_objR [0] (w_FallN k 65536) (by rintro _ _ ⟨rfl, rfl⟩; exact ⟨rfl, rfl⟩) rfl rfl (handed_of rfl rfl (by decide) ⟨rfl, rfl, rfl, trivial⟩) rfl rfl) rfl rfl rfl rfl ?_
  refine ar_nil ?_
  refine ag_seq ?_
  refine ag_reg ?_
  refine ar_pure tOk rfl rfl rfl trivial ?_
  refine ar_qd rfl (qop_objR [0] (w_OctetsN 0 65536) (by rintro _ _ ⟨rfl, rfl⟩; exact ⟨rfl, rfl⟩) rfl rfl (handed_of rfl rfl (by decide) ⟨rfl, rfl, rfl, trivial⟩) rfl rfl) rfl rfl rfl rfl ?_
  refine ar_pure tOk rfl rfl rfl trivial ?_
  refine ar_pure tOk rfl rfl rfl trivial ?_
  refine ar_nil ?_
  refine ag_seq ?_
  refine ag_reg ?_
  refine ar_pure tOk rfl rfl rfl trivial ?_
  refine ar_pure tOk rfl rfl rfl trivial ?_
  refine ar_qd rfl (qop_objR [0] (w_FallN k2 65536) (by rintro _ _ ⟨rfl, rfl⟩; exact ⟨rfl, rfl⟩) rfl rfl (handed_of rfl rfl (by decide) ⟨rfl, rfl, rfl, trivial⟩) rfl rfl) rfl rfl rfl rfl ?_
  refine ar_nil ?_
  refine ag_seq ?_
  refine ag_draw0 (by kernel_rfl) (by kernel_rfl) ?_
  refine aq_pure tOk rfl rfl rfl trivial ?_
  refine aq_qd0 (qop_objR [0] (w_OctetsN 0 65536) (by rintro _ _ ⟨rfl, rfl⟩; exact ⟨rfl, rfl⟩) rfl rfl (handed_of rfl rfl (by decide) ⟨rfl, rfl, rfl, trivial⟩) rfl rfl) (by kernel_rfl) rfl rfl rfl rfl ?_
  refine aq_pure tOk rfl rfl rfl trivial ?_
  refine aq_pure tOk rfl rfl rfl trivial ?_
  refine aq_pure tOk rfl rfl rfl trivial ?_
  refine aq_pure tOk rfl rfl rfl trivial ?_
  refine aq_pure tOk rfl rfl (by simp [cutL, mulz]) trivial ?_
  refine aq_pure tOk rfl rfl (by simp [cutL, mulz]) trivial ?_
  refine aq_pure tOk rfl rfl (by simp [cutL, mulz]) trivial ?_
  refine aq_pure tOk rfl rfl (by simp [cutL, mulz]) trivial ?_
  refine aq_pure tOk rfl rfl (by simp [cutL, mulz]) trivial ?_
  refine aq_pure tOk rfl rfl rfl trivial ?_
  refine aq_pure tOk rfl rfl rfl trivial ?_
  refine aq_pure tOk rfl rfl (by simp [cutL, mulz]) trivial ?_
  refine aq_pure tOk rfl rfl (by simp [cutL, mulz]) trivial ?_
  refine aq_pure tOk rfl rfl (by simp [cutL, mulz]) trivial ?_
  refine aq_pure tOk rfl rfl (by simp [cutL, mulz]) ?_ ?_
  · simp [boundsOk]
  refine aq_pure tOk rfl rfl (by simp [cutL, mulz]) trivial ?_
  refine aq_pure tOk rfl rfl (by simp [cutL, mulz]) trivial ?_
  refine aq_pure tOk rfl rfl (by simp [cutL, mulz]) trivial ?_
  refine aq_pure tOk rfl rfl rfl trivial ?_
  refine aq_pure tOk rfl rfl rfl trivial ?_
  refine aq_pure tOk rfl rfl (by simp [cutL, mulz]) trivial ?_
  refine aq_qd0 (qop_objR [0] (w_FreshN 65536) (by rintro _ _ ⟨rfl, rfl⟩; exact ⟨rfl, rfl⟩) rfl rfl (handed_of rfl rfl (by decide) ⟨rfl, rfl, rfl, trivial⟩) rfl rfl) (by kernel_rfl) rfl (by simp [cutL, mulz]) rfl rfl ?_
  refine aq_pure tOk rfl rfl (by simp [cutL, mulz]) trivial ?_
  refine aq_pure tOk rfl rfl rfl trivial ?_
  refine aq_pure tOk rfl rfl rfl trivial ?_
  refine aq_nil rfl ?_
  refine ag_ret tOk Try.func8 rfl rfl (by simp) ?_
  exact eqBd (by simp [cutL, mulz])

theorem w_SureNB (a b : List UInt8) (k k2 : Int) (b0 : b ≠ []) (hb : (b.length : Int) ≤ 65536) (j : Nat) (x : List UInt8) (hj : (j : Int) = 0 + min (max k 0) (((b.length : Nat) : Int) - 0)) (hjs : j ≤ (b).length) (hj6 : j ≤ 65536) (hx : (b).take j = x) (hx1 : (x.length : Int) ≥ (([] : List UInt8).length : Int)) (hx2 : x.take ([] : List UInt8).length = ([] : List UInt8)) : Pur Try.prog 8 [.r (.bs []), .r (.bs b), .r (.int .i64 k), .r (.int .i64 k2)] (.r (.bool true)) := by
  refine spec_of_go (N := 58) Try.func8 rfl (by decide) rfl rfl ?_
  refine ag_seq ?_
  refine ag_reg ?_
  refine ar_pure tOk rfl rfl rfl trivial ?_
  refine ar_nil ?_
  refine ag_seq ?_
  refine ag_seq ?_
  refine ag_reg ?_
  refine ar_pur (w_alive15) rfl rfl rfl rfl rfl rfl rfl ?_
  refine ar_pure tOk rfl rfl rfl trivial ?_
  refine ar_nil ?_
  refine ag_false rfl (rfl) ?_
  refine ag_skip ?_
  refine ag_seq ?_
  refine ag_reg ?_
  refine ar_obj [] (w_New 65536) rfl rfl (handed_of rfl rfl (by decide) trivial) rfl rfl rfl rfl ?_
  rintro _ _ ⟨rfl, rfl⟩
  refine ⟨_, _, rfl, ?_⟩
  refine ar_pure tOk rfl rfl rfl trivial ?_
  refine ar_nil ?_
  refine ag_ent (ent_weak (g' := [(0, .r (.bs [])), (1, .r (.bs b)), (2, .r (.int .i64 k)), (3, .r (.int .i64 k2)), (9, .ptr 0 0)]) (h' := dN 0 65536 true) [0] rfl rfl rfl rfl ?_ ?_ rfl) ?_
  · exact ⟨⟨rfl, rfl⟩, ⟨rfl, rfl⟩, ⟨rfl, rfl⟩, ⟨rfl, rfl⟩, ⟨rfl, rfl⟩, trivial⟩
  · exact ⟨⟨rfl, rfl, eqMxN rfl (by decide)⟩, trivial⟩
  refine ag_seq ?_
  refine ag_seq ?_
  refine ag_reg ?_
  refine ar_pure tOk rfl rfl rfl trivial ?_
  refine ar_pure tOk rfl rfl rfl trivial ?_
  refine ar_obj [0] (w_WriteN0 65536 (by decide) (by decide)) rfl rfl (handed_of rfl rfl (by decide) ⟨rfl, rfl, rfl, trivial⟩) rfl rfl rfl rfl ?_
  rintro _ _ ⟨rfl, rfl⟩
  refine ⟨_, _, rfl, ?_⟩
  refine ar_pure tOk rfl rfl rfl trivial ?_
  refine ar_nil ?_
  refine ag_ent (ent_weak (g' := [(0, .r (.bs [])), (1, .r (.bs b)), (2, .r (.int .i64 k)), (3, .r (.int .i64 k2)), (9, .ptr 0 0), (17, .r (.bool false))]) (h' := dN 0 65536 true) [0] rfl rfl rfl rfl ?_ ?_ rfl) ?_
  · exact ⟨⟨rfl, rfl⟩, ⟨rfl, rfl⟩, ⟨rfl, rfl⟩, ⟨rfl, rfl⟩, ⟨rfl, rfl⟩, ⟨rfl, rfl⟩, trivial⟩
  · exact ⟨⟨rfl, rfl, rfl⟩, trivial⟩
  refine ag_false rfl (by decide) ?_
  refine ag_skip ?_
  refine ag_seq ?_
  refine ag_reg ?_
  refine ar_pure tOk rfl rfl rfl trivial ?_
  refine ar_qd rfl (qop_objR [0] (w_SyncN 65536) (by rintro _ _ ⟨rfl, rfl⟩; exact ⟨rfl, rfl⟩) rfl rfl (handed_of rfl rfl (by decide) ⟨rfl, rfl, rfl, trivial⟩) rfl rfl) rfl rfl rfl rfl ?_
  refine ar_nil ?_
  refine ag_seq ?_
  refine ag_reg ?_
  refine ar_pure tOk rfl rfl rfl trivial ?_
  refine ar_pure tOk rfl rfl rfl trivial ?_
  refine ar_obj [0] (w_WriteN b 65536 (by decide) (by decide) b0 hb) rfl rfl (handed_of rfl rfl (by decide) ⟨rfl, rfl, rfl, trivial⟩) rfl rfl rfl rfl ?_
  rintro _ _ ⟨rfl, rfl⟩
  refine ⟨_, _, rfl, ?_⟩
  refine ar_nil ?_
  refine ag_ent (ent_weak (g' := [(0, .r (.bs [])), (1, .r (.bs b)), (2, .r (.int .i64 k)), (3, .r (.int .i64 k2)), (9, .ptr 0 0)]) (h' := dB b.length b 0 65536 true) [0, 1] rfl rfl rfl rfl ?_ ?_ rfl) ?_
  · exact ⟨⟨rfl, rfl⟩, ⟨rfl, rfl⟩, ⟨rfl, rfl⟩, ⟨rfl, rfl⟩, ⟨rfl, rfl⟩, trivial⟩
  · exact ⟨⟨rfl, rfl, rfl⟩, ⟨rfl, rfl, rfl⟩, trivial⟩
  refine ag_seq ?_
  refine ag_reg ?_
  refine ar_pure tOk rfl rfl rfl trivial ?_
  refine ar_pure tOk rfl rfl rfl trivial ?_
  refine ar_obj [0, 1] (w_FallB k (b.length) (b) (0) 65536 j (by omega) (by omega) (by omega) hj) rfl rfl (handed_of rfl rfl (by decide) ⟨rfl, rfl, rfl, rfl, rfl, rfl, trivial⟩) rfl rfl rfl rfl ?_
  rintro _ _ ⟨rfl, rfl⟩
  refine ⟨_, _, rfl, ?_⟩
  refine ar_nil ?_
  refine ag_ent (ent_weak (g' := [(0, .r (.bs [])), (1, .r (.bs b)), (2, .r (.int .i64 k)), (3, .r (.int .i64 k2)), (9, .ptr 0 0)]) (h' := dB j (b) j 65536 true) [0, 1] rfl rfl rfl rfl ?_ ?_ rfl) ?_
  · exact ⟨⟨rfl, rfl⟩, ⟨rfl, rfl⟩, ⟨rfl, rfl⟩, ⟨rfl, rfl⟩, ⟨rfl, rfl⟩, trivial⟩
  · exact ⟨⟨rfl, rfl, rfl⟩, ⟨rfl, rfl, rfl⟩, trivial⟩
  refine ag_seq ?_
  refine ag_reg ?_
  refine ar_pure tOk rfl rfl rfl trivial ?_
  refine ar_qd rfl (qop_objR [0, 1] (w_OctB x j (b) j 65536 hjs hj6 hx) (by rintro _ _ ⟨rfl, rfl⟩; exact ⟨rfl, rfl⟩) rfl rfl (handed_of rfl rfl (by decide) ⟨rfl, rfl, rfl, rfl, rfl, rfl, trivial⟩) rfl rfl) rfl rfl rfl rfl ?_
  refine ar_pure tOk rfl rfl rfl trivial ?_
  refine ar_pure tOk rfl rfl rfl trivial ?_
  refine ar_nil ?_
  refine ag_ent (ent_weak (g' := [(0, .r (.bs [])), (1, .r (.bs b)), (2, .r (.int .i64 k)), (3, .r (.int .i64 k2)), (9, .ptr 0 0), (10, .r (.str x))]) (h' := dB j (b) j 65536 true) [0, 1] rfl rfl rfl rfl ?_ ?_ rfl) ?_
  · exact ⟨⟨rfl, rfl⟩, ⟨rfl, rfl⟩, ⟨rfl, rfl⟩, ⟨rfl, rfl⟩, ⟨rfl, rfl⟩, ⟨rfl, rfl⟩, trivial⟩
  · exact ⟨⟨rfl, rfl, rfl⟩, ⟨rfl, rfl, rfl⟩, trivial⟩
  refine ag_seq ?_
  refine ag_reg ?_
  refine ar_pure tOk rfl rfl rfl trivial ?_
  refine ar_pure tOk rfl rfl rfl trivial ?_
  refine ar_obj [0, 1] (w_FallB k2 j (b) j 65536 j (by omega) (by omega) hj6 (by omega)) rfl rfl (handed_of rfl rfl (by decide) ⟨rfl, rfl, rfl, rfl, rfl, rfl, trivial⟩) rfl rfl rfl rfl ?_
  rintro _ _ ⟨rfl, rfl⟩
  refine ⟨_, _, rfl, ?_⟩
  refine ar_nil ?_
  refine ag_ent (ent_weak (g' := [(0, .r (.bs [])), (1, .r (.bs b)), (2, .r (.int .i64 k)), (3, .r (.int .i64 k2)), (9, .ptr 0 0), (10, .r (.str x))]) (h' := dB j (b) j 65536 true) [0, 1] rfl rfl rfl rfl ?_ ?_ rfl) ?_
  · exact ⟨⟨rfl, rfl⟩, ⟨rfl, rfl⟩, ⟨rfl, rfl⟩, ⟨rfl, rfl⟩, ⟨rfl, rfl⟩, ⟨rfl, rfl⟩, trivial⟩
  · exact ⟨⟨rfl, rfl, rfl⟩, ⟨rfl, rfl, rfl⟩, trivial⟩
  refine ag_seq ?_
  refine ag_draw0 (by kernel_rfl) (by kernel_rfl) ?_
  refine aq_pure tOk rfl rfl rfl trivial ?_
  refine aq_qd0 (qop_objR [0, 1] (w_OctB x j (b) j 65536 hjs hj6 hx) (by rintro _ _ ⟨rfl, rfl⟩; exact ⟨rfl, rfl⟩) rfl rfl (handed_of rfl rfl (by decide) ⟨rfl, rfl, rfl, rfl, rfl, rfl, trivial⟩) rfl rfl) (by kernel_rfl) rfl rfl rfl rfl ?_
  refine aq_pure tOk rfl rfl rfl trivial ?_
  refine aq_pure tOk rfl rfl rfl trivial ?_
  refine aq_pure tOk rfl rfl rfl trivial ?_
  refine aq_pure tOk rfl rfl rfl trivial ?_
  refine aq_pure tOk rfl rfl (by simp [hx1, hx2, cutL, mulz]) trivial ?_
  refine aq_pure tOk rfl rfl (by simp [hx1, hx2, cutL, mulz]) trivial ?_
  refine aq_pure tOk rfl rfl (by simp [hx1, hx2, cutL, mulz]) trivial ?_
  refine aq_pure tOk rfl rfl (by simp [hx1, hx2, cutL, mulz]) trivial ?_
  refine aq_pure tOk rfl rfl (by simp [hx1, hx2, cutL, mulz]) trivial ?_
  refine aq_pure tOk rfl rfl rfl trivial ?_
  refine aq_pure tOk rfl rfl rfl trivial ?_
  refine aq_pure tOk rfl rfl (by simp [hx1, hx2, cutL, mulz]) trivial ?_
  refine aq_pure tOk rfl rfl (by simp [hx1, hx2, cutL, mulz]) trivial ?_
  refine aq_pure tOk rfl rfl (by simp [hx1, hx2, cutL, mulz]) trivial ?_
  refine aq_pure tOk rfl rfl (by simp [hx1, hx2, cutL, mulz]) ?_ ?_
  · simp [boundsOk]
  refine aq_pure tOk rfl rfl (by simp [hx1, hx2, cutL, mulz]) trivial ?_
  refine aq_pure tOk rfl rfl (by simp [hx1, hx2, cutL, mulz]) trivial ?_
  refine aq_pure tOk rfl rfl (by simp [hx1, hx2, cutL, mulz]) trivial ?_
  refine aq_pure tOk rfl rfl rfl trivial ?_
  refine aq_pure tOk rfl rfl rfl trivial ?_
  refine aq_pure tOk rfl rfl (by simp [hx1, hx2, cutL, mulz]) trivial ?_
  refine aq_qd0 (qop_objR [0, 1] (w_FreshB j (b) j 65536 (by omega) (by omega) hj6) (by rintro _ _ ⟨rfl, rfl⟩; exact ⟨rfl, rfl⟩) rfl rfl (handed_of rfl rfl (by decide) ⟨rfl, rfl, rfl, rfl, rfl, rfl, trivial⟩) rfl rfl) (by kernel_rfl) rfl (by simp [hx1, hx2, cutL, mulz]) rfl rfl ?_
  refine aq_pure tOk rfl rfl (by simp [hx1, hx2, cutL, mulz]) trivial ?_
  refine aq_pure tOk rfl rfl rfl trivial ?_
  refine aq_pure tOk rfl rfl rfl trivial ?_
  refine aq_nil rfl ?_
  refine ag_ret tOk Try.func8 rfl rfl (by simp) ?_
  exact eqBd (by simp [hx2, cutL, mulz]; try omega)

theorem w_SureBF (a b : List UInt8) (k k2 : Int) (a0 : a ≠ []) (ha : (a.length : Int) ≤ 65536) (hb : (b.length : Int) > 65536 - a.length) (j : Nat) (x : List UInt8) (hj : (j : Int) = a.length + min (max k 0) (((a.length : Nat) : Int) - a.length)) (hjs : j ≤ (a).length) (hj6 : j ≤ 65536) (hx : (a).take j = x) (hx1 : (x.length : Int) ≥ (a.length : Int)) (hx2 : x.take a.length = a) : Pur Try.prog 8 [.r (.bs a), .r (.bs b), .r (.int .i64 k), .r (.int .i64 k2)] (.r (.bool true)) := by
  refine spec_of_go (N := 58) Try.func8 rfl (by decide) rfl rfl ?_
  refine ag_seq ?_
  refine ag_reg ?_
  refine ar_pure tOk rfl rfl rfl trivial ?_
  refine ar_nil ?_
  refine ag_seq ?_
  refine ag_seq ?_
  refine ag_reg ?_
  refine ar_pur (w_alive15) rfl rfl rfl rfl rfl rfl rfl ?_
  refine ar_pure tOk rfl rfl rfl trivial ?_
  refine ar_nil ?_
  refine ag_false rfl (rfl) ?_
  refine ag_skip ?_
  refine ag_seq ?_
  refine ag_reg ?_
  refine ar_obj [] (w_New 65536) rfl rfl (handed_of rfl rfl (by decide) trivial) rfl rfl rfl rfl ?_
  rintro _ _ ⟨rfl, rfl⟩
  refine ⟨_, _, rfl, ?_⟩
  refine ar_pure tOk rfl rfl rfl trivial ?_
  refine ar_nil ?_
  refine ag_ent (ent_weak (g' := [(0, .r (.bs a)), (1, .r (.bs b)), (2, .r (.int .i64 k)), (3, .r (.int .i64 k2)), (9, .ptr 0 0)]) (h' := dN 0 65536 true) [0] rfl rfl rfl rfl ?_ ?_ rfl) ?_
  · exact ⟨⟨rfl, rfl⟩, ⟨rfl, rfl⟩, ⟨rfl, rfl⟩, ⟨rfl, rfl⟩, ⟨rfl, rfl⟩, trivial⟩
  · exact ⟨⟨rfl, rfl, eqMxN rfl (by decide)⟩, trivial⟩
  refine ag_seq ?_
  refine ag_seq ?_
  refine ag_reg ?_
  refine ar_pure tOk rfl rfl rfl trivial ?_
  refine ar_pure tOk rfl rfl rfl trivial ?_
  refine ar_obj [0] (w_WriteN a 65536 (by decide) (by decide) a0 ha) rfl rfl (handed_of rfl rfl (by decide) ⟨rfl, rfl, rfl, trivial⟩) rfl rfl rfl rfl ?_
  rintro _ _ ⟨rfl, rfl⟩
  refine ⟨_, _, rfl, ?_⟩
  refine ar_pure tOk rfl rfl rfl trivial ?_
  refine ar_nil ?_
  refine ag_ent (ent_weak (g' := [(0, .r (.bs a)), (1, .r (.bs b)), (2, .r (.int .i64 k)), (3, .r (.int .i64 k2)), (9, .ptr 0 0), (17, .r (.bool false))]) (h' := dB a.length a 0 65536 true) [0, 1] rfl rfl rfl rfl ?_ ?_ rfl) ?_
  · exact ⟨⟨rfl, rfl⟩, ⟨rfl, rfl⟩, ⟨rfl, rfl⟩, ⟨rfl, rfl⟩, ⟨rfl, rfl⟩, ⟨rfl, rfl⟩, trivial⟩
  · exact ⟨⟨rfl, rfl, rfl⟩, ⟨rfl, rfl, rfl⟩, trivial⟩
  refine ag_false rfl (by decide) ?_
  refine ag_skip ?_
  refine ag_seq ?_
  refine ag_reg ?_
  refine ar_pure tOk rfl rfl rfl trivial ?_
  refine ar_obj [0, 1] (w_SyncB a.length a 0 65536 (by decide) (by omega) (by omega)) rfl rfl (handed_of rfl rfl (by decide) ⟨rfl, rfl, rfl, rfl, rfl, rfl, trivial⟩) rfl rfl rfl rfl ?_
  rintro _ _ ⟨rfl, rfl⟩
  refine ⟨_, _, rfl, ?_⟩
  refine ar_nil ?_
  refine ag_ent (ent_weak (g' := [(0, .r (.bs a)), (1, .r (.bs b)), (2, .r (.int .i64 k)), (3, .r (.int .i64 k2)), (9, .ptr 0 0)]) (h' := dB a.length a a.length 65536 true) [0, 1] rfl rfl rfl rfl ?_ ?_ rfl) ?_
  · exact ⟨⟨rfl, rfl⟩, ⟨rfl, rfl⟩, ⟨rfl, rfl⟩, ⟨rfl, rfl⟩, ⟨rfl, rfl⟩, trivial⟩
  · exact ⟨⟨rfl, rfl, rfl⟩, ⟨rfl, rfl, rfl⟩, trivial⟩
  refine ag_seq ?_
  refine ag_reg ?_
  refine ar_pure tOk rfl rfl rfl trivial ?_
  refine ar_pure tOk rfl rfl rfl trivial ?_
  refine ar_obj [0, 1] (w_WriteFullB b a.length a a.length 65536 (by decide) (by decide) (by omega) hb) rfl rfl (handed_of rfl rfl (by decide) ⟨rfl, rfl, rfl, rfl, rfl, rfl, trivial⟩) rfl rfl rfl rfl ?_
  rintro _ _ ⟨rfl, rfl⟩
  refine ⟨_, _, rfl, ?_⟩
  refine ar_nil ?_
  refine ag_ent (ent_weak (g' := [(0, .r (.bs a)), (1, .r (.bs b)), (2, .r (.int .i64 k)), (3, .r (.int .i64 k2)), (9, .ptr 0 0)]) (h' := dB a.length a a.length 65536 true) [0, 1] rfl rfl rfl rfl ?_ ?_ rfl) ?_
  · exact ⟨⟨rfl, rfl⟩, ⟨rfl, rfl⟩, ⟨rfl, rfl⟩, ⟨rfl, rfl⟩, ⟨rfl, rfl⟩, trivial⟩
  · exact ⟨⟨rfl, rfl, rfl⟩, ⟨rfl, rfl, rfl⟩, trivial⟩
  refine ag_seq ?_
  refine ag_reg ?_
  refine ar_pure tOk rfl rfl rfl trivial ?_
  refine ar_pure tOk rfl rfl rfl trivial ?_
  refine ar_obj [0, 1] (w_FallB k (a.length) (a) (a.length) 65536 j (by omega) (by omega) (by omega) hj) rfl rfl (handed_of rfl rfl (by decide) ⟨rfl, rfl, rfl, rfl, rfl, rfl, trivial⟩) rfl rfl rfl rfl ?_
  rintro _ _ ⟨rfl, rfl⟩
  refine ⟨_, _, rfl, ?_⟩
  refine ar_nil ?_
  refine ag_ent (ent_weak (g' := [(0, .r (.bs a)), (1, .r (.bs b)), (2, .r (.int .i64 k)), (3, .r (.int .i64 k2)), (9, .ptr 0 0)]) (h' := dB j (a) j 65536 true) [0, 1] rfl rfl rfl rfl ?_ ?_ rfl) ?_
  · exact ⟨⟨rfl, rfl⟩, ⟨rfl, rfl⟩, ⟨rfl, rfl⟩, ⟨rfl, rfl⟩, ⟨rfl, rfl⟩, trivial⟩
  · exact ⟨⟨rfl, rfl, rfl⟩, ⟨rfl, rfl, rfl⟩, trivial⟩
  refine ag_seq ?_
  refine ag_reg ?_
  refine ar_pure tOk rfl rfl rfl trivial ?_
  refine ar_qd rfl (qop_objR [0, 1] (w_OctB x j (a) j 65536 hjs hj6 hx) (by rintro _ _ ⟨rfl, rfl⟩; exact ⟨rfl, rfl⟩) rfl rfl (handed_of rfl rfl (by decide) ⟨rfl, rfl, rfl, rfl, rfl, rfl, trivial⟩) rfl rfl) rfl rfl rfl rfl ?_
  refine ar_pure tOk rfl rfl rfl trivial ?_
  refine ar_pure tOk rfl rfl rfl trivial ?_
  refine ar_nil ?_
  refine ag_ent (ent_weak (g' := [(0, .r (.bs a)), (1, .r (.bs b)), (2, .r (.int .i64 k)), (3, .r (.int .i64 k2)), (9, .ptr 0 0), (10, .r (.str x))]) (h' := dB j (a) j 65536 true) [0, 1] rfl rfl rfl rfl ?_ ?_ rfl) ?_
  · exact ⟨⟨rfl, rfl⟩, ⟨rfl, rfl⟩, ⟨rfl, rfl⟩, ⟨rfl, rfl⟩, ⟨rfl, rfl⟩, ⟨rfl, rfl⟩, trivial⟩
  · exact ⟨⟨rfl, rfl, rfl⟩, ⟨rfl, rfl, rfl⟩, trivial⟩
  refine ag_seq ?_
  refine ag_reg ?_
  refine ar_pure tOk rfl rfl rfl trivial ?_
  refine ar_pure tOk rfl rfl rfl trivial ?_
  refine ar_obj [0, 1] (w_FallB k2 j (a) j 65536 j (by omega) (by omega) hj6 (by omega)) rfl rfl (handed_of rfl rfl (by decide) ⟨rfl, rfl, rfl, rfl, rfl, rfl, trivial⟩) rfl rfl rfl rfl ?_
  rintro _ _ ⟨rfl, rfl⟩
  refine ⟨_, _, rfl, ?_⟩
  refine ar_nil ?_
  refine ag_ent (ent_weak (g' := [(0, .r (.bs a)), (1, .r (.bs b)), (2, .r (.int .i64 k)), (3, .r (.int .i64 k2)), (9, .ptr 0 0), (10, .r (.str x))]) (h' := dB j (a) j 65536 true) [0, 1] rfl rfl rfl rfl ?_ ?_ rfl) ?_
  · exact ⟨⟨rfl, rfl⟩, ⟨rfl, rfl⟩, ⟨rfl, rfl⟩, ⟨rfl, rfl⟩, ⟨rfl, rfl⟩, ⟨rfl, rfl⟩, trivial⟩
  · exact ⟨⟨rfl, rfl, rfl⟩, ⟨rfl, rfl, rfl⟩, trivial⟩
  refine ag_seq ?_
  refine ag_draw0 (by kernel_rfl) (by kernel_rfl) ?_
  refine aq_pure tOk rfl rfl rfl trivial ?_
  refine aq_qd0 (qop_objR [0, 1] (w_OctB x j (a) j 65536 hjs hj6 hx) (by rintro _ _ ⟨rfl, rfl⟩; exact ⟨rfl, rfl⟩) rfl rfl (handed_of rfl rfl (by decide) ⟨rfl, rfl, rfl, rfl, rfl, rfl, trivial⟩) rfl rfl) (by kernel_rfl) rfl rfl rfl rfl ?_
  refine aq_pure tOk rfl rfl rfl trivial ?_
  refine aq_pure tOk rfl rfl rfl trivial ?_
  refine aq_pure tOk rfl rfl rfl trivial ?_
  refine aq_pure tOk rfl rfl rfl trivial ?_
  refine aq_pure tOk rfl rfl (by simp [hx1, hx2, cutL, mulz]) trivial ?_
  refine aq_pure tOk rfl rfl (by simp [hx1, hx2, cutL, mulz]) trivial ?_
  refine aq_pure tOk rfl rfl (by simp [hx1, hx2, cutL, mulz]) trivial ?_
  refine aq_pure tOk rfl rfl (by simp [hx1, hx2, cutL, mulz]) trivial ?_
  refine aq_pure tOk rfl rfl (by simp [hx1, hx2, cutL, mulz]) trivial ?_
  refine aq_pure tOk rfl rfl rfl trivial ?_
  refine aq_pure tOk rfl rfl rfl trivial ?_
  refine aq_pure tOk rfl rfl (by simp [hx1, hx2, cutL, mulz]) trivial ?_
  refine aq_pure tOk rfl rfl (by simp [hx1, hx2, cutL, mulz]) trivial ?_
  refine aq_pure tOk rfl rfl (by simp [hx1, hx2, cutL, mulz]) trivial ?_
  refine aq_pure tOk rfl rfl (by simp [hx1, hx2, cutL, mulz]) ?_ ?_
  · exact ⟨by simp, by simp at *; omega⟩
  refine aq_pure tOk rfl rfl (by simp [hx1, hx2, cutL, mulz]) trivial ?_
  refine aq_pure tOk rfl rfl (by simp [hx1, hx2, cutL, mulz]) trivial ?_
  refine aq_pure tOk rfl rfl (by simp [hx1, hx2, cutL, mulz]) trivial ?_
  refine aq_pure tOk rfl rfl rfl trivial ?_
  refine aq_pure tOk rfl rfl rfl trivial ?_
  refine aq_pure tOk rfl rfl (by simp [hx1, hx2, cutL, mulz]) trivial ?_
  refine aq_qd0 (qop_objR [0, 1] (w_FreshB j (a) j 65536 (by omega) (by omega) hj6) (by rintro _ _ ⟨rfl, rfl⟩; exact ⟨rfl, rfl⟩) rfl rfl (handed_of rfl rfl (by decide) ⟨rfl, rfl, rfl, rfl, rfl, rfl, trivial⟩) rfl rfl) (by kernel_rfl) rfl (by simp [hx1, hx2, cutL, mulz]) rfl rfl ?_
  refine aq_pure tOk rfl rfl (by simp [hx1, hx2, cutL, mulz]) trivial ?_
  refine aq_pure tOk rfl rfl rfl trivial ?_
  refine aq_pure tOk rfl rfl rfl trivial ?_
  refine aq_nil rfl ?_
  refine ag_ret tOk Try.func8 rfl rfl (by simp) ?_
  exact eqBd (by simp [hx2, cutL, mulz]; try omega)

theorem w_SureBB (a b : List UInt8) (k k2 : Int) (a0 : a ≠ []) (ha : (a.length : Int) ≤ 65536) (hb : (b.length : Int) ≤ 65536 - a.length) (j : Nat) (x : List UInt8) (hj : (j : Int) = a.length + min (max k 0) (((a.length + b.length : Nat) : Int) - a.length)) (hjs : j ≤ (a ++ b).length) (hj6 : j ≤ 65536) (hx : (a ++ b).take j = x) (hx1 : (x.length : Int) ≥ (a.length : Int)) (hx2 : x.take a.length = a) : Pur Try.prog 8 [.r (.bs a), .r (.bs b), .r (.int .i64 k), .r (.int .i64 k2)] (.r (.bool true)) := by
  refine spec_of_go (N := 58) Try.func8 rfl (by decide) rfl rfl ?_
  refine ag_seq ?_
  refine ag_reg ?_
  refine ar_pure tOk rfl rfl rfl trivial ?_
  refine ar_nil ?_
  refine ag_seq ?_
  refine ag_seq ?_
  refine ag_reg ?_
  refine ar_pur (w_alive15) rfl rfl rfl rfl rfl rfl rfl ?_
  refine ar_pure tOk rfl rfl rfl trivial ?_
  refine ar_nil ?_
  refine ag_false rfl (rfl) ?_
  refine ag_skip ?_
  refine ag_seq ?_
  refine ag_reg ?_
  refine ar_obj [] (w_New 65536) rfl rfl (handed_of rfl rfl (by decide) trivial) rfl rfl rfl rfl ?_
  rintro _ _ ⟨rfl, rfl⟩
  refine ⟨_, _, rfl, ?_⟩
  refine ar_pure tOk rfl rfl rfl trivial ?_
  refine ar_nil ?_
  refine ag_ent (ent_weak (g' := [(0, .r (.bs a)), (1, .r (.bs b)), (2, .r (.int .i64 k)), (3, .r (.int .i64 k2)), (9, .ptr 0 0)]) (h' := dN 0 65536 true) [0] rfl rfl rfl rfl ?_ ?_ rfl) ?_
  · exact ⟨⟨rfl, rfl⟩, ⟨rfl, rfl⟩, ⟨rfl, rfl⟩, ⟨rfl, rfl⟩, ⟨rfl, rfl⟩, trivial⟩
  · exact ⟨⟨rfl, rfl, eqMxN rfl (by decide)⟩, trivial⟩
  refine ag_seq ?_
  refine ag_seq ?_
  refine ag_reg ?_
  refine ar_pure tOk rfl rfl rfl trivial ?_
  refine ar_pure tOk rfl rfl rfl trivial ?_
  refine ar_obj [0] (w_WriteN a 65536 (by decide) (by decide) a0 ha) rfl rfl (handed_of rfl rfl (by decide) ⟨rfl, rfl, rfl, trivial⟩) rfl rfl rfl rfl ?_
  rintro _ _ ⟨rfl, rfl⟩
  refine ⟨_, _, rfl, ?_⟩
  refine ar_pure tOk rfl rfl rfl trivial ?_
  refine ar_nil ?_
  refine ag_ent (ent_weak (g' := [(0, .r (.bs a)), (1, .r (.bs b)), (2, .r (.int .i64 k)), (3, .r (.int .i64 k2)), (9, .ptr 0 0), (17, .r (.bool false))]) (h' := dB a.length a 0 65536 true) [0, 1] rfl rfl rfl rfl ?_ ?_ rfl) ?_
  · exact ⟨⟨rfl, rfl⟩, ⟨rfl, rfl⟩, ⟨rfl, rfl⟩, ⟨rfl, rfl⟩, ⟨rfl, rfl⟩, ⟨rfl, rfl⟩, trivial⟩
  · exact ⟨⟨rfl, rfl, rfl⟩, ⟨rfl, rfl, rfl⟩, trivial⟩
  refine ag_false rfl (by decide) ?_
  refine ag_skip ?_
  refine ag_seq ?_
  refine ag_reg ?_
  refine ar_pure tOk rfl rfl rfl trivial ?_
  refine ar_obj [0, 1] (w_SyncB a.length a 0 65536 (by decide) (by omega) (by omega)) rfl rfl (handed_of rfl rfl (by decide) ⟨rfl, rfl, rfl, rfl, rfl, rfl, trivial⟩) rfl rfl rfl rfl ?_
  rintro _ _ ⟨rfl, rfl⟩
  refine ⟨_, _, rfl, ?_⟩
  refine ar_nil ?_
  refine ag_ent (ent_weak (g' := [(0, .r (.bs a)), (1, .r (.bs b)), (2, .r (.int .i64 k)), (3, .r (.int .i64 k2)), (9, .ptr 0 0)]) (h' := dB a.length a a.length 65536 true) [0, 1] rfl rfl rfl rfl ?_ ?_ rfl) ?_
  · exact ⟨⟨rfl, rfl⟩, ⟨rfl, rfl⟩, ⟨rfl, rfl⟩, ⟨rfl, rfl⟩, ⟨rfl, rfl⟩, trivial⟩
  · exact ⟨⟨rfl, rfl, rfl⟩, ⟨rfl, rfl, rfl⟩, trivial⟩
  refine ag_seq ?_
  refine ag_reg ?_
  refine ar_pure tOk rfl rfl rfl trivial ?_
  refine ar_pure tOk rfl rfl rfl trivial ?_
  refine ar_obj [0, 1] (w_WriteB b a.length a a.length 65536 (by decide) (by decide) (by omega) (by omega) hb) rfl rfl (handed_of rfl rfl (by decide) ⟨rfl, rfl, rfl, rfl, rfl, rfl, trivial⟩) rfl rfl rfl rfl ?_
  rintro _ _ ⟨rfl, rfl⟩
  refine ⟨_, _, rfl, ?_⟩
  refine ar_nil ?_
  refine ag_ent (ent_weak (g' := [(0, .r (.bs a)), (1, .r (.bs b)), (2, .r (.int .i64 k)), (3, .r (.int .i64 k2)), (9, .ptr 0 0)]) (h' := dB (a.length + b.length) (a ++ b) a.length 65536 true) [0, 2] rfl rfl rfl rfl ?_ ?_ rfl) ?_
  · exact ⟨⟨rfl, rfl⟩, ⟨rfl, rfl⟩, ⟨rfl, rfl⟩, ⟨rfl, rfl⟩, ⟨rfl, rfl⟩, trivial⟩
  · exact ⟨⟨rfl, rfl, rfl⟩, ⟨rfl, rfl, eqBs (by simp)⟩, trivial⟩
  refine ag_seq ?_
  refine ag_reg ?_
  refine ar_pure tOk rfl rfl rfl trivial ?_
  refine ar_pure tOk rfl rfl rfl trivial ?_
  refine ar_obj [0, 1] (w_FallB k (a.length + b.length) (a ++ b) (a.length) 65536 j (by omega) (by omega) (by omega) hj) rfl rfl (handed_of rfl rfl (by decide) ⟨rfl, rfl, rfl, rfl, rfl, rfl, trivial⟩) rfl rfl rfl rfl ?_
  rintro _ _ ⟨rfl, rfl⟩
  refine ⟨_, _, rfl, ?_⟩
  refine ar_nil ?_
  refine ag_ent (ent_weak (g' := [(0, .r (.bs a)), (1, .r (.bs b)), (2, .r (.int .i64 k)), (3, .r (.int .i64 k2)), (9, .ptr 0 0)]) (h' := dB j (a ++ b) j 65536 true) [0, 1] rfl rfl rfl rfl ?_ ?_ rfl) ?_
  · exact ⟨⟨rfl, rfl⟩, ⟨rfl, rfl⟩, ⟨rfl, rfl⟩, ⟨rfl, rfl⟩, ⟨rfl, rfl⟩, trivial⟩
  · exact ⟨⟨rfl, rfl, rfl⟩, ⟨rfl, rfl, rfl⟩, trivial⟩
  refine ag_seq ?_
  refine ag_reg ?_
  refine ar_pure tOk rfl rfl rfl trivial ?_
  refine ar_qd rfl (qop_objR [0, 1] (w_OctB x j (a ++ b) j 65536 hjs hj6 hx) (by rintro _ _ ⟨rfl, rfl⟩; exact ⟨rfl, rfl⟩) rfl rfl (handed_of rfl rfl (by decide) ⟨rfl, rfl, rfl, rfl, rfl, rfl, trivial⟩) rfl rfl) rfl rfl rfl rfl ?_
  refine ar_pure tOk rfl rfl rfl trivial ?_
  refine ar_pure tOk rfl rfl rfl trivial ?_
  refine ar_nil ?_
  refine ag_ent (ent_weak (g' := [(0, .r (.bs a)), (1, .r (.bs b)), (2, .r (.int .i64 k)), (3, .r (.int .i64 k2)), (9, .ptr 0 0), (10, .r (.str x))]) (h' := dB j (a ++ b) j 65536 true) [0, 1] rfl rfl rfl rfl ?_ ?_ rfl) ?_
  · exact ⟨⟨rfl, rfl⟩, ⟨rfl, rfl⟩, ⟨rfl, rfl⟩, ⟨rfl, rfl⟩, ⟨rfl, rfl⟩, ⟨rfl, rfl⟩, trivial⟩
  · exact ⟨⟨rfl, rfl, rfl⟩, ⟨rfl, rfl, rfl⟩, trivial⟩
  refine ag_seq ?_
  refine ag_reg ?_
  refine ar_pure tOk rfl rfl rfl trivial ?_
  refine ar_pure tOk rfl rfl rfl trivial ?_
  refine ar_obj [0, 1] (w_FallB k2 j (a ++ b) j 65536 j (by omega) (by omega) hj6 (by omega)) rfl rfl (handed_of rfl rfl (by decide) ⟨rfl, rfl, rfl, rfl, rfl, rfl, trivial⟩) rfl rfl rfl rfl ?_
  rintro _ _ ⟨rfl, rfl⟩
  refine ⟨_, _, rfl, ?_⟩
  refine ar_nil ?_
  refine ag_ent (ent_weak (g' := [(0, .r (.bs a)), (1, .r (.bs b)), (2, .r (.int .i64 k)), (3, .r (.int .i64 k2)), (9, .ptr 0 0), (10, .r (.str x))]) (h' := dB j (a ++ b) j 65536 true) [0, 1] rfl rfl rfl rfl ?_ ?_ rfl) ?_
  · exact ⟨⟨rfl, rfl⟩, ⟨rfl, rfl⟩, ⟨rfl, rfl⟩, ⟨rfl, rfl⟩, ⟨rfl, rfl⟩, ⟨rfl, rfl⟩, trivial⟩
  · exact ⟨⟨rfl, rfl, rfl⟩, ⟨rfl, rfl, rfl⟩, trivial⟩
  refine ag_seq ?_
  refine ag_draw0 (by kernel_rfl) (by kernel_rfl) ?_
  refine aq_pure tOk rfl rfl rfl trivial ?_
  refine aq_qd0 (qop_objR [0, 1] (w_OctB x j (a ++ b) j 65536 hjs hj6 hx) (by rintro _ _ ⟨rfl, rfl⟩; exact ⟨rfl, rfl⟩) rfl rfl (handed_of rfl rfl (by decide) ⟨rfl, rfl, rfl, rfl, rfl, rfl, trivial⟩) rfl rfl) (by kernel_rfl) rfl rfl rfl rfl ?_
  refine aq_pure tOk rfl rfl rfl trivial ?_
  refine aq_pure tOk rfl rfl rfl trivial ?_
  refine aq_pure tOk rfl rfl rfl trivial ?_
  refine aq_pure tOk rfl rfl rfl trivial ?_
  refine aq_pure tOk rfl rfl (by simp [hx1, hx2, cutL, mulz]) trivial ?_
  refine aq_pure tOk rfl rfl (by simp [hx1, hx2, cutL, mulz]) trivial ?_
  refine aq_pure tOk rfl rfl (by simp [hx1, hx2, cutL, mulz]) trivial ?_
  refine aq_pure tOk rfl rfl (by simp [hx1, hx2, cutL, mulz]) trivial ?_
  refine aq_pure tOk rfl rfl (by simp [hx1, hx2, cutL, mulz]) trivial ?_
  refine aq_pure tOk rfl rfl rfl trivial ?_
  refine aq_pure tOk rfl rfl rfl trivial ?_
  refine aq_pure tOk rfl rfl (by simp [hx1, hx2, cutL, mulz]) trivial ?_
  refine aq_pure tOk rfl rfl (by simp [hx1, hx2, cutL, mulz]) trivial ?_
  refine aq_pure tOk rfl rfl (by simp [hx1, hx2, cutL, mulz]) trivial ?_
  refine aq_pure tOk rfl rfl (by simp [hx1, hx2, cutL, mulz]) ?_ ?_
  · exact ⟨by simp, by simp at *; omega⟩
  refine aq_pure tOk rfl rfl (by simp [hx1, hx2, cutL, mulz]) trivial ?_
  refine aq_pure tOk rfl rfl (by simp [hx1, hx2, cutL, mulz]) trivial ?_
  refine aq_pure tOk rfl rfl (by simp [hx1, hx2, cutL, mulz]) trivial ?_
  refine aq_pure tOk rfl rfl rfl trivial ?_
  refine aq_pure tOk rfl rfl rfl trivial ?_
  refine aq_pure tOk rfl rfl (by simp [hx1, hx2, cutL, mulz]) trivial ?_
  refine aq_qd0 (qop_objR [0, 1] (w_FreshB j (a ++ b) j 65536 (by omega) (by omega) hj6) (by rintro _ _ ⟨rfl, rfl⟩; exact ⟨rfl, rfl⟩) rfl rfl (handed_of rfl rfl (by decide) ⟨rfl, rfl, rfl, rfl, rfl, rfl, trivial⟩) rfl rfl) (by kernel_rfl) rfl (by simp [hx1, hx2, cutL, mulz]) rfl rfl ?_
  refine aq_pure tOk rfl rfl (by simp [hx1, hx2, cutL, mulz]) trivial ?_
  refine aq_pure tOk rfl rfl rfl trivial ?_
  refine aq_pure tOk rfl rfl rfl trivial ?_
  refine aq_nil rfl ?_
  refine ag_ret tOk Try.func8 rfl rfl (by simp) ?_
  exact eqBd (by simp [hx2, cutL, mulz]; try omega)

theorem w_DiskSure (a b : List UInt8) (k k2 : Int) : Pur Try.prog 8 [.r (.bs a), .r (.bs b), .r (.int .i64 k), .r (.int .i64 k2)] (.r (.bool true)) := by
  by_cases ha : (a.length : Int) > 65536
  · exact w_SureFull a b k k2 ha
  by_cases a0 : a = []
  · subst a0
    by_cases b0 : b = []
    · subst b0; exact w_SureNN [] [] k k2
    by_cases hb : (b.length : Int) > 65536
    · exact w_SureNF [] b k k2 hb
    obtain ⟨j, hj⟩ : ∃ j : Nat, (j : Int) = 0 + min (max k 0) (((b.length : Nat) : Int) - 0) := ⟨(0 + min (max k 0) (((b.length : Nat) : Int) - 0)).toNat, by omega⟩
    exact w_SureNB [] b k k2 b0 (by omega) j (b.take j) hj (by omega) (by omega) rfl (by simp) (by simp)
  by_cases hb : (b.length : Int) > 65536 - a.length
  · obtain ⟨j, hj⟩ : ∃ j : Nat, (j : Int) = a.length + min (max k 0) (((a.length : Nat) : Int) - a.length) := ⟨(a.length + min (max k 0) (((a.length : Nat) : Int) - a.length)).toNat, by omega⟩
    have hja : j = a.length := by omega
    exact w_SureBF a b k k2 a0 (by omega) hb j (a.take j) hj (by omega) (by omega) rfl (by simp [hja]) (by simp [hja])
  · obtain ⟨j, hj⟩ : ∃ j : Nat, (j : Int) = a.length + min (max k 0) (((a.length + b.length : Nat) : Int) - a.length) := ⟨(a.length + min (max k 0) (((a.length + b.length : Nat) : Int) - a.length)).toNat, by omega⟩
    exact w_SureBB a b k k2 a0 (by omega) (by omega) j ((a ++ b).take j) hj (by simp; omega) (by omega) rfl (by simp; omega) (by
      rw [List.take_take, show min a.length j = a.length by omega]; simp)

end Go.Proofs.Ytkcfmefleghnnaa

/-
  WALKS: the laws over field: alive, FieldNobody. (Printed by gen.py out of w_lfield.py.)
-/
import Derived.Test.YtplfajhaehkhnaaFIn
namespace Go.Proofs.Ytplfajhaehkhnaa
open Go
set_option maxRecDepth 20000
set_option linter.unusedVariables false
set_option linter.unusedSimpArgs false

theorem w_NumXA (n e : Int) : Spec Try.prog 28 [.ptr 0 0, .r (.int .i64 n)] (oN e false) (fun v h' => v = .tuple [] ∧ h' = oN e false) := by
  by_cases hn : n < 0 ∨ n > 1099511627776
  · exact w_NumXr n e hn
  · exact w_NumX n e hn
theorem w_Num0A (n : Int) : Pur Try.prog 28 [.r .nilp, .r (.int .i64 n)] (.tuple []) := by
  by_cases hn : n < 0 ∨ n > 1099511627776
  · exact w_Num0r n hn
  · exact w_Num0 n hn
theorem w_TextXA (t : List UInt8) (ht : t.length ≤ 140737488351232) (e : Int) : Spec Try.prog 29 [.ptr 0 0, .r (.str t)] (oN e false) (fun v h' => v = .tuple [] ∧ h' = oN e false) := by
  by_cases hn : t.length > 1024
  · exact w_TextXr t ht e hn
  · exact w_TextX t ht e hn
theorem w_Text0A (t : List UInt8) (ht : t.length ≤ 140737488351232) : Pur Try.prog 29 [.r .nilp, .r (.str t)] (.tuple []) := by
  by_cases hn : t.length > 1024
  · exact w_Text0r t ht hn
  · exact w_Text0 t ht hn

theorem w_alive06  : Pur Try.prog 14 [] (.r (.bool true)) := by
  refine spec_of_go (N := 19) Try.func14 rfl (by decide) rfl rfl ?_
  refine ag_seq ?_
  refine ag_reg ?_
  refine ar_pure tOk rfl rfl rfl trivial ?_
  refine ar_nil ?_
  refine ag_seq ?_
  refine ag_reg ?_
  refine ar_obj [] (w_NewO) rfl rfl (handed_of rfl rfl (by decide) trivial) rfl rfl rfl rfl ?_
  rintro _ _ ⟨rfl, rfl⟩
  refine ⟨_, _, rfl, ?_⟩
  refine ar_pure tOk rfl rfl rfl trivial ?_
  refine ar_nil ?_
  refine ag_ent (ent_weak (g' := [(1, .ptr 0 0)]) (h' := oN 0 true) [0] rfl rfl rfl rfl ?_ ?_ rfl) ?_
  · exact ⟨⟨rfl, rfl⟩, trivial⟩
  · exact ⟨⟨rfl, rfl, rfl⟩, trivial⟩
  refine ag_seq ?_
  refine ag_reg ?_
  refine ar_pure tOk rfl rfl rfl trivial ?_
  refine ar_obj [0] (w_NumWN 1 (by decide)) rfl rfl (handed_of rfl rfl (by decide) ⟨rfl, rfl, rfl, trivial⟩) rfl rfl rfl rfl ?_
  rintro _ _ ⟨rfl, rfl⟩
  refine ⟨_, _, rfl, ?_⟩
  refine ar_nil ?_
  refine ag_ent (ent_weak (g' := [(1, .ptr 0 0)]) (h' := oB (numL 6 1) 0 true) [0, 1] rfl rfl rfl rfl ?_ ?_ rfl) ?_
  · exact ⟨⟨rfl, rfl⟩, trivial⟩
  · exact ⟨⟨rfl, rfl, rfl⟩, ⟨rfl, rfl, rfl⟩, trivial⟩
  refine ag_seq ?_
  refine ag_reg ?_
  refine ar_pure tOk rfl rfl rfl trivial ?_
  refine ar_qd rfl (qop_objR [0, 1] (w_DoneB (numL 6 1) (by decide)) (by rintro _ _ ⟨rfl, rfl⟩; exact ⟨rfl, rfl⟩) rfl rfl (handed_of rfl rfl (by decide) ⟨rfl, rfl, rfl, rfl, rfl, rfl, trivial⟩) rfl rfl) rfl rfl rfl rfl ?_
  refine ar_pure tOk rfl rfl rfl trivial ?_
  refine ar_pure tOk rfl rfl rfl trivial ?_
  refine ar_pure tOk rfl rfl rfl trivial ?_
  refine ar_pure tOk rfl rfl rfl trivial ?_
  refine ar_pure tOk rfl rfl rfl trivial ?_
  refine ar_nil ?_
  refine ag_seq ?_
  refine ag_reg ?_
  refine ar_pure tOk rfl rfl rfl trivial ?_
  refine ar_pure tOk rfl rfl rfl trivial ?_
  refine ar_pure tOk rfl rfl rfl trivial ?_
  refine ar_pure tOk rfl rfl (by decide) trivial ?_
  refine ar_pure tOk rfl rfl (by decide) trivial ?_
  refine ar_pure tOk rfl rfl (by decide) trivial ?_
  refine ar_pure tOk rfl rfl rfl trivial ?_
  refine ar_pure tOk rfl rfl rfl trivial ?_
  refine ar_nil ?_
  refine ag_ret tOk Try.func14 rfl rfl (by simp) ?_
  exact eqB (by decide)

theorem w_FieldNobody (n : Int) (t : List UInt8) (ht : t.length ≤ 140737488351232) (x0 x1 x2 x3 : Int) (h0 : U64 x0) (h1 : U64 x1) (h2 : U64 x2) (h3 : U64 x3) : Pur Try.prog 5 [.r (.int .i64 n), .r (.str t), wA x0 x1 x2 x3] (.r (.bool true)) := by
  refine spec_of_go (N := 108) Try.func5 rfl (by decide) rfl rfl ?_
  refine ag_seq ?_
  refine ag_reg ?_
  refine ar_new tOk rfl rfl rfl trivial ?_
  refine ar_pure tOk rfl rfl rfl trivial ?_
  refine ar_nil ?_
  refine ag_seq ?_
  refine ag_reg ?_
  refine ar_pure tOk rfl rfl rfl trivial ?_
  refine ar_nil ?_
  refine ag_seq ?_
  refine ag_reg ?_
  refine ar_pure tOk rfl rfl rfl trivial ?_
  refine ar_nil ?_
  refine ag_seq ?_
  refine ag_reg ?_
  refine ar_pure tOk rfl rfl rfl trivial ?_
  refine ar_pure tOk rfl rfl rfl ?_ ?_
  · simp
  refine ar_new tOk rfl rfl rfl trivial ?_
  refine ar_new tOk rfl rfl rfl ?_ ?_
  · simp
  refine ar_pure tOk rfl rfl rfl trivial ?_
  refine ar_pure tOk rfl rfl rfl ?_ ?_
  · simp
  refine ar_new tOk rfl rfl rfl trivial ?_
  refine ar_new tOk rfl rfl rfl ?_ ?_
  · simp
  refine ar_pure tOk rfl rfl rfl trivial ?_
  refine ar_pure tOk rfl rfl rfl trivial ?_
  refine ar_nil ?_
  refine ag_seq ?_
  refine ag_seq ?_
  refine ag_reg ?_
  refine ar_pure tOk rfl rfl rfl trivial ?_
  refine ar_nil ?_
  refine ag_block ?_
  refine ag_unroll ?_
  refine ag_seq ?_
  refine ag_seq ?_
  refine ag_reg ?_
  refine ar_pure tOk rfl rfl rfl trivial ?_
  refine ar_pure tOk rfl rfl rfl trivial ?_
  refine ar_nil ?_
  refine ag_true rfl (by decide) ?_
  refine ag_skip ?_
  refine ag_seq ?_
  refine ag_block ?_
  refine ag_seq ?_
  refine ag_reg ?_
  refine ar_pure tOk rfl rfl rfl trivial ?_
  refine ar_pure tOk rfl rfl rfl trivial ?_
  refine ar_pure tOk rfl rfl rfl ?_ ?_
  · first | trivial | omega | (unfold inI64; omega) | (refine ⟨?_, ?_⟩ <;> first | trivial | rfl | omega | simp) | decide
  refine ar_load tOk rfl rfl rfl trivial ?_
  refine ar_pure tOk rfl rfl rfl trivial ?_
  refine ar_pur (w_Num0A n) rfl rfl rfl rfl rfl rfl rfl ?_
  refine ar_nil ?_
  refine ag_seq ?_
  refine ag_reg ?_
  refine ar_pure tOk rfl rfl rfl trivial ?_
  refine ar_pure tOk rfl rfl rfl trivial ?_
  refine ar_pure tOk rfl rfl rfl ?_ ?_
  · first | trivial | omega | (unfold inI64; omega) | (refine ⟨?_, ?_⟩ <;> first | trivial | rfl | omega | simp) | decide
  refine ar_load tOk rfl rfl rfl trivial ?_
  refine ar_pure tOk rfl rfl rfl trivial ?_
  refine ar_pur (w_Text0A t ht) rfl rfl rfl rfl rfl rfl rfl ?_
  refine ar_nil ?_
  refine ag_seq ?_
  refine ag_draw0 (by kernel_rfl) (by kernel_rfl) ?_
  refine aq_pure tOk rfl rfl rfl trivial ?_
  refine aq_pure tOk rfl rfl rfl trivial ?_
  refine aq_pure tOk rfl rfl rfl ?_ ?_
  · first | trivial | omega | (unfold inI64; omega) | (refine ⟨?_, ?_⟩ <;> first | trivial | rfl | omega | simp) | decide
  refine aq_load0 tOk rfl (by kernel_rfl) rfl rfl trivial ?_
  refine aq_load0 tOk rfl (by kernel_rfl) rfl rfl trivial ?_
  refine aq_pur (w_Wide0 x0 x1 x2 x3 h0 h1 h2 h3) rfl rfl rfl rfl rfl rfl rfl ?_
  refine aq_nil rfl ?_
  refine ag_seq ?_
  refine ag_reg ?_
  refine ar_pure tOk rfl rfl rfl trivial ?_
  refine ar_pure tOk rfl rfl rfl trivial ?_
  refine ar_pure tOk rfl rfl rfl ?_ ?_
  · first | trivial | omega | (unfold inI64; omega) | (refine ⟨?_, ?_⟩ <;> first | trivial | rfl | omega | simp) | decide
  refine ar_load tOk rfl rfl rfl trivial ?_
  refine ar_pur (w_Done0) rfl rfl rfl rfl rfl rfl rfl ?_
  refine ar_pure tOk rfl rfl rfl trivial ?_
  refine ar_pure tOk rfl rfl rfl trivial ?_
  refine ar_pure tOk rfl rfl rfl trivial ?_
  refine ar_pure tOk rfl rfl rfl trivial ?_
  refine ar_pure tOk rfl rfl rfl trivial ?_
  refine ar_nil ?_
  refine ag_seq ?_
  refine ag_reg ?_
  refine ar_pure tOk rfl rfl rfl trivial ?_
  refine ar_pure tOk rfl rfl rfl trivial ?_
  refine ar_pure tOk rfl rfl rfl ?_ ?_
  · first | trivial | omega | (unfold inI64; omega) | (refine ⟨?_, ?_⟩ <;> first | trivial | rfl | omega | simp) | decide
  refine ar_load tOk rfl rfl rfl trivial ?_
  refine ar_pur (w_Spoil0) rfl rfl rfl rfl rfl rfl rfl ?_
  refine ar_nil ?_
  refine ag_seq ?_
  refine ag_reg ?_
  refine ar_pure tOk rfl rfl rfl trivial ?_
  refine ar_pure tOk rfl rfl rfl trivial ?_
  refine ar_pure tOk rfl rfl rfl trivial ?_
  refine ar_pure tOk rfl rfl rfl trivial ?_
  refine ar_pure tOk rfl rfl (by decide) trivial ?_
  refine ar_pure tOk rfl rfl (by decide) trivial ?_
  refine ar_pure tOk rfl rfl rfl trivial ?_
  refine ar_pure tOk rfl rfl rfl trivial ?_
  refine ar_pure tOk rfl rfl (by decide) trivial ?_
  refine ar_pure tOk rfl rfl (by decide) trivial ?_
  refine ar_pure tOk rfl rfl (by decide) ?_ ?_
  · first | trivial | omega | (unfold inI64; omega) | (refine ⟨?_, ?_⟩ <;> first | trivial | rfl | omega | simp) | decide
  refine ar_load tOk rfl rfl (by decide) trivial ?_
  refine ar_pure tOk rfl rfl (by decide) trivial ?_
  refine ar_pur (w_INum0 n) rfl rfl rfl rfl rfl rfl (by decide) ?_
  refine ar_pure tOk rfl rfl (by decide) trivial ?_
  refine ar_pure tOk rfl rfl rfl trivial ?_
  refine ar_pure tOk rfl rfl rfl trivial ?_
  refine ar_pure tOk rfl rfl (by decide) trivial ?_
  refine ar_pure tOk rfl rfl (by decide) trivial ?_
  refine ar_pure tOk rfl rfl (by decide) ?_ ?_
  · first | trivial | omega | (unfold inI64; omega) | (refine ⟨?_, ?_⟩ <;> first | trivial | rfl | omega | simp) | decide
  refine ar_load tOk rfl rfl (by decide) trivial ?_
  refine ar_pure tOk rfl rfl (by decide) trivial ?_
  refine ar_pur (w_IText0 n) rfl rfl rfl rfl rfl rfl (by decide) ?_
  refine ar_pure tOk rfl rfl (by decide) trivial ?_
  refine ar_pure tOk rfl rfl rfl trivial ?_
  refine ar_pure tOk rfl rfl rfl trivial ?_
  refine ar_pure tOk rfl rfl (by decide) trivial ?_
  refine ar_pure tOk rfl rfl (by decide) trivial ?_
  refine ar_pure tOk rfl rfl (by decide) ?_ ?_
  · first | trivial | omega | (unfold inI64; omega) | (refine ⟨?_, ?_⟩ <;> first | trivial | rfl | omega | simp) | decide
  refine ar_load tOk rfl rfl (by decide) trivial ?_
  refine ar_pur (w_IWide0) rfl rfl rfl rfl rfl rfl (by decide) ?_
  refine ar_pure tOk rfl rfl (by decide) ?_ ?_
  · simp
  refine ar_pure tOk rfl rfl (by decide) trivial ?_
  refine ar_pure tOk rfl rfl rfl trivial ?_
  refine ar_pure tOk rfl rfl rfl trivial ?_
  refine ar_pure tOk rfl rfl (by decide) trivial ?_
  refine ar_pure tOk rfl rfl (by decide) trivial ?_
  refine ar_pure tOk rfl rfl (by decide) ?_ ?_
  · first | trivial | omega | (unfold inI64; omega) | (refine ⟨?_, ?_⟩ <;> first | trivial | rfl | omega | simp) | decide
  refine ar_load tOk rfl rfl (by decide) trivial ?_
  refine ar_pur (w_Left0) rfl rfl rfl rfl rfl rfl (by decide) ?_
  refine ar_pure tOk rfl rfl (by decide) trivial ?_
  refine ar_pure tOk rfl rfl rfl trivial ?_
  refine ar_pure tOk rfl rfl rfl trivial ?_
  refine ar_pure tOk rfl rfl (by decide) trivial ?_
  refine ar_pure tOk rfl rfl (by decide) trivial ?_
  refine ar_pure tOk rfl rfl (by decide) ?_ ?_
  · first | trivial | omega | (unfold inI64; omega) | (refine ⟨?_, ?_⟩ <;> first | trivial | rfl | omega | simp) | decide
  refine ar_load tOk rfl rfl (by decide) trivial ?_
  refine ar_pur (w_Err0) rfl rfl rfl rfl rfl rfl (by decide) ?_
  refine ar_pure tOk rfl rfl (by decide) trivial ?_
  refine ar_pure tOk rfl rfl rfl trivial ?_
  refine ar_nil ?_
  refine ag_false rfl (by decide) ?_
  refine ag_skip ?_
  refine ag_inBlock ?_
  refine ag_reg ?_
  refine ar_pure tOk rfl rfl rfl trivial ?_
  refine ar_pure tOk rfl rfl rfl ?_ ?_
  · first | trivial | omega | (unfold inI64; omega) | (refine ⟨?_, ?_⟩ <;> first | trivial | rfl | omega | simp) | decide
  refine ar_pure tOk rfl rfl rfl trivial ?_
  refine ar_nil ?_
  refine ag_again ?_
  refine ag_seq ?_
  refine ag_seq ?_
  refine ag_reg ?_
  refine ar_pure tOk rfl rfl rfl trivial ?_
  refine ar_pure tOk rfl rfl rfl trivial ?_
  refine ar_nil ?_
  refine ag_true rfl (by decide) ?_
  refine ag_skip ?_
  refine ag_seq ?_
  refine ag_block ?_
  refine ag_seq ?_
  refine ag_reg ?_
  refine ar_pure tOk rfl rfl rfl trivial ?_
  refine ar_pure tOk rfl rfl rfl trivial ?_
  refine ar_pure tOk rfl rfl rfl ?_ ?_
  · first | trivial | omega | (unfold inI64; omega) | (refine ⟨?_, ?_⟩ <;> first | trivial | rfl | omega | simp) | decide
  refine ar_load tOk rfl rfl rfl trivial ?_
  refine ar_pure tOk rfl rfl rfl trivial ?_
  refine ar_qd rfl (qop_objR [1] (w_NumXA n 0) (by rintro _ _ ⟨rfl, rfl⟩; exact ⟨rfl, rfl⟩) rfl rfl (handed_of rfl rfl (by decide) ⟨rfl, rfl, rfl, trivial⟩) rfl rfl) rfl rfl rfl rfl ?_
  refine ar_nil ?_
  refine ag_seq ?_
  refine ag_reg ?_
  refine ar_pure tOk rfl rfl rfl trivial ?_
  refine ar_pure tOk rfl rfl rfl trivial ?_
  refine ar_pure tOk rfl rfl rfl ?_ ?_
  · first | trivial | omega | (unfold inI64; omega) | (refine ⟨?_, ?_⟩ <;> first | trivial | rfl | omega | simp) | decide
  refine ar_load tOk rfl rfl rfl trivial ?_
  refine ar_pure tOk rfl rfl rfl trivial ?_
  refine ar_qd rfl (qop_objR [1] (w_TextXA t ht 0) (by rintro _ _ ⟨rfl, rfl⟩; exact ⟨rfl, rfl⟩) rfl rfl (handed_of rfl rfl (by decide) ⟨rfl, rfl, rfl, trivial⟩) rfl rfl) rfl rfl rfl rfl ?_
  refine ar_nil ?_
  refine ag_seq ?_
  refine ag_draw0 (by kernel_rfl) (by kernel_rfl) ?_
  refine aq_pure tOk rfl rfl rfl trivial ?_
  refine aq_pure tOk rfl rfl rfl trivial ?_
  refine aq_pure tOk rfl rfl rfl ?_ ?_
  · first | trivial | omega | (unfold inI64; omega) | (refine ⟨?_, ?_⟩ <;> first | trivial | rfl | omega | simp) | decide
  refine aq_load0 tOk rfl (by kernel_rfl) rfl rfl trivial ?_
  refine aq_load0 tOk rfl (by kernel_rfl) rfl rfl trivial ?_
  refine aq_qd0 (qop_objR [1] (w_WideX x0 x1 x2 x3 h0 h1 h2 h3 0) (by rintro _ _ ⟨rfl, rfl⟩; exact ⟨rfl, rfl⟩) rfl rfl (handed_of rfl rfl (by decide) ⟨rfl, rfl, rfl, trivial⟩) rfl rfl) (by kernel_rfl) rfl rfl rfl rfl ?_
  refine aq_nil rfl ?_
  refine ag_seq ?_
  refine ag_reg ?_
  refine ar_pure tOk rfl rfl rfl trivial ?_
  refine ar_pure tOk rfl rfl rfl trivial ?_
  refine ar_pure tOk rfl rfl rfl ?_ ?_
  · first | trivial | omega | (unfold inI64; omega) | (refine ⟨?_, ?_⟩ <;> first | trivial | rfl | omega | simp) | decide
  refine ar_load tOk rfl rfl rfl trivial ?_
  refine ar_qd rfl (qop_objR [1] (w_DoneX 0) (by rintro _ _ ⟨rfl, rfl⟩; exact ⟨rfl, rfl⟩) rfl rfl (handed_of rfl rfl (by decide) ⟨rfl, rfl, rfl, trivial⟩) rfl rfl) rfl rfl rfl rfl ?_
  refine ar_pure tOk rfl rfl rfl trivial ?_
  refine ar_pure tOk rfl rfl rfl trivial ?_
  refine ar_pure tOk rfl rfl rfl trivial ?_
  refine ar_pure tOk rfl rfl rfl trivial ?_
  refine ar_pure tOk rfl rfl rfl trivial ?_
  refine ar_nil ?_
  refine ag_seq ?_
  refine ag_reg ?_
  refine ar_pure tOk rfl rfl rfl trivial ?_
  refine ar_pure tOk rfl rfl rfl trivial ?_
  refine ar_pure tOk rfl rfl rfl ?_ ?_
  · first | trivial | omega | (unfold inI64; omega) | (refine ⟨?_, ?_⟩ <;> first | trivial | rfl | omega | simp) | decide
  refine ar_load tOk rfl rfl rfl trivial ?_
  refine ar_qd rfl (qop_objR [3] (w_SpoilX) (by rintro _ _ ⟨rfl, rfl⟩; exact ⟨rfl, rfl⟩) rfl rfl (handed_of rfl rfl (by decide) ⟨rfl, rfl, rfl, trivial⟩) rfl rfl) rfl rfl rfl rfl ?_
  refine ar_nil ?_
  refine ag_seq ?_
  refine ag_reg ?_
  refine ar_pure tOk rfl rfl rfl trivial ?_
  refine ar_pure tOk rfl rfl rfl trivial ?_
  refine ar_pure tOk rfl rfl rfl trivial ?_
  refine ar_pure tOk rfl rfl rfl trivial ?_
  refine ar_pure tOk rfl rfl (by decide) trivial ?_
  refine ar_pure tOk rfl rfl (by decide) trivial ?_
  refine ar_pure tOk rfl rfl rfl trivial ?_
  refine ar_pure tOk rfl rfl rfl trivial ?_
  refine ar_pure tOk rfl rfl (by decide) trivial ?_
  refine ar_pure tOk rfl rfl (by decide) trivial ?_
  refine ar_pure tOk rfl rfl (by decide) ?_ ?_
  · first | trivial | omega | (unfold inI64; omega) | (refine ⟨?_, ?_⟩ <;> first | trivial | rfl | omega | simp) | decide
  refine ar_load tOk rfl rfl (by decide) trivial ?_
  refine ar_pure tOk rfl rfl (by decide) trivial ?_
  refine ar_qd rfl (qop_objR [3] (w_INumX n) (by rintro _ _ ⟨rfl, rfl⟩; exact ⟨rfl, rfl⟩) rfl rfl (handed_of rfl rfl (by decide) ⟨rfl, rfl, rfl, trivial⟩) rfl rfl) rfl (by decide) rfl rfl ?_
  refine ar_pure tOk rfl rfl (by decide) trivial ?_
  refine ar_pure tOk rfl rfl rfl trivial ?_
  refine ar_pure tOk rfl rfl rfl trivial ?_
  refine ar_pure tOk rfl rfl (by decide) trivial ?_
  refine ar_pure tOk rfl rfl (by decide) trivial ?_
  refine ar_pure tOk rfl rfl (by decide) ?_ ?_
  · first | trivial | omega | (unfold inI64; omega) | (refine ⟨?_, ?_⟩ <;> first | trivial | rfl | omega | simp) | decide
  refine ar_load tOk rfl rfl (by decide) trivial ?_
  refine ar_pure tOk rfl rfl (by decide) trivial ?_
  refine ar_qd rfl (qop_objR [3] (w_ITextX n) (by rintro _ _ ⟨rfl, rfl⟩; exact ⟨rfl, rfl⟩) rfl rfl (handed_of rfl rfl (by decide) ⟨rfl, rfl, rfl, trivial⟩) rfl rfl) rfl (by decide) rfl rfl ?_
  refine ar_pure tOk rfl rfl (by decide) trivial ?_
  refine ar_pure tOk rfl rfl rfl trivial ?_
  refine ar_pure tOk rfl rfl rfl trivial ?_
  refine ar_pure tOk rfl rfl (by decide) trivial ?_
  refine ar_pure tOk rfl rfl (by decide) trivial ?_
  refine ar_pure tOk rfl rfl (by decide) ?_ ?_
  · first | trivial | omega | (unfold inI64; omega) | (refine ⟨?_, ?_⟩ <;> first | trivial | rfl | omega | simp) | decide
  refine ar_load tOk rfl rfl (by decide) trivial ?_
  refine ar_qd rfl (qop_objR [3] (w_IWideX) (by rintro _ _ ⟨rfl, rfl⟩; exact ⟨rfl, rfl⟩) rfl rfl (handed_of rfl rfl (by decide) ⟨rfl, rfl, rfl, trivial⟩) rfl rfl) rfl (by decide) rfl rfl ?_
  refine ar_pure tOk rfl rfl (by decide) ?_ ?_
  · simp
  refine ar_pure tOk rfl rfl (by decide) trivial ?_
  refine ar_pure tOk rfl rfl rfl trivial ?_
  refine ar_pure tOk rfl rfl rfl trivial ?_
  refine ar_pure tOk rfl rfl (by decide) trivial ?_
  refine ar_pure tOk rfl rfl (by decide) trivial ?_
  refine ar_pure tOk rfl rfl (by decide) ?_ ?_
  · first | trivial | omega | (unfold inI64; omega) | (refine ⟨?_, ?_⟩ <;> first | trivial | rfl | omega | simp) | decide
  refine ar_load tOk rfl rfl (by decide) trivial ?_
  refine ar_qd rfl (qop_objR [3] (w_LeftX) (by rintro _ _ ⟨rfl, rfl⟩; exact ⟨rfl, rfl⟩) rfl rfl (handed_of rfl rfl (by decide) ⟨rfl, rfl, rfl, trivial⟩) rfl rfl) rfl (by decide) rfl rfl ?_
  refine ar_pure tOk rfl rfl (by decide) trivial ?_
  refine ar_pure tOk rfl rfl rfl trivial ?_
  refine ar_pure tOk rfl rfl rfl trivial ?_
  refine ar_pure tOk rfl rfl (by decide) trivial ?_
  refine ar_pure tOk rfl rfl (by decide) trivial ?_
  refine ar_pure tOk rfl rfl (by decide) ?_ ?_
  · first | trivial | omega | (unfold inI64; omega) | (refine ⟨?_, ?_⟩ <;> first | trivial | rfl | omega | simp) | decide
  refine ar_load tOk rfl rfl (by decide) trivial ?_
  refine ar_qd rfl (qop_objR [3] (w_ErrX) (by rintro _ _ ⟨rfl, rfl⟩; exact ⟨rfl, rfl⟩) rfl rfl (handed_of rfl rfl (by decide) ⟨rfl, rfl, rfl, trivial⟩) rfl rfl) rfl (by decide) rfl rfl ?_
  refine ar_pure tOk rfl rfl (by decide) trivial ?_
  refine ar_pure tOk rfl rfl rfl trivial ?_
  refine ar_nil ?_
  refine ag_false rfl (by decide) ?_
  refine ag_skip ?_
  refine ag_inBlock ?_
  refine ag_reg ?_
  refine ar_pure tOk rfl rfl rfl trivial ?_
  refine ar_pure tOk rfl rfl rfl ?_ ?_
  · first | trivial | omega | (unfold inI64; omega) | (refine ⟨?_, ?_⟩ <;> first | trivial | rfl | omega | simp) | decide
  refine ar_pure tOk rfl rfl rfl trivial ?_
  refine ar_nil ?_
  refine ag_again ?_
  refine ag_seq ?_
  refine ag_seq ?_
  refine ag_reg ?_
  refine ar_pure tOk rfl rfl rfl trivial ?_
  refine ar_pure tOk rfl rfl rfl trivial ?_
  refine ar_nil ?_
  refine ag_false rfl (by decide) ?_
  refine ag_exit rfl ?_
  refine ag_seq ?_
  refine ag_reg ?_
  refine ar_pur (w_alive06) rfl rfl rfl rfl rfl rfl rfl ?_
  refine ar_pure tOk rfl rfl rfl trivial ?_
  refine ar_nil ?_
  refine ag_ret tOk Try.func5 rfl rfl (by simp) ?_
  rfl

end Go.Proofs.Ytplfajhaehkhnaa

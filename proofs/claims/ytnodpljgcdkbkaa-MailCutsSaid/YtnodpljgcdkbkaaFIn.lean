/-
  WALKS: field.In. (Printed by gen.py out of w_fin.py.)
-/
import Derived.Test.YtnodpljgcdkbkaaFOut
import Derived.Test.YtnodpljgcdkbkaaMB
namespace Go.Proofs.Ytnodpljgcdkbkaa
open Go
set_option maxRecDepth 20000
set_option linter.unusedVariables false
set_option linter.unusedSimpArgs false
/-- Octets that are read; of what nobody made. -/
def iH (s : List UInt8) (e : Int) : Hp := ⟨1, [(0, some (.mixed [.r (.bs s), .r (.int .i64 e), .r (.bool true)]))], false⟩
theorem eqMxI {s s' : List UInt8} {e : Int} {m : Bool} (h : s = s') : some (Body.mixed [.r (.bs s), .r (.int .i64 e), .r (.bool m)]) = some (Body.mixed [.r (.bs s'), .r (.int .i64 e), .r (.bool m)]) := by rw [h]
theorem w_okT (s : List UInt8) : Spec Try.prog 101 [.ptr 0 0] (iH s 0) (fun v h' => v = .r (.bool true) ∧ h' = iH s 0) := by
  refine spec_of_go (N := 18) Try.func101 rfl (by decide) rfl rfl ?_
  refine zB ?_
  refine pA ?_
  refine zC ?_
  iterate 3 refine pA ?_
  iterate 3 refine ar_pure tOk rfl rfl (by simp) trivial ?_
  refine ar_load tOk rfl rfl (by simp) trivial ?_
  iterate 2 refine pA ?_
  iterate 3 refine ar_pure tOk rfl rfl (by simp) trivial ?_
  refine ar_load tOk rfl rfl (by simp) trivial ?_
  refine ar_pure tOk rfl rfl (by simp) trivial ?_
  iterate 2 refine pA ?_
  refine ar_nil ?_
  refine ag_ret tOk Try.func101 rfl rfl (by simp) ?_
  exact ⟨rfl, rfl⟩
theorem w_okF (s : List UInt8) (e : Int) (he : e ≠ 0) : Spec Try.prog 101 [.ptr 0 0] (iH s e) (fun v h' => v = .r (.bool false) ∧ h' = iH s e) := by
  refine spec_of_go (N := 18) Try.func101 rfl (by decide) rfl rfl ?_
  refine zB ?_
  refine pA ?_
  refine zC ?_
  iterate 3 refine pA ?_
  iterate 3 refine ar_pure tOk rfl rfl (by simp) trivial ?_
  refine ar_load tOk rfl rfl (by simp) trivial ?_
  iterate 2 refine pA ?_
  iterate 3 refine ar_pure tOk rfl rfl (by simp) trivial ?_
  refine ar_load tOk rfl rfl (by simp) trivial ?_
  refine ar_pure tOk rfl rfl (by simp) trivial ?_
  refine ar_ent (ent_reg 16 (.r (.bool false)) (by show AVal.r (.bool _) = _; exact eqB (by simp [he]))) ?_
  iterate 2 refine pA ?_
  refine ar_nil ?_
  refine ag_ret tOk Try.func101 rfl rfl (by simp) ?_
  exact ⟨rfl, rfl⟩
theorem w_fail (s : List UInt8) (e e2 : Int) : Spec Try.prog 102 [.ptr 0 0, .r (.int .i64 e2)] (iH s e) (fun v h' => v = .tuple [] ∧ h' = iH [] e2) := by
  refine spec_of_go (N := 11) Try.func102 rfl (by decide) rfl rfl ?_
  refine ag_reg ?_
  iterate 5 refine pA ?_
  refine ar_store tOk rfl rfl rfl trivial ?_
  iterate 2 refine pA ?_
  refine ar_store tOk rfl rfl rfl trivial ?_
  refine ar_nil ?_
  refine ag_ent (ent_blk 0 (.mixed [.r .nil, .r (.int .i64 e2), .r (.bool true)]) (.mixed [.r (.bs []), .r (.int .i64 e2), .r (.bool true)]) rfl (fun _ _ _ _ h => nil_bs h)) ?_
  refine ag_ent (ent_weak (g' := []) (h' := iH [] e2) [0] rfl rfl rfl rfl trivial ?_ rfl) ?_
  · exact ⟨⟨rfl, rfl, rfl⟩, trivial⟩
  refine ag_end tOk Try.func102 rfl rfl (by simp) ?_
  exact ⟨rfl, rfl⟩
theorem w_takeE (s : List UInt8) (e n : Int) (he : e ≠ 0) : Spec Try.prog 100 [.ptr 0 0, .r (.int .i64 n)] (iH s e) (fun v h' => v = .r (.bs []) ∧ h' = iH s e) := by
  refine spec_of_go (N := 35) Try.func100 rfl (by decide) rfl rfl ?_
  refine zB ?_
  refine pA ?_
  refine zA ?_
  refine zB ?_
  refine pA ?_
  refine ar_qd rfl (qop_objR [0] (w_okF s e he) (by rintro _ _ ⟨rfl, rfl⟩; exact ⟨rfl, rfl⟩) rfl rfl (handed_of rfl rfl (by decide) ⟨rfl, rfl, rfl, trivial⟩) rfl rfl) rfl rfl rfl rfl ?_
  refine pA ?_
  refine ar_nil ?_
  refine ag_true rfl (rfl) ?_
  refine zB ?_
  refine pA ?_
  refine ar_nil ?_
  refine ag_ent (ent_nil 4 (.bs []) rfl (.inl rfl)) ?_
  refine ag_ret tOk Try.func100 rfl rfl (by simp) ?_
  exact ⟨rfl, rfl⟩
theorem w_takeL (s : List UInt8) (n : Int) (h : n > s.length) : Spec Try.prog 100 [.ptr 0 0, .r (.int .i64 n)] (iH s 0) (fun v h' => v = .r (.bs []) ∧ h' = iH [] 16) := by
  refine spec_of_go (N := 35) Try.func100 rfl (by decide) rfl rfl ?_
  refine zB ?_
  refine pA ?_
  refine zA ?_
  refine zB ?_
  refine pA ?_
  refine ar_qd rfl (qop_objR [0] (w_okT s) (by rintro _ _ ⟨rfl, rfl⟩; exact ⟨rfl, rfl⟩) rfl rfl (handed_of rfl rfl (by decide) ⟨rfl, rfl, rfl, trivial⟩) rfl rfl) rfl rfl rfl rfl ?_
  refine pA ?_
  refine ar_nil ?_
  refine ag_false rfl (rfl) ?_
  refine ag_skip ?_
  refine ag_seq ?_
  refine zB ?_
  iterate 4 refine pA ?_
  refine pB ?_
  iterate 2 refine pA ?_
  refine ar_nil ?_
  refine ag_true rfl (by simp; omega) ?_
  refine zB ?_
  refine pA ?_
  refine ar_obj [0] (w_fail s 0 16) rfl rfl (handed_of rfl rfl (by decide) ⟨rfl, rfl, rfl, trivial⟩) rfl rfl rfl rfl ?_
  rintro _ _ ⟨rfl, rfl⟩
  refine ⟨_, _, rfl, ?_⟩
  refine zC ?_
  refine pA ?_
  refine ar_nil ?_
  refine ag_ent (ent_nil 4 (.bs []) rfl (.inl rfl)) ?_
  refine ag_ent (ent_weak (g' := [(4, .r (.bs []))]) (h' := iH [] 16) [0] rfl rfl rfl rfl ?_ ?_ rfl) ?_
  · exact ⟨⟨rfl, rfl⟩, trivial⟩
  · exact ⟨⟨rfl, rfl, rfl⟩, trivial⟩
  refine ag_ret tOk Try.func100 rfl rfl (by simp) ?_
  exact ⟨rfl, rfl⟩
theorem w_takeW (s : List UInt8) (j : Nat) (h : j ≤ s.length) : Spec Try.prog 100 [.ptr 0 0, .r (.int .i64 (j : Int))] (iH s 0) (fun v h' => v = .r (.bs (s.take j)) ∧ h' = iH (s.drop j) 0) := by
  refine spec_of_go (N := 35) Try.func100 rfl (by decide) rfl rfl ?_
  refine zB ?_
  refine pA ?_
  refine zA ?_
  refine zB ?_
  refine pA ?_
  refine ar_qd rfl (qop_objR [0] (w_okT s) (by rintro _ _ ⟨rfl, rfl⟩; exact ⟨rfl, rfl⟩) rfl rfl (handed_of rfl rfl (by decide) ⟨rfl, rfl, rfl, trivial⟩) rfl rfl) rfl rfl rfl rfl ?_
  refine pA ?_
  refine ar_nil ?_
  refine ag_false rfl (rfl) ?_
  refine ag_skip ?_
  refine ag_seq ?_
  refine zB ?_
  iterate 4 refine pA ?_
  refine pB ?_
  iterate 2 refine pA ?_
  refine ar_nil ?_
  refine ag_false rfl (by simp; omega) ?_
  refine ag_skip ?_
  refine zB ?_
  iterate 3 refine pA ?_
  refine pB ?_
  iterate 2 refine pA ?_
  refine ar_pure tOk rfl rfl rfl ?_ ?_
  · simp only [boundsOk]; omega
  refine pA ?_
  refine zC ?_
  iterate 4 refine pA ?_
  refine pB ?_
  refine pA ?_
  refine ar_pure tOk rfl rfl rfl ?_ ?_
  · simp only [boundsOk]; omega
  iterate 2 refine pA ?_
  refine ar_store tOk rfl rfl rfl trivial ?_
  refine zC ?_
  iterate 2 refine pA ?_
  refine ar_nil ?_
  refine ag_ent (ent_weak (g' := [(4, .r (.bs (s.take j)))]) (h' := iH (s.drop j) 0) [0] rfl rfl rfl rfl ?_ ?_ rfl) ?_
  · exact ⟨⟨rfl, eqBsv (by simp [cutL, mulz])⟩, trivial⟩
  · exact ⟨⟨rfl, rfl, eqMxI (by simp [cutL, mulz])⟩, trivial⟩
  refine ag_ret tOk Try.func100 rfl rfl (by simp) ?_
  exact ⟨rfl, rfl⟩
theorem w_INumE (s : List UInt8) (e m : Int) (he : e ≠ 0) : Spec Try.prog 50 [.ptr 0 0, .r (.int .i64 m)] (iH s e) (fun v h' => v = .r (.int .i64 0) ∧ h' = iH s e) := by
  refine spec_of_go (N := 20) Try.func50 rfl (by decide) rfl rfl ?_
  refine zB ?_
  refine pA ?_
  refine zC ?_
  refine pA ?_
  refine ar_qd rfl (qop_objR [0] (w_takeE s e 6 he) (by rintro _ _ ⟨rfl, rfl⟩; exact ⟨rfl, rfl⟩) rfl rfl (handed_of rfl rfl (by decide) ⟨rfl, rfl, rfl, trivial⟩) rfl rfl) rfl rfl rfl rfl ?_
  refine ar_pur (w_Int _) rfl rfl rfl rfl rfl rfl rfl ?_
  refine ar_ent (ent_reg 8 (.r (.int .i64 0)) rfl) ?_
  refine pA ?_
  refine zA ?_
  refine zB ?_
  refine pA ?_
  refine ar_qd rfl (qop_objR [0] (w_okF s e he) (by rintro _ _ ⟨rfl, rfl⟩; exact ⟨rfl, rfl⟩) rfl rfl (handed_of rfl rfl (by decide) ⟨rfl, rfl, rfl, trivial⟩) rfl rfl) rfl rfl rfl rfl ?_
  refine pA ?_
  iterate 4 refine ar_skip rfl rfl rfl ?_
  refine pA ?_
  refine ar_nil ?_
  refine ag_false rfl (rfl) ?_
  refine ag_skip ?_
  refine zB ?_
  iterate 2 refine pA ?_
  refine ar_nil ?_
  refine ag_ret tOk Try.func50 rfl rfl (by simp) ?_
  exact ⟨rfl, rfl⟩
theorem w_INumL (s : List UInt8) (m : Int) (h : s.length < 6) : Spec Try.prog 50 [.ptr 0 0, .r (.int .i64 m)] (iH s 0) (fun v h' => v = .r (.int .i64 0) ∧ h' = iH [] 16) := by
  refine spec_of_go (N := 20) Try.func50 rfl (by decide) rfl rfl ?_
  refine zB ?_
  refine pA ?_
  refine zC ?_
  refine pA ?_
  refine ar_obj [0] (w_takeL s 6 (by omega)) rfl rfl (handed_of rfl rfl (by decide) ⟨rfl, rfl, rfl, trivial⟩) rfl rfl rfl rfl ?_
  rintro _ _ ⟨rfl, rfl⟩
  refine ⟨_, _, rfl, ?_⟩
  refine ar_pur (w_Int _) rfl rfl rfl rfl rfl rfl rfl ?_
  refine ar_ent (ent_reg 8 (.r (.int .i64 0)) rfl) ?_
  refine pA ?_
  refine zA ?_
  refine zB ?_
  refine pA ?_
  refine ar_qd rfl (qop_objR [0] (w_okF [] 16 (by decide)) (by rintro _ _ ⟨rfl, rfl⟩; exact ⟨rfl, rfl⟩) rfl rfl (handed_of rfl rfl (by decide) ⟨rfl, rfl, rfl, trivial⟩) rfl rfl) rfl rfl rfl rfl ?_
  refine pA ?_
  iterate 4 refine ar_skip rfl rfl rfl ?_
  refine pA ?_
  refine ar_nil ?_
  refine ag_false rfl (rfl) ?_
  refine ag_skip ?_
  refine zB ?_
  iterate 2 refine pA ?_
  refine ar_nil ?_
  refine ag_ent (ent_weak (g' := [(4, .r (.int .i64 0))]) (h' := iH [] 16) [0] rfl rfl rfl rfl ?_ ?_ rfl) ?_
  · exact ⟨⟨rfl, rfl⟩, trivial⟩
  · exact ⟨⟨rfl, rfl, rfl⟩, trivial⟩
  refine ag_ret tOk Try.func50 rfl rfl (by simp) ?_
  exact ⟨rfl, rfl⟩
theorem w_INumR (s : List UInt8) (m : Int) (h : 6 ≤ s.length) (hr : intB (s.take 6) > min m 1099511627776) : Spec Try.prog 50 [.ptr 0 0, .r (.int .i64 m)] (iH s 0) (fun v h' => v = .r (.int .i64 0) ∧ h' = iH [] 4) := by
  refine spec_of_go (N := 20) Try.func50 rfl (by decide) rfl rfl ?_
  refine zB ?_
  refine pA ?_
  refine zC ?_
  refine pA ?_
  refine ar_obj [0] (w_takeW s 6 h) rfl rfl (handed_of rfl rfl (by decide) ⟨rfl, rfl, rfl, trivial⟩) rfl rfl rfl rfl ?_
  rintro _ _ ⟨rfl, rfl⟩
  refine ⟨_, _, rfl, ?_⟩
  refine ar_pur (w_Int _) rfl rfl rfl rfl rfl rfl rfl ?_
  refine pA ?_
  refine zA ?_
  refine zB ?_
  refine pA ?_
  refine ar_qd rfl (qop_objR [0] (w_okT (s.drop 6)) (by rintro _ _ ⟨rfl, rfl⟩; exact ⟨rfl, rfl⟩) rfl rfl (handed_of rfl rfl (by decide) ⟨rfl, rfl, rfl, trivial⟩) rfl rfl) rfl rfl rfl rfl ?_
  refine pA ?_
  iterate 4 refine ar_pure tOk rfl rfl (by simp) trivial ?_
  refine pA ?_
  refine ar_nil ?_
  refine ag_true rfl (by simp; omega) ?_
  refine zB ?_
  refine pA ?_
  refine ar_obj [0] (w_fail (s.drop 6) 0 4) rfl rfl (handed_of rfl rfl (by decide) ⟨rfl, rfl, rfl, trivial⟩) rfl rfl rfl rfl ?_
  rintro _ _ ⟨rfl, rfl⟩
  refine ⟨_, _, rfl, ?_⟩
  refine zC ?_
  refine pA ?_
  refine ar_nil ?_
  refine ag_ent (ent_weak (g' := [(4, .r (.int .i64 0))]) (h' := iH [] 4) [0] rfl rfl rfl rfl ?_ ?_ rfl) ?_
  · exact ⟨⟨rfl, rfl⟩, trivial⟩
  · exact ⟨⟨rfl, rfl, rfl⟩, trivial⟩
  refine ag_ret tOk Try.func50 rfl rfl (by simp) ?_
  exact ⟨rfl, rfl⟩
theorem w_INumW (s : List UInt8) (m : Int) (h : 6 ≤ s.length) (hr : ¬ intB (s.take 6) > min m 1099511627776) : Spec Try.prog 50 [.ptr 0 0, .r (.int .i64 m)] (iH s 0) (fun v h' => v = .r (.int .i64 (intB (s.take 6))) ∧ h' = iH (s.drop 6) 0) := by
  refine spec_of_go (N := 20) Try.func50 rfl (by decide) rfl rfl ?_
  refine zB ?_
  refine pA ?_
  refine zC ?_
  refine pA ?_
  refine ar_obj [0] (w_takeW s 6 h) rfl rfl (handed_of rfl rfl (by decide) ⟨rfl, rfl, rfl, trivial⟩) rfl rfl rfl rfl ?_
  rintro _ _ ⟨rfl, rfl⟩
  refine ⟨_, _, rfl, ?_⟩
  refine ar_pur (w_Int _) rfl rfl rfl rfl rfl rfl rfl ?_
  refine pA ?_
  refine zA ?_
  refine zB ?_
  refine pA ?_
  refine ar_qd rfl (qop_objR [0] (w_okT (s.drop 6)) (by rintro _ _ ⟨rfl, rfl⟩; exact ⟨rfl, rfl⟩) rfl rfl (handed_of rfl rfl (by decide) ⟨rfl, rfl, rfl, trivial⟩) rfl rfl) rfl rfl rfl rfl ?_
  refine pA ?_
  iterate 4 refine ar_pure tOk rfl rfl (by simp) trivial ?_
  refine pA ?_
  refine ar_nil ?_
  refine ag_false rfl (by simp; omega) ?_
  refine ag_skip ?_
  refine zB ?_
  iterate 2 refine pA ?_
  refine ar_nil ?_
  refine ag_ent (ent_weak (g' := [(4, .r (.int .i64 (intB (s.take 6))))]) (h' := iH (s.drop 6) 0) [0] rfl rfl rfl rfl ?_ ?_ rfl) ?_
  · exact ⟨⟨rfl, rfl⟩, trivial⟩
  · exact ⟨⟨rfl, rfl, rfl⟩, trivial⟩
  refine ag_ret tOk Try.func50 rfl rfl (by simp) ?_
  exact ⟨rfl, rfl⟩
theorem w_ITextE (s : List UInt8) (e m : Int) (he : e ≠ 0) : Spec Try.prog 53 [.ptr 0 0, .r (.int .i64 m)] (iH s e) (fun v h' => v = .r (.str []) ∧ h' = iH s e) := by
  refine spec_of_go (N := 23) Try.func53 rfl (by decide) rfl rfl ?_
  refine zB ?_
  refine pA ?_
  refine zC ?_
  refine pA ?_
  refine ar_qd rfl (qop_objR [0] (w_takeE s e 2 he) (by rintro _ _ ⟨rfl, rfl⟩; exact ⟨rfl, rfl⟩) rfl rfl (handed_of rfl rfl (by decide) ⟨rfl, rfl, rfl, trivial⟩) rfl rfl) rfl rfl rfl rfl ?_
  refine ar_pur (w_Int _) rfl rfl rfl rfl rfl rfl rfl ?_
  refine ar_ent (ent_reg 8 (.r (.int .i64 0)) rfl) ?_
  refine pA ?_
  refine zA ?_
  refine zB ?_
  refine pA ?_
  refine ar_qd rfl (qop_objR [0] (w_okF s e he) (by rintro _ _ ⟨rfl, rfl⟩; exact ⟨rfl, rfl⟩) rfl rfl (handed_of rfl rfl (by decide) ⟨rfl, rfl, rfl, trivial⟩) rfl rfl) rfl rfl rfl rfl ?_
  refine pA ?_
  iterate 4 refine ar_skip rfl rfl rfl ?_
  refine pA ?_
  refine ar_nil ?_
  refine ag_false rfl (rfl) ?_
  refine ag_skip ?_
  refine zB ?_
  iterate 2 refine pA ?_
  refine ar_qd rfl (qop_objR [0] (w_takeE s e 0 he) (by rintro _ _ ⟨rfl, rfl⟩; exact ⟨rfl, rfl⟩) rfl rfl (handed_of rfl rfl (by decide) ⟨rfl, rfl, rfl, trivial⟩) rfl rfl) rfl rfl rfl rfl ?_
  iterate 2 refine pA ?_
  refine ar_nil ?_
  refine ag_ret tOk Try.func53 rfl rfl (by simp) ?_
  exact ⟨rfl, rfl⟩
theorem w_ITextL (s : List UInt8) (m : Int) (h : s.length < 2) : Spec Try.prog 53 [.ptr 0 0, .r (.int .i64 m)] (iH s 0) (fun v h' => v = .r (.str []) ∧ h' = iH [] 16) := by
  refine spec_of_go (N := 23) Try.func53 rfl (by decide) rfl rfl ?_
  refine zB ?_
  refine pA ?_
  refine zC ?_
  refine pA ?_
  refine ar_obj [0] (w_takeL s 2 (by omega)) rfl rfl (handed_of rfl rfl (by decide) ⟨rfl, rfl, rfl, trivial⟩) rfl rfl rfl rfl ?_
  rintro _ _ ⟨rfl, rfl⟩
  refine ⟨_, _, rfl, ?_⟩
  refine ar_pur (w_Int _) rfl rfl rfl rfl rfl rfl rfl ?_
  refine ar_ent (ent_reg 8 (.r (.int .i64 0)) rfl) ?_
  refine pA ?_
  refine zA ?_
  refine zB ?_
  refine pA ?_
  refine ar_qd rfl (qop_objR [0] (w_okF [] 16 (by decide)) (by rintro _ _ ⟨rfl, rfl⟩; exact ⟨rfl, rfl⟩) rfl rfl (handed_of rfl rfl (by decide) ⟨rfl, rfl, rfl, trivial⟩) rfl rfl) rfl rfl rfl rfl ?_
  refine pA ?_
  iterate 4 refine ar_skip rfl rfl rfl ?_
  refine pA ?_
  refine ar_nil ?_
  refine ag_false rfl (rfl) ?_
  refine ag_skip ?_
  refine zB ?_
  iterate 2 refine pA ?_
  refine ar_qd rfl (qop_objR [0] (w_takeE [] 16 0 (by decide)) (by rintro _ _ ⟨rfl, rfl⟩; exact ⟨rfl, rfl⟩) rfl rfl (handed_of rfl rfl (by decide) ⟨rfl, rfl, rfl, trivial⟩) rfl rfl) rfl rfl rfl rfl ?_
  iterate 2 refine pA ?_
  refine ar_nil ?_
  refine ag_ent (ent_weak (g' := [(4, .r (.str []))]) (h' := iH [] 16) [0] rfl rfl rfl rfl ?_ ?_ rfl) ?_
  · exact ⟨⟨rfl, rfl⟩, trivial⟩
  · exact ⟨⟨rfl, rfl, rfl⟩, trivial⟩
  refine ag_ret tOk Try.func53 rfl rfl (by simp) ?_
  exact ⟨rfl, rfl⟩
theorem w_ITextR (s : List UInt8) (m : Int) (h : 2 ≤ s.length) (hr : intB (s.take 2) > min m 1024) : Spec Try.prog 53 [.ptr 0 0, .r (.int .i64 m)] (iH s 0) (fun v h' => v = .r (.str []) ∧ h' = iH [] 4) := by
  refine spec_of_go (N := 23) Try.func53 rfl (by decide) rfl rfl ?_
  refine zB ?_
  refine pA ?_
  refine zC ?_
  refine pA ?_
  refine ar_obj [0] (w_takeW s 2 h) rfl rfl (handed_of rfl rfl (by decide) ⟨rfl, rfl, rfl, trivial⟩) rfl rfl rfl rfl ?_
  rintro _ _ ⟨rfl, rfl⟩
  refine ⟨_, _, rfl, ?_⟩
  refine ar_pur (w_Int _) rfl rfl rfl rfl rfl rfl rfl ?_
  refine pA ?_
  refine zA ?_
  refine zB ?_
  refine pA ?_
  refine ar_qd rfl (qop_objR [0] (w_okT (s.drop 2)) (by rintro _ _ ⟨rfl, rfl⟩; exact ⟨rfl, rfl⟩) rfl rfl (handed_of rfl rfl (by decide) ⟨rfl, rfl, rfl, trivial⟩) rfl rfl) rfl rfl rfl rfl ?_
  refine pA ?_
  iterate 4 refine ar_pure tOk rfl rfl (by simp) trivial ?_
  refine pA ?_
  refine ar_nil ?_
  refine ag_true rfl (by simp; omega) ?_
  refine zB ?_
  refine pA ?_
  refine ar_obj [0] (w_fail (s.drop 2) 0 4) rfl rfl (handed_of rfl rfl (by decide) ⟨rfl, rfl, rfl, trivial⟩) rfl rfl rfl rfl ?_
  rintro _ _ ⟨rfl, rfl⟩
  refine ⟨_, _, rfl, ?_⟩
  refine zC ?_
  refine pA ?_
  refine ar_nil ?_
  refine ag_ent (ent_weak (g' := [(4, .r (.str []))]) (h' := iH [] 4) [0] rfl rfl rfl rfl ?_ ?_ rfl) ?_
  · exact ⟨⟨rfl, rfl⟩, trivial⟩
  · exact ⟨⟨rfl, rfl, rfl⟩, trivial⟩
  refine ag_ret tOk Try.func53 rfl rfl (by simp) ?_
  exact ⟨rfl, rfl⟩
theorem w_ITextM (s : List UInt8) (m : Int) (h : 2 ≤ s.length) (hr : ¬ intB (s.take 2) > min m 1024) (hl : intB (s.take 2) > ((s.drop 2).length : Nat)) : Spec Try.prog 53 [.ptr 0 0, .r (.int .i64 m)] (iH s 0) (fun v h' => v = .r (.str []) ∧ h' = iH [] 16) := by
  refine spec_of_go (N := 23) Try.func53 rfl (by decide) rfl rfl ?_
  refine zB ?_
  refine pA ?_
  refine zC ?_
  refine pA ?_
  refine ar_obj [0] (w_takeW s 2 h) rfl rfl (handed_of rfl rfl (by decide) ⟨rfl, rfl, rfl, trivial⟩) rfl rfl rfl rfl ?_
  rintro _ _ ⟨rfl, rfl⟩
  refine ⟨_, _, rfl, ?_⟩
  refine ar_pur (w_Int _) rfl rfl rfl rfl rfl rfl rfl ?_
  refine pA ?_
  refine zA ?_
  refine zB ?_
  refine pA ?_
  refine ar_qd rfl (qop_objR [0] (w_okT (s.drop 2)) (by rintro _ _ ⟨rfl, rfl⟩; exact ⟨rfl, rfl⟩) rfl rfl (handed_of rfl rfl (by decide) ⟨rfl, rfl, rfl, trivial⟩) rfl rfl) rfl rfl rfl rfl ?_
  refine pA ?_
  iterate 4 refine ar_pure tOk rfl rfl (by simp) trivial ?_
  refine pA ?_
  refine ar_nil ?_
  refine ag_false rfl (by simp; omega) ?_
  refine ag_skip ?_
  refine zB ?_
  iterate 2 refine pA ?_
  refine ar_obj [0] (w_takeL (s.drop 2) (intB (s.take 2)) hl) rfl rfl (handed_of rfl rfl (by decide) ⟨rfl, rfl, rfl, trivial⟩) rfl rfl rfl rfl ?_
  rintro _ _ ⟨rfl, rfl⟩
  refine ⟨_, _, rfl, ?_⟩
  iterate 2 refine pA ?_
  refine ar_nil ?_
  refine ag_ent (ent_weak (g' := [(4, .r (.str []))]) (h' := iH [] 16) [0] rfl rfl rfl rfl ?_ ?_ rfl) ?_
  · exact ⟨⟨rfl, rfl⟩, trivial⟩
  · exact ⟨⟨rfl, rfl, rfl⟩, trivial⟩
  refine ag_ret tOk Try.func53 rfl rfl (by simp) ?_
  exact ⟨rfl, rfl⟩
theorem w_ITextW (s : List UInt8) (m : Int) (j : Nat) (h : 2 ≤ s.length) (hj : intB (s.take 2) = (j : Int)) (hr : ¬ (j : Int) > min m 1024) (hl : j ≤ (s.drop 2).length) : Spec Try.prog 53 [.ptr 0 0, .r (.int .i64 m)] (iH s 0) (fun v h' => v = .r (.str ((s.drop 2).take j)) ∧ h' = iH ((s.drop 2).drop j) 0) := by
  refine spec_of_go (N := 23) Try.func53 rfl (by decide) rfl rfl ?_
  refine zB ?_
  refine pA ?_
  refine zC ?_
  refine pA ?_
  refine ar_obj [0] (w_takeW s 2 h) rfl rfl (handed_of rfl rfl (by decide) ⟨rfl, rfl, rfl, trivial⟩) rfl rfl rfl rfl ?_
  rintro _ _ ⟨rfl, rfl⟩
  refine ⟨_, _, rfl, ?_⟩
  refine ar_pur (w_Int _) rfl rfl rfl rfl rfl rfl rfl ?_
  refine ar_ent (ent_reg 8 (.r (.int .i64 (j : Int))) (by show AVal.r (.int _ _) = _; exact eqI hj)) ?_
  refine pA ?_
  refine zA ?_
  refine zB ?_
  refine pA ?_
  refine ar_qd rfl (qop_objR [0] (w_okT (s.drop 2)) (by rintro _ _ ⟨rfl, rfl⟩; exact ⟨rfl, rfl⟩) rfl rfl (handed_of rfl rfl (by decide) ⟨rfl, rfl, rfl, trivial⟩) rfl rfl) rfl rfl rfl rfl ?_
  refine pA ?_
  iterate 4 refine ar_pure tOk rfl rfl (by simp) trivial ?_
  refine pA ?_
  refine ar_nil ?_
  refine ag_false rfl (by simp; omega) ?_
  refine ag_skip ?_
  refine zB ?_
  iterate 2 refine pA ?_
  refine ar_obj [0] (w_takeW (s.drop 2) j hl) rfl rfl (handed_of rfl rfl (by decide) ⟨rfl, rfl, rfl, trivial⟩) rfl rfl rfl rfl ?_
  rintro _ _ ⟨rfl, rfl⟩
  refine ⟨_, _, rfl, ?_⟩
  iterate 2 refine pA ?_
  refine ar_nil ?_
  refine ag_ent (ent_weak (g' := [(4, .r (.str ((s.drop 2).take j)))]) (h' := iH ((s.drop 2).drop j) 0) [0] rfl rfl rfl rfl ?_ ?_ rfl) ?_
  · exact ⟨⟨rfl, rfl⟩, trivial⟩
  · exact ⟨⟨rfl, rfl, rfl⟩, trivial⟩
  refine ag_ret tOk Try.func53 rfl rfl (by simp) ?_
  exact ⟨rfl, rfl⟩
theorem w_SpoilE (s : List UInt8) (e : Int) (he : e ≠ 0) : Spec Try.prog 103 [.ptr 0 0] (iH s e) (fun v h' => v = .tuple [] ∧ h' = iH s e) := by
  refine spec_of_go (N := 6) Try.func103 rfl (by decide) rfl rfl ?_
  refine zB ?_
  refine pA ?_
  refine ar_qd rfl (qop_objR [0] (w_okF s e he) (by rintro _ _ ⟨rfl, rfl⟩; exact ⟨rfl, rfl⟩) rfl rfl (handed_of rfl rfl (by decide) ⟨rfl, rfl, rfl, trivial⟩) rfl rfl) rfl rfl rfl rfl ?_
  refine ar_nil ?_
  refine ag_false rfl (rfl) ?_
  refine ag_skip ?_
  refine ag_end tOk Try.func103 rfl rfl (by simp) ?_
  exact ⟨rfl, rfl⟩
theorem w_SpoilW (s : List UInt8) : Spec Try.prog 103 [.ptr 0 0] (iH s 0) (fun v h' => v = .tuple [] ∧ h' = iH [] 16) := by
  refine spec_of_go (N := 6) Try.func103 rfl (by decide) rfl rfl ?_
  refine zB ?_
  refine pA ?_
  refine ar_qd rfl (qop_objR [0] (w_okT s) (by rintro _ _ ⟨rfl, rfl⟩; exact ⟨rfl, rfl⟩) rfl rfl (handed_of rfl rfl (by decide) ⟨rfl, rfl, rfl, trivial⟩) rfl rfl) rfl rfl rfl rfl ?_
  refine ar_nil ?_
  refine ag_true rfl (rfl) ?_
  refine ag_reg ?_
  refine pA ?_
  refine ar_obj [0] (w_fail s 0 16) rfl rfl (handed_of rfl rfl (by decide) ⟨rfl, rfl, rfl, trivial⟩) rfl rfl rfl rfl ?_
  rintro _ _ ⟨rfl, rfl⟩
  refine ⟨_, _, rfl, ?_⟩
  refine ar_nil ?_
  refine ag_ent (ent_weak (g' := []) (h' := iH [] 16) [0] rfl rfl rfl rfl trivial ?_ rfl) ?_
  · exact ⟨⟨rfl, rfl, rfl⟩, trivial⟩
  refine ag_end tOk Try.func103 rfl rfl (by simp) ?_
  exact ⟨rfl, rfl⟩
theorem w_Left (s : List UInt8) (e : Int) : Spec Try.prog 57 [.ptr 0 0] (iH s e) (fun v h' => v = .r (.int .i64 ((s.length : Nat) : Int)) ∧ h' = iH s e) := by
  refine spec_of_go (N := 17) Try.func57 rfl (by decide) rfl rfl ?_
  refine zB ?_
  refine pA ?_
  refine zA ?_
  refine zB ?_
  iterate 3 refine pA ?_
  iterate 3 refine ar_pure tOk rfl rfl (by simp) trivial ?_
  refine ar_load tOk rfl rfl (by simp) trivial ?_
  refine ar_pure tOk rfl rfl (by simp) trivial ?_
  refine pA ?_
  refine ar_nil ?_
  refine ag_false rfl (rfl) ?_
  refine ag_skip ?_
  refine zB ?_
  iterate 3 refine pA ?_
  refine pB ?_
  iterate 2 refine pA ?_
  refine ar_nil ?_
  refine ag_ret tOk Try.func57 rfl rfl (by simp) ?_
  exact ⟨rfl, rfl⟩
theorem w_Err (s : List UInt8) (e : Int) : Spec Try.prog 56 [.ptr 0 0] (iH s e) (fun v h' => v = .r (.int .i64 e) ∧ h' = iH s e) := by
  refine spec_of_go (N := 16) Try.func56 rfl (by decide) rfl rfl ?_
  refine zB ?_
  refine pA ?_
  refine zA ?_
  refine zB ?_
  iterate 3 refine pA ?_
  iterate 3 refine ar_pure tOk rfl rfl (by simp) trivial ?_
  refine ar_load tOk rfl rfl (by simp) trivial ?_
  refine ar_pure tOk rfl rfl (by simp) trivial ?_
  refine pA ?_
  refine ar_nil ?_
  refine ag_false rfl (rfl) ?_
  refine ag_skip ?_
  refine zB ?_
  iterate 3 refine pA ?_
  refine pB ?_
  refine pA ?_
  refine ar_nil ?_
  refine ag_ret tOk Try.func56 rfl rfl (by simp) ?_
  exact ⟨rfl, rfl⟩
theorem w_IWideE (s : List UInt8) (e : Int) (he : e ≠ 0) : Spec Try.prog 52 [.ptr 0 0] (iH s e) (fun v h' => v = wA 0 0 0 0 ∧ h' = iH s e) := by
  refine spec_of_go (N := 12) Try.func52 rfl (by decide) rfl rfl ?_
  refine zB ?_
  refine ar_new tOk rfl rfl rfl ?_ ?_
  · simp
  refine zC ?_
  refine pA ?_
  refine ar_qd rfl (qop_objR [0] (w_takeE s e 32 he) (by rintro _ _ ⟨rfl, rfl⟩; exact ⟨rfl, rfl⟩) rfl rfl (handed_of rfl rfl (by decide) ⟨rfl, rfl, rfl, trivial⟩) rfl rfl) rfl rfl rfl rfl ?_
  refine ar_pur (w_UnwideNo [] (by decide)) rfl rfl rfl rfl rfl rfl rfl ?_
  iterate 3 refine pA ?_
  refine ar_new tOk rfl rfl rfl ?_ ?_
  · simp
  refine ar_store tOk rfl rfl rfl trivial ?_
  refine pA ?_
  refine zC ?_
  refine pB ?_
  refine ar_store tOk rfl rfl rfl trivial ?_
  refine ar_nil ?_
  refine ag_retW (v := wA 0 0 0 0) tOk Try.func52 rfl rfl ⟨trivial, trivial⟩ (ent_weak (g' := [(0, wA 0 0 0 0)]) (h' := iH s e) [0] rfl rfl rfl rfl ?_ ?_ rfl) ⟨rfl, rfl⟩
  · exact ⟨⟨rfl, rfl⟩, trivial⟩
  · exact ⟨⟨rfl, rfl, rfl⟩, trivial⟩
theorem w_IWideL (s : List UInt8) (h : s.length < 32) : Spec Try.prog 52 [.ptr 0 0] (iH s 0) (fun v h' => v = wA 0 0 0 0 ∧ h' = iH [] 16) := by
  refine spec_of_go (N := 12) Try.func52 rfl (by decide) rfl rfl ?_
  refine zB ?_
  refine ar_new tOk rfl rfl rfl ?_ ?_
  · simp
  refine zC ?_
  refine pA ?_
  refine ar_obj [0] (w_takeL s 32 (by omega)) rfl rfl (handed_of rfl rfl (by decide) ⟨rfl, rfl, rfl, trivial⟩) rfl rfl rfl rfl ?_
  rintro _ _ ⟨rfl, rfl⟩
  refine ⟨_, _, rfl, ?_⟩
  refine ar_pur (w_UnwideNo [] (by decide)) rfl rfl rfl rfl rfl rfl rfl ?_
  iterate 3 refine pA ?_
  refine ar_new tOk rfl rfl rfl ?_ ?_
  · simp
  refine ar_store tOk rfl rfl rfl trivial ?_
  refine pA ?_
  refine zC ?_
  refine pB ?_
  refine ar_store tOk rfl rfl rfl trivial ?_
  refine ar_nil ?_
  refine ag_retW (v := wA 0 0 0 0) tOk Try.func52 rfl rfl ⟨trivial, trivial⟩ (ent_weak (g' := [(0, wA 0 0 0 0)]) (h' := iH [] 16) [0] rfl rfl rfl rfl ?_ ?_ rfl) ⟨rfl, rfl⟩
  · exact ⟨⟨rfl, rfl⟩, trivial⟩
  · exact ⟨⟨rfl, rfl, rfl⟩, trivial⟩
theorem w_IWideW (s : List UInt8) (h : 32 ≤ s.length) : Spec Try.prog 52 [.ptr 0 0] (iH s 0) (fun v h' => v = wA (fB (s.take 32) 24 8) (fB (s.take 32) 16 8) (fB (s.take 32) 8 8) (fB (s.take 32) 0 8) ∧ h' = iH (s.drop 32) 0) := by
  refine spec_of_go (N := 12) Try.func52 rfl (by decide) rfl rfl ?_
  refine zB ?_
  refine ar_new tOk rfl rfl rfl ?_ ?_
  · simp
  refine zC ?_
  refine pA ?_
  refine ar_obj [0] (w_takeW s 32 h) rfl rfl (handed_of rfl rfl (by decide) ⟨rfl, rfl, rfl, trivial⟩) rfl rfl rfl rfl ?_
  rintro _ _ ⟨rfl, rfl⟩
  refine ⟨_, _, rfl, ?_⟩
  refine ar_pur (w_Unwide (s.take 32) (by simp; omega)) rfl rfl rfl rfl rfl rfl rfl ?_
  iterate 3 refine pA ?_
  refine ar_new tOk rfl rfl rfl ?_ ?_
  · simp
  refine ar_store tOk rfl rfl rfl trivial ?_
  refine pA ?_
  refine zC ?_
  refine pB ?_
  refine ar_store tOk rfl rfl rfl trivial ?_
  refine ar_nil ?_
  refine ag_retW (v := wA (fB (s.take 32) 24 8) (fB (s.take 32) 16 8) (fB (s.take 32) 8 8) (fB (s.take 32) 0 8)) tOk Try.func52 rfl rfl ⟨trivial, trivial⟩ (ent_weak (g' := [(0, wA (fB (s.take 32) 24 8) (fB (s.take 32) 16 8) (fB (s.take 32) 8 8) (fB (s.take 32) 0 8))]) (h' := iH (s.drop 32) 0) [0] rfl rfl rfl rfl ?_ ?_ rfl) ⟨rfl, rfl⟩
  · exact ⟨⟨rfl, rfl⟩, trivial⟩
  · exact ⟨⟨rfl, rfl, rfl⟩, trivial⟩
theorem w_OpenL (b : List UInt8) (h : b.length > 8192) : Spec Try.prog 49 [.r (.bs b)] ⟨0, [], false⟩ (fun v h' => v = .ptr 0 0 ∧ h' = iH [] 5) := by
  refine spec_of_go (N := 13) Try.func49 rfl (by decide) rfl rfl ?_
  refine zB ?_
  refine pA ?_
  refine zA ?_
  refine zB ?_
  iterate 3 refine pA ?_
  refine ar_nil ?_
  refine ag_true rfl (by simp; omega) ?_
  refine zB ?_
  refine ar_pure tOk rfl rfl rfl ?_ ?_
  · simp
  refine ar_new tOk rfl rfl rfl trivial ?_
  refine pA ?_
  refine ar_nil ?_
  refine ag_ent (ent_blk 0 (.mixed [.r .nil, .r (.int .i64 5), .r (.bool true)]) (.mixed [.r (.bs []), .r (.int .i64 5), .r (.bool true)]) rfl (fun _ _ _ _ h => nil_bs h)) ?_
  refine ag_ent (ent_weak (g' := [(2, .ptr 0 0)]) (h' := iH [] 5) [0] rfl rfl rfl rfl ?_ ?_ rfl) ?_
  · exact ⟨⟨rfl, rfl⟩, trivial⟩
  · exact ⟨⟨rfl, rfl, rfl⟩, trivial⟩
  refine ag_ret tOk Try.func49 rfl rfl (by simp) ?_
  exact ⟨rfl, rfl⟩
theorem w_OpenW (b : List UInt8) (h : b.length ≤ 8192) : Spec Try.prog 49 [.r (.bs b)] ⟨0, [], false⟩ (fun v h' => v = .ptr 0 0 ∧ h' = iH b 0) := by
  refine spec_of_go (N := 13) Try.func49 rfl (by decide) rfl rfl ?_
  refine zB ?_
  refine pA ?_
  refine zA ?_
  refine zB ?_
  iterate 3 refine pA ?_
  refine ar_nil ?_
  refine ag_false rfl (by simp; omega) ?_
  refine ag_skip ?_
  refine zB ?_
  refine pA ?_
  refine ar_new tOk rfl rfl rfl ?_ ?_
  · simp
  refine ar_ent (ent_body 0 (.mixed [.r (.bs b)]) (.plain [.bs b]) rfl rfl) ?_
  refine ar_ent (ent_freeze 9 rfl rfl rfl trivial) ?_
  refine ar_ent (ent_reg 9 (roL [b]) rfl) ?_
  refine ar_pur (w_Cat [b] (by simp) (by simp; omega)) rfl rfl rfl rfl rfl rfl rfl ?_
  refine ar_ent (ent_reg 10 (.r (.bs b)) (by show AVal.r (.bs _) = _; exact eqBsv (by simp))) ?_
  refine ar_pure tOk rfl rfl rfl ?_ ?_
  · simp
  refine ar_new tOk rfl rfl rfl trivial ?_
  refine pA ?_
  refine ar_nil ?_
  refine ag_ent (ent_weak (g' := [(2, .ptr 0 0)]) (h' := iH b 0) [1] rfl rfl rfl rfl ?_ ?_ rfl) ?_
  · exact ⟨⟨rfl, rfl⟩, trivial⟩
  · exact ⟨⟨rfl, rfl, rfl⟩, trivial⟩
  refine ag_ret tOk Try.func49 rfl rfl (by simp) ?_
  exact ⟨rfl, rfl⟩
end Go.Proofs.Ytnodpljgcdkbkaa


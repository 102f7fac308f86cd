/-
  WALKS: disk. (Printed by gen.py out of w_disk.py.)
-/
import Derived.Test.YtopfpkmdkcjjlaaClone
namespace Go.Proofs.Ytopfpkmdkcjjlaa
open Go
set_option maxRecDepth 20000
set_option linter.unusedVariables false
set_option linter.unusedSimpArgs false

def dkC (bv : AVal) (su ro : Int) (m : Bool) : Body := .mixed [bv, .r (.int .i64 su), .r (.int .i64 ro), .r (.bool m)]
/-- A disk without octets; with some; with some in a new block. -/
def dN (su ro : Int) (m : Bool) : Hp := ⟨1, [(0, some (.mixed [.r .nil, .r (.int .i64 su), .r (.int .i64 ro), .r (.bool m)]))], false⟩
def dB (n : Nat) (s : List UInt8) (su ro : Int) (m : Bool) : Hp := ⟨2, [(0, some (.mixed [.sl 1 0 n 1, .r (.int .i64 su), .r (.int .i64 ro), .r (.bool m)])), (1, some (.bytes s))], false⟩
def dC (n : Nat) (s : List UInt8) (su ro : Int) (m : Bool) : Hp := ⟨3, [(0, some (.mixed [.sl 2 0 n 1, .r (.int .i64 su), .r (.int .i64 ro), .r (.bool m)])), (2, some (.bytes s))], false⟩
theorem eqMxN {a a' b b' : Int} {m : Bool} (h1 : a = a') (h2 : b = b') : some (Body.mixed [.r .nil, .r (.int .i64 a), .r (.int .i64 b), .r (.bool m)]) = some (Body.mixed [.r .nil, .r (.int .i64 a'), .r (.int .i64 b'), .r (.bool m)]) := by rw [h1, h2]
theorem eqMxB {β n n' : Nat} {a a' b b' : Int} {m : Bool} (h0 : n = n') (h1 : a = a') (h2 : b = b') : some (Body.mixed [.sl β 0 n 1, .r (.int .i64 a), .r (.int .i64 b), .r (.bool m)]) = some (Body.mixed [.sl β 0 n' 1, .r (.int .i64 a'), .r (.int .i64 b'), .r (.bool m)]) := by rw [h0, h1, h2]

theorem w_isN (su ro : Int) (m : Bool) : Spec Try.prog 62 [.ptr 0 0] (dN su ro m) (fun v h' => v = .r (.bool m) ∧ h' = dN su ro m) := by
  refine spec_of_go (N := 11) Try.func62 rfl (by decide) rfl rfl ?_
  refine zB ?_
  refine pA ?_
  refine zC ?_
  iterate 3 refine pA ?_
  iterate 3 refine ar_pure tOk rfl rfl (by simp) trivial ?_
  refine ar_load tOk rfl rfl (by simp) trivial ?_
  iterate 2 refine pA ?_
  refine ar_nil ?_
  refine ag_ret tOk Try.func62 rfl rfl (by simp) ?_
  exact ⟨rfl, rfl⟩

theorem w_isB (n : Nat) (s : List UInt8) (su ro : Int) (m : Bool) : Spec Try.prog 62 [.ptr 0 0] (dB n s su ro m) (fun v h' => v = .r (.bool m) ∧ h' = dB n s su ro m) := by
  refine spec_of_go (N := 11) Try.func62 rfl (by decide) rfl rfl ?_
  refine zB ?_
  refine pA ?_
  refine zC ?_
  iterate 3 refine pA ?_
  iterate 3 refine ar_pure tOk rfl rfl (by simp) trivial ?_
  refine ar_load tOk rfl rfl (by simp) trivial ?_
  iterate 2 refine pA ?_
  refine ar_nil ?_
  refine ag_ret tOk Try.func62 rfl rfl (by simp) ?_
  exact ⟨rfl, rfl⟩

theorem w_is0  : Pur Try.prog 62 [.r .nilp] (.r (.bool false)) := by
  refine spec_of_go (N := 11) Try.func62 rfl (by decide) rfl rfl ?_
  refine zB ?_
  refine pA ?_
  refine zC ?_
  iterate 3 refine pA ?_
  iterate 4 refine ar_skip rfl rfl rfl ?_
  iterate 2 refine pA ?_
  refine ar_nil ?_
  refine ag_ret tOk Try.func62 rfl rfl (by simp) ?_
  rfl

theorem w_FreshN (ro : Int) : Spec Try.prog 34 [.ptr 0 0] (dN 0 ro true) (fun v h' => v = .r (.int .i64 0) ∧ h' = dN 0 ro true) := by
  refine spec_of_go (N := 16) Try.func34 rfl (by decide) rfl rfl ?_
  refine zB ?_
  refine pA ?_
  refine zA ?_
  refine zB ?_
  refine pA ?_
  refine ar_qd rfl (qop_objR [0] (w_isN _ _ _) (by rintro _ _ ⟨rfl, rfl⟩; exact ⟨rfl, rfl⟩) rfl rfl (handed_of rfl rfl (by decide) ⟨rfl, rfl, rfl, trivial⟩) rfl rfl) rfl rfl rfl rfl ?_
  refine pA ?_
  refine ar_nil ?_
  refine ag_false rfl (rfl) ?_
  refine ag_skip ?_
  refine ag_seq ?_
  refine ag_draw0 (by kernel_rfl) (by kernel_rfl) ?_
  iterate 3 refine aq_pure tOk rfl rfl rfl trivial ?_
  refine aq_load0 tOk rfl (by kernel_rfl) rfl rfl trivial ?_
  iterate 4 refine aq_pure tOk rfl rfl rfl trivial ?_
  refine aq_load0 tOk rfl (by kernel_rfl) rfl rfl trivial ?_
  refine aq_pure tOk rfl rfl rfl ?_ ?_
  · first | trivial | omega | (unfold inI64; omega) | (refine ⟨?_, ?_⟩ <;> first | trivial | rfl | omega | simp) | decide
  refine aq_pure tOk rfl rfl rfl trivial ?_
  refine aq_nil rfl ?_
  refine ag_ret tOk Try.func34 rfl rfl (by simp) ?_
  exact ⟨rfl, rfl⟩

theorem w_FreshB (n : Nat) (s : List UInt8) (su ro : Int) (h0 : 0 ≤ su) (h1 : su ≤ n) (h2 : n ≤ 65536) : Spec Try.prog 34 [.ptr 0 0] (dB n s su ro true) (fun v h' => v = .r (.int .i64 ((n : Int) - su)) ∧ h' = dB n s su ro true) := by
  refine spec_of_go (N := 16) Try.func34 rfl (by decide) rfl rfl ?_
  refine zB ?_
  refine pA ?_
  refine zA ?_
  refine zB ?_
  refine pA ?_
  refine ar_qd rfl (qop_objR [0, 1] (w_isB _ _ _ _ _) (by rintro _ _ ⟨rfl, rfl⟩; exact ⟨rfl, rfl⟩) rfl rfl (handed_of rfl rfl (by decide) ⟨rfl, rfl, rfl, rfl, rfl, rfl, trivial⟩) rfl rfl) rfl rfl rfl rfl ?_
  refine pA ?_
  refine ar_nil ?_
  refine ag_false rfl (rfl) ?_
  refine ag_skip ?_
  refine ag_seq ?_
  refine ag_draw0 (by kernel_rfl) (by kernel_rfl) ?_
  iterate 3 refine aq_pure tOk rfl rfl rfl trivial ?_
  refine aq_load0 tOk rfl (by kernel_rfl) rfl rfl trivial ?_
  iterate 4 refine aq_pure tOk rfl rfl rfl trivial ?_
  refine aq_load0 tOk rfl (by kernel_rfl) rfl rfl trivial ?_
  refine aq_pure tOk rfl rfl rfl ?_ ?_
  · first | trivial | omega | (unfold inI64; omega) | (refine ⟨?_, ?_⟩ <;> first | trivial | rfl | omega | simp) | decide
  refine aq_pure tOk rfl rfl rfl trivial ?_
  refine aq_nil rfl ?_
  refine ag_ret tOk Try.func34 rfl rfl (by simp) ?_
  exact ⟨rfl, rfl⟩

theorem w_FreshX (su ro : Int) : Spec Try.prog 34 [.ptr 0 0] (dN su ro false) (fun v h' => v = .r (.int .i64 0) ∧ h' = dN su ro false) := by
  refine spec_of_go (N := 16) Try.func34 rfl (by decide) rfl rfl ?_
  refine zB ?_
  refine pA ?_
  refine zA ?_
  refine zB ?_
  refine pA ?_
  refine ar_qd rfl (qop_objR [0] (w_isN _ _ _) (by rintro _ _ ⟨rfl, rfl⟩; exact ⟨rfl, rfl⟩) rfl rfl (handed_of rfl rfl (by decide) ⟨rfl, rfl, rfl, trivial⟩) rfl rfl) rfl rfl rfl rfl ?_
  refine pA ?_
  refine ar_nil ?_
  refine ag_true rfl (rfl) ?_
  refine zB ?_
  refine pA ?_
  refine ar_nil ?_
  refine ag_ret tOk Try.func34 rfl rfl (by simp) ?_
  exact ⟨rfl, rfl⟩

theorem w_Fresh0  : Pur Try.prog 34 [.r .nilp] (.r (.int .i64 0)) := by
  refine spec_of_go (N := 16) Try.func34 rfl (by decide) rfl rfl ?_
  refine zB ?_
  refine pA ?_
  refine zA ?_
  refine zB ?_
  refine pA ?_
  refine ar_pur (w_is0) rfl rfl rfl rfl rfl rfl rfl ?_
  refine pA ?_
  refine ar_nil ?_
  refine ag_true rfl (rfl) ?_
  refine zB ?_
  refine pA ?_
  refine ar_nil ?_
  refine ag_ret tOk Try.func34 rfl rfl (by simp) ?_
  rfl

theorem w_New (r : Int) : Spec Try.prog 31 [.r (.int .i64 r)] ⟨0, [], false⟩ (fun v h' => v = .ptr 0 0 ∧ h' = dN 0 (min (max r 0) 65536) true) := by
  refine spec_of_go (N := 8) Try.func31 rfl (by decide) rfl rfl ?_
  refine zB ?_
  refine pA ?_
  refine zC ?_
  iterate 3 refine pA ?_
  refine ar_pure tOk rfl rfl rfl ?_ ?_
  · simp
  refine ar_new tOk rfl rfl rfl trivial ?_
  refine pA ?_
  refine ar_nil ?_
  refine ag_ret tOk Try.func31 rfl rfl (by simp) ?_
  exact ⟨rfl, rfl⟩

theorem w_OctetsN (su ro : Int) : Spec Try.prog 35 [.ptr 0 0] (dN su ro true) (fun v h' => v = .r (.bs []) ∧ h' = dN su ro true) := by
  refine spec_of_go (N := 11) Try.func35 rfl (by decide) rfl rfl ?_
  refine zB ?_
  refine pA ?_
  refine zA ?_
  refine zB ?_
  refine pA ?_
  refine ar_qd rfl (qop_objR [0] (w_isN _ _ _) (by rintro _ _ ⟨rfl, rfl⟩; exact ⟨rfl, rfl⟩) rfl rfl (handed_of rfl rfl (by decide) ⟨rfl, rfl, rfl, trivial⟩) rfl rfl) rfl rfl rfl rfl ?_
  refine pA ?_
  refine ar_nil ?_
  refine ag_false rfl (rfl) ?_
  refine ag_skip ?_
  refine zB ?_
  iterate 3 refine pA ?_
  refine pB ?_
  refine ar_pur (w_CloneN) rfl rfl rfl rfl rfl rfl rfl ?_
  refine pA ?_
  refine ar_nil ?_
  refine ag_ret tOk Try.func35 rfl rfl (by simp) ?_
  exact ⟨rfl, rfl⟩

theorem w_OctetsB (n : Nat) (s : List UInt8) (su ro : Int) (hn : n ≤ s.length) (h2 : n ≤ 65536) : Spec Try.prog 35 [.ptr 0 0] (dB n s su ro true) (fun v h' => v = .r (.bs (s.take n)) ∧ h' = dB n s su ro true) := by
  refine spec_of_go (N := 11) Try.func35 rfl (by decide) rfl rfl ?_
  refine zB ?_
  refine pA ?_
  refine zA ?_
  refine zB ?_
  refine pA ?_
  refine ar_qd rfl (qop_objR [0, 1] (w_isB _ _ _ _ _) (by rintro _ _ ⟨rfl, rfl⟩; exact ⟨rfl, rfl⟩) rfl rfl (handed_of rfl rfl (by decide) ⟨rfl, rfl, rfl, rfl, rfl, rfl, trivial⟩) rfl rfl) rfl rfl rfl rfl ?_
  refine pA ?_
  refine ar_nil ?_
  refine ag_false rfl (rfl) ?_
  refine ag_skip ?_
  refine zB ?_
  iterate 3 refine pA ?_
  refine pB ?_
  refine ar_qd rfl (qop_objR [1] (w_CloneS s n hn (by omega)) (by rintro _ _ ⟨rfl, rfl⟩; exact ⟨rfl, rfl⟩) rfl rfl (handed_of rfl rfl (by decide) ⟨rfl, rfl, rfl, trivial⟩) rfl rfl) rfl rfl rfl rfl ?_
  refine pA ?_
  refine ar_nil ?_
  refine ag_ret tOk Try.func35 rfl rfl (by simp) ?_
  exact ⟨rfl, rfl⟩

theorem w_OctetsX (su ro : Int) : Spec Try.prog 35 [.ptr 0 0] (dN su ro false) (fun v h' => v = .r (.bs []) ∧ h' = dN su ro false) := by
  refine spec_of_go (N := 11) Try.func35 rfl (by decide) rfl rfl ?_
  refine zB ?_
  refine pA ?_
  refine zA ?_
  refine zB ?_
  refine pA ?_
  refine ar_qd rfl (qop_objR [0] (w_isN _ _ _) (by rintro _ _ ⟨rfl, rfl⟩; exact ⟨rfl, rfl⟩) rfl rfl (handed_of rfl rfl (by decide) ⟨rfl, rfl, rfl, trivial⟩) rfl rfl) rfl rfl rfl rfl ?_
  refine pA ?_
  refine ar_nil ?_
  refine ag_true rfl (rfl) ?_
  refine zB ?_
  refine pA ?_
  refine ar_nil ?_
  refine ag_ent (ent_nil 2 (.bs []) rfl (.inl rfl)) ?_
  refine ag_ret tOk Try.func35 rfl rfl (by simp) ?_
  exact ⟨rfl, rfl⟩

theorem w_Octets0  : Pur Try.prog 35 [.r .nilp] (.r (.bs [])) := by
  refine spec_of_go (N := 11) Try.func35 rfl (by decide) rfl rfl ?_
  refine zB ?_
  refine pA ?_
  refine zA ?_
  refine zB ?_
  refine pA ?_
  refine ar_pur (w_is0) rfl rfl rfl rfl rfl rfl rfl ?_
  refine pA ?_
  refine ar_nil ?_
  refine ag_true rfl (rfl) ?_
  refine zB ?_
  refine pA ?_
  refine ar_nil ?_
  refine ag_ent (ent_nil 2 (.bs []) rfl (.inl rfl)) ?_
  refine ag_ret tOk Try.func35 rfl rfl (by simp) ?_
  rfl

theorem w_WriteFullN (b : List UInt8) (ro : Int) (h0 : 0 ≤ ro) (h3 : ro ≤ 65536) (h1 : (b.length : Int) > ro) : Spec Try.prog 60 [.ptr 0 0, .r (.bs b)] (dN 0 ro true) (fun v h' => v = .r (.int .i64 10) ∧ h' = dN 0 ro true) := by
  refine spec_of_go (N := 32) Try.func60 rfl (by decide) rfl rfl ?_
  refine zB ?_
  refine pA ?_
  refine zA ?_
  refine ag_block ?_
  refine zB ?_
  refine pA ?_
  refine ar_qd rfl (qop_objR [0] (w_isN _ _ _) (by rintro _ _ ⟨rfl, rfl⟩; exact ⟨rfl, rfl⟩) rfl rfl (handed_of rfl rfl (by decide) ⟨rfl, rfl, rfl, trivial⟩) rfl rfl) rfl rfl rfl rfl ?_
  iterate 2 refine pA ?_
  refine ar_nil ?_
  refine ag_false rfl (rfl) ?_
  refine ag_seq ?_
  refine ag_draw0 (by kernel_rfl) (by kernel_rfl) ?_
  iterate 5 refine aq_pure tOk rfl rfl rfl trivial ?_
  refine aq_load0 tOk rfl (by kernel_rfl) rfl rfl trivial ?_
  iterate 3 refine aq_pure tOk rfl rfl rfl trivial ?_
  refine aq_load0 tOk rfl (by kernel_rfl) rfl rfl trivial ?_
  refine aq_pure tOk rfl rfl rfl trivial ?_
  refine aq_pure tOk rfl rfl rfl ?_ ?_
  · first | trivial | omega | (unfold inI64; omega) | (refine ⟨?_, ?_⟩ <;> first | trivial | rfl | omega | simp) | decide
  iterate 2 refine aq_pure tOk rfl rfl rfl trivial ?_
  refine aq_nil rfl ?_
  refine ag_true rfl (by simp; omega) ?_
  refine zB ?_
  refine pA ?_
  refine ar_nil ?_
  refine ag_ret tOk Try.func60 rfl rfl (by simp) ?_
  exact ⟨rfl, rfl⟩

theorem w_WriteFullB (b : List UInt8) (n : Nat) (s : List UInt8) (su ro : Int) (h0 : 0 ≤ ro) (h3 : ro ≤ 65536) (h2 : n ≤ 65536) (h1 : (b.length : Int) > ro - n) : Spec Try.prog 60 [.ptr 0 0, .r (.bs b)] (dB n s su ro true) (fun v h' => v = .r (.int .i64 10) ∧ h' = dB n s su ro true) := by
  refine spec_of_go (N := 32) Try.func60 rfl (by decide) rfl rfl ?_
  refine zB ?_
  refine pA ?_
  refine zA ?_
  refine ag_block ?_
  refine zB ?_
  refine pA ?_
  refine ar_qd rfl (qop_objR [0, 1] (w_isB _ _ _ _ _) (by rintro _ _ ⟨rfl, rfl⟩; exact ⟨rfl, rfl⟩) rfl rfl (handed_of rfl rfl (by decide) ⟨rfl, rfl, rfl, rfl, rfl, rfl, trivial⟩) rfl rfl) rfl rfl rfl rfl ?_
  iterate 2 refine pA ?_
  refine ar_nil ?_
  refine ag_false rfl (rfl) ?_
  refine ag_seq ?_
  refine ag_draw0 (by kernel_rfl) (by kernel_rfl) ?_
  iterate 5 refine aq_pure tOk rfl rfl rfl trivial ?_
  refine aq_load0 tOk rfl (by kernel_rfl) rfl rfl trivial ?_
  iterate 3 refine aq_pure tOk rfl rfl rfl trivial ?_
  refine aq_load0 tOk rfl (by kernel_rfl) rfl rfl trivial ?_
  refine aq_pure tOk rfl rfl rfl trivial ?_
  refine aq_pure tOk rfl rfl rfl ?_ ?_
  · first | trivial | omega | (unfold inI64; omega) | (refine ⟨?_, ?_⟩ <;> first | trivial | rfl | omega | simp) | decide
  iterate 2 refine aq_pure tOk rfl rfl rfl trivial ?_
  refine aq_nil rfl ?_
  refine ag_true rfl (by simp; omega) ?_
  refine zB ?_
  refine pA ?_
  refine ar_nil ?_
  refine ag_ret tOk Try.func60 rfl rfl (by simp) ?_
  exact ⟨rfl, rfl⟩

theorem w_WriteN (b : List UInt8) (ro : Int) (h0 : 0 ≤ ro) (h3 : ro ≤ 65536) (hb : b ≠ []) (h1 : (b.length : Int) ≤ ro) : Spec Try.prog 60 [.ptr 0 0, .r (.bs b)] (dN 0 ro true) (fun v h' => v = .r (.int .i64 0) ∧ h' = dB b.length b 0 ro true) := by
  have hl : 0 < b.length := List.length_pos_iff.2 hb
  refine spec_of_go (N := 32) Try.func60 rfl (by decide) rfl rfl ?_
  refine zB ?_
  refine pA ?_
  refine zA ?_
  refine ag_block ?_
  refine zB ?_
  refine pA ?_
  refine ar_qd rfl (qop_objR [0] (w_isN _ _ _) (by rintro _ _ ⟨rfl, rfl⟩; exact ⟨rfl, rfl⟩) rfl rfl (handed_of rfl rfl (by decide) ⟨rfl, rfl, rfl, trivial⟩) rfl rfl) rfl rfl rfl rfl ?_
  iterate 2 refine pA ?_
  refine ar_nil ?_
  refine ag_false rfl (rfl) ?_
  refine ag_seq ?_
  refine ag_draw0 (by kernel_rfl) (by kernel_rfl) ?_
  iterate 5 refine aq_pure tOk rfl rfl rfl trivial ?_
  refine aq_load0 tOk rfl (by kernel_rfl) rfl rfl trivial ?_
  iterate 3 refine aq_pure tOk rfl rfl rfl trivial ?_
  refine aq_load0 tOk rfl (by kernel_rfl) rfl rfl trivial ?_
  refine aq_pure tOk rfl rfl rfl trivial ?_
  refine aq_pure tOk rfl rfl rfl ?_ ?_
  · first | trivial | omega | (unfold inI64; omega) | (refine ⟨?_, ?_⟩ <;> first | trivial | rfl | omega | simp) | decide
  iterate 2 refine aq_pure tOk rfl rfl rfl trivial ?_
  refine aq_nil rfl ?_
  refine ag_false rfl (by simp; omega) ?_
  refine ag_skip ?_
  refine ag_inBlock ?_
  refine zB ?_
  iterate 4 refine pA ?_
  refine pB ?_
  refine pA ?_
  refine ar_app tOk rfl rfl rfl ?_ ?_
  · refine ⟨⟨?_, ?_, ?_⟩, ⟨?_, ?_⟩, ⟨?_, ?_⟩, ?_⟩ <;> first | trivial | decide | omega | (simp; done) | (simp; omega)
  iterate 2 refine pA ?_
  refine ar_store tOk rfl rfl rfl trivial ?_
  refine zC ?_
  refine pA ?_
  refine ar_nil ?_
  refine ag_ent (ent_weak (g' := [(4, .r (.int .i64 0))]) (h' := dB b.length b 0 ro true) [0, 1] rfl rfl rfl rfl ?_ ?_ rfl) ?_
  · exact ⟨⟨rfl, rfl⟩, trivial⟩
  · exact ⟨⟨rfl, rfl, eqMxB (by simp) rfl rfl⟩, ⟨rfl, rfl, rfl⟩, trivial⟩
  refine ag_ret tOk Try.func60 rfl rfl (by simp) ?_
  exact ⟨rfl, rfl⟩

theorem w_WriteN0 (ro : Int) (h0 : 0 ≤ ro) (h3 : ro ≤ 65536) : Spec Try.prog 60 [.ptr 0 0, .r (.bs [])] (dN 0 ro true) (fun v h' => v = .r (.int .i64 0) ∧ h' = dN 0 ro true) := by
  refine spec_of_go (N := 32) Try.func60 rfl (by decide) rfl rfl ?_
  refine zB ?_
  refine pA ?_
  refine zA ?_
  refine ag_block ?_
  refine zB ?_
  refine pA ?_
  refine ar_qd rfl (qop_objR [0] (w_isN _ _ _) (by rintro _ _ ⟨rfl, rfl⟩; exact ⟨rfl, rfl⟩) rfl rfl (handed_of rfl rfl (by decide) ⟨rfl, rfl, rfl, trivial⟩) rfl rfl) rfl rfl rfl rfl ?_
  iterate 2 refine pA ?_
  refine ar_nil ?_
  refine ag_false rfl (rfl) ?_
  refine ag_seq ?_
  refine ag_draw0 (by kernel_rfl) (by kernel_rfl) ?_
  iterate 5 refine aq_pure tOk rfl rfl rfl trivial ?_
  refine aq_load0 tOk rfl (by kernel_rfl) rfl rfl trivial ?_
  iterate 3 refine aq_pure tOk rfl rfl rfl trivial ?_
  refine aq_load0 tOk rfl (by kernel_rfl) rfl rfl trivial ?_
  refine aq_pure tOk rfl rfl rfl trivial ?_
  refine aq_pure tOk rfl rfl rfl ?_ ?_
  · first | trivial | omega | (unfold inI64; omega) | (refine ⟨?_, ?_⟩ <;> first | trivial | rfl | omega | simp) | decide
  iterate 2 refine aq_pure tOk rfl rfl rfl trivial ?_
  refine aq_nil rfl ?_
  refine ag_false rfl (by simp; omega) ?_
  refine ag_skip ?_
  refine ag_inBlock ?_
  refine zB ?_
  iterate 4 refine pA ?_
  refine pB ?_
  refine pA ?_
  refine ar_qd rfl (qop_app0 tOk rfl ⟨⟨rfl, rfl⟩, by simp, rfl⟩) rfl rfl rfl rfl ?_
  iterate 2 refine pA ?_
  refine ar_store tOk rfl rfl rfl trivial ?_
  refine zC ?_
  refine pA ?_
  refine ar_nil ?_
  refine ag_ent (ent_weak (g' := [(4, .r (.int .i64 0))]) (h' := dN 0 ro true) [0] rfl rfl rfl rfl ?_ ?_ rfl) ?_
  · exact ⟨⟨rfl, rfl⟩, trivial⟩
  · exact ⟨⟨rfl, rfl, rfl⟩, trivial⟩
  refine ag_ret tOk Try.func60 rfl rfl (by simp) ?_
  exact ⟨rfl, rfl⟩

theorem w_WriteB (b : List UInt8) (n : Nat) (s : List UInt8) (su ro : Int) (h0 : 0 ≤ ro) (h3 : ro ≤ 65536) (hn : n ≤ s.length) (h2 : n ≤ 65536) (h1 : (b.length : Int) ≤ ro - n) : Spec Try.prog 60 [.ptr 0 0, .r (.bs b)] (dB n s su ro true) (fun v h' => v = .r (.int .i64 0) ∧ h' = dC (n + b.length) (s.take n ++ b) su ro true) := by
  refine spec_of_go (N := 32) Try.func60 rfl (by decide) rfl rfl ?_
  refine zB ?_
  refine pA ?_
  refine zA ?_
  refine ag_block ?_
  refine zB ?_
  refine pA ?_
  refine ar_qd rfl (qop_objR [0, 1] (w_isB _ _ _ _ _) (by rintro _ _ ⟨rfl, rfl⟩; exact ⟨rfl, rfl⟩) rfl rfl (handed_of rfl rfl (by decide) ⟨rfl, rfl, rfl, rfl, rfl, rfl, trivial⟩) rfl rfl) rfl rfl rfl rfl ?_
  iterate 2 refine pA ?_
  refine ar_nil ?_
  refine ag_false rfl (rfl) ?_
  refine ag_seq ?_
  refine ag_draw0 (by kernel_rfl) (by kernel_rfl) ?_
  iterate 5 refine aq_pure tOk rfl rfl rfl trivial ?_
  refine aq_load0 tOk rfl (by kernel_rfl) rfl rfl trivial ?_
  iterate 3 refine aq_pure tOk rfl rfl rfl trivial ?_
  refine aq_load0 tOk rfl (by kernel_rfl) rfl rfl trivial ?_
  refine aq_pure tOk rfl rfl rfl trivial ?_
  refine aq_pure tOk rfl rfl rfl ?_ ?_
  · first | trivial | omega | (unfold inI64; omega) | (refine ⟨?_, ?_⟩ <;> first | trivial | rfl | omega | simp) | decide
  iterate 2 refine aq_pure tOk rfl rfl rfl trivial ?_
  refine aq_nil rfl ?_
  refine ag_false rfl (by simp; omega) ?_
  refine ag_skip ?_
  refine ag_inBlock ?_
  refine zB ?_
  iterate 4 refine pA ?_
  refine pB ?_
  refine pA ?_
  refine ar_app tOk rfl rfl rfl ?_ ?_
  · refine ⟨⟨?_, ?_, ?_⟩, ⟨?_, ?_⟩, ⟨?_, ?_⟩, ?_⟩ <;> first | trivial | decide | omega | (simp; done) | (simp; omega)
  iterate 2 refine pA ?_
  refine ar_store tOk rfl rfl rfl trivial ?_
  refine zC ?_
  refine pA ?_
  refine ar_nil ?_
  refine ag_ent (ent_weak (g' := [(4, .r (.int .i64 0))]) (h' := dC (n + b.length) (s.take n ++ b) su ro true) [0, 1, 2] rfl rfl rfl rfl ?_ ?_ rfl) ?_
  · exact ⟨⟨rfl, rfl⟩, trivial⟩
  · exact ⟨⟨rfl, rfl, rfl⟩, ⟨rfl, rfl, eqBs (by simp [cutA_eq])⟩, trivial⟩
  refine ag_ret tOk Try.func60 rfl rfl (by simp) ?_
  exact ⟨rfl, rfl⟩

theorem w_WriteX (b : List UInt8) (su ro : Int) : Spec Try.prog 60 [.ptr 0 0, .r (.bs b)] (dN su ro false) (fun v h' => v = .r (.int .i64 9) ∧ h' = dN su ro false) := by
  refine spec_of_go (N := 32) Try.func60 rfl (by decide) rfl rfl ?_
  refine zB ?_
  refine pA ?_
  refine zA ?_
  refine ag_block ?_
  refine zB ?_
  refine pA ?_
  refine ar_qd rfl (qop_objR [0] (w_isN _ _ _) (by rintro _ _ ⟨rfl, rfl⟩; exact ⟨rfl, rfl⟩) rfl rfl (handed_of rfl rfl (by decide) ⟨rfl, rfl, rfl, trivial⟩) rfl rfl) rfl rfl rfl rfl ?_
  iterate 2 refine pA ?_
  refine ar_nil ?_
  refine ag_true rfl (rfl) ?_
  refine zB ?_
  refine pA ?_
  refine ar_nil ?_
  refine ag_ret tOk Try.func60 rfl rfl (by simp) ?_
  exact ⟨rfl, rfl⟩

theorem w_Write0 (b : List UInt8) : Pur Try.prog 60 [.r .nilp, .r (.bs b)] (.r (.int .i64 9)) := by
  refine spec_of_go (N := 32) Try.func60 rfl (by decide) rfl rfl ?_
  refine zB ?_
  refine pA ?_
  refine zA ?_
  refine ag_block ?_
  refine zB ?_
  refine pA ?_
  refine ar_pur (w_is0) rfl rfl rfl rfl rfl rfl rfl ?_
  iterate 2 refine pA ?_
  refine ar_nil ?_
  refine ag_true rfl (rfl) ?_
  refine zB ?_
  refine pA ?_
  refine ar_nil ?_
  refine ag_ret tOk Try.func60 rfl rfl (by simp) ?_
  rfl

theorem w_SyncN (ro : Int) : Spec Try.prog 36 [.ptr 0 0] (dN 0 ro true) (fun v h' => v = .r (.int .i64 0) ∧ h' = dN 0 ro true) := by
  refine spec_of_go (N := 17) Try.func36 rfl (by decide) rfl rfl ?_
  refine zB ?_
  refine pA ?_
  refine zC ?_
  refine pA ?_
  refine ar_qd rfl (qop_objR [0] (w_FreshN ro) (by rintro _ _ ⟨rfl, rfl⟩; exact ⟨rfl, rfl⟩) rfl rfl (handed_of rfl rfl (by decide) ⟨rfl, rfl, rfl, trivial⟩) rfl rfl) rfl rfl rfl rfl ?_
  refine pA ?_
  refine zA ?_
  refine zB ?_
  refine pA ?_
  refine ar_qd rfl (qop_objR [0] (w_isN _ _ _) (by rintro _ _ ⟨rfl, rfl⟩; exact ⟨rfl, rfl⟩) rfl rfl (handed_of rfl rfl (by decide) ⟨rfl, rfl, rfl, trivial⟩) rfl rfl) rfl rfl rfl rfl ?_
  refine ar_nil ?_
  refine ag_true rfl (rfl) ?_
  refine ag_reg ?_
  iterate 3 refine pA ?_
  refine pB ?_
  refine pA ?_
  refine ar_pure tOk rfl rfl rfl ?_ ?_
  · first | trivial | omega | (unfold inI64; omega) | (refine ⟨?_, ?_⟩ <;> first | trivial | rfl | omega | simp) | decide
  iterate 2 refine pA ?_
  refine ar_store tOk rfl rfl rfl trivial ?_
  refine zC ?_
  iterate 2 refine pA ?_
  refine ar_nil ?_
  refine ag_ent (ent_weak (g' := [(2, .r (.int .i64 0))]) (h' := dN 0 ro true) [0] rfl rfl rfl rfl ?_ ?_ rfl) ?_
  · exact ⟨⟨rfl, rfl⟩, trivial⟩
  · exact ⟨⟨rfl, rfl, rfl⟩, trivial⟩
  refine ag_ret tOk Try.func36 rfl rfl (by simp) ?_
  exact ⟨rfl, rfl⟩

theorem w_SyncB (n : Nat) (s : List UInt8) (su ro : Int) (h0 : 0 ≤ su) (h1 : su ≤ n) (h2 : n ≤ 65536) : Spec Try.prog 36 [.ptr 0 0] (dB n s su ro true) (fun v h' => v = .r (.int .i64 ((n : Int) - su)) ∧ h' = dB n s n ro true) := by
  refine spec_of_go (N := 17) Try.func36 rfl (by decide) rfl rfl ?_
  refine zB ?_
  refine pA ?_
  refine zC ?_
  refine pA ?_
  refine ar_qd rfl (qop_objR [0, 1] (w_FreshB n s su ro h0 h1 h2) (by rintro _ _ ⟨rfl, rfl⟩; exact ⟨rfl, rfl⟩) rfl rfl (handed_of rfl rfl (by decide) ⟨rfl, rfl, rfl, rfl, rfl, rfl, trivial⟩) rfl rfl) rfl rfl rfl rfl ?_
  refine pA ?_
  refine zA ?_
  refine zB ?_
  refine pA ?_
  refine ar_qd rfl (qop_objR [0, 1] (w_isB _ _ _ _ _) (by rintro _ _ ⟨rfl, rfl⟩; exact ⟨rfl, rfl⟩) rfl rfl (handed_of rfl rfl (by decide) ⟨rfl, rfl, rfl, rfl, rfl, rfl, trivial⟩) rfl rfl) rfl rfl rfl rfl ?_
  refine ar_nil ?_
  refine ag_true rfl (rfl) ?_
  refine ag_reg ?_
  iterate 3 refine pA ?_
  refine pB ?_
  refine pA ?_
  refine ar_pure tOk rfl rfl rfl ?_ ?_
  · first | trivial | omega | (unfold inI64; omega) | (refine ⟨?_, ?_⟩ <;> first | trivial | rfl | omega | simp) | decide
  iterate 2 refine pA ?_
  refine ar_store tOk rfl rfl rfl trivial ?_
  refine zC ?_
  iterate 2 refine pA ?_
  refine ar_nil ?_
  refine ag_ent (ent_weak (g' := [(2, .r (.int .i64 ((n : Int) - su)))]) (h' := dB n s n ro true) [0, 1] rfl rfl rfl rfl ?_ ?_ rfl) ?_
  · exact ⟨⟨rfl, rfl⟩, trivial⟩
  · exact ⟨⟨rfl, rfl, eqMxB rfl (by omega) rfl⟩, ⟨rfl, rfl, rfl⟩, trivial⟩
  refine ag_ret tOk Try.func36 rfl rfl (by simp) ?_
  exact ⟨rfl, rfl⟩

theorem w_SyncX (su ro : Int) : Spec Try.prog 36 [.ptr 0 0] (dN su ro false) (fun v h' => v = .r (.int .i64 0) ∧ h' = dN su ro false) := by
  refine spec_of_go (N := 17) Try.func36 rfl (by decide) rfl rfl ?_
  refine zB ?_
  refine pA ?_
  refine zC ?_
  refine pA ?_
  refine ar_qd rfl (qop_objR [0] (w_FreshX su ro) (by rintro _ _ ⟨rfl, rfl⟩; exact ⟨rfl, rfl⟩) rfl rfl (handed_of rfl rfl (by decide) ⟨rfl, rfl, rfl, trivial⟩) rfl rfl) rfl rfl rfl rfl ?_
  refine pA ?_
  refine zA ?_
  refine zB ?_
  refine pA ?_
  refine ar_qd rfl (qop_objR [0] (w_isN _ _ _) (by rintro _ _ ⟨rfl, rfl⟩; exact ⟨rfl, rfl⟩) rfl rfl (handed_of rfl rfl (by decide) ⟨rfl, rfl, rfl, trivial⟩) rfl rfl) rfl rfl rfl rfl ?_
  refine ar_nil ?_
  refine ag_false rfl (rfl) ?_
  refine ag_skip ?_
  refine zB ?_
  iterate 2 refine pA ?_
  refine ar_nil ?_
  refine ag_ret tOk Try.func36 rfl rfl (by simp) ?_
  exact ⟨rfl, rfl⟩

theorem w_Sync0  : Pur Try.prog 36 [.r .nilp] (.r (.int .i64 0)) := by
  refine spec_of_go (N := 17) Try.func36 rfl (by decide) rfl rfl ?_
  refine zB ?_
  refine pA ?_
  refine zC ?_
  refine pA ?_
  refine ar_pur (w_Fresh0) rfl rfl rfl rfl rfl rfl rfl ?_
  refine pA ?_
  refine zA ?_
  refine zB ?_
  refine pA ?_
  refine ar_pur (w_is0) rfl rfl rfl rfl rfl rfl rfl ?_
  refine ar_nil ?_
  refine ag_false rfl (rfl) ?_
  refine ag_skip ?_
  refine zB ?_
  iterate 2 refine pA ?_
  refine ar_nil ?_
  refine ag_ret tOk Try.func36 rfl rfl (by simp) ?_
  rfl

theorem w_FallN (k ro : Int) : Spec Try.prog 37 [.ptr 0 0, .r (.int .i64 k)] (dN 0 ro true) (fun v h' => v = .tuple [] ∧ h' = dN 0 ro true) := by
  refine spec_of_go (N := 34) Try.func37 rfl (by decide) rfl rfl ?_
  refine zB ?_
  refine pA ?_
  refine ar_qd rfl (qop_objR [0] (w_isN _ _ _) (by rintro _ _ ⟨rfl, rfl⟩; exact ⟨rfl, rfl⟩) rfl rfl (handed_of rfl rfl (by decide) ⟨rfl, rfl, rfl, trivial⟩) rfl rfl) rfl rfl rfl rfl ?_
  refine ar_nil ?_
  refine ag_true rfl (rfl) ?_
  refine ag_seq ?_
  apply ag_draw1 [] (by kernel_rfl) (by kernel_rfl)
  iterate 3 refine aq_pure tOk rfl rfl rfl trivial ?_
  refine aq_load0 tOk rfl (by kernel_rfl) rfl rfl trivial ?_
  iterate 3 refine aq_pure tOk rfl rfl rfl trivial ?_
  refine aq_qd0 (qop_objR [0] (w_FreshN ro) (by rintro _ _ ⟨rfl, rfl⟩; exact ⟨rfl, rfl⟩) rfl rfl (handed_of rfl rfl (by decide) ⟨rfl, rfl, rfl, trivial⟩) rfl rfl) (by kernel_rfl) rfl rfl rfl rfl ?_
  refine aq_pure tOk rfl rfl rfl trivial ?_
  refine aq_pure tOk rfl rfl rfl ?_ ?_
  · unfold inI64; omega
  iterate 2 refine aq_pure tOk rfl rfl rfl trivial ?_
  refine aq_store10 tOk rfl rfl rfl rfl trivial ?_
  refine aq_nil rfl ?_
  refine ag_ent (ent_weak (g' := [(0, .ptr 0 0)]) (h' := dN 0 ro true) [0] rfl rfl rfl rfl ?_ ?_ rfl) ?_
  · exact ⟨⟨rfl, rfl⟩, trivial⟩
  · exact ⟨⟨rfl, rfl, eqMxN (by omega) rfl⟩, trivial⟩
  apply ag_draw1 [] (by kernel_rfl) (by kernel_rfl)
  iterate 4 refine aq_pure tOk rfl rfl rfl trivial ?_
  refine aq_load0 tOk rfl (by kernel_rfl) rfl rfl trivial ?_
  iterate 3 refine aq_pure tOk rfl rfl rfl trivial ?_
  refine aq_load0 tOk rfl (by kernel_rfl) rfl rfl trivial ?_
  iterate 3 refine aq_pure tOk rfl rfl rfl trivial ?_
  refine aq_load0 tOk rfl (by kernel_rfl) rfl rfl trivial ?_
  refine aq_qd (fun _ => qop_slice0 tOk rfl) rfl rfl rfl rfl ?_
  iterate 2 refine aq_pure tOk rfl rfl rfl trivial ?_
  refine aq_store10 tOk rfl rfl rfl rfl trivial ?_
  refine aq_nil rfl ?_
  refine ag_ent (ent_weak (g' := [(0, .ptr 0 0)]) (h' := dN 0 ro true) [0] rfl rfl rfl rfl ?_ ?_ rfl) ?_
  · exact ⟨⟨rfl, rfl⟩, trivial⟩
  · exact ⟨⟨rfl, rfl, rfl⟩, trivial⟩
  refine ag_end tOk Try.func37 rfl rfl (by simp) ?_
  exact ⟨rfl, rfl⟩

theorem w_FallB (k : Int) (n : Nat) (s : List UInt8) (su ro : Int) (su' : Nat) (h0 : 0 ≤ su) (h1 : su ≤ n) (h2 : n ≤ 65536) (hs : (su' : Int) = su + min (max k 0) ((n : Int) - su)) : Spec Try.prog 37 [.ptr 0 0, .r (.int .i64 k)] (dB n s su ro true) (fun v h' => v = .tuple [] ∧ h' = dB su' s su' ro true) := by
  refine spec_of_go (N := 34) Try.func37 rfl (by decide) rfl rfl ?_
  refine zB ?_
  refine pA ?_
  refine ar_qd rfl (qop_objR [0, 1] (w_isB _ _ _ _ _) (by rintro _ _ ⟨rfl, rfl⟩; exact ⟨rfl, rfl⟩) rfl rfl (handed_of rfl rfl (by decide) ⟨rfl, rfl, rfl, rfl, rfl, rfl, trivial⟩) rfl rfl) rfl rfl rfl rfl ?_
  refine ar_nil ?_
  refine ag_true rfl (rfl) ?_
  refine ag_seq ?_
  apply ag_draw1 [] (by kernel_rfl) (by kernel_rfl)
  iterate 3 refine aq_pure tOk rfl rfl rfl trivial ?_
  refine aq_load0 tOk rfl (by kernel_rfl) rfl rfl trivial ?_
  iterate 3 refine aq_pure tOk rfl rfl rfl trivial ?_
  refine aq_qd0 (qop_objR [0, 1] (w_FreshB n s su ro h0 h1 h2) (by rintro _ _ ⟨rfl, rfl⟩; exact ⟨rfl, rfl⟩) rfl rfl (handed_of rfl rfl (by decide) ⟨rfl, rfl, rfl, rfl, rfl, rfl, trivial⟩) rfl rfl) (by kernel_rfl) rfl rfl rfl rfl ?_
  refine aq_pure tOk rfl rfl rfl trivial ?_
  refine aq_pure tOk rfl rfl rfl ?_ ?_
  · unfold inI64; omega
  iterate 2 refine aq_pure tOk rfl rfl rfl trivial ?_
  refine aq_store10 tOk rfl rfl rfl rfl trivial ?_
  refine aq_nil rfl ?_
  refine ag_ent (ent_weak (g' := [(0, .ptr 0 0)]) (h' := dB n s su' ro true) [0, 1] rfl rfl rfl rfl ?_ ?_ rfl) ?_
  · exact ⟨⟨rfl, rfl⟩, trivial⟩
  · exact ⟨⟨rfl, rfl, eqMxB rfl hs.symm rfl⟩, ⟨rfl, rfl, rfl⟩, trivial⟩
  apply ag_draw1 [] (by kernel_rfl) (by kernel_rfl)
  iterate 4 refine aq_pure tOk rfl rfl rfl trivial ?_
  refine aq_load0 tOk rfl (by kernel_rfl) rfl rfl trivial ?_
  iterate 3 refine aq_pure tOk rfl rfl rfl trivial ?_
  refine aq_load0 tOk rfl (by kernel_rfl) rfl rfl trivial ?_
  iterate 3 refine aq_pure tOk rfl rfl rfl trivial ?_
  refine aq_load0 tOk rfl (by kernel_rfl) rfl rfl trivial ?_
  refine aq_pure tOk rfl rfl rfl ?_ ?_
  · simp only [boundsOk]; omega
  iterate 2 refine aq_pure tOk rfl rfl rfl trivial ?_
  refine aq_store10 tOk rfl rfl rfl rfl trivial ?_
  refine aq_nil rfl ?_
  refine ag_ent (ent_weak (g' := [(0, .ptr 0 0)]) (h' := dB su' s su' ro true) [0, 1] rfl rfl rfl rfl ?_ ?_ rfl) ?_
  · exact ⟨⟨rfl, rfl⟩, trivial⟩
  · exact ⟨⟨rfl, rfl, eqMxB (by simp [cutN]) rfl rfl⟩, ⟨rfl, rfl, rfl⟩, trivial⟩
  refine ag_end tOk Try.func37 rfl rfl (by simp) ?_
  exact ⟨rfl, rfl⟩

theorem w_FallX (k su ro : Int) : Spec Try.prog 37 [.ptr 0 0, .r (.int .i64 k)] (dN su ro false) (fun v h' => v = .tuple [] ∧ h' = dN su ro false) := by
  refine spec_of_go (N := 34) Try.func37 rfl (by decide) rfl rfl ?_
  refine zB ?_
  refine pA ?_
  refine ar_qd rfl (qop_objR [0] (w_isN _ _ _) (by rintro _ _ ⟨rfl, rfl⟩; exact ⟨rfl, rfl⟩) rfl rfl (handed_of rfl rfl (by decide) ⟨rfl, rfl, rfl, trivial⟩) rfl rfl) rfl rfl rfl rfl ?_
  refine ar_nil ?_
  refine ag_false rfl (rfl) ?_
  refine ag_skip ?_
  refine ag_end tOk Try.func37 rfl rfl (by simp) ?_
  exact ⟨rfl, rfl⟩

theorem w_Fall0 (k : Int) : Pur Try.prog 37 [.r .nilp, .r (.int .i64 k)] (.tuple []) := by
  refine spec_of_go (N := 34) Try.func37 rfl (by decide) rfl rfl ?_
  refine zB ?_
  refine pA ?_
  refine ar_pur (w_is0) rfl rfl rfl rfl rfl rfl rfl ?_
  refine ar_nil ?_
  refine ag_false rfl (rfl) ?_
  refine ag_skip ?_
  refine ag_end tOk Try.func37 rfl rfl (by simp) ?_
  rfl

theorem w_TrimLowN (k ro : Int) (h : k < 0) : Spec Try.prog 61 [.ptr 0 0, .r (.int .i64 k)] (dN 0 ro true) (fun v h' => v = .r (.int .i64 4) ∧ h' = dN 0 ro true) := by
  refine spec_of_go (N := 35) Try.func61 rfl (by decide) rfl rfl ?_
  refine zB ?_
  refine pA ?_
  refine zA ?_
  refine ag_block ?_
  refine zB ?_
  refine pA ?_
  refine ar_qd rfl (qop_objR [0] (w_isN _ _ _) (by rintro _ _ ⟨rfl, rfl⟩; exact ⟨rfl, rfl⟩) rfl rfl (handed_of rfl rfl (by decide) ⟨rfl, rfl, rfl, trivial⟩) rfl rfl) rfl rfl rfl rfl ?_
  iterate 2 refine pA ?_
  refine ar_nil ?_
  refine ag_false rfl (rfl) ?_
  refine zB ?_
  iterate 3 refine pA ?_
  refine ar_ent (ent_reg 12 (.r (.bool true)) (by show AVal.r (.bool _) = _; rw [decide_eq_true h])) ?_
  iterate 7 refine ar_skip rfl rfl rfl ?_
  iterate 2 refine pA ?_
  refine ar_nil ?_
  refine ag_true rfl (by first | (simp; done) | (simp; omega)) ?_
  refine zB ?_
  refine pA ?_
  refine ar_nil ?_
  refine ag_ret tOk Try.func61 rfl rfl (by simp) ?_
  exact ⟨rfl, rfl⟩

theorem w_TrimHighN (k ro : Int) (h : ¬ k < 0) (h2 : k > 0) : Spec Try.prog 61 [.ptr 0 0, .r (.int .i64 k)] (dN 0 ro true) (fun v h' => v = .r (.int .i64 4) ∧ h' = dN 0 ro true) := by
  refine spec_of_go (N := 35) Try.func61 rfl (by decide) rfl rfl ?_
  refine zB ?_
  refine pA ?_
  refine zA ?_
  refine ag_block ?_
  refine zB ?_
  refine pA ?_
  refine ar_qd rfl (qop_objR [0] (w_isN _ _ _) (by rintro _ _ ⟨rfl, rfl⟩; exact ⟨rfl, rfl⟩) rfl rfl (handed_of rfl rfl (by decide) ⟨rfl, rfl, rfl, trivial⟩) rfl rfl) rfl rfl rfl rfl ?_
  iterate 2 refine pA ?_
  refine ar_nil ?_
  refine ag_false rfl (rfl) ?_
  refine zB ?_
  iterate 3 refine pA ?_
  refine ar_ent (ent_reg 12 (.r (.bool false)) (by show AVal.r (.bool _) = _; rw [decide_eq_false h])) ?_
  iterate 4 refine ar_pure tOk rfl rfl (by simp) trivial ?_
  refine ar_load tOk rfl rfl (by simp) trivial ?_
  iterate 2 refine ar_pure tOk rfl rfl (by simp) trivial ?_
  iterate 2 refine pA ?_
  refine ar_nil ?_
  refine ag_true rfl (by simp; omega) ?_
  refine zB ?_
  refine pA ?_
  refine ar_nil ?_
  refine ag_ret tOk Try.func61 rfl rfl (by simp) ?_
  exact ⟨rfl, rfl⟩

theorem w_TrimLowB (k : Int) (n : Nat) (s : List UInt8) (su ro : Int) (h : k < 0) : Spec Try.prog 61 [.ptr 0 0, .r (.int .i64 k)] (dB n s su ro true) (fun v h' => v = .r (.int .i64 4) ∧ h' = dB n s su ro true) := by
  refine spec_of_go (N := 35) Try.func61 rfl (by decide) rfl rfl ?_
  refine zB ?_
  refine pA ?_
  refine zA ?_
  refine ag_block ?_
  refine zB ?_
  refine pA ?_
  refine ar_qd rfl (qop_objR [0, 1] (w_isB _ _ _ _ _) (by rintro _ _ ⟨rfl, rfl⟩; exact ⟨rfl, rfl⟩) rfl rfl (handed_of rfl rfl (by decide) ⟨rfl, rfl, rfl, rfl, rfl, rfl, trivial⟩) rfl rfl) rfl rfl rfl rfl ?_
  iterate 2 refine pA ?_
  refine ar_nil ?_
  refine ag_false rfl (rfl) ?_
  refine zB ?_
  iterate 3 refine pA ?_
  refine ar_ent (ent_reg 12 (.r (.bool true)) (by show AVal.r (.bool _) = _; rw [decide_eq_true h])) ?_
  iterate 7 refine ar_skip rfl rfl rfl ?_
  iterate 2 refine pA ?_
  refine ar_nil ?_
  refine ag_true rfl (by first | (simp; done) | (simp; omega)) ?_
  refine zB ?_
  refine pA ?_
  refine ar_nil ?_
  refine ag_ret tOk Try.func61 rfl rfl (by simp) ?_
  exact ⟨rfl, rfl⟩

theorem w_TrimHighB (k : Int) (n : Nat) (s : List UInt8) (su ro : Int) (h : ¬ k < 0) (h2 : k > n) : Spec Try.prog 61 [.ptr 0 0, .r (.int .i64 k)] (dB n s su ro true) (fun v h' => v = .r (.int .i64 4) ∧ h' = dB n s su ro true) := by
  refine spec_of_go (N := 35) Try.func61 rfl (by decide) rfl rfl ?_
  refine zB ?_
  refine pA ?_
  refine zA ?_
  refine ag_block ?_
  refine zB ?_
  refine pA ?_
  refine ar_qd rfl (qop_objR [0, 1] (w_isB _ _ _ _ _) (by rintro _ _ ⟨rfl, rfl⟩; exact ⟨rfl, rfl⟩) rfl rfl (handed_of rfl rfl (by decide) ⟨rfl, rfl, rfl, rfl, rfl, rfl, trivial⟩) rfl rfl) rfl rfl rfl rfl ?_
  iterate 2 refine pA ?_
  refine ar_nil ?_
  refine ag_false rfl (rfl) ?_
  refine zB ?_
  iterate 3 refine pA ?_
  refine ar_ent (ent_reg 12 (.r (.bool false)) (by show AVal.r (.bool _) = _; rw [decide_eq_false h])) ?_
  iterate 4 refine ar_pure tOk rfl rfl (by simp) trivial ?_
  refine ar_load tOk rfl rfl (by simp) trivial ?_
  iterate 2 refine ar_pure tOk rfl rfl (by simp) trivial ?_
  iterate 2 refine pA ?_
  refine ar_nil ?_
  refine ag_true rfl (by simp; omega) ?_
  refine zB ?_
  refine pA ?_
  refine ar_nil ?_
  refine ag_ret tOk Try.func61 rfl rfl (by simp) ?_
  exact ⟨rfl, rfl⟩

theorem w_TrimN (ro : Int) : Spec Try.prog 61 [.ptr 0 0, .r (.int .i64 0)] (dN 0 ro true) (fun v h' => v = .r (.int .i64 0) ∧ h' = dN 0 ro true) := by
  refine spec_of_go (N := 35) Try.func61 rfl (by decide) rfl rfl ?_
  refine zB ?_
  refine pA ?_
  refine zA ?_
  refine ag_block ?_
  refine zB ?_
  refine pA ?_
  refine ar_qd rfl (qop_objR [0] (w_isN _ _ _) (by rintro _ _ ⟨rfl, rfl⟩; exact ⟨rfl, rfl⟩) rfl rfl (handed_of rfl rfl (by decide) ⟨rfl, rfl, rfl, trivial⟩) rfl rfl) rfl rfl rfl rfl ?_
  iterate 2 refine pA ?_
  refine ar_nil ?_
  refine ag_false rfl (rfl) ?_
  refine zB ?_
  iterate 3 refine pA ?_
  iterate 4 refine ar_pure tOk rfl rfl (by simp) trivial ?_
  refine ar_load tOk rfl rfl (by simp) trivial ?_
  iterate 2 refine ar_pure tOk rfl rfl (by simp) trivial ?_
  iterate 2 refine pA ?_
  refine ar_nil ?_
  refine ag_false rfl (by simp) ?_
  refine ag_skip ?_
  refine ag_inBlock ?_
  refine zB ?_
  iterate 5 refine pA ?_
  refine pB ?_
  iterate 2 refine pA ?_
  refine ar_qd rfl (qop_slice0 tOk rfl) rfl rfl rfl rfl ?_
  iterate 3 refine pA ?_
  refine ar_store tOk rfl rfl rfl trivial ?_
  iterate 2 refine pA ?_
  refine ar_store tOk rfl rfl rfl trivial ?_
  refine zC ?_
  refine pA ?_
  refine ar_nil ?_
  refine ag_ent (ent_weak (g' := [(4, .r (.int .i64 0))]) (h' := dN 0 ro true) [0] rfl rfl rfl rfl ?_ ?_ rfl) ?_
  · exact ⟨⟨rfl, rfl⟩, trivial⟩
  · exact ⟨⟨rfl, rfl, rfl⟩, trivial⟩
  refine ag_ret tOk Try.func61 rfl rfl (by simp) ?_
  exact ⟨rfl, rfl⟩

theorem w_TrimB (j n : Nat) (s : List UInt8) (su ro : Int) (h : j ≤ n) : Spec Try.prog 61 [.ptr 0 0, .r (.int .i64 (j : Int))] (dB n s su ro true) (fun v h' => v = .r (.int .i64 0) ∧ h' = dB j s j ro true) := by
  refine spec_of_go (N := 35) Try.func61 rfl (by decide) rfl rfl ?_
  refine zB ?_
  refine pA ?_
  refine zA ?_
  refine ag_block ?_
  refine zB ?_
  refine pA ?_
  refine ar_qd rfl (qop_objR [0, 1] (w_isB _ _ _ _ _) (by rintro _ _ ⟨rfl, rfl⟩; exact ⟨rfl, rfl⟩) rfl rfl (handed_of rfl rfl (by decide) ⟨rfl, rfl, rfl, rfl, rfl, rfl, trivial⟩) rfl rfl) rfl rfl rfl rfl ?_
  iterate 2 refine pA ?_
  refine ar_nil ?_
  refine ag_false rfl (rfl) ?_
  refine zB ?_
  iterate 3 refine pA ?_
  refine ar_ent (ent_reg 12 (.r (.bool false)) (by show AVal.r (.bool _) = _; rw [decide_eq_false (by omega)])) ?_
  iterate 4 refine ar_pure tOk rfl rfl (by simp) trivial ?_
  refine ar_load tOk rfl rfl (by simp) trivial ?_
  iterate 2 refine ar_pure tOk rfl rfl (by simp) trivial ?_
  iterate 2 refine pA ?_
  refine ar_nil ?_
  refine ag_false rfl (by simp; omega) ?_
  refine ag_skip ?_
  refine ag_inBlock ?_
  refine zB ?_
  iterate 5 refine pA ?_
  refine pB ?_
  iterate 2 refine pA ?_
  refine ar_pure tOk rfl rfl rfl ?_ ?_
  · simp only [boundsOk]; omega
  iterate 3 refine pA ?_
  refine ar_store tOk rfl rfl rfl trivial ?_
  iterate 2 refine pA ?_
  refine ar_store tOk rfl rfl rfl trivial ?_
  refine zC ?_
  refine pA ?_
  refine ar_nil ?_
  refine ag_ent (ent_weak (g' := [(4, .r (.int .i64 0))]) (h' := dB j s j ro true) [0, 1] rfl rfl rfl rfl ?_ ?_ rfl) ?_
  · exact ⟨⟨rfl, rfl⟩, trivial⟩
  · exact ⟨⟨rfl, rfl, eqMxB (by simp [cutN]) rfl rfl⟩, ⟨rfl, rfl, rfl⟩, trivial⟩
  refine ag_ret tOk Try.func61 rfl rfl (by simp) ?_
  exact ⟨rfl, rfl⟩

theorem w_TrimX (k su ro : Int) : Spec Try.prog 61 [.ptr 0 0, .r (.int .i64 k)] (dN su ro false) (fun v h' => v = .r (.int .i64 9) ∧ h' = dN su ro false) := by
  refine spec_of_go (N := 35) Try.func61 rfl (by decide) rfl rfl ?_
  refine zB ?_
  refine pA ?_
  refine zA ?_
  refine ag_block ?_
  refine zB ?_
  refine pA ?_
  refine ar_qd rfl (qop_objR [0] (w_isN _ _ _) (by rintro _ _ ⟨rfl, rfl⟩; exact ⟨rfl, rfl⟩) rfl rfl (handed_of rfl rfl (by decide) ⟨rfl, rfl, rfl, trivial⟩) rfl rfl) rfl rfl rfl rfl ?_
  iterate 2 refine pA ?_
  refine ar_nil ?_
  refine ag_true rfl (rfl) ?_
  refine zB ?_
  refine pA ?_
  refine ar_nil ?_
  refine ag_ret tOk Try.func61 rfl rfl (by simp) ?_
  exact ⟨rfl, rfl⟩

theorem w_Trim0 (k : Int) : Pur Try.prog 61 [.r .nilp, .r (.int .i64 k)] (.r (.int .i64 9)) := by
  refine spec_of_go (N := 35) Try.func61 rfl (by decide) rfl rfl ?_
  refine zB ?_
  refine pA ?_
  refine zA ?_
  refine ag_block ?_
  refine zB ?_
  refine pA ?_
  refine ar_pur (w_is0) rfl rfl rfl rfl rfl rfl rfl ?_
  iterate 2 refine pA ?_
  refine ar_nil ?_
  refine ag_true rfl (rfl) ?_
  refine zB ?_
  refine pA ?_
  refine ar_nil ?_
  refine ag_ret tOk Try.func61 rfl rfl (by simp) ?_
  rfl

end Go.Proofs.Ytopfpkmdkcjjlaa

/-
  WALKS: field.Out. (Printed by gen.py out of w_fout.py.)
-/
import Derived.Test.YtccdhgmkjakjkaaGreatCat
import Derived.Test.YtccdhgmkjakjkaaGreatBack
namespace Go.Proofs.YtccdhgmkjakjkaaGreat
open Go
set_option maxRecDepth 20000
set_option linter.unusedVariables false
set_option linter.unusedSimpArgs false
def oN (e : Int) (m : Bool) : Hp := ⟨1, [(0, some (.mixed [.r .nil, .r (.int .i64 e), .r (.bool m)]))], false⟩
def oB (s : List UInt8) (e : Int) (m : Bool) : Hp := ⟨2, [(0, some (.mixed [.sl 1 0 s.length 1, .r (.int .i64 e), .r (.bool m)])), (1, some (.bytes s))], false⟩
def oC (s : List UInt8) (e : Int) (m : Bool) : Hp := ⟨3, [(0, some (.mixed [.sl 2 0 s.length 1, .r (.int .i64 e), .r (.bool m)])), (2, some (.bytes s))], false⟩
theorem eqMxO {β n n' : Nat} {e : Int} {m : Bool} (h : n = n') : some (Body.mixed [.sl β 0 n 1, .r (.int .i64 e), .r (.bool m)]) = some (Body.mixed [.sl β 0 n' 1, .r (.int .i64 e), .r (.bool m)]) := by rw [h]
theorem w_putEN (b : List UInt8) (e2 : Int) (e : Int) (he : e ≠ 0) : Spec Tryz.prog 86 [.ptr 0 0, .r (.bs b), .r (.int .i64 e2)] (oN e true) (fun v h' => v = .tuple [] ∧ h' = oN e true) := by
 refine spec_of_go (N := 52) Tryz.func86 rfl (by decide) rfl rfl ?_
 refine bX ?_
 iterate 3 refine pA ?_
 iterate 3 refine ar_pure tOk rfl rfl (by simp) trivial ?_
 refine ar_load tOk rfl rfl (by simp) trivial ?_
 refine ar_pure tOk rfl rfl (by simp) trivial ?_
 iterate 2 refine pA ?_
 iterate 3 refine ar_pure tOk rfl rfl (by simp) trivial ?_
 refine ar_load tOk rfl rfl (by simp) trivial ?_
 refine ar_pure tOk rfl rfl (by simp) trivial ?_
 refine pA ?_
 refine pE ?_
 refine ag_true rfl (by simp [he]) ?_
 refine ag_skip ?_
 refine ag_inBlock ?_
 refine ag_end tOk Tryz.func86 rfl rfl (by simp) ?_
 exact ⟨rfl, rfl⟩
theorem w_putRN (b : List UInt8) (e2 : Int)  (he : e2 ≠ 0) : Spec Tryz.prog 86 [.ptr 0 0, .r (.bs b), .r (.int .i64 e2)] (oN 0 true) (fun v h' => v = .tuple [] ∧ h' = oN e2 true) := by
 refine spec_of_go (N := 52) Tryz.func86 rfl (by decide) rfl rfl ?_
 refine bX ?_
 iterate 3 refine pA ?_
 iterate 3 refine ar_pure tOk rfl rfl (by simp) trivial ?_
 refine ar_load tOk rfl rfl (by simp) trivial ?_
 refine ar_pure tOk rfl rfl (by simp) trivial ?_
 iterate 2 refine pA ?_
 iterate 3 refine ar_pure tOk rfl rfl (by simp) trivial ?_
 refine ar_load tOk rfl rfl (by simp) trivial ?_
 refine ar_pure tOk rfl rfl (by simp) trivial ?_
 refine pA ?_
 refine pE ?_
 refine ag_false rfl (rfl) ?_
 refine zB ?_
 iterate 2 refine pA ?_
 refine pE ?_
 refine ag_true rfl (by simp [he]) ?_
 refine ag_reg ?_
 iterate 4 refine pA ?_
 refine ar_store tOk rfl rfl rfl trivial ?_
 refine nI ?_
 refine ag_ent (ent_weak (g' := []) (h' := oN e2 true) [0] rfl rfl rfl rfl trivial ?_ rfl) ?_
 ·exact ⟨⟨rfl, rfl, rfl⟩, trivial⟩
 refine ag_end tOk Tryz.func86 rfl rfl (by simp) ?_
 exact ⟨rfl, rfl⟩
theorem w_putEB (b : List UInt8) (e2 : Int) (s : List UInt8) (e : Int) (he : e ≠ 0) : Spec Tryz.prog 86 [.ptr 0 0, .r (.bs b), .r (.int .i64 e2)] (oB s e true) (fun v h' => v = .tuple [] ∧ h' = oB s e true) := by
 refine spec_of_go (N := 52) Tryz.func86 rfl (by decide) rfl rfl ?_
 refine bX ?_
 iterate 3 refine pA ?_
 iterate 3 refine ar_pure tOk rfl rfl (by simp) trivial ?_
 refine ar_load tOk rfl rfl (by simp) trivial ?_
 refine ar_pure tOk rfl rfl (by simp) trivial ?_
 iterate 2 refine pA ?_
 iterate 3 refine ar_pure tOk rfl rfl (by simp) trivial ?_
 refine ar_load tOk rfl rfl (by simp) trivial ?_
 refine ar_pure tOk rfl rfl (by simp) trivial ?_
 refine pA ?_
 refine pE ?_
 refine ag_true rfl (by simp [he]) ?_
 refine ag_skip ?_
 refine ag_inBlock ?_
 refine ag_end tOk Tryz.func86 rfl rfl (by simp) ?_
 exact ⟨rfl, rfl⟩
theorem w_putRB (b : List UInt8) (e2 : Int) (s : List UInt8) (he : e2 ≠ 0) : Spec Tryz.prog 86 [.ptr 0 0, .r (.bs b), .r (.int .i64 e2)] (oB s 0 true) (fun v h' => v = .tuple [] ∧ h' = oB s e2 true) := by
 refine spec_of_go (N := 52) Tryz.func86 rfl (by decide) rfl rfl ?_
 refine bX ?_
 iterate 3 refine pA ?_
 iterate 3 refine ar_pure tOk rfl rfl (by simp) trivial ?_
 refine ar_load tOk rfl rfl (by simp) trivial ?_
 refine ar_pure tOk rfl rfl (by simp) trivial ?_
 iterate 2 refine pA ?_
 iterate 3 refine ar_pure tOk rfl rfl (by simp) trivial ?_
 refine ar_load tOk rfl rfl (by simp) trivial ?_
 refine ar_pure tOk rfl rfl (by simp) trivial ?_
 refine pA ?_
 refine pE ?_
 refine ag_false rfl (rfl) ?_
 refine zB ?_
 iterate 2 refine pA ?_
 refine pE ?_
 refine ag_true rfl (by simp [he]) ?_
 refine ag_reg ?_
 iterate 4 refine pA ?_
 refine ar_store tOk rfl rfl rfl trivial ?_
 refine nI ?_
 refine ag_ent (ent_weak (g' := []) (h' := oB s e2 true) [0, 1] rfl rfl rfl rfl trivial ?_ rfl) ?_
 ·exact ⟨⟨rfl, rfl, rfl⟩, ⟨rfl, rfl, rfl⟩, trivial⟩
 refine ag_end tOk Tryz.func86 rfl rfl (by simp) ?_
 exact ⟨rfl, rfl⟩
theorem w_putLB (b s : List UInt8) (hs : s.length ≤ 8192) (hb : b.length ≤ 140737488355328) (hl : s.length + b.length > 8192) : Spec Tryz.prog 86 [.ptr 0 0, .r (.bs b), .r (.int .i64 0)] (oB s 0 true) (fun v h' => v = .tuple [] ∧ h' = oB s 5 true) := by
 refine spec_of_go (N := 52) Tryz.func86 rfl (by decide) rfl rfl ?_
 refine bX ?_
 iterate 3 refine pA ?_
 iterate 3 refine ar_pure tOk rfl rfl (by simp) trivial ?_
 refine ar_load tOk rfl rfl (by simp) trivial ?_
 refine ar_pure tOk rfl rfl (by simp) trivial ?_
 iterate 2 refine pA ?_
 iterate 3 refine ar_pure tOk rfl rfl (by simp) trivial ?_
 refine ar_load tOk rfl rfl (by simp) trivial ?_
 refine ar_pure tOk rfl rfl (by simp) trivial ?_
 refine pA ?_
 refine pE ?_
 refine ag_false rfl (rfl) ?_
 refine zB ?_
 iterate 2 refine pA ?_
 refine pE ?_
 refine ag_false rfl (rfl) ?_
 refine zB ?_
 iterate 3 refine pA ?_
 refine pB ?_
 iterate 3 refine pA ?_
 refine pC ?_ ?_
 ·unfold inI64; omega
 refine pA ?_
 refine pE ?_
 refine ag_true rfl (by simp; omega) ?_
 refine ag_reg ?_
 iterate 3 refine pA ?_
 refine ar_store tOk rfl rfl rfl trivial ?_
 refine nI ?_
 refine ag_ent (ent_weak (g' := []) (h' := oB s 5 true) [0, 1] rfl rfl rfl rfl trivial ?_ rfl) ?_
 ·exact ⟨⟨rfl, rfl, rfl⟩, ⟨rfl, rfl, rfl⟩, trivial⟩
 refine ag_end tOk Tryz.func86 rfl rfl (by simp) ?_
 exact ⟨rfl, rfl⟩
theorem w_putWN (b : List UInt8) (hb : b ≠ []) (hl : b.length ≤ 8192) : Spec Tryz.prog 86 [.ptr 0 0, .r (.bs b), .r (.int .i64 0)] (oN 0 true) (fun v h' => v = .tuple [] ∧ h' = oB b 0 true) := by
 have h0 : 0 < b.length := List.length_pos_iff.2 hb
 refine spec_of_go (N := 52) Tryz.func86 rfl (by decide) rfl rfl ?_
 refine bX ?_
 iterate 3 refine pA ?_
 iterate 3 refine ar_pure tOk rfl rfl (by simp) trivial ?_
 refine ar_load tOk rfl rfl (by simp) trivial ?_
 refine ar_pure tOk rfl rfl (by simp) trivial ?_
 iterate 2 refine pA ?_
 iterate 3 refine ar_pure tOk rfl rfl (by simp) trivial ?_
 refine ar_load tOk rfl rfl (by simp) trivial ?_
 refine ar_pure tOk rfl rfl (by simp) trivial ?_
 refine pA ?_
 refine pE ?_
 refine ag_false rfl (rfl) ?_
 refine zB ?_
 iterate 2 refine pA ?_
 refine pE ?_
 refine ag_false rfl (rfl) ?_
 refine zB ?_
 iterate 3 refine pA ?_
 refine pB ?_
 iterate 3 refine pA ?_
 refine pC ?_ ?_
 ·unfold inI64; omega
 refine pA ?_
 refine pE ?_
 refine ag_false rfl (by simp; omega) ?_
 refine ag_reg ?_
 iterate 4 refine pA ?_
 refine pB ?_
 refine pA ?_
 refine pP ?_ ?_
 ·refine ⟨⟨?_, ?_, ?_⟩, ⟨?_, ?_⟩, ⟨?_, ?_⟩, ?_⟩ <;> first | trivial | decide | omega | (simp; done) | (simp; omega)
 iterate 2 refine pA ?_
 refine ar_store tOk rfl rfl rfl trivial ?_
 refine nI ?_
 refine ag_ent (ent_weak (g' := []) (h' := oB b 0 true) [0, 1] rfl rfl rfl rfl trivial ?_ rfl) ?_
 ·exact ⟨⟨rfl, rfl, eqMxO (by simp)⟩, ⟨rfl, rfl, rfl⟩, trivial⟩
 refine ag_end tOk Tryz.func86 rfl rfl (by simp) ?_
 exact ⟨rfl, rfl⟩
theorem w_putWB (b s : List UInt8) (hl : s.length + b.length ≤ 8192) : Spec Tryz.prog 86 [.ptr 0 0, .r (.bs b), .r (.int .i64 0)] (oB s 0 true) (fun v h' => v = .tuple [] ∧ h' = oC (s ++ b) 0 true) := by
 refine spec_of_go (N := 52) Tryz.func86 rfl (by decide) rfl rfl ?_
 refine bX ?_
 iterate 3 refine pA ?_
 iterate 3 refine ar_pure tOk rfl rfl (by simp) trivial ?_
 refine ar_load tOk rfl rfl (by simp) trivial ?_
 refine ar_pure tOk rfl rfl (by simp) trivial ?_
 iterate 2 refine pA ?_
 iterate 3 refine ar_pure tOk rfl rfl (by simp) trivial ?_
 refine ar_load tOk rfl rfl (by simp) trivial ?_
 refine ar_pure tOk rfl rfl (by simp) trivial ?_
 refine pA ?_
 refine pE ?_
 refine ag_false rfl (rfl) ?_
 refine zB ?_
 iterate 2 refine pA ?_
 refine pE ?_
 refine ag_false rfl (rfl) ?_
 refine zB ?_
 iterate 3 refine pA ?_
 refine pB ?_
 iterate 3 refine pA ?_
 refine pC ?_ ?_
 ·unfold inI64; omega
 refine pA ?_
 refine pE ?_
 refine ag_false rfl (by simp; omega) ?_
 refine ag_reg ?_
 iterate 4 refine pA ?_
 refine pB ?_
 refine pA ?_
 refine pP ?_ ?_
 ·refine ⟨⟨?_, ?_, ?_⟩, ⟨?_, ?_⟩, ⟨?_, ?_⟩, ?_⟩ <;> first | trivial | decide | omega | (simp; done) | (simp; omega)
 iterate 2 refine pA ?_
 refine ar_store tOk rfl rfl rfl trivial ?_
 refine nI ?_
 refine ag_ent (ent_weak (g' := []) (h' := oC (s ++ b) 0 true) [0, 1, 2] rfl rfl rfl rfl trivial ?_ rfl) ?_
 ·exact ⟨⟨rfl, rfl, eqMxO (by simp)⟩, ⟨rfl, rfl, eqBs (by simp [cutA_eq])⟩, trivial⟩
 refine ag_end tOk Tryz.func86 rfl rfl (by simp) ?_
 exact ⟨rfl, rfl⟩
theorem w_NumENr (n e : Int) (he : e ≠ 0) (hn : n < 0 ∨ n > 1099511627776) : Spec Tryz.prog 71 [.ptr 0 0, .r (.int .i64 n)] (oN e true) (fun v h' => v = .tuple [] ∧ h' = oN e true) := by
 refine spec_of_go (N := 16) Tryz.func71 rfl (by decide) rfl rfl ?_
 refine zB ?_
 refine pF ?_
 refine zB ?_
 iterate 3 refine pA ?_
 refine ar_guard (t := decide (n < 0)) (fun ht => ?_) (fun ht => ?_)
 ·refine ar_ent (ent_reg 7 (.r (.bool true)) (by show AVal.r (.bool _) = _; rw [ht])) ?_
  have hneg := of_decide_eq_true ht
  iterate 2 refine ar_skip rfl rfl rfl ?_
  refine pE ?_
  refine ag_true rfl (by first | rfl | (simp; omega)) ?_
  refine ag_reg ?_
  refine pE ?_
  refine ag_reg ?_
  iterate 2 refine pA ?_
  refine ar_pur (own_ro_bytes (w_Num n 6 6 (by decide)) (by rw [numL_length])) rfl rfl rfl rfl rfl rfl rfl ?_
  refine pA ?_
  refine ar_qd rfl (qop_objR [0] (w_putEN _ 4 e he) (by rintro _ _ ⟨rfl, rfl⟩; exact ⟨rfl, rfl⟩) rfl rfl (handed_of rfl rfl (by decide) ⟨rfl, rfl, rfl, trivial⟩) rfl rfl) rfl rfl rfl rfl ?_
  refine ar_nil ?_
  refine ag_end tOk Tryz.func71 rfl rfl (by simp) ?_
  exact ⟨rfl, rfl⟩
 ·refine ar_ent (ent_reg 7 (.r (.bool false)) (by show AVal.r (.bool _) = _; rw [ht])) ?_
  have hneg := of_decide_eq_false ht
  iterate 2 refine pA ?_
  refine pE ?_
  refine ag_true rfl (by first | rfl | (simp; omega)) ?_
  refine ag_reg ?_
  refine pE ?_
  refine ag_reg ?_
  iterate 2 refine pA ?_
  refine ar_pur (own_ro_bytes (w_Num n 6 6 (by decide)) (by rw [numL_length])) rfl rfl rfl rfl rfl rfl rfl ?_
  refine pA ?_
  refine ar_qd rfl (qop_objR [0] (w_putEN _ 4 e he) (by rintro _ _ ⟨rfl, rfl⟩; exact ⟨rfl, rfl⟩) rfl rfl (handed_of rfl rfl (by decide) ⟨rfl, rfl, rfl, trivial⟩) rfl rfl) rfl rfl rfl rfl ?_
  refine ar_nil ?_
  refine ag_end tOk Tryz.func71 rfl rfl (by simp) ?_
  exact ⟨rfl, rfl⟩
theorem w_NumEN (n e : Int) (he : e ≠ 0) (hn : ¬ (n < 0 ∨ n > 1099511627776)) : Spec Tryz.prog 71 [.ptr 0 0, .r (.int .i64 n)] (oN e true) (fun v h' => v = .tuple [] ∧ h' = oN e true) := by
 refine spec_of_go (N := 16) Tryz.func71 rfl (by decide) rfl rfl ?_
 refine zB ?_
 refine pF ?_
 refine zB ?_
 iterate 3 refine pA ?_
 refine ar_ent (ent_reg 7 (.r (.bool false)) (by show AVal.r (.bool _) = _; exact eqB (by simp; omega))) ?_
 iterate 2 refine ar_pure tOk rfl rfl (by simp) trivial ?_
 refine pE ?_
 refine ag_false rfl (by simp; omega) ?_
 refine ag_skip ?_
 refine ag_reg ?_
 iterate 2 refine pA ?_
 refine ar_pur (own_ro_bytes (w_Num n 6 6 (by decide)) (by rw [numL_length])) rfl rfl rfl rfl rfl rfl rfl ?_
 refine pA ?_
 refine ar_qd rfl (qop_objR [0] (w_putEN _ 0 e he) (by rintro _ _ ⟨rfl, rfl⟩; exact ⟨rfl, rfl⟩) rfl rfl (handed_of rfl rfl (by decide) ⟨rfl, rfl, rfl, trivial⟩) rfl rfl) rfl rfl rfl rfl ?_
 refine ar_nil ?_
 refine ag_end tOk Tryz.func71 rfl rfl (by simp) ?_
 exact ⟨rfl, rfl⟩
theorem w_NumRN (n : Int) (hn : n < 0 ∨ n > 1099511627776) : Spec Tryz.prog 71 [.ptr 0 0, .r (.int .i64 n)] (oN 0 true) (fun v h' => v = .tuple [] ∧ h' = oN 4 true) := by
 refine spec_of_go (N := 16) Tryz.func71 rfl (by decide) rfl rfl ?_
 refine zB ?_
 refine pF ?_
 refine zB ?_
 iterate 3 refine pA ?_
 refine ar_guard (t := decide (n < 0)) (fun ht => ?_) (fun ht => ?_)
 ·refine ar_ent (ent_reg 7 (.r (.bool true)) (by show AVal.r (.bool _) = _; rw [ht])) ?_
  have hneg := of_decide_eq_true ht
  iterate 2 refine ar_skip rfl rfl rfl ?_
  refine pE ?_
  refine ag_true rfl (by first | rfl | (simp; omega)) ?_
  refine ag_reg ?_
  refine pE ?_
  refine ag_reg ?_
  iterate 2 refine pA ?_
  refine ar_pur (own_ro_bytes (w_Num n 6 6 (by decide)) (by rw [numL_length])) rfl rfl rfl rfl rfl rfl rfl ?_
  refine pA ?_
  refine ar_obj [0] (w_putRN _ 4 (by decide)) rfl rfl (handed_of rfl rfl (by decide) ⟨rfl, rfl, rfl, trivial⟩) rfl rfl rfl rfl ?_
  rintro _ _ ⟨rfl, rfl⟩
  refine ⟨_, _, rfl, ?_⟩
  refine ar_nil ?_
  refine ag_ent (ent_weak (g' := []) (h' := oN 4 true) [0] rfl rfl rfl rfl trivial ?_ rfl) ?_
  ·exact ⟨⟨rfl, rfl, rfl⟩, trivial⟩
  refine ag_end tOk Tryz.func71 rfl rfl (by simp) ?_
  exact ⟨rfl, rfl⟩
 ·refine ar_ent (ent_reg 7 (.r (.bool false)) (by show AVal.r (.bool _) = _; rw [ht])) ?_
  have hneg := of_decide_eq_false ht
  iterate 2 refine pA ?_
  refine pE ?_
  refine ag_true rfl (by first | rfl | (simp; omega)) ?_
  refine ag_reg ?_
  refine pE ?_
  refine ag_reg ?_
  iterate 2 refine pA ?_
  refine ar_pur (own_ro_bytes (w_Num n 6 6 (by decide)) (by rw [numL_length])) rfl rfl rfl rfl rfl rfl rfl ?_
  refine pA ?_
  refine ar_obj [0] (w_putRN _ 4 (by decide)) rfl rfl (handed_of rfl rfl (by decide) ⟨rfl, rfl, rfl, trivial⟩) rfl rfl rfl rfl ?_
  rintro _ _ ⟨rfl, rfl⟩
  refine ⟨_, _, rfl, ?_⟩
  refine ar_nil ?_
  refine ag_ent (ent_weak (g' := []) (h' := oN 4 true) [0] rfl rfl rfl rfl trivial ?_ rfl) ?_
  ·exact ⟨⟨rfl, rfl, rfl⟩, trivial⟩
  refine ag_end tOk Tryz.func71 rfl rfl (by simp) ?_
  exact ⟨rfl, rfl⟩
theorem w_NumEBr (s : List UInt8) (n e : Int) (he : e ≠ 0) (hn : n < 0 ∨ n > 1099511627776) : Spec Tryz.prog 71 [.ptr 0 0, .r (.int .i64 n)] (oB s e true) (fun v h' => v = .tuple [] ∧ h' = oB s e true) := by
 refine spec_of_go (N := 16) Tryz.func71 rfl (by decide) rfl rfl ?_
 refine zB ?_
 refine pF ?_
 refine zB ?_
 iterate 3 refine pA ?_
 refine ar_guard (t := decide (n < 0)) (fun ht => ?_) (fun ht => ?_)
 ·refine ar_ent (ent_reg 7 (.r (.bool true)) (by show AVal.r (.bool _) = _; rw [ht])) ?_
  have hneg := of_decide_eq_true ht
  iterate 2 refine ar_skip rfl rfl rfl ?_
  refine pE ?_
  refine ag_true rfl (by first | rfl | (simp; omega)) ?_
  refine ag_reg ?_
  refine pE ?_
  refine ag_reg ?_
  iterate 2 refine pA ?_
  refine ar_pur (own_ro_bytes (w_Num n 6 6 (by decide)) (by rw [numL_length])) rfl rfl rfl rfl rfl rfl rfl ?_
  refine pA ?_
  refine ar_qd rfl (qop_objR [0, 1] (w_putEB _ 4 s e he) (by rintro _ _ ⟨rfl, rfl⟩; exact ⟨rfl, rfl⟩) rfl rfl (handed_of rfl rfl (by decide) ⟨rfl, rfl, rfl, rfl, rfl, rfl, trivial⟩) rfl rfl) rfl rfl rfl rfl ?_
  refine ar_nil ?_
  refine ag_end tOk Tryz.func71 rfl rfl (by simp) ?_
  exact ⟨rfl, rfl⟩
 ·refine ar_ent (ent_reg 7 (.r (.bool false)) (by show AVal.r (.bool _) = _; rw [ht])) ?_
  have hneg := of_decide_eq_false ht
  iterate 2 refine pA ?_
  refine pE ?_
  refine ag_true rfl (by first | rfl | (simp; omega)) ?_
  refine ag_reg ?_
  refine pE ?_
  refine ag_reg ?_
  iterate 2 refine pA ?_
  refine ar_pur (own_ro_bytes (w_Num n 6 6 (by decide)) (by rw [numL_length])) rfl rfl rfl rfl rfl rfl rfl ?_
  refine pA ?_
  refine ar_qd rfl (qop_objR [0, 1] (w_putEB _ 4 s e he) (by rintro _ _ ⟨rfl, rfl⟩; exact ⟨rfl, rfl⟩) rfl rfl (handed_of rfl rfl (by decide) ⟨rfl, rfl, rfl, rfl, rfl, rfl, trivial⟩) rfl rfl) rfl rfl rfl rfl ?_
  refine ar_nil ?_
  refine ag_end tOk Tryz.func71 rfl rfl (by simp) ?_
  exact ⟨rfl, rfl⟩
theorem w_NumEB (s : List UInt8) (n e : Int) (he : e ≠ 0) (hn : ¬ (n < 0 ∨ n > 1099511627776)) : Spec Tryz.prog 71 [.ptr 0 0, .r (.int .i64 n)] (oB s e true) (fun v h' => v = .tuple [] ∧ h' = oB s e true) := by
 refine spec_of_go (N := 16) Tryz.func71 rfl (by decide) rfl rfl ?_
 refine zB ?_
 refine pF ?_
 refine zB ?_
 iterate 3 refine pA ?_
 refine ar_ent (ent_reg 7 (.r (.bool false)) (by show AVal.r (.bool _) = _; exact eqB (by simp; omega))) ?_
 iterate 2 refine ar_pure tOk rfl rfl (by simp) trivial ?_
 refine pE ?_
 refine ag_false rfl (by simp; omega) ?_
 refine ag_skip ?_
 refine ag_reg ?_
 iterate 2 refine pA ?_
 refine ar_pur (own_ro_bytes (w_Num n 6 6 (by decide)) (by rw [numL_length])) rfl rfl rfl rfl rfl rfl rfl ?_
 refine pA ?_
 refine ar_qd rfl (qop_objR [0, 1] (w_putEB _ 0 s e he) (by rintro _ _ ⟨rfl, rfl⟩; exact ⟨rfl, rfl⟩) rfl rfl (handed_of rfl rfl (by decide) ⟨rfl, rfl, rfl, rfl, rfl, rfl, trivial⟩) rfl rfl) rfl rfl rfl rfl ?_
 refine ar_nil ?_
 refine ag_end tOk Tryz.func71 rfl rfl (by simp) ?_
 exact ⟨rfl, rfl⟩
theorem w_NumRB (s : List UInt8) (n : Int) (hn : n < 0 ∨ n > 1099511627776) : Spec Tryz.prog 71 [.ptr 0 0, .r (.int .i64 n)] (oB s 0 true) (fun v h' => v = .tuple [] ∧ h' = oB s 4 true) := by
 refine spec_of_go (N := 16) Tryz.func71 rfl (by decide) rfl rfl ?_
 refine zB ?_
 refine pF ?_
 refine zB ?_
 iterate 3 refine pA ?_
 refine ar_guard (t := decide (n < 0)) (fun ht => ?_) (fun ht => ?_)
 ·refine ar_ent (ent_reg 7 (.r (.bool true)) (by show AVal.r (.bool _) = _; rw [ht])) ?_
  have hneg := of_decide_eq_true ht
  iterate 2 refine ar_skip rfl rfl rfl ?_
  refine pE ?_
  refine ag_true rfl (by first | rfl | (simp; omega)) ?_
  refine ag_reg ?_
  refine pE ?_
  refine ag_reg ?_
  iterate 2 refine pA ?_
  refine ar_pur (own_ro_bytes (w_Num n 6 6 (by decide)) (by rw [numL_length])) rfl rfl rfl rfl rfl rfl rfl ?_
  refine pA ?_
  refine ar_obj [0, 1] (w_putRB _ 4 s (by decide)) rfl rfl (handed_of rfl rfl (by decide) ⟨rfl, rfl, rfl, rfl, rfl, rfl, trivial⟩) rfl rfl rfl rfl ?_
  rintro _ _ ⟨rfl, rfl⟩
  refine ⟨_, _, rfl, ?_⟩
  refine ar_nil ?_
  refine ag_ent (ent_weak (g' := []) (h' := oB s 4 true) [0, 1] rfl rfl rfl rfl trivial ?_ rfl) ?_
  ·exact ⟨⟨rfl, rfl, rfl⟩, ⟨rfl, rfl, rfl⟩, trivial⟩
  refine ag_end tOk Tryz.func71 rfl rfl (by simp) ?_
  exact ⟨rfl, rfl⟩
 ·refine ar_ent (ent_reg 7 (.r (.bool false)) (by show AVal.r (.bool _) = _; rw [ht])) ?_
  have hneg := of_decide_eq_false ht
  iterate 2 refine pA ?_
  refine pE ?_
  refine ag_true rfl (by first | rfl | (simp; omega)) ?_
  refine ag_reg ?_
  refine pE ?_
  refine ag_reg ?_
  iterate 2 refine pA ?_
  refine ar_pur (own_ro_bytes (w_Num n 6 6 (by decide)) (by rw [numL_length])) rfl rfl rfl rfl rfl rfl rfl ?_
  refine pA ?_
  refine ar_obj [0, 1] (w_putRB _ 4 s (by decide)) rfl rfl (handed_of rfl rfl (by decide) ⟨rfl, rfl, rfl, rfl, rfl, rfl, trivial⟩) rfl rfl rfl rfl ?_
  rintro _ _ ⟨rfl, rfl⟩
  refine ⟨_, _, rfl, ?_⟩
  refine ar_nil ?_
  refine ag_ent (ent_weak (g' := []) (h' := oB s 4 true) [0, 1] rfl rfl rfl rfl trivial ?_ rfl) ?_
  ·exact ⟨⟨rfl, rfl, rfl⟩, ⟨rfl, rfl, rfl⟩, trivial⟩
  refine ag_end tOk Tryz.func71 rfl rfl (by simp) ?_
  exact ⟨rfl, rfl⟩
theorem w_NumWN (n : Int) (hn : ¬ (n < 0 ∨ n > 1099511627776)) : Spec Tryz.prog 71 [.ptr 0 0, .r (.int .i64 n)] (oN 0 true) (fun v h' => v = .tuple [] ∧ h' = oB (numL 6 n) 0 true) := by
 refine spec_of_go (N := 16) Tryz.func71 rfl (by decide) rfl rfl ?_
 refine zB ?_
 refine pF ?_
 refine zB ?_
 iterate 3 refine pA ?_
 refine ar_ent (ent_reg 7 (.r (.bool false)) (by show AVal.r (.bool _) = _; exact eqB (by simp; omega))) ?_
 iterate 2 refine ar_pure tOk rfl rfl (by simp) trivial ?_
 refine pE ?_
 refine ag_false rfl (by simp; omega) ?_
 refine ag_skip ?_
 refine ag_reg ?_
 iterate 2 refine pA ?_
 refine ar_pur (own_ro_bytes (w_Num n 6 6 (by decide)) (by rw [numL_length])) rfl rfl rfl rfl rfl rfl rfl ?_
 refine pA ?_
 refine ar_obj [0] (w_putWN (numL 6 n) (by intro h; have := congrArg List.length h; rw [numL_length] at this; simp at this) (by rw [numL_length]; decide)) rfl rfl (handed_of rfl rfl (by decide) ⟨rfl, rfl, rfl, trivial⟩) rfl rfl rfl rfl ?_
 rintro _ _ ⟨rfl, rfl⟩
 refine ⟨_, _, rfl, ?_⟩
 refine ar_nil ?_
 refine ag_ent (ent_weak (g' := []) (h' := oB (numL 6 n) 0 true) [0, 1] rfl rfl rfl rfl trivial ?_ rfl) ?_
 ·exact ⟨⟨rfl, rfl, rfl⟩, ⟨rfl, rfl, rfl⟩, trivial⟩
 refine ag_end tOk Tryz.func71 rfl rfl (by simp) ?_
 exact ⟨rfl, rfl⟩
theorem w_NumWB (s : List UInt8) (n : Int) (hn : ¬ (n < 0 ∨ n > 1099511627776)) (hl : s.length + 6 ≤ 8192) : Spec Tryz.prog 71 [.ptr 0 0, .r (.int .i64 n)] (oB s 0 true) (fun v h' => v = .tuple [] ∧ h' = oC (s ++ numL 6 n) 0 true) := by
 refine spec_of_go (N := 16) Tryz.func71 rfl (by decide) rfl rfl ?_
 refine zB ?_
 refine pF ?_
 refine zB ?_
 iterate 3 refine pA ?_
 refine ar_ent (ent_reg 7 (.r (.bool false)) (by show AVal.r (.bool _) = _; exact eqB (by simp; omega))) ?_
 iterate 2 refine ar_pure tOk rfl rfl (by simp) trivial ?_
 refine pE ?_
 refine ag_false rfl (by simp; omega) ?_
 refine ag_skip ?_
 refine ag_reg ?_
 iterate 2 refine pA ?_
 refine ar_pur (own_ro_bytes (w_Num n 6 6 (by decide)) (by rw [numL_length])) rfl rfl rfl rfl rfl rfl rfl ?_
 refine pA ?_
 refine ar_obj [0, 1] (w_putWB (numL 6 n) s (by rw [numL_length]; exact hl)) rfl rfl (handed_of rfl rfl (by decide) ⟨rfl, rfl, rfl, rfl, rfl, rfl, trivial⟩) rfl rfl rfl rfl ?_
 rintro _ _ ⟨rfl, rfl⟩
 refine ⟨_, _, rfl, ?_⟩
 refine ar_nil ?_
 refine ag_ent (ent_weak (g' := []) (h' := oC (s ++ numL 6 n) 0 true) [0, 1, 2] rfl rfl rfl rfl trivial ?_ rfl) ?_
 ·exact ⟨⟨rfl, rfl, rfl⟩, ⟨rfl, rfl, rfl⟩, trivial⟩
 refine ag_end tOk Tryz.func71 rfl rfl (by simp) ?_
 exact ⟨rfl, rfl⟩
theorem w_NumLB (s : List UInt8) (n : Int) (hn : ¬ (n < 0 ∨ n > 1099511627776)) (hs : s.length ≤ 8192) (hl : s.length + 6 > 8192) : Spec Tryz.prog 71 [.ptr 0 0, .r (.int .i64 n)] (oB s 0 true) (fun v h' => v = .tuple [] ∧ h' = oB s 5 true) := by
 refine spec_of_go (N := 16) Tryz.func71 rfl (by decide) rfl rfl ?_
 refine zB ?_
 refine pF ?_
 refine zB ?_
 iterate 3 refine pA ?_
 refine ar_ent (ent_reg 7 (.r (.bool false)) (by show AVal.r (.bool _) = _; exact eqB (by simp; omega))) ?_
 iterate 2 refine ar_pure tOk rfl rfl (by simp) trivial ?_
 refine pE ?_
 refine ag_false rfl (by simp; omega) ?_
 refine ag_skip ?_
 refine ag_reg ?_
 iterate 2 refine pA ?_
 refine ar_pur (own_ro_bytes (w_Num n 6 6 (by decide)) (by rw [numL_length])) rfl rfl rfl rfl rfl rfl rfl ?_
 refine pA ?_
 refine ar_obj [0, 1] (w_putLB (numL 6 n) s hs (by rw [numL_length]; decide) (by rw [numL_length]; exact hl)) rfl rfl (handed_of rfl rfl (by decide) ⟨rfl, rfl, rfl, rfl, rfl, rfl, trivial⟩) rfl rfl rfl rfl ?_
 rintro _ _ ⟨rfl, rfl⟩
 refine ⟨_, _, rfl, ?_⟩
 refine ar_nil ?_
 refine ag_ent (ent_weak (g' := []) (h' := oB s 5 true) [0, 1] rfl rfl rfl rfl trivial ?_ rfl) ?_
 ·exact ⟨⟨rfl, rfl, rfl⟩, ⟨rfl, rfl, rfl⟩, trivial⟩
 refine ag_end tOk Tryz.func71 rfl rfl (by simp) ?_
 exact ⟨rfl, rfl⟩
def txt (t : List UInt8) : List UInt8 := numL 2 (t.length : Int) ++ t
theorem txt_ne (t : List UInt8) : txt t ≠ [] := by
 intro h
 have := congrArg List.length h
 simp [txt, numL_length] at this
theorem txt_length (t : List UInt8) : (txt t).length = 2 + t.length := by simp [txt, numL_length]
theorem w_CatP (s : List UInt8) (hs : s.length ≤ 140737488355328) : Spec Tryz.prog 87 [.sl 0 0 1 1] (hS s.length s) (fun v h' => v = .r (.bs s) ∧ h' = hS s.length s) := by
 have := w_CatS s.length s (Nat.le_refl _) hs
 rwa [List.take_length] at this
theorem w_TextENr (t : List UInt8) (ht : t.length ≤ 140737488351232) (e : Int) (he : e ≠ 0) (hn : t.length > 1024) : Spec Tryz.prog 70 [.ptr 0 0, .r (.str t)] (oN e true) (fun v h' => v = .tuple [] ∧ h' = oN e true) := by
 refine spec_of_go (N := 18) Tryz.func70 rfl (by decide) rfl rfl ?_
 refine zB ?_
 refine pF ?_
 refine zB ?_
 iterate 2 refine pA ?_
 refine pE ?_
 refine ag_true rfl (by simp; omega) ?_
 refine ag_reg ?_
 refine pE ?_
 refine ag_reg ?_
 iterate 3 refine pA ?_
 refine ar_pur (own_ro_bytes (w_Num (t.length : Int) 2 2 (by decide)) (by rw [numL_length])) rfl rfl rfl rfl rfl rfl rfl ?_
 refine pA ?_
 refine ar_qd rfl (qop_strBytes tOk rfl) rfl rfl rfl rfl ?_
 refine pN ?_ ?_
 ·simp
 refine ar_ent (ent_body 1 (.mixed [.r (.bs (numL 2 (t.length : Int))), .r (.bs t)]) (.plain [.bs (numL 2 (t.length : Int)), .bs t]) rfl rfl) ?_
 refine ar_ent (ent_freeze 14 rfl rfl rfl trivial) ?_
 refine ar_ent (ent_reg 14 (roL [numL 2 (t.length : Int), t]) rfl) ?_
 refine ar_pur (w_Cat [numL 2 (t.length : Int), t] (by simp) (by simp [numL_length]; omega)) rfl rfl rfl rfl rfl rfl rfl ?_
 refine ar_ent (ent_reg 15 (.r (.bs (txt t))) (by show AVal.r (.bs _) = _; exact eqBsv (by simp [txt]))) ?_
 refine pA ?_
 refine ar_obj [0] (w_putEN _ 5 e he) rfl rfl (handed_of rfl rfl (by decide) ⟨rfl, rfl, rfl, trivial⟩) rfl rfl rfl rfl ?_
 rintro _ _ ⟨rfl, rfl⟩
 refine ⟨_, _, rfl, ?_⟩
 refine ar_nil ?_
 refine ag_ent (ent_weak (g' := []) (h' := oN e true) [0] rfl rfl rfl rfl trivial ?_ rfl) ?_
 ·exact ⟨⟨rfl, rfl, rfl⟩, trivial⟩
 refine ag_end tOk Tryz.func70 rfl rfl (by simp) ?_
 exact ⟨rfl, rfl⟩
theorem w_TextEN (t : List UInt8) (ht : t.length ≤ 140737488351232) (e : Int) (he : e ≠ 0) (hn : ¬ t.length > 1024) : Spec Tryz.prog 70 [.ptr 0 0, .r (.str t)] (oN e true) (fun v h' => v = .tuple [] ∧ h' = oN e true) := by
 refine spec_of_go (N := 18) Tryz.func70 rfl (by decide) rfl rfl ?_
 refine zB ?_
 refine pF ?_
 refine zB ?_
 iterate 2 refine pA ?_
 refine pE ?_
 refine ag_false rfl (by simp; omega) ?_
 refine ag_skip ?_
 refine ag_reg ?_
 iterate 3 refine pA ?_
 refine ar_pur (own_ro_bytes (w_Num (t.length : Int) 2 2 (by decide)) (by rw [numL_length])) rfl rfl rfl rfl rfl rfl rfl ?_
 refine pA ?_
 refine ar_qd rfl (qop_strBytes tOk rfl) rfl rfl rfl rfl ?_
 refine pN ?_ ?_
 ·simp
 refine ar_ent (ent_body 1 (.mixed [.r (.bs (numL 2 (t.length : Int))), .r (.bs t)]) (.plain [.bs (numL 2 (t.length : Int)), .bs t]) rfl rfl) ?_
 refine ar_ent (ent_freeze 14 rfl rfl rfl trivial) ?_
 refine ar_ent (ent_reg 14 (roL [numL 2 (t.length : Int), t]) rfl) ?_
 refine ar_pur (w_Cat [numL 2 (t.length : Int), t] (by simp) (by simp [numL_length]; omega)) rfl rfl rfl rfl rfl rfl rfl ?_
 refine ar_ent (ent_reg 15 (.r (.bs (txt t))) (by show AVal.r (.bs _) = _; exact eqBsv (by simp [txt]))) ?_
 refine pA ?_
 refine ar_obj [0] (w_putEN _ 0 e he) rfl rfl (handed_of rfl rfl (by decide) ⟨rfl, rfl, rfl, trivial⟩) rfl rfl rfl rfl ?_
 rintro _ _ ⟨rfl, rfl⟩
 refine ⟨_, _, rfl, ?_⟩
 refine ar_nil ?_
 refine ag_ent (ent_weak (g' := []) (h' := oN e true) [0] rfl rfl rfl rfl trivial ?_ rfl) ?_
 ·exact ⟨⟨rfl, rfl, rfl⟩, trivial⟩
 refine ag_end tOk Tryz.func70 rfl rfl (by simp) ?_
 exact ⟨rfl, rfl⟩
theorem w_TextRN (t : List UInt8) (ht : t.length ≤ 140737488351232) (hn : t.length > 1024) : Spec Tryz.prog 70 [.ptr 0 0, .r (.str t)] (oN 0 true) (fun v h' => v = .tuple [] ∧ h' = oN 5 true) := by
 refine spec_of_go (N := 18) Tryz.func70 rfl (by decide) rfl rfl ?_
 refine zB ?_
 refine pF ?_
 refine zB ?_
 iterate 2 refine pA ?_
 refine pE ?_
 refine ag_true rfl (by simp; omega) ?_
 refine ag_reg ?_
 refine pE ?_
 refine ag_reg ?_
 iterate 3 refine pA ?_
 refine ar_pur (own_ro_bytes (w_Num (t.length : Int) 2 2 (by decide)) (by rw [numL_length])) rfl rfl rfl rfl rfl rfl rfl ?_
 refine pA ?_
 refine ar_qd rfl (qop_strBytes tOk rfl) rfl rfl rfl rfl ?_
 refine pN ?_ ?_
 ·simp
 refine ar_ent (ent_body 1 (.mixed [.r (.bs (numL 2 (t.length : Int))), .r (.bs t)]) (.plain [.bs (numL 2 (t.length : Int)), .bs t]) rfl rfl) ?_
 refine ar_ent (ent_freeze 14 rfl rfl rfl trivial) ?_
 refine ar_ent (ent_reg 14 (roL [numL 2 (t.length : Int), t]) rfl) ?_
 refine ar_pur (w_Cat [numL 2 (t.length : Int), t] (by simp) (by simp [numL_length]; omega)) rfl rfl rfl rfl rfl rfl rfl ?_
 refine ar_ent (ent_reg 15 (.r (.bs (txt t))) (by show AVal.r (.bs _) = _; exact eqBsv (by simp [txt]))) ?_
 refine pA ?_
 refine ar_obj [0] (w_putRN _ 5 (by decide)) rfl rfl (handed_of rfl rfl (by decide) ⟨rfl, rfl, rfl, trivial⟩) rfl rfl rfl rfl ?_
 rintro _ _ ⟨rfl, rfl⟩
 refine ⟨_, _, rfl, ?_⟩
 refine ar_nil ?_
 refine ag_ent (ent_weak (g' := []) (h' := oN 5 true) [0] rfl rfl rfl rfl trivial ?_ rfl) ?_
 ·exact ⟨⟨rfl, rfl, rfl⟩, trivial⟩
 refine ag_end tOk Tryz.func70 rfl rfl (by simp) ?_
 exact ⟨rfl, rfl⟩
theorem w_TextEBr (s : List UInt8) (t : List UInt8) (ht : t.length ≤ 140737488351232) (e : Int) (he : e ≠ 0) (hn : t.length > 1024) : Spec Tryz.prog 70 [.ptr 0 0, .r (.str t)] (oB s e true) (fun v h' => v = .tuple [] ∧ h' = oB s e true) := by
 refine spec_of_go (N := 18) Tryz.func70 rfl (by decide) rfl rfl ?_
 refine zB ?_
 refine pF ?_
 refine zB ?_
 iterate 2 refine pA ?_
 refine pE ?_
 refine ag_true rfl (by simp; omega) ?_
 refine ag_reg ?_
 refine pE ?_
 refine ag_reg ?_
 iterate 3 refine pA ?_
 refine ar_pur (own_ro_bytes (w_Num (t.length : Int) 2 2 (by decide)) (by rw [numL_length])) rfl rfl rfl rfl rfl rfl rfl ?_
 refine pA ?_
 refine ar_qd rfl (qop_strBytes tOk rfl) rfl rfl rfl rfl ?_
 refine pN ?_ ?_
 ·simp
 refine ar_ent (ent_body 2 (.mixed [.r (.bs (numL 2 (t.length : Int))), .r (.bs t)]) (.plain [.bs (numL 2 (t.length : Int)), .bs t]) rfl rfl) ?_
 refine ar_ent (ent_freeze 14 rfl rfl rfl trivial) ?_
 refine ar_ent (ent_reg 14 (roL [numL 2 (t.length : Int), t]) rfl) ?_
 refine ar_pur (w_Cat [numL 2 (t.length : Int), t] (by simp) (by simp [numL_length]; omega)) rfl rfl rfl rfl rfl rfl rfl ?_
 refine ar_ent (ent_reg 15 (.r (.bs (txt t))) (by show AVal.r (.bs _) = _; exact eqBsv (by simp [txt]))) ?_
 refine pA ?_
 refine ar_obj [0, 1] (w_putEB _ 5 s e he) rfl rfl (handed_of rfl rfl (by decide) ⟨rfl, rfl, rfl, rfl, rfl, rfl, trivial⟩) rfl rfl rfl rfl ?_
 rintro _ _ ⟨rfl, rfl⟩
 refine ⟨_, _, rfl, ?_⟩
 refine ar_nil ?_
 refine ag_ent (ent_weak (g' := []) (h' := oB s e true) [0, 1] rfl rfl rfl rfl trivial ?_ rfl) ?_
 ·exact ⟨⟨rfl, rfl, rfl⟩, ⟨rfl, rfl, rfl⟩, trivial⟩
 refine ag_end tOk Tryz.func70 rfl rfl (by simp) ?_
 exact ⟨rfl, rfl⟩
theorem w_TextEB (s : List UInt8) (t : List UInt8) (ht : t.length ≤ 140737488351232) (e : Int) (he : e ≠ 0) (hn : ¬ t.length > 1024) : Spec Tryz.prog 70 [.ptr 0 0, .r (.str t)] (oB s e true) (fun v h' => v = .tuple [] ∧ h' = oB s e true) := by
 refine spec_of_go (N := 18) Tryz.func70 rfl (by decide) rfl rfl ?_
 refine zB ?_
 refine pF ?_
 refine zB ?_
 iterate 2 refine pA ?_
 refine pE ?_
 refine ag_false rfl (by simp; omega) ?_
 refine ag_skip ?_
 refine ag_reg ?_
 iterate 3 refine pA ?_
 refine ar_pur (own_ro_bytes (w_Num (t.length : Int) 2 2 (by decide)) (by rw [numL_length])) rfl rfl rfl rfl rfl rfl rfl ?_
 refine pA ?_
 refine ar_qd rfl (qop_strBytes tOk rfl) rfl rfl rfl rfl ?_
 refine pN ?_ ?_
 ·simp
 refine ar_ent (ent_body 2 (.mixed [.r (.bs (numL 2 (t.length : Int))), .r (.bs t)]) (.plain [.bs (numL 2 (t.length : Int)), .bs t]) rfl rfl) ?_
 refine ar_ent (ent_freeze 14 rfl rfl rfl trivial) ?_
 refine ar_ent (ent_reg 14 (roL [numL 2 (t.length : Int), t]) rfl) ?_
 refine ar_pur (w_Cat [numL 2 (t.length : Int), t] (by simp) (by simp [numL_length]; omega)) rfl rfl rfl rfl rfl rfl rfl ?_
 refine ar_ent (ent_reg 15 (.r (.bs (txt t))) (by show AVal.r (.bs _) = _; exact eqBsv (by simp [txt]))) ?_
 refine pA ?_
 refine ar_obj [0, 1] (w_putEB _ 0 s e he) rfl rfl (handed_of rfl rfl (by decide) ⟨rfl, rfl, rfl, rfl, rfl, rfl, trivial⟩) rfl rfl rfl rfl ?_
 rintro _ _ ⟨rfl, rfl⟩
 refine ⟨_, _, rfl, ?_⟩
 refine ar_nil ?_
 refine ag_ent (ent_weak (g' := []) (h' := oB s e true) [0, 1] rfl rfl rfl rfl trivial ?_ rfl) ?_
 ·exact ⟨⟨rfl, rfl, rfl⟩, ⟨rfl, rfl, rfl⟩, trivial⟩
 refine ag_end tOk Tryz.func70 rfl rfl (by simp) ?_
 exact ⟨rfl, rfl⟩
theorem w_TextRB (s : List UInt8) (t : List UInt8) (ht : t.length ≤ 140737488351232) (hn : t.length > 1024) : Spec Tryz.prog 70 [.ptr 0 0, .r (.str t)] (oB s 0 true) (fun v h' => v = .tuple [] ∧ h' = oB s 5 true) := by
 refine spec_of_go (N := 18) Tryz.func70 rfl (by decide) rfl rfl ?_
 refine zB ?_
 refine pF ?_
 refine zB ?_
 iterate 2 refine pA ?_
 refine pE ?_
 refine ag_true rfl (by simp; omega) ?_
 refine ag_reg ?_
 refine pE ?_
 refine ag_reg ?_
 iterate 3 refine pA ?_
 refine ar_pur (own_ro_bytes (w_Num (t.length : Int) 2 2 (by decide)) (by rw [numL_length])) rfl rfl rfl rfl rfl rfl rfl ?_
 refine pA ?_
 refine ar_qd rfl (qop_strBytes tOk rfl) rfl rfl rfl rfl ?_
 refine pN ?_ ?_
 ·simp
 refine ar_ent (ent_body 2 (.mixed [.r (.bs (numL 2 (t.length : Int))), .r (.bs t)]) (.plain [.bs (numL 2 (t.length : Int)), .bs t]) rfl rfl) ?_
 refine ar_ent (ent_freeze 14 rfl rfl rfl trivial) ?_
 refine ar_ent (ent_reg 14 (roL [numL 2 (t.length : Int), t]) rfl) ?_
 refine ar_pur (w_Cat [numL 2 (t.length : Int), t] (by simp) (by simp [numL_length]; omega)) rfl rfl rfl rfl rfl rfl rfl ?_
 refine ar_ent (ent_reg 15 (.r (.bs (txt t))) (by show AVal.r (.bs _) = _; exact eqBsv (by simp [txt]))) ?_
 refine pA ?_
 refine ar_obj [0, 1] (w_putRB _ 5 s (by decide)) rfl rfl (handed_of rfl rfl (by decide) ⟨rfl, rfl, rfl, rfl, rfl, rfl, trivial⟩) rfl rfl rfl rfl ?_
 rintro _ _ ⟨rfl, rfl⟩
 refine ⟨_, _, rfl, ?_⟩
 refine ar_nil ?_
 refine ag_ent (ent_weak (g' := []) (h' := oB s 5 true) [0, 1] rfl rfl rfl rfl trivial ?_ rfl) ?_
 ·exact ⟨⟨rfl, rfl, rfl⟩, ⟨rfl, rfl, rfl⟩, trivial⟩
 refine ag_end tOk Tryz.func70 rfl rfl (by simp) ?_
 exact ⟨rfl, rfl⟩
theorem w_TextWN (t : List UInt8) (ht : t.length ≤ 140737488351232) (hn : ¬ t.length > 1024) : Spec Tryz.prog 70 [.ptr 0 0, .r (.str t)] (oN 0 true) (fun v h' => v = .tuple [] ∧ h' = oB (txt t) 0 true) := by
 refine spec_of_go (N := 18) Tryz.func70 rfl (by decide) rfl rfl ?_
 refine zB ?_
 refine pF ?_
 refine zB ?_
 iterate 2 refine pA ?_
 refine pE ?_
 refine ag_false rfl (by simp; omega) ?_
 refine ag_skip ?_
 refine ag_reg ?_
 iterate 3 refine pA ?_
 refine ar_pur (own_ro_bytes (w_Num (t.length : Int) 2 2 (by decide)) (by rw [numL_length])) rfl rfl rfl rfl rfl rfl rfl ?_
 refine pA ?_
 refine ar_qd rfl (qop_strBytes tOk rfl) rfl rfl rfl rfl ?_
 refine pN ?_ ?_
 ·simp
 refine ar_ent (ent_body 1 (.mixed [.r (.bs (numL 2 (t.length : Int))), .r (.bs t)]) (.plain [.bs (numL 2 (t.length : Int)), .bs t]) rfl rfl) ?_
 refine ar_ent (ent_freeze 14 rfl rfl rfl trivial) ?_
 refine ar_ent (ent_reg 14 (roL [numL 2 (t.length : Int), t]) rfl) ?_
 refine ar_pur (w_Cat [numL 2 (t.length : Int), t] (by simp) (by simp [numL_length]; omega)) rfl rfl rfl rfl rfl rfl rfl ?_
 refine ar_ent (ent_reg 15 (.r (.bs (txt t))) (by show AVal.r (.bs _) = _; exact eqBsv (by simp [txt]))) ?_
 refine pA ?_
 refine ar_obj [0] (w_putWN (txt t) (txt_ne t) (by rw [txt_length]; omega)) rfl rfl (handed_of rfl rfl (by decide) ⟨rfl, rfl, rfl, trivial⟩) rfl rfl rfl rfl ?_
 rintro _ _ ⟨rfl, rfl⟩
 refine ⟨_, _, rfl, ?_⟩
 refine ar_nil ?_
 refine ag_ent (ent_weak (g' := []) (h' := oB (txt t) 0 true) [0, 2] rfl rfl rfl rfl trivial ?_ rfl) ?_
 ·exact ⟨⟨rfl, rfl, rfl⟩, ⟨rfl, rfl, rfl⟩, trivial⟩
 refine ag_end tOk Tryz.func70 rfl rfl (by simp) ?_
 exact ⟨rfl, rfl⟩
theorem w_TextWB (s : List UInt8) (t : List UInt8) (ht : t.length ≤ 140737488351232) (hn : ¬ t.length > 1024) (hl : s.length + (2 + t.length) ≤ 8192) : Spec Tryz.prog 70 [.ptr 0 0, .r (.str t)] (oB s 0 true) (fun v h' => v = .tuple [] ∧ h' = oC (s ++ txt t) 0 true) := by
 refine spec_of_go (N := 18) Tryz.func70 rfl (by decide) rfl rfl ?_
 refine zB ?_
 refine pF ?_
 refine zB ?_
 iterate 2 refine pA ?_
 refine pE ?_
 refine ag_false rfl (by simp; omega) ?_
 refine ag_skip ?_
 refine ag_reg ?_
 iterate 3 refine pA ?_
 refine ar_pur (own_ro_bytes (w_Num (t.length : Int) 2 2 (by decide)) (by rw [numL_length])) rfl rfl rfl rfl rfl rfl rfl ?_
 refine pA ?_
 refine ar_qd rfl (qop_strBytes tOk rfl) rfl rfl rfl rfl ?_
 refine pN ?_ ?_
 ·simp
 refine ar_ent (ent_body 2 (.mixed [.r (.bs (numL 2 (t.length : Int))), .r (.bs t)]) (.plain [.bs (numL 2 (t.length : Int)), .bs t]) rfl rfl) ?_
 refine ar_ent (ent_freeze 14 rfl rfl rfl trivial) ?_
 refine ar_ent (ent_reg 14 (roL [numL 2 (t.length : Int), t]) rfl) ?_
 refine ar_pur (w_Cat [numL 2 (t.length : Int), t] (by simp) (by simp [numL_length]; omega)) rfl rfl rfl rfl rfl rfl rfl ?_
 refine ar_ent (ent_reg 15 (.r (.bs (txt t))) (by show AVal.r (.bs _) = _; exact eqBsv (by simp [txt]))) ?_
 refine pA ?_
 refine ar_obj [0, 1] (w_putWB (txt t) s (by rw [txt_length]; exact hl)) rfl rfl (handed_of rfl rfl (by decide) ⟨rfl, rfl, rfl, rfl, rfl, rfl, trivial⟩) rfl rfl rfl rfl ?_
 rintro _ _ ⟨rfl, rfl⟩
 refine ⟨_, _, rfl, ?_⟩
 refine ar_nil ?_
 refine ag_ent (ent_weak (g' := []) (h' := oC (s ++ txt t) 0 true) [0, 1, 3] rfl rfl rfl rfl trivial ?_ rfl) ?_
 ·exact ⟨⟨rfl, rfl, rfl⟩, ⟨rfl, rfl, rfl⟩, trivial⟩
 refine ag_end tOk Tryz.func70 rfl rfl (by simp) ?_
 exact ⟨rfl, rfl⟩
theorem w_TextLB (s : List UInt8) (t : List UInt8) (ht : t.length ≤ 140737488351232) (hn : ¬ t.length > 1024) (hs : s.length ≤ 8192) (hl : s.length + (2 + t.length) > 8192) : Spec Tryz.prog 70 [.ptr 0 0, .r (.str t)] (oB s 0 true) (fun v h' => v = .tuple [] ∧ h' = oB s 5 true) := by
 refine spec_of_go (N := 18) Tryz.func70 rfl (by decide) rfl rfl ?_
 refine zB ?_
 refine pF ?_
 refine zB ?_
 iterate 2 refine pA ?_
 refine pE ?_
 refine ag_false rfl (by simp; omega) ?_
 refine ag_skip ?_
 refine ag_reg ?_
 iterate 3 refine pA ?_
 refine ar_pur (own_ro_bytes (w_Num (t.length : Int) 2 2 (by decide)) (by rw [numL_length])) rfl rfl rfl rfl rfl rfl rfl ?_
 refine pA ?_
 refine ar_qd rfl (qop_strBytes tOk rfl) rfl rfl rfl rfl ?_
 refine pN ?_ ?_
 ·simp
 refine ar_ent (ent_body 2 (.mixed [.r (.bs (numL 2 (t.length : Int))), .r (.bs t)]) (.plain [.bs (numL 2 (t.length : Int)), .bs t]) rfl rfl) ?_
 refine ar_ent (ent_freeze 14 rfl rfl rfl trivial) ?_
 refine ar_ent (ent_reg 14 (roL [numL 2 (t.length : Int), t]) rfl) ?_
 refine ar_pur (w_Cat [numL 2 (t.length : Int), t] (by simp) (by simp [numL_length]; omega)) rfl rfl rfl rfl rfl rfl rfl ?_
 refine ar_ent (ent_reg 15 (.r (.bs (txt t))) (by show AVal.r (.bs _) = _; exact eqBsv (by simp [txt]))) ?_
 refine pA ?_
 refine ar_obj [0, 1] (w_putLB (txt t) s hs (by rw [txt_length]; omega) (by rw [txt_length]; exact hl)) rfl rfl (handed_of rfl rfl (by decide) ⟨rfl, rfl, rfl, rfl, rfl, rfl, trivial⟩) rfl rfl rfl rfl ?_
 rintro _ _ ⟨rfl, rfl⟩
 refine ⟨_, _, rfl, ?_⟩
 refine ar_nil ?_
 refine ag_ent (ent_weak (g' := []) (h' := oB s 5 true) [0, 1] rfl rfl rfl rfl trivial ?_ rfl) ?_
 ·exact ⟨⟨rfl, rfl, rfl⟩, ⟨rfl, rfl, rfl⟩, trivial⟩
 refine ag_end tOk Tryz.func70 rfl rfl (by simp) ?_
 exact ⟨rfl, rfl⟩
theorem w_WideEN (x0 x1 x2 x3 : Int) (h0 : U64 x0) (h1 : U64 x1) (h2 : U64 x2) (h3 : U64 x3) (e : Int) (he : e ≠ 0) : Spec Tryz.prog 73 [.ptr 0 0, wA x0 x1 x2 x3] (oN e true) (fun v h' => v = .tuple [] ∧ h' = oN e true) := by
 refine spec_of_go (N := 8) Tryz.func73 rfl (by decide) rfl rfl ?_
 refine zB ?_
 refine pM ?_
 refine ar_nil ?_
 refine ag_reg ?_
 refine pA ?_
 refine pB ?_
 refine ar_pur (own_ro_bytes (w_Wide x0 x1 x2 x3 h0 h1 h2 h3) (by rw [wideL_length])) rfl rfl rfl rfl rfl rfl rfl ?_
 refine ar_obj [0] (w_putEN _ 0 e he) rfl rfl (handed_of rfl rfl (by decide) ⟨rfl, rfl, rfl, trivial⟩) rfl rfl rfl rfl ?_
 rintro _ _ ⟨rfl, rfl⟩
 refine ⟨_, _, rfl, ?_⟩
 refine ar_nil ?_
 refine ag_ent (ent_weak (g' := []) (h' := oN e true) [0] rfl rfl rfl rfl trivial ?_ rfl) ?_
 ·exact ⟨⟨rfl, rfl, rfl⟩, trivial⟩
 refine ag_end tOk Tryz.func73 rfl rfl (by simp) ?_
 exact ⟨rfl, rfl⟩
theorem w_WideEB (s : List UInt8) (x0 x1 x2 x3 : Int) (h0 : U64 x0) (h1 : U64 x1) (h2 : U64 x2) (h3 : U64 x3) (e : Int) (he : e ≠ 0) : Spec Tryz.prog 73 [.ptr 0 0, wA x0 x1 x2 x3] (oB s e true) (fun v h' => v = .tuple [] ∧ h' = oB s e true) := by
 refine spec_of_go (N := 8) Tryz.func73 rfl (by decide) rfl rfl ?_
 refine zB ?_
 refine pM ?_
 refine ar_nil ?_
 refine ag_reg ?_
 refine pA ?_
 refine pB ?_
 refine ar_pur (own_ro_bytes (w_Wide x0 x1 x2 x3 h0 h1 h2 h3) (by rw [wideL_length])) rfl rfl rfl rfl rfl rfl rfl ?_
 refine ar_obj [0, 1] (w_putEB _ 0 s e he) rfl rfl (handed_of rfl rfl (by decide) ⟨rfl, rfl, rfl, rfl, rfl, rfl, trivial⟩) rfl rfl rfl rfl ?_
 rintro _ _ ⟨rfl, rfl⟩
 refine ⟨_, _, rfl, ?_⟩
 refine ar_nil ?_
 refine ag_ent (ent_weak (g' := []) (h' := oB s e true) [0, 1] rfl rfl rfl rfl trivial ?_ rfl) ?_
 ·exact ⟨⟨rfl, rfl, rfl⟩, ⟨rfl, rfl, rfl⟩, trivial⟩
 refine ag_end tOk Tryz.func73 rfl rfl (by simp) ?_
 exact ⟨rfl, rfl⟩
theorem w_WideWN (x0 x1 x2 x3 : Int) (h0 : U64 x0) (h1 : U64 x1) (h2 : U64 x2) (h3 : U64 x3)  : Spec Tryz.prog 73 [.ptr 0 0, wA x0 x1 x2 x3] (oN 0 true) (fun v h' => v = .tuple [] ∧ h' = oB (wideL x0 x1 x2 x3) 0 true) := by
 refine spec_of_go (N := 8) Tryz.func73 rfl (by decide) rfl rfl ?_
 refine zB ?_
 refine pM ?_
 refine ar_nil ?_
 refine ag_reg ?_
 refine pA ?_
 refine pB ?_
 refine ar_pur (own_ro_bytes (w_Wide x0 x1 x2 x3 h0 h1 h2 h3) (by rw [wideL_length])) rfl rfl rfl rfl rfl rfl rfl ?_
 refine ar_obj [0] (w_putWN (wideL x0 x1 x2 x3) (by intro h; have := congrArg List.length h; rw [wideL_length] at this; simp at this) (by rw [wideL_length]; decide)) rfl rfl (handed_of rfl rfl (by decide) ⟨rfl, rfl, rfl, trivial⟩) rfl rfl rfl rfl ?_
 rintro _ _ ⟨rfl, rfl⟩
 refine ⟨_, _, rfl, ?_⟩
 refine ar_nil ?_
 refine ag_ent (ent_weak (g' := []) (h' := oB (wideL x0 x1 x2 x3) 0 true) [0, 2] rfl rfl rfl rfl trivial ?_ rfl) ?_
 ·exact ⟨⟨rfl, rfl, rfl⟩, ⟨rfl, rfl, rfl⟩, trivial⟩
 refine ag_end tOk Tryz.func73 rfl rfl (by simp) ?_
 exact ⟨rfl, rfl⟩
theorem w_WideWB (s : List UInt8) (x0 x1 x2 x3 : Int) (h0 : U64 x0) (h1 : U64 x1) (h2 : U64 x2) (h3 : U64 x3) (hl : s.length + 32 ≤ 8192) : Spec Tryz.prog 73 [.ptr 0 0, wA x0 x1 x2 x3] (oB s 0 true) (fun v h' => v = .tuple [] ∧ h' = oC (s ++ (wideL x0 x1 x2 x3)) 0 true) := by
 refine spec_of_go (N := 8) Tryz.func73 rfl (by decide) rfl rfl ?_
 refine zB ?_
 refine pM ?_
 refine ar_nil ?_
 refine ag_reg ?_
 refine pA ?_
 refine pB ?_
 refine ar_pur (own_ro_bytes (w_Wide x0 x1 x2 x3 h0 h1 h2 h3) (by rw [wideL_length])) rfl rfl rfl rfl rfl rfl rfl ?_
 refine ar_obj [0, 1] (w_putWB (wideL x0 x1 x2 x3) s (by rw [wideL_length]; exact hl)) rfl rfl (handed_of rfl rfl (by decide) ⟨rfl, rfl, rfl, rfl, rfl, rfl, trivial⟩) rfl rfl rfl rfl ?_
 rintro _ _ ⟨rfl, rfl⟩
 refine ⟨_, _, rfl, ?_⟩
 refine ar_nil ?_
 refine ag_ent (ent_weak (g' := []) (h' := oC (s ++ (wideL x0 x1 x2 x3)) 0 true) [0, 1, 3] rfl rfl rfl rfl trivial ?_ rfl) ?_
 ·exact ⟨⟨rfl, rfl, rfl⟩, ⟨rfl, rfl, rfl⟩, trivial⟩
 refine ag_end tOk Tryz.func73 rfl rfl (by simp) ?_
 exact ⟨rfl, rfl⟩
theorem w_WideLB (s : List UInt8) (x0 x1 x2 x3 : Int) (h0 : U64 x0) (h1 : U64 x1) (h2 : U64 x2) (h3 : U64 x3) (hs : s.length ≤ 8192) (hl : s.length + 32 > 8192) : Spec Tryz.prog 73 [.ptr 0 0, wA x0 x1 x2 x3] (oB s 0 true) (fun v h' => v = .tuple [] ∧ h' = oB s 5 true) := by
 refine spec_of_go (N := 8) Tryz.func73 rfl (by decide) rfl rfl ?_
 refine zB ?_
 refine pM ?_
 refine ar_nil ?_
 refine ag_reg ?_
 refine pA ?_
 refine pB ?_
 refine ar_pur (own_ro_bytes (w_Wide x0 x1 x2 x3 h0 h1 h2 h3) (by rw [wideL_length])) rfl rfl rfl rfl rfl rfl rfl ?_
 refine ar_obj [0, 1] (w_putLB (wideL x0 x1 x2 x3) s hs (by rw [wideL_length]; decide) (by rw [wideL_length]; exact hl)) rfl rfl (handed_of rfl rfl (by decide) ⟨rfl, rfl, rfl, rfl, rfl, rfl, trivial⟩) rfl rfl rfl rfl ?_
 rintro _ _ ⟨rfl, rfl⟩
 refine ⟨_, _, rfl, ?_⟩
 refine ar_nil ?_
 refine ag_ent (ent_weak (g' := []) (h' := oB s 5 true) [0, 1] rfl rfl rfl rfl trivial ?_ rfl) ?_
 ·exact ⟨⟨rfl, rfl, rfl⟩, ⟨rfl, rfl, rfl⟩, trivial⟩
 refine ag_end tOk Tryz.func73 rfl rfl (by simp) ?_
 exact ⟨rfl, rfl⟩
theorem w_NewO  : Spec Tryz.prog 69 [] ⟨0, [], false⟩ (fun v h' => v = .ptr 0 0 ∧ h' = oN 0 true) := by
 refine spec_of_go (N := 3) Tryz.func69 rfl (by decide) rfl rfl ?_
 refine zB ?_
 refine pG ?_
 refine pC ?_ ?_
 ·simp
 refine pM ?_
 refine pE ?_
 refine ag_ret tOk Tryz.func69 rfl rfl (by simp) ?_
 exact ⟨rfl, rfl⟩
theorem w_DoneEN (e : Int) (he : e ≠ 0) : Spec Tryz.prog 74 [.ptr 0 0] (oN e true) (fun v h' => v = .tuple [.r (.bs []), .r (.int .i64 e)] ∧ h' = oN e true) := by
 refine spec_of_go (N := 30) Tryz.func74 rfl (by decide) rfl rfl ?_
 refine zB ?_
 refine pA ?_
 refine pF ?_
 refine bX ?_
 iterate 3 refine pA ?_
 iterate 3 refine ar_pure tOk rfl rfl (by simp) trivial ?_
 refine ar_load tOk rfl rfl (by simp) trivial ?_
 refine ar_pure tOk rfl rfl (by simp) trivial ?_
 refine pA ?_
 refine pE ?_
 refine ag_false rfl (rfl) ?_
 refine zB ?_
 iterate 3 refine pA ?_
 refine pB ?_
 refine pA ?_
 refine pE ?_
 refine ag_true rfl (by simp [he]) ?_
 refine ag_seq ?_
 refine qD ?_
 iterate 3 refine qA ?_
 refine qL ?_
 refine qA ?_
 refine qE ?_
 refine ag_ent (ent_nil 2 (.bs []) rfl (.inl rfl)) ?_
 refine ag_ret tOk Tryz.func74 rfl rfl (by simp) ?_
 exact ⟨rfl, rfl⟩
theorem w_DoneEB (s : List UInt8) (e : Int) (he : e ≠ 0) : Spec Tryz.prog 74 [.ptr 0 0] (oB s e true) (fun v h' => v = .tuple [.r (.bs []), .r (.int .i64 e)] ∧ h' = oB s e true) := by
 refine spec_of_go (N := 30) Tryz.func74 rfl (by decide) rfl rfl ?_
 refine zB ?_
 refine pA ?_
 refine pF ?_
 refine bX ?_
 iterate 3 refine pA ?_
 iterate 3 refine ar_pure tOk rfl rfl (by simp) trivial ?_
 refine ar_load tOk rfl rfl (by simp) trivial ?_
 refine ar_pure tOk rfl rfl (by simp) trivial ?_
 refine pA ?_
 refine pE ?_
 refine ag_false rfl (rfl) ?_
 refine zB ?_
 iterate 3 refine pA ?_
 refine pB ?_
 refine pA ?_
 refine pE ?_
 refine ag_true rfl (by simp [he]) ?_
 refine ag_seq ?_
 refine qD ?_
 iterate 3 refine qA ?_
 refine qL ?_
 refine qA ?_
 refine qE ?_
 refine ag_ent (ent_nil 2 (.bs []) rfl (.inl rfl)) ?_
 refine ag_ret tOk Tryz.func74 rfl rfl (by simp) ?_
 exact ⟨rfl, rfl⟩
theorem w_DoneN  : Spec Tryz.prog 74 [.ptr 0 0] (oN 0 true) (fun v h' => v = .tuple [.r (.bs []), .r (.int .i64 0)] ∧ h' = oN 0 true) := by
 refine spec_of_go (N := 30) Tryz.func74 rfl (by decide) rfl rfl ?_
 refine zB ?_
 refine pA ?_
 refine pF ?_
 refine bX ?_
 iterate 3 refine pA ?_
 iterate 3 refine ar_pure tOk rfl rfl (by simp) trivial ?_
 refine ar_load tOk rfl rfl (by simp) trivial ?_
 refine ar_pure tOk rfl rfl (by simp) trivial ?_
 refine pA ?_
 refine pE ?_
 refine ag_false rfl (rfl) ?_
 refine zB ?_
 iterate 3 refine pA ?_
 refine pB ?_
 refine pA ?_
 refine pE ?_
 refine ag_false rfl (rfl) ?_
 refine ag_skip ?_
 refine ag_inBlock ?_
 refine zB ?_
 iterate 3 refine pA ?_
 refine pB ?_
 refine pN ?_ ?_
 ·simp
 refine ar_ent (ent_blk 1 (.mixed [.r .nil]) (.mixed [.r (.bs [])]) rfl (fun _ _ _ _ h => nil_bs h)) ?_
 refine ar_ent (ent_body 1 (.mixed [.r (.bs [])]) (.plain [.bs []]) rfl rfl) ?_
 refine ar_ent (ent_freeze 28 rfl rfl rfl trivial) ?_
 refine ar_ent (ent_reg 28 (roL [[]]) rfl) ?_
 refine ar_pur (w_Cat [[]] (by decide) (by decide)) rfl rfl rfl rfl rfl rfl rfl ?_
 refine pA ?_
 refine pE ?_
 refine ag_ent (ent_weak (g' := [(2, .r (.bs [])), (3, .r (.int .i64 0))]) (h' := oN 0 true) [0] rfl rfl rfl rfl ?_ ?_ rfl) ?_
 ·exact ⟨⟨rfl, rfl⟩, ⟨rfl, rfl⟩, trivial⟩
 ·exact ⟨⟨rfl, rfl, rfl⟩, trivial⟩
 refine ag_ret tOk Tryz.func74 rfl rfl (by simp) ?_
 exact ⟨rfl, rfl⟩
theorem w_DoneB (s : List UInt8) (hs : s.length ≤ 140737488355328) : Spec Tryz.prog 74 [.ptr 0 0] (oB s 0 true) (fun v h' => v = .tuple [.r (.bs s), .r (.int .i64 0)] ∧ h' = oB s 0 true) := by
 refine spec_of_go (N := 30) Tryz.func74 rfl (by decide) rfl rfl ?_
 refine zB ?_
 refine pA ?_
 refine pF ?_
 refine bX ?_
 iterate 3 refine pA ?_
 iterate 3 refine ar_pure tOk rfl rfl (by simp) trivial ?_
 refine ar_load tOk rfl rfl (by simp) trivial ?_
 refine ar_pure tOk rfl rfl (by simp) trivial ?_
 refine pA ?_
 refine pE ?_
 refine ag_false rfl (rfl) ?_
 refine zB ?_
 iterate 3 refine pA ?_
 refine pB ?_
 refine pA ?_
 refine pE ?_
 refine ag_false rfl (rfl) ?_
 refine ag_skip ?_
 refine ag_inBlock ?_
 refine zB ?_
 iterate 3 refine pA ?_
 refine pB ?_
 refine pN ?_ ?_
 ·simp
 refine ar_qd rfl (qop_objR [2, 1] (w_CatP s hs) (by rintro _ _ ⟨rfl, rfl⟩; exact ⟨rfl, rfl⟩) rfl rfl (handed_of rfl rfl (by decide) ⟨rfl, rfl, rfl, rfl, rfl, rfl, trivial⟩) rfl rfl) rfl rfl rfl rfl ?_
 refine pA ?_
 refine pE ?_
 refine ag_ent (ent_weak (g' := [(2, .r (.bs s)), (3, .r (.int .i64 0))]) (h' := oB s 0 true) [0, 1] rfl rfl rfl rfl ?_ ?_ rfl) ?_
 ·exact ⟨⟨rfl, rfl⟩, ⟨rfl, rfl⟩, trivial⟩
 ·exact ⟨⟨rfl, rfl, rfl⟩, ⟨rfl, rfl, rfl⟩, trivial⟩
 refine ag_ret tOk Tryz.func74 rfl rfl (by simp) ?_
 exact ⟨rfl, rfl⟩
end Go.Proofs.YtccdhgmkjakjkaaGreat

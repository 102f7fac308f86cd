/-
  WALKS: fields read, by the reference. (Printed by gen.py out of w_frd.py.)
-/
import Derived.Test.YtppniggpdepabaaFWr
import Derived.Test.YtppniggpdepabaaMB
namespace Go.Proofs.Ytppniggpdepabaa
open Go
set_option maxRecDepth 20000
set_option linter.unusedVariables false
set_option linter.unusedSimpArgs false

/-- So many octets, of octets on their way with an error or none. -/
def tkR (w : List UInt8 × Int) (n : Int) : List UInt8 × (List UInt8 × Int) := if w.2 ≠ 0 then ([], w) else if n > (w.1.length : Int) then ([], ([], 16)) else (w.1.take n.toNat, (w.1.drop n.toNat, 0))
def gNu (w : List UInt8 × Int) (m : Int) : Int × (List UInt8 × Int) := if (tkR w 6).2.2 = 0 ∧ intB (tkR w 6).1 > min m 1099511627776 then (0, ([], 4)) else (intB (tkR w 6).1, (tkR w 6).2)
def gTx (w : List UInt8 × Int) (m : Int) : List UInt8 × (List UInt8 × Int) := if (tkR w 2).2.2 = 0 ∧ intB (tkR w 2).1 > min m 1024 then ([], ([], 4)) else tkR (tkR w 2).2 (intB (tkR w 2).1)
def spR (w : List UInt8 × Int) : List UInt8 × Int := if w.2 = 0 then ([], 16) else w
def opR (b : List UInt8) : List UInt8 × Int := if b.length > 8192 then ([], 5) else (b, 0)
/-- Four words of 32 octets; of none they are zero. -/
def wd (b : List UInt8) : AVal := wA (fB b 24 8) (fB b 16 8) (fB b 8 8) (fB b 0 8)
theorem fB_nil (s n : Nat) : fB [] s n = 0 := by simp [fB, intF]
theorem wd_nil : wd [] = wA 0 0 0 0 := by unfold wd; simp only [fB_nil]

theorem w_rtkE (w : List UInt8 × Int) (n : Int) (he : w.2 ≠ 0) : Pur Try.prog 88 [wV w, .r (.int .i64 n)] (.tuple [.r (.bs []), wV w]) := by
  refine spec_of_go (N := 25) Try.func88 rfl (by decide) rfl rfl ?_
  refine z2 ?_
  refine ar_new tOk rfl rfl rfl trivial ?_
  refine p1 ?_
  refine ar_new tOk rfl rfl rfl ?_ ?_
  · simp
  refine z1 ?_
  refine z2 ?_
  refine p1 ?_
  refine p2 ?_
  refine p1 ?_
  refine ar_nil ?_
  refine ag_true rfl (by simp [he]) ?_
  refine ag_seq ?_
  apply ag_draw1 [] (by kernel_rfl) (by kernel_rfl)
  refine aq_load0 tOk rfl (by kernel_rfl) rfl rfl trivial ?_
  refine aq_pure tOk rfl rfl rfl trivial ?_
  refine aq_store10 tOk rfl rfl rfl rfl trivial ?_
  refine aq_nil rfl ?_
  refine ag_ent (ent_nil 4 (.bs []) rfl (.inl rfl)) ?_
  refine ag_ret tOk Try.func88 rfl rfl (by simp) ?_
  rfl

theorem w_rtkL (s : List UInt8) (n : Int) (h : n > (s.length : Int)) : Pur Try.prog 88 [wV (s, 0), .r (.int .i64 n)] (.tuple [.r (.bs []), wV ([], 16)]) := by
  refine spec_of_go (N := 25) Try.func88 rfl (by decide) rfl rfl ?_
  refine z2 ?_
  refine ar_new tOk rfl rfl rfl trivial ?_
  refine p1 ?_
  refine ar_new tOk rfl rfl rfl ?_ ?_
  · simp
  refine z1 ?_
  refine z2 ?_
  refine p1 ?_
  refine p2 ?_
  refine p1 ?_
  refine ar_nil ?_
  refine ag_false rfl (by simp) ?_
  refine ag_skip ?_
  refine ag_seq ?_
  refine z2 ?_
  iterate 2 refine p1 ?_
  refine p2 ?_
  iterate 2 refine p1 ?_
  refine ar_nil ?_
  refine ag_true rfl (by simp; omega) ?_
  refine z2 ?_
  refine ar_pure tOk rfl rfl rfl ?_ ?_
  · simp
  refine p1 ?_
  refine ar_store tOk rfl rfl rfl trivial ?_
  refine ar_nil ?_
  refine ag_ent (ent_nil 4 (.bs []) rfl (.inl rfl)) ?_
  refine ag_ent (ent_blk 1 (.mixed [.r .nil, .r (.int .i64 16)]) (.mixed [.r (.bs []), .r (.int .i64 16)]) rfl (fun _ _ _ _ h => nil_bs h)) ?_
  refine ag_ret tOk Try.func88 rfl rfl (by simp) ?_
  rfl

theorem w_rtkW (s : List UInt8) (j : Nat) (h : j ≤ s.length) : Pur Try.prog 88 [wV (s, 0), .r (.int .i64 (j : Int))] (.tuple [.r (.bs (s.take j)), wV (s.drop j, 0)]) := by
  refine spec_of_go (N := 25) Try.func88 rfl (by decide) rfl rfl ?_
  refine z2 ?_
  refine ar_new tOk rfl rfl rfl trivial ?_
  refine p1 ?_
  refine ar_new tOk rfl rfl rfl ?_ ?_
  · simp
  refine z1 ?_
  refine z2 ?_
  refine p1 ?_
  refine p2 ?_
  refine p1 ?_
  refine ar_nil ?_
  refine ag_false rfl (by simp) ?_
  refine ag_skip ?_
  refine ag_seq ?_
  refine z2 ?_
  iterate 2 refine p1 ?_
  refine p2 ?_
  iterate 2 refine p1 ?_
  refine ar_nil ?_
  refine ag_false rfl (by simp; omega) ?_
  refine ag_skip ?_
  refine ag_seq ?_
  apply ag_draw1 [] (by kernel_rfl) (by kernel_rfl)
  refine aq_pure tOk rfl rfl rfl trivial ?_
  refine aq_load0 tOk rfl (by kernel_rfl) rfl rfl trivial ?_
  refine aq_pure tOk rfl rfl rfl trivial ?_
  refine aq_pure tOk rfl rfl rfl ?_ ?_
  · simp only [boundsOk]; omega
  refine aq_pure tOk rfl rfl rfl trivial ?_
  refine aq_load0 tOk rfl (by kernel_rfl) rfl rfl trivial ?_
  refine aq_pure tOk rfl rfl rfl trivial ?_
  refine aq_pure tOk rfl rfl rfl ?_ ?_
  · simp only [boundsOk]; omega
  refine aq_pure tOk rfl rfl rfl ?_ ?_
  · simp
  refine aq_pure tOk rfl rfl rfl trivial ?_
  refine aq_store10 tOk rfl rfl rfl rfl trivial ?_
  refine aq_nil rfl ?_
  refine ag_ret tOk Try.func88 rfl rfl (by simp) ?_
  show AVal.tuple [.r (.bs _), .agg [.r (.bs _), _]] = _
  simp [cutL, mulz, wV]

theorem w_rtk (w : List UInt8 × Int) (n : Int) (hn : 0 ≤ n) : Pur Try.prog 88 [wV w, .r (.int .i64 n)] (.tuple [.r (.bs (tkR w n).1), wV (tkR w n).2]) := by
  obtain ⟨s, e⟩ := w
  unfold tkR
  by_cases h1 : e = 0
  · subst h1
    rw [if_neg (by simp)]
    by_cases h2 : n > (s.length : Int)
    · rw [if_pos h2]; exact w_rtkL s n h2
    · rw [if_neg h2]
      obtain ⟨j, rfl⟩ := Int.eq_ofNat_of_zero_le hn
      exact w_rtkW s j (by omega)
  · rw [if_pos h1]; exact w_rtkE (s, e) n h1
theorem intF_nn (b : List UInt8) : 0 ≤ intB b := by
  unfold intB
  have := (intF_bound (b.take 7).length (b.take 7) (Nat.le_refl _)).1
  rwa [List.take_length] at this

theorem w_rGNz (w : List UInt8 × Int) (m : Int) (hz : (tkR w 6).2.2 ≠ 0) : Pur Try.prog 49 [wV w, .r (.int .i64 m)] (.tuple [.r (.int .i64 (intB (tkR w 6).1)), wV (tkR w 6).2]) := by
  refine spec_of_go (N := 28) Try.func49 rfl (by decide) rfl rfl ?_
  refine z2 ?_
  refine ar_new tOk rfl rfl rfl trivial ?_
  refine p1 ?_
  refine ar_new tOk rfl rfl rfl ?_ ?_
  · simp
  refine z3 ?_
  refine p2 ?_
  refine ar_pur (w_rtk w 6 (by decide)) rfl rfl rfl rfl rfl rfl rfl ?_
  iterate 3 refine p1 ?_
  refine ar_new tOk rfl rfl rfl ?_ ?_
  · simp
  refine p1 ?_
  refine ar_store tOk rfl rfl rfl trivial ?_
  refine z3 ?_
  refine p1 ?_
  refine ar_pur (w_rInt _) rfl rfl rfl rfl rfl rfl rfl ?_
  refine p1 ?_
  refine z1 ?_
  refine z2 ?_
  refine p1 ?_
  refine p2 ?_
  refine p1 ?_
  refine ar_ent (ent_reg 18 (.r (.bool false)) (by show AVal.r (.bool _) = _; exact eqB (by simp [hz]))) ?_
  refine p1 ?_
  iterate 4 refine ar_skip rfl rfl rfl ?_
  refine p1 ?_
  refine ar_nil ?_
  refine ag_false rfl (by rfl) ?_
  refine ag_skip ?_
  refine ag_seq ?_
  apply ag_draw1 [] (by kernel_rfl) (by kernel_rfl)
  refine aq_pure tOk rfl rfl rfl trivial ?_
  refine aq_load0 tOk rfl (by kernel_rfl) rfl rfl trivial ?_
  refine aq_pure tOk rfl rfl rfl trivial ?_
  refine aq_store10 tOk rfl rfl rfl rfl trivial ?_
  refine aq_nil rfl ?_
  refine ag_ret tOk Try.func49 rfl rfl (by simp) ?_
  rfl

theorem w_rGNr (w : List UInt8 × Int) (m : Int) (hz : (tkR w 6).2.2 = 0) (hr : intB (tkR w 6).1 > min m 1099511627776) : Pur Try.prog 49 [wV w, .r (.int .i64 m)] (.tuple [.r (.int .i64 0), wV ([], 4)]) := by
  refine spec_of_go (N := 28) Try.func49 rfl (by decide) rfl rfl ?_
  refine z2 ?_
  refine ar_new tOk rfl rfl rfl trivial ?_
  refine p1 ?_
  refine ar_new tOk rfl rfl rfl ?_ ?_
  · simp
  refine z3 ?_
  refine p2 ?_
  refine ar_pur (w_rtk w 6 (by decide)) rfl rfl rfl rfl rfl rfl rfl ?_
  iterate 3 refine p1 ?_
  refine ar_new tOk rfl rfl rfl ?_ ?_
  · simp
  refine p1 ?_
  refine ar_store tOk rfl rfl rfl trivial ?_
  refine z3 ?_
  refine p1 ?_
  refine ar_pur (w_rInt _) rfl rfl rfl rfl rfl rfl rfl ?_
  refine p1 ?_
  refine z1 ?_
  refine z2 ?_
  refine p1 ?_
  refine p2 ?_
  iterate 2 refine p1 ?_
  iterate 4 refine ar_pure tOk rfl rfl (by simp [hz]) trivial ?_
  refine p1 ?_
  refine ar_nil ?_
  refine ag_true rfl (by simp; omega) ?_
  refine z2 ?_
  refine ar_pure tOk rfl rfl rfl ?_ ?_
  · simp
  refine p1 ?_
  refine ar_store tOk rfl rfl rfl trivial ?_
  refine ar_nil ?_
  refine ag_ent (ent_blk 1 (.mixed [.r .nil, .r (.int .i64 4)]) (.mixed [.r (.bs []), .r (.int .i64 4)]) rfl (fun _ _ _ _ h => nil_bs h)) ?_
  refine ag_ret tOk Try.func49 rfl rfl (by simp) ?_
  rfl

theorem w_rGNw (w : List UInt8 × Int) (m : Int) (hz : (tkR w 6).2.2 = 0) (hr : ¬ intB (tkR w 6).1 > min m 1099511627776) : Pur Try.prog 49 [wV w, .r (.int .i64 m)] (.tuple [.r (.int .i64 (intB (tkR w 6).1)), wV (tkR w 6).2]) := by
  refine spec_of_go (N := 28) Try.func49 rfl (by decide) rfl rfl ?_
  refine z2 ?_
  refine ar_new tOk rfl rfl rfl trivial ?_
  refine p1 ?_
  refine ar_new tOk rfl rfl rfl ?_ ?_
  · simp
  refine z3 ?_
  refine p2 ?_
  refine ar_pur (w_rtk w 6 (by decide)) rfl rfl rfl rfl rfl rfl rfl ?_
  iterate 3 refine p1 ?_
  refine ar_new tOk rfl rfl rfl ?_ ?_
  · simp
  refine p1 ?_
  refine ar_store tOk rfl rfl rfl trivial ?_
  refine z3 ?_
  refine p1 ?_
  refine ar_pur (w_rInt _) rfl rfl rfl rfl rfl rfl rfl ?_
  refine p1 ?_
  refine z1 ?_
  refine z2 ?_
  refine p1 ?_
  refine p2 ?_
  iterate 2 refine p1 ?_
  iterate 4 refine ar_pure tOk rfl rfl (by simp [hz]) trivial ?_
  refine p1 ?_
  refine ar_nil ?_
  refine ag_false rfl (by simp; omega) ?_
  refine ag_skip ?_
  refine ag_seq ?_
  apply ag_draw1 [] (by kernel_rfl) (by kernel_rfl)
  refine aq_pure tOk rfl rfl rfl trivial ?_
  refine aq_load0 tOk rfl (by kernel_rfl) rfl rfl trivial ?_
  refine aq_pure tOk rfl rfl rfl trivial ?_
  refine aq_store10 tOk rfl rfl rfl rfl trivial ?_
  refine aq_nil rfl ?_
  refine ag_ret tOk Try.func49 rfl rfl (by simp) ?_
  rfl

theorem w_rGTz (w : List UInt8 × Int) (m : Int) (hz : (tkR w 2).2.2 ≠ 0) : Pur Try.prog 51 [wV w, .r (.int .i64 m)] (.tuple [.r (.str (tkR (tkR w 2).2 (intB (tkR w 2).1)).1), wV (tkR (tkR w 2).2 (intB (tkR w 2).1)).2]) := by
  refine spec_of_go (N := 35) Try.func51 rfl (by decide) rfl rfl ?_
  refine z2 ?_
  refine ar_new tOk rfl rfl rfl trivial ?_
  refine p1 ?_
  refine ar_new tOk rfl rfl rfl ?_ ?_
  · simp
  refine z3 ?_
  refine p2 ?_
  refine ar_pur (w_rtk w 2 (by decide)) rfl rfl rfl rfl rfl rfl rfl ?_
  iterate 3 refine p1 ?_
  refine ar_new tOk rfl rfl rfl ?_ ?_
  · simp
  refine p1 ?_
  refine ar_store tOk rfl rfl rfl trivial ?_
  refine z3 ?_
  refine p1 ?_
  refine ar_pur (w_rInt _) rfl rfl rfl rfl rfl rfl rfl ?_
  refine p1 ?_
  refine z1 ?_
  refine z2 ?_
  refine p1 ?_
  refine p2 ?_
  refine p1 ?_
  refine ar_ent (ent_reg 18 (.r (.bool false)) (by show AVal.r (.bool _) = _; exact eqB (by simp [hz]))) ?_
  refine p1 ?_
  iterate 4 refine ar_skip rfl rfl rfl ?_
  refine p1 ?_
  refine ar_nil ?_
  refine ag_false rfl (by rfl) ?_
  refine ag_skip ?_
  refine z2 ?_
  refine p2 ?_
  refine p1 ?_
  refine ar_pur (w_rtk (tkR w 2).2 (intB (tkR w 2).1) (intF_nn _)) rfl rfl rfl rfl rfl rfl rfl ?_
  iterate 4 refine p1 ?_
  refine ar_store tOk rfl rfl rfl trivial ?_
  refine z1 ?_
  apply ag_draw1 [] (by kernel_rfl) (by kernel_rfl)
  iterate 2 refine aq_pure tOk rfl rfl rfl trivial ?_
  refine aq_load0 tOk rfl (by kernel_rfl) rfl rfl trivial ?_
  refine aq_pure tOk rfl rfl rfl trivial ?_
  refine aq_store10 tOk rfl rfl rfl rfl trivial ?_
  refine aq_nil rfl ?_
  refine ag_ret tOk Try.func51 rfl rfl (by simp) ?_
  rfl

theorem w_rGTr (w : List UInt8 × Int) (m : Int) (hz : (tkR w 2).2.2 = 0) (hr : intB (tkR w 2).1 > min m 1024) : Pur Try.prog 51 [wV w, .r (.int .i64 m)] (.tuple [.r (.str []), wV ([], 4)]) := by
  refine spec_of_go (N := 35) Try.func51 rfl (by decide) rfl rfl ?_
  refine z2 ?_
  refine ar_new tOk rfl rfl rfl trivial ?_
  refine p1 ?_
  refine ar_new tOk rfl rfl rfl ?_ ?_
  · simp
  refine z3 ?_
  refine p2 ?_
  refine ar_pur (w_rtk w 2 (by decide)) rfl rfl rfl rfl rfl rfl rfl ?_
  iterate 3 refine p1 ?_
  refine ar_new tOk rfl rfl rfl ?_ ?_
  · simp
  refine p1 ?_
  refine ar_store tOk rfl rfl rfl trivial ?_
  refine z3 ?_
  refine p1 ?_
  refine ar_pur (w_rInt _) rfl rfl rfl rfl rfl rfl rfl ?_
  refine p1 ?_
  refine z1 ?_
  refine z2 ?_
  refine p1 ?_
  refine p2 ?_
  iterate 2 refine p1 ?_
  iterate 4 refine ar_pure tOk rfl rfl (by simp [hz]) trivial ?_
  refine p1 ?_
  refine ar_nil ?_
  refine ag_true rfl (by simp; omega) ?_
  refine z2 ?_
  refine ar_pure tOk rfl rfl rfl ?_ ?_
  · simp
  refine p1 ?_
  refine ar_store tOk rfl rfl rfl trivial ?_
  refine ar_nil ?_
  refine ag_ent (ent_blk 1 (.mixed [.r .nil, .r (.int .i64 4)]) (.mixed [.r (.bs []), .r (.int .i64 4)]) rfl (fun _ _ _ _ h => nil_bs h)) ?_
  refine ag_ret tOk Try.func51 rfl rfl (by simp) ?_
  rfl

theorem w_rGTw (w : List UInt8 × Int) (m : Int) (hz : (tkR w 2).2.2 = 0) (hr : ¬ intB (tkR w 2).1 > min m 1024) : Pur Try.prog 51 [wV w, .r (.int .i64 m)] (.tuple [.r (.str (tkR (tkR w 2).2 (intB (tkR w 2).1)).1), wV (tkR (tkR w 2).2 (intB (tkR w 2).1)).2]) := by
  refine spec_of_go (N := 35) Try.func51 rfl (by decide) rfl rfl ?_
  refine z2 ?_
  refine ar_new tOk rfl rfl rfl trivial ?_
  refine p1 ?_
  refine ar_new tOk rfl rfl rfl ?_ ?_
  · simp
  refine z3 ?_
  refine p2 ?_
  refine ar_pur (w_rtk w 2 (by decide)) rfl rfl rfl rfl rfl rfl rfl ?_
  iterate 3 refine p1 ?_
  refine ar_new tOk rfl rfl rfl ?_ ?_
  · simp
  refine p1 ?_
  refine ar_store tOk rfl rfl rfl trivial ?_
  refine z3 ?_
  refine p1 ?_
  refine ar_pur (w_rInt _) rfl rfl rfl rfl rfl rfl rfl ?_
  refine p1 ?_
  refine z1 ?_
  refine z2 ?_
  refine p1 ?_
  refine p2 ?_
  iterate 2 refine p1 ?_
  iterate 4 refine ar_pure tOk rfl rfl (by simp [hz]) trivial ?_
  refine p1 ?_
  refine ar_nil ?_
  refine ag_false rfl (by simp; omega) ?_
  refine ag_skip ?_
  refine z2 ?_
  refine p2 ?_
  refine p1 ?_
  refine ar_pur (w_rtk (tkR w 2).2 (intB (tkR w 2).1) (intF_nn _)) rfl rfl rfl rfl rfl rfl rfl ?_
  iterate 4 refine p1 ?_
  refine ar_store tOk rfl rfl rfl trivial ?_
  refine z1 ?_
  apply ag_draw1 [] (by kernel_rfl) (by kernel_rfl)
  iterate 2 refine aq_pure tOk rfl rfl rfl trivial ?_
  refine aq_load0 tOk rfl (by kernel_rfl) rfl rfl trivial ?_
  refine aq_pure tOk rfl rfl rfl trivial ?_
  refine aq_store10 tOk rfl rfl rfl rfl trivial ?_
  refine aq_nil rfl ?_
  refine ag_ret tOk Try.func51 rfl rfl (by simp) ?_
  rfl

theorem w_rUnwide0  : Pur Try.prog 90 [.r (.bs [])] (wA 0 0 0 0) := by
  refine spec_of_go (N := 42) Try.func90 rfl (by decide) rfl rfl ?_
  refine z2 ?_
  refine ar_new tOk rfl rfl rfl ?_ ?_
  · simp
  refine z3 ?_
  refine ar_make tOk rfl rfl rfl ?_ ?_
  · first | trivial | omega | (unfold inI64; omega) | (refine ⟨?_, ?_⟩ <;> first | trivial | rfl | omega | simp) | decide
  refine p1 ?_
  refine z1 ?_
  refine z2 ?_
  refine p1 ?_
  refine ar_nil ?_
  refine ag_block ?_
  refine ag_unroll ?_
  refine ag_seq ?_
  refine z2 ?_
  iterate 3 refine p1 ?_
  iterate 4 refine ar_pure tOk rfl rfl (by simp) trivial ?_
  refine p1 ?_
  refine ar_nil ?_
  refine ag_false rfl (rfl) ?_
  refine ag_exit rfl ?_
  refine z2 ?_
  refine p1 ?_
  refine ar_ent (ent_freeze 37 rfl rfl rfl trivial) ?_
  refine ar_ent (ent_reg 37 (.r (.ro 16 (fnL 16 fun k => .int .i64 ((fun _ => 0) k)))) rfl) ?_
  refine ar_pur (w_Made (fun _ => 0) (fun _ => ⟨by decide, by decide⟩)) rfl rfl rfl rfl rfl rfl rfl ?_
  iterate 3 refine p1 ?_
  refine ar_new tOk rfl rfl rfl ?_ ?_
  · simp
  refine ar_store tOk rfl rfl rfl trivial ?_
  refine p1 ?_
  refine z3 ?_
  refine p2 ?_
  refine ar_store tOk rfl rfl rfl trivial ?_
  refine ar_nil ?_
  refine ag_ret tOk Try.func90 rfl rfl (by simp) ?_
  rfl

theorem tkR_len (w : List UInt8 × Int) : (tkR w 32).1 = [] ∨ (tkR w 32).1.length = 32 := by
  unfold tkR
  split
  · exact .inl rfl
  · split
    · exact .inl rfl
    · right
      simp; omega
theorem w_rUn32 (w : List UInt8 × Int) : Pur Try.prog 90 [.r (.bs (tkR w 32).1)] (wd (tkR w 32).1) := by
  rcases tkR_len w with h | h
  · rw [h, wd_nil]; exact w_rUnwide0
  · exact w_rUnwide _ h

theorem w_rGetWide (w : List UInt8 × Int) : Pur Try.prog 50 [wV w] (.tuple [wd (tkR w 32).1, wV (tkR w 32).2]) := by
  refine spec_of_go (N := 14) Try.func50 rfl (by decide) rfl rfl ?_
  refine z2 ?_
  refine ar_new tOk rfl rfl rfl trivial ?_
  refine ar_new tOk rfl rfl rfl ?_ ?_
  · simp
  refine ar_new tOk rfl rfl rfl ?_ ?_
  · simp
  refine z3 ?_
  refine p2 ?_
  refine ar_pur (w_rtk w 32 (by decide)) rfl rfl rfl rfl rfl rfl rfl ?_
  iterate 3 refine p1 ?_
  refine ar_new tOk rfl rfl rfl ?_ ?_
  · simp
  refine p1 ?_
  refine ar_store tOk rfl rfl rfl trivial ?_
  refine z1 ?_
  apply ag_draw2 [] (by kernel_rfl) (by kernel_rfl)
  refine aq_pure tOk rfl rfl rfl trivial ?_
  refine aq_pur (w_rUn32 w) rfl rfl rfl rfl rfl rfl rfl ?_
  refine aq_load1 tOk rfl (by kernel_rfl) rfl rfl rfl rfl trivial ?_ ?_
  rotate_left 1
  refine' aq_store20 tOk rfl rfl rfl rfl trivial ?_
  rotate_left 1
  refine aq_store21 tOk rfl rfl rfl rfl trivial ?_
  refine aq_nil rfl ?_
  refine ag_ret tOk Try.func50 rfl rfl (by simp) ?_
  rfl
  all_goals exact ⟨_, rfl, trivial⟩

theorem w_rSpoilR (s : List UInt8) : Pur Try.prog 52 [wV (s, 0)] (wV ([], 16)) := by
  refine spec_of_go (N := 8) Try.func52 rfl (by decide) rfl rfl ?_
  refine z2 ?_
  refine ar_new tOk rfl rfl rfl trivial ?_
  refine ar_new tOk rfl rfl rfl ?_ ?_
  · simp
  refine z1 ?_
  refine z2 ?_
  refine p1 ?_
  refine p2 ?_
  refine p1 ?_
  refine ar_nil ?_
  refine ag_true rfl (by simp) ?_
  refine z2 ?_
  refine ar_pure tOk rfl rfl rfl ?_ ?_
  · simp
  refine ar_store tOk rfl rfl rfl trivial ?_
  refine ar_nil ?_
  refine ag_ent (ent_blk 1 (.mixed [.r .nil, .r (.int .i64 16)]) (.mixed [.r (.bs []), .r (.int .i64 16)]) rfl (fun _ _ _ _ h => nil_bs h)) ?_
  refine ag_ret tOk Try.func52 rfl rfl (by simp) ?_
  rfl

theorem w_rSpoilE (w : List UInt8 × Int) (he : w.2 ≠ 0) : Pur Try.prog 52 [wV w] (wV w) := by
  refine spec_of_go (N := 8) Try.func52 rfl (by decide) rfl rfl ?_
  refine z2 ?_
  refine ar_new tOk rfl rfl rfl trivial ?_
  refine ar_new tOk rfl rfl rfl ?_ ?_
  · simp
  refine z1 ?_
  refine z2 ?_
  refine p1 ?_
  refine p2 ?_
  refine p1 ?_
  refine ar_nil ?_
  refine ag_false rfl (by simp [he]) ?_
  refine ag_skip ?_
  refine z2 ?_
  refine p2 ?_
  refine ar_store tOk rfl rfl rfl trivial ?_
  refine ar_nil ?_
  refine ag_ret tOk Try.func52 rfl rfl (by simp) ?_
  rfl

theorem w_rOpenL (b : List UInt8) (h : b.length > 8192) : Pur Try.prog 16 [.r (.bs b)] (wV ([], 5)) := by
  refine spec_of_go (N := 9) Try.func16 rfl (by decide) rfl rfl ?_
  refine z2 ?_
  refine ar_new tOk rfl rfl rfl ?_ ?_
  · simp
  refine z1 ?_
  refine z2 ?_
  iterate 3 refine p1 ?_
  refine ar_nil ?_
  refine ag_true rfl (by simp; omega) ?_
  refine z2 ?_
  refine ar_pure tOk rfl rfl rfl ?_ ?_
  · simp
  refine ar_store tOk rfl rfl rfl trivial ?_
  refine ar_nil ?_
  refine ag_ent (ent_blk 0 (.mixed [.r .nil, .r (.int .i64 5)]) (.mixed [.r (.bs []), .r (.int .i64 5)]) rfl (fun _ _ _ _ h => nil_bs h)) ?_
  refine ag_ret tOk Try.func16 rfl rfl (by simp) ?_
  rfl

theorem w_rOpenW (b : List UInt8) (h : b.length ≤ 8192) : Pur Try.prog 16 [.r (.bs b)] (wV (b, 0)) := by
  refine spec_of_go (N := 9) Try.func16 rfl (by decide) rfl rfl ?_
  refine z2 ?_
  refine ar_new tOk rfl rfl rfl ?_ ?_
  · simp
  refine z1 ?_
  refine z2 ?_
  iterate 3 refine p1 ?_
  refine ar_nil ?_
  refine ag_false rfl (by simp; omega) ?_
  refine ag_skip ?_
  refine z2 ?_
  refine p1 ?_
  refine ar_pure tOk rfl rfl rfl ?_ ?_
  · simp
  refine ar_store tOk rfl rfl rfl trivial ?_
  refine ar_nil ?_
  refine ag_ret tOk Try.func16 rfl rfl (by simp) ?_
  rfl

theorem w_rGetNum (w : List UInt8 × Int) (m : Int) : Pur Try.prog 49 [wV w, .r (.int .i64 m)] (.tuple [.r (.int .i64 (gNu w m).1), wV (gNu w m).2]) := by
  unfold gNu
  by_cases hz : (tkR w 6).2.2 = 0
  · by_cases hr : intB (tkR w 6).1 > min m 1099511627776
    · rw [if_pos ⟨hz, hr⟩]; exact w_rGNr w m hz hr
    · rw [if_neg (fun h => hr h.2)]; exact w_rGNw w m hz hr
  · rw [if_neg (fun h => hz h.1)]; exact w_rGNz w m hz
theorem w_rGetText (w : List UInt8 × Int) (m : Int) : Pur Try.prog 51 [wV w, .r (.int .i64 m)] (.tuple [.r (.str (gTx w m).1), wV (gTx w m).2]) := by
  unfold gTx
  by_cases hz : (tkR w 2).2.2 = 0
  · by_cases hr : intB (tkR w 2).1 > min m 1024
    · rw [if_pos ⟨hz, hr⟩]; exact w_rGTr w m hz hr
    · rw [if_neg (fun h => hr h.2)]; exact w_rGTw w m hz hr
  · rw [if_neg (fun h => hz h.1)]; exact w_rGTz w m hz
theorem w_rSpoil (w : List UInt8 × Int) : Pur Try.prog 52 [wV w] (wV (spR w)) := by
  obtain ⟨s, e⟩ := w
  unfold spR
  by_cases h : e = 0
  · subst h; exact w_rSpoilR s
  · rw [if_neg h]; exact w_rSpoilE (s, e) h
theorem w_rOpen (b : List UInt8) : Pur Try.prog 16 [.r (.bs b)] (wV (opR b)) := by
  unfold opR
  by_cases h : b.length > 8192
  · rw [if_pos h]; exact w_rOpenL b h
  · rw [if_neg h]; exact w_rOpenW b (by omega)

theorem tkR_e {w : List UInt8 × Int} (n : Int) (he : w.2 ≠ 0) : tkR w n = ([], w) := by unfold tkR; rw [if_pos he]
theorem tkR_l {s : List UInt8} {n : Int} (h : n > (s.length : Int)) : tkR (s, 0) n = ([], ([], 16)) := by unfold tkR; rw [if_neg (by simp), if_pos h]
theorem tkR_w {s : List UInt8} {j : Nat} (h : j ≤ s.length) : tkR (s, 0) (j : Int) = (s.take j, (s.drop j, 0)) := by unfold tkR; rw [if_neg (by simp), if_neg (by simp; omega)]; simp
theorem intB_nil : intB [] = 0 := by simp [intB, intF]
theorem w_INum (w : List UInt8 × Int) (m : Int) : Spec Try.prog 53 [.ptr 0 0, .r (.int .i64 m)] (iH w.1 w.2) (fun v h' => v = .r (.int .i64 (gNu w m).1) ∧ h' = iH ((gNu w m).2).1 ((gNu w m).2).2) := by
  obtain ⟨s, e⟩ := w
  by_cases h1 : e = 0
  · subst h1
    by_cases h2 : 6 ≤ s.length
    · have ht : tkR (s, 0) 6 = (s.take 6, (s.drop 6, 0)) := tkR_w (j := 6) h2
      unfold gNu
      rw [ht]
      by_cases h3 : intB (s.take 6) > min m 1099511627776
      · rw [if_pos ⟨rfl, h3⟩]; exact w_INumR s m h2 h3
      · rw [if_neg (fun h => h3 h.2)]; exact w_INumW s m h2 h3
    · have ht : tkR (s, 0) 6 = ([], ([], 16)) := tkR_l (by omega)
      unfold gNu
      rw [ht, if_neg (fun h => absurd h.1 (by decide)), intB_nil]
      exact w_INumL s m (by omega)
  · unfold gNu
    rw [tkR_e 6 h1, if_neg (fun h => h1 h.1), intB_nil]
    exact w_INumE s e m h1
theorem w_IText (w : List UInt8 × Int) (m : Int) : Spec Try.prog 55 [.ptr 0 0, .r (.int .i64 m)] (iH w.1 w.2) (fun v h' => v = .r (.str (gTx w m).1) ∧ h' = iH ((gTx w m).2).1 ((gTx w m).2).2) := by
  obtain ⟨s, e⟩ := w
  by_cases h1 : e = 0
  · subst h1
    by_cases h2 : 2 ≤ s.length
    · have ht : tkR (s, 0) 2 = (s.take 2, (s.drop 2, 0)) := tkR_w (j := 2) h2
      unfold gTx
      rw [ht]
      by_cases h3 : intB (s.take 2) > min m 1024
      · rw [if_pos ⟨rfl, h3⟩]; exact w_ITextR s m h2 h3
      · rw [if_neg (fun h => h3 h.2)]
        by_cases h4 : intB (s.take 2) > ((s.drop 2).length : Int)
        · simp only
          rw [tkR_l h4]; exact w_ITextM s m h2 h3 h4
        · obtain ⟨j, hj⟩ := Int.eq_ofNat_of_zero_le (intF_nn (s.take 2))
          simp only
          rw [hj, tkR_w (by omega)]
          exact w_ITextW s m j h2 hj (by omega) (by omega)
    · have ht : tkR (s, 0) 2 = ([], ([], 16)) := tkR_l (by omega)
      unfold gTx
      rw [ht, if_neg (fun h => absurd h.1 (by decide)), intB_nil]
      simp only
      rw [tkR_e 0 (by decide)]
      exact w_ITextL s m (by omega)
  · unfold gTx
    rw [tkR_e 2 h1, if_neg (fun h => h1 h.1), intB_nil]
    simp only
    rw [tkR_e 0 h1]
    exact w_ITextE s e m h1
theorem w_IWide (w : List UInt8 × Int) : Spec Try.prog 54 [.ptr 0 0] (iH w.1 w.2) (fun v h' => v = wd (tkR w 32).1 ∧ h' = iH ((tkR w 32).2).1 ((tkR w 32).2).2) := by
  obtain ⟨s, e⟩ := w
  by_cases h1 : e = 0
  · subst h1
    by_cases h2 : 32 ≤ s.length
    · rw [show tkR (s, 0) 32 = (s.take 32, (s.drop 32, 0)) from tkR_w (j := 32) h2]
      exact w_IWideW s h2
    · rw [show tkR (s, 0) 32 = ([], ([], 16)) from tkR_l (by omega), wd_nil]
      exact w_IWideL s (by omega)
  · rw [tkR_e 32 h1, wd_nil]
    exact w_IWideE s e h1
theorem w_ISpoil (w : List UInt8 × Int) : Spec Try.prog 56 [.ptr 0 0] (iH w.1 w.2) (fun v h' => v = .tuple [] ∧ h' = iH (spR w).1 (spR w).2) := by
  obtain ⟨s, e⟩ := w
  unfold spR
  by_cases h : e = 0
  · subst h; exact w_SpoilW s
  · rw [if_neg h]; exact w_SpoilE s e h
theorem w_IOpen (b : List UInt8) : Spec Try.prog 15 [.r (.bs b)] ⟨0, [], false⟩ (fun v h' => v = .ptr 0 0 ∧ h' = iH (opR b).1 (opR b).2) := by
  unfold opR
  by_cases h : b.length > 8192
  · rw [if_pos h]; exact w_OpenL b h
  · rw [if_neg h]; exact w_OpenW b (by omega)

end Go.Proofs.Ytppniggpdepabaa

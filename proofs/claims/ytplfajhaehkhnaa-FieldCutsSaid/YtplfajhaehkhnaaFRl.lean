/-
  WALKS: the law FieldReads. (Printed by gen.py out of w_frl.py.)
-/
import Derived.Test.YtplfajhaehkhnaaFRd
namespace Go.Proofs.Ytplfajhaehkhnaa
open Go
set_option maxRecDepth 20000
set_option linter.unusedVariables false
set_option linter.unusedSimpArgs false

def hR6 (w : List UInt8 × Int) : Hp := ⟨2, [(0, some (.mixed [.r (.bs w.1), .r (.int .i64 w.2), .r (.bool true)])), (1, some (.mixed [.r (.bs w.1), .r (.int .i64 w.2)]))], false⟩
def gone (w : List UInt8 × Int) : Prop := w.2 ≠ 0 → w.1 = []
theorem gone_tk {w : List UInt8 × Int} (n : Int) (h : gone w) : gone (tkR w n).2 := by
  unfold tkR
  split
  · exact h
  · split
    · intro _; rfl
    · intro h1; exact absurd rfl h1
theorem gone_N {w : List UInt8 × Int} (m : Int) (h : gone w) : gone (gNu w m).2 := by
  unfold gNu
  split
  · intro _; rfl
  · exact gone_tk 6 h
theorem gone_T {w : List UInt8 × Int} (m : Int) (h : gone w) : gone (gTx w m).2 := by
  unfold gTx
  split
  · intro _; rfl
  · exact gone_tk _ (gone_tk 2 h)
theorem gone_op (b : List UInt8) : gone (opR b) := by
  unfold opR
  split
  · intro _; rfl
  · intro h1; exact absurd rfl h1
theorem gone_sp {w : List UInt8 × Int} (h : gone w) : (spR w).1 = [] := by
  unfold spR
  split
  · rfl
  · rename_i h1; exact h h1

def stFRds_0 (L : List Fd) : Nat × (List UInt8 × Int) → Regs × Hp := fun x => ([(1, roF L), (5, .ptr 0 0), (6, .ptr 1 0), (7, .r (.int .i64 (x.1 : Int)))], hR6 x.2)
def prFRds_0 (L : List Fd) : Nat × (List UInt8 × Int) → Prop := fun ⟨i, w⟩ => i ≤ L.length ∧ gone w
theorem w_FieldReads (b : List UInt8) (L : List Fd) (hL : L.length ≤ 140737488355328) (hF : ∀ f ∈ L, f.ok) : Pur Try.prog 4 [.r (.bs b), roF L] (.r (.bool true)) := by
  refine spec_of_go (N := 108) Try.func4 rfl (by decide) rfl rfl ?_
  refine ag_seq ?_
  refine ag_reg ?_
  refine ar_pure tOk rfl rfl rfl trivial ?_
  refine ar_nil ?_
  refine ag_seq ?_
  refine ag_seq ?_
  refine ag_reg ?_
  refine ar_pur (w_alive06) rfl rfl rfl rfl rfl rfl rfl ?_
  refine ar_pure tOk rfl rfl rfl trivial ?_
  refine ar_nil ?_
  refine ag_false rfl (rfl) ?_
  refine ag_skip ?_
  refine ag_seq ?_
  refine ag_reg ?_
  refine ar_pure tOk rfl rfl rfl trivial ?_
  refine ar_obj [] (w_IOpen b) rfl rfl (handed_of rfl rfl (by decide) trivial) rfl rfl rfl rfl ?_
  rintro _ _ ⟨rfl, rfl⟩
  refine ⟨_, _, rfl, ?_⟩
  refine ar_pure tOk rfl rfl rfl trivial ?_
  refine ar_pur (w_rOpen b) rfl rfl rfl rfl rfl rfl rfl ?_
  refine ar_new tOk rfl rfl rfl ?_ ?_
  · simp
  refine ar_pure tOk rfl rfl rfl trivial ?_
  refine ar_store tOk rfl rfl rfl trivial ?_
  refine ar_nil ?_
  refine ag_seq ?_
  refine ag_seq ?_
  refine ag_reg ?_
  refine ar_pure tOk rfl rfl rfl trivial ?_
  refine ar_nil ?_
  refine ag_block ?_
  refine ag_loopS (stFRds_0 L) (prFRds_0 L) (fun ⟨i, w⟩ => L.length - i) (0, opR b) (ent_weak [0, 1] rfl rfl rfl rfl ?_ ?_ rfl) (show prFRds_0 L (0, opR b) from ?_) ?_
  · exact ⟨⟨rfl, rfl⟩, ⟨rfl, rfl⟩, ⟨rfl, rfl⟩, ⟨rfl, rfl⟩, trivial⟩
  · exact ⟨⟨rfl, rfl, rfl⟩, ⟨rfl, rfl, rfl⟩, trivial⟩
  · exact ⟨Nat.zero_le _, gone_op b⟩
  rintro ⟨i, w⟩ hp hrec
  obtain ⟨hi, hw⟩ : _ := hp
  refine ag_seq ?_
  refine ag_seq ?_
  refine ag_reg ?_
  refine ar_pure tOk rfl rfl rfl trivial ?_
  refine ar_pure tOk rfl rfl rfl trivial ?_
  refine ar_pure tOk rfl rfl rfl trivial ?_
  refine ar_pure tOk rfl rfl rfl trivial ?_
  refine ar_nil ?_
  refine ag_if rfl ?_ ?_
  · intro h20
    have hlt : i < L.length := by omega
    obtain ⟨f, hs⟩ := get_fd hlt
    have hok := ok_fd hF hs
    refine ag_skip ?_
    refine ag_seq ?_
    refine ag_block ?_
    refine ag_seq ?_
    refine ag_seq ?_
    refine ag_reg ?_
    refine ar_pure tOk rfl rfl rfl trivial ?_
    refine ar_pure tOk rfl rfl rfl trivial ?_
    refine ar_pure tOk rfl rfl rfl ?_ ?_
    · refine ⟨?_, ?_⟩ <;> first | omega | exact fldC_ne hs | (refine ⟨?_, ?_⟩ <;> omega)
    refine ar_loadAs tOk (.agg (f.cells.map .r)) rfl rfl rfl rfl rfl rfl rfl (.inr ⟨rfl, _, rfl, by rw [mulz_eq, Int.toNat_natCast]; exact fldC_agg hs, rfl⟩) ?_
    refine ar_pur (w_kind f) rfl rfl rfl rfl rfl rfl rfl ?_
    refine ar_nil ?_
    refine ag_block ?_
    refine ag_seq ?_
    refine ag_reg ?_
    refine ar_pure tOk rfl rfl rfl trivial ?_
    refine ar_pure tOk rfl rfl rfl trivial ?_
    refine ar_nil ?_
    refine ag_if rfl ?_ ?_
    · intro h37
      refine ag_seq ?_
      refine ag_reg ?_
      refine ar_pure tOk rfl rfl rfl trivial ?_
      refine ar_nil ?_
      refine ag_seq ?_
      apply ag_draw1 [] (by kernel_rfl) (by kernel_rfl)
      refine aq_load0 tOk rfl (by kernel_rfl) rfl rfl trivial ?_
      refine aq_pure tOk rfl rfl rfl trivial ?_
      refine aq_pure tOk rfl rfl rfl trivial ?_
      refine aq_pure tOk rfl rfl rfl ?_ ?_
      · refine ⟨?_, ?_⟩ <;> first | omega | exact fldC_ne hs | (refine ⟨?_, ?_⟩ <;> omega)
      refine aq_pure tOk rfl rfl rfl trivial ?_
      refine aq_loadAs0 tOk (.r (.int .i64 f.n)) rfl rfl rfl rfl rfl (by kernel_rfl) rfl rfl (.inl ⟨rfl, by rw [addo_eq, mulz_eq, Int.toNat_natCast]; exact fldC_at hs rfl⟩) ?_
      refine aq_pur (w_rGetNum w f.n) rfl rfl rfl rfl rfl rfl rfl ?_
      refine aq_pure tOk rfl rfl rfl trivial ?_
      refine aq_pure tOk rfl rfl rfl trivial ?_
      refine aq_pure tOk rfl rfl rfl trivial ?_
      refine aq_pure tOk rfl rfl rfl trivial ?_
      refine aq_store10 tOk rfl rfl rfl rfl trivial ?_
      refine aq_nil rfl ?_
      refine ag_seq ?_
      refine ag_reg ?_
      refine ar_pure tOk rfl rfl rfl trivial ?_
      refine ar_pure tOk rfl rfl rfl trivial ?_
      refine ar_pure tOk rfl rfl rfl trivial ?_
      refine ar_pure tOk rfl rfl rfl ?_ ?_
      · refine ⟨?_, ?_⟩ <;> first | omega | exact fldC_ne hs | (refine ⟨?_, ?_⟩ <;> omega)
      refine ar_pure tOk rfl rfl rfl trivial ?_
      refine ar_loadAs tOk (.r (.int .i64 f.n)) rfl rfl rfl rfl rfl rfl rfl (.inl ⟨rfl, by rw [addo_eq, mulz_eq, Int.toNat_natCast]; exact fldC_at hs rfl⟩) ?_
      refine ar_obj [0] (w_INum w f.n) rfl rfl (handed_of rfl rfl (by decide) ⟨rfl, rfl, rfl, trivial⟩) rfl rfl rfl rfl ?_
      rintro _ _ ⟨rfl, rfl⟩
      refine ⟨_, _, rfl, ?_⟩
      refine ar_pure tOk rfl rfl rfl trivial ?_
      refine ar_pure tOk rfl rfl rfl trivial ?_
      refine ar_nil ?_
      refine ag_false rfl (by simp) ?_
      refine ag_skip ?_
      refine ag_inBlock ?_
      refine ag_seq ?_
      refine ag_draw0 (by kernel_rfl) (by kernel_rfl) ?_
      refine aq_pure tOk rfl rfl rfl trivial ?_
      refine aq_qd0 (qop_objR [0] (w_Err ((gNu w f.n).2).1 ((gNu w f.n).2).2) (by rintro _ _ ⟨rfl, rfl⟩; exact ⟨rfl, rfl⟩) rfl rfl (handed_of rfl rfl (by decide) ⟨rfl, rfl, rfl, trivial⟩) rfl rfl) (by kernel_rfl) rfl rfl rfl rfl ?_
      refine aq_pur (w_num06 _) rfl rfl rfl rfl rfl rfl rfl ?_
      refine aq_pure tOk rfl rfl rfl trivial ?_
      refine aq_load0 tOk rfl (by kernel_rfl) rfl rfl trivial ?_
      refine aq_pure tOk rfl rfl rfl trivial ?_
      refine aq_pure tOk rfl rfl rfl trivial ?_
      refine aq_pure tOk rfl rfl (by simp) trivial ?_
      refine aq_qd0 (qop_objR [0] (w_Left ((gNu w f.n).2).1 ((gNu w f.n).2).2) (by rintro _ _ ⟨rfl, rfl⟩; exact ⟨rfl, rfl⟩) rfl rfl (handed_of rfl rfl (by decide) ⟨rfl, rfl, rfl, trivial⟩) rfl rfl) (by kernel_rfl) rfl (by simp) rfl rfl ?_
      refine aq_pure tOk rfl rfl (by simp) trivial ?_
      refine aq_load0 tOk rfl (by kernel_rfl) rfl (by simp) trivial ?_
      refine aq_pure tOk rfl rfl (by simp) trivial ?_
      refine aq_pure tOk rfl rfl (by simp) trivial ?_
      refine aq_pure tOk rfl rfl rfl trivial ?_
      refine aq_nil rfl ?_
      refine ag_false rfl (by simp) ?_
      refine ag_skip ?_
      refine ag_inBlock ?_
      refine ag_reg ?_
      refine ar_pure tOk rfl rfl rfl trivial ?_
      refine ar_pure tOk rfl rfl rfl ?_ ?_
      · unfold inI64; omega
      refine ar_pure tOk rfl rfl rfl trivial ?_
      refine ar_nil ?_
      refine ag_ent (ent_weak (g' := (stFRds_0 L (i + 1, (gNu w f.n).2)).1) (h' := (stFRds_0 L (i + 1, (gNu w f.n).2)).2) [0, 1] rfl rfl rfl rfl ?_ ?_ rfl) (hrec _ (show prFRds_0 L (i + 1, (gNu w f.n).2) from ?_) (show _ < _ from ?_))
      · exact ⟨⟨rfl, rfl⟩, ⟨rfl, rfl⟩, ⟨rfl, rfl⟩, ⟨rfl, by exact eqI (by omega)⟩, trivial⟩
      · exact ⟨⟨rfl, rfl, rfl⟩, ⟨rfl, rfl, rfl⟩, trivial⟩
      · exact ⟨by omega, gone_N f.n hw⟩
      · show L.length - (i + 1) < L.length - i; omega
    · intro h37
      refine ag_seq ?_
      refine ag_reg ?_
      refine ar_pure tOk rfl rfl rfl trivial ?_
      refine ar_pure tOk rfl rfl rfl trivial ?_
      refine ar_nil ?_
      refine ag_if rfl ?_ ?_
      · intro h58
        refine ag_seq ?_
        refine ag_reg ?_
        refine ar_pure tOk rfl rfl rfl trivial ?_
        refine ar_nil ?_
        refine ag_seq ?_
        apply ag_draw1 [] (by kernel_rfl) (by kernel_rfl)
        refine aq_load0 tOk rfl (by kernel_rfl) rfl rfl trivial ?_
        refine aq_pure tOk rfl rfl rfl trivial ?_
        refine aq_pure tOk rfl rfl rfl trivial ?_
        refine aq_pure tOk rfl rfl rfl ?_ ?_
        · refine ⟨?_, ?_⟩ <;> first | omega | exact fldC_ne hs | (refine ⟨?_, ?_⟩ <;> omega)
        refine aq_pure tOk rfl rfl rfl trivial ?_
        refine aq_loadAs0 tOk (.r (.int .i64 f.n)) rfl rfl rfl rfl rfl (by kernel_rfl) rfl rfl (.inl ⟨rfl, by rw [addo_eq, mulz_eq, Int.toNat_natCast]; exact fldC_at hs rfl⟩) ?_
        refine aq_pur (w_rGetText w f.n) rfl rfl rfl rfl rfl rfl rfl ?_
        refine aq_pure tOk rfl rfl rfl trivial ?_
        refine aq_pure tOk rfl rfl rfl trivial ?_
        refine aq_pure tOk rfl rfl rfl trivial ?_
        refine aq_pure tOk rfl rfl rfl trivial ?_
        refine aq_store10 tOk rfl rfl rfl rfl trivial ?_
        refine aq_nil rfl ?_
        refine ag_seq ?_
        refine ag_reg ?_
        refine ar_pure tOk rfl rfl rfl trivial ?_
        refine ar_pure tOk rfl rfl rfl trivial ?_
        refine ar_pure tOk rfl rfl rfl trivial ?_
        refine ar_pure tOk rfl rfl rfl ?_ ?_
        · refine ⟨?_, ?_⟩ <;> first | omega | exact fldC_ne hs | (refine ⟨?_, ?_⟩ <;> omega)
        refine ar_pure tOk rfl rfl rfl trivial ?_
        refine ar_loadAs tOk (.r (.int .i64 f.n)) rfl rfl rfl rfl rfl rfl rfl (.inl ⟨rfl, by rw [addo_eq, mulz_eq, Int.toNat_natCast]; exact fldC_at hs rfl⟩) ?_
        refine ar_obj [0] (w_IText w f.n) rfl rfl (handed_of rfl rfl (by decide) ⟨rfl, rfl, rfl, trivial⟩) rfl rfl rfl rfl ?_
        rintro _ _ ⟨rfl, rfl⟩
        refine ⟨_, _, rfl, ?_⟩
        refine ar_pure tOk rfl rfl rfl trivial ?_
        refine ar_pure tOk rfl rfl rfl trivial ?_
        refine ar_nil ?_
        refine ag_false rfl (by simp) ?_
        refine ag_skip ?_
        refine ag_inBlock ?_
        refine ag_seq ?_
        refine ag_draw0 (by kernel_rfl) (by kernel_rfl) ?_
        refine aq_pure tOk rfl rfl rfl trivial ?_
        refine aq_qd0 (qop_objR [0] (w_Err ((gTx w f.n).2).1 ((gTx w f.n).2).2) (by rintro _ _ ⟨rfl, rfl⟩; exact ⟨rfl, rfl⟩) rfl rfl (handed_of rfl rfl (by decide) ⟨rfl, rfl, rfl, trivial⟩) rfl rfl) (by kernel_rfl) rfl rfl rfl rfl ?_
        refine aq_pur (w_num06 _) rfl rfl rfl rfl rfl rfl rfl ?_
        refine aq_pure tOk rfl rfl rfl trivial ?_
        refine aq_load0 tOk rfl (by kernel_rfl) rfl rfl trivial ?_
        refine aq_pure tOk rfl rfl rfl trivial ?_
        refine aq_pure tOk rfl rfl rfl trivial ?_
        refine aq_pure tOk rfl rfl (by simp) trivial ?_
        refine aq_qd0 (qop_objR [0] (w_Left ((gTx w f.n).2).1 ((gTx w f.n).2).2) (by rintro _ _ ⟨rfl, rfl⟩; exact ⟨rfl, rfl⟩) rfl rfl (handed_of rfl rfl (by decide) ⟨rfl, rfl, rfl, trivial⟩) rfl rfl) (by kernel_rfl) rfl (by simp) rfl rfl ?_
        refine aq_pure tOk rfl rfl (by simp) trivial ?_
        refine aq_load0 tOk rfl (by kernel_rfl) rfl (by simp) trivial ?_
        refine aq_pure tOk rfl rfl (by simp) trivial ?_
        refine aq_pure tOk rfl rfl (by simp) trivial ?_
        refine aq_pure tOk rfl rfl rfl trivial ?_
        refine aq_nil rfl ?_
        refine ag_false rfl (by simp) ?_
        refine ag_skip ?_
        refine ag_inBlock ?_
        refine ag_reg ?_
        refine ar_pure tOk rfl rfl rfl trivial ?_
        refine ar_pure tOk rfl rfl rfl ?_ ?_
        · unfold inI64; omega
        refine ar_pure tOk rfl rfl rfl trivial ?_
        refine ar_nil ?_
        refine ag_ent (ent_weak (g' := (stFRds_0 L (i + 1, (gTx w f.n).2)).1) (h' := (stFRds_0 L (i + 1, (gTx w f.n).2)).2) [0, 1] rfl rfl rfl rfl ?_ ?_ rfl) (hrec _ (show prFRds_0 L (i + 1, (gTx w f.n).2) from ?_) (show _ < _ from ?_))
        · exact ⟨⟨rfl, rfl⟩, ⟨rfl, rfl⟩, ⟨rfl, rfl⟩, ⟨rfl, by exact eqI (by omega)⟩, trivial⟩
        · exact ⟨⟨rfl, rfl, rfl⟩, ⟨rfl, rfl, rfl⟩, trivial⟩
        · exact ⟨by omega, gone_T f.n hw⟩
        · show L.length - (i + 1) < L.length - i; omega
      · intro h58
        refine ag_seq ?_
        refine ag_reg ?_
        refine ar_new tOk rfl rfl rfl ?_ ?_
        · simp
        refine ar_nil ?_
        refine ag_seq ?_
        refine ag_reg ?_
        refine ar_load tOk rfl rfl rfl trivial ?_
        refine ar_pur (w_rGetWide w) rfl rfl rfl rfl rfl rfl rfl ?_
        refine ar_pure tOk rfl rfl rfl trivial ?_
        refine ar_pure tOk rfl rfl rfl trivial ?_
        refine ar_pure tOk rfl rfl rfl trivial ?_
        refine ar_store tOk rfl rfl rfl trivial ?_
        refine ar_store tOk rfl rfl rfl trivial ?_
        refine ar_nil ?_
        refine ag_seq ?_
        apply ag_draw1 [34] (by kernel_rfl) (by kernel_rfl)
        refine aq_pure tOk rfl rfl rfl trivial ?_
        refine aq_obj10 [0] (w_IWide w) rfl rfl (handed_of rfl rfl (by decide) ⟨rfl, rfl, rfl, trivial⟩) rfl rfl rfl rfl rfl rfl rfl ?_
        refine aq_load1 tOk rfl (by kernel_rfl) rfl rfl rfl rfl trivial ⟨_, rfl, trivial⟩ ?_
        refine aq_pure tOk rfl rfl rfl trivial ?_
        refine aq_nil rfl ?_
        refine ag_false rfl (by simp) ?_
        refine ag_skip ?_
        refine ag_inBlock ?_
        refine ag_seq ?_
        refine ag_draw0 (by kernel_rfl) (by kernel_rfl) ?_
        refine aq_pure tOk rfl rfl rfl trivial ?_
        refine aq_qd0 (qop_objR [0] (w_Err ((tkR w 32).2).1 ((tkR w 32).2).2) (by rintro _ _ ⟨rfl, rfl⟩; exact ⟨rfl, rfl⟩) rfl rfl (handed_of rfl rfl (by decide) ⟨rfl, rfl, rfl, trivial⟩) rfl rfl) (by kernel_rfl) rfl rfl rfl rfl ?_
        refine aq_pur (w_num06 _) rfl rfl rfl rfl rfl rfl rfl ?_
        refine aq_pure tOk rfl rfl rfl trivial ?_
        refine aq_load0 tOk rfl (by kernel_rfl) rfl rfl trivial ?_
        refine aq_pure tOk rfl rfl rfl trivial ?_
        refine aq_pure tOk rfl rfl rfl trivial ?_
        refine aq_pure tOk rfl rfl (by simp) trivial ?_
        refine aq_qd0 (qop_objR [0] (w_Left ((tkR w 32).2).1 ((tkR w 32).2).2) (by rintro _ _ ⟨rfl, rfl⟩; exact ⟨rfl, rfl⟩) rfl rfl (handed_of rfl rfl (by decide) ⟨rfl, rfl, rfl, trivial⟩) rfl rfl) (by kernel_rfl) rfl (by simp) rfl rfl ?_
        refine aq_pure tOk rfl rfl (by simp) trivial ?_
        refine aq_load0 tOk rfl (by kernel_rfl) rfl (by simp) trivial ?_
        refine aq_pure tOk rfl rfl (by simp) trivial ?_
        refine aq_pure tOk rfl rfl (by simp) trivial ?_
        refine aq_pure tOk rfl rfl rfl trivial ?_
        refine aq_nil rfl ?_
        refine ag_false rfl (by simp) ?_
        refine ag_skip ?_
        refine ag_inBlock ?_
        refine ag_reg ?_
        refine ar_pure tOk rfl rfl rfl trivial ?_
        refine ar_pure tOk rfl rfl rfl ?_ ?_
        · unfold inI64; omega
        refine ar_pure tOk rfl rfl rfl trivial ?_
        refine ar_nil ?_
        refine ag_ent (ent_weak (g' := (stFRds_0 L (i + 1, (tkR w 32).2)).1) (h' := (stFRds_0 L (i + 1, (tkR w 32).2)).2) [0, 1] rfl rfl rfl rfl ?_ ?_ rfl) (hrec _ (show prFRds_0 L (i + 1, (tkR w 32).2) from ?_) (show _ < _ from ?_))
        · exact ⟨⟨rfl, rfl⟩, ⟨rfl, rfl⟩, ⟨rfl, rfl⟩, ⟨rfl, by exact eqI (by omega)⟩, trivial⟩
        · exact ⟨⟨rfl, rfl, rfl⟩, ⟨rfl, rfl, rfl⟩, trivial⟩
        · exact ⟨by omega, gone_tk 32 hw⟩
        · show L.length - (i + 1) < L.length - i; omega
  · intro h20
    refine ag_exit rfl ?_
    refine ag_seq ?_
    refine ag_reg ?_
    refine ar_pure tOk rfl rfl rfl trivial ?_
    refine ar_obj [0] (w_ISpoil w) rfl rfl (handed_of rfl rfl (by decide) ⟨rfl, rfl, rfl, trivial⟩) rfl rfl rfl rfl ?_
    rintro _ _ ⟨rfl, rfl⟩
    refine ⟨_, _, rfl, ?_⟩
    refine ar_nil ?_
    refine ag_seq ?_
    refine ag_reg ?_
    refine ar_load tOk rfl rfl rfl trivial ?_
    refine ar_pur (w_rSpoil w) rfl rfl rfl rfl rfl rfl rfl ?_
    refine ar_store tOk rfl rfl rfl trivial ?_
    refine ar_nil ?_
    refine ag_seq ?_
    refine ag_draw0 (by kernel_rfl) (by kernel_rfl) ?_
    refine aq_pure tOk rfl rfl rfl trivial ?_
    refine aq_qd0 (qop_objR [0] (w_Err (spR w).1 (spR w).2) (by rintro _ _ ⟨rfl, rfl⟩; exact ⟨rfl, rfl⟩) rfl rfl (handed_of rfl rfl (by decide) ⟨rfl, rfl, rfl, trivial⟩) rfl rfl) (by kernel_rfl) rfl rfl rfl rfl ?_
    refine aq_pur (w_num06 _) rfl rfl rfl rfl rfl rfl rfl ?_
    refine aq_pure tOk rfl rfl rfl trivial ?_
    refine aq_load0 tOk rfl (by kernel_rfl) rfl rfl trivial ?_
    refine aq_pure tOk rfl rfl rfl trivial ?_
    refine aq_pure tOk rfl rfl rfl trivial ?_
    refine aq_pure tOk rfl rfl (by simp) trivial ?_
    refine aq_qd0 (qop_objR [0] (w_Left (spR w).1 (spR w).2) (by rintro _ _ ⟨rfl, rfl⟩; exact ⟨rfl, rfl⟩) rfl rfl (handed_of rfl rfl (by decide) ⟨rfl, rfl, rfl, trivial⟩) rfl rfl) (by kernel_rfl) rfl (by simp) rfl rfl ?_
    refine aq_pure tOk rfl rfl (by simp) trivial ?_
    refine aq_pure tOk rfl rfl rfl trivial ?_
    refine aq_pure tOk rfl rfl rfl trivial ?_
    refine aq_nil rfl ?_
    refine ag_ret tOk Try.func4 rfl rfl (by simp) ?_
    exact eqB (by simp [gone_sp hw])

end Go.Proofs.Ytplfajhaehkhnaa

/-
  WALKS: the law BlobOwn. (Printed by gen.py out of w_lblob2.py.)
-/
import Derived.Test.YtkcfmefleghnnaaCut
import Derived.Test.YtkcfmefleghnnaaLBlob
namespace Go.Proofs.Ytkcfmefleghnnaa
open Go
set_option maxRecDepth 20000
set_option linter.unusedVariables false
set_option linter.unusedSimpArgs false

def hO (s : List UInt8) : Hp := ⟨1, [(0, some (.bytes s))], false⟩
def gO : Regs := [(14, .func 63 [.ptr 2 0, .ptr 3 0]), (5, .ptr 1 0)]
/-- Behind no piece, behind one. -/
def hO0 (s : List UInt8) (n : Nat) (sz : Int) : Hp := ⟨4, [(0, some (.bytes s)), (1, some (.mixed [.r .nil])), (2, some (.mixed [.sl 0 0 n 1])), (3, some (.mixed [.r (.int .i64 sz)]))], false⟩
def hO1 (s : List UInt8) (n : Nat) (sz : Int) : Hp := ⟨5, [(0, some (.bytes s)), (1, some (.mixed [.sl 4 0 1 1])), (2, some (.mixed [.sl 0 0 n 1])), (3, some (.mixed [.r (.int .i64 sz)])), (4, some (.plain [.bs s]))], false⟩
def yO (s : List UInt8) (n : Nat) : YRel := fun args h v h' => args = [.sl 0 0 n 1] ∧ h = hO0 s n n ∧ v = true ∧ h' = hO1 s n n

theorem w_CloneO (s : List UInt8) (hs : s.length ≤ 140737488355328) : Spec Try.prog 48 [.sl 0 0 s.length 1] (hB1 s) (fun v h' => v = .r (.bs s) ∧ h' = hB1 s) := by
  have := w_CloneS s s.length (Nat.le_refl _) hs
  rwa [List.take_length] at this
theorem w_CatO (s : List UInt8) (hs : s.length ≤ 140737488355328) : Spec Try.prog 25 [.sl 0 0 1 1] (hS s.length s) (fun v h' => v = .r (.bs s) ∧ h' = hS s.length s) := by
  have := w_CatS s.length s (Nat.le_refl _) hs
  rwa [List.take_length] at this

theorem w_CutO (s : List UInt8) (h0 : 0 < s.length) (hs : s.length ≤ 140737488355328) : Spec Try.prog 24 [.sl 0 0 s.length 1, .r (.int .i64 0)] (hO s) (fun v h' => v = .r (.ro 1 [.bs s]) ∧ h' = hO s) := by
  refine spec_of_go (N := 22) Try.func24 rfl (by decide) rfl rfl ?_
  refine ag_seq ?_
  refine ag_reg ?_
  refine ar_pure tOk rfl rfl rfl trivial ?_
  refine ar_nil ?_
  refine ag_seq ?_
  refine ag_seq ?_
  refine ag_reg ?_
  refine ar_pure tOk rfl rfl rfl trivial ?_
  refine ar_pure tOk rfl rfl rfl trivial ?_
  refine ar_nil ?_
  refine ag_true rfl (by decide) ?_
  refine ag_reg ?_
  refine ar_pure tOk rfl rfl rfl trivial ?_
  refine ar_pure tOk rfl rfl rfl trivial ?_
  refine ar_pure tOk rfl rfl rfl trivial ?_
  refine ar_ent (ent_reg 11 (.r (.int .i64 ((s.length : Nat) : Int))) (by show AVal.r (.int _ _) = _; exact eqI (by omega))) ?_
  refine ar_pure tOk rfl rfl rfl trivial ?_
  refine ar_nil ?_
  refine ag_seq ?_
  refine ag_reg ?_
  refine ar_new tOk rfl rfl rfl ?_ ?_
  · simp
  refine ar_nil ?_
  refine ag_seq ?_
  refine ag_seq ?_
  refine ag_reg ?_
  refine ar_pure tOk rfl rfl rfl trivial ?_
  refine ar_pure tOk rfl rfl rfl trivial ?_
  refine ar_inline (PostI := fun v h' => v = .func 63 [.ptr 2 0, .ptr 3 0] ∧ h' = ⟨4, [(3, some (.mixed [.r (.int .i64 (((s.length : Nat) : Int)))])), (2, some (.mixed [.sl 0 0 (s.length) 1])), (1, some (.mixed [.r .nil])), (0, some (.bytes s))], false⟩) Try.func47 rfl rfl (by decide) rfl rfl rfl rfl rfl rfl ?_ ?_
  · skip
    refine ag_seq ?_
    refine ag_reg ?_
    refine ar_new tOk rfl rfl rfl trivial ?_
    refine ar_new tOk rfl rfl rfl trivial ?_
    refine ar_pure tOk rfl rfl rfl trivial ?_
    refine ar_nil ?_
    refine ag_seq ?_
    refine ag_seq ?_
    refine ag_reg ?_
    refine ar_load tOk rfl rfl rfl trivial ?_
    refine ar_pure tOk rfl rfl rfl trivial ?_
    refine ar_nil ?_
    refine ag_false rfl (by simp; omega) ?_
    refine ag_skip ?_
    refine ag_seq ?_
    refine ag_reg ?_
    refine ar_pure tOk rfl rfl rfl trivial ?_
    refine ar_pure tOk rfl rfl rfl trivial ?_
    refine ar_nil ?_
    refine ag_ret tOk Try.func47 rfl rfl (by trivial) ?_
    exact ⟨rfl, rfl⟩
  rintro v h' ⟨rfl, rfl⟩
  refine ar_nil ?_
  refine ag_ent (ent_weak (g' := gO) (h' := hO0 s s.length ((s.length : Nat) : Int)) [0, 1, 2, 3] rfl rfl rfl rfl ?_ ?_ rfl) ?_
  · exact ⟨⟨rfl, rfl⟩, ⟨rfl, rfl⟩, trivial⟩
  · exact ⟨⟨rfl, rfl, rfl⟩, ⟨rfl, rfl, rfl⟩, ⟨rfl, rfl, rfl⟩, ⟨rfl, rfl, rfl⟩, trivial⟩
  refine ag_block ?_
  refine ag_range 4 (yO s s.length) (fun args => (6, args.getD 0 .any) :: (15, args.getD 0 .any) :: gO) (fun h' => h' = hO1 s s.length s.length) rfl rfl rfl rfl rfl rfl rfl Try.func63 rfl (by decide) rfl rfl rfl ?_ ?_ ?_ ?_
  · rintro args h v h' ⟨rfl, rfl, rfl, rfl⟩
    exact ⟨rfl, asgOk_region tOk rfl ⟨trivial, trivial⟩⟩
  · rintro args h v h' ⟨rfl, rfl, rfl, rfl⟩
    refine ag_block ?_
    apply ag_draw3 [19, 20] (by kernel_rfl) (by kernel_rfl)
    refine aq_load1 tOk rfl (by kernel_rfl) rfl rfl rfl rfl trivial ?_ ?_
    rotate_left 1
    refine aq_pure tOk rfl rfl rfl trivial ?_
    refine aq_qd0 (qop_objR [0] (w_CloneO s hs) (by rintro _ _ ⟨rfl, rfl⟩; exact ⟨rfl, rfl⟩) rfl rfl (handed_of rfl rfl (by decide) ⟨rfl, rfl, rfl, trivial⟩) rfl rfl) (by kernel_rfl) rfl rfl rfl rfl ?_
    refine' aq_new30 tOk rfl rfl rfl rfl rfl ?_ ?_
    rotate_left 2
    · simp
    refine' aq_app31 tOk rfl rfl rfl rfl rfl ?_ ?_
    rotate_left 1
    · refine ⟨⟨?_, ?_, ?_⟩, ⟨?_, ?_⟩, ⟨?_, ?_⟩, ?_⟩ <;> first | trivial | decide | omega | (simp; done) | (simp; omega)
    refine aq_store32 tOk rfl rfl rfl rfl trivial ?_
    refine aq_nil rfl ?_
    refine ag_inBlock ?_
    refine ag_ent (ent_weak (g' := []) (h' := hO1 s s.length s.length) [0, 1, 2, 3, 5] rfl rfl rfl rfl trivial ?_ rfl) ?_
    · exact ⟨⟨rfl, rfl, rfl⟩, ⟨rfl, rfl, rfl⟩, ⟨rfl, rfl, rfl⟩, ⟨rfl, rfl, rfl⟩, ⟨rfl, rfl, rfl⟩, trivial⟩
    refine ag_rend rfl ?_
    exact ⟨rfl, rfl⟩
    all_goals exact ⟨_, rfl, trivial⟩
  · intro l
    refine ag_seq ?_
    refine ag_reg ?_
    refine ar_pure tOk rfl rfl rfl trivial ?_
    refine ar_nil ?_
    refine ag_block ?_
    refine ag_unroll ?_
    refine ag_seq ?_
    refine ag_seq ?_
    refine ag_reg ?_
    refine ar_pure tOk rfl rfl rfl trivial ?_
    refine ar_load tOk rfl rfl rfl trivial ?_
    refine ar_pure tOk rfl rfl rfl trivial ?_
    refine ar_pure tOk rfl rfl rfl trivial ?_
    refine ar_nil ?_
    refine ag_true rfl (by simp; omega) ?_
    refine ag_skip ?_
    refine ag_seq ?_
    refine ag_block ?_
    refine ag_seq ?_
    refine ag_draw0 (by kernel_rfl) (by kernel_rfl) ?_
    refine aq_load0 tOk rfl (by kernel_rfl) rfl rfl trivial ?_
    refine aq_load0 tOk rfl (by kernel_rfl) rfl rfl trivial ?_
    refine aq_pure tOk rfl rfl rfl trivial ?_
    refine aq_pure tOk rfl rfl rfl ?_ ?_
    · exact ⟨⟨by omega, by omega⟩, by omega, trivial⟩
    refine aq_pure tOk rfl rfl rfl trivial ?_
    refine aq_pure tOk rfl rfl rfl trivial ?_
    refine aq_pure tOk rfl rfl rfl trivial ?_
    refine aq_nil rfl ?_
    refine ag_seq ?_
    refine ag_reg ?_
    refine ar_pure tOk rfl rfl rfl trivial ?_
    refine ar_load tOk rfl rfl rfl trivial ?_
    refine ar_pure tOk rfl rfl rfl trivial ?_
    refine ar_pure tOk rfl rfl rfl trivial ?_
    refine ar_pure tOk rfl rfl rfl trivial ?_
    refine ar_pure tOk rfl rfl rfl ?_ ?_
    · unfold inI64; simp only [cutN]; omega
    refine ar_pure tOk rfl rfl rfl trivial ?_
    refine ar_pure tOk rfl rfl rfl trivial ?_
    refine ar_pure tOk rfl rfl rfl ?_ ?_
    · unfold inI64; simp only [cutN]; omega
    refine ar_pure tOk rfl rfl rfl ?_ ?_
    · simp only [boundsOk, cutN, mxOk]; omega
    refine ar_ent (ent_reg 28 (.sl 0 0 s.length 1) (by show AVal.sl 0 0 _ 1 = _; exact eqSl (by simp only [cutN]; omega))) ?_
    refine ar_yld (Y := yO s s.length) (h' := hO1 s s.length s.length) (v := true) ⟨rfl, rfl, rfl, rfl⟩ rfl rfl rfl rfl rfl rfl rfl rfl ?_
    refine ar_pure tOk rfl rfl rfl trivial ?_
    refine ar_nil ?_
    refine ag_false rfl (rfl) ?_
    refine ag_skip ?_
    refine ag_inBlock ?_
    refine ag_reg ?_
    refine ar_pure tOk rfl rfl rfl trivial ?_
    refine ar_load tOk rfl rfl rfl trivial ?_
    refine ar_pure tOk rfl rfl rfl ?_ ?_
    · unfold inI64; omega
    refine ar_pure tOk rfl rfl rfl trivial ?_
    refine ar_nil ?_
    refine ag_again ?_
    refine ag_seq ?_
    refine ag_seq ?_
    refine ag_reg ?_
    refine ar_pure tOk rfl rfl rfl trivial ?_
    refine ar_load tOk rfl rfl rfl trivial ?_
    refine ar_pure tOk rfl rfl rfl trivial ?_
    refine ar_pure tOk rfl rfl rfl trivial ?_
    refine ar_nil ?_
    refine ag_false rfl (by simp) ?_
    refine ag_exit rfl ?_
    refine ag_end tOk Try.func63 rfl rfl (trivial) ?_
    rfl
  · rintro h' rfl
    refine ag_inBlock ?_
    refine ag_seq ?_
    refine ag_reg ?_
    refine ar_load tOk rfl rfl rfl trivial ?_
    refine ar_pure tOk rfl rfl rfl trivial ?_
    refine ar_nil ?_
    refine ag_ent (ent_freeze 4 rfl rfl rfl trivial) ?_
    refine ag_ent (ent_weak (g' := [(4, .r (.ro 1 [.bs s]))]) (h' := hO s) [0] rfl rfl rfl rfl ?_ ?_ rfl) ?_
    · exact ⟨⟨rfl, rfl⟩, trivial⟩
    · exact ⟨⟨rfl, rfl, rfl⟩, trivial⟩
    refine ag_ret tOk Try.func24 rfl rfl (by simp) ?_
    exact ⟨rfl, rfl⟩

theorem w_BlobOwn0  : Pur Try.prog 6 [.r (.bs [])] (.r (.bool true)) := by
  refine spec_of_go (N := 60) Try.func6 rfl (by decide) rfl rfl ?_
  refine ag_seq ?_
  refine ag_reg ?_
  refine ar_pure tOk rfl rfl rfl trivial ?_
  refine ar_nil ?_
  refine ag_seq ?_
  refine ag_seq ?_
  refine ag_reg ?_
  refine ar_pur (w_alive02) rfl rfl rfl rfl rfl rfl rfl ?_
  refine ar_pure tOk rfl rfl rfl trivial ?_
  refine ar_nil ?_
  refine ag_false rfl (rfl) ?_
  refine ag_skip ?_
  refine ag_seq ?_
  refine ag_reg ?_
  refine ar_new tOk rfl rfl rfl ?_ ?_
  · simp
  refine ar_pure tOk rfl rfl rfl trivial ?_
  refine ar_app tOk rfl rfl rfl ?_ ?_
  · refine ⟨⟨?_, ?_, ?_⟩, ⟨?_, ?_⟩, ⟨?_, ?_⟩, ?_⟩ <;> first | trivial | decide | omega | (simp; done) | (simp; omega)
  refine ar_ent (ent_freeze 11 rfl rfl rfl ⟨by decide, rfl⟩) ?_
  refine ar_ent (ent_reg 11 (.r (.bs [])) rfl) ?_
  refine ar_pure tOk rfl rfl rfl trivial ?_
  refine ar_nil ?_
  refine ag_seq ?_
  refine ag_reg ?_
  refine ar_pure tOk rfl rfl rfl trivial ?_
  refine ar_new tOk rfl rfl rfl ?_ ?_
  · simp
  refine ar_ent (ent_body 2 (.mixed [.r (.bs [])]) (.plain [.bs []]) rfl rfl) ?_
  refine ar_ent (ent_freeze 13 rfl rfl rfl trivial) ?_
  refine ar_ent (ent_reg 13 (roL [[]]) rfl) ?_
  refine ar_pur (w_Cat [[]] (by decide) (by decide)) rfl rfl rfl rfl rfl rfl rfl ?_
  refine ar_pure tOk rfl rfl rfl trivial ?_
  refine ar_pur (w_CutB [] 0 1 (by decide) (by decide) (by decide) (by decide) (by decide)) rfl rfl rfl rfl rfl rfl rfl ?_
  refine ar_pure tOk rfl rfl rfl trivial ?_
  refine ar_pure tOk rfl rfl rfl trivial ?_
  refine ar_nil ?_
  refine ag_seq ?_
  refine ag_seq ?_
  refine ag_reg ?_
  refine ar_pure tOk rfl rfl rfl trivial ?_
  refine ar_nil ?_
  refine ag_block ?_
  refine ag_unroll ?_
  refine ag_seq ?_
  refine ag_seq ?_
  refine ag_reg ?_
  refine ar_pure tOk rfl rfl rfl trivial ?_
  refine ar_pure tOk rfl rfl rfl trivial ?_
  refine ar_pure tOk rfl rfl rfl trivial ?_
  refine ar_pure tOk rfl rfl rfl trivial ?_
  refine ar_nil ?_
  refine ag_false rfl (by decide) ?_
  refine ag_exit rfl ?_
  refine ag_seq ?_
  refine ag_draw0 (by kernel_rfl) (by kernel_rfl) ?_
  refine aq_pure tOk rfl rfl rfl trivial ?_
  refine aq_pure tOk rfl rfl rfl trivial ?_
  refine aq_pure tOk rfl rfl rfl trivial ?_
  refine aq_pure tOk rfl rfl rfl trivial ?_
  refine aq_pure tOk rfl rfl rfl trivial ?_
  refine aq_pure tOk rfl rfl rfl trivial ?_
  refine aq_pure tOk rfl rfl (by decide) trivial ?_
  refine aq_pure tOk rfl rfl (by decide) trivial ?_
  refine aq_pure tOk rfl rfl (by decide) trivial ?_
  refine aq_pure tOk rfl rfl (by decide) trivial ?_
  refine aq_pure tOk rfl rfl (by decide) trivial ?_
  refine aq_pure tOk rfl rfl (by decide) trivial ?_
  refine aq_pure tOk rfl rfl (by decide) trivial ?_
  refine aq_pure tOk rfl rfl (by decide) trivial ?_
  refine aq_pure tOk rfl rfl (by decide) trivial ?_
  refine aq_skip rfl rfl rfl ?_
  refine aq_skip rfl rfl rfl ?_
  refine aq_skip rfl rfl rfl ?_
  refine aq_skip rfl rfl rfl ?_
  refine aq_skip rfl rfl rfl ?_
  refine aq_skip rfl rfl rfl ?_
  refine aq_skip rfl rfl rfl ?_
  refine aq_skip rfl rfl rfl ?_
  refine aq_skip rfl rfl rfl ?_
  refine aq_skip rfl rfl rfl ?_
  refine aq_skip rfl rfl rfl ?_
  refine aq_skip rfl rfl rfl ?_
  refine aq_pure tOk rfl rfl (by decide) trivial ?_
  refine aq_pure tOk rfl rfl rfl trivial ?_
  refine aq_pure tOk rfl rfl rfl trivial ?_
  refine aq_nil rfl ?_
  refine ag_ret tOk Try.func6 rfl rfl (by simp) ?_
  exact eqB (by decide)

def stBO1_0 (b : List UInt8) : Nat × List UInt8 → Regs × Hp := fun ⟨i, B⟩ => ([(0, .r (.bs b)), (3, .sl 0 0 b.length 1), (4, .r (.bs b)), (5, .r (.ro 1 [.bs b])), (6, .r (.int .i64 (i : Int)))], hO B)
def prBO1_0 (b : List UInt8) : Nat × List UInt8 → Prop := fun ⟨i, B⟩ => i ≤ b.length ∧ B.length = b.length
theorem w_BlobOwn1 (b : List UInt8) (hb0 : b ≠ []) (hb : b.length ≤ 140737488355328) : Pur Try.prog 6 [.r (.bs b)] (.r (.bool true)) := by
  have h0 : 0 < b.length := List.length_pos_iff.2 hb0
  refine spec_of_go (N := 60) Try.func6 rfl (by decide) rfl rfl ?_
  refine ag_seq ?_
  refine ag_reg ?_
  refine ar_pure tOk rfl rfl rfl trivial ?_
  refine ar_nil ?_
  refine ag_seq ?_
  refine ag_seq ?_
  refine ag_reg ?_
  refine ar_pur (w_alive02) rfl rfl rfl rfl rfl rfl rfl ?_
  refine ar_pure tOk rfl rfl rfl trivial ?_
  refine ar_nil ?_
  refine ag_false rfl (rfl) ?_
  refine ag_skip ?_
  refine ag_seq ?_
  refine ag_reg ?_
  refine ar_new tOk rfl rfl rfl ?_ ?_
  · simp
  refine ar_pure tOk rfl rfl rfl trivial ?_
  refine ar_app tOk rfl rfl rfl ?_ ?_
  · refine ⟨⟨?_, ?_, ?_⟩, ⟨?_, ?_⟩, ⟨?_, ?_⟩, ?_⟩ <;> first | trivial | decide | omega | (simp; done) | (simp; omega)
  refine ar_pure tOk rfl rfl rfl trivial ?_
  refine ar_nil ?_
  refine ag_ent (ent_weak (g' := [(0, .r (.bs b)), (3, .sl 0 0 b.length 1)]) (h' := hO b) [1] rfl rfl rfl rfl ?_ ?_ rfl) ?_
  · exact ⟨⟨rfl, rfl⟩, ⟨rfl, eqSl (by simp)⟩, trivial⟩
  · exact ⟨⟨rfl, rfl, eqBs (by simp [cutA_eq])⟩, trivial⟩
  refine ag_seq ?_
  refine ag_reg ?_
  refine ar_pure tOk rfl rfl rfl trivial ?_
  refine ar_new tOk rfl rfl rfl ?_ ?_
  · simp
  refine ar_qd rfl (qop_objR [1, 0] (w_CatO b hb) (by rintro _ _ ⟨rfl, rfl⟩; exact ⟨rfl, rfl⟩) rfl rfl (handed_of rfl rfl (by decide) ⟨rfl, rfl, rfl, rfl, rfl, rfl, trivial⟩) rfl rfl) rfl rfl rfl rfl ?_
  refine ar_pure tOk rfl rfl rfl trivial ?_
  refine ar_qd rfl (qop_objR [0] (w_CutO b h0 hb) (by rintro _ _ ⟨rfl, rfl⟩; exact ⟨rfl, rfl⟩) rfl rfl (handed_of rfl rfl (by decide) ⟨rfl, rfl, rfl, trivial⟩) rfl rfl) rfl rfl rfl rfl ?_
  refine ar_pure tOk rfl rfl rfl trivial ?_
  refine ar_pure tOk rfl rfl rfl trivial ?_
  refine ar_nil ?_
  refine ag_seq ?_
  refine ag_seq ?_
  refine ag_reg ?_
  refine ar_pure tOk rfl rfl rfl trivial ?_
  refine ar_nil ?_
  refine ag_block ?_
  refine ag_loopS (stBO1_0 b) (prBO1_0 b) (fun ⟨i, B⟩ => b.length - i) (0, b) (ent_weak [0] rfl rfl rfl rfl ?_ ?_ rfl) (show prBO1_0 b (0, b) from ?_) ?_
  · exact ⟨⟨rfl, rfl⟩, ⟨rfl, rfl⟩, ⟨rfl, rfl⟩, ⟨rfl, rfl⟩, ⟨rfl, rfl⟩, trivial⟩
  · exact ⟨⟨rfl, rfl, rfl⟩, trivial⟩
  · exact ⟨Nat.zero_le _, rfl⟩
  rintro ⟨i, B⟩ hp hrec
  obtain ⟨hp1, hp2⟩ : _ := hp
  refine ag_seq ?_
  refine ag_seq ?_
  refine ag_reg ?_
  refine ar_pure tOk rfl rfl rfl trivial ?_
  refine ar_pure tOk rfl rfl rfl trivial ?_
  refine ar_pure tOk rfl rfl rfl trivial ?_
  refine ar_pure tOk rfl rfl rfl trivial ?_
  refine ar_nil ?_
  refine ag_if rfl ?_ ?_
  · intro h20
    have hlt : i < b.length := by omega
    refine ag_skip ?_
    refine ag_seq ?_
    refine ag_block ?_
    refine ag_reg ?_
    refine ar_pure tOk rfl rfl rfl trivial ?_
    refine ar_pure tOk rfl rfl rfl trivial ?_
    refine ar_pure tOk rfl rfl rfl trivial ?_
    refine ar_pure tOk rfl rfl rfl trivial ?_
    refine ar_pure tOk rfl rfl rfl ?_ ?_
    · exact ⟨by omega, by omega⟩
    refine ar_loadAs tOk (.r (.int .u8 ((B.getD i 0).toNat : Int))) rfl rfl rfl rfl rfl rfl rfl (.inl ⟨rfl, by rw [addo_eq, mulz_eq, show 0 + ((i : Int).toNat * 1) = i by omega]; simp [Body.cells, List.getD, hp2, hlt]⟩) ?_
    refine ar_pure tOk rfl rfl rfl trivial ?_
    refine ar_pure tOk rfl rfl rfl ?_ ?_
    · exact ⟨by omega, by omega⟩
    refine ar_store tOk rfl rfl rfl ?_ ?_
    · exact ⟨by rw [addo_eq, mulz_eq]; simp; omega, by rw [wu8]; omega, by rw [wu8]; omega⟩
    refine ar_nil ?_
    refine ag_inBlock ?_
    refine ag_reg ?_
    refine ar_pure tOk rfl rfl rfl trivial ?_
    refine ar_pure tOk rfl rfl rfl ?_ ?_
    · unfold inI64; omega
    refine ar_pure tOk rfl rfl rfl trivial ?_
    refine ar_nil ?_
    refine ag_ent (ent_weak (g' := (stBO1_0 b (i + 1, B.set i (UInt8.ofNat (IntKind.u8.wrap (((B.getD i 0).toNat : Int) + 1)).toNat))).1) (h' := (stBO1_0 b (i + 1, B.set i (UInt8.ofNat (IntKind.u8.wrap (((B.getD i 0).toNat : Int) + 1)).toNat))).2) [0] rfl rfl rfl rfl ?_ ?_ rfl) (hrec _ (show prBO1_0 b (i + 1, B.set i (UInt8.ofNat (IntKind.u8.wrap (((B.getD i 0).toNat : Int) + 1)).toNat)) from ?_) (show _ < _ from ?_))
    · exact ⟨⟨rfl, rfl⟩, ⟨rfl, rfl⟩, ⟨rfl, rfl⟩, ⟨rfl, rfl⟩, ⟨rfl, by exact eqI (by omega)⟩, trivial⟩
    · exact ⟨⟨rfl, rfl, by refine eqBs ?_; rw [addo_eq, mulz_eq, show 0 + ((i : Int).toNat * 1) = i by omega]⟩, trivial⟩
    · exact ⟨by omega, by simp [hp2]⟩
    · show b.length - (i + 1) < b.length - i; omega
  · intro h20
    refine ag_exit rfl ?_
    refine ag_seq ?_
    refine ag_draw0 (by kernel_rfl) (by kernel_rfl) ?_
    refine aq_pure tOk rfl rfl rfl trivial ?_
    refine aq_pure tOk rfl rfl rfl trivial ?_
    refine aq_pure tOk rfl rfl rfl trivial ?_
    refine aq_pure tOk rfl rfl rfl trivial ?_
    refine aq_pure tOk rfl rfl rfl trivial ?_
    refine aq_pure tOk rfl rfl rfl trivial ?_
    refine aq_pure tOk rfl rfl (by simp [hb0]) trivial ?_
    refine aq_pure tOk rfl rfl (by simp [hb0]) trivial ?_
    refine aq_pure (v := .r (.bool false)) (c := True) (d := 39) tOk (by show some (39, AVal.r (.bool (decide _)), True) = _; rw [decide_eq_false (by simp [hb0])]) rfl (by simp [hb0]) trivial ?_
    refine aq_pure tOk rfl rfl (by simp [hb0]) trivial ?_
    refine aq_skip rfl rfl rfl ?_
    refine aq_skip rfl rfl rfl ?_
    refine aq_skip rfl rfl rfl ?_
    refine aq_pure tOk rfl rfl (by simp [hb0]) trivial ?_
    refine aq_pure tOk rfl rfl (by simp [hb0]) trivial ?_
    refine aq_pure tOk rfl rfl (by simp [hb0]) trivial ?_
    refine aq_pure tOk rfl rfl (by simp [hb0]) trivial ?_
    refine aq_pure tOk rfl rfl (by simp [hb0]) trivial ?_
    refine aq_pure tOk rfl rfl (by simp [hb0]) trivial ?_
    refine aq_pure tOk rfl rfl (by simp [hb0]) trivial ?_
    refine aq_pure tOk rfl rfl (by simp [hb0]) ?_ ?_
    · first | trivial | omega | (unfold inI64; omega) | (refine ⟨?_, ?_⟩ <;> first | trivial | rfl | omega | simp) | decide
    refine aq_load0 tOk rfl (by kernel_rfl) rfl (by simp [hb0]) trivial ?_
    refine aq_pure tOk rfl rfl (by simp [hb0]) trivial ?_
    refine aq_pure tOk rfl rfl (by simp [hb0]) trivial ?_
    refine aq_pure tOk rfl rfl (by simp [hb0]) trivial ?_
    refine aq_pure tOk rfl rfl (by simp [hb0]) trivial ?_
    refine aq_pure tOk rfl rfl (by simp [hb0]) trivial ?_
    refine aq_pure tOk rfl rfl (by simp [hb0]) trivial ?_
    refine aq_pure tOk rfl rfl rfl trivial ?_
    refine aq_pure tOk rfl rfl rfl trivial ?_
    refine aq_nil rfl ?_
    refine ag_ret tOk Try.func6 rfl rfl (by simp) ?_
    exact eqB (by simp [hb0])

theorem w_BlobOwn (b : List UInt8) (hb : b.length ≤ 140737488355328) : Pur Try.prog 6 [.r (.bs b)] (.r (.bool true)) := by
  by_cases h : b = []
  · subst h; exact w_BlobOwn0
  · exact w_BlobOwn1 b h hb

end Go.Proofs.Ytkcfmefleghnnaa

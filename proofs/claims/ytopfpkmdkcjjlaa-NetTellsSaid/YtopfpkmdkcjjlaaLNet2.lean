/-
  WALKS: the laws NetOrder and NetTells: what they share, and NetOrder. (Printed by gen.py out of w_lnet2.py.)
-/
import Derived.Test.YtopfpkmdkcjjlaaNet3
namespace Go.Proofs.Ytopfpkmdkcjjlaa
open Go
set_option maxRecDepth 20000
set_option linter.unusedVariables false
set_option linter.unusedSimpArgs false
theorem w_oneS (to : Int) (x : List UInt8) : Pur Try.prog 18 [nmA ⟨to, some x⟩, nmA ⟨to, some x⟩] (.r (.bool true)) := by
  refine spec_of_go (N := 19) Try.func18 rfl (by decide) rfl rfl ?_
  refine zB ?_
  iterate 2 refine ar_new tOk rfl rfl rfl trivial ?_
  refine pA ?_
  refine zC ?_
  refine pA ?_
  refine pB ?_
  refine pA ?_
  refine pB ?_
  iterate 2 refine pA ?_
  refine ar_ent (ent_reg 10 (.r (.bool true)) (by show AVal.r (.bool _) = _; exact eqB (by simp))) ?_
  refine pA ?_
  refine pB ?_
  iterate 2 refine pA ?_
  refine pB ?_
  iterate 4 refine pA ?_
  refine ar_nil ?_
  refine ag_ret tOk Try.func18 rfl rfl (by simp) ?_
  exact eqB (by simp)
theorem w_oneN  : Pur Try.prog 18 [nmA ⟨0, none⟩, nmA ⟨0, none⟩] (.r (.bool true)) := by
  refine spec_of_go (N := 19) Try.func18 rfl (by decide) rfl rfl ?_
  refine zB ?_
  iterate 2 refine ar_new tOk rfl rfl rfl trivial ?_
  refine pA ?_
  refine zC ?_
  refine pA ?_
  refine pB ?_
  refine pA ?_
  refine pB ?_
  iterate 2 refine pA ?_
  refine ar_ent (ent_reg 10 (.r (.bool true)) (by show AVal.r (.bool _) = _; exact eqB (by simp))) ?_
  refine pA ?_
  refine pB ?_
  refine ar_ent (ent_nil 12 (.bs []) rfl (.inl rfl)) ?_
  iterate 2 refine pA ?_
  refine pB ?_
  refine ar_ent (ent_nil 15 (.bs []) rfl (.inl rfl)) ?_
  iterate 4 refine pA ?_
  refine ar_nil ?_
  refine ag_ret tOk Try.func18 rfl rfl (by simp) ?_
  exact eqB (by simp)
theorem w_one (e : NmV) (he : okS e) : Pur Try.prog 18 [nmA e, nmA e] (.r (.bool true)) := by
  obtain ⟨x, hx, _⟩ := he
  obtain ⟨to, d⟩ := e
  simp only at hx
  subst hx
  exact w_oneS to x
def stlSm_0 (L : List NmV) : Nat → Regs × Hp := fun i => ([(0, roN L), (1, roN L), (5, .r (.int .i64 (i : Int)))], ⟨0, [], false⟩)
def prlSm_0 (L : List NmV) : Nat → Prop := fun i => i ≤ L.length
theorem w_same (L : List NmV) (hok : ∀ e ∈ L, okS e) (hL : L.length ≤ 1048576)  : Pur Try.prog 17 [roN L, roN L] (.r (.bool true)) := by
  refine spec_of_go (N := 27) Try.func17 rfl (by decide) rfl rfl ?_
  refine zB ?_
  refine pA ?_
  refine zA ?_
  refine zB ?_
  iterate 5 refine pA ?_
  refine ar_nil ?_
  refine ag_false rfl (by simp) ?_
  refine ag_skip ?_
  refine ag_seq ?_
  refine zB ?_
  refine pA ?_
  refine ar_nil ?_
  refine ag_block ?_
  refine ag_loopS (stlSm_0 L) (prlSm_0 L) (fun (i : Nat) => L.length - i) 0 (ent_weak [] rfl rfl rfl rfl ?_ ?_ rfl) (show prlSm_0 L 0 from ?_) ?_
  · exact ⟨⟨rfl, rfl⟩, ⟨rfl, rfl⟩, ⟨rfl, rfl⟩, trivial⟩
  · trivial
  · exact Nat.zero_le _
  rintro i hi hrec
  have hi : i ≤ L.length := hi
  refine ag_seq ?_
  refine zB ?_
  iterate 4 refine pA ?_
  refine ar_nil ?_
  refine ag_if rfl ?_ ?_
  · intro h14
    obtain ⟨e, hx⟩ : ∃ e, L[i]? = some e := ⟨L[i]'(by omega), by simp⟩
    have hex := hok e (List.mem_of_getElem? hx)
    refine ag_skip ?_
    refine ag_seq ?_
    refine ag_block ?_
    refine ag_seq ?_
    refine ag_draw0 (by kernel_rfl) (by kernel_rfl) ?_
    iterate 2 refine aq_pure tOk rfl rfl rfl trivial ?_
    refine aq_pure tOk rfl rfl rfl ?_ ?_
    · refine ⟨?_, ?_⟩ <;> first | omega | exact nmsC_ne hx | (refine ⟨?_, ?_⟩ <;> omega)
    refine aq_loadAs tOk (nmA e) rfl rfl rfl rfl (fun _ => rfl) rfl rfl (.inr ⟨rfl, _, rfl, by rw [mulz_eq, Int.toNat_natCast]; exact nmsC_get hx, rfl⟩) ?_
    iterate 2 refine aq_pure tOk rfl rfl rfl trivial ?_
    refine aq_pure tOk rfl rfl rfl ?_ ?_
    · refine ⟨?_, ?_⟩ <;> first | omega | exact nmsC_ne hx | (refine ⟨?_, ?_⟩ <;> omega)
    refine aq_loadAs tOk (nmA e) rfl rfl rfl rfl (fun _ => rfl) rfl rfl (.inr ⟨rfl, _, rfl, by rw [mulz_eq, Int.toNat_natCast]; exact nmsC_get hx, rfl⟩) ?_
    refine aq_pur (w_one e hex) rfl rfl rfl rfl rfl rfl rfl ?_
    refine aq_pure tOk rfl rfl rfl trivial ?_
    refine aq_nil rfl ?_
    refine ag_false rfl (by decide) ?_
    refine ag_skip ?_
    refine ag_inBlock ?_
    refine ag_reg ?_
    refine pA ?_
    refine ar_pure tOk rfl rfl rfl ?_ ?_
    · unfold inI64; omega
    refine pA ?_
    refine ar_nil ?_
    refine ag_ent (ent_weak (g' := (stlSm_0 L (i + 1)).1) (h' := (stlSm_0 L (i + 1)).2) [] rfl rfl rfl rfl ?_ ?_ rfl) ?_
    · exact ⟨⟨rfl, rfl⟩, ⟨rfl, rfl⟩, ⟨rfl, by exact eqI (by omega)⟩, trivial⟩
    · trivial
    have hnx := hrec (i + 1)
    refine hnx ?_ ?_
    · show i + 1 ≤ L.length; omega
    · show L.length - (i + 1) < L.length - i; omega
  · intro h14
    refine ag_exit rfl ?_
    refine zB ?_
    refine pA ?_
    refine ar_nil ?_
    refine ag_ret tOk Try.func17 rfl rfl (by simp) ?_
    rfl
end Go.Proofs.Ytopfpkmdkcjjlaa


/-
  WALKS: the law BlobCuts. (Printed by gen.py out of w_lblob3.py.)
-/
import Derived.Test.YtkcfmefleghnnaaCut
import Derived.Test.YtkcfmefleghnnaaLBlob
namespace Go.Proofs.Ytkcfmefleghnnaa
open Go
set_option maxRecDepth 20000
set_option linter.unusedVariables false
set_option linter.unusedSimpArgs false

theorem cut_piece {sz : Nat} (h : 0 < sz) : ∀ (k : Nat) (b : List UInt8), b.length ≤ k → ∀ (i : Nat) (s : List UInt8), (cutL' sz b)[i]? = some s → 1 ≤ s.length ∧ s.length ≤ sz ∧ (i + 1 < (cutL' sz b).length → s.length = sz)
  | 0, b, hk, i, s, hs => by
    have : b = [] := List.length_eq_zero_iff.1 (by omega)
    subst this
    simp [cut_nil] at hs
  | k + 1, b, hk, i, s, hs => by
    by_cases hb : b = []
    · subst hb; simp [cut_nil] at hs
    have h0 : 0 < b.length := List.length_pos_iff.2 hb
    rw [cut_next h hb] at hs ⊢
    cases i with
    | zero =>
      simp at hs
      subst hs
      refine ⟨by simp; omega, by simp; omega, fun hlt => ?_⟩
      simp at hlt
      have : b.drop sz ≠ [] := fun e => by rw [e, cut_nil] at hlt; simp at hlt
      have := List.length_pos_iff.2 this
      simp at this ⊢
      omega
    | succ i =>
      have := cut_piece h k (b.drop sz) (by simp; omega) i s (by simpa using hs)
      exact ⟨this.1, this.2.1, fun hlt => this.2.2 (by simpa using hlt)⟩
theorem cut_one {b : List UInt8} {sz : Nat} (h : 0 < sz) (hb : b.length ≤ sz) : ((cutL' sz b).length : Int) = min (b.length : Int) 1 := by
  by_cases h0 : b = []
  · subst h0; show ((0 : Nat) : Int) = min ((0 : Nat) : Int) 1; decide
  · have h1 : 0 < b.length := List.length_pos_iff.2 h0
    rw [cut_next h h0, List.drop_eq_nil_of_le hb, cut_nil]
    simp; omega
theorem roL_eq (L : List (List UInt8)) : AVal.r (.ro L.length (L.map .bs)) = roL L := rfl

theorem w_BlobCutsB (b : List UInt8) (size sz : Int) (h0 : size < 1) (hm : max (b.length : Int) 1 = sz) (hb : (b.length + 1) * 24 ≤ 140737488355328) : Pur Try.prog 5 [.r (.bs b), .r (.int .i64 size)] (.r (.bool true)) := by
  have hsz : 1 ≤ sz := by omega
  have hsn : 0 < sz.toNat := by omega
  have hln : (cutL' sz.toNat b).length ≤ 140737488355328 := by have := cut_length hsn b; omega
  have hfl : (cutL' sz.toNat b).flatten.length ≤ 140737488355328 := by rw [cut_flatten hsn]; omega
  refine spec_of_go (N := 63) Try.func5 rfl (by decide) rfl rfl ?_
  refine ag_seq ?_
  refine ag_reg ?_
  refine ar_pure tOk rfl rfl rfl trivial ?_
  refine ar_nil ?_
  refine ag_seq ?_
  refine ag_seq ?_
  refine ag_reg ?_
  refine ar_pur (w_alive02) rfl rfl rfl rfl rfl rfl rfl ?_
  refine ar_pure tOk rfl rfl rfl trivial ?_
  refine ar_nil ?_
  refine ag_false rfl (rfl) ?_
  refine ag_skip ?_
  refine ag_seq ?_
  refine ag_reg ?_
  refine ar_pure tOk rfl rfl rfl trivial ?_
  refine ar_pure tOk rfl rfl rfl trivial ?_
  refine ar_pur (w_CutB b size sz h0 hm hsz (by omega) hb) rfl rfl rfl rfl rfl rfl rfl ?_
  refine ar_pure tOk rfl rfl rfl trivial ?_
  refine ar_nil ?_
  refine ag_seq ?_
  refine ag_seq ?_
  refine ag_draw0 (by kernel_rfl) (by kernel_rfl) ?_
  refine aq_pure tOk rfl rfl rfl trivial ?_
  refine aq_pur (w_Cat (cutL' sz.toNat b) hln hfl) rfl rfl rfl rfl rfl rfl rfl ?_
  refine aq_pure tOk rfl rfl rfl trivial ?_
  refine aq_pure tOk rfl rfl rfl trivial ?_
  refine aq_pure tOk rfl rfl rfl trivial ?_
  refine aq_pure tOk rfl rfl rfl trivial ?_
  refine aq_nil rfl ?_
  refine ag_false rfl (by simp [cut_flatten hsn]) ?_
  refine ag_skip ?_
  refine ag_seq ?_
  refine ag_seq ?_
  refine ag_reg ?_
  refine ar_pure tOk rfl rfl rfl trivial ?_
  refine ar_pure tOk rfl rfl rfl trivial ?_
  refine ar_nil ?_
  refine ag_true rfl (by simp; omega) ?_
  refine ag_seq ?_
  refine ag_reg ?_
  refine ar_pure tOk rfl rfl rfl trivial ?_
  refine ar_pure tOk rfl rfl rfl trivial ?_
  refine ar_pure tOk rfl rfl rfl trivial ?_
  refine ar_pure tOk rfl rfl rfl trivial ?_
  refine ar_pure tOk rfl rfl rfl trivial ?_
  refine ar_pure tOk rfl rfl rfl trivial ?_
  refine ar_pure tOk rfl rfl rfl trivial ?_
  refine ar_nil ?_
  refine ag_ret tOk Try.func5 rfl rfl (by simp) ?_
  exact eqB (by simp only [decide_eq_true_eq]; exact cut_one hsn (by omega))

def stBCA_0 (b : List UInt8) (sz : Int) : Nat → Regs × Hp := fun i => ([(0, .r (.bs b)), (1, .r (.int .i64 sz)), (5, roL (cutL' sz.toNat b)), (6, .r (.int .i64 (i : Int)))], ⟨0, [], false⟩)
def prBCA_0 (b : List UInt8) (sz : Int) : Nat → Prop := fun i => i ≤ (cutL' sz.toNat b).length
theorem w_BlobCutsA (b : List UInt8) (sz : Int) (hsz : 1 ≤ sz) (hmx : sz ≤ 9223372036854775807) (hb : (b.length + 1) * 24 ≤ 140737488355328) : Pur Try.prog 5 [.r (.bs b), .r (.int .i64 sz)] (.r (.bool true)) := by
  have hsn : 0 < sz.toNat := by omega
  have hln : (cutL' sz.toNat b).length ≤ 140737488355328 := by have := cut_length hsn b; omega
  have hfl : (cutL' sz.toNat b).flatten.length ≤ 140737488355328 := by rw [cut_flatten hsn]; omega
  refine spec_of_go (N := 63) Try.func5 rfl (by decide) rfl rfl ?_
  refine ag_seq ?_
  refine ag_reg ?_
  refine ar_pure tOk rfl rfl rfl trivial ?_
  refine ar_nil ?_
  refine ag_seq ?_
  refine ag_seq ?_
  refine ag_reg ?_
  refine ar_pur (w_alive02) rfl rfl rfl rfl rfl rfl rfl ?_
  refine ar_pure tOk rfl rfl rfl trivial ?_
  refine ar_nil ?_
  refine ag_false rfl (rfl) ?_
  refine ag_skip ?_
  refine ag_seq ?_
  refine ag_reg ?_
  refine ar_pure tOk rfl rfl rfl trivial ?_
  refine ar_pure tOk rfl rfl rfl trivial ?_
  refine ar_pur (w_CutA b sz hsz hmx hb) rfl rfl rfl rfl rfl rfl rfl ?_
  refine ar_pure tOk rfl rfl rfl trivial ?_
  refine ar_nil ?_
  refine ag_seq ?_
  refine ag_seq ?_
  refine ag_draw0 (by kernel_rfl) (by kernel_rfl) ?_
  refine aq_pure tOk rfl rfl rfl trivial ?_
  refine aq_pur (w_Cat (cutL' sz.toNat b) hln hfl) rfl rfl rfl rfl rfl rfl rfl ?_
  refine aq_pure tOk rfl rfl rfl trivial ?_
  refine aq_pure tOk rfl rfl rfl trivial ?_
  refine aq_pure tOk rfl rfl rfl trivial ?_
  refine aq_pure tOk rfl rfl rfl trivial ?_
  refine aq_nil rfl ?_
  refine ag_false rfl (by simp [cut_flatten hsn]) ?_
  refine ag_skip ?_
  refine ag_seq ?_
  refine ag_seq ?_
  refine ag_reg ?_
  refine ar_pure tOk rfl rfl rfl trivial ?_
  refine ar_pure tOk rfl rfl rfl trivial ?_
  refine ar_nil ?_
  refine ag_false rfl (by simp; omega) ?_
  refine ag_skip ?_
  refine ag_seq ?_
  refine ag_seq ?_
  refine ag_reg ?_
  refine ar_pure tOk rfl rfl rfl trivial ?_
  refine ar_nil ?_
  refine ag_block ?_
  refine ag_loopS (stBCA_0 b sz) (prBCA_0 b sz) (fun (i : Nat) => (cutL' sz.toNat b).length - i) 0 (ent_weak [] rfl rfl rfl rfl ?_ ?_ rfl) (show prBCA_0 b sz 0 from ?_) ?_
  · exact ⟨⟨rfl, rfl⟩, ⟨rfl, rfl⟩, ⟨rfl, rfl⟩, ⟨rfl, rfl⟩, trivial⟩
  · trivial
  · exact Nat.zero_le _
  rintro i hp hrec
  refine ag_seq ?_
  refine ag_seq ?_
  refine ag_reg ?_
  refine ar_pure tOk rfl rfl rfl trivial ?_
  refine ar_pure tOk rfl rfl rfl trivial ?_
  refine ar_pure tOk rfl rfl rfl trivial ?_
  refine ar_pure tOk rfl rfl rfl trivial ?_
  refine ar_nil ?_
  refine ag_if rfl ?_ ?_
  · intro h29
    have hlt : i < (cutL' sz.toNat b).length := by omega
    obtain ⟨s, hs⟩ := get_of hlt
    obtain ⟨hq1, hq2, hq3⟩ := cut_piece hsn b.length b (Nat.le_refl _) i s hs
    refine ag_skip ?_
    refine ag_seq ?_
    refine ag_block ?_
    refine ag_seq ?_
    refine ag_reg ?_
    refine ar_pure tOk rfl rfl rfl trivial ?_
    refine ar_pure tOk rfl rfl rfl trivial ?_
    refine ar_pure tOk rfl rfl rfl trivial ?_
    refine ar_pure tOk rfl rfl rfl ?_ ?_
    · unfold inI64; omega
    refine ar_pure tOk rfl rfl rfl trivial ?_
    refine ar_pure tOk rfl rfl rfl trivial ?_
    refine ar_guard (t := decide ((i : Int) < ((cutL' sz.toNat b).length : Int) - 1)) (fun ht => ?_) (fun ht => ?_)
    · refine ar_ent (ent_reg 37 (.r (.bool true)) (by show AVal.r (.bool _) = _; rw [ht])) ?_
      have hlast : i + 1 < (cutL' sz.toNat b).length := by have := of_decide_eq_true ht; omega
      have hq4 := hq3 hlast
      refine ar_pure tOk rfl rfl rfl trivial ?_
      refine ar_pure tOk rfl rfl rfl trivial ?_
      refine ar_pure tOk rfl rfl rfl ?_ ?_
      · refine ⟨?_, ?_⟩ <;> first | omega | exact ne_of hs | (refine ⟨?_, ?_⟩ <;> omega)
      refine ar_loadAs tOk (.r (.bs s)) rfl rfl rfl rfl rfl rfl (rfl) (.inl ⟨rfl, by rw [mulz_eq, Int.toNat_natCast, Nat.mul_one]; simp [Body.cells, hs]⟩) ?_
      refine ar_pure tOk rfl rfl rfl trivial ?_
      refine ar_pure tOk rfl rfl rfl trivial ?_
      refine ar_pure tOk rfl rfl rfl trivial ?_
      refine ar_ent (ent_reg 44 (.r (.bool false)) (by show AVal.r (.bool _) = _; exact eqB (by simp; omega))) ?_
      refine ar_pure tOk rfl rfl rfl trivial ?_
      refine ar_pure tOk rfl rfl rfl trivial ?_
      refine ar_pure tOk rfl rfl (by rfl) trivial ?_
      refine ar_pure tOk rfl rfl (by rfl) trivial ?_
      refine ar_pure tOk rfl rfl (by rfl) ?_ ?_
      · refine ⟨?_, ?_⟩ <;> first | omega | exact ne_of hs | (refine ⟨?_, ?_⟩ <;> omega)
      refine ar_loadAs tOk (.r (.bs s)) rfl rfl rfl rfl rfl rfl (rfl) (.inl ⟨rfl, by rw [mulz_eq, Int.toNat_natCast, Nat.mul_one]; simp [Body.cells, hs]⟩) ?_
      refine ar_pure tOk rfl rfl (by rfl) trivial ?_
      refine ar_pure tOk rfl rfl (by rfl) trivial ?_
      refine ar_ent (ent_reg 52 (.r (.bool false)) (by show AVal.r (.bool _) = _; exact eqB (by simp; omega))) ?_
      refine ar_pure tOk rfl rfl rfl trivial ?_
      refine ar_pure tOk rfl rfl rfl trivial ?_
      refine ar_pure tOk rfl rfl (by rfl) trivial ?_
      refine ar_pure tOk rfl rfl (by rfl) trivial ?_
      refine ar_pure tOk rfl rfl (by rfl) ?_ ?_
      · refine ⟨?_, ?_⟩ <;> first | omega | exact ne_of hs | (refine ⟨?_, ?_⟩ <;> omega)
      refine ar_loadAs tOk (.r (.bs s)) rfl rfl rfl rfl rfl rfl (rfl) (.inl ⟨rfl, by rw [mulz_eq, Int.toNat_natCast, Nat.mul_one]; simp [Body.cells, hs]⟩) ?_
      refine ar_pure tOk rfl rfl (by rfl) trivial ?_
      refine ar_pure tOk rfl rfl (by rfl) trivial ?_
      refine ar_pure tOk rfl rfl (by rfl) trivial ?_
      refine ar_ent (ent_reg 61 (.r (.bool false)) (by show AVal.r (.bool _) = _; exact eqB (by simp; omega))) ?_
      refine ar_pure tOk rfl rfl rfl trivial ?_
      refine ar_nil ?_
      refine ag_false rfl (rfl) ?_
      refine ag_skip ?_
      refine ag_inBlock ?_
      refine ag_reg ?_
      refine ar_pure tOk rfl rfl rfl trivial ?_
      refine ar_pure tOk rfl rfl rfl ?_ ?_
      · unfold inI64; omega
      refine ar_pure tOk rfl rfl rfl trivial ?_
      refine ar_nil ?_
      refine ag_ent (ent_weak (g' := (stBCA_0 b sz (i + 1)).1) (h' := (stBCA_0 b sz (i + 1)).2) [] rfl rfl rfl rfl ?_ ?_ rfl) (hrec _ (show prBCA_0 b sz (i + 1) from ?_) (show _ < _ from ?_))
      · exact ⟨⟨rfl, rfl⟩, ⟨rfl, rfl⟩, ⟨rfl, rfl⟩, ⟨rfl, by exact eqI (by omega)⟩, trivial⟩
      · trivial
      · show i + 1 ≤ (cutL' sz.toNat b).length; omega
      · show (cutL' sz.toNat b).length - (i + 1) < (cutL' sz.toNat b).length - i; omega
    · refine ar_ent (ent_reg 37 (.r (.bool false)) (by show AVal.r (.bool _) = _; rw [ht])) ?_
      refine ar_skip rfl rfl rfl ?_
      refine ar_skip rfl rfl rfl ?_
      refine ar_skip rfl rfl rfl ?_
      refine ar_skip rfl rfl rfl ?_
      refine ar_skip rfl rfl rfl ?_
      refine ar_skip rfl rfl rfl ?_
      refine ar_skip rfl rfl rfl ?_
      refine ar_pure tOk rfl rfl rfl trivial ?_
      refine ar_pure tOk rfl rfl rfl trivial ?_
      refine ar_pure tOk rfl rfl (by rfl) trivial ?_
      refine ar_pure tOk rfl rfl (by rfl) trivial ?_
      refine ar_pure tOk rfl rfl (by rfl) ?_ ?_
      · refine ⟨?_, ?_⟩ <;> first | omega | exact ne_of hs | (refine ⟨?_, ?_⟩ <;> omega)
      refine ar_loadAs tOk (.r (.bs s)) rfl rfl rfl rfl rfl rfl (rfl) (.inl ⟨rfl, by rw [mulz_eq, Int.toNat_natCast, Nat.mul_one]; simp [Body.cells, hs]⟩) ?_
      refine ar_pure tOk rfl rfl (by rfl) trivial ?_
      refine ar_pure tOk rfl rfl (by rfl) trivial ?_
      refine ar_ent (ent_reg 52 (.r (.bool false)) (by show AVal.r (.bool _) = _; exact eqB (by simp; omega))) ?_
      refine ar_pure tOk rfl rfl rfl trivial ?_
      refine ar_pure tOk rfl rfl rfl trivial ?_
      refine ar_pure tOk rfl rfl (by rfl) trivial ?_
      refine ar_pure tOk rfl rfl (by rfl) trivial ?_
      refine ar_pure tOk rfl rfl (by rfl) ?_ ?_
      · refine ⟨?_, ?_⟩ <;> first | omega | exact ne_of hs | (refine ⟨?_, ?_⟩ <;> omega)
      refine ar_loadAs tOk (.r (.bs s)) rfl rfl rfl rfl rfl rfl (rfl) (.inl ⟨rfl, by rw [mulz_eq, Int.toNat_natCast, Nat.mul_one]; simp [Body.cells, hs]⟩) ?_
      refine ar_pure tOk rfl rfl (by rfl) trivial ?_
      refine ar_pure tOk rfl rfl (by rfl) trivial ?_
      refine ar_pure tOk rfl rfl (by rfl) trivial ?_
      refine ar_ent (ent_reg 61 (.r (.bool false)) (by show AVal.r (.bool _) = _; exact eqB (by simp; omega))) ?_
      refine ar_pure tOk rfl rfl rfl trivial ?_
      refine ar_nil ?_
      refine ag_false rfl (rfl) ?_
      refine ag_skip ?_
      refine ag_inBlock ?_
      refine ag_reg ?_
      refine ar_pure tOk rfl rfl rfl trivial ?_
      refine ar_pure tOk rfl rfl rfl ?_ ?_
      · unfold inI64; omega
      refine ar_pure tOk rfl rfl rfl trivial ?_
      refine ar_nil ?_
      refine ag_ent (ent_weak (g' := (stBCA_0 b sz (i + 1)).1) (h' := (stBCA_0 b sz (i + 1)).2) [] rfl rfl rfl rfl ?_ ?_ rfl) (hrec _ (show prBCA_0 b sz (i + 1) from ?_) (show _ < _ from ?_))
      · exact ⟨⟨rfl, rfl⟩, ⟨rfl, rfl⟩, ⟨rfl, rfl⟩, ⟨rfl, by exact eqI (by omega)⟩, trivial⟩
      · trivial
      · show i + 1 ≤ (cutL' sz.toNat b).length; omega
      · show (cutL' sz.toNat b).length - (i + 1) < (cutL' sz.toNat b).length - i; omega
  · intro h29
    refine ag_exit rfl ?_
    refine ag_seq ?_
    refine ag_reg ?_
    refine ar_pure tOk rfl rfl rfl trivial ?_
    refine ar_nil ?_
    refine ag_ret tOk Try.func5 rfl rfl (by simp) ?_
    rfl

theorem w_BlobCuts (b : List UInt8) (size : Int) (hmx : size ≤ 9223372036854775807) (hb : (b.length + 1) * 24 ≤ 140737488355328) : Pur Try.prog 5 [.r (.bs b), .r (.int .i64 size)] (.r (.bool true)) := by
  by_cases h : size < 1
  · exact w_BlobCutsB b size _ h rfl hb
  · exact w_BlobCutsA b size (by omega) hmx hb

end Go.Proofs.Ytkcfmefleghnnaa

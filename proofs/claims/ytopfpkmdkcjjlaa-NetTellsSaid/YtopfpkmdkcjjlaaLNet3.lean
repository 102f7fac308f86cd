/-
  WALKS: the law NetTells. (Printed by gen.py out of w_lnet3.py.)
-/
import Derived.Test.YtopfpkmdkcjjlaaLNet2
namespace Go.Proofs.Ytopfpkmdkcjjlaa
open Go
set_option maxRecDepth 20000
set_option linter.unusedVariables false
set_option linter.unusedSimpArgs false
theorem nmsC_drop (L : List NmV) (k : Nat) : (nmsC L).drop (k * 2) = nmsC (L.drop k) := by
  induction k generalizing L with
  | zero => simp
  | succ k ih =>
    cases L with
    | nil => simp [nmsC]
    | cons x M =>
      have hl : (nmC x).length = 2 := rfl
      have := ih M
      simp only [nmsC, List.drop_succ_cons, List.flatMap_cons] at this ⊢
      rw [List.drop_append, List.drop_of_length_le (l := nmC x) (by rw [hl, Nat.succ_mul]; omega), hl, show (k + 1) * 2 - 2 = k * 2 by omega, this]; rfl
theorem sl_take {L : List NmV} {i : Nat} (h : i ≤ L.length) : AVal.r (.ro (cutN L.length none (some (i : Int))) (cutL (nmsC L) 2 none (some (i : Int)))) = roN (L.take i) := by
  unfold cutN cutL
  simp only [mulz_eq, Int.toNat_natCast]
  rw [CSd_take]; unfold roN; rw [List.length_take, Nat.min_eq_left h]
theorem sl_drop {L : List NmV} {i : Nat} (h : i < L.length) : AVal.r (.ro (cutN L.length (some ((i : Int) + 1)) none) (cutL (nmsC L) 2 (some ((i : Int) + 1)) none)) = roN (L.drop (i + 1)) := by
  unfold cutN cutL
  have e : ((i : Int) + 1).toNat = i + 1 := by omega
  simp only [mulz_eq, e]
  rw [nmsC_drop]; unfold roN; rw [List.length_drop]
theorem left_eq {L : List NmV} {i : Nat} {n : Nat} {xs : List RVal} (hn : n = (L.take i).length + (L.drop (i + 1)).length) (hx : xs = nmsC (L.take i) ++ nmsC (L.drop (i + 1))) : AVal.r (.ro n (cutA xs 0 (n * 2))) = roN (L.eraseIdx i) := by
  have e : L.eraseIdx i = L.take i ++ L.drop (i + 1) := List.eraseIdx_eq_take_drop_succ L i
  subst hx
  rw [cutA_eq, List.drop_zero, List.take_of_length_le (by rw [List.length_append, nmsC_len, nmsC_len]; omega), e, roN, List.length_append, nmsC_app, hn]
theorem okS_dm {L : List NmV} (hok : ∀ e ∈ L, okS e) (to : Int) {D : List (List UInt8)} (hD : ∀ s ∈ D, s.length ≤ 140737488355328) : ∀ e ∈ L ++ dm to D, okS e := by
  intro e he
  rcases List.mem_append.1 he with he | he
  · exact hok e he
  · obtain ⟨s, hs, rfl⟩ := List.mem_map.1 he
    exact ⟨s, rfl, hD s hs⟩
theorem w_TwinSs (L : List NmV) (hok : ∀ e ∈ L, okS e) (hL : L.length ≤ 1048576) (at_ : Int) (i : Nat) (e : NmV) (hi : placeI at_ (L.length : Int) = (i : Int)) (hx : L[i]? = some e) (hlt : L.length < 512) : Pur Try.prog 15 [roN L, .r (.int .i64 at_)] (roN (L ++ [e])) := by
  have hne : L ≠ [] := by intro q; subst q; simp at hx
  have := w_TwinN L (fun e he => (hok e he).ok) hL hne hlt at_ i e hi hx
  rw [owns_id hok, (hok e (List.mem_of_getElem? hx)).own] at this
  exact this
theorem w_Twin0 (at_ : Int) : Pur Try.prog 15 [.r (.ro 0 []), .r (.int .i64 at_)] (.r .nil) := by
  refine spec_of_go (N := 21) Try.func15 rfl (by decide) rfl rfl ?_
  refine zB ?_
  refine pA ?_
  refine zC ?_
  refine pA ?_
  refine ar_pur (w_allR) rfl rfl rfl rfl rfl rfl rfl ?_
  refine pA ?_
  refine zA ?_
  refine zB ?_
  iterate 3 refine pA ?_
  refine ar_nil ?_
  refine ag_true rfl (by decide) ?_
  refine zB ?_
  iterate 2 refine pA ?_
  refine ar_nil ?_
  refine ag_ret tOk Try.func15 rfl rfl (by simp) ?_
  rfl
theorem w_Take0r (at_ : Int) : Pur Try.prog 14 [.r (.ro 0 []), .r (.int .i64 at_)] (.tuple [nmA ⟨0, none⟩, .r .nil, .r (.bool false)]) := by
  refine spec_of_go (N := 27) Try.func14 rfl (by decide) rfl rfl ?_
  refine zB ?_
  refine ar_new tOk rfl rfl rfl ?_ ?_
  · simp
  iterate 2 refine pA ?_
  refine zA ?_
  refine zB ?_
  iterate 3 refine pA ?_
  refine ar_nil ?_
  refine ag_true rfl (by decide) ?_
  refine zB ?_
  refine ar_pure tOk rfl rfl rfl ?_ ?_
  · simp
  refine ar_store tOk rfl rfl rfl trivial ?_
  iterate 2 refine pA ?_
  refine ar_nil ?_
  refine ag_ret tOk Try.func14 rfl rfl (by first | trivial | exact ⟨trivial, trivial⟩ | simp) ?_
  rfl
def stlSo_0 (L : List NmV) : Nat → Regs × Hp := fun i => ([(0, roN L), (1, .sl 0 0 L.length 2), (5, .r (.int .i64 (i : Int)))], hNL L)
def prlSo_0 (L : List NmV) : Nat → Prop := fun i => i ≤ L.length
theorem w_sameO0 (L : List NmV) (hok : ∀ e ∈ L, okS e) (hL : L.length ≤ 1048576)  : Spec Try.prog 17 [roN L, .sl 0 0 L.length 2] (hNL L) (fun v h' => v = .r (.bool true) ∧ h' = hNL L) := by
  refine spec_of_go (N := 27) Try.func17 rfl (by decide) rfl rfl ?_
  refine zB ?_
  refine pA ?_
  refine zA ?_
  refine zB ?_
  iterate 5 refine pA ?_
  refine ar_nil ?_
  refine ag_false rfl (by simp) ?_
  refine ag_skip ?_
  refine ag_seq ?_
  refine zB ?_
  refine pA ?_
  refine ar_nil ?_
  refine ag_block ?_
  refine ag_loopS (stlSo_0 L) (prlSo_0 L) (fun (i : Nat) => L.length - i) 0 (ent_weak [0] rfl rfl rfl rfl ?_ ?_ rfl) (show prlSo_0 L 0 from ?_) ?_
  · exact ⟨⟨rfl, rfl⟩, ⟨rfl, rfl⟩, ⟨rfl, rfl⟩, trivial⟩
  · exact ⟨⟨rfl, rfl, rfl⟩, trivial⟩
  · exact Nat.zero_le _
  rintro i hi hrec
  have hi : i ≤ L.length := hi
  refine ag_seq ?_
  refine zB ?_
  iterate 4 refine pA ?_
  refine ar_nil ?_
  refine ag_if rfl ?_ ?_
  · intro h14
    obtain ⟨e, hx⟩ : ∃ e, L[i]? = some e := ⟨L[i]'(by omega), by simp⟩
    have hex := hok e (List.mem_of_getElem? hx)
    refine ag_skip ?_
    refine ag_seq ?_
    refine ag_block ?_
    refine ag_seq ?_
    refine ag_draw0 (by kernel_rfl) (by kernel_rfl) ?_
    iterate 2 refine aq_pure tOk rfl rfl rfl trivial ?_
    refine aq_pure tOk rfl rfl rfl ?_ ?_
    · refine ⟨?_, ?_⟩ <;> first | omega | exact nmsC_ne hx | (refine ⟨?_, ?_⟩ <;> omega)
    refine aq_loadAs tOk (nmA e) rfl rfl rfl rfl (fun _ => rfl) rfl rfl (.inr ⟨rfl, _, rfl, by rw [mulz_eq, Int.toNat_natCast]; exact nmsC_get hx, rfl⟩) ?_
    iterate 2 refine aq_pure tOk rfl rfl rfl trivial ?_
    refine aq_pure tOk rfl rfl rfl ?_ ?_
    · refine ⟨?_, ?_⟩ <;> omega
    refine aq_loadAs0 tOk (nmA e) rfl rfl rfl rfl rfl (by kernel_rfl) rfl rfl (.inr ⟨rfl, _, rfl, by rw [addo_eq, mulz_eq, Int.toNat_natCast, Nat.zero_add]; exact nmsC_get hx, rfl⟩) ?_
    refine aq_pur (w_one e hex) rfl rfl rfl rfl rfl rfl rfl ?_
    refine aq_pure tOk rfl rfl rfl trivial ?_
    refine aq_nil rfl ?_
    refine ag_false rfl (by decide) ?_
    refine ag_skip ?_
    refine ag_inBlock ?_
    refine ag_reg ?_
    refine pA ?_
    refine ar_pure tOk rfl rfl rfl ?_ ?_
    · unfold inI64; omega
    refine pA ?_
    refine ar_nil ?_
    refine ag_ent (ent_weak (g' := (stlSo_0 L (i + 1)).1) (h' := (stlSo_0 L (i + 1)).2) [0] rfl rfl rfl rfl ?_ ?_ rfl) ?_
    · exact ⟨⟨rfl, rfl⟩, ⟨rfl, rfl⟩, ⟨rfl, by exact eqI (by omega)⟩, trivial⟩
    · exact ⟨⟨rfl, rfl, rfl⟩, trivial⟩
    have hnx := hrec (i + 1)
    refine hnx ?_ ?_
    · show i + 1 ≤ L.length; omega
    · show L.length - (i + 1) < L.length - i; omega
  · intro h14
    refine ag_exit rfl ?_
    refine zB ?_
    refine pA ?_
    refine ar_nil ?_
    refine ag_ent (ent_weak (g' := [(4, .r (.bool true))]) (h' := hNL L) [0] rfl rfl rfl rfl ?_ ?_ rfl) ?_
    · exact ⟨⟨rfl, rfl⟩, trivial⟩
    · exact ⟨⟨rfl, rfl, rfl⟩, trivial⟩
    refine ag_ret tOk Try.func17 rfl rfl (by simp) ?_
    exact ⟨rfl, rfl⟩
theorem w_sameO (M : List NmV) (hok : ∀ e ∈ M, okS e) (hL : M.length ≤ 1048576) (n : Nat) (xs : List RVal) (hn : n = M.length) (hx : xs = nmsC M) : Spec Try.prog 17 [roN M, .sl 0 0 n 2] ⟨1, [(0, some (.plain xs))], false⟩ (fun v h' => v = .r (.bool true) ∧ h' = ⟨1, [(0, some (.plain xs))], false⟩) := by
  subst hn hx; exact w_sameO0 M hok hL
end Go.Proofs.Ytopfpkmdkcjjlaa


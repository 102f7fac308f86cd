/-
  WALKS: the law ReceiptTells. (Printed by gen.py out of w_rcpt5.py.)
-/
import Derived.Test.YtancdgbclbkpkaaRcpt4
namespace Go.Proofs.Ytancdgbclbkpkaa
open Go
set_option maxRecDepth 20000
set_option linter.unusedVariables false
set_option linter.unusedSimpArgs false
theorem take_neS {α : Type} {A B : List α} {i : Nat} {a b : α} (ha : A[i]? = some a) (hb : B[i]? = some b) (h : a ≠ b) : A ≠ B := by
  rintro rfl
  rw [ha] at hb
  exact h (Option.some.inj hb)
theorem take_allS {α : Type} {A B : List α} {i : Nat} (hl : A.length = B.length) (h : A.take i = B.take i) (hi : ¬ ((i : Int) < (A.length : Int))) : A = B := by
  rw [List.take_of_length_le (by omega), List.take_of_length_le (by omega)] at h
  exact h
theorem take_moreS {α : Type} {A B : List α} {i : Nat} {a b : α} (ha : A[i]? = some a) (hb : B[i]? = some b) (h : A.take i = B.take i) (e : a = b) : A.take (i + 1) = B.take (i + 1) := by
  rw [List.take_add_one, List.take_add_one, ha, hb, h, e]
theorem getI2S {α : Type} {A B : List α} {i : Nat} (h : (i : Int) < (A.length : Int)) (hl : A.length = B.length) : ∃ a b, A[i]? = some a ∧ B[i]? = some b := ⟨A[i]'(by omega), B[i]'(by omega), by simp, by simp⟩
theorem evsC_len5 (L : List EvV) : (evsC L).length = L.length * 27 := by
  induction L with
  | nil => rfl
  | cons x l ih => simp only [evsC, List.flatMap_cons, List.length_append, List.length_cons] at *; rw [ih, evC_len]; omega
theorem roE_take {L : List EvV} {k : Nat} (h : k ≤ L.length) : AVal.r (.ro (Int.toNat (k : Int)) (List.take (mulz (k : Int) 27) (evsC L))) = roE (L.take k) := by
  have e : evsC L = evsC (L.take k) ++ evsC (L.drop k) := by
    have h1 : evsC (L.take k ++ L.drop k) = evsC (L.take k) ++ evsC (L.drop k) := List.flatMap_append
    rw [List.take_append_drop] at h1
    exact h1
  have hl : (L.take k).length = k := by rw [List.length_take]; omega
  rw [roE, hl, mulz_eq, Int.toNat_natCast, e, List.take_append_of_le_length (by rw [evsC_len5, hl]; exact Nat.le_refl _), List.take_of_length_le (by rw [evsC_len5, hl]; exact Nat.le_refl _)]
def stTxS_0 (A B : List (List UInt8)) : Nat → Regs × Hp := fun i => ([(0, roS A), (1, roS B), (5, .r (.int .i64 (i : Int)))], ⟨0, [], false⟩)
def prTxS_0 (A B : List (List UInt8)) : Nat → Prop := fun i => A.take i = B.take i
theorem w_TextsS (A B : List (List UInt8)) (hA : A.length ≤ 9223372036854775807) : Pur Try.prog 24 [roS A, roS B] (.r (.bool (decide (A = B)))) := by
  refine spec_of_go (N := 26) Try.func24 rfl (by decide) rfl rfl ?_
  refine zB ?_
  refine pA ?_
  refine zA ?_
  refine zB ?_
  iterate 5 refine pA ?_
  refine ar_nil ?_
  refine ag_if rfl ?_ ?_
  · intro h10
    refine zB ?_
    refine pA ?_
    refine ar_nil ?_
    refine ag_ret tOk Try.func24 rfl rfl (by simp) ?_
    exact eqB (decide_eq_false (fun e => h10 (by rw [e]))).symm
  · intro h10
    have hl : A.length = B.length := by omega
    refine ag_skip ?_
    refine ag_seq ?_
    refine zB ?_
    refine pA ?_
    refine ar_nil ?_
    refine ag_block ?_
    refine ag_loopS (stTxS_0 A B) (prTxS_0 A B) (fun (i : Nat) => A.length - i) 0 (ent_weak [] rfl rfl rfl rfl ?_ ?_ rfl) (show prTxS_0 A B 0 from ?_) ?_
    · exact ⟨⟨rfl, rfl⟩, ⟨rfl, rfl⟩, ⟨rfl, rfl⟩, trivial⟩
    · trivial
    · exact rfl
    rintro i hp hrec
    have hp : A.take i = B.take i := hp
    refine ag_seq ?_
    refine zB ?_
    iterate 4 refine pA ?_
    refine ar_nil ?_
    refine ag_if rfl ?_ ?_
    · intro h14
      obtain ⟨a, b, ha, hb⟩ := getI2S h14 hl
      have hlt : i < A.length := by omega
      refine ag_skip ?_
      refine ag_seq ?_
      refine ag_block ?_
      refine ag_seq ?_
      refine ag_draw0 (by kernel_rfl) (by kernel_rfl) ?_
      iterate 2 refine aq_pure tOk rfl rfl rfl trivial ?_
      refine aq_pure tOk rfl rfl rfl ?_ ?_
      · refine ⟨?_, ?_⟩ <;> first | omega | exact ne_mp ha | (refine ⟨?_, ?_⟩ <;> omega)
      refine aq_loadAs tOk (.r (.str a)) rfl rfl rfl rfl (fun _ => rfl) rfl rfl (.inl ⟨rfl, by simp [Body.cells, mulz_eq, sL, ha]⟩) ?_
      iterate 2 refine aq_pure tOk rfl rfl rfl trivial ?_
      refine aq_pure tOk rfl rfl rfl ?_ ?_
      · refine ⟨?_, ?_⟩ <;> first | omega | exact ne_mp hb | (refine ⟨?_, ?_⟩ <;> omega)
      refine aq_loadAs tOk (.r (.str b)) rfl rfl rfl rfl (fun _ => rfl) rfl rfl (.inl ⟨rfl, by simp [Body.cells, mulz_eq, sL, hb]⟩) ?_
      refine aq_pure tOk rfl rfl rfl trivial ?_
      refine aq_nil rfl ?_
      refine ag_if rfl ?_ ?_
      · intro h25
        refine zB ?_
        refine pA ?_
        refine ar_nil ?_
        refine ag_ret tOk Try.func24 rfl rfl (by simp) ?_
        exact eqB (decide_eq_false (take_neS ha hb (by simpa using h25))).symm
      · intro h25
        have hab : a = b := by simpa using h25
        refine ag_skip ?_
        refine ag_inBlock ?_
        refine ag_reg ?_
        refine pA ?_
        refine ar_pure tOk rfl rfl rfl ?_ ?_
        · unfold inI64; omega
        refine pA ?_
        refine ar_nil ?_
        refine ag_ent (ent_weak (g' := (stTxS_0 A B (i + 1)).1) (h' := (stTxS_0 A B (i + 1)).2) [] rfl rfl rfl rfl ?_ ?_ rfl) ?_
        · exact ⟨⟨rfl, rfl⟩, ⟨rfl, rfl⟩, ⟨rfl, by exact eqI (by omega)⟩, trivial⟩
        · trivial
        have hnx := hrec (i + 1)
        refine hnx ?_ ?_
        · exact take_moreS ha hb hp hab
        · show A.length - (i + 1) < A.length - i; omega
    · intro h14
      refine ag_exit rfl ?_
      refine zB ?_
      refine pA ?_
      refine ar_nil ?_
      refine ag_ret tOk Try.func24 rfl rfl (by simp) ?_
      exact eqB (decide_eq_true (take_allS hl hp h14)).symm
theorem allG_last {L : List EvV} {i : Nat} {e : EvV} (h : L[i]? = some e) (hg : allG (L.take (i + 1))) : ¬ lefBad e := by
  refine hg e ?_
  rw [List.take_add_one, h]; simp
theorem allG_less {L : List EvV} {i : Nat} (hg : allG (L.take (i + 1))) : allG (L.take i) := by
  intro y hy
  refine hg y ?_
  rw [List.take_add_one]; exact List.mem_append_left _ hy
def stLRT_0 (M : List EvV) (i0 : Int) : Nat × List RVal → Regs × Hp := fun ⟨i, acc⟩ => ([(0, roE M), (1, .r (.int .i64 i0)), (7, .r (.int .i64 (i : Int))), (6, .r (.bool (decide (allG (M.take i))))), (5, accA acc)], accH acc)
def prLRT_0 (M : List EvV) (i0 : Int) : Nat × List RVal → Prop := fun ⟨i, acc⟩ => i ≤ M.length ∧ acc = sL (lefs (M.take i))
theorem w_ReceiptTells (L : List EvV) (hok : ∀ e ∈ L, e.x.ok) (hL : L.length * 240 ≤ 140737488355328) (i0 : Int) : Pur Try.prog 6 [roE L, .r (.int .i64 i0)] (.r (.bool true)) := by
  refine spec_of_go (N := 122) Try.func6 rfl (by decide) rfl rfl ?_
  refine zB ?_
  refine pA ?_
  refine zA ?_
  refine zB ?_
  refine ar_pur (w_alive30) rfl rfl rfl rfl rfl rfl rfl ?_
  refine pA ?_
  refine ar_nil ?_
  refine ag_false rfl (rfl) ?_
  refine ag_skip ?_
  refine ag_seq ?_
  refine zB ?_
  iterate 3 refine pA ?_
  refine ar_nil ?_
  refine ag_if rfl ?_ ?_
  · intro h20
    refine ag_reg ?_
    refine pA ?_
    refine ar_pure tOk rfl rfl rfl ?_ ?_
    · first | (simp only [boundsOk]; rw [evsC_len5]; omega) | (simp only [boundsOk]; omega)
    refine pA ?_
    refine zA ?_
    obtain ⟨M, hMl, hMok, hMe⟩ : ∃ M : List EvV, M.length ≤ 12 ∧ (∀ e ∈ M, e.x.ok) ∧ M = L.take 12 := ⟨_, by rw [List.length_take]; omega, fun e he => hok e (List.mem_of_mem_take he), rfl⟩
    refine ag_ent (ent_reg 0 (roE M) (by rw [hMe]; exact roE_take (L := L) (k := 12) (by omega))) ?_
    refine ag_reg ?_
    refine pA ?_
    refine zC ?_
    refine pA ?_
    refine zA ?_
    refine zB ?_
    refine pA ?_
    refine ar_nil ?_
    refine ag_block ?_
    refine ag_loopS (stLRT_0 M i0) (prLRT_0 M i0) (fun ⟨i, acc⟩ => M.length - i) (0, []) (ent_weak [] rfl rfl rfl rfl ?_ ?_ rfl) (show prLRT_0 M i0 (0, []) from ?_) ?_
    · exact ⟨⟨rfl, rfl⟩, ⟨rfl, rfl⟩, ⟨rfl, rfl⟩, ⟨rfl, by exact eqB (decide_eq_true (by intro e he; simp at he))⟩, ⟨rfl, rfl⟩, trivial⟩
    · trivial
    · exact ⟨Nat.zero_le _, rfl⟩
    rintro ⟨i, acc⟩ hp hrec
    cases acc with
    | nil =>
      obtain ⟨hi, hacc⟩ : _ := hp
      refine ag_ent (ent_weak (g' := [(0, roE M), (1, .r (.int .i64 i0)), (7, .r (.int .i64 (i : Int))), (6, .r (.bool (decide (allG (M.take i))))), (5, .r .nil)]) (h' := ⟨0, [], false⟩) [] rfl rfl rfl rfl ?_ ?_ rfl) ?_
      · exact ⟨⟨rfl, rfl⟩, ⟨rfl, rfl⟩, ⟨rfl, rfl⟩, ⟨rfl, rfl⟩, ⟨rfl, rfl⟩, trivial⟩
      · trivial
      refine ag_seq ?_
      refine zB ?_
      iterate 4 refine pA ?_
      refine ar_nil ?_
      refine ag_if rfl ?_ ?_
      · intro h26
        obtain ⟨e, hx⟩ : ∃ e, M[i]? = some e := ⟨M[i]'(by omega), by simp⟩
        have hex := hMok e (List.mem_of_getElem? hx)
        have hln := congrArg List.length hacc
        simp only [sL, lefs, List.length_map, List.length_take, List.length_cons, List.length_nil] at hln
        refine ag_skip ?_
        refine ag_seq ?_
        refine ag_block ?_
        refine ag_seq ?_
        by_cases hbe : lefBad e
        · skip
          have cl1 := w_rleaf e hex
          have cl2 := w_Leaf e hex
          rw [(lef_b hbe).2] at cl2
          rw [decide_eq_false (p := ¬ lefBad e) (fun q => q hbe)] at cl1
          refine ag_reg ?_
          iterate 2 refine pA ?_
          refine ar_pure tOk rfl rfl rfl ?_ ?_
          · refine ⟨?_, ?_⟩ <;> first | omega | exact evsC_ne hx | (refine ⟨?_, ?_⟩ <;> omega)
          refine ar_loadAs tOk (eventA e) rfl rfl rfl rfl rfl rfl rfl (.inr ⟨rfl, _, rfl, by rw [mulz_eq, Int.toNat_natCast]; exact evsC_get hx, rfl⟩) ?_
          refine ar_pur (cl1) rfl rfl rfl rfl rfl rfl rfl ?_
          iterate 5 refine pA ?_
          refine zC ?_
          iterate 2 refine pA ?_
          refine ar_pure tOk rfl rfl rfl ?_ ?_
          · refine ⟨?_, ?_⟩ <;> first | omega | exact evsC_ne hx | (refine ⟨?_, ?_⟩ <;> omega)
          refine ar_loadAs tOk (eventA e) rfl rfl rfl rfl rfl rfl rfl (.inr ⟨rfl, _, rfl, by rw [mulz_eq, Int.toNat_natCast]; exact evsC_get hx, rfl⟩) ?_
          refine ar_pur (cl2) rfl rfl rfl rfl rfl rfl rfl ?_
          iterate 5 refine pA ?_
          refine zA ?_
          refine zB ?_
          iterate 4 refine pA ?_
          refine ar_ent (ent_reg 48 (.r (.bool false)) (by show AVal.r (.bool _) = _; exact eqB (by simp))) ?_
          iterate 5 refine pA ?_
          refine ar_nil ?_
          refine ag_false rfl (by simp) ?_
          refine ag_skip ?_
          refine ag_reg ?_
          iterate 2 refine pA ?_
          refine ar_qd rfl (qop_buildRo tOk rfl ?_ rfl) rfl rfl rfl rfl ?_
          · repeat any_goals (first | trivial | decide | omega | (simp; done) | (rw [wu8]; omega) | refine ⟨?_, ?_⟩)
          refine ar_app tOk rfl rfl rfl ?_ ?_
          · refine ⟨⟨?_, ?_, ?_⟩, ⟨?_, ?_⟩, ⟨?_, ?_⟩, ?_⟩ <;> first | trivial | omega | (simp; done) | (simp; omega)
          iterate 2 refine pA ?_
          refine ar_guard (t := decide (allG (M.take i))) (fun ht => ?_) (fun ht => ?_)
          · refine ar_ent (ent_reg 59 (.r (.bool true)) (by show AVal.r (.bool _) = _; rw [ht])) ?_
            iterate 4 refine pA ?_
            refine ar_nil ?_
            refine ag_inBlock ?_
            refine ag_reg ?_
            refine pA ?_
            refine ar_pure tOk rfl rfl rfl ?_ ?_
            · unfold inI64; omega
            refine pA ?_
            refine ar_nil ?_
            refine ag_ent (ent_weak (g' := (stLRT_0 M i0 (i + 1, [.str (lefL e)])).1) (h' := (stLRT_0 M i0 (i + 1, [.str (lefL e)])).2) [0] rfl rfl rfl rfl ?_ ?_ rfl) ?_
            · exact ⟨⟨rfl, rfl⟩, ⟨rfl, rfl⟩, ⟨rfl, by exact eqI (by omega)⟩, ⟨rfl, by exact eqB (decide_eq_false (fun q => allG_last hx q hbe))⟩, ⟨rfl, rfl⟩, trivial⟩
            · exact ⟨⟨rfl, rfl, rfl⟩, trivial⟩
            have hnx := hrec (i + 1, [.str (lefL e)])
            refine hnx ?_ ?_
            · exact ⟨by omega, by rw [lefs_next hx, ← hacc]; try rfl⟩
            · show M.length - (i + 1) < M.length - i; omega
          · refine ar_ent (ent_reg 59 (.r (.bool false)) (by show AVal.r (.bool _) = _; rw [ht])) ?_
            refine ar_skip rfl rfl rfl ?_
            iterate 3 refine pA ?_
            refine ar_nil ?_
            refine ag_inBlock ?_
            refine ag_reg ?_
            refine pA ?_
            refine ar_pure tOk rfl rfl rfl ?_ ?_
            · unfold inI64; omega
            refine pA ?_
            refine ar_nil ?_
            refine ag_ent (ent_weak (g' := (stLRT_0 M i0 (i + 1, [.str (lefL e)])).1) (h' := (stLRT_0 M i0 (i + 1, [.str (lefL e)])).2) [0] rfl rfl rfl rfl ?_ ?_ rfl) ?_
            · exact ⟨⟨rfl, rfl⟩, ⟨rfl, rfl⟩, ⟨rfl, by exact eqI (by omega)⟩, ⟨rfl, by exact eqB (decide_eq_false (fun q => allG_last hx q hbe))⟩, ⟨rfl, rfl⟩, trivial⟩
            · exact ⟨⟨rfl, rfl, rfl⟩, trivial⟩
            have hnx := hrec (i + 1, [.str (lefL e)])
            refine hnx ?_ ?_
            · exact ⟨by omega, by rw [lefs_next hx, ← hacc]; try rfl⟩
            · show M.length - (i + 1) < M.length - i; omega
        · skip
          have cl1 := w_rleaf e hex
          have cl2 := w_Leaf e hex
          rw [(lef_g hbe).2] at cl2
          rw [decide_eq_true (p := ¬ lefBad e) hbe] at cl1
          refine ag_reg ?_
          iterate 2 refine pA ?_
          refine ar_pure tOk rfl rfl rfl ?_ ?_
          · refine ⟨?_, ?_⟩ <;> first | omega | exact evsC_ne hx | (refine ⟨?_, ?_⟩ <;> omega)
          refine ar_loadAs tOk (eventA e) rfl rfl rfl rfl rfl rfl rfl (.inr ⟨rfl, _, rfl, by rw [mulz_eq, Int.toNat_natCast]; exact evsC_get hx, rfl⟩) ?_
          refine ar_pur (cl1) rfl rfl rfl rfl rfl rfl rfl ?_
          iterate 5 refine pA ?_
          refine zC ?_
          iterate 2 refine pA ?_
          refine ar_pure tOk rfl rfl rfl ?_ ?_
          · refine ⟨?_, ?_⟩ <;> first | omega | exact evsC_ne hx | (refine ⟨?_, ?_⟩ <;> omega)
          refine ar_loadAs tOk (eventA e) rfl rfl rfl rfl rfl rfl rfl (.inr ⟨rfl, _, rfl, by rw [mulz_eq, Int.toNat_natCast]; exact evsC_get hx, rfl⟩) ?_
          refine ar_pur (cl2) rfl rfl rfl rfl rfl rfl rfl ?_
          iterate 5 refine pA ?_
          refine zA ?_
          refine zB ?_
          iterate 4 refine pA ?_
          refine ar_ent (ent_reg 48 (.r (.bool false)) (by show AVal.r (.bool _) = _; exact eqB (by simp))) ?_
          iterate 5 refine pA ?_
          refine ar_nil ?_
          refine ag_false rfl (by simp) ?_
          refine ag_skip ?_
          refine ag_reg ?_
          iterate 2 refine pA ?_
          refine ar_qd rfl (qop_buildRo tOk rfl ?_ rfl) rfl rfl rfl rfl ?_
          · repeat any_goals (first | trivial | decide | omega | (simp; done) | (rw [wu8]; omega) | refine ⟨?_, ?_⟩)
          refine ar_app tOk rfl rfl rfl ?_ ?_
          · refine ⟨⟨?_, ?_, ?_⟩, ⟨?_, ?_⟩, ⟨?_, ?_⟩, ?_⟩ <;> first | trivial | omega | (simp; done) | (simp; omega)
          iterate 2 refine pA ?_
          refine ar_guard (t := decide (allG (M.take i))) (fun ht => ?_) (fun ht => ?_)
          · refine ar_ent (ent_reg 59 (.r (.bool true)) (by show AVal.r (.bool _) = _; rw [ht])) ?_
            iterate 4 refine pA ?_
            refine ar_nil ?_
            refine ag_inBlock ?_
            refine ag_reg ?_
            refine pA ?_
            refine ar_pure tOk rfl rfl rfl ?_ ?_
            · unfold inI64; omega
            refine pA ?_
            refine ar_nil ?_
            refine ag_ent (ent_weak (g' := (stLRT_0 M i0 (i + 1, [.str (lefL e)])).1) (h' := (stLRT_0 M i0 (i + 1, [.str (lefL e)])).2) [0] rfl rfl rfl rfl ?_ ?_ rfl) ?_
            · exact ⟨⟨rfl, rfl⟩, ⟨rfl, rfl⟩, ⟨rfl, by exact eqI (by omega)⟩, ⟨rfl, by exact eqB (decide_eq_true (allG_next hx hbe (of_decide_eq_true ht)))⟩, ⟨rfl, rfl⟩, trivial⟩
            · exact ⟨⟨rfl, rfl, rfl⟩, trivial⟩
            have hnx := hrec (i + 1, [.str (lefL e)])
            refine hnx ?_ ?_
            · exact ⟨by omega, by rw [lefs_next hx, ← hacc]; try rfl⟩
            · show M.length - (i + 1) < M.length - i; omega
          · refine ar_ent (ent_reg 59 (.r (.bool false)) (by show AVal.r (.bool _) = _; rw [ht])) ?_
            refine ar_skip rfl rfl rfl ?_
            iterate 3 refine pA ?_
            refine ar_nil ?_
            refine ag_inBlock ?_
            refine ag_reg ?_
            refine pA ?_
            refine ar_pure tOk rfl rfl rfl ?_ ?_
            · unfold inI64; omega
            refine pA ?_
            refine ar_nil ?_
            refine ag_ent (ent_weak (g' := (stLRT_0 M i0 (i + 1, [.str (lefL e)])).1) (h' := (stLRT_0 M i0 (i + 1, [.str (lefL e)])).2) [0] rfl rfl rfl rfl ?_ ?_ rfl) ?_
            · exact ⟨⟨rfl, rfl⟩, ⟨rfl, rfl⟩, ⟨rfl, by exact eqI (by omega)⟩, ⟨rfl, by exact eqB (decide_eq_false (fun q => (of_decide_eq_false ht) (allG_less q)))⟩, ⟨rfl, rfl⟩, trivial⟩
            · exact ⟨⟨rfl, rfl, rfl⟩, trivial⟩
            have hnx := hrec (i + 1, [.str (lefL e)])
            refine hnx ?_ ?_
            · exact ⟨by omega, by rw [lefs_next hx, ← hacc]; try rfl⟩
            · show M.length - (i + 1) < M.length - i; omega
      · intro h26
        obtain rfl : i = M.length := by omega
        rw [List.take_length] at hacc
        refine ag_exit rfl ?_
        refine ag_seq ?_
        refine ag_ent (ent_weak (g' := [(0, roE M), (1, .r (.int .i64 i0)), (6, .r (.bool (decide (allG M)))), (5, .r .nil)]) (h' := ⟨0, [], false⟩) [] rfl rfl rfl rfl ?_ ?_ rfl) ?_
        · exact ⟨⟨rfl, rfl⟩, ⟨rfl, rfl⟩, ⟨rfl, by exact eqB (by rw [List.take_length])⟩, ⟨rfl, rfl⟩, trivial⟩
        · trivial
        refine ag_ent (ent_nil 5 (.ro 0 []) rfl (.inr rfl)) ?_
        refine ag_ent (ent_reg 5 (roS (lefs M)) (by rw [show lefs M = [] from List.map_eq_nil_iff.1 hacc.symm]; rfl)) ?_
        refine ag_ent (ent_weak (g' := [(0, roE M), (1, .r (.int .i64 i0)), (6, .r (.bool (decide (allG M)))), (5, roS (lefs M))]) (h' := ⟨0, [], false⟩) [] rfl rfl rfl rfl ?_ ?_ rfl) ?_
        · exact ⟨⟨rfl, rfl⟩, ⟨rfl, rfl⟩, ⟨rfl, rfl⟩, ⟨rfl, rfl⟩, trivial⟩
        · trivial
        have hll : (lefs M).length = M.length := by simp [lefs]
        rcases (show ¬ allG M ∨ (allG M ∧ (i0 < 0 ∨ (M.length : Int) ≤ i0)) ∨ (allG M ∧ ∃ j : Nat, i0 = (j : Int) ∧ j < M.length) by
          by_cases g : allG M
          · by_cases h1 : i0 < 0 ∨ (M.length : Int) ≤ i0
            · exact .inr (.inl ⟨g, h1⟩)
            · exact .inr (.inr ⟨g, i0.toNat, by omega, by omega⟩)
          · exact .inl g) with hg | ⟨hg, hi0⟩ | ⟨hg, j, hj, hjl⟩
        · skip
          refine ag_reg ?_
          refine pA ?_
          refine ar_pur (w_RootB M hMok (by omega) hg) rfl rfl rfl rfl rfl rfl rfl ?_
          iterate 5 refine pA ?_
          refine zC ?_
          iterate 2 refine pA ?_
          refine ar_pur (w_ShowB M hMok (by omega) hg i0) rfl rfl rfl rfl rfl rfl rfl ?_
          iterate 5 refine pA ?_
          refine zA ?_
          refine zB ?_
          iterate 2 refine pA ?_
          refine ar_nil ?_
          refine ag_true rfl (by simp [hg]) ?_
          refine zB ?_
          iterate 3 refine pA ?_
          refine ar_ent (ent_reg 77 (.r (.bool true)) (by show AVal.r (.bool _) = _; exact eqB (by rfl))) ?_
          iterate 4 refine pA ?_
          refine ar_ent (ent_reg 81 (.r (.bool true)) (by show AVal.r (.bool _) = _; exact eqB (by rfl))) ?_
          iterate 4 refine pA ?_
          refine ar_ent (ent_reg 85 (.r (.bool true)) (by show AVal.r (.bool _) = _; exact eqB (by rfl))) ?_
          iterate 5 refine pA ?_
          refine ar_nil ?_
          refine ag_ret tOk Try.func6 rfl rfl (by simp) ?_
          exact eqB (by simp)
        · skip
          refine ag_reg ?_
          refine pA ?_
          refine ar_pur (w_RootG M hMok (by omega) hg) rfl rfl rfl rfl rfl rfl rfl ?_
          iterate 5 refine pA ?_
          refine zC ?_
          iterate 2 refine pA ?_
          refine ar_pur (w_ShowX M hMok (by omega) hg i0 hi0) rfl rfl rfl rfl rfl rfl rfl ?_
          iterate 5 refine pA ?_
          refine zA ?_
          refine zB ?_
          iterate 2 refine pA ?_
          refine ar_nil ?_
          refine ag_false rfl (by simp [hg]) ?_
          refine ag_skip ?_
          refine ag_seq ?_
          refine zB ?_
          iterate 3 refine pA ?_
          refine ar_ent (ent_reg 92 (.r (.bool false)) (by show AVal.r (.bool _) = _; exact eqB (by rfl))) ?_
          iterate 2 refine pA ?_
          refine ar_pur (w_rroot _ (lefs M) rfl (by omega) (lefs_32 M)) rfl rfl rfl rfl rfl rfl rfl ?_
          iterate 2 refine pA ?_
          refine ar_nil ?_
          refine ag_false rfl (by simp) ?_
          refine ag_skip ?_
          refine ag_seq ?_
          refine zB ?_
          iterate 3 refine pA ?_
          refine ar_guard (t := decide (i0 < 0)) (fun ht => ?_) (fun ht => ?_)
          · refine ar_ent (ent_reg 100 (.r (.bool true)) (by show AVal.r (.bool _) = _; exact eqB ht)) ?_
            have hk := of_decide_eq_true ht
            repeat (first | refine ar_skip rfl rfl rfl ?_ | refine ar_pure tOk rfl rfl rfl trivial ?_)
            refine ar_nil ?_
            refine ag_true rfl (by rfl) ?_
            refine zB ?_
            iterate 3 refine pA ?_
            refine ar_ent (ent_reg 108 (.r (.bool true)) (by show AVal.r (.bool _) = _; exact eqB (by rfl))) ?_
            iterate 5 refine pA ?_
            refine ar_nil ?_
            refine ag_ret tOk Try.func6 rfl rfl (by simp) ?_
            exact eqB (by simp)
          · refine ar_ent (ent_reg 100 (.r (.bool false)) (by show AVal.r (.bool _) = _; exact eqB ht)) ?_
            have hk := of_decide_eq_false ht
            iterate 5 refine pA ?_
            refine ar_nil ?_
            refine ag_true rfl (decide_eq_true (by omega)) ?_
            refine zB ?_
            iterate 3 refine pA ?_
            refine ar_ent (ent_reg 108 (.r (.bool true)) (by show AVal.r (.bool _) = _; exact eqB (by rfl))) ?_
            iterate 5 refine pA ?_
            refine ar_nil ?_
            refine ag_ret tOk Try.func6 rfl rfl (by simp) ?_
            exact eqB (by simp)
        · skip
          subst hj
          refine ag_reg ?_
          refine pA ?_
          refine ar_pur (w_RootG M hMok (by omega) hg) rfl rfl rfl rfl rfl rfl rfl ?_
          iterate 5 refine pA ?_
          refine zC ?_
          iterate 2 refine pA ?_
          refine ar_pur (w_ShowG M hMok (by omega) hg j hjl) rfl rfl rfl rfl rfl rfl rfl ?_
          iterate 5 refine pA ?_
          refine zA ?_
          refine zB ?_
          iterate 2 refine pA ?_
          refine ar_nil ?_
          refine ag_false rfl (by simp [hg]) ?_
          refine ag_skip ?_
          refine ag_seq ?_
          refine zB ?_
          iterate 3 refine pA ?_
          refine ar_ent (ent_reg 92 (.r (.bool false)) (by show AVal.r (.bool _) = _; exact eqB (by rfl))) ?_
          iterate 2 refine pA ?_
          refine ar_pur (w_rroot _ (lefs M) rfl (by omega) (lefs_32 M)) rfl rfl rfl rfl rfl rfl rfl ?_
          iterate 2 refine pA ?_
          refine ar_nil ?_
          refine ag_false rfl (by simp) ?_
          refine ag_skip ?_
          refine ag_seq ?_
          refine zB ?_
          iterate 3 refine pA ?_
          refine ar_ent (ent_reg 100 (.r (.bool false)) (by show AVal.r (.bool _) = _; exact eqB (decide_eq_false (by omega)))) ?_
          iterate 5 refine pA ?_
          refine ar_nil ?_
          refine ag_false rfl (decide_eq_false (by omega)) ?_
          refine ag_skip ?_
          refine zB ?_
          iterate 3 refine pA ?_
          refine ar_ent (ent_reg 115 (.r (.bool true)) (by show AVal.r (.bool _) = _; exact eqB (by rfl))) ?_
          iterate 3 refine pA ?_
          refine ar_pur (w_rpathRo (lefs M) j (by omega) (lefs_32 M) (by omega)) rfl rfl rfl rfl rfl rfl rfl ?_
          refine ar_pur (w_TextsS _ _ (by have := pathR_len _ (lefs M) j rfl; omega)) rfl rfl rfl rfl rfl rfl rfl ?_
          iterate 2 refine pA ?_
          refine ar_nil ?_
          refine ag_ret tOk Try.func6 rfl rfl (by simp) ?_
          exact eqB (by simp)
    | cons a l =>
      obtain ⟨hi, hacc⟩ : _ := hp
      refine ag_ent (ent_weak (g' := [(0, roE M), (1, .r (.int .i64 i0)), (7, .r (.int .i64 (i : Int))), (6, .r (.bool (decide (allG (M.take i))))), (5, .sl 0 0 (l.length + 1) 1)]) (h' := ⟨1, [(0, some (.plain (a :: l)))], false⟩) [0] rfl rfl rfl rfl ?_ ?_ rfl) ?_
      · exact ⟨⟨rfl, rfl⟩, ⟨rfl, rfl⟩, ⟨rfl, rfl⟩, ⟨rfl, rfl⟩, ⟨rfl, rfl⟩, trivial⟩
      · exact ⟨⟨rfl, rfl, rfl⟩, trivial⟩
      refine ag_seq ?_
      refine zB ?_
      iterate 4 refine pA ?_
      refine ar_nil ?_
      refine ag_if rfl ?_ ?_
      · intro h26
        obtain ⟨e, hx⟩ : ∃ e, M[i]? = some e := ⟨M[i]'(by omega), by simp⟩
        have hex := hMok e (List.mem_of_getElem? hx)
        have hln := congrArg List.length hacc
        simp only [sL, lefs, List.length_map, List.length_take, List.length_cons, List.length_nil] at hln
        refine ag_skip ?_
        refine ag_seq ?_
        refine ag_block ?_
        refine ag_seq ?_
        by_cases hbe : lefBad e
        · skip
          have cl1 := w_rleaf e hex
          have cl2 := w_Leaf e hex
          rw [(lef_b hbe).2] at cl2
          rw [decide_eq_false (p := ¬ lefBad e) (fun q => q hbe)] at cl1
          refine ag_reg ?_
          iterate 2 refine pA ?_
          refine ar_pure tOk rfl rfl rfl ?_ ?_
          · refine ⟨?_, ?_⟩ <;> first | omega | exact evsC_ne hx | (refine ⟨?_, ?_⟩ <;> omega)
          refine ar_loadAs tOk (eventA e) rfl rfl rfl rfl rfl rfl rfl (.inr ⟨rfl, _, rfl, by rw [mulz_eq, Int.toNat_natCast]; exact evsC_get hx, rfl⟩) ?_
          refine ar_pur (cl1) rfl rfl rfl rfl rfl rfl rfl ?_
          iterate 5 refine pA ?_
          refine zC ?_
          iterate 2 refine pA ?_
          refine ar_pure tOk rfl rfl rfl ?_ ?_
          · refine ⟨?_, ?_⟩ <;> first | omega | exact evsC_ne hx | (refine ⟨?_, ?_⟩ <;> omega)
          refine ar_loadAs tOk (eventA e) rfl rfl rfl rfl rfl rfl rfl (.inr ⟨rfl, _, rfl, by rw [mulz_eq, Int.toNat_natCast]; exact evsC_get hx, rfl⟩) ?_
          refine ar_pur (cl2) rfl rfl rfl rfl rfl rfl rfl ?_
          iterate 5 refine pA ?_
          refine zA ?_
          refine zB ?_
          iterate 4 refine pA ?_
          refine ar_ent (ent_reg 48 (.r (.bool false)) (by show AVal.r (.bool _) = _; exact eqB (by simp))) ?_
          iterate 5 refine pA ?_
          refine ar_nil ?_
          refine ag_false rfl (by simp) ?_
          refine ag_skip ?_
          refine ag_reg ?_
          iterate 2 refine pA ?_
          refine ar_qd rfl (qop_buildRo tOk rfl ?_ rfl) rfl rfl rfl rfl ?_
          · repeat any_goals (first | trivial | decide | omega | (simp; done) | (rw [wu8]; omega) | refine ⟨?_, ?_⟩)
          refine ar_app tOk rfl rfl rfl ?_ ?_
          · refine ⟨⟨?_, ?_, ?_⟩, ⟨?_, ?_⟩, ⟨?_, ?_⟩, ?_⟩ <;> first | trivial | omega | (simp; done) | (simp; omega)
          iterate 2 refine pA ?_
          refine ar_guard (t := decide (allG (M.take i))) (fun ht => ?_) (fun ht => ?_)
          · refine ar_ent (ent_reg 59 (.r (.bool true)) (by show AVal.r (.bool _) = _; rw [ht])) ?_
            iterate 4 refine pA ?_
            refine ar_nil ?_
            refine ag_inBlock ?_
            refine ag_reg ?_
            refine pA ?_
            refine ar_pure tOk rfl rfl rfl ?_ ?_
            · unfold inI64; omega
            refine pA ?_
            refine ar_nil ?_
            refine ag_ent (ent_weak (g' := (stLRT_0 M i0 (i + 1, a :: l ++ [.str (lefL e)])).1) (h' := (stLRT_0 M i0 (i + 1, a :: l ++ [.str (lefL e)])).2) [1] rfl rfl rfl rfl ?_ ?_ rfl) ?_
            · exact ⟨⟨rfl, rfl⟩, ⟨rfl, rfl⟩, ⟨rfl, by exact eqI (by omega)⟩, ⟨rfl, by exact eqB (decide_eq_false (fun q => allG_last hx q hbe))⟩, ⟨rfl, by exact eqSl (by simp)⟩, trivial⟩
            · exact ⟨⟨rfl, rfl, by exact eqPl (by simp [cutA_eq])⟩, trivial⟩
            have hnx := hrec (i + 1, a :: l ++ [.str (lefL e)])
            refine hnx ?_ ?_
            · exact ⟨by omega, by rw [lefs_next hx, ← hacc]; try rfl⟩
            · show M.length - (i + 1) < M.length - i; omega
          · refine ar_ent (ent_reg 59 (.r (.bool false)) (by show AVal.r (.bool _) = _; rw [ht])) ?_
            refine ar_skip rfl rfl rfl ?_
            iterate 3 refine pA ?_
            refine ar_nil ?_
            refine ag_inBlock ?_
            refine ag_reg ?_
            refine pA ?_
            refine ar_pure tOk rfl rfl rfl ?_ ?_
            · unfold inI64; omega
            refine pA ?_
            refine ar_nil ?_
            refine ag_ent (ent_weak (g' := (stLRT_0 M i0 (i + 1, a :: l ++ [.str (lefL e)])).1) (h' := (stLRT_0 M i0 (i + 1, a :: l ++ [.str (lefL e)])).2) [1] rfl rfl rfl rfl ?_ ?_ rfl) ?_
            · exact ⟨⟨rfl, rfl⟩, ⟨rfl, rfl⟩, ⟨rfl, by exact eqI (by omega)⟩, ⟨rfl, by exact eqB (decide_eq_false (fun q => allG_last hx q hbe))⟩, ⟨rfl, by exact eqSl (by simp)⟩, trivial⟩
            · exact ⟨⟨rfl, rfl, by exact eqPl (by simp [cutA_eq])⟩, trivial⟩
            have hnx := hrec (i + 1, a :: l ++ [.str (lefL e)])
            refine hnx ?_ ?_
            · exact ⟨by omega, by rw [lefs_next hx, ← hacc]; try rfl⟩
            · show M.length - (i + 1) < M.length - i; omega
        · skip
          have cl1 := w_rleaf e hex
          have cl2 := w_Leaf e hex
          rw [(lef_g hbe).2] at cl2
          rw [decide_eq_true (p := ¬ lefBad e) hbe] at cl1
          refine ag_reg ?_
          iterate 2 refine pA ?_
          refine ar_pure tOk rfl rfl rfl ?_ ?_
          · refine ⟨?_, ?_⟩ <;> first | omega | exact evsC_ne hx | (refine ⟨?_, ?_⟩ <;> omega)
          refine ar_loadAs tOk (eventA e) rfl rfl rfl rfl rfl rfl rfl (.inr ⟨rfl, _, rfl, by rw [mulz_eq, Int.toNat_natCast]; exact evsC_get hx, rfl⟩) ?_
          refine ar_pur (cl1) rfl rfl rfl rfl rfl rfl rfl ?_
          iterate 5 refine pA ?_
          refine zC ?_
          iterate 2 refine pA ?_
          refine ar_pure tOk rfl rfl rfl ?_ ?_
          · refine ⟨?_, ?_⟩ <;> first | omega | exact evsC_ne hx | (refine ⟨?_, ?_⟩ <;> omega)
          refine ar_loadAs tOk (eventA e) rfl rfl rfl rfl rfl rfl rfl (.inr ⟨rfl, _, rfl, by rw [mulz_eq, Int.toNat_natCast]; exact evsC_get hx, rfl⟩) ?_
          refine ar_pur (cl2) rfl rfl rfl rfl rfl rfl rfl ?_
          iterate 5 refine pA ?_
          refine zA ?_
          refine zB ?_
          iterate 4 refine pA ?_
          refine ar_ent (ent_reg 48 (.r (.bool false)) (by show AVal.r (.bool _) = _; exact eqB (by simp))) ?_
          iterate 5 refine pA ?_
          refine ar_nil ?_
          refine ag_false rfl (by simp) ?_
          refine ag_skip ?_
          refine ag_reg ?_
          iterate 2 refine pA ?_
          refine ar_qd rfl (qop_buildRo tOk rfl ?_ rfl) rfl rfl rfl rfl ?_
          · repeat any_goals (first | trivial | decide | omega | (simp; done) | (rw [wu8]; omega) | refine ⟨?_, ?_⟩)
          refine ar_app tOk rfl rfl rfl ?_ ?_
          · refine ⟨⟨?_, ?_, ?_⟩, ⟨?_, ?_⟩, ⟨?_, ?_⟩, ?_⟩ <;> first | trivial | omega | (simp; done) | (simp; omega)
          iterate 2 refine pA ?_
          refine ar_guard (t := decide (allG (M.take i))) (fun ht => ?_) (fun ht => ?_)
          · refine ar_ent (ent_reg 59 (.r (.bool true)) (by show AVal.r (.bool _) = _; rw [ht])) ?_
            iterate 4 refine pA ?_
            refine ar_nil ?_
            refine ag_inBlock ?_
            refine ag_reg ?_
            refine pA ?_
            refine ar_pure tOk rfl rfl rfl ?_ ?_
            · unfold inI64; omega
            refine pA ?_
            refine ar_nil ?_
            refine ag_ent (ent_weak (g' := (stLRT_0 M i0 (i + 1, a :: l ++ [.str (lefL e)])).1) (h' := (stLRT_0 M i0 (i + 1, a :: l ++ [.str (lefL e)])).2) [1] rfl rfl rfl rfl ?_ ?_ rfl) ?_
            · exact ⟨⟨rfl, rfl⟩, ⟨rfl, rfl⟩, ⟨rfl, by exact eqI (by omega)⟩, ⟨rfl, by exact eqB (decide_eq_true (allG_next hx hbe (of_decide_eq_true ht)))⟩, ⟨rfl, by exact eqSl (by simp)⟩, trivial⟩
            · exact ⟨⟨rfl, rfl, by exact eqPl (by simp [cutA_eq])⟩, trivial⟩
            have hnx := hrec (i + 1, a :: l ++ [.str (lefL e)])
            refine hnx ?_ ?_
            · exact ⟨by omega, by rw [lefs_next hx, ← hacc]; try rfl⟩
            · show M.length - (i + 1) < M.length - i; omega
          · refine ar_ent (ent_reg 59 (.r (.bool false)) (by show AVal.r (.bool _) = _; rw [ht])) ?_
            refine ar_skip rfl rfl rfl ?_
            iterate 3 refine pA ?_
            refine ar_nil ?_
            refine ag_inBlock ?_
            refine ag_reg ?_
            refine pA ?_
            refine ar_pure tOk rfl rfl rfl ?_ ?_
            · unfold inI64; omega
            refine pA ?_
            refine ar_nil ?_
            refine ag_ent (ent_weak (g' := (stLRT_0 M i0 (i + 1, a :: l ++ [.str (lefL e)])).1) (h' := (stLRT_0 M i0 (i + 1, a :: l ++ [.str (lefL e)])).2) [1] rfl rfl rfl rfl ?_ ?_ rfl) ?_
            · exact ⟨⟨rfl, rfl⟩, ⟨rfl, rfl⟩, ⟨rfl, by exact eqI (by omega)⟩, ⟨rfl, by exact eqB (decide_eq_false (fun q => (of_decide_eq_false ht) (allG_less q)))⟩, ⟨rfl, by exact eqSl (by simp)⟩, trivial⟩
            · exact ⟨⟨rfl, rfl, by exact eqPl (by simp [cutA_eq])⟩, trivial⟩
            have hnx := hrec (i + 1, a :: l ++ [.str (lefL e)])
            refine hnx ?_ ?_
            · exact ⟨by omega, by rw [lefs_next hx, ← hacc]; try rfl⟩
            · show M.length - (i + 1) < M.length - i; omega
      · intro h26
        obtain rfl : i = M.length := by omega
        rw [List.take_length] at hacc
        refine ag_exit rfl ?_
        refine ag_seq ?_
        refine ag_ent (ent_weak (g' := [(0, roE M), (1, .r (.int .i64 i0)), (6, .r (.bool (decide (allG M)))), (5, .sl 0 0 (l.length + 1) 1)]) (h' := ⟨1, [(0, some (.plain (a :: l)))], false⟩) [0] rfl rfl rfl rfl ?_ ?_ rfl) ?_
        · exact ⟨⟨rfl, rfl⟩, ⟨rfl, rfl⟩, ⟨rfl, by exact eqB (by rw [List.take_length])⟩, ⟨rfl, rfl⟩, trivial⟩
        · exact ⟨⟨rfl, rfl, rfl⟩, trivial⟩
        refine ag_ent (ent_freeze 5 rfl rfl rfl trivial) ?_
        refine ag_ent (ent_reg 5 (roS (lefs M)) (by show AVal.r (.ro _ (cutA _ 0 _)) = _; exact roS_of2 hacc)) ?_
        refine ag_ent (ent_weak (g' := [(0, roE M), (1, .r (.int .i64 i0)), (6, .r (.bool (decide (allG M)))), (5, roS (lefs M))]) (h' := ⟨0, [], false⟩) [] rfl rfl rfl rfl ?_ ?_ rfl) ?_
        · exact ⟨⟨rfl, rfl⟩, ⟨rfl, rfl⟩, ⟨rfl, rfl⟩, ⟨rfl, rfl⟩, trivial⟩
        · trivial
        have hll : (lefs M).length = M.length := by simp [lefs]
        rcases (show ¬ allG M ∨ (allG M ∧ (i0 < 0 ∨ (M.length : Int) ≤ i0)) ∨ (allG M ∧ ∃ j : Nat, i0 = (j : Int) ∧ j < M.length) by
          by_cases g : allG M
          · by_cases h1 : i0 < 0 ∨ (M.length : Int) ≤ i0
            · exact .inr (.inl ⟨g, h1⟩)
            · exact .inr (.inr ⟨g, i0.toNat, by omega, by omega⟩)
          · exact .inl g) with hg | ⟨hg, hi0⟩ | ⟨hg, j, hj, hjl⟩
        · skip
          refine ag_reg ?_
          refine pA ?_
          refine ar_pur (w_RootB M hMok (by omega) hg) rfl rfl rfl rfl rfl rfl rfl ?_
          iterate 5 refine pA ?_
          refine zC ?_
          iterate 2 refine pA ?_
          refine ar_pur (w_ShowB M hMok (by omega) hg i0) rfl rfl rfl rfl rfl rfl rfl ?_
          iterate 5 refine pA ?_
          refine zA ?_
          refine zB ?_
          iterate 2 refine pA ?_
          refine ar_nil ?_
          refine ag_true rfl (by simp [hg]) ?_
          refine zB ?_
          iterate 3 refine pA ?_
          refine ar_ent (ent_reg 77 (.r (.bool true)) (by show AVal.r (.bool _) = _; exact eqB (by rfl))) ?_
          iterate 4 refine pA ?_
          refine ar_ent (ent_reg 81 (.r (.bool true)) (by show AVal.r (.bool _) = _; exact eqB (by rfl))) ?_
          iterate 4 refine pA ?_
          refine ar_ent (ent_reg 85 (.r (.bool true)) (by show AVal.r (.bool _) = _; exact eqB (by rfl))) ?_
          iterate 5 refine pA ?_
          refine ar_nil ?_
          refine ag_ret tOk Try.func6 rfl rfl (by simp) ?_
          exact eqB (by simp)
        · skip
          refine ag_reg ?_
          refine pA ?_
          refine ar_pur (w_RootG M hMok (by omega) hg) rfl rfl rfl rfl rfl rfl rfl ?_
          iterate 5 refine pA ?_
          refine zC ?_
          iterate 2 refine pA ?_
          refine ar_pur (w_ShowX M hMok (by omega) hg i0 hi0) rfl rfl rfl rfl rfl rfl rfl ?_
          iterate 5 refine pA ?_
          refine zA ?_
          refine zB ?_
          iterate 2 refine pA ?_
          refine ar_nil ?_
          refine ag_false rfl (by simp [hg]) ?_
          refine ag_skip ?_
          refine ag_seq ?_
          refine zB ?_
          iterate 3 refine pA ?_
          refine ar_ent (ent_reg 92 (.r (.bool false)) (by show AVal.r (.bool _) = _; exact eqB (by rfl))) ?_
          iterate 2 refine pA ?_
          refine ar_pur (w_rroot _ (lefs M) rfl (by omega) (lefs_32 M)) rfl rfl rfl rfl rfl rfl rfl ?_
          iterate 2 refine pA ?_
          refine ar_nil ?_
          refine ag_false rfl (by simp) ?_
          refine ag_skip ?_
          refine ag_seq ?_
          refine zB ?_
          iterate 3 refine pA ?_
          refine ar_guard (t := decide (i0 < 0)) (fun ht => ?_) (fun ht => ?_)
          · refine ar_ent (ent_reg 100 (.r (.bool true)) (by show AVal.r (.bool _) = _; exact eqB ht)) ?_
            have hk := of_decide_eq_true ht
            repeat (first | refine ar_skip rfl rfl rfl ?_ | refine ar_pure tOk rfl rfl rfl trivial ?_)
            refine ar_nil ?_
            refine ag_true rfl (by rfl) ?_
            refine zB ?_
            iterate 3 refine pA ?_
            refine ar_ent (ent_reg 108 (.r (.bool true)) (by show AVal.r (.bool _) = _; exact eqB (by rfl))) ?_
            iterate 5 refine pA ?_
            refine ar_nil ?_
            refine ag_ret tOk Try.func6 rfl rfl (by simp) ?_
            exact eqB (by simp)
          · refine ar_ent (ent_reg 100 (.r (.bool false)) (by show AVal.r (.bool _) = _; exact eqB ht)) ?_
            have hk := of_decide_eq_false ht
            iterate 5 refine pA ?_
            refine ar_nil ?_
            refine ag_true rfl (decide_eq_true (by omega)) ?_
            refine zB ?_
            iterate 3 refine pA ?_
            refine ar_ent (ent_reg 108 (.r (.bool true)) (by show AVal.r (.bool _) = _; exact eqB (by rfl))) ?_
            iterate 5 refine pA ?_
            refine ar_nil ?_
            refine ag_ret tOk Try.func6 rfl rfl (by simp) ?_
            exact eqB (by simp)
        · skip
          subst hj
          refine ag_reg ?_
          refine pA ?_
          refine ar_pur (w_RootG M hMok (by omega) hg) rfl rfl rfl rfl rfl rfl rfl ?_
          iterate 5 refine pA ?_
          refine zC ?_
          iterate 2 refine pA ?_
          refine ar_pur (w_ShowG M hMok (by omega) hg j hjl) rfl rfl rfl rfl rfl rfl rfl ?_
          iterate 5 refine pA ?_
          refine zA ?_
          refine zB ?_
          iterate 2 refine pA ?_
          refine ar_nil ?_
          refine ag_false rfl (by simp [hg]) ?_
          refine ag_skip ?_
          refine ag_seq ?_
          refine zB ?_
          iterate 3 refine pA ?_
          refine ar_ent (ent_reg 92 (.r (.bool false)) (by show AVal.r (.bool _) = _; exact eqB (by rfl))) ?_
          iterate 2 refine pA ?_
          refine ar_pur (w_rroot _ (lefs M) rfl (by omega) (lefs_32 M)) rfl rfl rfl rfl rfl rfl rfl ?_
          iterate 2 refine pA ?_
          refine ar_nil ?_
          refine ag_false rfl (by simp) ?_
          refine ag_skip ?_
          refine ag_seq ?_
          refine zB ?_
          iterate 3 refine pA ?_
          refine ar_ent (ent_reg 100 (.r (.bool false)) (by show AVal.r (.bool _) = _; exact eqB (decide_eq_false (by omega)))) ?_
          iterate 5 refine pA ?_
          refine ar_nil ?_
          refine ag_false rfl (decide_eq_false (by omega)) ?_
          refine ag_skip ?_
          refine zB ?_
          iterate 3 refine pA ?_
          refine ar_ent (ent_reg 115 (.r (.bool true)) (by show AVal.r (.bool _) = _; exact eqB (by rfl))) ?_
          iterate 3 refine pA ?_
          refine ar_pur (w_rpathRo (lefs M) j (by omega) (lefs_32 M) (by omega)) rfl rfl rfl rfl rfl rfl rfl ?_
          refine ar_pur (w_TextsS _ _ (by have := pathR_len _ (lefs M) j rfl; omega)) rfl rfl rfl rfl rfl rfl rfl ?_
          iterate 2 refine pA ?_
          refine ar_nil ?_
          refine ag_ret tOk Try.func6 rfl rfl (by simp) ?_
          exact eqB (by simp)
  · intro h20
    refine ag_skip ?_
    refine ag_seq ?_
    obtain ⟨M, hMl, hMok, hMe⟩ : ∃ M : List EvV, M.length ≤ 12 ∧ (∀ e ∈ M, e.x.ok) ∧ M = L := ⟨L, by omega, hok, rfl⟩
    refine ag_ent (ent_reg 0 (roE M) (by rw [hMe]; rfl)) ?_
    refine ag_reg ?_
    refine pA ?_
    refine zC ?_
    refine pA ?_
    refine zA ?_
    refine zB ?_
    refine pA ?_
    refine ar_nil ?_
    refine ag_block ?_
    refine ag_loopS (stLRT_0 M i0) (prLRT_0 M i0) (fun ⟨i, acc⟩ => M.length - i) (0, []) (ent_weak [] rfl rfl rfl rfl ?_ ?_ rfl) (show prLRT_0 M i0 (0, []) from ?_) ?_
    · exact ⟨⟨rfl, rfl⟩, ⟨rfl, rfl⟩, ⟨rfl, rfl⟩, ⟨rfl, by exact eqB (decide_eq_true (by intro e he; simp at he))⟩, ⟨rfl, rfl⟩, trivial⟩
    · trivial
    · exact ⟨Nat.zero_le _, rfl⟩
    rintro ⟨i, acc⟩ hp hrec
    cases acc with
    | nil =>
      obtain ⟨hi, hacc⟩ : _ := hp
      refine ag_ent (ent_weak (g' := [(0, roE M), (1, .r (.int .i64 i0)), (7, .r (.int .i64 (i : Int))), (6, .r (.bool (decide (allG (M.take i))))), (5, .r .nil)]) (h' := ⟨0, [], false⟩) [] rfl rfl rfl rfl ?_ ?_ rfl) ?_
      · exact ⟨⟨rfl, rfl⟩, ⟨rfl, rfl⟩, ⟨rfl, rfl⟩, ⟨rfl, rfl⟩, ⟨rfl, rfl⟩, trivial⟩
      · trivial
      refine ag_seq ?_
      refine zB ?_
      iterate 4 refine pA ?_
      refine ar_nil ?_
      refine ag_if rfl ?_ ?_
      · intro h26
        obtain ⟨e, hx⟩ : ∃ e, M[i]? = some e := ⟨M[i]'(by omega), by simp⟩
        have hex := hMok e (List.mem_of_getElem? hx)
        have hln := congrArg List.length hacc
        simp only [sL, lefs, List.length_map, List.length_take, List.length_cons, List.length_nil] at hln
        refine ag_skip ?_
        refine ag_seq ?_
        refine ag_block ?_
        refine ag_seq ?_
        by_cases hbe : lefBad e
        · skip
          have cl1 := w_rleaf e hex
          have cl2 := w_Leaf e hex
          rw [(lef_b hbe).2] at cl2
          rw [decide_eq_false (p := ¬ lefBad e) (fun q => q hbe)] at cl1
          refine ag_reg ?_
          iterate 2 refine pA ?_
          refine ar_pure tOk rfl rfl rfl ?_ ?_
          · refine ⟨?_, ?_⟩ <;> first | omega | exact evsC_ne hx | (refine ⟨?_, ?_⟩ <;> omega)
          refine ar_loadAs tOk (eventA e) rfl rfl rfl rfl rfl rfl rfl (.inr ⟨rfl, _, rfl, by rw [mulz_eq, Int.toNat_natCast]; exact evsC_get hx, rfl⟩) ?_
          refine ar_pur (cl1) rfl rfl rfl rfl rfl rfl rfl ?_
          iterate 5 refine pA ?_
          refine zC ?_
          iterate 2 refine pA ?_
          refine ar_pure tOk rfl rfl rfl ?_ ?_
          · refine ⟨?_, ?_⟩ <;> first | omega | exact evsC_ne hx | (refine ⟨?_, ?_⟩ <;> omega)
          refine ar_loadAs tOk (eventA e) rfl rfl rfl rfl rfl rfl rfl (.inr ⟨rfl, _, rfl, by rw [mulz_eq, Int.toNat_natCast]; exact evsC_get hx, rfl⟩) ?_
          refine ar_pur (cl2) rfl rfl rfl rfl rfl rfl rfl ?_
          iterate 5 refine pA ?_
          refine zA ?_
          refine zB ?_
          iterate 4 refine pA ?_
          refine ar_ent (ent_reg 48 (.r (.bool false)) (by show AVal.r (.bool _) = _; exact eqB (by simp))) ?_
          iterate 5 refine pA ?_
          refine ar_nil ?_
          refine ag_false rfl (by simp) ?_
          refine ag_skip ?_
          refine ag_reg ?_
          iterate 2 refine pA ?_
          refine ar_qd rfl (qop_buildRo tOk rfl ?_ rfl) rfl rfl rfl rfl ?_
          · repeat any_goals (first | trivial | decide | omega | (simp; done) | (rw [wu8]; omega) | refine ⟨?_, ?_⟩)
          refine ar_app tOk rfl rfl rfl ?_ ?_
          · refine ⟨⟨?_, ?_, ?_⟩, ⟨?_, ?_⟩, ⟨?_, ?_⟩, ?_⟩ <;> first | trivial | omega | (simp; done) | (simp; omega)
          iterate 2 refine pA ?_
          refine ar_guard (t := decide (allG (M.take i))) (fun ht => ?_) (fun ht => ?_)
          · refine ar_ent (ent_reg 59 (.r (.bool true)) (by show AVal.r (.bool _) = _; rw [ht])) ?_
            iterate 4 refine pA ?_
            refine ar_nil ?_
            refine ag_inBlock ?_
            refine ag_reg ?_
            refine pA ?_
            refine ar_pure tOk rfl rfl rfl ?_ ?_
            · unfold inI64; omega
            refine pA ?_
            refine ar_nil ?_
            refine ag_ent (ent_weak (g' := (stLRT_0 M i0 (i + 1, [.str (lefL e)])).1) (h' := (stLRT_0 M i0 (i + 1, [.str (lefL e)])).2) [0] rfl rfl rfl rfl ?_ ?_ rfl) ?_
            · exact ⟨⟨rfl, rfl⟩, ⟨rfl, rfl⟩, ⟨rfl, by exact eqI (by omega)⟩, ⟨rfl, by exact eqB (decide_eq_false (fun q => allG_last hx q hbe))⟩, ⟨rfl, rfl⟩, trivial⟩
            · exact ⟨⟨rfl, rfl, rfl⟩, trivial⟩
            have hnx := hrec (i + 1, [.str (lefL e)])
            refine hnx ?_ ?_
            · exact ⟨by omega, by rw [lefs_next hx, ← hacc]; try rfl⟩
            · show M.length - (i + 1) < M.length - i; omega
          · refine ar_ent (ent_reg 59 (.r (.bool false)) (by show AVal.r (.bool _) = _; rw [ht])) ?_
            refine ar_skip rfl rfl rfl ?_
            iterate 3 refine pA ?_
            refine ar_nil ?_
            refine ag_inBlock ?_
            refine ag_reg ?_
            refine pA ?_
            refine ar_pure tOk rfl rfl rfl ?_ ?_
            · unfold inI64; omega
            refine pA ?_
            refine ar_nil ?_
            refine ag_ent (ent_weak (g' := (stLRT_0 M i0 (i + 1, [.str (lefL e)])).1) (h' := (stLRT_0 M i0 (i + 1, [.str (lefL e)])).2) [0] rfl rfl rfl rfl ?_ ?_ rfl) ?_
            · exact ⟨⟨rfl, rfl⟩, ⟨rfl, rfl⟩, ⟨rfl, by exact eqI (by omega)⟩, ⟨rfl, by exact eqB (decide_eq_false (fun q => allG_last hx q hbe))⟩, ⟨rfl, rfl⟩, trivial⟩
            · exact ⟨⟨rfl, rfl, rfl⟩, trivial⟩
            have hnx := hrec (i + 1, [.str (lefL e)])
            refine hnx ?_ ?_
            · exact ⟨by omega, by rw [lefs_next hx, ← hacc]; try rfl⟩
            · show M.length - (i + 1) < M.length - i; omega
        · skip
          have cl1 := w_rleaf e hex
          have cl2 := w_Leaf e hex
          rw [(lef_g hbe).2] at cl2
          rw [decide_eq_true (p := ¬ lefBad e) hbe] at cl1
          refine ag_reg ?_
          iterate 2 refine pA ?_
          refine ar_pure tOk rfl rfl rfl ?_ ?_
          · refine ⟨?_, ?_⟩ <;> first | omega | exact evsC_ne hx | (refine ⟨?_, ?_⟩ <;> omega)
          refine ar_loadAs tOk (eventA e) rfl rfl rfl rfl rfl rfl rfl (.inr ⟨rfl, _, rfl, by rw [mulz_eq, Int.toNat_natCast]; exact evsC_get hx, rfl⟩) ?_
          refine ar_pur (cl1) rfl rfl rfl rfl rfl rfl rfl ?_
          iterate 5 refine pA ?_
          refine zC ?_
          iterate 2 refine pA ?_
          refine ar_pure tOk rfl rfl rfl ?_ ?_
          · refine ⟨?_, ?_⟩ <;> first | omega | exact evsC_ne hx | (refine ⟨?_, ?_⟩ <;> omega)
          refine ar_loadAs tOk (eventA e) rfl rfl rfl rfl rfl rfl rfl (.inr ⟨rfl, _, rfl, by rw [mulz_eq, Int.toNat_natCast]; exact evsC_get hx, rfl⟩) ?_
          refine ar_pur (cl2) rfl rfl rfl rfl rfl rfl rfl ?_
          iterate 5 refine pA ?_
          refine zA ?_
          refine zB ?_
          iterate 4 refine pA ?_
          refine ar_ent (ent_reg 48 (.r (.bool false)) (by show AVal.r (.bool _) = _; exact eqB (by simp))) ?_
          iterate 5 refine pA ?_
          refine ar_nil ?_
          refine ag_false rfl (by simp) ?_
          refine ag_skip ?_
          refine ag_reg ?_
          iterate 2 refine pA ?_
          refine ar_qd rfl (qop_buildRo tOk rfl ?_ rfl) rfl rfl rfl rfl ?_
          · repeat any_goals (first | trivial | decide | omega | (simp; done) | (rw [wu8]; omega) | refine ⟨?_, ?_⟩)
          refine ar_app tOk rfl rfl rfl ?_ ?_
          · refine ⟨⟨?_, ?_, ?_⟩, ⟨?_, ?_⟩, ⟨?_, ?_⟩, ?_⟩ <;> first | trivial | omega | (simp; done) | (simp; omega)
          iterate 2 refine pA ?_
          refine ar_guard (t := decide (allG (M.take i))) (fun ht => ?_) (fun ht => ?_)
          · refine ar_ent (ent_reg 59 (.r (.bool true)) (by show AVal.r (.bool _) = _; rw [ht])) ?_
            iterate 4 refine pA ?_
            refine ar_nil ?_
            refine ag_inBlock ?_
            refine ag_reg ?_
            refine pA ?_
            refine ar_pure tOk rfl rfl rfl ?_ ?_
            · unfold inI64; omega
            refine pA ?_
            refine ar_nil ?_
            refine ag_ent (ent_weak (g' := (stLRT_0 M i0 (i + 1, [.str (lefL e)])).1) (h' := (stLRT_0 M i0 (i + 1, [.str (lefL e)])).2) [0] rfl rfl rfl rfl ?_ ?_ rfl) ?_
            · exact ⟨⟨rfl, rfl⟩, ⟨rfl, rfl⟩, ⟨rfl, by exact eqI (by omega)⟩, ⟨rfl, by exact eqB (decide_eq_true (allG_next hx hbe (of_decide_eq_true ht)))⟩, ⟨rfl, rfl⟩, trivial⟩
            · exact ⟨⟨rfl, rfl, rfl⟩, trivial⟩
            have hnx := hrec (i + 1, [.str (lefL e)])
            refine hnx ?_ ?_
            · exact ⟨by omega, by rw [lefs_next hx, ← hacc]; try rfl⟩
            · show M.length - (i + 1) < M.length - i; omega
          · refine ar_ent (ent_reg 59 (.r (.bool false)) (by show AVal.r (.bool _) = _; rw [ht])) ?_
            refine ar_skip rfl rfl rfl ?_
            iterate 3 refine pA ?_
            refine ar_nil ?_
            refine ag_inBlock ?_
            refine ag_reg ?_
            refine pA ?_
            refine ar_pure tOk rfl rfl rfl ?_ ?_
            · unfold inI64; omega
            refine pA ?_
            refine ar_nil ?_
            refine ag_ent (ent_weak (g' := (stLRT_0 M i0 (i + 1, [.str (lefL e)])).1) (h' := (stLRT_0 M i0 (i + 1, [.str (lefL e)])).2) [0] rfl rfl rfl rfl ?_ ?_ rfl) ?_
            · exact ⟨⟨rfl, rfl⟩, ⟨rfl, rfl⟩, ⟨rfl, by exact eqI (by omega)⟩, ⟨rfl, by exact eqB (decide_eq_false (fun q => (of_decide_eq_false ht) (allG_less q)))⟩, ⟨rfl, rfl⟩, trivial⟩
            · exact ⟨⟨rfl, rfl, rfl⟩, trivial⟩
            have hnx := hrec (i + 1, [.str (lefL e)])
            refine hnx ?_ ?_
            · exact ⟨by omega, by rw [lefs_next hx, ← hacc]; try rfl⟩
            · show M.length - (i + 1) < M.length - i; omega
      · intro h26
        obtain rfl : i = M.length := by omega
        rw [List.take_length] at hacc
        refine ag_exit rfl ?_
        refine ag_seq ?_
        refine ag_ent (ent_weak (g' := [(0, roE M), (1, .r (.int .i64 i0)), (6, .r (.bool (decide (allG M)))), (5, .r .nil)]) (h' := ⟨0, [], false⟩) [] rfl rfl rfl rfl ?_ ?_ rfl) ?_
        · exact ⟨⟨rfl, rfl⟩, ⟨rfl, rfl⟩, ⟨rfl, by exact eqB (by rw [List.take_length])⟩, ⟨rfl, rfl⟩, trivial⟩
        · trivial
        refine ag_ent (ent_nil 5 (.ro 0 []) rfl (.inr rfl)) ?_
        refine ag_ent (ent_reg 5 (roS (lefs M)) (by rw [show lefs M = [] from List.map_eq_nil_iff.1 hacc.symm]; rfl)) ?_
        refine ag_ent (ent_weak (g' := [(0, roE M), (1, .r (.int .i64 i0)), (6, .r (.bool (decide (allG M)))), (5, roS (lefs M))]) (h' := ⟨0, [], false⟩) [] rfl rfl rfl rfl ?_ ?_ rfl) ?_
        · exact ⟨⟨rfl, rfl⟩, ⟨rfl, rfl⟩, ⟨rfl, rfl⟩, ⟨rfl, rfl⟩, trivial⟩
        · trivial
        have hll : (lefs M).length = M.length := by simp [lefs]
        rcases (show ¬ allG M ∨ (allG M ∧ (i0 < 0 ∨ (M.length : Int) ≤ i0)) ∨ (allG M ∧ ∃ j : Nat, i0 = (j : Int) ∧ j < M.length) by
          by_cases g : allG M
          · by_cases h1 : i0 < 0 ∨ (M.length : Int) ≤ i0
            · exact .inr (.inl ⟨g, h1⟩)
            · exact .inr (.inr ⟨g, i0.toNat, by omega, by omega⟩)
          · exact .inl g) with hg | ⟨hg, hi0⟩ | ⟨hg, j, hj, hjl⟩
        · skip
          refine ag_reg ?_
          refine pA ?_
          refine ar_pur (w_RootB M hMok (by omega) hg) rfl rfl rfl rfl rfl rfl rfl ?_
          iterate 5 refine pA ?_
          refine zC ?_
          iterate 2 refine pA ?_
          refine ar_pur (w_ShowB M hMok (by omega) hg i0) rfl rfl rfl rfl rfl rfl rfl ?_
          iterate 5 refine pA ?_
          refine zA ?_
          refine zB ?_
          iterate 2 refine pA ?_
          refine ar_nil ?_
          refine ag_true rfl (by simp [hg]) ?_
          refine zB ?_
          iterate 3 refine pA ?_
          refine ar_ent (ent_reg 77 (.r (.bool true)) (by show AVal.r (.bool _) = _; exact eqB (by rfl))) ?_
          iterate 4 refine pA ?_
          refine ar_ent (ent_reg 81 (.r (.bool true)) (by show AVal.r (.bool _) = _; exact eqB (by rfl))) ?_
          iterate 4 refine pA ?_
          refine ar_ent (ent_reg 85 (.r (.bool true)) (by show AVal.r (.bool _) = _; exact eqB (by rfl))) ?_
          iterate 5 refine pA ?_
          refine ar_nil ?_
          refine ag_ret tOk Try.func6 rfl rfl (by simp) ?_
          exact eqB (by simp)
        · skip
          refine ag_reg ?_
          refine pA ?_
          refine ar_pur (w_RootG M hMok (by omega) hg) rfl rfl rfl rfl rfl rfl rfl ?_
          iterate 5 refine pA ?_
          refine zC ?_
          iterate 2 refine pA ?_
          refine ar_pur (w_ShowX M hMok (by omega) hg i0 hi0) rfl rfl rfl rfl rfl rfl rfl ?_
          iterate 5 refine pA ?_
          refine zA ?_
          refine zB ?_
          iterate 2 refine pA ?_
          refine ar_nil ?_
          refine ag_false rfl (by simp [hg]) ?_
          refine ag_skip ?_
          refine ag_seq ?_
          refine zB ?_
          iterate 3 refine pA ?_
          refine ar_ent (ent_reg 92 (.r (.bool false)) (by show AVal.r (.bool _) = _; exact eqB (by rfl))) ?_
          iterate 2 refine pA ?_
          refine ar_pur (w_rroot _ (lefs M) rfl (by omega) (lefs_32 M)) rfl rfl rfl rfl rfl rfl rfl ?_
          iterate 2 refine pA ?_
          refine ar_nil ?_
          refine ag_false rfl (by simp) ?_
          refine ag_skip ?_
          refine ag_seq ?_
          refine zB ?_
          iterate 3 refine pA ?_
          refine ar_guard (t := decide (i0 < 0)) (fun ht => ?_) (fun ht => ?_)
          · refine ar_ent (ent_reg 100 (.r (.bool true)) (by show AVal.r (.bool _) = _; exact eqB ht)) ?_
            have hk := of_decide_eq_true ht
            repeat (first | refine ar_skip rfl rfl rfl ?_ | refine ar_pure tOk rfl rfl rfl trivial ?_)
            refine ar_nil ?_
            refine ag_true rfl (by rfl) ?_
            refine zB ?_
            iterate 3 refine pA ?_
            refine ar_ent (ent_reg 108 (.r (.bool true)) (by show AVal.r (.bool _) = _; exact eqB (by rfl))) ?_
            iterate 5 refine pA ?_
            refine ar_nil ?_
            refine ag_ret tOk Try.func6 rfl rfl (by simp) ?_
            exact eqB (by simp)
          · refine ar_ent (ent_reg 100 (.r (.bool false)) (by show AVal.r (.bool _) = _; exact eqB ht)) ?_
            have hk := of_decide_eq_false ht
            iterate 5 refine pA ?_
            refine ar_nil ?_
            refine ag_true rfl (decide_eq_true (by omega)) ?_
            refine zB ?_
            iterate 3 refine pA ?_
            refine ar_ent (ent_reg 108 (.r (.bool true)) (by show AVal.r (.bool _) = _; exact eqB (by rfl))) ?_
            iterate 5 refine pA ?_
            refine ar_nil ?_
            refine ag_ret tOk Try.func6 rfl rfl (by simp) ?_
            exact eqB (by simp)
        · skip
          subst hj
          refine ag_reg ?_
          refine pA ?_
          refine ar_pur (w_RootG M hMok (by omega) hg) rfl rfl rfl rfl rfl rfl rfl ?_
          iterate 5 refine pA ?_
          refine zC ?_
          iterate 2 refine pA ?_
          refine ar_pur (w_ShowG M hMok (by omega) hg j hjl) rfl rfl rfl rfl rfl rfl rfl ?_
          iterate 5 refine pA ?_
          refine zA ?_
          refine zB ?_
          iterate 2 refine pA ?_
          refine ar_nil ?_
          refine ag_false rfl (by simp [hg]) ?_
          refine ag_skip ?_
          refine ag_seq ?_
          refine zB ?_
          iterate 3 refine pA ?_
          refine ar_ent (ent_reg 92 (.r (.bool false)) (by show AVal.r (.bool _) = _; exact eqB (by rfl))) ?_
          iterate 2 refine pA ?_
          refine ar_pur (w_rroot _ (lefs M) rfl (by omega) (lefs_32 M)) rfl rfl rfl rfl rfl rfl rfl ?_
          iterate 2 refine pA ?_
          refine ar_nil ?_
          refine ag_false rfl (by simp) ?_
          refine ag_skip ?_
          refine ag_seq ?_
          refine zB ?_
          iterate 3 refine pA ?_
          refine ar_ent (ent_reg 100 (.r (.bool false)) (by show AVal.r (.bool _) = _; exact eqB (decide_eq_false (by omega)))) ?_
          iterate 5 refine pA ?_
          refine ar_nil ?_
          refine ag_false rfl (decide_eq_false (by omega)) ?_
          refine ag_skip ?_
          refine zB ?_
          iterate 3 refine pA ?_
          refine ar_ent (ent_reg 115 (.r (.bool true)) (by show AVal.r (.bool _) = _; exact eqB (by rfl))) ?_
          iterate 3 refine pA ?_
          refine ar_pur (w_rpathRo (lefs M) j (by omega) (lefs_32 M) (by omega)) rfl rfl rfl rfl rfl rfl rfl ?_
          refine ar_pur (w_TextsS _ _ (by have := pathR_len _ (lefs M) j rfl; omega)) rfl rfl rfl rfl rfl rfl rfl ?_
          iterate 2 refine pA ?_
          refine ar_nil ?_
          refine ag_ret tOk Try.func6 rfl rfl (by simp) ?_
          exact eqB (by simp)
    | cons a l =>
      obtain ⟨hi, hacc⟩ : _ := hp
      refine ag_ent (ent_weak (g' := [(0, roE M), (1, .r (.int .i64 i0)), (7, .r (.int .i64 (i : Int))), (6, .r (.bool (decide (allG (M.take i))))), (5, .sl 0 0 (l.length + 1) 1)]) (h' := ⟨1, [(0, some (.plain (a :: l)))], false⟩) [0] rfl rfl rfl rfl ?_ ?_ rfl) ?_
      · exact ⟨⟨rfl, rfl⟩, ⟨rfl, rfl⟩, ⟨rfl, rfl⟩, ⟨rfl, rfl⟩, ⟨rfl, rfl⟩, trivial⟩
      · exact ⟨⟨rfl, rfl, rfl⟩, trivial⟩
      refine ag_seq ?_
      refine zB ?_
      iterate 4 refine pA ?_
      refine ar_nil ?_
      refine ag_if rfl ?_ ?_
      · intro h26
        obtain ⟨e, hx⟩ : ∃ e, M[i]? = some e := ⟨M[i]'(by omega), by simp⟩
        have hex := hMok e (List.mem_of_getElem? hx)
        have hln := congrArg List.length hacc
        simp only [sL, lefs, List.length_map, List.length_take, List.length_cons, List.length_nil] at hln
        refine ag_skip ?_
        refine ag_seq ?_
        refine ag_block ?_
        refine ag_seq ?_
        by_cases hbe : lefBad e
        · skip
          have cl1 := w_rleaf e hex
          have cl2 := w_Leaf e hex
          rw [(lef_b hbe).2] at cl2
          rw [decide_eq_false (p := ¬ lefBad e) (fun q => q hbe)] at cl1
          refine ag_reg ?_
          iterate 2 refine pA ?_
          refine ar_pure tOk rfl rfl rfl ?_ ?_
          · refine ⟨?_, ?_⟩ <;> first | omega | exact evsC_ne hx | (refine ⟨?_, ?_⟩ <;> omega)
          refine ar_loadAs tOk (eventA e) rfl rfl rfl rfl rfl rfl rfl (.inr ⟨rfl, _, rfl, by rw [mulz_eq, Int.toNat_natCast]; exact evsC_get hx, rfl⟩) ?_
          refine ar_pur (cl1) rfl rfl rfl rfl rfl rfl rfl ?_
          iterate 5 refine pA ?_
          refine zC ?_
          iterate 2 refine pA ?_
          refine ar_pure tOk rfl rfl rfl ?_ ?_
          · refine ⟨?_, ?_⟩ <;> first | omega | exact evsC_ne hx | (refine ⟨?_, ?_⟩ <;> omega)
          refine ar_loadAs tOk (eventA e) rfl rfl rfl rfl rfl rfl rfl (.inr ⟨rfl, _, rfl, by rw [mulz_eq, Int.toNat_natCast]; exact evsC_get hx, rfl⟩) ?_
          refine ar_pur (cl2) rfl rfl rfl rfl rfl rfl rfl ?_
          iterate 5 refine pA ?_
          refine zA ?_
          refine zB ?_
          iterate 4 refine pA ?_
          refine ar_ent (ent_reg 48 (.r (.bool false)) (by show AVal.r (.bool _) = _; exact eqB (by simp))) ?_
          iterate 5 refine pA ?_
          refine ar_nil ?_
          refine ag_false rfl (by simp) ?_
          refine ag_skip ?_
          refine ag_reg ?_
          iterate 2 refine pA ?_
          refine ar_qd rfl (qop_buildRo tOk rfl ?_ rfl) rfl rfl rfl rfl ?_
          · repeat any_goals (first | trivial | decide | omega | (simp; done) | (rw [wu8]; omega) | refine ⟨?_, ?_⟩)
          refine ar_app tOk rfl rfl rfl ?_ ?_
          · refine ⟨⟨?_, ?_, ?_⟩, ⟨?_, ?_⟩, ⟨?_, ?_⟩, ?_⟩ <;> first | trivial | omega | (simp; done) | (simp; omega)
          iterate 2 refine pA ?_
          refine ar_guard (t := decide (allG (M.take i))) (fun ht => ?_) (fun ht => ?_)
          · refine ar_ent (ent_reg 59 (.r (.bool true)) (by show AVal.r (.bool _) = _; rw [ht])) ?_
            iterate 4 refine pA ?_
            refine ar_nil ?_
            refine ag_inBlock ?_
            refine ag_reg ?_
            refine pA ?_
            refine ar_pure tOk rfl rfl rfl ?_ ?_
            · unfold inI64; omega
            refine pA ?_
            refine ar_nil ?_
            refine ag_ent (ent_weak (g' := (stLRT_0 M i0 (i + 1, a :: l ++ [.str (lefL e)])).1) (h' := (stLRT_0 M i0 (i + 1, a :: l ++ [.str (lefL e)])).2) [1] rfl rfl rfl rfl ?_ ?_ rfl) ?_
            · exact ⟨⟨rfl, rfl⟩, ⟨rfl, rfl⟩, ⟨rfl, by exact eqI (by omega)⟩, ⟨rfl, by exact eqB (decide_eq_false (fun q => allG_last hx q hbe))⟩, ⟨rfl, by exact eqSl (by simp)⟩, trivial⟩
            · exact ⟨⟨rfl, rfl, by exact eqPl (by simp [cutA_eq])⟩, trivial⟩
            have hnx := hrec (i + 1, a :: l ++ [.str (lefL e)])
            refine hnx ?_ ?_
            · exact ⟨by omega, by rw [lefs_next hx, ← hacc]; try rfl⟩
            · show M.length - (i + 1) < M.length - i; omega
          · refine ar_ent (ent_reg 59 (.r (.bool false)) (by show AVal.r (.bool _) = _; rw [ht])) ?_
            refine ar_skip rfl rfl rfl ?_
            iterate 3 refine pA ?_
            refine ar_nil ?_
            refine ag_inBlock ?_
            refine ag_reg ?_
            refine pA ?_
            refine ar_pure tOk rfl rfl rfl ?_ ?_
            · unfold inI64; omega
            refine pA ?_
            refine ar_nil ?_
            refine ag_ent (ent_weak (g' := (stLRT_0 M i0 (i + 1, a :: l ++ [.str (lefL e)])).1) (h' := (stLRT_0 M i0 (i + 1, a :: l ++ [.str (lefL e)])).2) [1] rfl rfl rfl rfl ?_ ?_ rfl) ?_
            · exact ⟨⟨rfl, rfl⟩, ⟨rfl, rfl⟩, ⟨rfl, by exact eqI (by omega)⟩, ⟨rfl, by exact eqB (decide_eq_false (fun q => allG_last hx q hbe))⟩, ⟨rfl, by exact eqSl (by simp)⟩, trivial⟩
            · exact ⟨⟨rfl, rfl, by exact eqPl (by simp [cutA_eq])⟩, trivial⟩
            have hnx := hrec (i + 1, a :: l ++ [.str (lefL e)])
            refine hnx ?_ ?_
            · exact ⟨by omega, by rw [lefs_next hx, ← hacc]; try rfl⟩
            · show M.length - (i + 1) < M.length - i; omega
        · skip
          have cl1 := w_rleaf e hex
          have cl2 := w_Leaf e hex
          rw [(lef_g hbe).2] at cl2
          rw [decide_eq_true (p := ¬ lefBad e) hbe] at cl1
          refine ag_reg ?_
          iterate 2 refine pA ?_
          refine ar_pure tOk rfl rfl rfl ?_ ?_
          · refine ⟨?_, ?_⟩ <;> first | omega | exact evsC_ne hx | (refine ⟨?_, ?_⟩ <;> omega)
          refine ar_loadAs tOk (eventA e) rfl rfl rfl rfl rfl rfl rfl (.inr ⟨rfl, _, rfl, by rw [mulz_eq, Int.toNat_natCast]; exact evsC_get hx, rfl⟩) ?_
          refine ar_pur (cl1) rfl rfl rfl rfl rfl rfl rfl ?_
          iterate 5 refine pA ?_
          refine zC ?_
          iterate 2 refine pA ?_
          refine ar_pure tOk rfl rfl rfl ?_ ?_
          · refine ⟨?_, ?_⟩ <;> first | omega | exact evsC_ne hx | (refine ⟨?_, ?_⟩ <;> omega)
          refine ar_loadAs tOk (eventA e) rfl rfl rfl rfl rfl rfl rfl (.inr ⟨rfl, _, rfl, by rw [mulz_eq, Int.toNat_natCast]; exact evsC_get hx, rfl⟩) ?_
          refine ar_pur (cl2) rfl rfl rfl rfl rfl rfl rfl ?_
          iterate 5 refine pA ?_
          refine zA ?_
          refine zB ?_
          iterate 4 refine pA ?_
          refine ar_ent (ent_reg 48 (.r (.bool false)) (by show AVal.r (.bool _) = _; exact eqB (by simp))) ?_
          iterate 5 refine pA ?_
          refine ar_nil ?_
          refine ag_false rfl (by simp) ?_
          refine ag_skip ?_
          refine ag_reg ?_
          iterate 2 refine pA ?_
          refine ar_qd rfl (qop_buildRo tOk rfl ?_ rfl) rfl rfl rfl rfl ?_
          · repeat any_goals (first | trivial | decide | omega | (simp; done) | (rw [wu8]; omega) | refine ⟨?_, ?_⟩)
          refine ar_app tOk rfl rfl rfl ?_ ?_
          · refine ⟨⟨?_, ?_, ?_⟩, ⟨?_, ?_⟩, ⟨?_, ?_⟩, ?_⟩ <;> first | trivial | omega | (simp; done) | (simp; omega)
          iterate 2 refine pA ?_
          refine ar_guard (t := decide (allG (M.take i))) (fun ht => ?_) (fun ht => ?_)
          · refine ar_ent (ent_reg 59 (.r (.bool true)) (by show AVal.r (.bool _) = _; rw [ht])) ?_
            iterate 4 refine pA ?_
            refine ar_nil ?_
            refine ag_inBlock ?_
            refine ag_reg ?_
            refine pA ?_
            refine ar_pure tOk rfl rfl rfl ?_ ?_
            · unfold inI64; omega
            refine pA ?_
            refine ar_nil ?_
            refine ag_ent (ent_weak (g' := (stLRT_0 M i0 (i + 1, a :: l ++ [.str (lefL e)])).1) (h' := (stLRT_0 M i0 (i + 1, a :: l ++ [.str (lefL e)])).2) [1] rfl rfl rfl rfl ?_ ?_ rfl) ?_
            · exact ⟨⟨rfl, rfl⟩, ⟨rfl, rfl⟩, ⟨rfl, by exact eqI (by omega)⟩, ⟨rfl, by exact eqB (decide_eq_true (allG_next hx hbe (of_decide_eq_true ht)))⟩, ⟨rfl, by exact eqSl (by simp)⟩, trivial⟩
            · exact ⟨⟨rfl, rfl, by exact eqPl (by simp [cutA_eq])⟩, trivial⟩
            have hnx := hrec (i + 1, a :: l ++ [.str (lefL e)])
            refine hnx ?_ ?_
            · exact ⟨by omega, by rw [lefs_next hx, ← hacc]; try rfl⟩
            · show M.length - (i + 1) < M.length - i; omega
          · refine ar_ent (ent_reg 59 (.r (.bool false)) (by show AVal.r (.bool _) = _; rw [ht])) ?_
            refine ar_skip rfl rfl rfl ?_
            iterate 3 refine pA ?_
            refine ar_nil ?_
            refine ag_inBlock ?_
            refine ag_reg ?_
            refine pA ?_
            refine ar_pure tOk rfl rfl rfl ?_ ?_
            · unfold inI64; omega
            refine pA ?_
            refine ar_nil ?_
            refine ag_ent (ent_weak (g' := (stLRT_0 M i0 (i + 1, a :: l ++ [.str (lefL e)])).1) (h' := (stLRT_0 M i0 (i + 1, a :: l ++ [.str (lefL e)])).2) [1] rfl rfl rfl rfl ?_ ?_ rfl) ?_
            · exact ⟨⟨rfl, rfl⟩, ⟨rfl, rfl⟩, ⟨rfl, by exact eqI (by omega)⟩, ⟨rfl, by exact eqB (decide_eq_false (fun q => (of_decide_eq_false ht) (allG_less q)))⟩, ⟨rfl, by exact eqSl (by simp)⟩, trivial⟩
            · exact ⟨⟨rfl, rfl, by exact eqPl (by simp [cutA_eq])⟩, trivial⟩
            have hnx := hrec (i + 1, a :: l ++ [.str (lefL e)])
            refine hnx ?_ ?_
            · exact ⟨by omega, by rw [lefs_next hx, ← hacc]; try rfl⟩
            · show M.length - (i + 1) < M.length - i; omega
      · intro h26
        obtain rfl : i = M.length := by omega
        rw [List.take_length] at hacc
        refine ag_exit rfl ?_
        refine ag_seq ?_
        refine ag_ent (ent_weak (g' := [(0, roE M), (1, .r (.int .i64 i0)), (6, .r (.bool (decide (allG M)))), (5, .sl 0 0 (l.length + 1) 1)]) (h' := ⟨1, [(0, some (.plain (a :: l)))], false⟩) [0] rfl rfl rfl rfl ?_ ?_ rfl) ?_
        · exact ⟨⟨rfl, rfl⟩, ⟨rfl, rfl⟩, ⟨rfl, by exact eqB (by rw [List.take_length])⟩, ⟨rfl, rfl⟩, trivial⟩
        · exact ⟨⟨rfl, rfl, rfl⟩, trivial⟩
        refine ag_ent (ent_freeze 5 rfl rfl rfl trivial) ?_
        refine ag_ent (ent_reg 5 (roS (lefs M)) (by show AVal.r (.ro _ (cutA _ 0 _)) = _; exact roS_of2 hacc)) ?_
        refine ag_ent (ent_weak (g' := [(0, roE M), (1, .r (.int .i64 i0)), (6, .r (.bool (decide (allG M)))), (5, roS (lefs M))]) (h' := ⟨0, [], false⟩) [] rfl rfl rfl rfl ?_ ?_ rfl) ?_
        · exact ⟨⟨rfl, rfl⟩, ⟨rfl, rfl⟩, ⟨rfl, rfl⟩, ⟨rfl, rfl⟩, trivial⟩
        · trivial
        have hll : (lefs M).length = M.length := by simp [lefs]
        rcases (show ¬ allG M ∨ (allG M ∧ (i0 < 0 ∨ (M.length : Int) ≤ i0)) ∨ (allG M ∧ ∃ j : Nat, i0 = (j : Int) ∧ j < M.length) by
          by_cases g : allG M
          · by_cases h1 : i0 < 0 ∨ (M.length : Int) ≤ i0
            · exact .inr (.inl ⟨g, h1⟩)
            · exact .inr (.inr ⟨g, i0.toNat, by omega, by omega⟩)
          · exact .inl g) with hg | ⟨hg, hi0⟩ | ⟨hg, j, hj, hjl⟩
        · skip
          refine ag_reg ?_
          refine pA ?_
          refine ar_pur (w_RootB M hMok (by omega) hg) rfl rfl rfl rfl rfl rfl rfl ?_
          iterate 5 refine pA ?_
          refine zC ?_
          iterate 2 refine pA ?_
          refine ar_pur (w_ShowB M hMok (by omega) hg i0) rfl rfl rfl rfl rfl rfl rfl ?_
          iterate 5 refine pA ?_
          refine zA ?_
          refine zB ?_
          iterate 2 refine pA ?_
          refine ar_nil ?_
          refine ag_true rfl (by simp [hg]) ?_
          refine zB ?_
          iterate 3 refine pA ?_
          refine ar_ent (ent_reg 77 (.r (.bool true)) (by show AVal.r (.bool _) = _; exact eqB (by rfl))) ?_
          iterate 4 refine pA ?_
          refine ar_ent (ent_reg 81 (.r (.bool true)) (by show AVal.r (.bool _) = _; exact eqB (by rfl))) ?_
          iterate 4 refine pA ?_
          refine ar_ent (ent_reg 85 (.r (.bool true)) (by show AVal.r (.bool _) = _; exact eqB (by rfl))) ?_
          iterate 5 refine pA ?_
          refine ar_nil ?_
          refine ag_ret tOk Try.func6 rfl rfl (by simp) ?_
          exact eqB (by simp)
        · skip
          refine ag_reg ?_
          refine pA ?_
          refine ar_pur (w_RootG M hMok (by omega) hg) rfl rfl rfl rfl rfl rfl rfl ?_
          iterate 5 refine pA ?_
          refine zC ?_
          iterate 2 refine pA ?_
          refine ar_pur (w_ShowX M hMok (by omega) hg i0 hi0) rfl rfl rfl rfl rfl rfl rfl ?_
          iterate 5 refine pA ?_
          refine zA ?_
          refine zB ?_
          iterate 2 refine pA ?_
          refine ar_nil ?_
          refine ag_false rfl (by simp [hg]) ?_
          refine ag_skip ?_
          refine ag_seq ?_
          refine zB ?_
          iterate 3 refine pA ?_
          refine ar_ent (ent_reg 92 (.r (.bool false)) (by show AVal.r (.bool _) = _; exact eqB (by rfl))) ?_
          iterate 2 refine pA ?_
          refine ar_pur (w_rroot _ (lefs M) rfl (by omega) (lefs_32 M)) rfl rfl rfl rfl rfl rfl rfl ?_
          iterate 2 refine pA ?_
          refine ar_nil ?_
          refine ag_false rfl (by simp) ?_
          refine ag_skip ?_
          refine ag_seq ?_
          refine zB ?_
          iterate 3 refine pA ?_
          refine ar_guard (t := decide (i0 < 0)) (fun ht => ?_) (fun ht => ?_)
          · refine ar_ent (ent_reg 100 (.r (.bool true)) (by show AVal.r (.bool _) = _; exact eqB ht)) ?_
            have hk := of_decide_eq_true ht
            repeat (first | refine ar_skip rfl rfl rfl ?_ | refine ar_pure tOk rfl rfl rfl trivial ?_)
            refine ar_nil ?_
            refine ag_true rfl (by rfl) ?_
            refine zB ?_
            iterate 3 refine pA ?_
            refine ar_ent (ent_reg 108 (.r (.bool true)) (by show AVal.r (.bool _) = _; exact eqB (by rfl))) ?_
            iterate 5 refine pA ?_
            refine ar_nil ?_
            refine ag_ret tOk Try.func6 rfl rfl (by simp) ?_
            exact eqB (by simp)
          · refine ar_ent (ent_reg 100 (.r (.bool false)) (by show AVal.r (.bool _) = _; exact eqB ht)) ?_
            have hk := of_decide_eq_false ht
            iterate 5 refine pA ?_
            refine ar_nil ?_
            refine ag_true rfl (decide_eq_true (by omega)) ?_
            refine zB ?_
            iterate 3 refine pA ?_
            refine ar_ent (ent_reg 108 (.r (.bool true)) (by show AVal.r (.bool _) = _; exact eqB (by rfl))) ?_
            iterate 5 refine pA ?_
            refine ar_nil ?_
            refine ag_ret tOk Try.func6 rfl rfl (by simp) ?_
            exact eqB (by simp)
        · skip
          subst hj
          refine ag_reg ?_
          refine pA ?_
          refine ar_pur (w_RootG M hMok (by omega) hg) rfl rfl rfl rfl rfl rfl rfl ?_
          iterate 5 refine pA ?_
          refine zC ?_
          iterate 2 refine pA ?_
          refine ar_pur (w_ShowG M hMok (by omega) hg j hjl) rfl rfl rfl rfl rfl rfl rfl ?_
          iterate 5 refine pA ?_
          refine zA ?_
          refine zB ?_
          iterate 2 refine pA ?_
          refine ar_nil ?_
          refine ag_false rfl (by simp [hg]) ?_
          refine ag_skip ?_
          refine ag_seq ?_
          refine zB ?_
          iterate 3 refine pA ?_
          refine ar_ent (ent_reg 92 (.r (.bool false)) (by show AVal.r (.bool _) = _; exact eqB (by rfl))) ?_
          iterate 2 refine pA ?_
          refine ar_pur (w_rroot _ (lefs M) rfl (by omega) (lefs_32 M)) rfl rfl rfl rfl rfl rfl rfl ?_
          iterate 2 refine pA ?_
          refine ar_nil ?_
          refine ag_false rfl (by simp) ?_
          refine ag_skip ?_
          refine ag_seq ?_
          refine zB ?_
          iterate 3 refine pA ?_
          refine ar_ent (ent_reg 100 (.r (.bool false)) (by show AVal.r (.bool _) = _; exact eqB (decide_eq_false (by omega)))) ?_
          iterate 5 refine pA ?_
          refine ar_nil ?_
          refine ag_false rfl (decide_eq_false (by omega)) ?_
          refine ag_skip ?_
          refine zB ?_
          iterate 3 refine pA ?_
          refine ar_ent (ent_reg 115 (.r (.bool true)) (by show AVal.r (.bool _) = _; exact eqB (by rfl))) ?_
          iterate 3 refine pA ?_
          refine ar_pur (w_rpathRo (lefs M) j (by omega) (lefs_32 M) (by omega)) rfl rfl rfl rfl rfl rfl rfl ?_
          refine ar_pur (w_TextsS _ _ (by have := pathR_len _ (lefs M) j rfl; omega)) rfl rfl rfl rfl rfl rfl rfl ?_
          iterate 2 refine pA ?_
          refine ar_nil ?_
          refine ag_ret tOk Try.func6 rfl rfl (by simp) ?_
          exact eqB (by simp)
end Go.Proofs.Ytancdgbclbkpkaa


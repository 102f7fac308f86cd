/-
  WALKS: the law OtsDigits. (Printed by gen.py out of w_lodig.py.)
-/
import Derived.Test.YtmlbfnmpdogmfaaPlain
namespace Go.Proofs.Ytmlbfnmpdogmfaa
open Go
set_option maxRecDepth 20000
set_option linter.unusedVariables false
set_option linter.unusedSimpArgs false

theorem roI_of {n : Nat} {l : List Int} (h : l.length = n) : AVal.r (.ro n (cutA (iL l) 0 (n * 1))) = roI l := by
  subst h
  rw [cutA_eq, List.drop_zero, Nat.mul_one, List.take_of_length_le (by simp [iL])]
  rfl
theorem roS_of {n : Nat} {l : List (List UInt8)} (h : l.length = n) : AVal.r (.ro n (cutA (sL l) 0 (n * 1))) = roS l := by
  subst h
  rw [cutA_eq, List.drop_zero, Nat.mul_one, List.take_of_length_le (by simp [sL])]
  rfl
theorem w_DigitsR (text : List UInt8) (hb : text.length ≤ 140737488355000) : Pur Try.prog 10 [.r (.bs text)] (roI (digs text)) := (own_to_ro (w_Digits text hb) rfl trivial).mono_r (roI_of (digs_length text))
theorem w_rDigitsR (text : List UInt8) (hb : text.length ≤ 140737488355000) : Pur Try.prog 13 [.r (.bs text)] (roI (digs text)) := (own_to_ro (w_rDigits text hb) rfl trivial).mono_r (roI_of (digs_length text))
theorem digs_at (text : List UInt8) : ∃ c0 c1 c2, (digs text)[12]? = some c0 ∧ (digs text)[13]? = some c1 ∧ (digs text)[14]? = some c2 ∧ (0 ≤ c0 ∧ c0 ≤ 3) ∧ (0 ≤ c1 ∧ c1 ≤ 3) ∧ (0 ≤ c2 ∧ c2 ≤ 3) ∧ 16 * c0 + 4 * c1 + c2 = 36 - ((digs text).take 12).sum := by
  have hs := digA_sum text
  have hl := digA_length text
  have e : (digs text).take 12 = digA text := by rw [digs, List.take_append_of_le_length (by omega), List.take_of_length_le (by omega)]
  rw [e]
  generalize hu : 36 - (digA text).sum = u
  have h3 : digC text = [u / 4 / 4 % 4, u / 4 % 4, u % 4] := by rw [digC, hu]; simp [digL]
  refine ⟨u / 4 / 4 % 4, u / 4 % 4, u % 4, ?_, ?_, ?_, by omega, by omega, by omega, by omega⟩ <;> rw [digs, List.getElem?_append_right (by omega), hl, h3] <;> rfl

def stLOD_0 (text : List UInt8) : Nat × Int → Regs × Hp := fun ⟨i, r⟩ => ([(3, roI (digs text)), (4, .r (.int .i64 r)), (5, .r (.int .i64 (i : Int)))], ⟨0, [], false⟩)
def prLOD_0 (text : List UInt8) : Nat × Int → Prop := fun ⟨i, r⟩ => i ≤ 15 ∧ 36 - ((digs text).take (min i 12)).sum = r ∧ 36 - 3 * (i : Int) ≤ r ∧ r ≤ 36
theorem w_OtsDigits (text : List UInt8) (hb : text.length ≤ 140737488355000) : Pur Try.prog 3 [.r (.bs text)] (.r (.bool true)) := by
  have hln := digs_length text
  refine spec_of_go (N := 53) Try.func3 rfl (by decide) rfl rfl ?_
  refine ag_seq ?_
  refine ag_reg ?_
  refine ar_pure tOk rfl rfl rfl trivial ?_
  refine ar_nil ?_
  refine ag_seq ?_
  refine ag_reg ?_
  refine ar_pure tOk rfl rfl rfl trivial ?_
  refine ar_pur (w_DigitsR text hb) rfl rfl rfl rfl rfl rfl rfl ?_
  refine ar_pure tOk rfl rfl rfl trivial ?_
  refine ar_nil ?_
  refine ag_seq ?_
  refine ag_seq ?_
  refine ag_reg ?_
  refine ar_pure tOk rfl rfl rfl trivial ?_
  refine ar_pure tOk rfl rfl rfl trivial ?_
  refine ar_pure tOk rfl rfl rfl trivial ?_
  refine ar_nil ?_
  refine ag_false rfl (by simp [hln]) ?_
  refine ag_skip ?_
  refine ag_seq ?_
  refine ag_reg ?_
  refine ar_pure tOk rfl rfl rfl trivial ?_
  refine ar_nil ?_
  refine ag_seq ?_
  refine ag_seq ?_
  refine ag_reg ?_
  refine ar_pure tOk rfl rfl rfl trivial ?_
  refine ar_nil ?_
  refine ag_block ?_
  refine ag_loopS (stLOD_0 text) (prLOD_0 text) (fun ⟨i, r⟩ => 15 - i) (0, 36) (ent_weak [] rfl rfl rfl rfl ?_ ?_ rfl) (show prLOD_0 text (0, 36) from ?_) ?_
  · exact ⟨⟨rfl, rfl⟩, ⟨rfl, rfl⟩, ⟨rfl, rfl⟩, trivial⟩
  · trivial
  · exact ⟨Nat.zero_le _, by simp, by omega, by omega⟩
  rintro ⟨i, r⟩ hp hrec
  obtain ⟨hp1, hp2, hp3, hp4⟩ : _ := hp
  refine ag_seq ?_
  refine ag_seq ?_
  refine ag_reg ?_
  refine ar_pure tOk rfl rfl rfl trivial ?_
  refine ar_pure tOk rfl rfl rfl trivial ?_
  refine ar_nil ?_
  refine ag_if rfl ?_ ?_
  · intro h12
    have hlt : i < (digs text).length := by omega
    obtain ⟨d, hd⟩ := getI hlt
    have hs2 := digs_bound text d (memI hd)
    refine ag_skip ?_
    refine ag_seq ?_
    refine ag_block ?_
    refine ag_seq ?_
    refine ag_seq ?_
    refine ag_reg ?_
    refine ar_pure tOk rfl rfl rfl trivial ?_
    refine ar_pure tOk rfl rfl rfl trivial ?_
    refine ar_pure tOk rfl rfl rfl ?_ ?_
    · refine ⟨?_, ?_⟩ <;> first | omega | exact ne_mp hd | (refine ⟨?_, ?_⟩ <;> omega)
    refine ar_loadAs tOk (.r (.int .i64 d)) rfl rfl rfl rfl rfl rfl rfl (.inl ⟨rfl, by simp [Body.cells, mulz_eq, iL, hd]⟩) ?_
    refine ar_pure tOk rfl rfl rfl trivial ?_
    refine ar_ent (ent_reg 19 (.r (.bool false)) (by show AVal.r (.bool _) = _; exact eqB (decide_eq_false (by omega)))) ?_
    refine ar_pure tOk rfl rfl rfl trivial ?_
    refine ar_pure tOk rfl rfl (by rfl) trivial ?_
    refine ar_pure tOk rfl rfl (by rfl) trivial ?_
    refine ar_pure tOk rfl rfl (by rfl) ?_ ?_
    · refine ⟨?_, ?_⟩ <;> first | omega | exact ne_mp hd | (refine ⟨?_, ?_⟩ <;> omega)
    refine ar_loadAs tOk (.r (.int .i64 d)) rfl rfl rfl rfl rfl rfl (by rfl) (.inl ⟨rfl, by simp [Body.cells, mulz_eq, iL, hd]⟩) ?_
    refine ar_pure tOk rfl rfl (by rfl) trivial ?_
    refine ar_ent (ent_reg 25 (.r (.bool false)) (by show AVal.r (.bool _) = _; exact eqB (decide_eq_false (by omega)))) ?_
    refine ar_pure tOk rfl rfl rfl trivial ?_
    refine ar_nil ?_
    refine ag_false rfl (by rfl) ?_
    refine ag_skip ?_
    refine ag_seq ?_
    refine ag_reg ?_
    refine ar_pure tOk rfl rfl rfl trivial ?_
    refine ar_pure tOk rfl rfl rfl trivial ?_
    refine ar_nil ?_
    refine ag_if rfl ?_ ?_
    · intro h28
      have hmi : min (i + 1) 12 = i + 1 := by omega
      have hmj : min i 12 = i := by omega
      rw [hmj] at hp2
      refine ag_reg ?_
      refine ar_pure tOk rfl rfl rfl trivial ?_
      refine ar_pure tOk rfl rfl rfl trivial ?_
      refine ar_pure tOk rfl rfl rfl trivial ?_
      refine ar_pure tOk rfl rfl rfl ?_ ?_
      · refine ⟨?_, ?_⟩ <;> first | omega | exact ne_mp hd | (refine ⟨?_, ?_⟩ <;> omega)
      refine ar_loadAs tOk (.r (.int .i64 d)) rfl rfl rfl rfl rfl rfl rfl (.inl ⟨rfl, by simp [Body.cells, mulz_eq, iL, hd]⟩) ?_
      refine ar_pure tOk rfl rfl rfl ?_ ?_
      · unfold inI64; omega
      refine ar_pure tOk rfl rfl rfl trivial ?_
      refine ar_nil ?_
      refine ag_inBlock ?_
      refine ag_reg ?_
      refine ar_pure tOk rfl rfl rfl trivial ?_
      refine ar_pure tOk rfl rfl rfl ?_ ?_
      · unfold inI64; omega
      refine ar_pure tOk rfl rfl rfl trivial ?_
      refine ar_nil ?_
      refine ag_ent (ent_weak (g' := (stLOD_0 text (i + 1, r - d)).1) (h' := (stLOD_0 text (i + 1, r - d)).2) [] rfl rfl rfl rfl ?_ ?_ rfl) ?_
      · exact ⟨⟨rfl, rfl⟩, ⟨rfl, rfl⟩, ⟨rfl, by exact eqI (by omega)⟩, trivial⟩
      · trivial
      refine hrec (i + 1, r - d) ?_ ?_
      · refine ⟨by omega, ?_, by omega, by omega⟩
        rw [hmi, sum_next hd, ← hp2]; omega
      · show 15 - (i + 1) < 15 - i; omega
    · intro h28
      have hmi : min (i + 1) 12 = min i 12 := by omega
      refine ag_skip ?_
      refine ag_inBlock ?_
      refine ag_reg ?_
      refine ar_pure tOk rfl rfl rfl trivial ?_
      refine ar_pure tOk rfl rfl rfl ?_ ?_
      · unfold inI64; omega
      refine ar_pure tOk rfl rfl rfl trivial ?_
      refine ar_nil ?_
      refine ag_ent (ent_weak (g' := (stLOD_0 text (i + 1, r)).1) (h' := (stLOD_0 text (i + 1, r)).2) [] rfl rfl rfl rfl ?_ ?_ rfl) ?_
      · exact ⟨⟨rfl, rfl⟩, ⟨rfl, rfl⟩, ⟨rfl, by exact eqI (by omega)⟩, trivial⟩
      · trivial
      refine hrec (i + 1, r) ?_ ?_
      · refine ⟨by omega, ?_, by omega, by omega⟩
        rw [hmi]; exact hp2
      · show 15 - (i + 1) < 15 - i; omega
  · intro h12
    have hi : i = 15 := by omega
    obtain ⟨c0, c1, c2, hc0, hc1, hc2, hb0, hb1, hb2, heq⟩ := digs_at text
    rw [hi, show min 15 12 = 12 from rfl] at hp2
    rw [hp2] at heq
    refine ag_exit rfl ?_
    refine ag_seq ?_
    refine ag_draw0 (by kernel_rfl) (by kernel_rfl) ?_
    refine aq_pure tOk rfl rfl rfl trivial ?_
    refine aq_pure tOk rfl rfl rfl ?_ ?_
    · refine ⟨?_, ?_⟩ <;> first | omega | exact ne_mp hc0 | (refine ⟨?_, ?_⟩ <;> omega)
    refine aq_loadAs tOk (.r (.int .i64 c0)) rfl rfl rfl rfl (fun _ => rfl) rfl rfl (.inl ⟨rfl, by simp [Body.cells, mulz_eq, iL, hc0]⟩) ?_
    refine aq_pure tOk rfl rfl rfl ?_ ?_
    · unfold inI64; omega
    refine aq_pure tOk rfl rfl rfl trivial ?_
    refine aq_pure tOk rfl rfl rfl ?_ ?_
    · refine ⟨?_, ?_⟩ <;> first | omega | exact ne_mp hc0 | (refine ⟨?_, ?_⟩ <;> omega)
    refine aq_loadAs tOk (.r (.int .i64 c1)) rfl rfl rfl rfl (fun _ => rfl) rfl rfl (.inl ⟨rfl, by simp [Body.cells, mulz_eq, iL, hc1]⟩) ?_
    refine aq_pure tOk rfl rfl rfl ?_ ?_
    · unfold inI64; omega
    refine aq_pure tOk rfl rfl rfl ?_ ?_
    · unfold inI64; omega
    refine aq_pure tOk rfl rfl rfl trivial ?_
    refine aq_pure tOk rfl rfl rfl ?_ ?_
    · refine ⟨?_, ?_⟩ <;> first | omega | exact ne_mp hc0 | (refine ⟨?_, ?_⟩ <;> omega)
    refine aq_loadAs tOk (.r (.int .i64 c2)) rfl rfl rfl rfl (fun _ => rfl) rfl rfl (.inl ⟨rfl, by simp [Body.cells, mulz_eq, iL, hc2]⟩) ?_
    refine aq_pure tOk rfl rfl rfl ?_ ?_
    · unfold inI64; omega
    refine aq_pure tOk rfl rfl rfl trivial ?_
    refine aq_pure tOk rfl rfl rfl trivial ?_
    refine aq_pure tOk rfl rfl rfl trivial ?_
    refine aq_pur (w_alive04) rfl rfl rfl rfl rfl rfl (decide_eq_true (by omega)) ?_
    refine aq_pure tOk rfl rfl rfl trivial ?_
    refine aq_pure tOk rfl rfl rfl trivial ?_
    refine aq_nil rfl ?_
    refine ag_ret tOk Try.func3 rfl rfl (by simp) ?_
    exact eqB (by simp; omega)

end Go.Proofs.Ytmlbfnmpdogmfaa

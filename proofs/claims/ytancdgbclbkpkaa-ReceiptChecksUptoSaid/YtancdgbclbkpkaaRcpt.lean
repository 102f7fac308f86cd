/-
  WALKS: receipts (sum, Leaf, leaves, root, path). (Printed by gen.py out of w_rcpt.py.)
-/
import Derived.Test.YtancdgbclbkpkaaScan
import Derived.Test.YtancdgbclbkpkaaTxs4
import Derived.Test.YtancdgbclbkpkaaMB
namespace Go.Proofs.Ytancdgbclbkpkaa
open Go
set_option maxRecDepth 20000
set_option linter.unusedVariables false
set_option linter.unusedSimpArgs false
def sL (l : List (List UInt8)) : List RVal := l.map .str
def roS (l : List (List UInt8)) : AVal := .r (.ro l.length (sL l))
def sumL (m : UInt8) (L : List (List UInt8)) : List UInt8 := sha (m :: L.flatten)
theorem sumL_length (m : UInt8) (L : List (List UInt8)) : (sumL m L).length = 32 := sha_length _
theorem getI {α : Type} {L : List α} {i : Nat} (h : i < L.length) : ∃ s, L[i]? = some s := ⟨L[i], by simp [h]⟩
theorem ne_mp {α β : Type} {f : α → β} {L : List α} {i : Nat} {s : α} (h : L[i]? = some s) : L.map f ≠ [] := by
  cases L with
  | nil => simp at h
  | cons a l => simp
theorem flat_take_le (L : List (List UInt8)) (i : Nat) : (L.take i).flatten.length ≤ L.flatten.length := by
  conv => rhs; rw [← List.take_append_drop i L, List.flatten_append, List.length_append]
  omega
theorem roS_of2 {L : List (List UInt8)} {a : RVal} {l : List RVal} (h : a :: l = sL L) : AVal.r (.ro (l.length + 1) (cutA (a :: l) 0 ((l.length + 1) * 1))) = roS L := by
  have e : L.length = l.length + 1 := by have := congrArg List.length h; simp [sL] at this; omega
  rw [cutA_eq, List.drop_zero, List.take_of_length_le (by simp), h, roS, e]
def strsm0_0 (L : List (List UInt8)) : Nat → Regs × Hp := fun i => ([(10, roS L), (11, .r (.int .i64 (L.length : Int))), (12, .r (.int .i64 (i : Int))), (5, .sl 0 0 (1 + (L.take i).flatten.length) 1)], ⟨1, [(0, some (.bytes (0 :: (L.take i).flatten)))], false⟩)
def prrsm0_0 (L : List (List UInt8)) : Nat → Prop := fun i => i ≤ L.length
theorem w_sum0 (L : List (List UInt8)) (hL : L.length ≤ 1000000000) (hF : L.flatten.length ≤ 140737488354000) : Pur Try.prog 46 [.r (.int .u8 0), roS L] (.r (.str (sumL 0 L))) := by
  refine spec_of_go (N := 23) Try.func46 rfl (by decide) rfl rfl ?_
  refine zB ?_
  refine pA ?_
  refine zC ?_
  refine pA ?_
  refine ar_new tOk rfl rfl rfl ?_ ?_
  · simp
  refine ar_ent (ent_body 0 (.mixed [.r (.int .u8 0)]) (.bytes [0]) rfl rfl) ?_
  refine pA ?_
  refine zA ?_
  refine zB ?_
  iterate 3 refine pA ?_
  refine ar_nil ?_
  refine ag_block ?_
  refine ag_loopS (strsm0_0 L) (prrsm0_0 L) (fun (i : Nat) => L.length - i) 0 (ent_weak [0] rfl rfl rfl rfl ?_ ?_ rfl) (show prrsm0_0 L 0 from ?_) ?_
  · exact ⟨⟨rfl, rfl⟩, ⟨rfl, rfl⟩, ⟨rfl, rfl⟩, ⟨rfl, rfl⟩, trivial⟩
  · exact ⟨⟨rfl, rfl, rfl⟩, trivial⟩
  · exact Nat.zero_le _
  rintro i hi0 hrec
  have hi : i ≤ L.length := hi0
  refine zB ?_
  refine pA ?_
  refine zA ?_
  refine ag_if rfl ?_ ?_
  · intro h13
    obtain ⟨p, hp⟩ := getI (L := L) (i := i) (by omega)
    have hnx := take_next hp
    have hfl := flat_take_le L (i + 1)
    rw [hnx, List.length_append] at hfl
    refine ag_skip ?_
    refine ag_seq ?_
    refine ag_block ?_
    refine zB ?_
    refine ar_pure tOk rfl rfl rfl ?_ ?_
    · refine ⟨?_, ?_⟩ <;> first | omega | exact ne_mp hp | (refine ⟨?_, ?_⟩ <;> omega)
    refine ar_loadAs tOk (.r (.str p)) rfl rfl rfl rfl rfl rfl rfl (.inl ⟨rfl, by simp [Body.cells, mulz_eq, sL, hp]⟩) ?_
    refine pA ?_
    refine ar_nil ?_
    refine ag_reg ?_
    iterate 2 refine pA ?_
    refine ar_app tOk rfl rfl rfl ?_ ?_
    · refine ⟨⟨?_, ?_, ?_⟩, ⟨?_, ?_⟩, ⟨?_, ?_⟩, ?_⟩ <;> first | trivial | omega | (simp; done) | (simp; omega) | (simp only [List.length_cons]; omega)
    refine pA ?_
    refine ar_nil ?_
    refine ag_inBlock ?_
    refine ag_reg ?_
    refine ar_pure tOk rfl rfl rfl ?_ ?_
    · first | trivial | omega | (unfold inI64; omega) | (refine ⟨?_, ?_⟩ <;> first | trivial | rfl | omega | simp) | decide
    refine pA ?_
    refine ar_nil ?_
    refine ag_ent (ent_weak (g' := (strsm0_0 L (i + 1)).1) (h' := (strsm0_0 L (i + 1)).2) [1] rfl rfl rfl rfl ?_ ?_ rfl) ?_
    · exact ⟨⟨rfl, rfl⟩, ⟨rfl, rfl⟩, ⟨rfl, by exact eqI (by omega)⟩, ⟨rfl, by exact eqSl (by rw [hnx, List.length_append]; omega)⟩, trivial⟩
    · exact ⟨⟨rfl, rfl, by exact eqBs (by rw [hnx, cutA_eq, List.drop_zero, List.take_of_length_le (by simp only [List.length_cons]; omega)]; rfl)⟩, trivial⟩
    have hnx := hrec (i + 1)
    refine hnx ?_ ?_
    · show i + 1 ≤ L.length; omega
    · show L.length - (i + 1) < L.length - i; omega
  · intro h13
    obtain rfl : i = L.length := by omega
    refine ag_exit rfl ?_
    refine ag_seq ?_
    refine ag_ent (ent_freeze 5 rfl rfl rfl ⟨by simp only [List.length_cons]; omega, rfl⟩) ?_
    refine ag_ent (ent_reg 5 (.r (.bs (0 :: L.flatten))) (by show AVal.r (.bs _) = _; exact eqBsv (by rw [List.take_length, cutA_eq, List.drop_zero, List.take_of_length_le (by simp only [List.length_cons]; omega)]))) ?_
    refine ag_reg ?_
    refine pA ?_
    refine ar_qd rfl (qop_buildRo tOk rfl ?_ rfl) rfl rfl rfl rfl ?_
    · repeat any_goals (first | trivial | decide | omega | (simp; done) | (rw [wu8]; omega) | refine ⟨?_, ?_⟩)
    refine ar_pur (w_Text [0 :: L.flatten] (by simp) (by simp only [List.flatten_cons, List.flatten_nil, List.append_nil, List.length_cons]; omega)) rfl rfl rfl rfl rfl rfl rfl ?_
    refine pA ?_
    refine ar_nil ?_
    refine ag_ret tOk Try.func46 rfl rfl (by simp) ?_
    exact eqStr (by simp [sumL])
def strsm1_0 (L : List (List UInt8)) : Nat → Regs × Hp := fun i => ([(10, roS L), (11, .r (.int .i64 (L.length : Int))), (12, .r (.int .i64 (i : Int))), (5, .sl 0 0 (1 + (L.take i).flatten.length) 1)], ⟨1, [(0, some (.bytes (1 :: (L.take i).flatten)))], false⟩)
def prrsm1_0 (L : List (List UInt8)) : Nat → Prop := fun i => i ≤ L.length
theorem w_sum1 (L : List (List UInt8)) (hL : L.length ≤ 1000000000) (hF : L.flatten.length ≤ 140737488354000) : Pur Try.prog 46 [.r (.int .u8 1), roS L] (.r (.str (sumL 1 L))) := by
  refine spec_of_go (N := 23) Try.func46 rfl (by decide) rfl rfl ?_
  refine zB ?_
  refine pA ?_
  refine zC ?_
  refine pA ?_
  refine ar_new tOk rfl rfl rfl ?_ ?_
  · simp
  refine ar_ent (ent_body 0 (.mixed [.r (.int .u8 1)]) (.bytes [1]) rfl rfl) ?_
  refine pA ?_
  refine zA ?_
  refine zB ?_
  iterate 3 refine pA ?_
  refine ar_nil ?_
  refine ag_block ?_
  refine ag_loopS (strsm1_0 L) (prrsm1_0 L) (fun (i : Nat) => L.length - i) 0 (ent_weak [0] rfl rfl rfl rfl ?_ ?_ rfl) (show prrsm1_0 L 0 from ?_) ?_
  · exact ⟨⟨rfl, rfl⟩, ⟨rfl, rfl⟩, ⟨rfl, rfl⟩, ⟨rfl, rfl⟩, trivial⟩
  · exact ⟨⟨rfl, rfl, rfl⟩, trivial⟩
  · exact Nat.zero_le _
  rintro i hi0 hrec
  have hi : i ≤ L.length := hi0
  refine zB ?_
  refine pA ?_
  refine zA ?_
  refine ag_if rfl ?_ ?_
  · intro h13
    obtain ⟨p, hp⟩ := getI (L := L) (i := i) (by omega)
    have hnx := take_next hp
    have hfl := flat_take_le L (i + 1)
    rw [hnx, List.length_append] at hfl
    refine ag_skip ?_
    refine ag_seq ?_
    refine ag_block ?_
    refine zB ?_
    refine ar_pure tOk rfl rfl rfl ?_ ?_
    · refine ⟨?_, ?_⟩ <;> first | omega | exact ne_mp hp | (refine ⟨?_, ?_⟩ <;> omega)
    refine ar_loadAs tOk (.r (.str p)) rfl rfl rfl rfl rfl rfl rfl (.inl ⟨rfl, by simp [Body.cells, mulz_eq, sL, hp]⟩) ?_
    refine pA ?_
    refine ar_nil ?_
    refine ag_reg ?_
    iterate 2 refine pA ?_
    refine ar_app tOk rfl rfl rfl ?_ ?_
    · refine ⟨⟨?_, ?_, ?_⟩, ⟨?_, ?_⟩, ⟨?_, ?_⟩, ?_⟩ <;> first | trivial | omega | (simp; done) | (simp; omega) | (simp only [List.length_cons]; omega)
    refine pA ?_
    refine ar_nil ?_
    refine ag_inBlock ?_
    refine ag_reg ?_
    refine ar_pure tOk rfl rfl rfl ?_ ?_
    · first | trivial | omega | (unfold inI64; omega) | (refine ⟨?_, ?_⟩ <;> first | trivial | rfl | omega | simp) | decide
    refine pA ?_
    refine ar_nil ?_
    refine ag_ent (ent_weak (g' := (strsm1_0 L (i + 1)).1) (h' := (strsm1_0 L (i + 1)).2) [1] rfl rfl rfl rfl ?_ ?_ rfl) ?_
    · exact ⟨⟨rfl, rfl⟩, ⟨rfl, rfl⟩, ⟨rfl, by exact eqI (by omega)⟩, ⟨rfl, by exact eqSl (by rw [hnx, List.length_append]; omega)⟩, trivial⟩
    · exact ⟨⟨rfl, rfl, by exact eqBs (by rw [hnx, cutA_eq, List.drop_zero, List.take_of_length_le (by simp only [List.length_cons]; omega)]; rfl)⟩, trivial⟩
    have hnx := hrec (i + 1)
    refine hnx ?_ ?_
    · show i + 1 ≤ L.length; omega
    · show L.length - (i + 1) < L.length - i; omega
  · intro h13
    obtain rfl : i = L.length := by omega
    refine ag_exit rfl ?_
    refine ag_seq ?_
    refine ag_ent (ent_freeze 5 rfl rfl rfl ⟨by simp only [List.length_cons]; omega, rfl⟩) ?_
    refine ag_ent (ent_reg 5 (.r (.bs (1 :: L.flatten))) (by show AVal.r (.bs _) = _; exact eqBsv (by rw [List.take_length, cutA_eq, List.drop_zero, List.take_of_length_le (by simp only [List.length_cons]; omega)]))) ?_
    refine ag_reg ?_
    refine pA ?_
    refine ar_qd rfl (qop_buildRo tOk rfl ?_ rfl) rfl rfl rfl rfl ?_
    · repeat any_goals (first | trivial | decide | omega | (simp; done) | (rw [wu8]; omega) | refine ⟨?_, ?_⟩)
    refine ar_pur (w_Text [1 :: L.flatten] (by simp) (by simp only [List.flatten_cons, List.flatten_nil, List.append_nil, List.length_cons]; omega)) rfl rfl rfl rfl rfl rfl rfl ?_
    refine pA ?_
    refine ar_nil ?_
    refine ag_ret tOk Try.func46 rfl rfl (by simp) ?_
    exact eqStr (by simp [sumL])
def strsm2_0 (L : List (List UInt8)) : Nat → Regs × Hp := fun i => ([(10, roS L), (11, .r (.int .i64 (L.length : Int))), (12, .r (.int .i64 (i : Int))), (5, .sl 0 0 (1 + (L.take i).flatten.length) 1)], ⟨1, [(0, some (.bytes (2 :: (L.take i).flatten)))], false⟩)
def prrsm2_0 (L : List (List UInt8)) : Nat → Prop := fun i => i ≤ L.length
theorem w_sum2 (L : List (List UInt8)) (hL : L.length ≤ 1000000000) (hF : L.flatten.length ≤ 140737488354000) : Pur Try.prog 46 [.r (.int .u8 2), roS L] (.r (.str (sumL 2 L))) := by
  refine spec_of_go (N := 23) Try.func46 rfl (by decide) rfl rfl ?_
  refine zB ?_
  refine pA ?_
  refine zC ?_
  refine pA ?_
  refine ar_new tOk rfl rfl rfl ?_ ?_
  · simp
  refine ar_ent (ent_body 0 (.mixed [.r (.int .u8 2)]) (.bytes [2]) rfl rfl) ?_
  refine pA ?_
  refine zA ?_
  refine zB ?_
  iterate 3 refine pA ?_
  refine ar_nil ?_
  refine ag_block ?_
  refine ag_loopS (strsm2_0 L) (prrsm2_0 L) (fun (i : Nat) => L.length - i) 0 (ent_weak [0] rfl rfl rfl rfl ?_ ?_ rfl) (show prrsm2_0 L 0 from ?_) ?_
  · exact ⟨⟨rfl, rfl⟩, ⟨rfl, rfl⟩, ⟨rfl, rfl⟩, ⟨rfl, rfl⟩, trivial⟩
  · exact ⟨⟨rfl, rfl, rfl⟩, trivial⟩
  · exact Nat.zero_le _
  rintro i hi0 hrec
  have hi : i ≤ L.length := hi0
  refine zB ?_
  refine pA ?_
  refine zA ?_
  refine ag_if rfl ?_ ?_
  · intro h13
    obtain ⟨p, hp⟩ := getI (L := L) (i := i) (by omega)
    have hnx := take_next hp
    have hfl := flat_take_le L (i + 1)
    rw [hnx, List.length_append] at hfl
    refine ag_skip ?_
    refine ag_seq ?_
    refine ag_block ?_
    refine zB ?_
    refine ar_pure tOk rfl rfl rfl ?_ ?_
    · refine ⟨?_, ?_⟩ <;> first | omega | exact ne_mp hp | (refine ⟨?_, ?_⟩ <;> omega)
    refine ar_loadAs tOk (.r (.str p)) rfl rfl rfl rfl rfl rfl rfl (.inl ⟨rfl, by simp [Body.cells, mulz_eq, sL, hp]⟩) ?_
    refine pA ?_
    refine ar_nil ?_
    refine ag_reg ?_
    iterate 2 refine pA ?_
    refine ar_app tOk rfl rfl rfl ?_ ?_
    · refine ⟨⟨?_, ?_, ?_⟩, ⟨?_, ?_⟩, ⟨?_, ?_⟩, ?_⟩ <;> first | trivial | omega | (simp; done) | (simp; omega) | (simp only [List.length_cons]; omega)
    refine pA ?_
    refine ar_nil ?_
    refine ag_inBlock ?_
    refine ag_reg ?_
    refine ar_pure tOk rfl rfl rfl ?_ ?_
    · first | trivial | omega | (unfold inI64; omega) | (refine ⟨?_, ?_⟩ <;> first | trivial | rfl | omega | simp) | decide
    refine pA ?_
    refine ar_nil ?_
    refine ag_ent (ent_weak (g' := (strsm2_0 L (i + 1)).1) (h' := (strsm2_0 L (i + 1)).2) [1] rfl rfl rfl rfl ?_ ?_ rfl) ?_
    · exact ⟨⟨rfl, rfl⟩, ⟨rfl, rfl⟩, ⟨rfl, by exact eqI (by omega)⟩, ⟨rfl, by exact eqSl (by rw [hnx, List.length_append]; omega)⟩, trivial⟩
    · exact ⟨⟨rfl, rfl, by exact eqBs (by rw [hnx, cutA_eq, List.drop_zero, List.take_of_length_le (by simp only [List.length_cons]; omega)]; rfl)⟩, trivial⟩
    have hnx := hrec (i + 1)
    refine hnx ?_ ?_
    · show i + 1 ≤ L.length; omega
    · show L.length - (i + 1) < L.length - i; omega
  · intro h13
    obtain rfl : i = L.length := by omega
    refine ag_exit rfl ?_
    refine ag_seq ?_
    refine ag_ent (ent_freeze 5 rfl rfl rfl ⟨by simp only [List.length_cons]; omega, rfl⟩) ?_
    refine ag_ent (ent_reg 5 (.r (.bs (2 :: L.flatten))) (by show AVal.r (.bs _) = _; exact eqBsv (by rw [List.take_length, cutA_eq, List.drop_zero, List.take_of_length_le (by simp only [List.length_cons]; omega)]))) ?_
    refine ag_reg ?_
    refine pA ?_
    refine ar_qd rfl (qop_buildRo tOk rfl ?_ rfl) rfl rfl rfl rfl ?_
    · repeat any_goals (first | trivial | decide | omega | (simp; done) | (rw [wu8]; omega) | refine ⟨?_, ?_⟩)
    refine ar_pur (w_Text [2 :: L.flatten] (by simp) (by simp only [List.flatten_cons, List.flatten_nil, List.append_nil, List.length_cons]; omega)) rfl rfl rfl rfl rfl rfl rfl ?_
    refine pA ?_
    refine ar_nil ?_
    refine ag_ret tOk Try.func46 rfl rfl (by simp) ?_
    exact eqStr (by simp [sumL])
def lefW (e : EvV) : W := wtxt (wnum (wnum ([], 0) e.t) e.c) (octL e.x).1
def lefBad (e : EvV) : Prop := (octL e.x).2 ≠ 0 ∨ e.t < 0 ∨ e.t > 1099511627776 ∨ e.c < 0 ∨ e.c > 255 ∨ (lefW e).2 ≠ 0
instance (e : EvV) : Decidable (lefBad e) := by unfold lefBad; infer_instance
def lefL (e : EvV) : List UInt8 := if lefBad e then [] else sumL 0 [(lefW e).1]
def lefE (e : EvV) : Int := if lefBad e then 9 else 0
theorem lefW_ok (e : EvV) : wok (lefW e) := wok_txt (wok_num (wok_num wok0))
theorem lef_b {e : EvV} (h : lefBad e) : lefL e = [] ∧ lefE e = 9 := by rw [lefL, lefE, if_pos h, if_pos h]; exact ⟨rfl, rfl⟩
theorem lef_g {e : EvV} (h : ¬ lefBad e) : lefL e = sumL 0 [(lefW e).1] ∧ lefE e = 0 := by rw [lefL, lefE, if_neg h, if_neg h]; exact ⟨rfl, rfl⟩
theorem octL_ok (t : TxV) : (octL t).1.length ≤ 8192 := by
  unfold octL; split
  · simp
  · exact (wok_pTx wok0).1
theorem w_Leaf (e : EvV) (he : e.x.ok) : Pur Try.prog 20 [eventA e] (.tuple [.r (.str (lefL e)), .r (.int .i64 (lefE e))]) := by
  have c1 := w_xOctets e.x he
  obtain ⟨w, hW⟩ : ∃ w, lefW e = w := ⟨_, rfl⟩
  have hwk := lefW_ok e
  rw [hW] at hwk
  have hW2 : wtxt (wnum (wnum ([], 0) e.t) e.c) (octL e.x).1 = w := hW
  have ho := octL_ok e.x
  obtain ⟨o, hoe⟩ : ∃ o, octL e.x = o := ⟨_, rfl⟩
  rw [hoe] at c1 hW2 ho
  refine spec_of_go (N := 60) Try.func20 rfl (by decide) rfl rfl ?_
  refine zB ?_
  refine ar_new tOk rfl rfl rfl trivial ?_
  iterate 2 refine pA ?_
  refine zC ?_
  refine pA ?_
  refine pB ?_
  refine ar_pur (c1) rfl rfl rfl rfl rfl rfl rfl ?_
  iterate 5 refine pA ?_
  refine zA ?_
  refine zB ?_
  iterate 3 refine pA ?_
  refine ar_guard (t := decide (o.2 ≠ 0)) (fun ht => ?_) (fun ht => ?_)
  · refine ar_ent (ent_reg 16 (.r (.bool true)) (by show AVal.r (.bool _) = _; exact eqB ht)) ?_
    have hk := of_decide_eq_true ht
    repeat (first | refine ar_skip rfl rfl rfl ?_ | refine ar_pure tOk rfl rfl rfl trivial ?_)
    refine ar_nil ?_
    refine ag_true rfl (by rfl) ?_
    refine zB ?_
    iterate 2 refine pA ?_
    refine ar_nil ?_
    refine ag_ret tOk Try.func20 rfl rfl (by first | trivial | exact ⟨trivial, trivial⟩ | simp) ?_
    have hbad : lefBad e := by unfold lefBad; rw [hoe]; omega
    rw [(lef_b hbad).1, (lef_b hbad).2]
    rfl
  · refine ar_ent (ent_reg 16 (.r (.bool false)) (by show AVal.r (.bool _) = _; exact eqB ht)) ?_
    have hk0 := of_decide_eq_false ht
    refine pA ?_
    refine pB ?_
    iterate 3 refine pA ?_
    refine ar_guard (t := decide (e.t < 0)) (fun ht => ?_) (fun ht => ?_)
    · refine ar_ent (ent_reg 21 (.r (.bool true)) (by show AVal.r (.bool _) = _; exact eqB ht)) ?_
      have hk := of_decide_eq_true ht
      repeat (first | refine ar_skip rfl rfl rfl ?_ | refine ar_pure tOk rfl rfl rfl trivial ?_)
      refine ar_nil ?_
      refine ag_true rfl (by rfl) ?_
      refine zB ?_
      iterate 2 refine pA ?_
      refine ar_nil ?_
      refine ag_ret tOk Try.func20 rfl rfl (by first | trivial | exact ⟨trivial, trivial⟩ | simp) ?_
      have hbad : lefBad e := by unfold lefBad; rw [hoe]; omega
      rw [(lef_b hbad).1, (lef_b hbad).2]
      rfl
    · refine ar_ent (ent_reg 21 (.r (.bool false)) (by show AVal.r (.bool _) = _; exact eqB ht)) ?_
      have hk1 := of_decide_eq_false ht
      refine pA ?_
      refine pB ?_
      iterate 3 refine pA ?_
      refine ar_guard (t := decide (e.t > 1099511627776)) (fun ht => ?_) (fun ht => ?_)
      · refine ar_ent (ent_reg 26 (.r (.bool true)) (by show AVal.r (.bool _) = _; exact eqB ht)) ?_
        have hk := of_decide_eq_true ht
        repeat (first | refine ar_skip rfl rfl rfl ?_ | refine ar_pure tOk rfl rfl rfl trivial ?_)
        refine ar_nil ?_
        refine ag_true rfl (by rfl) ?_
        refine zB ?_
        iterate 2 refine pA ?_
        refine ar_nil ?_
        refine ag_ret tOk Try.func20 rfl rfl (by first | trivial | exact ⟨trivial, trivial⟩ | simp) ?_
        have hbad : lefBad e := by unfold lefBad; rw [hoe]; omega
        rw [(lef_b hbad).1, (lef_b hbad).2]
        rfl
      · refine ar_ent (ent_reg 26 (.r (.bool false)) (by show AVal.r (.bool _) = _; exact eqB ht)) ?_
        have hk2 := of_decide_eq_false ht
        refine pA ?_
        refine pB ?_
        iterate 3 refine pA ?_
        refine ar_guard (t := decide (e.c < 0)) (fun ht => ?_) (fun ht => ?_)
        · refine ar_ent (ent_reg 31 (.r (.bool true)) (by show AVal.r (.bool _) = _; exact eqB ht)) ?_
          have hk := of_decide_eq_true ht
          repeat (first | refine ar_skip rfl rfl rfl ?_ | refine ar_pure tOk rfl rfl rfl trivial ?_)
          refine ar_nil ?_
          refine ag_true rfl (by rfl) ?_
          refine zB ?_
          iterate 2 refine pA ?_
          refine ar_nil ?_
          refine ag_ret tOk Try.func20 rfl rfl (by first | trivial | exact ⟨trivial, trivial⟩ | simp) ?_
          have hbad : lefBad e := by unfold lefBad; rw [hoe]; omega
          rw [(lef_b hbad).1, (lef_b hbad).2]
          rfl
        · refine ar_ent (ent_reg 31 (.r (.bool false)) (by show AVal.r (.bool _) = _; exact eqB ht)) ?_
          have hk3 := of_decide_eq_false ht
          refine pA ?_
          refine pB ?_
          iterate 2 refine pA ?_
          refine ar_nil ?_
          refine ag_if rfl ?_ ?_
          · intro h35
            refine zB ?_
            iterate 2 refine pA ?_
            refine ar_nil ?_
            refine ag_ret tOk Try.func20 rfl rfl (by first | trivial | exact ⟨trivial, trivial⟩ | simp) ?_
            have hbad : lefBad e := by unfold lefBad; rw [hoe]; omega
            rw [(lef_b hbad).1, (lef_b hbad).2]
            rfl
          · intro h35
            refine ag_skip ?_
            refine zB ?_
            refine ar_obj [] (w_NewO) rfl rfl (handed_of rfl rfl (by decide) trivial) rfl rfl rfl rfl ?_
            rintro _ _ ⟨rfl, rfl⟩
            refine ⟨_, _, rfl, ?_⟩
            refine pA ?_
            refine ar_nil ?_
            refine ag_ent ent_dead ?_
            refine ag_ent (ent_same (h' := obAt none [.int .i64 0, .bool true] 1 2 ⟨3, [(0, some (.mixed ((evC e).map .r)))], false⟩) rfl rfl ⟨rfl, rfl, rfl, trivial⟩) ?_
            refine zB ?_
            iterate 2 refine pA ?_
            refine pB ?_
            refine ar_ob (w_ONum ([], 0) e.t none [.int .i64 0, .bool true] oRel0) rfl rfl rfl rfl rfl rfl rfl (by intro d hd; cases hd; rfl) ?_
            rintro _ sl tl ⟨rfl, hr⟩
            refine ⟨rfl, ?_⟩
            refine zC ?_
            iterate 2 refine pA ?_
            refine pB ?_
            refine ar_ob (w_ONum _ e.c sl tl hr) rfl rfl rfl rfl rfl rfl rfl (by intro d hd; cases hd; rfl) ?_
            rintro _ sl tl ⟨rfl, hr⟩
            refine ⟨rfl, ?_⟩
            refine zC ?_
            iterate 3 refine pA ?_
            refine ar_ob (w_OText _ o.1 (by omega) sl tl hr) rfl rfl rfl rfl rfl rfl rfl (by intro d hd; cases hd; rfl) ?_
            rintro _ sl tl ⟨rfl, hr⟩
            refine ⟨rfl, ?_⟩
            refine zA ?_
            rw [hW2] at hr
            refine ag_reg ?_
            refine pA ?_
            refine ar_ob (w_ODone _ sl tl hr) rfl rfl rfl rfl rfl rfl rfl (by intro d hd; cases hd; rfl) ?_
            rintro _ sl tl ⟨rfl, hr⟩
            refine ⟨rfl, ?_⟩
            iterate 2 refine pA ?_
            skip
            iterate 3 refine pA ?_
            refine zA ?_
            refine zB ?_
            iterate 2 refine pA ?_
            refine ar_nil ?_
            refine ag_if rfl ?_ ?_
            · intro h55
              refine zB ?_
              iterate 2 refine pA ?_
              refine ar_nil ?_
              refine ag_ret tOk Try.func20 rfl rfl (by first | trivial | exact ⟨trivial, trivial⟩ | simp) ?_
              have hbad : lefBad e := .inr (.inr (.inr (.inr (.inr (by rw [hW]; exact h55)))))
              rw [(lef_b hbad).1, (lef_b hbad).2]
              rfl
            · intro h55
              refine ag_skip ?_
              refine zB ?_
              iterate 2 refine pA ?_
              refine ar_qd rfl (qop_buildRo tOk rfl ?_ rfl) rfl rfl rfl rfl ?_
              · repeat any_goals (first | trivial | decide | omega | (simp; done) | (rw [wu8]; omega) | refine ⟨?_, ?_⟩)
              refine ar_pur (w_sum0 [w.1] (by simp) (by have := hwk.1; simp; omega)) rfl rfl rfl rfl rfl rfl rfl ?_
              iterate 2 refine pA ?_
              refine ar_nil ?_
              refine ag_ret tOk Try.func20 rfl rfl (by first | trivial | exact ⟨trivial, trivial⟩ | simp) ?_
              have hgood : ¬ lefBad e := by
                unfold lefBad; rw [hW, hoe]; rintro (q | q | q | q | q | q)
                · exact hk0 q
                · omega
                · omega
                · omega
                · omega
                · exact h55 q
              rw [(lef_g hgood).1, (lef_g hgood).2, hW]
              rfl
end Go.Proofs.Ytancdgbclbkpkaa


/-
  WALKS: what stands behind a text. (Printed by gen.py out of w_hpad.py.)
-/
import Derived.Test.YtccdhgmkjakjkaaGreatNBk
namespace Go.Proofs.YtccdhgmkjakjkaaGreat
open Go
set_option maxRecDepth 20000
set_option linter.unusedVariables false
set_option linter.unusedSimpArgs false
def zk (n : Nat) : Nat := (119 - n % 64) % 64
def pd (b : List UInt8) (j : Nat) : List UInt8 := (b ++ [128]) ++ List.replicate j 0
def padL (b : List UInt8) : List UInt8 := pd b (zk b.length) ++ numL 8 (8 * (b.length : Int))
theorem pd_length (b : List UInt8) (j : Nat) : (pd b j).length = b.length + 1 + j := by simp [pd]; omega
theorem pd_next (b : List UInt8) (j : Nat) : pd b j ++ [0] = pd b (j + 1) := by simp [pd, List.replicate_succ']
theorem padL_length (b : List UInt8) : (padL b).length = b.length + 1 + zk b.length + 8 := by simp [padL, pd_length, numL_length]
theorem padL_64 (b : List UInt8) : (padL b).length % 64 = 0 := by rw [padL_length]; unfold zk; omega
def hB (s : List UInt8) : Hp := ⟨1, [(0, some (.bytes s))], false⟩
def gS (n : Nat) : AVal := .sl 0 0 n 1
theorem w_CloneO (s : List UInt8) (hs : s.length ≤ 140737488355328) : Spec Tryz.prog 82 [.r (.bs s)] ⟨0, [], false⟩ (fun v h' => (v = .r .nil ∧ s = [] ∧ h' = ⟨0, [], false⟩) ∨ (v = .sl 0 0 s.length 1 ∧ h' = hB s)) := by
 refine spec_of_go (N := 8) Tryz.func82 rfl (by decide) rfl rfl ?_
 refine zB ?_
 refine pF ?_
 refine zB ?_
 refine pA ?_
 refine ar_nilEq tOk rfl rfl rfl rfl rfl rfl rfl (fun q hq => ?_)
 refine ar_nil ?_
 refine ag_cond rfl ?_ ?_
 ·intro h4
  have h0 : s = [] := hq h4
  subst h0
  refine zB ?_
  refine pE ?_
  refine ag_ret tOk Tryz.func82 rfl rfl (by simp) ?_
  exact .inl ⟨rfl, rfl, rfl⟩
 ·intro h4
  refine ag_skip ?_
  refine zB ?_
  refine pN ?_ ?_
  ·simp
  refine pA ?_
  refine pP ?_ ?_
  ·refine ⟨⟨?_, ?_, ?_⟩, ⟨?_, ?_⟩, ⟨?_, ?_⟩, ?_⟩ <;> first | trivial | decide | omega | (simp; done) | (simp; omega)
  refine pE ?_
  refine ag_ent (ent_weak (g' := [(2, .sl 0 0 s.length 1)]) (h' := hB s) [1] rfl rfl rfl rfl ?_ ?_ rfl) ?_
  ·exact ⟨⟨rfl, eqSl (by simp)⟩, trivial⟩
  ·exact ⟨⟨rfl, rfl, eqBs (by simp [cutA_eq])⟩, trivial⟩
  refine ag_ret tOk Tryz.func82 rfl rfl (by simp) ?_
  exact .inr ⟨rfl, rfl⟩
def stPad_0 (b : List UInt8) : Nat → Regs × Hp := fun j => ([(0, .r (.bs b)), (3, gS (pd b j).length)], hB (pd b j))
def prPad_0 (b : List UInt8) : Nat → Prop := fun j => j ≤ zk b.length
theorem w_Pad (b : List UInt8) (hb : b.length ≤ 140737488355000) : Pur Tryz.prog 102 [.r (.bs b)] (.r (.bs (padL b))) := by
 refine spec_of_go (N := 21) Tryz.func102 rfl (by decide) rfl rfl ?_
 refine zB ?_
 refine pG ?_
 refine pA ?_
 refine ar_obj [] (w_CloneO b (by omega)) rfl rfl (handed_of rfl rfl (by decide) trivial) rfl rfl rfl rfl ?_
 rintro _ _ (⟨rfl, hB0, rfl⟩ | ⟨rfl, rfl⟩)
 ·refine ⟨_, _, rfl, ?_⟩
  refine pN ?_ ?_
  ·simp
  refine pP ?_ ?_
  ·refine ⟨⟨?_, ?_, ?_⟩, ⟨?_, ?_⟩, ⟨?_, ?_⟩, ?_⟩ <;> first | trivial | decide | omega | (simp; done) | (simp; omega) | (simp [pd_length]; omega) | (simp [pd_length, numL_length]; omega)
  refine pE ?_
  refine ag_ent (ent_weak (g' := [(0, .r (.bs b)), (3, gS (pd b 0).length)]) (h' := hB (pd b 0)) [1] rfl rfl rfl rfl ?_ ?_ rfl) ?_
  ·exact ⟨⟨rfl, rfl⟩, ⟨rfl, eqSl (by simp [pd_length]; try exact hB0)⟩, trivial⟩
  ·exact ⟨⟨rfl, rfl, eqBs (by simp [pd, cutA_eq]; try exact hB0)⟩, trivial⟩
  refine sB ?_
  refine ag_loopS (stPad_0 b) (prPad_0 b) (fun (j : Nat) => zk b.length - j) 0 (ent_weak [0] rfl rfl rfl rfl ?_ ?_ rfl) (show prPad_0 b 0 from ?_) ?_
  ·exact ⟨⟨rfl, rfl⟩, ⟨rfl, rfl⟩, trivial⟩
  ·exact ⟨⟨rfl, rfl, rfl⟩, trivial⟩
  ·exact Nat.zero_le _
  rintro j hp hrec
  have hp : j ≤ zk b.length := hp
  have hl := pd_length b j
  have hz : zk b.length = (119 - b.length % 64) % 64 := rfl
  refine sZ ?_
  iterate 2 refine pA ?_
  refine pC ?_ ?_
  ·decide
  refine pE ?_
  refine ag_if rfl ?_ ?_
  ·intro h11
   rw [hl, Int.tmod_eq_emod_of_nonneg (by omega)] at h11
   refine ag_skip ?_
   refine ag_block ?_
   refine ag_reg ?_
   refine pA ?_
   refine pN ?_ ?_
   ·simp
   refine pP ?_ ?_
   ·refine ⟨⟨?_, ?_, ?_⟩, ⟨?_, ?_⟩, ⟨?_, ?_⟩, ?_⟩ <;> first | trivial | decide | omega | (simp; done) | (simp; omega) | (simp [pd_length]; omega) | (simp [pd_length, numL_length]; omega)
   refine pE ?_
   refine ag_inBlock ?_
   refine ag_ent (ent_weak (g' := (stPad_0 b (j + 1)).1) (h' := (stPad_0 b (j + 1)).2) [2] rfl rfl rfl rfl ?_ ?_ rfl) ?_
   ·exact ⟨⟨rfl, rfl⟩, ⟨rfl, by exact eqSl (by rw [pd_length]; simp [pd_length]; try omega)⟩, trivial⟩
   ·exact ⟨⟨rfl, rfl, by exact eqBs (by simp [cutA_eq, pd_next])⟩, trivial⟩
   have hnx := hrec (j + 1)
   refine hnx ?_ ?_
   ·show j + 1 ≤ zk b.length; omega
   ·show zk b.length - (j + 1) < zk b.length - j; omega
  ·intro h11
   rw [hl, Int.tmod_eq_emod_of_nonneg (by omega)] at h11
   obtain rfl : j = zk b.length := by omega
   refine ag_exit rfl ?_
   refine zB ?_
   iterate 3 refine pA ?_
   refine pC ?_ ?_
   ·unfold inI64; omega
   refine ar_pur (own_ro_bytes (w_Num (8 * (b.length : Int)) 8 8 (by decide)) (by rw [numL_length])) rfl rfl rfl rfl rfl rfl rfl ?_
   refine pP ?_ ?_
   ·refine ⟨⟨?_, ?_, ?_⟩, ⟨?_, ?_⟩, ⟨?_, ?_⟩, ?_⟩ <;> first | trivial | decide | omega | (simp; done) | (simp; omega) | (simp [pd_length]; omega) | (simp [pd_length, numL_length]; omega)
   refine pE ?_
   refine ag_ent (ent_freeze 2 rfl rfl rfl ⟨by simp [numL_length, pd_length, cutA_eq]; try omega, rfl⟩) ?_
   refine ag_ret tOk Tryz.func102 rfl rfl (by simp) ?_
   exact eqBsv (by simp [cutA_eq, padL]; try exact List.take_of_length_le (by simp))
 ·refine ⟨_, _, rfl, ?_⟩
  have hB0 := True.intro
  refine pN ?_ ?_
  ·simp
  refine pP ?_ ?_
  ·refine ⟨⟨?_, ?_, ?_⟩, ⟨?_, ?_⟩, ⟨?_, ?_⟩, ?_⟩ <;> first | trivial | decide | omega | (simp; done) | (simp; omega) | (simp [pd_length]; omega) | (simp [pd_length, numL_length]; omega)
  refine pE ?_
  refine ag_ent (ent_weak (g' := [(0, .r (.bs b)), (3, gS (pd b 0).length)]) (h' := hB (pd b 0)) [2] rfl rfl rfl rfl ?_ ?_ rfl) ?_
  ·exact ⟨⟨rfl, rfl⟩, ⟨rfl, eqSl (by simp [pd_length]; try exact hB0)⟩, trivial⟩
  ·exact ⟨⟨rfl, rfl, eqBs (by simp [pd, cutA_eq]; try exact hB0)⟩, trivial⟩
  refine sB ?_
  refine ag_loopS (stPad_0 b) (prPad_0 b) (fun (j : Nat) => zk b.length - j) 0 (ent_weak [0] rfl rfl rfl rfl ?_ ?_ rfl) (show prPad_0 b 0 from ?_) ?_
  ·exact ⟨⟨rfl, rfl⟩, ⟨rfl, rfl⟩, trivial⟩
  ·exact ⟨⟨rfl, rfl, rfl⟩, trivial⟩
  ·exact Nat.zero_le _
  rintro j hp hrec
  have hp : j ≤ zk b.length := hp
  have hl := pd_length b j
  have hz : zk b.length = (119 - b.length % 64) % 64 := rfl
  refine sZ ?_
  iterate 2 refine pA ?_
  refine pC ?_ ?_
  ·decide
  refine pE ?_
  refine ag_if rfl ?_ ?_
  ·intro h11
   rw [hl, Int.tmod_eq_emod_of_nonneg (by omega)] at h11
   refine ag_skip ?_
   refine ag_block ?_
   refine ag_reg ?_
   refine pA ?_
   refine pN ?_ ?_
   ·simp
   refine pP ?_ ?_
   ·refine ⟨⟨?_, ?_, ?_⟩, ⟨?_, ?_⟩, ⟨?_, ?_⟩, ?_⟩ <;> first | trivial | decide | omega | (simp; done) | (simp; omega) | (simp [pd_length]; omega) | (simp [pd_length, numL_length]; omega)
   refine pE ?_
   refine ag_inBlock ?_
   refine ag_ent (ent_weak (g' := (stPad_0 b (j + 1)).1) (h' := (stPad_0 b (j + 1)).2) [2] rfl rfl rfl rfl ?_ ?_ rfl) ?_
   ·exact ⟨⟨rfl, rfl⟩, ⟨rfl, by exact eqSl (by rw [pd_length]; simp [pd_length]; try omega)⟩, trivial⟩
   ·exact ⟨⟨rfl, rfl, by exact eqBs (by simp [cutA_eq, pd_next])⟩, trivial⟩
   have hnx := hrec (j + 1)
   refine hnx ?_ ?_
   ·show j + 1 ≤ zk b.length; omega
   ·show zk b.length - (j + 1) < zk b.length - j; omega
  ·intro h11
   rw [hl, Int.tmod_eq_emod_of_nonneg (by omega)] at h11
   obtain rfl : j = zk b.length := by omega
   refine ag_exit rfl ?_
   refine zB ?_
   iterate 3 refine pA ?_
   refine pC ?_ ?_
   ·unfold inI64; omega
   refine ar_pur (own_ro_bytes (w_Num (8 * (b.length : Int)) 8 8 (by decide)) (by rw [numL_length])) rfl rfl rfl rfl rfl rfl rfl ?_
   refine pP ?_ ?_
   ·refine ⟨⟨?_, ?_, ?_⟩, ⟨?_, ?_⟩, ⟨?_, ?_⟩, ?_⟩ <;> first | trivial | decide | omega | (simp; done) | (simp; omega) | (simp [pd_length]; omega) | (simp [pd_length, numL_length]; omega)
   refine pE ?_
   refine ag_ent (ent_freeze 2 rfl rfl rfl ⟨by simp [numL_length, pd_length, cutA_eq]; try omega, rfl⟩) ?_
   refine ag_ret tOk Tryz.func102 rfl rfl (by simp) ?_
   exact eqBsv (by simp [cutA_eq, padL]; try exact List.take_of_length_le (by simp))
def strPad_0 (b : List UInt8) : Nat → Regs × Hp := fun j => ([(0, .r (.bs b)), (3, gS (pd b j).length)], hB (pd b j))
def prrPad_0 (b : List UInt8) : Nat → Prop := fun j => j ≤ zk b.length
theorem w_rPad (b : List UInt8) (hb : b.length ≤ 140737488355000) : Pur Tryz.prog 92 [.r (.bs b)] (.r (.bs (padL b))) := by
 refine spec_of_go (N := 20) Tryz.func92 rfl (by decide) rfl rfl ?_
 refine zB ?_
 refine pG ?_
 refine pA ?_
 refine pN ?_ ?_
 ·simp
 refine ar_ent (ent_body 0 (.mixed [.r (.int .u8 128)]) (.bytes [128]) rfl rfl) ?_
 refine ar_ent (ent_freeze 5 rfl rfl rfl ⟨by simp, rfl⟩) ?_
 refine ar_own (w_rCatO b [128] (by simp; omega)) rfl rfl rfl rfl rfl rfl rfl ?_
 refine pE ?_
 refine ag_ent (ent_weak (g' := [(0, .r (.bs b)), (3, gS (pd b 0).length)]) (h' := hB (pd b 0)) [1] rfl rfl rfl rfl ?_ ?_ rfl) ?_
 ·exact ⟨⟨rfl, rfl⟩, ⟨rfl, eqSl (by simp [pd_length])⟩, trivial⟩
 ·exact ⟨⟨rfl, rfl, eqBs (by simp [pd])⟩, trivial⟩
 refine sB ?_
 refine ag_loopS (strPad_0 b) (prrPad_0 b) (fun (j : Nat) => zk b.length - j) 0 (ent_weak [0] rfl rfl rfl rfl ?_ ?_ rfl) (show prrPad_0 b 0 from ?_) ?_
 ·exact ⟨⟨rfl, rfl⟩, ⟨rfl, rfl⟩, trivial⟩
 ·exact ⟨⟨rfl, rfl, rfl⟩, trivial⟩
 ·exact Nat.zero_le _
 rintro j hp hrec
 have hp : j ≤ zk b.length := hp
 have hl := pd_length b j
 have hz : zk b.length = (119 - b.length % 64) % 64 := rfl
 refine sZ ?_
 iterate 2 refine pA ?_
 refine pC ?_ ?_
 ·decide
 refine pE ?_
 refine ag_if rfl ?_ ?_
 ·intro h10
  rw [hl, Int.tmod_eq_emod_of_nonneg (by omega)] at h10
  refine ag_skip ?_
  refine ag_block ?_
  refine ag_reg ?_
  refine pA ?_
  refine pN ?_ ?_
  ·simp
  refine pP ?_ ?_
  ·refine ⟨⟨?_, ?_, ?_⟩, ⟨?_, ?_⟩, ⟨?_, ?_⟩, ?_⟩ <;> first | trivial | decide | omega | (simp; done) | (simp; omega) | (simp [pd_length]; omega) | (simp [pd_length, numL_length]; omega)
  refine pE ?_
  refine ag_inBlock ?_
  refine ag_ent (ent_weak (g' := (strPad_0 b (j + 1)).1) (h' := (strPad_0 b (j + 1)).2) [2] rfl rfl rfl rfl ?_ ?_ rfl) ?_
  ·exact ⟨⟨rfl, rfl⟩, ⟨rfl, by exact eqSl (by rw [pd_length]; simp [pd_length]; try omega)⟩, trivial⟩
  ·exact ⟨⟨rfl, rfl, by exact eqBs (by simp [cutA_eq, pd_next])⟩, trivial⟩
  have hnx := hrec (j + 1)
  refine hnx ?_ ?_
  ·show j + 1 ≤ zk b.length; omega
  ·show zk b.length - (j + 1) < zk b.length - j; omega
 ·intro h10
  rw [hl, Int.tmod_eq_emod_of_nonneg (by omega)] at h10
  obtain rfl : j = zk b.length := by omega
  refine ag_exit rfl ?_
  refine zB ?_
  refine pA ?_
  refine ar_ent (ent_freeze 14 rfl rfl rfl ⟨by simp, rfl⟩) ?_
  refine ar_ent (ent_reg 14 (.r (.bs (pd b (zk b.length)))) (by show AVal.r (.bs _) = _; exact eqBsv (by simp [cutA_eq]))) ?_
  iterate 2 refine pA ?_
  refine pC ?_ ?_
  ·unfold inI64; omega
  refine ar_pur (own_ro_bytes (w_rNum (8 * (b.length : Int)) 8 8 (by decide)) (by rw [numL_length])) rfl rfl rfl rfl rfl rfl rfl ?_
  refine ar_pur (w_rCat (pd b (zk b.length)) (numL 8 (8 * (b.length : Int))) (by rw [pd_length, numL_length]; omega)) rfl rfl rfl rfl rfl rfl rfl ?_
  refine pE ?_
  refine ag_ret tOk Tryz.func92 rfl rfl (by simp) ?_
  rfl
end Go.Proofs.YtccdhgmkjakjkaaGreat

/-
  WALKS: blob.Cut of read-only octets. (Printed by gen.py out of w_cut.py.)
-/
import Derived.Test.YtccdhgmkjakjkaaGreatCat
namespace Go.Proofs.YtccdhgmkjakjkaaGreat
open Go
set_option maxRecDepth 20000
set_option linter.unusedVariables false
set_option linter.unusedSimpArgs false
def chunks (sz : Nat) : Nat → List UInt8 → List (List UInt8)
 | 0, _ => []
 | fuel + 1, b => if b = [] then [] else b.take sz :: chunks sz fuel (b.drop sz)
theorem chunks_nil (sz fuel : Nat) : chunks sz fuel [] = [] := by cases fuel <;> simp [chunks]
theorem chunks_fuel {sz : Nat} (h : 0 < sz) : ∀ (f1 f2 : Nat) (b : List UInt8), b.length ≤ f1 → b.length ≤ f2 → chunks sz f1 b = chunks sz f2 b
 | 0, f2, b, h1, _ => by have : b = [] := List.length_eq_zero_iff.1 (by omega); subst this; rw [chunks_nil, chunks_nil]
 | f1 + 1, 0, b, _, h2 => by have : b = [] := List.length_eq_zero_iff.1 (by omega); subst this; rw [chunks_nil, chunks_nil]
 | f1 + 1, f2 + 1, b, h1, h2 => by
  unfold chunks
  split
  ·rfl
  ·rename_i h0
   have : 0 < b.length := List.length_pos_iff.2 h0
   rw [chunks_fuel h f1 f2 (b.drop sz) (by simp; omega) (by simp; omega)]
def cutL' (sz : Nat) (b : List UInt8) : List (List UInt8) := chunks sz b.length b
theorem cut_next {sz : Nat} (h : 0 < sz) {b : List UInt8} (hb : b ≠ []) : cutL' sz b = b.take sz :: cutL' sz (b.drop sz) := by
 have h0 : 0 < b.length := List.length_pos_iff.2 hb
 obtain ⟨n, hn⟩ : ∃ n, b.length = n + 1 := ⟨b.length - 1, by omega⟩
 unfold cutL'
 rw [hn]
 show (if b = [] then [] else b.take sz :: chunks sz n (b.drop sz)) = _
 rw [if_neg hb, chunks_fuel h n (b.drop sz).length (b.drop sz) (by simp; omega) (Nat.le_refl _)]
theorem cut_nil (sz : Nat) : cutL' sz [] = [] := rfl
def hK (b : List UInt8) (sz : Int) (acc : List (List UInt8)) : Hp :=
 match acc with
 | [] => ⟨3, [(0, some (.mixed [.r .nil])), (1, some (.mixed [.r (.bs b)])), (2, some (.mixed [.r (.int .i64 sz)]))], false⟩
 | c :: l => ⟨4, [(0, some (.mixed [.sl 3 0 (c :: l).length 1])), (1, some (.mixed [.r (.bs b)])), (2, some (.mixed [.r (.int .i64 sz)])), (3, some (.plain ((c :: l).map .bs)))], false⟩
theorem eqMxK {β n n' : Nat} (h : n = n') : some (Body.mixed [.sl β 0 n 1]) = some (Body.mixed [.sl β 0 n' 1]) := by rw [h]
theorem hK_gh (b : List UInt8) (sz : Int) (E : List (List UInt8)) : ({ hK b sz E with gh := !true } : Hp) = hK b sz E := by cases E <;> rfl
def yK (b : List UInt8) (sz : Int) : YRel := fun args h v h' => ∃ (acc : List (List UInt8)) (c : List UInt8), c.length ≤ 140737488355328 ∧ (acc.length + 1) * 24 ≤ 140737488355328 ∧ args = [.r (.bs c)] ∧ h = hK b sz acc ∧ v = true ∧ h' = hK b sz (acc ++ [c])
def gK : Regs := [(14, .func 94 [.ptr 1 0, .ptr 2 0]), (5, .ptr 0 0)]
theorem piece_eq {b : List UInt8} {sz : Int} {i : Nat} (h : 1 ≤ sz) (hi : i < b.length) : (b.drop i).take sz.toNat = cutL b 1 (some (i : Int)) (some ((i : Int) + min sz (((cutL b 1 (some (i : Int)) none).length : Nat) : Int))) := by
 simp only [cutL, mulz, Int.toNat_natCast, List.length_drop]
 rw [show ((i : Int) + min sz ((b.length - i : Nat) : Int) - i).toNat = min sz.toNat (b.length - i) by omega]
 rcases Nat.le_total sz.toNat (b.length - i) with h1 | h1
 ·rw [Nat.min_eq_left h1]
 ·rw [Nat.min_eq_right h1, List.take_of_length_le (by simp; omega), List.take_of_length_le (by simp)]
def stChkA_0 (b : List UInt8) (sz : Int) (l0 : Nat) : Nat × List (List UInt8) → Regs × Hp := fun ⟨i, acc⟩ => ([(4, .r (.int .i64 (i : Int))), (0, .yld l0), (1, .ptr 1 0), (2, .ptr 2 0)], hK b sz acc)
def prChkA_0 (b : List UInt8) (sz : Int) (l0 : Nat) : Nat × List (List UInt8) → Prop := fun ⟨i, acc⟩ => acc ++ cutL' sz.toNat (b.drop i) = cutL' sz.toNat b ∧ (i = 0 ∨ sz ≤ (i : Int)) ∧ acc.length ≤ i
theorem w_CutA (b : List UInt8) (sz : Int) (hsz : 1 ≤ sz) (hmx : sz ≤ 9223372036854775807) (hb : (b.length + 1) * 24 ≤ 140737488355328) : Pur Tryz.prog 66 [.r (.bs b), .r (.int .i64 sz)] (.r (.ro (cutL' sz.toNat b).length ((cutL' sz.toNat b).map .bs))) := by
 refine spec_of_go (N := 22) Tryz.func66 rfl (by decide) rfl rfl ?_
 refine zB ?_
 refine pF ?_
 refine zB ?_
 refine pA ?_
 refine pE ?_
 refine ag_false rfl (by simp; omega) ?_
 refine ag_skip ?_
 refine zB ?_
 refine pN ?_ ?_
 ·simp
 refine zA ?_
 refine zB ?_
 iterate 2 refine pA ?_
 refine ar_inline (PostI := fun v h' => v = .func 94 [.ptr 1 0, .ptr 2 0] ∧ h' = ⟨3, [(2, some (.mixed [.r (.int .i64 sz)])), (1, some (.mixed [.r (.bs b)])), (0, some (.mixed [.r .nil]))], false⟩) Tryz.func81 rfl rfl (by decide) rfl rfl rfl rfl rfl rfl ?_ ?_
 ·skip
  refine zB ?_
  iterate 2 refine pM ?_
  refine pF ?_
  refine zB ?_
  refine pB ?_
  refine pE ?_
  refine ag_false rfl (by simp; omega) ?_
  refine ag_skip ?_
  refine zB ?_
  refine pA ?_
  refine pE ?_
  refine ag_ret tOk Tryz.func81 rfl rfl (by trivial) ?_
  exact ⟨rfl, rfl⟩
 rintro v h' ⟨rfl, rfl⟩
 refine ar_nil ?_
 refine ag_ent (ent_weak (g' := gK) (h' := hK b sz []) [0, 1, 2] rfl rfl rfl rfl ?_ ?_ rfl) ?_
 ·exact ⟨⟨rfl, rfl⟩, ⟨rfl, rfl⟩, trivial⟩
 ·exact ⟨⟨rfl, rfl, rfl⟩, ⟨rfl, rfl, rfl⟩, ⟨rfl, rfl, rfl⟩, trivial⟩
 refine ag_block ?_
 refine ag_range 3 (yK b sz) (fun args => (6, args.getD 0 .any) :: (15, args.getD 0 .any) :: gK) (fun h' => h' = hK b sz (cutL' sz.toNat b)) rfl rfl rfl rfl rfl rfl rfl Tryz.func94 rfl (by decide) rfl rfl rfl ?_ ?_ ?_ ?_
 ·rintro args h v h' ⟨acc, c, h1, h2, rfl, rfl, rfl, rfl⟩
  exact ⟨rfl, asgOk_region tOk rfl ⟨trivial, trivial⟩⟩
 ·rintro args h v h' ⟨acc, c, h1, h2, rfl, rfl, rfl, rfl⟩
  cases acc with
  | nil =>
   refine ag_block ?_
   apply ag_draw3 [19, 20] (by kernel_rfl) (by kernel_rfl)
   refine aq_load1 tOk rfl (by kernel_rfl) rfl rfl rfl rfl trivial ?_ ?_
   rotate_left 1
   refine qA ?_
   refine aq_pur (w_CloneB c h1) rfl rfl rfl rfl rfl rfl rfl ?_
   refine' aq_new30 tOk rfl rfl rfl rfl rfl ?_ ?_
   rotate_left 2
   ·simp
   refine' aq_app31 tOk rfl rfl rfl rfl rfl ?_ ?_
   rotate_left 1
   ·refine ⟨⟨?_, ?_, ?_⟩, ⟨?_, ?_⟩, ⟨?_, ?_⟩, ?_⟩ <;> first | trivial | decide | omega | (simp; done) | (simp; omega) | (simp at *; omega)
   refine aq_store32 tOk rfl rfl rfl rfl trivial ?_
   refine aq_nil rfl ?_
   refine ag_inBlock ?_
   refine ag_ent (ent_weak (g' := []) (h' := hK b sz ([] ++ [c])) [0, 1, 2, 4] rfl rfl rfl rfl trivial ?_ rfl) ?_
   ·exact ⟨⟨rfl, rfl, rfl⟩, ⟨rfl, rfl, rfl⟩, ⟨rfl, rfl, rfl⟩, ⟨rfl, rfl, rfl⟩, trivial⟩
   refine ag_rend rfl ?_
   exact ⟨rfl, rfl⟩
   all_goals exact ⟨_, rfl, trivial⟩
  | cons a l =>
   refine ag_block ?_
   apply ag_draw3 [19, 20] (by kernel_rfl) (by kernel_rfl)
   refine aq_load1 tOk rfl (by kernel_rfl) rfl rfl rfl rfl trivial ?_ ?_
   rotate_left 1
   refine qA ?_
   refine aq_pur (w_CloneB c h1) rfl rfl rfl rfl rfl rfl rfl ?_
   refine' aq_new30 tOk rfl rfl rfl rfl rfl ?_ ?_
   rotate_left 2
   ·simp
   refine' aq_app31 tOk rfl rfl rfl rfl rfl ?_ ?_
   rotate_left 1
   ·refine ⟨⟨?_, ?_, ?_⟩, ⟨?_, ?_⟩, ⟨?_, ?_⟩, ?_⟩ <;> first | trivial | decide | omega | (simp; done) | (simp; omega) | (simp at *; omega)
   refine aq_store32 tOk rfl rfl rfl rfl trivial ?_
   refine aq_nil rfl ?_
   refine ag_inBlock ?_
   refine ag_ent (ent_weak (g' := []) (h' := hK b sz ((a :: l) ++ [c])) [0, 1, 2, 5] rfl rfl rfl rfl trivial ?_ rfl) ?_
   ·exact ⟨⟨rfl, rfl, eqMxK (by simp)⟩, ⟨rfl, rfl, rfl⟩, ⟨rfl, rfl, rfl⟩, ⟨rfl, rfl, eqPl (by simp [cutA_eq, List.take_of_length_le])⟩, trivial⟩
   refine ag_rend rfl ?_
   exact ⟨rfl, rfl⟩
   all_goals exact ⟨_, rfl, trivial⟩
 ·intro l
  refine zB ?_
  refine pE ?_
  refine ag_block ?_
  refine ag_loopS (stChkA_0 b sz l) (prChkA_0 b sz l) (fun ⟨i, acc⟩ => b.length - i) (0, []) (ent_weak [0, 1, 2] rfl rfl rfl rfl ?_ ?_ rfl) (show prChkA_0 b sz l (0, []) from ?_) ?_
  ·exact ⟨⟨rfl, rfl⟩, ⟨rfl, rfl⟩, ⟨rfl, rfl⟩, ⟨rfl, rfl⟩, trivial⟩
  ·exact ⟨⟨rfl, rfl, rfl⟩, ⟨rfl, rfl, rfl⟩, ⟨rfl, rfl, rfl⟩, trivial⟩
  ·exact ⟨by simp, .inl rfl, Nat.le_refl _⟩
  rintro ⟨i, acc⟩ hp hrec
  cases acc with
  | nil =>
   obtain ⟨hp1, hp2, hal⟩ : _ := hp
   refine ag_ent (ent_weak (g' := [(4, .r (.int .i64 (i : Int))), (0, .yld l), (1, .ptr 1 0), (2, .ptr 2 0)]) (h' := hK b sz []) [0, 1, 2] rfl rfl rfl rfl ?_ ?_ rfl) ?_
   ·exact ⟨⟨rfl, rfl⟩, ⟨rfl, rfl⟩, ⟨rfl, rfl⟩, ⟨rfl, rfl⟩, trivial⟩
   ·exact ⟨⟨rfl, rfl, rfl⟩, ⟨rfl, rfl, rfl⟩, ⟨rfl, rfl, rfl⟩, trivial⟩
   refine sZ ?_
   refine pA ?_
   refine pB ?_
   refine pA ?_
   refine pE ?_
   refine ag_if rfl ?_ ?_
   ·intro h9
    have hlt : i < b.length := by omega
    have hne : b.drop i ≠ [] := by intro h; have := congrArg List.length h; simp at this; omega
    have hA : ((b.drop i).take sz.toNat).length ≤ 140737488355328 := by rw [List.length_take, List.length_drop]; omega
    have hB : (([] : List (List UInt8)).length + 1) * 24 ≤ 140737488355328 := by have := hal; omega
    refine sS ?_
    refine ag_block ?_
    refine ag_seq ?_
    refine qD ?_
    iterate 2 refine qL ?_
    refine qA ?_
    refine qB ?_ ?_
    ·exact ⟨by omega, by omega⟩
    iterate 2 refine qA ?_
    refine qE ?_
    refine zB ?_
    refine pA ?_
    refine pB ?_
    iterate 3 refine pA ?_
    refine pC ?_ ?_
    ·simp only [cutL, List.length_drop, mulz, Int.toNat_natCast]; unfold inI64; omega
    iterate 2 refine pA ?_
    refine pC ?_ ?_
    ·simp only [cutL, List.length_drop, mulz, Int.toNat_natCast]; unfold inI64; omega
    refine pC ?_ ?_
    ·simp only [boundsOk, cutL, List.length_drop, mulz, Int.toNat_natCast]; omega
    refine ar_ent (ent_reg 28 (.r (.bs ((b.drop i).take sz.toNat))) (by show AVal.r (.bs _) = _; exact eqBsv (piece_eq hsz hlt).symm)) ?_
    refine ar_yld (Y := yK b sz) (h' := hK b sz ([] ++ [(b.drop i).take sz.toNat])) (v := true) ⟨[], (b.drop i).take sz.toNat, hA, hB, rfl, rfl, rfl, rfl⟩ rfl rfl rfl rfl rfl rfl rfl rfl ?_
    rw [hK_gh]
    refine pE ?_
    refine ag_false rfl (rfl) ?_
    refine ag_skip ?_
    refine iR ?_
    refine pA ?_
    refine pB ?_
    refine pC ?_ ?_
    ·unfold inI64; omega
    refine pE ?_
    refine ag_ent (ent_weak (g' := (stChkA_0 b sz l (i + sz.toNat, [] ++ [(b.drop i).take sz.toNat])).1) (h' := (stChkA_0 b sz l (i + sz.toNat, [] ++ [(b.drop i).take sz.toNat])).2) [0, 1, 2, 3] rfl rfl rfl rfl ?_ ?_ rfl) ?_
    ·exact ⟨⟨rfl, by exact eqI (by omega)⟩, ⟨rfl, rfl⟩, ⟨rfl, rfl⟩, ⟨rfl, rfl⟩, trivial⟩
    ·exact ⟨⟨rfl, rfl, rfl⟩, ⟨rfl, rfl, rfl⟩, ⟨rfl, rfl, rfl⟩, ⟨rfl, rfl, rfl⟩, trivial⟩
    have hnx := hrec (i + sz.toNat, [] ++ [(b.drop i).take sz.toNat])
    refine hnx ?_ ?_
    ·refine ⟨?_, .inr (by omega), by simp at hal ⊢; omega⟩
     rw [← hp1, cut_next (by omega) hne, List.drop_drop]
     simp
    ·show b.length - (i + sz.toNat) < b.length - i; omega
   ·intro h9
    refine ag_exit rfl ?_
    refine ag_end tOk Tryz.func94 rfl rfl (trivial) ?_
    show hK b sz _ = hK b sz (cutL' sz.toNat b)
    rw [← hp1, List.drop_eq_nil_of_le (by omega), cut_nil, List.append_nil]
  | cons c l1 =>
   obtain ⟨hp1, hp2, hal⟩ : _ := hp
   refine ag_ent (ent_weak (g' := [(4, .r (.int .i64 (i : Int))), (0, .yld l), (1, .ptr 1 0), (2, .ptr 2 0)]) (h' := hK b sz (c :: l1)) [0, 1, 2, 3] rfl rfl rfl rfl ?_ ?_ rfl) ?_
   ·exact ⟨⟨rfl, rfl⟩, ⟨rfl, rfl⟩, ⟨rfl, rfl⟩, ⟨rfl, rfl⟩, trivial⟩
   ·exact ⟨⟨rfl, rfl, rfl⟩, ⟨rfl, rfl, rfl⟩, ⟨rfl, rfl, rfl⟩, ⟨rfl, rfl, rfl⟩, trivial⟩
   refine sZ ?_
   refine pA ?_
   refine pB ?_
   refine pA ?_
   refine pE ?_
   refine ag_if rfl ?_ ?_
   ·intro h9
    have hlt : i < b.length := by omega
    have hne : b.drop i ≠ [] := by intro h; have := congrArg List.length h; simp at this; omega
    have hA : ((b.drop i).take sz.toNat).length ≤ 140737488355328 := by rw [List.length_take, List.length_drop]; omega
    have hB : (((c :: l1) : List (List UInt8)).length + 1) * 24 ≤ 140737488355328 := by have := hal; omega
    refine sS ?_
    refine ag_block ?_
    refine ag_seq ?_
    refine qD ?_
    iterate 2 refine qL ?_
    refine qA ?_
    refine qB ?_ ?_
    ·exact ⟨by omega, by omega⟩
    iterate 2 refine qA ?_
    refine qE ?_
    refine zB ?_
    refine pA ?_
    refine pB ?_
    iterate 3 refine pA ?_
    refine pC ?_ ?_
    ·simp only [cutL, List.length_drop, mulz, Int.toNat_natCast]; unfold inI64; omega
    iterate 2 refine pA ?_
    refine pC ?_ ?_
    ·simp only [cutL, List.length_drop, mulz, Int.toNat_natCast]; unfold inI64; omega
    refine pC ?_ ?_
    ·simp only [boundsOk, cutL, List.length_drop, mulz, Int.toNat_natCast]; omega
    refine ar_ent (ent_reg 28 (.r (.bs ((b.drop i).take sz.toNat))) (by show AVal.r (.bs _) = _; exact eqBsv (piece_eq hsz hlt).symm)) ?_
    refine ar_yld (Y := yK b sz) (h' := hK b sz ((c :: l1) ++ [(b.drop i).take sz.toNat])) (v := true) ⟨(c :: l1), (b.drop i).take sz.toNat, hA, hB, rfl, rfl, rfl, rfl⟩ rfl rfl rfl rfl rfl rfl rfl rfl ?_
    rw [hK_gh]
    refine pE ?_
    refine ag_false rfl (rfl) ?_
    refine ag_skip ?_
    refine iR ?_
    refine pA ?_
    refine pB ?_
    refine pC ?_ ?_
    ·unfold inI64; omega
    refine pE ?_
    refine ag_ent (ent_weak (g' := (stChkA_0 b sz l (i + sz.toNat, (c :: l1) ++ [(b.drop i).take sz.toNat])).1) (h' := (stChkA_0 b sz l (i + sz.toNat, (c :: l1) ++ [(b.drop i).take sz.toNat])).2) [0, 1, 2, 3] rfl rfl rfl rfl ?_ ?_ rfl) ?_
    ·exact ⟨⟨rfl, by exact eqI (by omega)⟩, ⟨rfl, rfl⟩, ⟨rfl, rfl⟩, ⟨rfl, rfl⟩, trivial⟩
    ·exact ⟨⟨rfl, rfl, rfl⟩, ⟨rfl, rfl, rfl⟩, ⟨rfl, rfl, rfl⟩, ⟨rfl, rfl, rfl⟩, trivial⟩
    have hnx := hrec (i + sz.toNat, (c :: l1) ++ [(b.drop i).take sz.toNat])
    refine hnx ?_ ?_
    ·refine ⟨?_, .inr (by omega), by simp at hal ⊢; omega⟩
     rw [← hp1, cut_next (by omega) hne, List.drop_drop]
     simp
    ·show b.length - (i + sz.toNat) < b.length - i; omega
   ·intro h9
    refine ag_exit rfl ?_
    refine ag_end tOk Tryz.func94 rfl rfl (trivial) ?_
    show hK b sz _ = hK b sz (cutL' sz.toNat b)
    rw [← hp1, List.drop_eq_nil_of_le (by omega), cut_nil, List.append_nil]
 ·rintro h' rfl
  cases hcl : cutL' sz.toNat b
  ·skip
   refine ag_inBlock ?_
   refine zB ?_
   refine pB ?_
   refine pE ?_
   refine ag_ent (ent_nil 4 (.ro 0 []) rfl (.inr rfl)) ?_
   refine ag_ret tOk Tryz.func66 rfl rfl (by simp) ?_
   rfl
  ·skip
   refine ag_inBlock ?_
   refine zB ?_
   refine pB ?_
   refine pE ?_
   refine ag_ent (ent_freeze 4 rfl rfl rfl trivial) ?_
   refine ag_ret tOk Tryz.func66 rfl rfl (by simp) ?_
   show AVal.r (.ro _ (cutA _ 0 _)) = _
   rw [cutA_eq, List.drop_zero, List.take_of_length_le (by simp)]
end Go.Proofs.YtccdhgmkjakjkaaGreat

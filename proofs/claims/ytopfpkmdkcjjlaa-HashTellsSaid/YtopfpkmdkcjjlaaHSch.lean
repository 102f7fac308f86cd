/-
  WALKS: a block's words, the program's. (Printed by gen.py out of w_hsch.py.)
-/
import Derived.Test.YtopfpkmdkcjjlaaHBit
import Derived.Test.YtopfpkmdkcjjlaaBInt
namespace Go.Proofs.Ytopfpkmdkcjjlaa
open Go
set_option maxRecDepth 20000
set_option linter.unusedVariables false
set_option linter.unusedSimpArgs false
/-- A word of a block; the words of a block, the first i of them. -/
def w4 (p : List UInt8) (i : Nat) : Int := IntKind.u32.wrap (intB ((p.drop (4 * i)).take 4))
def Wst (p : List UInt8) : Nat → Nat → Int
  | 0 => fun _ => 0
  | i + 1 => fun k => if k = i then (if i < 16 then w4 p i else ad (ad (ad (sg1 (Wst p i (i - 2))) (Wst p i (i - 7))) (sg0 (Wst p i (i - 15)))) (Wst p i (i - 16))) else Wst p i k
theorem Wst_lo (p : List UInt8) {i : Nat} (h : i < 16) : Wst p (i + 1) i = w4 p i := by simp [Wst, h]
theorem Wst_hi (p : List UInt8) {i : Nat} (h : ¬ i < 16) : Wst p (i + 1) i = ad (ad (ad (sg1 (Wst p i (i - 2))) (Wst p i (i - 7))) (sg0 (Wst p i (i - 15)))) (Wst p i (i - 16)) := by simp [Wst, h]
theorem Wst_keep (p : List UInt8) {i k : Nat} (h : k ≠ i) : Wst p (i + 1) k = Wst p i k := by simp [Wst, h]
def hF (F : Nat → Int) : Hp := ⟨2, [(0, some (.plain (u64L fun _ => 0))), (1, some (.plain (u64L F)))], false⟩
def hW (p : List UInt8) (i : Nat) : Hp := hF (Wst p i)
theorem cut4 (p : List UInt8) (i : Nat) : cutL p 1 (some (4 * (i : Int))) (some (4 * (i : Int) + 4)) = (p.drop (4 * i)).take 4 := by
  simp only [cutL, mulz]
  rw [show (4 * (i : Int)).toNat = 4 * i by omega, show (4 * (i : Int) + 4 - 4 * (i : Int)).toNat = 4 by omega]
theorem eq32 {a b : Int} (h : a = b) : RVal.int .u32 a = RVal.int .u32 b := by rw [h]
theorem set64 {F G : Nat → Int} {i : Nat} {v : RVal} (hv : RVal.int .u32 (G i) = v) (h : ∀ j, j < 64 → j ≠ i → G j = F j) : (u64L F).set i v = u64L G := fnL_set hv (fun j h1 h2 => by rw [h j h1 h2])
theorem ld64 {F : Nat → Int} {off i : Nat} {ty : Ty} (ha : ty.k.agg = false) (e : off = i) (h : i < 64) : LoadsTo ty (Body.plain (u64L F)).cells off (.r (.int .u32 (F i))) := by subst e; exact loadsTo_fnL ha h rfl
theorem agg64 {F : Nat → Int} : ((Body.plain (u64L F)).cells.drop 0).take 64 = (u64L F).map .r := by
  rw [List.drop_zero]
  exact List.take_of_length_le (by simp [Body.cells, u64L, fnL])
def stSch_0 (p : List UInt8) : Nat → Regs × Hp := fun i => ([(0, .r (.bs p)), (2, .ptr 0 0), (3, .ptr 1 0), (6, .r (.int .i64 (i : Int)))], hW p i)
def prSch_0 (p : List UInt8) : Nat → Prop := fun i => i ≤ 16
def stSch_2 (p : List UInt8) : Nat → Regs × Hp := fun i => ([(0, .r (.bs p)), (2, .ptr 0 0), (3, .ptr 1 0), (5, .r (.int .i64 (i : Int)))], hW p i)
def prSch_2 (p : List UInt8) : Nat → Prop := fun i => 16 ≤ i ∧ i ≤ 64
theorem w_schedule (p : List UInt8) (hp0 : p.length = 64) : Pur Try.prog 51 [.r (.bs p)] (a64 (Wst p 64)) := by
  refine spec_of_go (N := 49) Try.func51 rfl (by decide) rfl rfl ?_
  refine zB ?_
  refine ar_new tOk rfl rfl rfl ?_ ?_
  · simp
  refine zC ?_
  refine ar_new tOk rfl rfl rfl ?_ ?_
  · simp
  refine zA ?_
  refine zB ?_
  refine pA ?_
  refine ar_nil ?_
  refine ag_block ?_
  refine ag_loopS (stSch_0 p) (prSch_0 p) (fun (i : Nat) => 16 - i) 0 (ent_weak [0, 1] rfl rfl rfl rfl ?_ ?_ rfl) (show prSch_0 p 0 from ?_) ?_
  · exact ⟨⟨rfl, rfl⟩, ⟨rfl, rfl⟩, ⟨rfl, rfl⟩, ⟨rfl, rfl⟩, trivial⟩
  · exact ⟨⟨rfl, rfl, rfl⟩, ⟨rfl, rfl, rfl⟩, trivial⟩
  · exact Nat.zero_le _
  rintro i hp hrec
  have hp : i ≤ 16 := hp
  refine zB ?_
  refine pA ?_
  refine zA ?_
  refine ag_if rfl ?_ ?_
  · intro h7
    refine ag_skip ?_
    refine ag_seq ?_
    refine ag_block ?_
    refine zB ?_
    iterate 2 refine pA ?_
    refine ar_nil ?_
    refine ag_reg ?_
    iterate 3 refine pA ?_
    refine ar_pure tOk rfl rfl rfl ?_ ?_
    · unfold inI64; omega
    refine pA ?_
    refine ar_pure tOk rfl rfl rfl ?_ ?_
    · unfold inI64; omega
    refine ar_pure tOk rfl rfl rfl ?_ ?_
    · unfold inI64; omega
    refine ar_pure tOk rfl rfl rfl ?_ ?_
    · simp only [boundsOk]; omega
    refine ar_ent (ent_reg 16 (.r (.bs ((p.drop (4 * i)).take 4))) (by show AVal.r (.bs _) = _; exact eqBsv (cut4 p i))) ?_
    refine ar_pur (w_Int _) rfl rfl rfl rfl rfl rfl rfl ?_
    refine pA ?_
    refine ar_pure tOk rfl rfl rfl ?_ ?_
    · exact ⟨by omega, by omega⟩
    refine ar_store tOk rfl rfl rfl ?_ ?_
    · simp only [u64L, fnL_length, addo_eq, mulz_eq, Nat.mul_one]; omega
    refine ar_nil ?_
    refine ag_inBlock ?_
    refine ag_reg ?_
    refine ar_pure tOk rfl rfl rfl ?_ ?_
    · unfold inI64; omega
    refine pA ?_
    refine ar_nil ?_
    refine ag_ent (ent_weak (g' := (stSch_0 p (i + 1)).1) (h' := (stSch_0 p (i + 1)).2) [0, 1] rfl rfl rfl rfl ?_ ?_ rfl) ?_
    · exact ⟨⟨rfl, rfl⟩, ⟨rfl, rfl⟩, ⟨rfl, rfl⟩, ⟨rfl, by exact eqI (by omega)⟩, trivial⟩
    · exact ⟨⟨rfl, rfl, rfl⟩, ⟨rfl, rfl, by refine eqPl ?_; rw [addo_eq, mulz_eq, Nat.mul_one, Nat.zero_add, Int.toNat_natCast]; exact set64 (eq32 (Wst_lo p (by omega))) (fun j _ h => Wst_keep p h)⟩, trivial⟩
    have hnx := hrec (i + 1)
    refine hnx ?_ ?_
    · show i + 1 ≤ 16; omega
    · show 16 - (i + 1) < 16 - i; omega
  · intro h7
    refine ag_exit rfl ?_
    refine ag_seq ?_
    refine zB ?_
    refine pA ?_
    refine ar_nil ?_
    refine ag_block ?_
    refine ag_loopS (stSch_2 p) (prSch_2 p) (fun (i : Nat) => 64 - i) 16 (ent_weak [0, 1] rfl rfl rfl rfl ?_ ?_ rfl) (show prSch_2 p 16 from ?_) ?_
    · exact ⟨⟨rfl, rfl⟩, ⟨rfl, rfl⟩, ⟨rfl, rfl⟩, ⟨rfl, rfl⟩, trivial⟩
    · exact ⟨⟨rfl, rfl, rfl⟩, ⟨rfl, rfl, by rw [show i = 16 by omega]; rfl⟩, trivial⟩
    · exact ⟨by decide, by decide⟩
    rintro i hp hrec
    obtain ⟨h1, h2⟩ : _ := hp
    refine ag_seq ?_
    refine zB ?_
    iterate 2 refine pA ?_
    refine ar_nil ?_
    refine ag_if rfl ?_ ?_
    · intro h22
      refine ag_skip ?_
      refine ag_seq ?_
      refine ag_block ?_
      apply ag_draw1 [] (by kernel_rfl) (by kernel_rfl)
      iterate 2 refine aq_pure tOk rfl rfl rfl trivial ?_
      refine aq_pure tOk rfl rfl rfl ?_ ?_
      · unfold inI64; omega
      refine aq_pure tOk rfl rfl rfl ?_ ?_
      · exact ⟨by omega, by omega⟩
      refine aq_loadAs0 tOk (.r (.int .u32 (Wst p i (i - 2)))) rfl rfl rfl rfl rfl (by kernel_rfl) rfl rfl (ld64 rfl (by simp only [addo_eq, mulz_eq, Nat.mul_one]; omega) (by omega)) ?_
      refine aq_pur (w_threeT (Wst p i (i - 2)) 17 19 10 (by decide) (by decide) (by decide) (by decide) (by decide) (by decide)) rfl rfl rfl rfl rfl rfl rfl ?_
      refine aq_pure tOk rfl rfl rfl trivial ?_
      refine aq_pure tOk rfl rfl rfl ?_ ?_
      · unfold inI64; omega
      refine aq_pure tOk rfl rfl rfl ?_ ?_
      · exact ⟨by omega, by omega⟩
      refine aq_loadAs0 tOk (.r (.int .u32 (Wst p i (i - 7)))) rfl rfl rfl rfl rfl (by kernel_rfl) rfl rfl (ld64 rfl (by simp only [addo_eq, mulz_eq, Nat.mul_one]; omega) (by omega)) ?_
      iterate 2 refine aq_pure tOk rfl rfl rfl trivial ?_
      refine aq_pure tOk rfl rfl rfl ?_ ?_
      · unfold inI64; omega
      refine aq_pure tOk rfl rfl rfl ?_ ?_
      · exact ⟨by omega, by omega⟩
      refine aq_loadAs0 tOk (.r (.int .u32 (Wst p i (i - 15)))) rfl rfl rfl rfl rfl (by kernel_rfl) rfl rfl (ld64 rfl (by simp only [addo_eq, mulz_eq, Nat.mul_one]; omega) (by omega)) ?_
      refine aq_pur (w_threeT (Wst p i (i - 15)) 7 18 3 (by decide) (by decide) (by decide) (by decide) (by decide) (by decide)) rfl rfl rfl rfl rfl rfl rfl ?_
      iterate 2 refine aq_pure tOk rfl rfl rfl trivial ?_
      refine aq_pure tOk rfl rfl rfl ?_ ?_
      · unfold inI64; omega
      refine aq_pure tOk rfl rfl rfl ?_ ?_
      · exact ⟨by omega, by omega⟩
      refine aq_loadAs0 tOk (.r (.int .u32 (Wst p i (i - 16)))) rfl rfl rfl rfl rfl (by kernel_rfl) rfl rfl (ld64 rfl (by simp only [addo_eq, mulz_eq, Nat.mul_one]; omega) (by omega)) ?_
      refine aq_pure tOk rfl rfl rfl trivial ?_
      refine aq_pure tOk rfl rfl rfl ?_ ?_
      · exact ⟨by omega, by omega⟩
      refine aq_store10 tOk rfl rfl rfl rfl ?_ ?_
      · simp only [u64L, fnL_length, addo_eq, mulz_eq, Nat.mul_one]; omega
      refine aq_nil rfl ?_
      refine ag_inBlock ?_
      refine ag_reg ?_
      refine pA ?_
      refine ar_pure tOk rfl rfl rfl ?_ ?_
      · unfold inI64; omega
      refine pA ?_
      refine ar_nil ?_
      refine ag_ent (ent_weak (g' := (stSch_2 p (i + 1)).1) (h' := (stSch_2 p (i + 1)).2) [0, 1] rfl rfl rfl rfl ?_ ?_ rfl) ?_
      · exact ⟨⟨rfl, rfl⟩, ⟨rfl, rfl⟩, ⟨rfl, rfl⟩, ⟨rfl, by exact eqI (by omega)⟩, trivial⟩
      · exact ⟨⟨rfl, rfl, rfl⟩, ⟨rfl, rfl, by refine eqPl ?_; rw [addo_eq, mulz_eq, Nat.mul_one, Nat.zero_add, Int.toNat_natCast]; exact set64 (eq32 (Wst_hi p (by omega))) (fun j _ h => Wst_keep p h)⟩, trivial⟩
      have hnx := hrec (i + 1)
      refine hnx ?_ ?_
      · exact ⟨by omega, by omega⟩
      · show 64 - (i + 1) < 64 - i; omega
    · intro h22
      obtain rfl : i = 64 := by omega
      refine ag_ent (ent_weak (g' := [(2, .ptr 0 0), (3, .ptr 1 0)]) (h' := hF (Wst p 64)) [0, 1] rfl rfl rfl rfl ?_ ?_ rfl) ?_
      · exact ⟨⟨rfl, rfl⟩, ⟨rfl, rfl⟩, trivial⟩
      · exact ⟨⟨rfl, rfl, rfl⟩, ⟨rfl, rfl, rfl⟩, trivial⟩
      clear hrec
      generalize Wst p 64 = F
      refine ag_exit rfl ?_
      refine zB ?_
      refine ar_loadAs tOk (a64 F) rfl rfl rfl rfl rfl rfl rfl (.inr ⟨rfl, _, rfl, agg64, by simp [u64L, fnL]⟩) ?_
      refine ar_store tOk (stepStore_arr (ys := u64L F) rfl rfl rfl rfl rfl rfl (by simp [u64L, fnL]) (by simp [u64L, fnL]) rfl) rfl rfl trivial ?_
      refine ar_nil ?_
      refine ag_ret (v := a64 F) (q := True ∧ True) tOk Try.func51 (resultsA_arr rfl rfl rfl rfl (by simp [u64L, fnL])) rfl (by simp) ?_
      rfl
end Go.Proofs.Ytopfpkmdkcjjlaa


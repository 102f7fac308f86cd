/-
  WALKS: wide numbers back from their octets. (Printed by gen.py out of w_unw.py.)
-/
import Derived.Test.YtnodpljgcdkbkaaBWide2
namespace Go.Proofs.Ytnodpljgcdkbkaa
open Go
set_option linter.unusedVariables false
set_option linter.unusedSimpArgs false
def fB (b : List UInt8) (s n : Nat) : Int := intF ((b.drop s).take n)
def vk (b : List UInt8) (k i : Nat) : Int := fB b (8 * (3 - k)) (min 8 (i - 8 * (3 - k)))
theorem fB_succ {b : List UInt8} {s n : Nat} (h : s + n < b.length) : fB b s (n + 1) = fB b s n * 256 + ((b.getD (s + n) 0).toNat : Int) := by
  rw [fB, fB, intF_take (by simp; omega)]
  congr 3
  simp [List.getD]
theorem fB_bound (b : List UInt8) (s n : Nat) (h : s + n ≤ b.length) : 0 ≤ fB b s n ∧ fB b s n < 256 ^ n := intF_bound n _ (by simp; omega)
theorem fB7 {b : List UInt8} {s n : Nat} (h : s + n ≤ b.length) (hn : n ≤ 7) : 0 ≤ fB b s n ∧ fB b s n < 72057594037927936 := by
  obtain ⟨h1, h2⟩ := fB_bound b s n h
  refine ⟨h1, ?_⟩
  generalize fB b s n = x at h2
  rcases n with _ | _ | _ | _ | _ | _ | _ | _ | n <;> first | (simp at h2; omega) | omega
theorem fB8 {b : List UInt8} {s n : Nat} (h : s + n ≤ b.length) (hn : n ≤ 8) : U64 (fB b s n) := by
  obtain ⟨h1, h2⟩ := fB_bound b s n h
  refine ⟨h1, ?_⟩
  generalize fB b s n = x at h2
  rcases n with _ | _ | _ | _ | _ | _ | _ | _ | _ | n <;> first | (simp at h2; omega) | omega
theorem or8 {x y : Int} (hx : 0 ≤ x) (hx2 : x < 72057594037927936) (hy : 0 ≤ y) (hy2 : y < 256) : ibit .or .u64 (IntKind.u64.wrap (x * 2 ^ min (Int.toNat 8) IntKind.u64.bits)) (IntKind.u64.wrap y) = x * 256 + y := by
  rw [show x * 2 ^ min (Int.toNat 8) IntKind.u64.bits = x * 256 from rfl, wu64, wu64, Int.emod_eq_of_lt (by omega) (by omega), Int.emod_eq_of_lt (by omega) (by omega)]
  obtain ⟨a, rfl⟩ := Int.eq_ofNat_of_zero_le hx
  obtain ⟨b, rfl⟩ := Int.eq_ofNat_of_zero_le hy
  simp only [ibit]
  have h1 : (BitVec.ofInt IntKind.u64.bits ((a : Int) * 256) ||| BitVec.ofInt IntKind.u64.bits (b : Int)).toNat = a * 256 + b := by
    rw [BitVec.toNat_or, BitVec.toNat_ofInt, BitVec.toNat_ofInt]
    have e1 : (((a : Int) * 256) % ((2 ^ IntKind.u64.bits : Nat) : Int)).toNat = a * 256 := by simp [IntKind.bits]; omega
    have e2 : ((b : Int) % ((2 ^ IntKind.u64.bits : Nat) : Int)).toNat = b := by simp [IntKind.bits]; omega
    rw [e1, e2, or_add (by omega)]
  rw [h1, wu64]
  omega
theorem vk_step {b : List UInt8} {i : Nat} (hb : b.length = 32) (hi : i < 32) : vk b (3 - i / 8) (i + 1) = vk b (3 - i / 8) i * 256 + ((b.getD i 0).toNat : Int) ∧ (0 ≤ vk b (3 - i / 8) i ∧ vk b (3 - i / 8) i < 72057594037927936) := by
  have e1 : 8 * (3 - (3 - i / 8)) = 8 * (i / 8) := by omega
  have e2 : min 8 (i - 8 * (i / 8)) = i % 8 := by omega
  have e3 : min 8 (i + 1 - 8 * (i / 8)) = i % 8 + 1 := by omega
  unfold vk
  rw [e1, e2, e3, fB_succ (by omega), show 8 * (i / 8) + i % 8 = i by omega]
  exact ⟨rfl, fB7 (by omega) (by omega)⟩
theorem vk_keep {b : List UInt8} {i k : Nat} (hk : k < 4) (hne : k ≠ 3 - i / 8) (hi : i < 32) : vk b k (i + 1) = vk b k i := by
  unfold vk
  rw [show min 8 (i + 1 - 8 * (3 - k)) = min 8 (i - 8 * (3 - k)) by omega]
def st104_0 (b : List UInt8) : Nat → Regs × Hp := fun i => ([(13, .r (.int .i64 (i : Int))), (12, .r (.int .i64 32)), (0, .r (.bs b)), (4, .ptr 1 0), (2, .ptr 0 0)], ⟨2, [(0, some (.plain [.int .u64 0, .int .u64 0, .int .u64 0, .int .u64 0])), (1, some (.plain (fnL 4 fun k => .int .u64 (vk b k i))))], false⟩)
def pr104_0 (b : List UInt8) : Nat → Prop := fun i => i ≤ 32
theorem w_Unwide (b : List UInt8) (hb : b.length = 32) : Pur Try.prog 104 [.r (.bs b)] (.tuple [wA (fB b 24 8) (fB b 16 8) (fB b 8 8) (fB b 0 8), .r (.bool true)]) := by
  refine spec_of_go (N := 33) Try.func104 rfl (by decide) rfl rfl ?_
  refine zB ?_
  refine ar_new tOk rfl rfl rfl ?_ ?_
  · simp
  refine pA ?_
  refine zC ?_
  refine ar_new tOk rfl rfl rfl ?_ ?_
  · simp
  refine zA ?_
  refine zB ?_
  iterate 3 refine pA ?_
  refine ar_nil ?_
  refine ag_false rfl (by simp [hb]) ?_
  refine ag_skip ?_
  refine ag_seq ?_
  refine zB ?_
  iterate 3 refine pA ?_
  refine ar_nil ?_
  refine ag_block ?_
  refine ag_loopS (st104_0 b) (pr104_0 b) (fun (i : Nat) => 32 - i) 0 (ent_weak [0, 1] rfl rfl rfl rfl ?_ ?_ rfl) (show pr104_0 b 0 from ?_) ?_
  · exact ⟨⟨rfl, rfl⟩, ⟨rfl, by exact eqI (by omega)⟩, ⟨rfl, rfl⟩, ⟨rfl, rfl⟩, ⟨rfl, rfl⟩, trivial⟩
  · exact ⟨⟨rfl, rfl, rfl⟩, ⟨rfl, rfl, rfl⟩, trivial⟩
  · exact Nat.zero_le _
  rintro i hp hrec
  have hp : i ≤ 32 := hp
  refine zB ?_
  refine pA ?_
  refine zA ?_
  refine ag_if rfl ?_ ?_
  · intro h14
    refine ag_skip ?_
    refine ag_seq ?_
    refine ag_block ?_
    refine zB ?_
    iterate 2 refine pA ?_
    refine zC ?_
    refine pA ?_
    refine ar_pure tOk rfl rfl rfl ?_ ?_
    · unfold inI64; omega
    refine ar_pure tOk rfl rfl rfl ?_ ?_
    · refine ⟨?_, by decide⟩
      show inI64 _
      rw [Int.tdiv_eq_ediv_of_nonneg (by omega)]; unfold inI64; omega
    refine ar_ent (ent_reg 18 (.r (.int .i64 ((3 - i / 8 : Nat) : Int))) (eqI (by rw [Int.tdiv_eq_ediv_of_nonneg (by omega)]; omega))) ?_
    refine pA ?_
    refine ar_nil ?_
    apply ag_draw1 [] (by kernel_rfl) (by kernel_rfl)
    iterate 2 refine aq_pure tOk rfl rfl rfl trivial ?_
    refine aq_pure tOk rfl rfl rfl ?_ ?_
    · exact ⟨by omega, by omega⟩
    refine aq_loadAs0 tOk (.r (.int .u64 (vk b (3 - i / 8) i))) rfl rfl rfl rfl rfl (by kernel_rfl) rfl rfl (loadsTo_fnL rfl (by simp only [addo_eq, mulz_eq, Nat.mul_one]; omega) (by rw [addo_eq, mulz_eq, show 0 + (((3 - i / 8 : Nat) : Int).toNat * 1) = 3 - i / 8 by omega])) ?_
    refine aq_pure tOk rfl rfl rfl ?_ ?_
    · exact ⟨trivial, by decide⟩
    iterate 2 refine aq_pure tOk rfl rfl rfl trivial ?_
    refine aq_pure tOk rfl rfl rfl ?_ ?_
    · exact ⟨by omega, by omega⟩
    refine aq_load0 tOk rfl (by kernel_rfl) rfl rfl ?_ ?_
    · show (i : Int).toNat < b.length; omega
    iterate 2 refine aq_pure tOk rfl rfl rfl trivial ?_
    refine aq_pure tOk rfl rfl rfl ?_ ?_
    · exact ⟨by omega, by omega⟩
    refine aq_store10 tOk rfl rfl rfl rfl ?_ ?_
    · simp only [fnL_length, addo_eq, mulz_eq, Nat.mul_one]; omega
    refine aq_nil rfl ?_
    refine ag_inBlock ?_
    refine ag_reg ?_
    refine ar_pure tOk rfl rfl rfl ?_ ?_
    · unfold inI64; omega
    refine pA ?_
    refine ar_nil ?_
    refine ag_ent (ent_weak (g' := (st104_0 b (i + 1)).1) (h' := (st104_0 b (i + 1)).2) [0, 1] rfl rfl rfl rfl ?_ ?_ rfl) ?_
    · exact ⟨⟨rfl, by exact eqI (by omega)⟩, ⟨rfl, rfl⟩, ⟨rfl, rfl⟩, ⟨rfl, rfl⟩, ⟨rfl, rfl⟩, trivial⟩
    · exact ⟨⟨rfl, rfl, rfl⟩, ⟨rfl, rfl, by refine eqPl ?_; rw [addo_eq, mulz_eq, show 0 + (((3 - i / 8 : Nat) : Int).toNat * 1) = 3 - i / 8 by omega]; have hs := vk_step hb (show i < 32 by omega); exact fnL_set (eqIr (by rw [hs.1]; exact (or8 hs.2.1 hs.2.2 (by omega) (u8_lt _)).symm)) (fun k hk hne => eqIr (vk_keep hk hne (by omega)))⟩, trivial⟩
    have hnx := hrec (i + 1)
    refine hnx ?_ ?_
    · show i + 1 ≤ 32; omega
    · show 32 - (i + 1) < 32 - i; omega
  · intro h14
    refine ag_exit rfl ?_
    refine zB ?_
    refine pB ?_
    refine ar_store tOk rfl rfl rfl trivial ?_
    refine pA ?_
    refine ar_nil ?_
    obtain rfl : i = 32 := by omega
    refine ag_ret tOk Try.func104 rfl rfl (by simp) ?_
    rfl
theorem w_UnwideNo (b : List UInt8) (hb : b.length ≠ 32) : Pur Try.prog 104 [.r (.bs b)] (.tuple [wA 0 0 0 0, .r (.bool false)]) := by
  refine spec_of_go (N := 33) Try.func104 rfl (by decide) rfl rfl ?_
  refine zB ?_
  refine ar_new tOk rfl rfl rfl ?_ ?_
  · simp
  refine pA ?_
  refine zC ?_
  refine ar_new tOk rfl rfl rfl ?_ ?_
  · simp
  refine zA ?_
  refine zB ?_
  iterate 3 refine pA ?_
  refine ar_nil ?_
  refine ag_true rfl (by simp; omega) ?_
  refine zB ?_
  refine pB ?_
  refine ar_store tOk rfl rfl rfl trivial ?_
  refine pA ?_
  refine ar_nil ?_
  refine ag_ret tOk Try.func104 rfl rfl (by simp) ?_
  rfl
end Go.Proofs.Ytnodpljgcdkbkaa


/-
  WALKS: wide numbers back from their octets, the reference's. (Printed by gen.py out of w_runw.py.)
-/
import Derived.Test.YtppniggpdepabaaUnw
namespace Go.Proofs.Ytppniggpdepabaa
open Go
set_option linter.unusedVariables false
set_option linter.unusedSimpArgs false

def pm (D : Nat → Int) (s : Nat) : Nat → Int
  | 0 => 0
  | n + 1 => pm D s n + D (s + n) * 65536 ^ n

theorem pm_bound {D : Nat → Int} (hD : ∀ k, 0 ≤ D k ∧ D k < 65536) (s : Nat) : ∀ n, 0 ≤ pm D s n ∧ pm D s n < 65536 ^ n
  | 0 => by simp [pm]
  | n + 1 => by
    obtain ⟨h1, h2⟩ := pm_bound hD s n
    obtain ⟨h3, h4⟩ := hD (s + n)
    have hp : (0 : Int) < 65536 ^ n := Int.pow_pos (by decide)
    have e : (65536 : Int) ^ (n + 1) = 65536 ^ n * 65536 := Int.pow_succ _ _
    have h5 : D (s + n) * 65536 ^ n ≤ 65535 * 65536 ^ n := Int.mul_le_mul_of_nonneg_right (by omega) (Int.le_of_lt hp)
    have h6 : 0 ≤ D (s + n) * 65536 ^ n := Int.mul_nonneg h3 (Int.le_of_lt hp)
    simp only [pm]
    rw [e]
    generalize D (s + n) * 65536 ^ n = z at h5 h6
    omega

theorem p64 {n : Nat} (hn : n ≤ 4) : (65536 : Int) ^ n ≤ 18446744073709551616 := by
  rcases n with _ | _ | _ | _ | _ | n <;> first | decide | omega

theorem dk_bound {D : Nat → Int} (hD : ∀ k, 0 ≤ D k ∧ D k < 65536) (i : Nat) {k : Nat} (hk : k ≤ 3) : U64 (D i * 65536 ^ k) := by
  obtain ⟨h3, h4⟩ := hD i
  unfold U64
  rcases k with _ | _ | _ | _ | k <;> first | omega | (simp; omega)

def mD (D : Nat → Int) (j i : Nat) : Int := pm D (4 * j) (min 4 (i - 4 * j))

theorem mD_step {D : Nat → Int} (hD : ∀ k, 0 ≤ D k ∧ D k < 65536) (i : Nat) : mD D (i / 4) (i + 1) = mD D (i / 4) i + D i * 65536 ^ (i % 4) ∧ U64 (mD D (i / 4) i + D i * 65536 ^ (i % 4)) := by
  have e2 : min 4 (i - 4 * (i / 4)) = i % 4 := by omega
  have e3 : min 4 (i + 1 - 4 * (i / 4)) = i % 4 + 1 := by omega
  have h1 : mD D (i / 4) (i + 1) = mD D (i / 4) i + D i * 65536 ^ (i % 4) := by
    unfold mD
    rw [e2, e3, pm, show 4 * (i / 4) + i % 4 = i by omega]
  refine ⟨h1, ?_⟩
  rw [← h1]
  unfold mD U64
  rw [e3]
  obtain ⟨h2, h3⟩ := pm_bound hD (4 * (i / 4)) (i % 4 + 1)
  have := p64 (n := i % 4 + 1) (by omega)
  omega

theorem mD_keep {D : Nat → Int} {i j : Nat} (hne : j ≠ i / 4) : mD D j (i + 1) = mD D j i := by
  unfold mD
  rw [show min 4 (i + 1 - 4 * j) = min 4 (i - 4 * j) by omega]

def st115_0 (D : Nat → Int) : Nat → Regs × Hp := fun i => ([(5, .r (.int .i64 (i : Int))), (0, .r (.ro 16 (fnL 16 fun k => .int .i64 (D k)))), (4, .ptr 1 0), (2, .ptr 0 0)], ⟨2, [(0, some (.plain [.int .u64 0, .int .u64 0, .int .u64 0, .int .u64 0])), (1, some (.plain (fnL 4 fun j => .int .u64 (mD D j i))))], false⟩)
def pr115_0 (D : Nat → Int) : Nat → Prop := fun i => i ≤ 16
def st115_2 (D : Nat → Int) (i : Nat) : Nat → Regs × Hp := fun k => ([(7, .r (.int .i64 (k : Int))), (6, .r (.int .u64 (D i * 65536 ^ k))), (5, .r (.int .i64 (i : Int))), (0, .r (.ro 16 (fnL 16 fun k => .int .i64 (D k)))), (4, .ptr 1 0), (2, .ptr 0 0)], ⟨2, [(0, some (.plain [.int .u64 0, .int .u64 0, .int .u64 0, .int .u64 0])), (1, some (.plain (fnL 4 fun j => .int .u64 (mD D j i))))], false⟩)
def pr115_2 (D : Nat → Int) (i : Nat) : Nat → Prop := fun k => k ≤ i % 4
theorem w_Made (D : Nat → Int) (hD : ∀ k, 0 ≤ D k ∧ D k < 65536) : Pur Try.prog 115 [.r (.ro 16 (fnL 16 fun k => .int .i64 (D k)))] (.tuple [wA (pm D 0 4) (pm D 4 4) (pm D 8 4) (pm D 12 4), .r (.bool true)]) := by
  refine spec_of_go (N := 45) Try.func115 rfl (by decide) rfl rfl ?_
  refine z2 ?_
  refine ar_new tOk rfl rfl rfl ?_ ?_
  · simp
  refine p1 ?_
  refine z3 ?_
  refine ar_new tOk rfl rfl rfl ?_ ?_
  · simp
  refine z1 ?_
  refine z2 ?_
  refine p1 ?_
  refine ar_nil ?_
  refine ag_block ?_
  refine ag_loopS (st115_0 D) (pr115_0 D) (fun (i : Nat) => 16 - i) 0 (ent_weak [0, 1] rfl rfl rfl rfl ?_ ?_ rfl) (show pr115_0 D 0 from ?_) ?_
  · exact ⟨⟨rfl, rfl⟩, ⟨rfl, rfl⟩, ⟨rfl, rfl⟩, ⟨rfl, rfl⟩, trivial⟩
  · exact ⟨⟨rfl, rfl, rfl⟩, ⟨rfl, rfl, rfl⟩, trivial⟩
  · exact Nat.zero_le _
  rintro i hp hrec
  have hp : i ≤ 16 := hp
  refine ag_seq ?_
  refine z2 ?_
  iterate 4 refine p1 ?_
  refine ar_nil ?_
  refine ag_if rfl ?_ ?_
  · intro h11
    have h11 : (i : Int) < 16 := h11
    refine ag_skip ?_
    refine ag_seq ?_
    refine ag_block ?_
    refine ag_seq ?_
    refine z2 ?_
    iterate 2 refine p1 ?_
    refine ar_nil ?_
    refine ag_false rfl (by simp; omega) ?_
    refine ag_skip ?_
    refine z2 ?_
    iterate 2 refine p1 ?_
    refine ar_pure tOk rfl rfl rfl ?_ ?_
    · exact ⟨⟨by omega, by omega⟩, by simp [fnL]⟩
    refine ar_loadAs tOk (.r (.int .i64 (D i))) rfl rfl rfl rfl rfl rfl rfl (loadsTo_fnL rfl (by simp only [mulz_eq, Nat.mul_one]; omega) (by simp only [mulz_eq, Nat.mul_one, Int.toNat_natCast])) ?_
    refine p1 ?_
    refine ar_ent (ent_reg 26 (.r (.int .u64 (D i))) (eqI (by rw [wu64]; have := hD i; omega))) ?_
    refine p1 ?_
    refine z1 ?_
    refine z2 ?_
    refine p1 ?_
    refine ar_nil ?_
    refine ag_block ?_
    refine ag_loopS (st115_2 D i) (pr115_2 D i) (fun (k : Nat) => 4 - k) 0 (ent_weak [0, 1] rfl rfl rfl rfl ?_ ?_ rfl) (show pr115_2 D i 0 from ?_) ?_
    · exact ⟨⟨rfl, rfl⟩, ⟨rfl, by exact eqI (by simp)⟩, ⟨rfl, rfl⟩, ⟨rfl, rfl⟩, ⟨rfl, rfl⟩, ⟨rfl, rfl⟩, trivial⟩
    · exact ⟨⟨rfl, rfl, rfl⟩, ⟨rfl, rfl, rfl⟩, trivial⟩
    · exact Nat.zero_le _
    rintro k hp2 hrec2
    have hk : k ≤ i % 4 := hp2
    refine ag_seq ?_
    refine z2 ?_
    iterate 2 refine p1 ?_
    refine ar_pure tOk rfl rfl rfl ?_ ?_
    · decide
    refine p1 ?_
    refine ar_nil ?_
    refine ag_if rfl ?_ ?_
    · intro h30
      rw [Int.tmod_eq_emod_of_nonneg (by omega)] at h30
      refine ag_skip ?_
      refine ag_seq ?_
      refine ag_block ?_
      refine ag_reg ?_
      iterate 3 refine p1 ?_
      refine ar_nil ?_
      refine ag_inBlock ?_
      refine ag_reg ?_
      refine p1 ?_
      refine ar_pure tOk rfl rfl rfl ?_ ?_
      · unfold inI64; omega
      refine p1 ?_
      refine ar_nil ?_
      refine ag_ent (ent_weak (g' := (st115_2 D i (k + 1)).1) (h' := (st115_2 D i (k + 1)).2) [0, 1] rfl rfl rfl rfl ?_ ?_ rfl) ?_
      · exact ⟨⟨rfl, by exact eqI (by omega)⟩, ⟨rfl, by refine eqI ?_; have hb := dk_bound hD i (k := k + 1) (by omega); rw [Int.pow_succ, ← Int.mul_assoc] at hb ⊢; rw [wu64]; exact (Int.emod_eq_of_lt hb.1 hb.2).symm⟩, ⟨rfl, rfl⟩, ⟨rfl, rfl⟩, ⟨rfl, rfl⟩, ⟨rfl, rfl⟩, trivial⟩
      · exact ⟨⟨rfl, rfl, rfl⟩, ⟨rfl, rfl, rfl⟩, trivial⟩
      have hnx := hrec2 (k + 1)
      refine hnx ?_ ?_
      · show k + 1 ≤ i % 4; omega
      · show 4 - (k + 1) < 4 - k; omega
    · intro h30
      rw [Int.tmod_eq_emod_of_nonneg (by omega)] at h30
      obtain rfl : k = i % 4 := by omega
      refine ag_exit rfl ?_
      refine ag_reg ?_
      refine p1 ?_
      refine ar_pure tOk rfl rfl rfl ?_ ?_
      · refine ⟨?_, by decide⟩
        show inI64 _
        rw [Int.tdiv_eq_ediv_of_nonneg (by omega)]; unfold inI64; omega
      refine ar_ent (ent_reg 36 (.r (.int .i64 ((i / 4 : Nat) : Int))) (eqI (by rw [Int.tdiv_eq_ediv_of_nonneg (by omega)]; omega))) ?_
      refine p1 ?_
      refine ar_pure tOk rfl rfl rfl ?_ ?_
      · refine ⟨?_, by decide⟩
        show inI64 _
        rw [Int.tdiv_eq_ediv_of_nonneg (by omega)]; unfold inI64; omega
      refine ar_ent (ent_reg 38 (.r (.int .i64 ((i / 4 : Nat) : Int))) (eqI (by rw [Int.tdiv_eq_ediv_of_nonneg (by omega)]; omega))) ?_
      refine ar_pure tOk rfl rfl rfl ?_ ?_
      · exact ⟨by omega, by omega⟩
      refine ar_loadAs tOk (.r (.int .u64 (mD D (i / 4) i))) rfl rfl rfl rfl rfl rfl rfl (loadsTo_fnL rfl (by simp only [addo_eq, mulz_eq, Nat.mul_one]; omega) (by simp only [addo_eq, mulz_eq, Nat.mul_one, Int.toNat_natCast, Nat.zero_add])) ?_
      iterate 2 refine p1 ?_
      refine ar_pure tOk rfl rfl rfl ?_ ?_
      · exact ⟨by omega, by omega⟩
      refine ar_store tOk rfl rfl rfl ?_ ?_
      · simp only [fnL_length, addo_eq, mulz_eq, Nat.mul_one]; omega
      refine ar_nil ?_
      refine ag_inBlock ?_
      refine ag_reg ?_
      refine p1 ?_
      refine ar_pure tOk rfl rfl rfl ?_ ?_
      · unfold inI64; omega
      refine p1 ?_
      refine ar_nil ?_
      refine ag_ent (ent_weak (g' := (st115_0 D (i + 1)).1) (h' := (st115_0 D (i + 1)).2) [0, 1] rfl rfl rfl rfl ?_ ?_ rfl) ?_
      · exact ⟨⟨rfl, by exact eqI (by omega)⟩, ⟨rfl, rfl⟩, ⟨rfl, rfl⟩, ⟨rfl, rfl⟩, trivial⟩
      · exact ⟨⟨rfl, rfl, rfl⟩, ⟨rfl, rfl, by refine eqPl ?_; simp only [addo_eq, mulz_eq, Nat.mul_one, Int.toNat_natCast, Nat.zero_add]; have hs := mD_step hD i; exact fnL_set (eqIr (by rw [hs.1, wu64]; exact (Int.emod_eq_of_lt hs.2.1 hs.2.2).symm)) (fun j _ hne => eqIr (mD_keep hne))⟩, trivial⟩
      have hnx := hrec (i + 1)
      refine hnx ?_ ?_
      · show i + 1 ≤ 16; omega
      · show 16 - (i + 1) < 16 - i; omega
  · intro h11
    refine ag_exit rfl ?_
    refine z2 ?_
    refine p2 ?_
    refine ar_store tOk rfl rfl rfl trivial ?_
    refine p1 ?_
    refine ar_nil ?_
    obtain rfl : i = 16 := by omega
    refine ag_ret tOk Try.func115 rfl rfl (by simp) ?_
    rfl

def d2 (b : List UInt8) (k : Nat) : Int := fB b (2 * (15 - k)) 2
def lk (b : List UInt8) (k i : Nat) : Int := fB b (2 * (15 - k)) (min 2 (i - 2 * (15 - k)))

theorem fB2 {b : List UInt8} {s n : Nat} (h : s + n ≤ b.length) (hn : n ≤ 2) : 0 ≤ fB b s n ∧ fB b s n < 65536 := by
  obtain ⟨h1, h2⟩ := fB_bound b s n h
  refine ⟨h1, ?_⟩
  generalize fB b s n = x at h2
  rcases n with _ | _ | _ | n <;> first | (simp at h2; omega) | omega

theorem lk_step {b : List UInt8} {i : Nat} (hb : b.length = 32) (hi : i < 32) : lk b (15 - i / 2) (i + 1) = lk b (15 - i / 2) i * 256 + ((b.getD i 0).toNat : Int) ∧ (0 ≤ lk b (15 - i / 2) i ∧ lk b (15 - i / 2) i < 65536) := by
  have e1 : 2 * (15 - (15 - i / 2)) = 2 * (i / 2) := by omega
  have e2 : min 2 (i - 2 * (i / 2)) = i % 2 := by omega
  have e3 : min 2 (i + 1 - 2 * (i / 2)) = i % 2 + 1 := by omega
  unfold lk
  rw [e1, e2, e3, fB_succ (by omega), show 2 * (i / 2) + i % 2 = i by omega]
  exact ⟨rfl, fB2 (by omega) (by omega)⟩

theorem lk_keep {b : List UInt8} {i k : Nat} (hk : k < 16) (hne : k ≠ 15 - i / 2) (hi : i < 32) : lk b k (i + 1) = lk b k i := by
  unfold lk
  rw [show min 2 (i + 1 - 2 * (15 - k)) = min 2 (i - 2 * (15 - k)) by omega]

theorem fB_two {b : List UInt8} {s n : Nat} (h : s + n + 2 ≤ b.length) : fB b s (n + 2) = fB b s n * 65536 + fB b (s + n) 2 := by
  have z : fB b (s + n) 0 = 0 := rfl
  rw [fB_succ (by omega), fB_succ (by omega), fB_succ (n := 1) (by omega), fB_succ (n := 0) (by omega), z, show s + (n + 1) = s + n + 1 by omega]
  simp only [Nat.add_zero]
  omega

theorem fB8_split {b : List UInt8} {s : Nat} (h : s + 8 ≤ b.length) : fB b s 8 = ((fB b s 2 * 65536 + fB b (s + 2) 2) * 65536 + fB b (s + 4) 2) * 65536 + fB b (s + 6) 2 := by
  have h1 := fB_two (b := b) (s := s) (n := 6) (by omega)
  have h2 := fB_two (b := b) (s := s) (n := 4) (by omega)
  have h3 := fB_two (b := b) (s := s) (n := 2) (by omega)
  simp only [Nat.reduceAdd] at h1 h2 h3
  rw [h1, h2, h3]

theorem pm_fB {b : List UInt8} (hb : b.length = 32) (j : Nat) (hj : j < 4) : pm (d2 b) (4 * j) 4 = fB b (8 * (3 - j)) 8 := by
  rw [fB8_split (by omega)]
  simp only [pm, d2]
  rw [show 2 * (15 - (4 * j + 0)) = 8 * (3 - j) + 6 by omega, show 2 * (15 - (4 * j + 1)) = 8 * (3 - j) + 4 by omega, show 2 * (15 - (4 * j + 2)) = 8 * (3 - j) + 2 by omega, show 2 * (15 - (4 * j + 3)) = 8 * (3 - j) by omega]
  generalize fB b (8 * (3 - j) + 6) 2 = a0
  generalize fB b (8 * (3 - j) + 4) 2 = a1
  generalize fB b (8 * (3 - j) + 2) 2 = a2
  generalize fB b (8 * (3 - j)) 2 = a3
  omega

theorem lk_all (b : List UInt8) : AVal.r (.ro 16 (cutA (fnL 16 fun k => .int .i64 (lk b k 32)) 0 (16 * 1))) = AVal.r (.ro 16 (fnL 16 fun k => .int .i64 (d2 b k))) := by
  rw [cutA_eq, List.drop_zero, List.take_of_length_le (by simp [fnL])]
  rw [fnL_congr (fun k hk => eqIr (show lk b k 32 = d2 b k by unfold lk d2; rw [show min 2 (32 - 2 * (15 - k)) = 2 by omega]))]

theorem d2_bound {b : List UInt8} (hb : b.length = 32) (k : Nat) : 0 ≤ d2 b k ∧ d2 b k < 65536 := fB2 (by omega) (by omega)

def st90_0 (b : List UInt8) : Nat → Regs × Hp := fun i => ([(4, .r (.int .i64 (i : Int))), (3, .sl 1 0 16 1), (0, .r (.bs b)), (2, .ptr 0 0)], ⟨2, [(0, some (.plain [.int .u64 0, .int .u64 0, .int .u64 0, .int .u64 0])), (1, some (.plain (fnL 16 fun k => .int .i64 (lk b k i))))], false⟩)
def pr90_0 (b : List UInt8) : Nat → Prop := fun i => i ≤ 32
theorem w_rUnwide (b : List UInt8) (hb : b.length = 32) : Pur Try.prog 90 [.r (.bs b)] (wA (fB b 24 8) (fB b 16 8) (fB b 8 8) (fB b 0 8)) := by
  refine spec_of_go (N := 42) Try.func90 rfl (by decide) rfl rfl ?_
  refine z2 ?_
  refine ar_new tOk rfl rfl rfl ?_ ?_
  · simp
  refine z3 ?_
  refine ar_make tOk rfl rfl rfl ?_ ?_
  · simp
  refine p1 ?_
  refine z1 ?_
  refine z2 ?_
  refine p1 ?_
  refine ar_nil ?_
  refine ag_block ?_
  refine ag_loopS (st90_0 b) (pr90_0 b) (fun (i : Nat) => 32 - i) 0 (ent_weak [0, 1] rfl rfl rfl rfl ?_ ?_ rfl) (show pr90_0 b 0 from ?_) ?_
  · exact ⟨⟨rfl, rfl⟩, ⟨rfl, rfl⟩, ⟨rfl, rfl⟩, ⟨rfl, rfl⟩, trivial⟩
  · exact ⟨⟨rfl, rfl, rfl⟩, ⟨rfl, rfl, rfl⟩, trivial⟩
  · exact Nat.zero_le _
  rintro i hp hrec
  have hp : i ≤ 32 := hp
  refine ag_seq ?_
  refine z2 ?_
  iterate 3 refine p1 ?_
  refine ar_guard (t := decide ((i : Int) < 32)) (fun ht => ?_) (fun ht => ?_)
  · refine ar_pure tOk rfl rfl ht trivial ?_
    iterate 3 refine ar_pure tOk rfl rfl ht trivial ?_
    refine p1 ?_
    refine ar_nil ?_
    refine ag_true rfl (by rw [ht]; simp [hb] at ht ⊢; exact ht) ?_
    refine ag_skip ?_
    refine ag_seq ?_
    refine ag_block ?_
    refine ag_seq ?_
    rw [decide_eq_true_eq] at ht
    refine ag_reg ?_
    refine p1 ?_
    refine ar_pure tOk rfl rfl rfl ?_ ?_
    · unfold inI64; omega
    refine ar_pure tOk rfl rfl rfl ?_ ?_
    · refine ⟨?_, by decide⟩
      show inI64 _
      rw [Int.tdiv_eq_ediv_of_nonneg (by omega)]; unfold inI64; omega
    refine ar_ent (ent_reg 21 (.r (.int .i64 ((15 - i / 2 : Nat) : Int))) (eqI (by rw [Int.tdiv_eq_ediv_of_nonneg (by omega)]; omega))) ?_
    refine p1 ?_
    refine ar_nil ?_
    apply ag_draw1 [] (by kernel_rfl) (by kernel_rfl)
    iterate 4 refine aq_pure tOk rfl rfl rfl trivial ?_
    refine aq_pure tOk rfl rfl rfl ?_ ?_
    · exact ⟨by omega, by omega⟩
    refine aq_loadAs0 tOk (.r (.int .i64 (lk b (15 - i / 2) i))) rfl rfl rfl rfl rfl (by kernel_rfl) rfl rfl (loadsTo_fnL rfl (by simp only [addo_eq, mulz_eq, Nat.mul_one]; omega) (by rw [addo_eq, mulz_eq, show 0 + (((15 - i / 2 : Nat) : Int).toNat * 1) = 15 - i / 2 by omega])) ?_
    refine aq_pure tOk rfl rfl rfl ?_ ?_
    · have := (lk_step hb (show i < 32 by omega)).2; unfold inI64; omega
    iterate 2 refine aq_pure tOk rfl rfl rfl trivial ?_
    refine aq_pure tOk rfl rfl rfl ?_ ?_
    · exact ⟨by omega, by omega⟩
    refine aq_load0 tOk rfl (by kernel_rfl) rfl rfl ?_ ?_
    · show (i : Int).toNat < b.length; omega
    refine aq_pure tOk rfl rfl rfl ?_ ?_
    · have := u8_lt (b.getD (i : Int).toNat 0); unfold inI64; omega
    refine aq_pure tOk rfl rfl rfl ?_ ?_
    · have := (lk_step hb (show i < 32 by omega)).2; have := u8_lt (b.getD (i : Int).toNat 0); unfold inI64; omega
    refine aq_pure tOk rfl rfl rfl ?_ ?_
    · exact ⟨by omega, by omega⟩
    refine aq_store10 tOk rfl rfl rfl rfl ?_ ?_
    · simp only [fnL_length, addo_eq, mulz_eq, Nat.mul_one]; omega
    refine aq_nil rfl ?_
    refine ag_inBlock ?_
    refine ag_reg ?_
    refine p1 ?_
    refine ar_pure tOk rfl rfl rfl ?_ ?_
    · unfold inI64; omega
    refine p1 ?_
    refine ar_nil ?_
    refine ag_ent (ent_weak (g' := (st90_0 b (i + 1)).1) (h' := (st90_0 b (i + 1)).2) [0, 1] rfl rfl rfl rfl ?_ ?_ rfl) ?_
    · exact ⟨⟨rfl, by exact eqI (by omega)⟩, ⟨rfl, rfl⟩, ⟨rfl, rfl⟩, ⟨rfl, rfl⟩, trivial⟩
    · exact ⟨⟨rfl, rfl, rfl⟩, ⟨rfl, rfl, by refine eqPl ?_; rw [addo_eq, mulz_eq, show 0 + (((15 - i / 2 : Nat) : Int).toNat * 1) = 15 - i / 2 by omega]; have hs := lk_step hb (show i < 32 by omega); exact fnL_set (eqIr (by rw [hs.1]; rfl)) (fun k hk hne => eqIr (lk_keep hk hne (by omega)))⟩, trivial⟩
    have hnx := hrec (i + 1)
    refine hnx ?_ ?_
    · show i + 1 ≤ 32; omega
    · show 32 - (i + 1) < 32 - i; omega
  · refine ar_ent (ent_reg 11 (.r (.bool false)) (by show AVal.r (.bool _) = _; rw [ht])) ?_
    iterate 4 refine ar_skip rfl rfl rfl ?_
    refine p1 ?_
    refine ar_nil ?_
    refine ag_false rfl (rfl) ?_
    refine ag_exit rfl ?_
    refine z2 ?_
    refine p1 ?_
    refine ar_ent (ent_freeze 37 rfl rfl rfl trivial) ?_
    obtain rfl : i = 32 := by simp at ht; omega
    refine ar_ent (ent_reg 37 (.r (.ro 16 (fnL 16 fun k => .int .i64 (d2 b k)))) (lk_all b)) ?_
    refine ar_pur (w_Made (d2 b) (d2_bound hb)) rfl rfl rfl rfl rfl rfl rfl ?_
    iterate 3 refine p1 ?_
    refine ar_new tOk rfl rfl rfl ?_ ?_
    · simp
    refine ar_store tOk rfl rfl rfl trivial ?_
    refine p1 ?_
    refine z3 ?_
    refine p2 ?_
    refine ar_store tOk rfl rfl rfl trivial ?_
    refine ar_nil ?_
    refine ag_ret tOk Try.func90 rfl rfl (by simp) ?_
    show wA _ _ _ _ = wA _ _ _ _
    rw [show pm (d2 b) 0 4 = _ from pm_fB hb 0 (by omega), show pm (d2 b) 4 4 = _ from pm_fB hb 1 (by omega), show pm (d2 b) 8 4 = _ from pm_fB hb 2 (by omega), show pm (d2 b) 12 4 = _ from pm_fB hb 3 (by omega)]

end Go.Proofs.Ytppniggpdepabaa

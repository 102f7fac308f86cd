/-
  WALKS: wide numbers' octets. (Printed by gen.py out of w_bwide.py.)
-/
import Derived.Test.YtccdhgmkjakjkaaGreatBInt
namespace Go.Proofs.YtccdhgmkjakjkaaGreat
open Go
set_option linter.unusedVariables false
set_option linter.unusedSimpArgs false
def wA (x0 x1 x2 x3 : Int) : AVal := .agg [.r (.int .u64 x0), .r (.int .u64 x1), .r (.int .u64 x2), .r (.int .u64 x3)]
def U64 (x : Int) : Prop := 0 ≤ x ∧ x < 18446744073709551616
def digL : Nat → Int → List RVal
 | 0, _ => []
 | k + 1, x => .int .i64 (x % 65536) :: digL k (x / 65536)
def digW (x0 x1 x2 x3 : Int) : List RVal := digL 4 x0 ++ (digL 4 x1 ++ (digL 4 x2 ++ digL 4 x3))
def wideL (x0 x1 x2 x3 : Int) : List UInt8 := numL 8 x3 ++ (numL 8 x2 ++ (numL 8 x1 ++ numL 8 x0))
theorem u8r (n : Int) : 0 ≤ IntKind.u8.wrap n ∧ IntKind.u8.wrap n < 256 := by rw [wu8]; omega
theorem consU {a b : Int} {l l' : List UInt8} (h : a = b) (hl : l = l') : UInt8.ofNat a.toNat :: l = UInt8.ofNat b.toNat :: l' := by rw [h, hl]
theorem numL8_dig (x : Int) (h : 0 ≤ x) : numL 8 x =
  [UInt8.ofNat (IntKind.u8.wrap ((x / 65536 / 65536 / 65536 % 65536).tdiv 256)).toNat, UInt8.ofNat (IntKind.u8.wrap ((x / 65536 / 65536 / 65536 % 65536).tmod 256)).toNat,
   UInt8.ofNat (IntKind.u8.wrap ((x / 65536 / 65536 % 65536).tdiv 256)).toNat, UInt8.ofNat (IntKind.u8.wrap ((x / 65536 / 65536 % 65536).tmod 256)).toNat,
   UInt8.ofNat (IntKind.u8.wrap ((x / 65536 % 65536).tdiv 256)).toNat, UInt8.ofNat (IntKind.u8.wrap ((x / 65536 % 65536).tmod 256)).toNat,
   UInt8.ofNat (IntKind.u8.wrap ((x % 65536).tdiv 256)).toNat, UInt8.ofNat (IntKind.u8.wrap ((x % 65536).tmod 256)).toNat] := by
 rw [Int.tdiv_eq_ediv_of_nonneg (by omega), Int.tdiv_eq_ediv_of_nonneg (by omega), Int.tdiv_eq_ediv_of_nonneg (by omega), Int.tdiv_eq_ediv_of_nonneg (by omega),
  Int.tmod_eq_emod_of_nonneg (by omega), Int.tmod_eq_emod_of_nonneg (by omega), Int.tmod_eq_emod_of_nonneg (by omega), Int.tmod_eq_emod_of_nonneg (by omega)]
 simp only [numL, List.nil_append, List.cons_append, wu8]
 exact consU (by omega) (consU (by omega) (consU (by omega) (consU (by omega) (consU (by omega) (consU (by omega) (consU (by omega) (consU (by omega) rfl)))))))
theorem numL8_shr (x : Int) : numL 8 x =
  [UInt8.ofNat (IntKind.u8.wrap (x.fdiv (2 ^ 56))).toNat, UInt8.ofNat (IntKind.u8.wrap (x.fdiv (2 ^ 48))).toNat, UInt8.ofNat (IntKind.u8.wrap (x.fdiv (2 ^ 40))).toNat, UInt8.ofNat (IntKind.u8.wrap (x.fdiv (2 ^ 32))).toNat,
   UInt8.ofNat (IntKind.u8.wrap (x.fdiv (2 ^ 24))).toNat, UInt8.ofNat (IntKind.u8.wrap (x.fdiv (2 ^ 16))).toNat, UInt8.ofNat (IntKind.u8.wrap (x.fdiv (2 ^ 8))).toNat, UInt8.ofNat (IntKind.u8.wrap (x.fdiv (2 ^ 0))).toNat] := by
 have e : ∀ m : Nat, x.fdiv (2 ^ m) = x / 2 ^ m := fun m => Int.fdiv_eq_ediv_of_nonneg _ (Int.le_of_lt (Int.pow_pos (by decide)))
 rw [e, e, e, e, e, e, e, e]
 simp only [numL, List.nil_append, List.cons_append, wu8]
 exact consU (by omega) (consU (by omega) (consU (by omega) (consU (by omega) (consU (by omega) (consU (by omega) (consU (by omega) (consU (by omega) rfl)))))))
theorem w_Digits (x0 x1 x2 x3 : Int) (h0 : U64 x0) (h1 : U64 x1) (h2 : U64 x2) (h3 : U64 x3) : Own Tryz.prog 57 [wA x0 x1 x2 x3] 16 1 (.plain (digW x0 x1 x2 x3)) := by
 unfold U64 at h0 h1 h2 h3
 refine spec_of_go (N := 27) Tryz.func57 rfl (by decide) rfl rfl ?_
 refine zB ?_
 refine pM ?_
 refine pG ?_
 refine pF ?_
 refine zB ?_
 refine pE ?_
 refine ag_block ?_
 refine ag_unroll ?_
 refine sZ ?_
 refine pA ?_
 refine pE ?_
 refine vA ?_
 refine sS ?_
 refine bX ?_
 refine pA ?_
 refine pC ?_ ?_
 ·decide
 refine pB ?_
 refine pG ?_
 refine pE ?_
 refine ag_block ?_
 refine ag_unroll ?_
 refine sZ ?_
 refine pA ?_
 refine pE ?_
 refine vA ?_
 refine sS ?_
 refine bX ?_
 iterate 2 refine pA ?_
 refine pC ?_ ?_
 ·decide
 refine ar_ent (ent_reg 20 (.r (.int .u64 ((x0) % 65536))) (eqI (Int.tmod_eq_emod_of_nonneg (by omega)))) ?_
 refine pC ?_ ?_
 ·unfold inI64; omega
 refine pN ?_ ?_
 ·simp
 refine pP ?_ ?_
 ·refine ⟨⟨?_, ?_, ?_⟩, ⟨?_, ?_⟩, ⟨?_, ?_⟩, ?_⟩ <;> first | trivial | decide | exact ⟨u8r _, u8r _, trivial⟩ | exact ⟨u8r _, trivial⟩ | omega | (simp; done) | (simp [cutA_eq]; done) | (simp [cutA_eq, digL]; done)
 refine pE ?_
 refine ag_reg ?_
 refine pA ?_
 refine pC ?_ ?_
 ·exact ⟨trivial, by decide⟩
 refine ar_ent (ent_reg 25 (.r (.int .u64 ((x0) / 65536))) (eqI (by rw [wu64, Int.tdiv_eq_ediv_of_nonneg (by omega)]; omega))) ?_
 refine pE ?_
 refine iR ?_
 refine pA ?_
 refine pC ?_ ?_
 ·unfold inI64; decide
 refine pE ?_
 refine ag_again ?_
 refine sZ ?_
 refine pA ?_
 refine pE ?_
 refine vA ?_
 refine sS ?_
 refine bX ?_
 iterate 2 refine pA ?_
 refine pC ?_ ?_
 ·decide
 refine ar_ent (ent_reg 20 (.r (.int .u64 ((x0 / 65536) % 65536))) (eqI (Int.tmod_eq_emod_of_nonneg (by omega)))) ?_
 refine pC ?_ ?_
 ·unfold inI64; omega
 refine pN ?_ ?_
 ·simp
 refine pP ?_ ?_
 ·refine ⟨⟨?_, ?_, ?_⟩, ⟨?_, ?_⟩, ⟨?_, ?_⟩, ?_⟩ <;> first | trivial | decide | exact ⟨u8r _, u8r _, trivial⟩ | exact ⟨u8r _, trivial⟩ | omega | (simp; done) | (simp [cutA_eq]; done) | (simp [cutA_eq, digL]; done)
 refine pE ?_
 refine ag_reg ?_
 refine pA ?_
 refine pC ?_ ?_
 ·exact ⟨trivial, by decide⟩
 refine ar_ent (ent_reg 25 (.r (.int .u64 ((x0 / 65536) / 65536))) (eqI (by rw [wu64, Int.tdiv_eq_ediv_of_nonneg (by omega)]; omega))) ?_
 refine pE ?_
 refine iR ?_
 refine pA ?_
 refine pC ?_ ?_
 ·unfold inI64; decide
 refine pE ?_
 refine ag_again ?_
 refine sZ ?_
 refine pA ?_
 refine pE ?_
 refine vA ?_
 refine sS ?_
 refine bX ?_
 iterate 2 refine pA ?_
 refine pC ?_ ?_
 ·decide
 refine ar_ent (ent_reg 20 (.r (.int .u64 ((x0 / 65536 / 65536) % 65536))) (eqI (Int.tmod_eq_emod_of_nonneg (by omega)))) ?_
 refine pC ?_ ?_
 ·unfold inI64; omega
 refine pN ?_ ?_
 ·simp
 refine pP ?_ ?_
 ·refine ⟨⟨?_, ?_, ?_⟩, ⟨?_, ?_⟩, ⟨?_, ?_⟩, ?_⟩ <;> first | trivial | decide | exact ⟨u8r _, u8r _, trivial⟩ | exact ⟨u8r _, trivial⟩ | omega | (simp; done) | (simp [cutA_eq]; done) | (simp [cutA_eq, digL]; done)
 refine pE ?_
 refine ag_reg ?_
 refine pA ?_
 refine pC ?_ ?_
 ·exact ⟨trivial, by decide⟩
 refine ar_ent (ent_reg 25 (.r (.int .u64 ((x0 / 65536 / 65536) / 65536))) (eqI (by rw [wu64, Int.tdiv_eq_ediv_of_nonneg (by omega)]; omega))) ?_
 refine pE ?_
 refine iR ?_
 refine pA ?_
 refine pC ?_ ?_
 ·unfold inI64; decide
 refine pE ?_
 refine ag_again ?_
 refine sZ ?_
 refine pA ?_
 refine pE ?_
 refine vA ?_
 refine sS ?_
 refine bX ?_
 iterate 2 refine pA ?_
 refine pC ?_ ?_
 ·decide
 refine ar_ent (ent_reg 20 (.r (.int .u64 ((x0 / 65536 / 65536 / 65536) % 65536))) (eqI (Int.tmod_eq_emod_of_nonneg (by omega)))) ?_
 refine pC ?_ ?_
 ·unfold inI64; omega
 refine pN ?_ ?_
 ·simp
 refine pP ?_ ?_
 ·refine ⟨⟨?_, ?_, ?_⟩, ⟨?_, ?_⟩, ⟨?_, ?_⟩, ?_⟩ <;> first | trivial | decide | exact ⟨u8r _, u8r _, trivial⟩ | exact ⟨u8r _, trivial⟩ | omega | (simp; done) | (simp [cutA_eq]; done) | (simp [cutA_eq, digL]; done)
 refine pE ?_
 refine ag_reg ?_
 refine pA ?_
 refine pC ?_ ?_
 ·exact ⟨trivial, by decide⟩
 refine ar_ent (ent_reg 25 (.r (.int .u64 ((x0 / 65536 / 65536 / 65536) / 65536))) (eqI (by rw [wu64, Int.tdiv_eq_ediv_of_nonneg (by omega)]; omega))) ?_
 refine pE ?_
 refine iR ?_
 refine pA ?_
 refine pC ?_ ?_
 ·unfold inI64; decide
 refine pE ?_
 refine ag_again ?_
 refine sZ ?_
 refine pA ?_
 refine pE ?_
 refine vD ?_
 refine ag_exit rfl ?_
 refine ag_inBlock ?_
 refine ag_ent (ent_weak (g' := [(4, .r (.int .i64 0)), (3, .sl 1 0 4 1), (1, .ptr 0 0)]) (h' := ⟨2, [(0, some (.mixed [.r (.int .u64 x0), .r (.int .u64 x1), .r (.int .u64 x2), .r (.int .u64 x3)])), (1, some (.plain (digL 4 x0)))], false⟩) [0, 8] rfl rfl rfl rfl ?_ ?_ rfl) ?_
 ·exact ⟨⟨rfl, rfl⟩, ⟨rfl, rfl⟩, ⟨rfl, rfl⟩, trivial⟩
 ·exact ⟨⟨rfl, rfl, rfl⟩, ⟨rfl, rfl, rfl⟩, trivial⟩
 refine ag_reg ?_
 refine pA ?_
 refine pC ?_ ?_
 ·unfold inI64; decide
 refine pE ?_
 refine ag_again ?_
 refine sZ ?_
 refine pA ?_
 refine pE ?_
 refine vA ?_
 refine sS ?_
 refine bX ?_
 refine pA ?_
 refine pC ?_ ?_
 ·decide
 refine pB ?_
 refine pG ?_
 refine pE ?_
 refine ag_block ?_
 refine ag_unroll ?_
 refine sZ ?_
 refine pA ?_
 refine pE ?_
 refine vA ?_
 refine sS ?_
 refine bX ?_
 iterate 2 refine pA ?_
 refine pC ?_ ?_
 ·decide
 refine ar_ent (ent_reg 20 (.r (.int .u64 ((x1) % 65536))) (eqI (Int.tmod_eq_emod_of_nonneg (by omega)))) ?_
 refine pC ?_ ?_
 ·unfold inI64; omega
 refine pN ?_ ?_
 ·simp
 refine pP ?_ ?_
 ·refine ⟨⟨?_, ?_, ?_⟩, ⟨?_, ?_⟩, ⟨?_, ?_⟩, ?_⟩ <;> first | trivial | decide | exact ⟨u8r _, u8r _, trivial⟩ | exact ⟨u8r _, trivial⟩ | omega | (simp; done) | (simp [cutA_eq]; done) | (simp [cutA_eq, digL]; done)
 refine pE ?_
 refine ag_reg ?_
 refine pA ?_
 refine pC ?_ ?_
 ·exact ⟨trivial, by decide⟩
 refine ar_ent (ent_reg 25 (.r (.int .u64 ((x1) / 65536))) (eqI (by rw [wu64, Int.tdiv_eq_ediv_of_nonneg (by omega)]; omega))) ?_
 refine pE ?_
 refine iR ?_
 refine pA ?_
 refine pC ?_ ?_
 ·unfold inI64; decide
 refine pE ?_
 refine ag_again ?_
 refine sZ ?_
 refine pA ?_
 refine pE ?_
 refine vA ?_
 refine sS ?_
 refine bX ?_
 iterate 2 refine pA ?_
 refine pC ?_ ?_
 ·decide
 refine ar_ent (ent_reg 20 (.r (.int .u64 ((x1 / 65536) % 65536))) (eqI (Int.tmod_eq_emod_of_nonneg (by omega)))) ?_
 refine pC ?_ ?_
 ·unfold inI64; omega
 refine pN ?_ ?_
 ·simp
 refine pP ?_ ?_
 ·refine ⟨⟨?_, ?_, ?_⟩, ⟨?_, ?_⟩, ⟨?_, ?_⟩, ?_⟩ <;> first | trivial | decide | exact ⟨u8r _, u8r _, trivial⟩ | exact ⟨u8r _, trivial⟩ | omega | (simp; done) | (simp [cutA_eq]; done) | (simp [cutA_eq, digL]; done)
 refine pE ?_
 refine ag_reg ?_
 refine pA ?_
 refine pC ?_ ?_
 ·exact ⟨trivial, by decide⟩
 refine ar_ent (ent_reg 25 (.r (.int .u64 ((x1 / 65536) / 65536))) (eqI (by rw [wu64, Int.tdiv_eq_ediv_of_nonneg (by omega)]; omega))) ?_
 refine pE ?_
 refine iR ?_
 refine pA ?_
 refine pC ?_ ?_
 ·unfold inI64; decide
 refine pE ?_
 refine ag_again ?_
 refine sZ ?_
 refine pA ?_
 refine pE ?_
 refine vA ?_
 refine sS ?_
 refine bX ?_
 iterate 2 refine pA ?_
 refine pC ?_ ?_
 ·decide
 refine ar_ent (ent_reg 20 (.r (.int .u64 ((x1 / 65536 / 65536) % 65536))) (eqI (Int.tmod_eq_emod_of_nonneg (by omega)))) ?_
 refine pC ?_ ?_
 ·unfold inI64; omega
 refine pN ?_ ?_
 ·simp
 refine pP ?_ ?_
 ·refine ⟨⟨?_, ?_, ?_⟩, ⟨?_, ?_⟩, ⟨?_, ?_⟩, ?_⟩ <;> first | trivial | decide | exact ⟨u8r _, u8r _, trivial⟩ | exact ⟨u8r _, trivial⟩ | omega | (simp; done) | (simp [cutA_eq]; done) | (simp [cutA_eq, digL]; done)
 refine pE ?_
 refine ag_reg ?_
 refine pA ?_
 refine pC ?_ ?_
 ·exact ⟨trivial, by decide⟩
 refine ar_ent (ent_reg 25 (.r (.int .u64 ((x1 / 65536 / 65536) / 65536))) (eqI (by rw [wu64, Int.tdiv_eq_ediv_of_nonneg (by omega)]; omega))) ?_
 refine pE ?_
 refine iR ?_
 refine pA ?_
 refine pC ?_ ?_
 ·unfold inI64; decide
 refine pE ?_
 refine ag_again ?_
 refine sZ ?_
 refine pA ?_
 refine pE ?_
 refine vA ?_
 refine sS ?_
 refine bX ?_
 iterate 2 refine pA ?_
 refine pC ?_ ?_
 ·decide
 refine ar_ent (ent_reg 20 (.r (.int .u64 ((x1 / 65536 / 65536 / 65536) % 65536))) (eqI (Int.tmod_eq_emod_of_nonneg (by omega)))) ?_
 refine pC ?_ ?_
 ·unfold inI64; omega
 refine pN ?_ ?_
 ·simp
 refine pP ?_ ?_
 ·refine ⟨⟨?_, ?_, ?_⟩, ⟨?_, ?_⟩, ⟨?_, ?_⟩, ?_⟩ <;> first | trivial | decide | exact ⟨u8r _, u8r _, trivial⟩ | exact ⟨u8r _, trivial⟩ | omega | (simp; done) | (simp [cutA_eq]; done) | (simp [cutA_eq, digL]; done)
 refine pE ?_
 refine ag_reg ?_
 refine pA ?_
 refine pC ?_ ?_
 ·exact ⟨trivial, by decide⟩
 refine ar_ent (ent_reg 25 (.r (.int .u64 ((x1 / 65536 / 65536 / 65536) / 65536))) (eqI (by rw [wu64, Int.tdiv_eq_ediv_of_nonneg (by omega)]; omega))) ?_
 refine pE ?_
 refine iR ?_
 refine pA ?_
 refine pC ?_ ?_
 ·unfold inI64; decide
 refine pE ?_
 refine ag_again ?_
 refine sZ ?_
 refine pA ?_
 refine pE ?_
 refine vD ?_
 refine ag_exit rfl ?_
 refine ag_inBlock ?_
 refine ag_ent (ent_weak (g' := [(4, .r (.int .i64 1)), (3, .sl 1 0 8 1), (1, .ptr 0 0)]) (h' := ⟨2, [(0, some (.mixed [.r (.int .u64 x0), .r (.int .u64 x1), .r (.int .u64 x2), .r (.int .u64 x3)])), (1, some (.plain (digL 4 x0 ++ digL 4 x1)))], false⟩) [0, 9] rfl rfl rfl rfl ?_ ?_ rfl) ?_
 ·exact ⟨⟨rfl, rfl⟩, ⟨rfl, rfl⟩, ⟨rfl, rfl⟩, trivial⟩
 ·exact ⟨⟨rfl, rfl, rfl⟩, ⟨rfl, rfl, rfl⟩, trivial⟩
 refine ag_reg ?_
 refine pA ?_
 refine pC ?_ ?_
 ·unfold inI64; decide
 refine pE ?_
 refine ag_again ?_
 refine sZ ?_
 refine pA ?_
 refine pE ?_
 refine vA ?_
 refine sS ?_
 refine bX ?_
 refine pA ?_
 refine pC ?_ ?_
 ·decide
 refine pB ?_
 refine pG ?_
 refine pE ?_
 refine ag_block ?_
 refine ag_unroll ?_
 refine sZ ?_
 refine pA ?_
 refine pE ?_
 refine vA ?_
 refine sS ?_
 refine bX ?_
 iterate 2 refine pA ?_
 refine pC ?_ ?_
 ·decide
 refine ar_ent (ent_reg 20 (.r (.int .u64 ((x2) % 65536))) (eqI (Int.tmod_eq_emod_of_nonneg (by omega)))) ?_
 refine pC ?_ ?_
 ·unfold inI64; omega
 refine pN ?_ ?_
 ·simp
 refine pP ?_ ?_
 ·refine ⟨⟨?_, ?_, ?_⟩, ⟨?_, ?_⟩, ⟨?_, ?_⟩, ?_⟩ <;> first | trivial | decide | exact ⟨u8r _, u8r _, trivial⟩ | exact ⟨u8r _, trivial⟩ | omega | (simp; done) | (simp [cutA_eq]; done) | (simp [cutA_eq, digL]; done)
 refine pE ?_
 refine ag_reg ?_
 refine pA ?_
 refine pC ?_ ?_
 ·exact ⟨trivial, by decide⟩
 refine ar_ent (ent_reg 25 (.r (.int .u64 ((x2) / 65536))) (eqI (by rw [wu64, Int.tdiv_eq_ediv_of_nonneg (by omega)]; omega))) ?_
 refine pE ?_
 refine iR ?_
 refine pA ?_
 refine pC ?_ ?_
 ·unfold inI64; decide
 refine pE ?_
 refine ag_again ?_
 refine sZ ?_
 refine pA ?_
 refine pE ?_
 refine vA ?_
 refine sS ?_
 refine bX ?_
 iterate 2 refine pA ?_
 refine pC ?_ ?_
 ·decide
 refine ar_ent (ent_reg 20 (.r (.int .u64 ((x2 / 65536) % 65536))) (eqI (Int.tmod_eq_emod_of_nonneg (by omega)))) ?_
 refine pC ?_ ?_
 ·unfold inI64; omega
 refine pN ?_ ?_
 ·simp
 refine pP ?_ ?_
 ·refine ⟨⟨?_, ?_, ?_⟩, ⟨?_, ?_⟩, ⟨?_, ?_⟩, ?_⟩ <;> first | trivial | decide | exact ⟨u8r _, u8r _, trivial⟩ | exact ⟨u8r _, trivial⟩ | omega | (simp; done) | (simp [cutA_eq]; done) | (simp [cutA_eq, digL]; done)
 refine pE ?_
 refine ag_reg ?_
 refine pA ?_
 refine pC ?_ ?_
 ·exact ⟨trivial, by decide⟩
 refine ar_ent (ent_reg 25 (.r (.int .u64 ((x2 / 65536) / 65536))) (eqI (by rw [wu64, Int.tdiv_eq_ediv_of_nonneg (by omega)]; omega))) ?_
 refine pE ?_
 refine iR ?_
 refine pA ?_
 refine pC ?_ ?_
 ·unfold inI64; decide
 refine pE ?_
 refine ag_again ?_
 refine sZ ?_
 refine pA ?_
 refine pE ?_
 refine vA ?_
 refine sS ?_
 refine bX ?_
 iterate 2 refine pA ?_
 refine pC ?_ ?_
 ·decide
 refine ar_ent (ent_reg 20 (.r (.int .u64 ((x2 / 65536 / 65536) % 65536))) (eqI (Int.tmod_eq_emod_of_nonneg (by omega)))) ?_
 refine pC ?_ ?_
 ·unfold inI64; omega
 refine pN ?_ ?_
 ·simp
 refine pP ?_ ?_
 ·refine ⟨⟨?_, ?_, ?_⟩, ⟨?_, ?_⟩, ⟨?_, ?_⟩, ?_⟩ <;> first | trivial | decide | exact ⟨u8r _, u8r _, trivial⟩ | exact ⟨u8r _, trivial⟩ | omega | (simp; done) | (simp [cutA_eq]; done) | (simp [cutA_eq, digL]; done)
 refine pE ?_
 refine ag_reg ?_
 refine pA ?_
 refine pC ?_ ?_
 ·exact ⟨trivial, by decide⟩
 refine ar_ent (ent_reg 25 (.r (.int .u64 ((x2 / 65536 / 65536) / 65536))) (eqI (by rw [wu64, Int.tdiv_eq_ediv_of_nonneg (by omega)]; omega))) ?_
 refine pE ?_
 refine iR ?_
 refine pA ?_
 refine pC ?_ ?_
 ·unfold inI64; decide
 refine pE ?_
 refine ag_again ?_
 refine sZ ?_
 refine pA ?_
 refine pE ?_
 refine vA ?_
 refine sS ?_
 refine bX ?_
 iterate 2 refine pA ?_
 refine pC ?_ ?_
 ·decide
 refine ar_ent (ent_reg 20 (.r (.int .u64 ((x2 / 65536 / 65536 / 65536) % 65536))) (eqI (Int.tmod_eq_emod_of_nonneg (by omega)))) ?_
 refine pC ?_ ?_
 ·unfold inI64; omega
 refine pN ?_ ?_
 ·simp
 refine pP ?_ ?_
 ·refine ⟨⟨?_, ?_, ?_⟩, ⟨?_, ?_⟩, ⟨?_, ?_⟩, ?_⟩ <;> first | trivial | decide | exact ⟨u8r _, u8r _, trivial⟩ | exact ⟨u8r _, trivial⟩ | omega | (simp; done) | (simp [cutA_eq]; done) | (simp [cutA_eq, digL]; done)
 refine pE ?_
 refine ag_reg ?_
 refine pA ?_
 refine pC ?_ ?_
 ·exact ⟨trivial, by decide⟩
 refine ar_ent (ent_reg 25 (.r (.int .u64 ((x2 / 65536 / 65536 / 65536) / 65536))) (eqI (by rw [wu64, Int.tdiv_eq_ediv_of_nonneg (by omega)]; omega))) ?_
 refine pE ?_
 refine iR ?_
 refine pA ?_
 refine pC ?_ ?_
 ·unfold inI64; decide
 refine pE ?_
 refine ag_again ?_
 refine sZ ?_
 refine pA ?_
 refine pE ?_
 refine vD ?_
 refine ag_exit rfl ?_
 refine ag_inBlock ?_
 refine ag_ent (ent_weak (g' := [(4, .r (.int .i64 2)), (3, .sl 1 0 12 1), (1, .ptr 0 0)]) (h' := ⟨2, [(0, some (.mixed [.r (.int .u64 x0), .r (.int .u64 x1), .r (.int .u64 x2), .r (.int .u64 x3)])), (1, some (.plain (digL 4 x0 ++ digL 4 x1 ++ digL 4 x2)))], false⟩) [0, 9] rfl rfl rfl rfl ?_ ?_ rfl) ?_
 ·exact ⟨⟨rfl, rfl⟩, ⟨rfl, rfl⟩, ⟨rfl, rfl⟩, trivial⟩
 ·exact ⟨⟨rfl, rfl, rfl⟩, ⟨rfl, rfl, rfl⟩, trivial⟩
 refine ag_reg ?_
 refine pA ?_
 refine pC ?_ ?_
 ·unfold inI64; decide
 refine pE ?_
 refine ag_again ?_
 refine sZ ?_
 refine pA ?_
 refine pE ?_
 refine vA ?_
 refine sS ?_
 refine bX ?_
 refine pA ?_
 refine pC ?_ ?_
 ·decide
 refine pB ?_
 refine pG ?_
 refine pE ?_
 refine ag_block ?_
 refine ag_unroll ?_
 refine sZ ?_
 refine pA ?_
 refine pE ?_
 refine vA ?_
 refine sS ?_
 refine bX ?_
 iterate 2 refine pA ?_
 refine pC ?_ ?_
 ·decide
 refine ar_ent (ent_reg 20 (.r (.int .u64 ((x3) % 65536))) (eqI (Int.tmod_eq_emod_of_nonneg (by omega)))) ?_
 refine pC ?_ ?_
 ·unfold inI64; omega
 refine pN ?_ ?_
 ·simp
 refine pP ?_ ?_
 ·refine ⟨⟨?_, ?_, ?_⟩, ⟨?_, ?_⟩, ⟨?_, ?_⟩, ?_⟩ <;> first | trivial | decide | exact ⟨u8r _, u8r _, trivial⟩ | exact ⟨u8r _, trivial⟩ | omega | (simp; done) | (simp [cutA_eq]; done) | (simp [cutA_eq, digL]; done)
 refine pE ?_
 refine ag_reg ?_
 refine pA ?_
 refine pC ?_ ?_
 ·exact ⟨trivial, by decide⟩
 refine ar_ent (ent_reg 25 (.r (.int .u64 ((x3) / 65536))) (eqI (by rw [wu64, Int.tdiv_eq_ediv_of_nonneg (by omega)]; omega))) ?_
 refine pE ?_
 refine iR ?_
 refine pA ?_
 refine pC ?_ ?_
 ·unfold inI64; decide
 refine pE ?_
 refine ag_again ?_
 refine sZ ?_
 refine pA ?_
 refine pE ?_
 refine vA ?_
 refine sS ?_
 refine bX ?_
 iterate 2 refine pA ?_
 refine pC ?_ ?_
 ·decide
 refine ar_ent (ent_reg 20 (.r (.int .u64 ((x3 / 65536) % 65536))) (eqI (Int.tmod_eq_emod_of_nonneg (by omega)))) ?_
 refine pC ?_ ?_
 ·unfold inI64; omega
 refine pN ?_ ?_
 ·simp
 refine pP ?_ ?_
 ·refine ⟨⟨?_, ?_, ?_⟩, ⟨?_, ?_⟩, ⟨?_, ?_⟩, ?_⟩ <;> first | trivial | decide | exact ⟨u8r _, u8r _, trivial⟩ | exact ⟨u8r _, trivial⟩ | omega | (simp; done) | (simp [cutA_eq]; done) | (simp [cutA_eq, digL]; done)
 refine pE ?_
 refine ag_reg ?_
 refine pA ?_
 refine pC ?_ ?_
 ·exact ⟨trivial, by decide⟩
 refine ar_ent (ent_reg 25 (.r (.int .u64 ((x3 / 65536) / 65536))) (eqI (by rw [wu64, Int.tdiv_eq_ediv_of_nonneg (by omega)]; omega))) ?_
 refine pE ?_
 refine iR ?_
 refine pA ?_
 refine pC ?_ ?_
 ·unfold inI64; decide
 refine pE ?_
 refine ag_again ?_
 refine sZ ?_
 refine pA ?_
 refine pE ?_
 refine vA ?_
 refine sS ?_
 refine bX ?_
 iterate 2 refine pA ?_
 refine pC ?_ ?_
 ·decide
 refine ar_ent (ent_reg 20 (.r (.int .u64 ((x3 / 65536 / 65536) % 65536))) (eqI (Int.tmod_eq_emod_of_nonneg (by omega)))) ?_
 refine pC ?_ ?_
 ·unfold inI64; omega
 refine pN ?_ ?_
 ·simp
 refine pP ?_ ?_
 ·refine ⟨⟨?_, ?_, ?_⟩, ⟨?_, ?_⟩, ⟨?_, ?_⟩, ?_⟩ <;> first | trivial | decide | exact ⟨u8r _, u8r _, trivial⟩ | exact ⟨u8r _, trivial⟩ | omega | (simp; done) | (simp [cutA_eq]; done) | (simp [cutA_eq, digL]; done)
 refine pE ?_
 refine ag_reg ?_
 refine pA ?_
 refine pC ?_ ?_
 ·exact ⟨trivial, by decide⟩
 refine ar_ent (ent_reg 25 (.r (.int .u64 ((x3 / 65536 / 65536) / 65536))) (eqI (by rw [wu64, Int.tdiv_eq_ediv_of_nonneg (by omega)]; omega))) ?_
 refine pE ?_
 refine iR ?_
 refine pA ?_
 refine pC ?_ ?_
 ·unfold inI64; decide
 refine pE ?_
 refine ag_again ?_
 refine sZ ?_
 refine pA ?_
 refine pE ?_
 refine vA ?_
 refine sS ?_
 refine bX ?_
 iterate 2 refine pA ?_
 refine pC ?_ ?_
 ·decide
 refine ar_ent (ent_reg 20 (.r (.int .u64 ((x3 / 65536 / 65536 / 65536) % 65536))) (eqI (Int.tmod_eq_emod_of_nonneg (by omega)))) ?_
 refine pC ?_ ?_
 ·unfold inI64; omega
 refine pN ?_ ?_
 ·simp
 refine pP ?_ ?_
 ·refine ⟨⟨?_, ?_, ?_⟩, ⟨?_, ?_⟩, ⟨?_, ?_⟩, ?_⟩ <;> first | trivial | decide | exact ⟨u8r _, u8r _, trivial⟩ | exact ⟨u8r _, trivial⟩ | omega | (simp; done) | (simp [cutA_eq]; done) | (simp [cutA_eq, digL]; done)
 refine pE ?_
 refine ag_reg ?_
 refine pA ?_
 refine pC ?_ ?_
 ·exact ⟨trivial, by decide⟩
 refine ar_ent (ent_reg 25 (.r (.int .u64 ((x3 / 65536 / 65536 / 65536) / 65536))) (eqI (by rw [wu64, Int.tdiv_eq_ediv_of_nonneg (by omega)]; omega))) ?_
 refine pE ?_
 refine iR ?_
 refine pA ?_
 refine pC ?_ ?_
 ·unfold inI64; decide
 refine pE ?_
 refine ag_again ?_
 refine sZ ?_
 refine pA ?_
 refine pE ?_
 refine vD ?_
 refine ag_exit rfl ?_
 refine ag_inBlock ?_
 refine ag_ent (ent_weak (g' := [(4, .r (.int .i64 3)), (3, .sl 1 0 16 1), (1, .ptr 0 0)]) (h' := ⟨2, [(0, some (.mixed [.r (.int .u64 x0), .r (.int .u64 x1), .r (.int .u64 x2), .r (.int .u64 x3)])), (1, some (.plain (digL 4 x0 ++ digL 4 x1 ++ digL 4 x2 ++ digL 4 x3)))], false⟩) [0, 9] rfl rfl rfl rfl ?_ ?_ rfl) ?_
 ·exact ⟨⟨rfl, rfl⟩, ⟨rfl, rfl⟩, ⟨rfl, rfl⟩, trivial⟩
 ·exact ⟨⟨rfl, rfl, rfl⟩, ⟨rfl, rfl, rfl⟩, trivial⟩
 refine ag_reg ?_
 refine pA ?_
 refine pC ?_ ?_
 ·unfold inI64; decide
 refine pE ?_
 refine ag_again ?_
 refine sZ ?_
 refine pA ?_
 refine pE ?_
 refine vD ?_
 refine ag_exit rfl ?_
 refine zB ?_
 refine pA ?_
 refine pE ?_
 refine ag_ret tOk Tryz.func57 rfl rfl (by simp) ?_
 exact ⟨_, rfl, rfl⟩
def wideM (x0 x1 x2 x3 : Int) : List UInt8 := [UInt8.ofNat (IntKind.u8.wrap ((x3 / 65536 / 65536 / 65536 % 65536).tdiv 256)).toNat, UInt8.ofNat (IntKind.u8.wrap ((x3 / 65536 / 65536 / 65536 % 65536).tmod 256)).toNat, UInt8.ofNat (IntKind.u8.wrap ((x3 / 65536 / 65536 % 65536).tdiv 256)).toNat, UInt8.ofNat (IntKind.u8.wrap ((x3 / 65536 / 65536 % 65536).tmod 256)).toNat, UInt8.ofNat (IntKind.u8.wrap ((x3 / 65536 % 65536).tdiv 256)).toNat, UInt8.ofNat (IntKind.u8.wrap ((x3 / 65536 % 65536).tmod 256)).toNat, UInt8.ofNat (IntKind.u8.wrap ((x3 % 65536).tdiv 256)).toNat, UInt8.ofNat (IntKind.u8.wrap ((x3 % 65536).tmod 256)).toNat, UInt8.ofNat (IntKind.u8.wrap ((x2 / 65536 / 65536 / 65536 % 65536).tdiv 256)).toNat, UInt8.ofNat (IntKind.u8.wrap ((x2 / 65536 / 65536 / 65536 % 65536).tmod 256)).toNat, UInt8.ofNat (IntKind.u8.wrap ((x2 / 65536 / 65536 % 65536).tdiv 256)).toNat, UInt8.ofNat (IntKind.u8.wrap ((x2 / 65536 / 65536 % 65536).tmod 256)).toNat, UInt8.ofNat (IntKind.u8.wrap ((x2 / 65536 % 65536).tdiv 256)).toNat, UInt8.ofNat (IntKind.u8.wrap ((x2 / 65536 % 65536).tmod 256)).toNat, UInt8.ofNat (IntKind.u8.wrap ((x2 % 65536).tdiv 256)).toNat, UInt8.ofNat (IntKind.u8.wrap ((x2 % 65536).tmod 256)).toNat, UInt8.ofNat (IntKind.u8.wrap ((x1 / 65536 / 65536 / 65536 % 65536).tdiv 256)).toNat, UInt8.ofNat (IntKind.u8.wrap ((x1 / 65536 / 65536 / 65536 % 65536).tmod 256)).toNat, UInt8.ofNat (IntKind.u8.wrap ((x1 / 65536 / 65536 % 65536).tdiv 256)).toNat, UInt8.ofNat (IntKind.u8.wrap ((x1 / 65536 / 65536 % 65536).tmod 256)).toNat, UInt8.ofNat (IntKind.u8.wrap ((x1 / 65536 % 65536).tdiv 256)).toNat, UInt8.ofNat (IntKind.u8.wrap ((x1 / 65536 % 65536).tmod 256)).toNat, UInt8.ofNat (IntKind.u8.wrap ((x1 % 65536).tdiv 256)).toNat, UInt8.ofNat (IntKind.u8.wrap ((x1 % 65536).tmod 256)).toNat, UInt8.ofNat (IntKind.u8.wrap ((x0 / 65536 / 65536 / 65536 % 65536).tdiv 256)).toNat, UInt8.ofNat (IntKind.u8.wrap ((x0 / 65536 / 65536 / 65536 % 65536).tmod 256)).toNat, UInt8.ofNat (IntKind.u8.wrap ((x0 / 65536 / 65536 % 65536).tdiv 256)).toNat, UInt8.ofNat (IntKind.u8.wrap ((x0 / 65536 / 65536 % 65536).tmod 256)).toNat, UInt8.ofNat (IntKind.u8.wrap ((x0 / 65536 % 65536).tdiv 256)).toNat, UInt8.ofNat (IntKind.u8.wrap ((x0 / 65536 % 65536).tmod 256)).toNat, UInt8.ofNat (IntKind.u8.wrap ((x0 % 65536).tdiv 256)).toNat, UInt8.ofNat (IntKind.u8.wrap ((x0 % 65536).tmod 256)).toNat]
theorem wideM_eq {x0 x1 x2 x3 : Int} (h0 : U64 x0) (h1 : U64 x1) (h2 : U64 x2) (h3 : U64 x3) : wideL x0 x1 x2 x3 = wideM x0 x1 x2 x3 := by
 rw [wideL, numL8_dig x3 h3.1, numL8_dig x2 h2.1, numL8_dig x1 h1.1, numL8_dig x0 h0.1]
 rfl
theorem w_rWide (x0 x1 x2 x3 : Int) (h0 : U64 x0) (h1 : U64 x1) (h2 : U64 x2) (h3 : U64 x3) : Own Tryz.prog 63 [wA x0 x1 x2 x3] 32 1 (.bytes (wideL x0 x1 x2 x3)) := by
 refine spec_of_go (N := 28) Tryz.func63 rfl (by decide) rfl rfl ?_
 refine zB ?_
 refine pM ?_
 refine pG ?_
 refine pB ?_
 refine ar_pur (own_ro_plain (w_Digits x0 x1 x2 x3 h0 h1 h2 h3) rfl) rfl rfl rfl rfl rfl rfl rfl ?_
 refine pG ?_
 refine pF ?_
 refine zB ?_
 refine pE ?_
 refine ag_block ?_
 refine ag_unroll ?_
 refine sZ ?_
 refine pA ?_
 refine pE ?_
 refine vA ?_
 refine sS ?_
 refine ag_block ?_
 apply ag_draw2 [25, 26] (by kernel_rfl) (by kernel_rfl)
 iterate 3 refine qA ?_
 refine qB ?_ ?_
 ·exact ⟨by decide, by simp [digW, digL]⟩
 refine qL ?_
 refine qB ?_ ?_
 ·refine ⟨?_, by decide⟩
  show inI64 _
  rw [Int.tdiv_eq_ediv_of_nonneg (by omega)]; unfold inI64; omega
 iterate 3 refine qA ?_
 refine qB ?_ ?_
 ·exact ⟨by decide, by simp [digW, digL]⟩
 refine qL ?_
 refine qB ?_ ?_
 ·decide
 refine qA ?_
 refine' aq_new20 tOk rfl rfl rfl rfl rfl ?_ ?_
 rotate_left 1
 ·simp
 refine aq_app21 tOk rfl rfl rfl rfl rfl ?_ ?_
 ·refine ⟨⟨?_, ?_, ?_⟩, ⟨?_, ?_⟩, ⟨?_, ?_⟩, ?_⟩ <;> first | trivial | decide | exact ⟨u8r _, u8r _, trivial⟩ | exact ⟨u8r _, trivial⟩ | omega | (simp; done) | (simp [cutA_eq]; done) | (simp [cutA_eq, wideM]; done)
 refine qE ?_
 refine ag_inBlock ?_
 refine ag_ent (ent_weak (g' := [(5, .r (.int .i64 15)), (4, .sl 0 0 2 1), (3, .r (.ro 16 (digW x0 x1 x2 x3)))]) (h' := ⟨1, [(0, some (.bytes ((wideM x0 x1 x2 x3).take 2)))], false⟩) [2] rfl rfl rfl rfl ?_ ?_ rfl) ?_
 ·exact ⟨⟨rfl, rfl⟩, ⟨rfl, rfl⟩, ⟨rfl, rfl⟩, trivial⟩
 ·exact ⟨⟨rfl, rfl, rfl⟩, trivial⟩
 refine ag_reg ?_
 refine pA ?_
 refine pC ?_ ?_
 ·unfold inI64; decide
 refine pE ?_
 refine ag_again ?_
 refine sZ ?_
 refine pA ?_
 refine pE ?_
 refine vA ?_
 refine sS ?_
 refine ag_block ?_
 apply ag_draw2 [25, 26] (by kernel_rfl) (by kernel_rfl)
 iterate 3 refine qA ?_
 refine qB ?_ ?_
 ·exact ⟨by decide, by simp [digW, digL]⟩
 refine qL ?_
 refine qB ?_ ?_
 ·refine ⟨?_, by decide⟩
  show inI64 _
  rw [Int.tdiv_eq_ediv_of_nonneg (by omega)]; unfold inI64; omega
 iterate 3 refine qA ?_
 refine qB ?_ ?_
 ·exact ⟨by decide, by simp [digW, digL]⟩
 refine qL ?_
 refine qB ?_ ?_
 ·decide
 refine qA ?_
 refine' aq_new20 tOk rfl rfl rfl rfl rfl ?_ ?_
 rotate_left 1
 ·simp
 refine aq_app21 tOk rfl rfl rfl rfl rfl ?_ ?_
 ·refine ⟨⟨?_, ?_, ?_⟩, ⟨?_, ?_⟩, ⟨?_, ?_⟩, ?_⟩ <;> first | trivial | decide | exact ⟨u8r _, u8r _, trivial⟩ | exact ⟨u8r _, trivial⟩ | omega | (simp; done) | (simp [cutA_eq]; done) | (simp [cutA_eq, wideM]; done)
 refine qE ?_
 refine ag_inBlock ?_
 refine ag_ent (ent_weak (g' := [(5, .r (.int .i64 14)), (4, .sl 0 0 4 1), (3, .r (.ro 16 (digW x0 x1 x2 x3)))]) (h' := ⟨1, [(0, some (.bytes ((wideM x0 x1 x2 x3).take 4)))], false⟩) [2] rfl rfl rfl rfl ?_ ?_ rfl) ?_
 ·exact ⟨⟨rfl, rfl⟩, ⟨rfl, rfl⟩, ⟨rfl, rfl⟩, trivial⟩
 ·exact ⟨⟨rfl, rfl, rfl⟩, trivial⟩
 refine ag_reg ?_
 refine pA ?_
 refine pC ?_ ?_
 ·unfold inI64; decide
 refine pE ?_
 refine ag_again ?_
 refine sZ ?_
 refine pA ?_
 refine pE ?_
 refine vA ?_
 refine sS ?_
 refine ag_block ?_
 apply ag_draw2 [25, 26] (by kernel_rfl) (by kernel_rfl)
 iterate 3 refine qA ?_
 refine qB ?_ ?_
 ·exact ⟨by decide, by simp [digW, digL]⟩
 refine qL ?_
 refine qB ?_ ?_
 ·refine ⟨?_, by decide⟩
  show inI64 _
  rw [Int.tdiv_eq_ediv_of_nonneg (by omega)]; unfold inI64; omega
 iterate 3 refine qA ?_
 refine qB ?_ ?_
 ·exact ⟨by decide, by simp [digW, digL]⟩
 refine qL ?_
 refine qB ?_ ?_
 ·decide
 refine qA ?_
 refine' aq_new20 tOk rfl rfl rfl rfl rfl ?_ ?_
 rotate_left 1
 ·simp
 refine aq_app21 tOk rfl rfl rfl rfl rfl ?_ ?_
 ·refine ⟨⟨?_, ?_, ?_⟩, ⟨?_, ?_⟩, ⟨?_, ?_⟩, ?_⟩ <;> first | trivial | decide | exact ⟨u8r _, u8r _, trivial⟩ | exact ⟨u8r _, trivial⟩ | omega | (simp; done) | (simp [cutA_eq]; done) | (simp [cutA_eq, wideM]; done)
 refine qE ?_
 refine ag_inBlock ?_
 refine ag_ent (ent_weak (g' := [(5, .r (.int .i64 13)), (4, .sl 0 0 6 1), (3, .r (.ro 16 (digW x0 x1 x2 x3)))]) (h' := ⟨1, [(0, some (.bytes ((wideM x0 x1 x2 x3).take 6)))], false⟩) [2] rfl rfl rfl rfl ?_ ?_ rfl) ?_
 ·exact ⟨⟨rfl, rfl⟩, ⟨rfl, rfl⟩, ⟨rfl, rfl⟩, trivial⟩
 ·exact ⟨⟨rfl, rfl, rfl⟩, trivial⟩
 refine ag_reg ?_
 refine pA ?_
 refine pC ?_ ?_
 ·unfold inI64; decide
 refine pE ?_
 refine ag_again ?_
 refine sZ ?_
 refine pA ?_
 refine pE ?_
 refine vA ?_
 refine sS ?_
 refine ag_block ?_
 apply ag_draw2 [25, 26] (by kernel_rfl) (by kernel_rfl)
 iterate 3 refine qA ?_
 refine qB ?_ ?_
 ·exact ⟨by decide, by simp [digW, digL]⟩
 refine qL ?_
 refine qB ?_ ?_
 ·refine ⟨?_, by decide⟩
  show inI64 _
  rw [Int.tdiv_eq_ediv_of_nonneg (by omega)]; unfold inI64; omega
 iterate 3 refine qA ?_
 refine qB ?_ ?_
 ·exact ⟨by decide, by simp [digW, digL]⟩
 refine qL ?_
 refine qB ?_ ?_
 ·decide
 refine qA ?_
 refine' aq_new20 tOk rfl rfl rfl rfl rfl ?_ ?_
 rotate_left 1
 ·simp
 refine aq_app21 tOk rfl rfl rfl rfl rfl ?_ ?_
 ·refine ⟨⟨?_, ?_, ?_⟩, ⟨?_, ?_⟩, ⟨?_, ?_⟩, ?_⟩ <;> first | trivial | decide | exact ⟨u8r _, u8r _, trivial⟩ | exact ⟨u8r _, trivial⟩ | omega | (simp; done) | (simp [cutA_eq]; done) | (simp [cutA_eq, wideM]; done)
 refine qE ?_
 refine ag_inBlock ?_
 refine ag_ent (ent_weak (g' := [(5, .r (.int .i64 12)), (4, .sl 0 0 8 1), (3, .r (.ro 16 (digW x0 x1 x2 x3)))]) (h' := ⟨1, [(0, some (.bytes ((wideM x0 x1 x2 x3).take 8)))], false⟩) [2] rfl rfl rfl rfl ?_ ?_ rfl) ?_
 ·exact ⟨⟨rfl, rfl⟩, ⟨rfl, rfl⟩, ⟨rfl, rfl⟩, trivial⟩
 ·exact ⟨⟨rfl, rfl, rfl⟩, trivial⟩
 refine ag_reg ?_
 refine pA ?_
 refine pC ?_ ?_
 ·unfold inI64; decide
 refine pE ?_
 refine ag_again ?_
 refine sZ ?_
 refine pA ?_
 refine pE ?_
 refine vA ?_
 refine sS ?_
 refine ag_block ?_
 apply ag_draw2 [25, 26] (by kernel_rfl) (by kernel_rfl)
 iterate 3 refine qA ?_
 refine qB ?_ ?_
 ·exact ⟨by decide, by simp [digW, digL]⟩
 refine qL ?_
 refine qB ?_ ?_
 ·refine ⟨?_, by decide⟩
  show inI64 _
  rw [Int.tdiv_eq_ediv_of_nonneg (by omega)]; unfold inI64; omega
 iterate 3 refine qA ?_
 refine qB ?_ ?_
 ·exact ⟨by decide, by simp [digW, digL]⟩
 refine qL ?_
 refine qB ?_ ?_
 ·decide
 refine qA ?_
 refine' aq_new20 tOk rfl rfl rfl rfl rfl ?_ ?_
 rotate_left 1
 ·simp
 refine aq_app21 tOk rfl rfl rfl rfl rfl ?_ ?_
 ·refine ⟨⟨?_, ?_, ?_⟩, ⟨?_, ?_⟩, ⟨?_, ?_⟩, ?_⟩ <;> first | trivial | decide | exact ⟨u8r _, u8r _, trivial⟩ | exact ⟨u8r _, trivial⟩ | omega | (simp; done) | (simp [cutA_eq]; done) | (simp [cutA_eq, wideM]; done)
 refine qE ?_
 refine ag_inBlock ?_
 refine ag_ent (ent_weak (g' := [(5, .r (.int .i64 11)), (4, .sl 0 0 10 1), (3, .r (.ro 16 (digW x0 x1 x2 x3)))]) (h' := ⟨1, [(0, some (.bytes ((wideM x0 x1 x2 x3).take 10)))], false⟩) [2] rfl rfl rfl rfl ?_ ?_ rfl) ?_
 ·exact ⟨⟨rfl, rfl⟩, ⟨rfl, rfl⟩, ⟨rfl, rfl⟩, trivial⟩
 ·exact ⟨⟨rfl, rfl, rfl⟩, trivial⟩
 refine ag_reg ?_
 refine pA ?_
 refine pC ?_ ?_
 ·unfold inI64; decide
 refine pE ?_
 refine ag_again ?_
 refine sZ ?_
 refine pA ?_
 refine pE ?_
 refine vA ?_
 refine sS ?_
 refine ag_block ?_
 apply ag_draw2 [25, 26] (by kernel_rfl) (by kernel_rfl)
 iterate 3 refine qA ?_
 refine qB ?_ ?_
 ·exact ⟨by decide, by simp [digW, digL]⟩
 refine qL ?_
 refine qB ?_ ?_
 ·refine ⟨?_, by decide⟩
  show inI64 _
  rw [Int.tdiv_eq_ediv_of_nonneg (by omega)]; unfold inI64; omega
 iterate 3 refine qA ?_
 refine qB ?_ ?_
 ·exact ⟨by decide, by simp [digW, digL]⟩
 refine qL ?_
 refine qB ?_ ?_
 ·decide
 refine qA ?_
 refine' aq_new20 tOk rfl rfl rfl rfl rfl ?_ ?_
 rotate_left 1
 ·simp
 refine aq_app21 tOk rfl rfl rfl rfl rfl ?_ ?_
 ·refine ⟨⟨?_, ?_, ?_⟩, ⟨?_, ?_⟩, ⟨?_, ?_⟩, ?_⟩ <;> first | trivial | decide | exact ⟨u8r _, u8r _, trivial⟩ | exact ⟨u8r _, trivial⟩ | omega | (simp; done) | (simp [cutA_eq]; done) | (simp [cutA_eq, wideM]; done)
 refine qE ?_
 refine ag_inBlock ?_
 refine ag_ent (ent_weak (g' := [(5, .r (.int .i64 10)), (4, .sl 0 0 12 1), (3, .r (.ro 16 (digW x0 x1 x2 x3)))]) (h' := ⟨1, [(0, some (.bytes ((wideM x0 x1 x2 x3).take 12)))], false⟩) [2] rfl rfl rfl rfl ?_ ?_ rfl) ?_
 ·exact ⟨⟨rfl, rfl⟩, ⟨rfl, rfl⟩, ⟨rfl, rfl⟩, trivial⟩
 ·exact ⟨⟨rfl, rfl, rfl⟩, trivial⟩
 refine ag_reg ?_
 refine pA ?_
 refine pC ?_ ?_
 ·unfold inI64; decide
 refine pE ?_
 refine ag_again ?_
 refine sZ ?_
 refine pA ?_
 refine pE ?_
 refine vA ?_
 refine sS ?_
 refine ag_block ?_
 apply ag_draw2 [25, 26] (by kernel_rfl) (by kernel_rfl)
 iterate 3 refine qA ?_
 refine qB ?_ ?_
 ·exact ⟨by decide, by simp [digW, digL]⟩
 refine qL ?_
 refine qB ?_ ?_
 ·refine ⟨?_, by decide⟩
  show inI64 _
  rw [Int.tdiv_eq_ediv_of_nonneg (by omega)]; unfold inI64; omega
 iterate 3 refine qA ?_
 refine qB ?_ ?_
 ·exact ⟨by decide, by simp [digW, digL]⟩
 refine qL ?_
 refine qB ?_ ?_
 ·decide
 refine qA ?_
 refine' aq_new20 tOk rfl rfl rfl rfl rfl ?_ ?_
 rotate_left 1
 ·simp
 refine aq_app21 tOk rfl rfl rfl rfl rfl ?_ ?_
 ·refine ⟨⟨?_, ?_, ?_⟩, ⟨?_, ?_⟩, ⟨?_, ?_⟩, ?_⟩ <;> first | trivial | decide | exact ⟨u8r _, u8r _, trivial⟩ | exact ⟨u8r _, trivial⟩ | omega | (simp; done) | (simp [cutA_eq]; done) | (simp [cutA_eq, wideM]; done)
 refine qE ?_
 refine ag_inBlock ?_
 refine ag_ent (ent_weak (g' := [(5, .r (.int .i64 9)), (4, .sl 0 0 14 1), (3, .r (.ro 16 (digW x0 x1 x2 x3)))]) (h' := ⟨1, [(0, some (.bytes ((wideM x0 x1 x2 x3).take 14)))], false⟩) [2] rfl rfl rfl rfl ?_ ?_ rfl) ?_
 ·exact ⟨⟨rfl, rfl⟩, ⟨rfl, rfl⟩, ⟨rfl, rfl⟩, trivial⟩
 ·exact ⟨⟨rfl, rfl, rfl⟩, trivial⟩
 refine ag_reg ?_
 refine pA ?_
 refine pC ?_ ?_
 ·unfold inI64; decide
 refine pE ?_
 refine ag_again ?_
 refine sZ ?_
 refine pA ?_
 refine pE ?_
 refine vA ?_
 refine sS ?_
 refine ag_block ?_
 apply ag_draw2 [25, 26] (by kernel_rfl) (by kernel_rfl)
 iterate 3 refine qA ?_
 refine qB ?_ ?_
 ·exact ⟨by decide, by simp [digW, digL]⟩
 refine qL ?_
 refine qB ?_ ?_
 ·refine ⟨?_, by decide⟩
  show inI64 _
  rw [Int.tdiv_eq_ediv_of_nonneg (by omega)]; unfold inI64; omega
 iterate 3 refine qA ?_
 refine qB ?_ ?_
 ·exact ⟨by decide, by simp [digW, digL]⟩
 refine qL ?_
 refine qB ?_ ?_
 ·decide
 refine qA ?_
 refine' aq_new20 tOk rfl rfl rfl rfl rfl ?_ ?_
 rotate_left 1
 ·simp
 refine aq_app21 tOk rfl rfl rfl rfl rfl ?_ ?_
 ·refine ⟨⟨?_, ?_, ?_⟩, ⟨?_, ?_⟩, ⟨?_, ?_⟩, ?_⟩ <;> first | trivial | decide | exact ⟨u8r _, u8r _, trivial⟩ | exact ⟨u8r _, trivial⟩ | omega | (simp; done) | (simp [cutA_eq]; done) | (simp [cutA_eq, wideM]; done)
 refine qE ?_
 refine ag_inBlock ?_
 refine ag_ent (ent_weak (g' := [(5, .r (.int .i64 8)), (4, .sl 0 0 16 1), (3, .r (.ro 16 (digW x0 x1 x2 x3)))]) (h' := ⟨1, [(0, some (.bytes ((wideM x0 x1 x2 x3).take 16)))], false⟩) [2] rfl rfl rfl rfl ?_ ?_ rfl) ?_
 ·exact ⟨⟨rfl, rfl⟩, ⟨rfl, rfl⟩, ⟨rfl, rfl⟩, trivial⟩
 ·exact ⟨⟨rfl, rfl, rfl⟩, trivial⟩
 refine ag_reg ?_
 refine pA ?_
 refine pC ?_ ?_
 ·unfold inI64; decide
 refine pE ?_
 refine ag_again ?_
 refine sZ ?_
 refine pA ?_
 refine pE ?_
 refine vA ?_
 refine sS ?_
 refine ag_block ?_
 apply ag_draw2 [25, 26] (by kernel_rfl) (by kernel_rfl)
 iterate 3 refine qA ?_
 refine qB ?_ ?_
 ·exact ⟨by decide, by simp [digW, digL]⟩
 refine qL ?_
 refine qB ?_ ?_
 ·refine ⟨?_, by decide⟩
  show inI64 _
  rw [Int.tdiv_eq_ediv_of_nonneg (by omega)]; unfold inI64; omega
 iterate 3 refine qA ?_
 refine qB ?_ ?_
 ·exact ⟨by decide, by simp [digW, digL]⟩
 refine qL ?_
 refine qB ?_ ?_
 ·decide
 refine qA ?_
 refine' aq_new20 tOk rfl rfl rfl rfl rfl ?_ ?_
 rotate_left 1
 ·simp
 refine aq_app21 tOk rfl rfl rfl rfl rfl ?_ ?_
 ·refine ⟨⟨?_, ?_, ?_⟩, ⟨?_, ?_⟩, ⟨?_, ?_⟩, ?_⟩ <;> first | trivial | decide | exact ⟨u8r _, u8r _, trivial⟩ | exact ⟨u8r _, trivial⟩ | omega | (simp; done) | (simp [cutA_eq]; done) | (simp [cutA_eq, wideM]; done)
 refine qE ?_
 refine ag_inBlock ?_
 refine ag_ent (ent_weak (g' := [(5, .r (.int .i64 7)), (4, .sl 0 0 18 1), (3, .r (.ro 16 (digW x0 x1 x2 x3)))]) (h' := ⟨1, [(0, some (.bytes ((wideM x0 x1 x2 x3).take 18)))], false⟩) [2] rfl rfl rfl rfl ?_ ?_ rfl) ?_
 ·exact ⟨⟨rfl, rfl⟩, ⟨rfl, rfl⟩, ⟨rfl, rfl⟩, trivial⟩
 ·exact ⟨⟨rfl, rfl, rfl⟩, trivial⟩
 refine ag_reg ?_
 refine pA ?_
 refine pC ?_ ?_
 ·unfold inI64; decide
 refine pE ?_
 refine ag_again ?_
 refine sZ ?_
 refine pA ?_
 refine pE ?_
 refine vA ?_
 refine sS ?_
 refine ag_block ?_
 apply ag_draw2 [25, 26] (by kernel_rfl) (by kernel_rfl)
 iterate 3 refine qA ?_
 refine qB ?_ ?_
 ·exact ⟨by decide, by simp [digW, digL]⟩
 refine qL ?_
 refine qB ?_ ?_
 ·refine ⟨?_, by decide⟩
  show inI64 _
  rw [Int.tdiv_eq_ediv_of_nonneg (by omega)]; unfold inI64; omega
 iterate 3 refine qA ?_
 refine qB ?_ ?_
 ·exact ⟨by decide, by simp [digW, digL]⟩
 refine qL ?_
 refine qB ?_ ?_
 ·decide
 refine qA ?_
 refine' aq_new20 tOk rfl rfl rfl rfl rfl ?_ ?_
 rotate_left 1
 ·simp
 refine aq_app21 tOk rfl rfl rfl rfl rfl ?_ ?_
 ·refine ⟨⟨?_, ?_, ?_⟩, ⟨?_, ?_⟩, ⟨?_, ?_⟩, ?_⟩ <;> first | trivial | decide | exact ⟨u8r _, u8r _, trivial⟩ | exact ⟨u8r _, trivial⟩ | omega | (simp; done) | (simp [cutA_eq]; done) | (simp [cutA_eq, wideM]; done)
 refine qE ?_
 refine ag_inBlock ?_
 refine ag_ent (ent_weak (g' := [(5, .r (.int .i64 6)), (4, .sl 0 0 20 1), (3, .r (.ro 16 (digW x0 x1 x2 x3)))]) (h' := ⟨1, [(0, some (.bytes ((wideM x0 x1 x2 x3).take 20)))], false⟩) [2] rfl rfl rfl rfl ?_ ?_ rfl) ?_
 ·exact ⟨⟨rfl, rfl⟩, ⟨rfl, rfl⟩, ⟨rfl, rfl⟩, trivial⟩
 ·exact ⟨⟨rfl, rfl, rfl⟩, trivial⟩
 refine ag_reg ?_
 refine pA ?_
 refine pC ?_ ?_
 ·unfold inI64; decide
 refine pE ?_
 refine ag_again ?_
 refine sZ ?_
 refine pA ?_
 refine pE ?_
 refine vA ?_
 refine sS ?_
 refine ag_block ?_
 apply ag_draw2 [25, 26] (by kernel_rfl) (by kernel_rfl)
 iterate 3 refine qA ?_
 refine qB ?_ ?_
 ·exact ⟨by decide, by simp [digW, digL]⟩
 refine qL ?_
 refine qB ?_ ?_
 ·refine ⟨?_, by decide⟩
  show inI64 _
  rw [Int.tdiv_eq_ediv_of_nonneg (by omega)]; unfold inI64; omega
 iterate 3 refine qA ?_
 refine qB ?_ ?_
 ·exact ⟨by decide, by simp [digW, digL]⟩
 refine qL ?_
 refine qB ?_ ?_
 ·decide
 refine qA ?_
 refine' aq_new20 tOk rfl rfl rfl rfl rfl ?_ ?_
 rotate_left 1
 ·simp
 refine aq_app21 tOk rfl rfl rfl rfl rfl ?_ ?_
 ·refine ⟨⟨?_, ?_, ?_⟩, ⟨?_, ?_⟩, ⟨?_, ?_⟩, ?_⟩ <;> first | trivial | decide | exact ⟨u8r _, u8r _, trivial⟩ | exact ⟨u8r _, trivial⟩ | omega | (simp; done) | (simp [cutA_eq]; done) | (simp [cutA_eq, wideM]; done)
 refine qE ?_
 refine ag_inBlock ?_
 refine ag_ent (ent_weak (g' := [(5, .r (.int .i64 5)), (4, .sl 0 0 22 1), (3, .r (.ro 16 (digW x0 x1 x2 x3)))]) (h' := ⟨1, [(0, some (.bytes ((wideM x0 x1 x2 x3).take 22)))], false⟩) [2] rfl rfl rfl rfl ?_ ?_ rfl) ?_
 ·exact ⟨⟨rfl, rfl⟩, ⟨rfl, rfl⟩, ⟨rfl, rfl⟩, trivial⟩
 ·exact ⟨⟨rfl, rfl, rfl⟩, trivial⟩
 refine ag_reg ?_
 refine pA ?_
 refine pC ?_ ?_
 ·unfold inI64; decide
 refine pE ?_
 refine ag_again ?_
 refine sZ ?_
 refine pA ?_
 refine pE ?_
 refine vA ?_
 refine sS ?_
 refine ag_block ?_
 apply ag_draw2 [25, 26] (by kernel_rfl) (by kernel_rfl)
 iterate 3 refine qA ?_
 refine qB ?_ ?_
 ·exact ⟨by decide, by simp [digW, digL]⟩
 refine qL ?_
 refine qB ?_ ?_
 ·refine ⟨?_, by decide⟩
  show inI64 _
  rw [Int.tdiv_eq_ediv_of_nonneg (by omega)]; unfold inI64; omega
 iterate 3 refine qA ?_
 refine qB ?_ ?_
 ·exact ⟨by decide, by simp [digW, digL]⟩
 refine qL ?_
 refine qB ?_ ?_
 ·decide
 refine qA ?_
 refine' aq_new20 tOk rfl rfl rfl rfl rfl ?_ ?_
 rotate_left 1
 ·simp
 refine aq_app21 tOk rfl rfl rfl rfl rfl ?_ ?_
 ·refine ⟨⟨?_, ?_, ?_⟩, ⟨?_, ?_⟩, ⟨?_, ?_⟩, ?_⟩ <;> first | trivial | decide | exact ⟨u8r _, u8r _, trivial⟩ | exact ⟨u8r _, trivial⟩ | omega | (simp; done) | (simp [cutA_eq]; done) | (simp [cutA_eq, wideM]; done)
 refine qE ?_
 refine ag_inBlock ?_
 refine ag_ent (ent_weak (g' := [(5, .r (.int .i64 4)), (4, .sl 0 0 24 1), (3, .r (.ro 16 (digW x0 x1 x2 x3)))]) (h' := ⟨1, [(0, some (.bytes ((wideM x0 x1 x2 x3).take 24)))], false⟩) [2] rfl rfl rfl rfl ?_ ?_ rfl) ?_
 ·exact ⟨⟨rfl, rfl⟩, ⟨rfl, rfl⟩, ⟨rfl, rfl⟩, trivial⟩
 ·exact ⟨⟨rfl, rfl, rfl⟩, trivial⟩
 refine ag_reg ?_
 refine pA ?_
 refine pC ?_ ?_
 ·unfold inI64; decide
 refine pE ?_
 refine ag_again ?_
 refine sZ ?_
 refine pA ?_
 refine pE ?_
 refine vA ?_
 refine sS ?_
 refine ag_block ?_
 apply ag_draw2 [25, 26] (by kernel_rfl) (by kernel_rfl)
 iterate 3 refine qA ?_
 refine qB ?_ ?_
 ·exact ⟨by decide, by simp [digW, digL]⟩
 refine qL ?_
 refine qB ?_ ?_
 ·refine ⟨?_, by decide⟩
  show inI64 _
  rw [Int.tdiv_eq_ediv_of_nonneg (by omega)]; unfold inI64; omega
 iterate 3 refine qA ?_
 refine qB ?_ ?_
 ·exact ⟨by decide, by simp [digW, digL]⟩
 refine qL ?_
 refine qB ?_ ?_
 ·decide
 refine qA ?_
 refine' aq_new20 tOk rfl rfl rfl rfl rfl ?_ ?_
 rotate_left 1
 ·simp
 refine aq_app21 tOk rfl rfl rfl rfl rfl ?_ ?_
 ·refine ⟨⟨?_, ?_, ?_⟩, ⟨?_, ?_⟩, ⟨?_, ?_⟩, ?_⟩ <;> first | trivial | decide | exact ⟨u8r _, u8r _, trivial⟩ | exact ⟨u8r _, trivial⟩ | omega | (simp; done) | (simp [cutA_eq]; done) | (simp [cutA_eq, wideM]; done)
 refine qE ?_
 refine ag_inBlock ?_
 refine ag_ent (ent_weak (g' := [(5, .r (.int .i64 3)), (4, .sl 0 0 26 1), (3, .r (.ro 16 (digW x0 x1 x2 x3)))]) (h' := ⟨1, [(0, some (.bytes ((wideM x0 x1 x2 x3).take 26)))], false⟩) [2] rfl rfl rfl rfl ?_ ?_ rfl) ?_
 ·exact ⟨⟨rfl, rfl⟩, ⟨rfl, rfl⟩, ⟨rfl, rfl⟩, trivial⟩
 ·exact ⟨⟨rfl, rfl, rfl⟩, trivial⟩
 refine ag_reg ?_
 refine pA ?_
 refine pC ?_ ?_
 ·unfold inI64; decide
 refine pE ?_
 refine ag_again ?_
 refine sZ ?_
 refine pA ?_
 refine pE ?_
 refine vA ?_
 refine sS ?_
 refine ag_block ?_
 apply ag_draw2 [25, 26] (by kernel_rfl) (by kernel_rfl)
 iterate 3 refine qA ?_
 refine qB ?_ ?_
 ·exact ⟨by decide, by simp [digW, digL]⟩
 refine qL ?_
 refine qB ?_ ?_
 ·refine ⟨?_, by decide⟩
  show inI64 _
  rw [Int.tdiv_eq_ediv_of_nonneg (by omega)]; unfold inI64; omega
 iterate 3 refine qA ?_
 refine qB ?_ ?_
 ·exact ⟨by decide, by simp [digW, digL]⟩
 refine qL ?_
 refine qB ?_ ?_
 ·decide
 refine qA ?_
 refine' aq_new20 tOk rfl rfl rfl rfl rfl ?_ ?_
 rotate_left 1
 ·simp
 refine aq_app21 tOk rfl rfl rfl rfl rfl ?_ ?_
 ·refine ⟨⟨?_, ?_, ?_⟩, ⟨?_, ?_⟩, ⟨?_, ?_⟩, ?_⟩ <;> first | trivial | decide | exact ⟨u8r _, u8r _, trivial⟩ | exact ⟨u8r _, trivial⟩ | omega | (simp; done) | (simp [cutA_eq]; done) | (simp [cutA_eq, wideM]; done)
 refine qE ?_
 refine ag_inBlock ?_
 refine ag_ent (ent_weak (g' := [(5, .r (.int .i64 2)), (4, .sl 0 0 28 1), (3, .r (.ro 16 (digW x0 x1 x2 x3)))]) (h' := ⟨1, [(0, some (.bytes ((wideM x0 x1 x2 x3).take 28)))], false⟩) [2] rfl rfl rfl rfl ?_ ?_ rfl) ?_
 ·exact ⟨⟨rfl, rfl⟩, ⟨rfl, rfl⟩, ⟨rfl, rfl⟩, trivial⟩
 ·exact ⟨⟨rfl, rfl, rfl⟩, trivial⟩
 refine ag_reg ?_
 refine pA ?_
 refine pC ?_ ?_
 ·unfold inI64; decide
 refine pE ?_
 refine ag_again ?_
 refine sZ ?_
 refine pA ?_
 refine pE ?_
 refine vA ?_
 refine sS ?_
 refine ag_block ?_
 apply ag_draw2 [25, 26] (by kernel_rfl) (by kernel_rfl)
 iterate 3 refine qA ?_
 refine qB ?_ ?_
 ·exact ⟨by decide, by simp [digW, digL]⟩
 refine qL ?_
 refine qB ?_ ?_
 ·refine ⟨?_, by decide⟩
  show inI64 _
  rw [Int.tdiv_eq_ediv_of_nonneg (by omega)]; unfold inI64; omega
 iterate 3 refine qA ?_
 refine qB ?_ ?_
 ·exact ⟨by decide, by simp [digW, digL]⟩
 refine qL ?_
 refine qB ?_ ?_
 ·decide
 refine qA ?_
 refine' aq_new20 tOk rfl rfl rfl rfl rfl ?_ ?_
 rotate_left 1
 ·simp
 refine aq_app21 tOk rfl rfl rfl rfl rfl ?_ ?_
 ·refine ⟨⟨?_, ?_, ?_⟩, ⟨?_, ?_⟩, ⟨?_, ?_⟩, ?_⟩ <;> first | trivial | decide | exact ⟨u8r _, u8r _, trivial⟩ | exact ⟨u8r _, trivial⟩ | omega | (simp; done) | (simp [cutA_eq]; done) | (simp [cutA_eq, wideM]; done)
 refine qE ?_
 refine ag_inBlock ?_
 refine ag_ent (ent_weak (g' := [(5, .r (.int .i64 1)), (4, .sl 0 0 30 1), (3, .r (.ro 16 (digW x0 x1 x2 x3)))]) (h' := ⟨1, [(0, some (.bytes ((wideM x0 x1 x2 x3).take 30)))], false⟩) [2] rfl rfl rfl rfl ?_ ?_ rfl) ?_
 ·exact ⟨⟨rfl, rfl⟩, ⟨rfl, rfl⟩, ⟨rfl, rfl⟩, trivial⟩
 ·exact ⟨⟨rfl, rfl, rfl⟩, trivial⟩
 refine ag_reg ?_
 refine pA ?_
 refine pC ?_ ?_
 ·unfold inI64; decide
 refine pE ?_
 refine ag_again ?_
 refine sZ ?_
 refine pA ?_
 refine pE ?_
 refine vA ?_
 refine sS ?_
 refine ag_block ?_
 apply ag_draw2 [25, 26] (by kernel_rfl) (by kernel_rfl)
 iterate 3 refine qA ?_
 refine qB ?_ ?_
 ·exact ⟨by decide, by simp [digW, digL]⟩
 refine qL ?_
 refine qB ?_ ?_
 ·refine ⟨?_, by decide⟩
  show inI64 _
  rw [Int.tdiv_eq_ediv_of_nonneg (by omega)]; unfold inI64; omega
 iterate 3 refine qA ?_
 refine qB ?_ ?_
 ·exact ⟨by decide, by simp [digW, digL]⟩
 refine qL ?_
 refine qB ?_ ?_
 ·decide
 refine qA ?_
 refine' aq_new20 tOk rfl rfl rfl rfl rfl ?_ ?_
 rotate_left 1
 ·simp
 refine aq_app21 tOk rfl rfl rfl rfl rfl ?_ ?_
 ·refine ⟨⟨?_, ?_, ?_⟩, ⟨?_, ?_⟩, ⟨?_, ?_⟩, ?_⟩ <;> first | trivial | decide | exact ⟨u8r _, u8r _, trivial⟩ | exact ⟨u8r _, trivial⟩ | omega | (simp; done) | (simp [cutA_eq]; done) | (simp [cutA_eq, wideM]; done)
 refine qE ?_
 refine ag_inBlock ?_
 refine ag_ent (ent_weak (g' := [(5, .r (.int .i64 0)), (4, .sl 0 0 32 1), (3, .r (.ro 16 (digW x0 x1 x2 x3)))]) (h' := ⟨1, [(0, some (.bytes ((wideM x0 x1 x2 x3).take 32)))], false⟩) [2] rfl rfl rfl rfl ?_ ?_ rfl) ?_
 ·exact ⟨⟨rfl, rfl⟩, ⟨rfl, rfl⟩, ⟨rfl, rfl⟩, trivial⟩
 ·exact ⟨⟨rfl, rfl, rfl⟩, trivial⟩
 refine ag_reg ?_
 refine pA ?_
 refine pC ?_ ?_
 ·unfold inI64; decide
 refine pE ?_
 refine ag_again ?_
 refine sZ ?_
 refine pA ?_
 refine pE ?_
 refine vD ?_
 refine ag_exit rfl ?_
 refine zB ?_
 refine pA ?_
 refine pE ?_
 refine ag_ret tOk Tryz.func63 rfl rfl (by simp) ?_
 refine ⟨0, rfl, ?_⟩
 rw [wideM_eq h0 h1 h2 h3]
 rfl
end Go.Proofs.YtccdhgmkjakjkaaGreat

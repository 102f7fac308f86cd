/-
  WALKS: wide numbers' octets. (Printed by gen.py out of w_bwide.py.)
-/
import Derived.Test.YtnodpljgcdkbkaaBInt
namespace Go.Proofs.Ytnodpljgcdkbkaa
open Go
set_option linter.unusedVariables false
set_option linter.unusedSimpArgs false
def wA (x0 x1 x2 x3 : Int) : AVal := .agg [.r (.int .u64 x0), .r (.int .u64 x1), .r (.int .u64 x2), .r (.int .u64 x3)]
def U64 (x : Int) : Prop := 0 ≤ x ∧ x < 18446744073709551616
def wideL (x0 x1 x2 x3 : Int) : List UInt8 := numL 8 x3 ++ (numL 8 x2 ++ (numL 8 x1 ++ numL 8 x0))
theorem u8r (n : Int) : 0 ≤ IntKind.u8.wrap n ∧ IntKind.u8.wrap n < 256 := by rw [wu8]; omega
theorem consU {a b : Int} {l l' : List UInt8} (h : a = b) (hl : l = l') : UInt8.ofNat a.toNat :: l = UInt8.ofNat b.toNat :: l' := by rw [h, hl]
theorem numL8_shr (x : Int) : numL 8 x =
    [UInt8.ofNat (IntKind.u8.wrap (x.fdiv (2 ^ 56))).toNat, UInt8.ofNat (IntKind.u8.wrap (x.fdiv (2 ^ 48))).toNat, UInt8.ofNat (IntKind.u8.wrap (x.fdiv (2 ^ 40))).toNat, UInt8.ofNat (IntKind.u8.wrap (x.fdiv (2 ^ 32))).toNat,
     UInt8.ofNat (IntKind.u8.wrap (x.fdiv (2 ^ 24))).toNat, UInt8.ofNat (IntKind.u8.wrap (x.fdiv (2 ^ 16))).toNat, UInt8.ofNat (IntKind.u8.wrap (x.fdiv (2 ^ 8))).toNat, UInt8.ofNat (IntKind.u8.wrap (x.fdiv (2 ^ 0))).toNat] := by
  have e : ∀ m : Nat, x.fdiv (2 ^ m) = x / 2 ^ m := fun m => Int.fdiv_eq_ediv_of_nonneg _ (Int.le_of_lt (Int.pow_pos (by decide)))
  rw [e, e, e, e, e, e, e, e]
  simp only [numL, List.nil_append, List.cons_append, wu8]
  exact consU (by omega) (consU (by omega) (consU (by omega) (consU (by omega) (consU (by omega) (consU (by omega) (consU (by omega) (consU (by omega) rfl)))))))
end Go.Proofs.Ytnodpljgcdkbkaa


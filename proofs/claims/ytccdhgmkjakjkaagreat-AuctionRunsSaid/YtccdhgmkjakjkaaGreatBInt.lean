/-
  WALKS: numbers of octets. (Printed by gen.py out of w_bint.py.)
-/
import Derived.Test.YtccdhgmkjakjkaaGreatBlob
namespace Go.Proofs.YtccdhgmkjakjkaaGreat
open Go
set_option linter.unusedVariables false
set_option linter.unusedSimpArgs false
def intF (l : List UInt8) : Int := l.foldl (fun n c => n * 256 + (c.toNat : Int)) 0
def intB (b : List UInt8) : Int := intF (b.take 7)
theorem intF_take {c : List UInt8} {i : Nat} (h : i < c.length) : intF (c.take (i + 1)) = intF (c.take i) * 256 + ((c.getD i 0).toNat : Int) := by
 rw [List.take_succ_eq_append_getElem h, intF, List.foldl_append]
 simp [intF, List.getD, h]
theorem u8_lt (b : UInt8) : (b.toNat : Int) < 256 := by have := b.toNat_lt; omega
theorem intF_bound : ∀ (n : Nat) (c : List UInt8), n ≤ c.length → 0 ≤ intF (c.take n) ∧ intF (c.take n) < 256 ^ n
 | 0, c, _ => by simp [intF]
 | n + 1, c, h => by
  obtain ⟨h1, h2⟩ := intF_bound n c (by omega)
  rw [intF_take (by omega)]
  have := u8_lt (c.getD n 0)
  have e : (256 : Int) ^ (n + 1) = 256 ^ n * 256 := Int.pow_succ _ _
  constructor <;> omega
theorem intF_small {n : Nat} {c : List UInt8} (h : n ≤ c.length) (h7 : n ≤ 6) : 0 ≤ intF (c.take n) ∧ intF (c.take n) < 281474976710656 := by
 obtain ⟨h1, h2⟩ := intF_bound n c h
 refine ⟨h1, ?_⟩
 generalize intF (c.take n) = x at h2
 rcases n with _ | _ | _ | _ | _ | _ | _ | n <;> first | (simp at h2; omega) | omega
theorem or_add {x y : Nat} (hy : y < 256) : (x * 256) ||| y = x * 256 + y := by
 have := Nat.shiftLeft_add_eq_or_of_lt (i := 8) (b := y) (by omega) x
 rw [Nat.shiftLeft_eq] at this
 exact this.symm
theorem ibit_or64 {x y : Int} (hx : 0 ≤ x) (hx2 : x < 36028797018963968) (hy : 0 ≤ y) (hy2 : y < 256) : ibit .or .i64 (x * 256) y = x * 256 + y := by
 obtain ⟨a, rfl⟩ := Int.eq_ofNat_of_zero_le hx
 obtain ⟨b, rfl⟩ := Int.eq_ofNat_of_zero_le hy
 simp only [ibit]
 have h1 : (BitVec.ofInt IntKind.i64.bits ((a : Int) * 256) ||| BitVec.ofInt IntKind.i64.bits (b : Int)).toNat = a * 256 + b := by
  rw [BitVec.toNat_or, BitVec.toNat_ofInt, BitVec.toNat_ofInt]
  have e1 : (((a : Int) * 256) % ((2 ^ IntKind.i64.bits : Nat) : Int)).toNat = a * 256 := by simp [IntKind.bits]; omega
  have e2 : ((b : Int) % ((2 ^ IntKind.i64.bits : Nat) : Int)).toNat = b := by simp [IntKind.bits]; omega
  rw [e1, e2, or_add (by omega)]
 rw [h1]
 simp [IntKind.wrap, IntKind.bits, IntKind.signed]
 omega
def st97_0 (b : List UInt8) : Nat → Regs × Hp := fun i => ([(3, .r (.int .i64 (intF ((b.take 7).take i)))), (12, .r (.int .i64 (i : Int))), (11, .r (.int .i64 (min b.length 7 : Nat))), (10, .r (.bs (b.take 7)))], ⟨0, [], false⟩)
def pr97_0 (b : List UInt8) : Nat → Prop := fun i => i ≤ min b.length 7
theorem w_Int (b : List UInt8) : Pur Tryz.prog 97 [.r (.bs b)] (.r (.int .i64 (intB b))) := by
 refine spec_of_go (N := 23) Tryz.func97 rfl (by decide) rfl rfl ?_
 refine zB ?_
 refine pG ?_
 refine pF ?_
 refine zB ?_
 iterate 4 refine pA ?_
 refine pC ?_ ?_
 ·exact ⟨by omega, by omega⟩
 refine pA ?_
 refine pE ?_
 refine ag_block ?_
 refine ag_loopS (st97_0 b) (pr97_0 b) (fun (i : Nat) => 8 - i) 0 (ent_weak [] rfl rfl rfl rfl ?_ ?_ rfl) (show pr97_0 b 0 from ?_) ?_
 ·exact ⟨⟨rfl, rfl⟩, ⟨rfl, rfl⟩, ⟨rfl, by refine eqI ?_; show _ = (((b.take (mulz _ 1)).length : Nat) : Int); rw [mulz_eq, List.length_take]; omega⟩, ⟨rfl, by refine eqBsv ?_; show b.take 7 = b.take (mulz _ 1); rw [mulz_eq, List.take_eq_take_iff]; omega⟩, trivial⟩
 ·trivial
 ·exact Nat.zero_le _
 rintro i hp hrec
 have hp : i ≤ min b.length 7 := hp
 refine zB ?_
 refine pF ?_
 refine ag_if rfl ?_ ?_
 ·intro h13
  refine sS ?_
  refine bX ?_
  refine pC ?_ ?_
  ·show 0 ≤ (i : Int) ∧ (i : Int) < ((b.take 7).length : Int); simp; omega
  refine ar_load tOk rfl rfl rfl ?_ ?_
  ·show (i : Int).toNat < (b.take 7).length; simp; omega
  refine pE ?_
  refine ag_reg ?_
  refine pA ?_
  refine pC ?_ ?_
  ·refine ⟨?_, by decide⟩
   show inI64 (intF ((b.take 7).take i) * 256)
   have := intF_small (c := b.take 7) (n := i) (by simp; omega) (by omega)
   unfold inI64; omega
  refine pA ?_
  refine pC ?_ ?_
  ·unfold inI64; rw [Int.toNat_natCast]; have := u8_lt ((b.take 7).getD i 0); omega
  refine pA ?_
  refine pE ?_
  refine iR ?_
  refine pC ?_ ?_
  ·unfold inI64; omega
  refine pE ?_
  refine ag_ent (ent_weak (g' := (st97_0 b (i + 1)).1) (h' := (st97_0 b (i + 1)).2) [] rfl rfl rfl rfl ?_ ?_ rfl) ?_
  ·exact ⟨⟨rfl, by refine eqI ?_; rw [intF_take (by simp; omega)]; have h1 := intF_small (c := b.take 7) (n := i) (by simp; omega) (by omega); have h2 := u8_lt ((b.take 7).getD i 0); exact (ibit_or64 h1.1 (by omega) (by omega) h2).symm⟩, ⟨rfl, by exact eqI (by omega)⟩, ⟨rfl, rfl⟩, ⟨rfl, rfl⟩, trivial⟩
  ·trivial
  have hnx := hrec (i + 1)
  refine hnx ?_ ?_
  ·show i + 1 ≤ min b.length 7; omega
  ·show 8 - (i + 1) < 8 - i; omega
 ·intro h13
  refine ag_exit rfl ?_
  refine zB ?_
  refine pA ?_
  refine pE ?_
  refine ag_ret tOk Tryz.func97 rfl rfl (by simp) ?_
  exact eqI (by rw [intB, show i = min b.length 7 by omega, List.take_take]; congr 1; rw [List.take_eq_take_iff]; omega)
def st105_0 (b : List UInt8) : Nat → Regs × Hp := fun i => ([(3, .r (.int .i64 (intF (b.take i)))), (4, .r (.int .i64 (i : Int))), (0, .r (.bs b))], ⟨0, [], false⟩)
def pr105_0 (b : List UInt8) : Nat → Prop := fun i => i ≤ min b.length 7
theorem w_rInt (b : List UInt8) : Pur Tryz.prog 105 [.r (.bs b)] (.r (.int .i64 (intB b))) := by
 refine spec_of_go (N := 24) Tryz.func105 rfl (by decide) rfl rfl ?_
 refine zB ?_
 refine pG ?_
 refine pF ?_
 refine zB ?_
 refine pE ?_
 refine ag_block ?_
 refine ag_loopS (st105_0 b) (pr105_0 b) (fun (i : Nat) => 8 - i) 0 (ent_weak [] rfl rfl rfl rfl ?_ ?_ rfl) (show pr105_0 b 0 from ?_) ?_
 ·exact ⟨⟨rfl, rfl⟩, ⟨rfl, rfl⟩, ⟨rfl, rfl⟩, trivial⟩
 ·trivial
 ·exact Nat.zero_le _
 rintro i hp hrec
 have hp : i ≤ min b.length 7 := hp
 refine sZ ?_
 iterate 5 refine pA ?_
 refine ar_guard (t := decide ((i : Int) < (b.length : Int))) (fun ht => ?_) (fun ht => ?_)
 ·refine ar_pure tOk rfl rfl ht trivial ?_
  refine ar_pure tOk rfl rfl ht trivial ?_
  refine pE ?_
  refine ag_cond rfl ?_ ?_
  ·intro h12
   have h12 : (bif decide ((i : Int) < (b.length : Int)) then decide ((i : Int) < 7) else false) = true := h12
   rw [ht, cond_true, decide_eq_true_eq] at h12
   rw [decide_eq_true_eq] at ht
   refine sS ?_
   refine ag_block ?_
   refine ag_reg ?_
   refine pA ?_
   refine pC ?_ ?_
   ·unfold inI64; have := intF_small (c := b) (n := i) (by omega) (by omega); omega
   iterate 2 refine pA ?_
   refine pC ?_ ?_
   ·exact ⟨by omega, by omega⟩
   refine ar_load tOk rfl rfl rfl ?_ ?_
   ·show (i : Int).toNat < b.length; omega
   refine pC ?_ ?_
   ·unfold inI64; rw [Int.toNat_natCast]; have := u8_lt (b.getD i 0); omega
   refine pC ?_ ?_
   ·unfold inI64; rw [Int.toNat_natCast]; have := intF_small (c := b) (n := i) (by omega) (by omega); have := u8_lt (b.getD i 0); omega
   refine pE ?_
   refine iR ?_
   refine pA ?_
   refine pC ?_ ?_
   ·unfold inI64; omega
   refine pE ?_
   refine ag_ent (ent_weak (g' := (st105_0 b (i + 1)).1) (h' := (st105_0 b (i + 1)).2) [] rfl rfl rfl rfl ?_ ?_ rfl) ?_
   ·exact ⟨⟨rfl, by exact eqI (by rw [intF_take (by omega)]; simp)⟩, ⟨rfl, by exact eqI (by omega)⟩, ⟨rfl, rfl⟩, trivial⟩
   ·trivial
   have hnx := hrec (i + 1)
   refine hnx ?_ ?_
   ·show i + 1 ≤ min b.length 7; omega
   ·show 8 - (i + 1) < 8 - i; omega
  ·intro h12
   have h12 : (bif decide ((i : Int) < (b.length : Int)) then decide ((i : Int) < 7) else false) = false := h12
   rw [ht, cond_true, decide_eq_false_iff_not] at h12
   rw [decide_eq_true_eq] at ht
   refine ag_exit rfl ?_
   refine zB ?_
   refine pA ?_
   refine pE ?_
   refine ag_ret tOk Tryz.func105 rfl rfl (by simp) ?_
   show AVal.r _ = AVal.r _
   exact eqI (by rw [intB, show i = 7 by omega])
 ·refine ar_ent (ent_reg 9 (.r (.bool false)) (by show AVal.r (.bool _) = _; rw [ht])) ?_
  iterate 2 refine ar_skip rfl rfl rfl ?_
  refine pE ?_
  refine ag_false rfl (rfl) ?_
  refine ag_exit rfl ?_
  refine zB ?_
  refine pA ?_
  refine pE ?_
  refine ag_ret tOk Tryz.func105 rfl rfl (by simp) ?_
  show AVal.r _ = AVal.r _
  rw [decide_eq_false_iff_not] at ht
  exact eqI (by rw [intB, List.take_of_length_le (by omega), List.take_of_length_le (by omega)])
end Go.Proofs.YtccdhgmkjakjkaaGreat

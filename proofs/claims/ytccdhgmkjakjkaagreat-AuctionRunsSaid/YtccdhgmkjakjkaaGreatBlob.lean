/-
  WALKS: octets. (Printed by gen.py out of w_blob.py.)
-/
import Derived.Test.YtccdhgmkjakjkaaGreatTy
namespace Go.Proofs.YtccdhgmkjakjkaaGreat
open Go
set_option linter.unusedVariables false
set_option linter.unusedSimpArgs false
def numL : Nat → Int → List UInt8
 | 0, _ => []
 | k + 1, u => numL k (u / 256) ++ [UInt8.ofNat (u % 256).toNat]
theorem numL_length : ∀ (k : Nat) (u : Int), (numL k u).length = k
 | 0, _ => rfl
 | k + 1, u => by simp [numL, numL_length k]
theorem numL_add : ∀ (k : Nat) (v t : Int), numL k (v + 256 ^ k * t) = numL k v
 | 0, _, _ => rfl
 | k + 1, v, t => by
  simp only [numL]
  have e : v + 256 ^ (k + 1) * t = v + 256 * (256 ^ k * t) := by rw [Int.pow_succ]; congr 1; rw [Int.mul_comm (256 ^ k) 256, Int.mul_assoc]
  rw [e, Int.add_mul_ediv_left _ _ (by decide), numL_add k, Int.add_mul_emod_self_left]
theorem numL_wrap (k : Nat) (hk : k ≤ 8) (n : Int) : numL k (n % 18446744073709551616) = numL k n := by
 have e : n % 18446744073709551616 = n + 256 ^ k * (-(256 ^ (8 - k) * (n / 18446744073709551616))) := by
  have h1 : (18446744073709551616 : Int) = 256 ^ k * 256 ^ (8 - k) := by
   rw [← Int.pow_add, show k + (8 - k) = 8 by omega]; rfl
  have h2 := Int.emod_add_mul_ediv n 18446744073709551616
  have h3 : 256 ^ k * (-(256 ^ (8 - k) * (n / 18446744073709551616))) = -((256 ^ k * 256 ^ (8 - k)) * (n / 18446744073709551616)) := by
   rw [Int.mul_neg, Int.mul_assoc]
  rw [h3, ← h1]
  omega
 rw [e, numL_add]
theorem numL_nil : ∀ {k : Nat} {u : Int} {acc s : List UInt8}, k = 0 → numL k u ++ acc = s → acc = s := by
 rintro k u acc s rfl h; exact h
theorem u64_mod (n : Int) : 0 ≤ IntKind.u64.wrap n ∧ IntKind.u64.wrap n < 18446744073709551616 := by rw [wu64]; omega
def st62_0 (n : Int) (K : Nat) : Nat × Int × List UInt8 → Regs × Hp := fun ⟨k, u, acc⟩ => ([(7, .r (.int .i64 ((k : Int) - 1))), (6, .r (.int .u64 u)), (5, .sl 0 0 K 1)], ⟨1, [(0, some (.bytes (List.replicate k 0 ++ acc)))], false⟩)
def pr62_0 (n : Int) (K : Nat) : Nat × Int × List UInt8 → Prop := fun ⟨k, u, acc⟩ => k + acc.length = K ∧ (0 ≤ u ∧ u < 18446744073709551616) ∧ numL k u ++ acc = numL K n
theorem w_rNum (n sz : Int) (K : Nat) (hK : K = (min (max sz 0) 8).toNat) : Own Tryz.prog 62 [.r (.int .i64 n), .r (.int .i64 sz)] K 1 (.bytes (numL K n)) := by
 have hK8 : K ≤ 8 := by omega
 have hK' : min (max sz 0) 8 = (K : Int) := by omega
 refine spec_of_go (N := 30) Tryz.func62 rfl (by decide) rfl rfl ?_
 refine zB ?_
 refine pG ?_
 iterate 3 refine pA ?_
 refine pG ?_
 refine pA ?_
 refine ar_make tOk rfl rfl rfl ?_ ?_
 ·rw [hK']; exact ⟨⟨⟨by omega, by omega⟩, rfl, rfl, rfl⟩, rfl⟩
 refine pG ?_
 iterate 2 refine pA ?_
 refine pF ?_
 refine zB ?_
 refine pA ?_
 refine pC ?_ ?_
 ·first | trivial | omega | (unfold inI64; omega) | (refine ⟨?_, ?_⟩ <;> first | trivial | rfl | omega | simp) | decide
 refine pE ?_
 refine ag_block ?_
 refine ag_loopS (st62_0 n K) (pr62_0 n K) (fun ⟨k, u, acc⟩ => k) (K, IntKind.u64.wrap n, []) (ent_weak [0] rfl rfl rfl rfl ?_ ?_ rfl) (show pr62_0 n K (K, IntKind.u64.wrap n, []) from ?_) ?_
 ·exact ⟨⟨rfl, by exact eqI (by rw [hK'])⟩, ⟨rfl, rfl⟩, ⟨rfl, by exact eqSl (by rw [hK']; rfl)⟩, trivial⟩
 ·exact ⟨⟨rfl, rfl, by refine eqBs ?_; rw [hK']; simp⟩, trivial⟩
 ·exact ⟨by simp, u64_mod n, by rw [wu64, numL_wrap K hK8]; simp⟩
 rintro ⟨k, u, acc⟩ hp hrec
 obtain ⟨h1, h2, h3⟩ : _ := hp
 refine sZ ?_
 refine pA ?_
 refine pE ?_
 refine ag_if rfl ?_ ?_
 ·intro h18
  refine sS ?_
  refine bX ?_
  iterate 3 refine pA ?_
  refine pC ?_ ?_
  ·decide
  refine pA ?_
  refine pC ?_ ?_
  ·first | trivial | omega | (unfold inI64; omega) | (refine ⟨?_, ?_⟩ <;> first | trivial | rfl | omega | simp) | decide
  refine ar_store tOk rfl rfl rfl ?_ ?_
  ·exact ⟨by rw [addo_eq, mulz_eq]; simp; omega, by rw [wu8]; omega, by rw [wu8]; omega⟩
  refine ar_nil ?_
  refine ag_reg ?_
  refine pA ?_
  refine pC ?_ ?_
  ·exact ⟨trivial, by decide⟩
  refine pE ?_
  refine iR ?_
  refine pA ?_
  refine pC ?_ ?_
  ·first | trivial | omega | (unfold inI64; omega) | (refine ⟨?_, ?_⟩ <;> first | trivial | rfl | omega | simp) | decide
  refine pE ?_
  obtain ⟨j, rfl⟩ : ∃ j, k = j + 1 := ⟨k - 1, by omega⟩
  refine ag_ent (ent_weak (g' := (st62_0 n K (j, u / 256, UInt8.ofNat (u % 256).toNat :: acc)).1) (h' := (st62_0 n K (j, u / 256, UInt8.ofNat (u % 256).toNat :: acc)).2) [0] rfl rfl rfl rfl ?_ ?_ rfl) ?_
  ·exact ⟨⟨rfl, by exact eqI (by omega)⟩, ⟨rfl, by exact eqI (by rw [wu64, Int.tdiv_eq_ediv_of_nonneg h2.1]; omega)⟩, ⟨rfl, rfl⟩, trivial⟩
  ·exact ⟨⟨rfl, rfl, by refine eqBs ?_; rw [wu8, Int.tmod_eq_emod_of_nonneg h2.1, Int.emod_emod, addo_eq, mulz_eq]; rw [show 0 + ((((j + 1 : Nat) : Int) - 1).toNat * 1) = j by omega]; exact set_rep _ _ _ _⟩, trivial⟩
  have hnx := hrec (j, u / 256, UInt8.ofNat (u % 256).toNat :: acc)
  refine hnx ?_ ?_
  ·exact ⟨by simp; omega, by omega, by simpa [numL] using h3⟩
  ·exact Nat.lt_succ_self j
 ·intro h18
  refine ag_exit rfl ?_
  refine zB ?_
  refine pA ?_
  refine pE ?_
  refine ag_ret tOk Tryz.func62 rfl rfl (⟨trivial, trivial⟩) ?_
  obtain rfl : k = 0 := by omega
  exact ⟨0, rfl, eqBs (by simpa [numL] using h3)⟩
theorem w_bw162 {f N : Nat} {m : Md} {ops : Array Oper} {o : Oper} {rest : List Oper} {k : List Item} {g : Regs} {h : Hp} {Post : AVal → Hp → Prop} {t : Bool} {d : Nat} {x : AVal} (hca : callA g o = some (90, [x])) (hd : o.dst = some d) (hN : Nat.blt d N = true)
  (hg : guardB ops g o = some t) (ht : t = true) {cs : List AVal} (hx : x.cellsA = some cs) (hk : AReg Tryz.prog f N m ops rest k ((d, .func 99 [.ptr h.nxt 0]) :: g) (h.push (.mixed cs)) Post) : AReg Tryz.prog f N m ops (o :: rest) k g h Post := by
 refine ar_inline (PostI := fun v h' => v = .func 99 [.ptr h.nxt 0] ∧ h' = h.push (.mixed cs)) Tryz.func90 hca rfl (by decide) rfl rfl hd hN hg ht ?_ ?_
 ·refine ag_seq ?_
  refine ag_reg ?_
  refine ar_new (v := .ptr h.nxt 0) (blk := .mixed cs) (c := True) (d := 1) tOk (by unfold stepNew; show (match cellsF x with | some cs => some (1, AVal.ptr h.nxt 0, Body.mixed cs, True) | none => none) = _; rw [cellsF_eq, hx]) rfl rfl trivial ?_
  refine pG ?_
  refine pA ?_
  refine pE ?_
  exact ag_ret tOk Tryz.func90 rfl rfl (by trivial) ⟨rfl, rfl⟩
 rintro v h' ⟨rfl, rfl⟩
 exact hk
theorem w_bw163 {f N : Nat} {m : Md} {ops : Array Oper} {o : Oper} {rest : List Oper} {k : List Item} {g : Regs} {h : Hp} {Post : AVal → Hp → Prop} {t : Bool} {d : Nat} {x : AVal} (hca : callA g o = some (75, [x])) (hd : o.dst = some d) (hN : Nat.blt d N = true)
  (hg : guardB ops g o = some t) (ht : t = true) {cs : List AVal} (hx : x.cellsA = some cs) (hk : AReg Tryz.prog f N m ops rest k ((d, .func 89 [.ptr h.nxt 0]) :: g) (h.push (.mixed cs)) Post) : AReg Tryz.prog f N m ops (o :: rest) k g h Post := by
 refine ar_inline (PostI := fun v h' => v = .func 89 [.ptr h.nxt 0] ∧ h' = h.push (.mixed cs)) Tryz.func75 hca rfl (by decide) rfl rfl hd hN hg ht ?_ ?_
 ·refine ag_seq ?_
  refine ag_reg ?_
  refine ar_new (v := .ptr h.nxt 0) (blk := .mixed cs) (c := True) (d := 1) tOk (by unfold stepNew; show (match cellsF x with | some cs => some (1, AVal.ptr h.nxt 0, Body.mixed cs, True) | none => none) = _; rw [cellsF_eq, hx]) rfl rfl trivial ?_
  refine pG ?_
  refine pA ?_
  refine pE ?_
  exact ag_ret tOk Tryz.func75 rfl rfl (by trivial) ⟨rfl, rfl⟩
 rintro v h' ⟨rfl, rfl⟩
 exact hk
def hsN (K k : Nat) (n : Int) (acc : List UInt8) : Hp :=
 ⟨4, [(0, some (.mixed [.r (.int .i64 n)])), (1, some (.bytes (List.replicate k 0 ++ acc))), (2, some (.mixed [.sl 1 0 K 1])), (3, some (.mixed [.sl 1 0 K 1]))], false⟩
def yN (n0 : Int) (K : Nat) : YRel := fun args h v h' => ∃ (k : Nat) (n : Int) (acc : List UInt8) (b : Int), k + 1 + acc.length = K ∧ numL (k + 1) n ++ acc = numL K n0 ∧
 args = [.r (.int .i64 (k : Int)), .r (.int .u8 b)] ∧ h = hsN K (k + 1) n acc ∧ v = true ∧ h' = hsN K k (n / 256) (UInt8.ofNat (n % 256).toNat :: acc)
def gN : Regs := [(12, .func 99 [.ptr 3 0]), (5, .ptr 2 0), (2, .ptr 0 0)]
def st39i_0 (n : Int) (K l : Nat) : Nat × Int × List UInt8 → Regs × Hp := fun ⟨k, n', acc⟩ => ([(3, .r (.int .i64 ((k : Int) - 1))), (0, .yld l), (1, .ptr 3 0)], hsN K k n' acc)
def pr39i_0 (n : Int) (K l : Nat) : Nat × Int × List UInt8 → Prop := fun ⟨k, n', acc⟩ => k + acc.length = K ∧ numL k n' ++ acc = numL K n
theorem w_Num (n sz : Int) (K : Nat) (hK : K = (min (max sz 0) 8).toNat) : Own Tryz.prog 77 [.r (.int .i64 n), .r (.int .i64 sz)] K 1 (.bytes (numL K n)) := by
 have hK8 : K ≤ 8 := by omega
 have hK' : min (max sz 0) 8 = (K : Int) := by omega
 refine spec_of_go (N := 23) Tryz.func77 rfl (by decide) rfl rfl ?_
 refine zB ?_
 refine pM ?_
 refine pG ?_
 iterate 3 refine pA ?_
 refine ar_make tOk rfl rfl rfl ?_ ?_
 ·rw [hK']; exact ⟨⟨⟨by omega, by omega⟩, rfl, rfl, rfl⟩, rfl⟩
 rw [← hK]
 refine pN ?_ ?_
 ·simp
 refine ar_store tOk rfl rfl rfl trivial ?_
 refine zA ?_
 refine zB ?_
 refine pB ?_
 refine w_bw162 rfl rfl rfl rfl rfl rfl ?_
 refine ar_nil ?_
 refine ag_ent (ent_weak (g' := gN) (h' := hsN K K n []) [0, 1, 2, 3] rfl rfl rfl rfl ?_ ?_ rfl) ?_
 ·exact ⟨⟨rfl, rfl⟩, ⟨rfl, rfl⟩, ⟨rfl, rfl⟩, trivial⟩
 ·exact ⟨⟨rfl, rfl, rfl⟩, ⟨rfl, rfl, eqBs (by simp)⟩, ⟨rfl, rfl, rfl⟩, ⟨rfl, rfl, rfl⟩, trivial⟩
 refine ag_block ?_
 refine ag_range 4 (yN n K) (fun args => (6, args.getD 0 .any) :: (14, args.getD 1 .any) :: (13, args.getD 0 .any) :: gN) (fun h' => ∃ n', h' = hsN K 0 n' (numL K n)) rfl rfl rfl rfl rfl rfl rfl Tryz.func99 rfl (by decide) rfl rfl rfl ?_ ?_ ?_ ?_
 ·rintro args h v h' ⟨k, n', acc, b, h1, h2, rfl, rfl, rfl, rfl⟩
  exact ⟨rfl, asgOk_region tOk rfl ⟨trivial, trivial⟩⟩
 ·rintro args h v h' ⟨k, n', acc, b, h1, h2, rfl, rfl, rfl, rfl⟩
  refine bX ?_
  refine pB ?_
  refine pA ?_
  refine pB ?_
  refine pA ?_
  refine pC ?_ ?_
  ·exact ⟨by omega, by omega⟩
  refine ar_store tOk rfl rfl rfl ?_ ?_
  ·exact ⟨by rw [addo_eq, mulz_eq]; simp; omega, by rw [wu8]; omega, by rw [wu8]; omega⟩
  refine ar_nil ?_
  refine ag_reg ?_
  refine pB ?_
  refine pC ?_ ?_
  ·omega
  refine ar_store tOk rfl rfl rfl trivial ?_
  refine nI ?_
  refine ag_ent (ent_weak (g' := []) (h' := hsN K k (n' / 256) (UInt8.ofNat (n' % 256).toNat :: acc)) [0, 1, 2, 3] rfl rfl rfl rfl trivial ?_ rfl) ?_
  ·exact ⟨⟨rfl, rfl, by show some (Body.mixed [AVal.r (.int .i64 _)]) = some (Body.mixed [AVal.r (.int .i64 _)]); rw [Int.fdiv_eq_ediv_of_nonneg _ (by decide)]; rfl⟩, ⟨rfl, rfl, by refine eqBs ?_; rw [wu8, addo_eq, mulz_eq, show 0 + ((k : Int).toNat * 1) = k by omega]; exact set_rep _ _ _ _⟩, ⟨rfl, rfl, rfl⟩, ⟨rfl, rfl, rfl⟩, trivial⟩
  refine ag_rend rfl ?_
  exact ⟨rfl, rfl⟩
 ·intro l
  refine zB ?_
  refine pB ?_
  refine pA ?_
  refine pC ?_ ?_
  ·unfold inI64; omega
  refine pE ?_
  refine ag_block ?_
  refine ag_loopS (st39i_0 n K l) (pr39i_0 n K l) (fun ⟨k, n', acc⟩ => k) (K, n, []) (ent_weak [0, 1, 2, 3] rfl rfl rfl rfl ?_ ?_ rfl) (show pr39i_0 n K l (K, n, []) from ?_) ?_
  ·exact ⟨⟨rfl, rfl⟩, ⟨rfl, rfl⟩, ⟨rfl, rfl⟩, trivial⟩
  ·exact ⟨⟨rfl, rfl, rfl⟩, ⟨rfl, rfl, rfl⟩, ⟨rfl, rfl, rfl⟩, ⟨rfl, rfl, rfl⟩, trivial⟩
  ·exact ⟨by simp, by simp⟩
  rintro ⟨k, n', acc⟩ hp hrec
  obtain ⟨h1, h2⟩ : _ := hp
  refine sZ ?_
  refine pA ?_
  refine pE ?_
  refine ag_if rfl ?_ ?_
  ·intro h8
   obtain ⟨j, rfl⟩ : ∃ j, k = j + 1 := ⟨k - 1, by omega⟩
   refine sS ?_
   refine bX ?_
   iterate 2 refine pA ?_
   refine pB ?_
   refine pA ?_
   refine pC ?_ ?_
   ·exact ⟨by omega, by omega⟩
   refine ar_load tOk rfl rfl rfl ?_ ?_
   ·rw [addo_eq, mulz_eq]; simp; omega
   refine ar_yld (Y := yN n K) (h' := hsN K j (n' / 256) (UInt8.ofNat (n' % 256).toNat :: acc)) (v := true) ⟨j, n', acc, _, by omega, h2, by rw [show ((j + 1 : Nat) : Int) - 1 = (j : Int) by omega]; rfl, rfl, rfl, rfl⟩ rfl rfl rfl rfl rfl rfl rfl rfl ?_
   refine pE ?_
   refine ag_false rfl (rfl) ?_
   refine ag_skip ?_
   refine iR ?_
   refine pA ?_
   refine pC ?_ ?_
   ·unfold inI64; omega
   refine pE ?_
   refine ag_ent (ent_weak (g' := (st39i_0 n K l (j, n' / 256, UInt8.ofNat (n' % 256).toNat :: acc)).1) (h' := (st39i_0 n K l (j, n' / 256, UInt8.ofNat (n' % 256).toNat :: acc)).2) [0, 1, 2, 3] rfl rfl rfl rfl ?_ ?_ rfl) ?_
   ·exact ⟨⟨rfl, by exact eqI (by omega)⟩, ⟨rfl, rfl⟩, ⟨rfl, rfl⟩, trivial⟩
   ·exact ⟨⟨rfl, rfl, rfl⟩, ⟨rfl, rfl, rfl⟩, ⟨rfl, rfl, rfl⟩, ⟨rfl, rfl, rfl⟩, trivial⟩
   have hnx := hrec (j, n' / 256, UInt8.ofNat (n' % 256).toNat :: acc)
   refine hnx ?_ ?_
   ·exact ⟨by simp; omega, by simpa [numL] using h2⟩
   ·exact Nat.lt_succ_self j
  ·intro h8
   refine ag_exit rfl ?_
   refine ag_end tOk Tryz.func99 rfl rfl (trivial) ?_
   exact ⟨n', by rw [← numL_nil (k := k) (by omega) h2]; rw [show k = 0 by omega]; rfl⟩
 ·rintro h' ⟨n', rfl⟩
  refine ag_inBlock ?_
  refine zB ?_
  refine pB ?_
  refine pE ?_
  refine ag_ret tOk Tryz.func77 rfl rfl (⟨trivial, trivial⟩) ?_
  exact ⟨1, rfl, rfl⟩
end Go.Proofs.YtccdhgmkjakjkaaGreat

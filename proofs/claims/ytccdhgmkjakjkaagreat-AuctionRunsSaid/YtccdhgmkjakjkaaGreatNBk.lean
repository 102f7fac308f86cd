/-
  WALKS: a block's words, the program's. (Printed by gen.py out of w_hsch.py.)
  WALKS: slices.Clone of octets. (Printed by gen.py out of w_clone.py.)
  WALKS: the words of the rounds; what stands behind a text. (Printed by gen.py out of w_hkey.py.)
  WALKS: the reference's two as one. (Printed by gen.py out of w_rcat.py.)
  NUMBERS back from their octets. (Printed by gen.py out of w_nbk.py.)
-/
import Derived.Test.YtccdhgmkjakjkaaGreatHBit
import Derived.Test.YtccdhgmkjakjkaaGreatBInt
import Derived.Test.YtccdhgmkjakjkaaGreatTy
import Derived.Test.YtccdhgmkjakjkaaGreatMB
import Derived.Test.YtccdhgmkjakjkaaGreatBlob
namespace Go.Proofs.YtccdhgmkjakjkaaGreat
open Go
set_option maxRecDepth 20000
set_option linter.unusedVariables false
set_option linter.unusedSimpArgs false
def w4 (p : List UInt8) (i : Nat) : Int := IntKind.u32.wrap (intB ((p.drop (4 * i)).take 4))
def Wst (p : List UInt8) : Nat → Nat → Int
 | 0 => fun _ => 0
 | i + 1 => fun k => if k = i then (if i < 16 then w4 p i else ad (ad (ad (sg1 (Wst p i (i - 2))) (Wst p i (i - 7))) (sg0 (Wst p i (i - 15)))) (Wst p i (i - 16))) else Wst p i k
theorem Wst_lo (p : List UInt8) {i : Nat} (h : i < 16) : Wst p (i + 1) i = w4 p i := by simp [Wst, h]
theorem Wst_hi (p : List UInt8) {i : Nat} (h : ¬ i < 16) : Wst p (i + 1) i = ad (ad (ad (sg1 (Wst p i (i - 2))) (Wst p i (i - 7))) (sg0 (Wst p i (i - 15)))) (Wst p i (i - 16)) := by simp [Wst, h]
theorem Wst_keep (p : List UInt8) {i k : Nat} (h : k ≠ i) : Wst p (i + 1) k = Wst p i k := by simp [Wst, h]
def hF (F : Nat → Int) : Hp := ⟨2, [(0, some (.plain (u64L fun _ => 0))), (1, some (.plain (u64L F)))], false⟩
def hW (p : List UInt8) (i : Nat) : Hp := hF (Wst p i)
theorem cut4 (p : List UInt8) (i : Nat) : cutL p 1 (some (4 * (i : Int))) (some (4 * (i : Int) + 4)) = (p.drop (4 * i)).take 4 := by
 simp only [cutL, mulz]
 rw [show (4 * (i : Int)).toNat = 4 * i by omega, show (4 * (i : Int) + 4 - 4 * (i : Int)).toNat = 4 by omega]
theorem eq32 {a b : Int} (h : a = b) : RVal.int .u32 a = RVal.int .u32 b := by rw [h]
theorem set64 {F G : Nat → Int} {i : Nat} {v : RVal} (hv : RVal.int .u32 (G i) = v) (h : ∀ j, j < 64 → j ≠ i → G j = F j) : (u64L F).set i v = u64L G := fnL_set hv (fun j h1 h2 => by rw [h j h1 h2])
theorem ld64 {F : Nat → Int} {off i : Nat} {ty : Ty} (ha : ty.k.agg = false) (e : off = i) (h : i < 64) : LoadsTo ty (Body.plain (u64L F)).cells off (.r (.int .u32 (F i))) := by subst e; exact loadsTo_fnL ha h rfl
theorem agg64 {F : Nat → Int} : ((Body.plain (u64L F)).cells.drop 0).take 64 = (u64L F).map .r := by
 rw [List.drop_zero]
 exact List.take_of_length_le (by simp [Body.cells, u64L, fnL])
def stSch_0 (p : List UInt8) : Nat → Regs × Hp := fun i => ([(0, .r (.bs p)), (2, .ptr 0 0), (3, .ptr 1 0), (6, .r (.int .i64 (i : Int)))], hW p i)
def prSch_0 (p : List UInt8) : Nat → Prop := fun i => i ≤ 16
def stSch_2 (p : List UInt8) : Nat → Regs × Hp := fun i => ([(0, .r (.bs p)), (2, .ptr 0 0), (3, .ptr 1 0), (5, .r (.int .i64 (i : Int)))], hW p i)
def prSch_2 (p : List UInt8) : Nat → Prop := fun i => 16 ≤ i ∧ i ≤ 64
theorem w_schedule (p : List UInt8) (hp0 : p.length = 64) : Pur Tryz.prog 103 [.r (.bs p)] (a64 (Wst p 64)) := by
 refine spec_of_go (N := 49) Tryz.func103 rfl (by decide) rfl rfl ?_
 refine zB ?_
 refine pN ?_ ?_
 ·simp
 refine zC ?_
 refine pN ?_ ?_
 ·simp
 refine zA ?_
 refine zB ?_
 refine pE ?_
 refine ag_block ?_
 refine ag_loopS (stSch_0 p) (prSch_0 p) (fun (i : Nat) => 16 - i) 0 (ent_weak [0, 1] rfl rfl rfl rfl ?_ ?_ rfl) (show prSch_0 p 0 from ?_) ?_
 ·exact ⟨⟨rfl, rfl⟩, ⟨rfl, rfl⟩, ⟨rfl, rfl⟩, ⟨rfl, rfl⟩, trivial⟩
 ·exact ⟨⟨rfl, rfl, rfl⟩, ⟨rfl, rfl, rfl⟩, trivial⟩
 ·exact Nat.zero_le _
 rintro i hp hrec
 have hp : i ≤ 16 := hp
 refine zB ?_
 refine pF ?_
 refine ag_if rfl ?_ ?_
 ·intro h7
  refine sS ?_
  refine bX ?_
  refine pA ?_
  refine pE ?_
  refine ag_reg ?_
  iterate 3 refine pA ?_
  refine pC ?_ ?_
  ·unfold inI64; omega
  refine pA ?_
  refine pC ?_ ?_
  ·unfold inI64; omega
  refine pC ?_ ?_
  ·unfold inI64; omega
  refine pC ?_ ?_
  ·simp only [boundsOk]; omega
  refine ar_ent (ent_reg 16 (.r (.bs ((p.drop (4 * i)).take 4))) (by show AVal.r (.bs _) = _; exact eqBsv (cut4 p i))) ?_
  refine ar_pur (w_Int _) rfl rfl rfl rfl rfl rfl rfl ?_
  refine pA ?_
  refine pC ?_ ?_
  ·exact ⟨by omega, by omega⟩
  refine ar_store tOk rfl rfl rfl ?_ ?_
  ·simp only [u64L, fnL_length, addo_eq, mulz_eq, Nat.mul_one]; omega
  refine ar_nil ?_
  refine iR ?_
  refine pC ?_ ?_
  ·unfold inI64; omega
  refine pE ?_
  refine ag_ent (ent_weak (g' := (stSch_0 p (i + 1)).1) (h' := (stSch_0 p (i + 1)).2) [0, 1] rfl rfl rfl rfl ?_ ?_ rfl) ?_
  ·exact ⟨⟨rfl, rfl⟩, ⟨rfl, rfl⟩, ⟨rfl, rfl⟩, ⟨rfl, by exact eqI (by omega)⟩, trivial⟩
  ·exact ⟨⟨rfl, rfl, rfl⟩, ⟨rfl, rfl, by refine eqPl ?_; rw [addo_eq, mulz_eq, Nat.mul_one, Nat.zero_add, Int.toNat_natCast]; exact set64 (eq32 (Wst_lo p (by omega))) (fun j _ h => Wst_keep p h)⟩, trivial⟩
  have hnx := hrec (i + 1)
  refine hnx ?_ ?_
  ·show i + 1 ≤ 16; omega
  ·show 16 - (i + 1) < 16 - i; omega
 ·intro h7
  refine ag_exit rfl ?_
  refine sZ ?_
  refine pE ?_
  refine ag_block ?_
  refine ag_loopS (stSch_2 p) (prSch_2 p) (fun (i : Nat) => 64 - i) 16 (ent_weak [0, 1] rfl rfl rfl rfl ?_ ?_ rfl) (show prSch_2 p 16 from ?_) ?_
  ·exact ⟨⟨rfl, rfl⟩, ⟨rfl, rfl⟩, ⟨rfl, rfl⟩, ⟨rfl, rfl⟩, trivial⟩
  ·exact ⟨⟨rfl, rfl, rfl⟩, ⟨rfl, rfl, by rw [show i = 16 by omega]; rfl⟩, trivial⟩
  ·exact ⟨by decide, by decide⟩
  rintro i hp hrec
  obtain ⟨h1, h2⟩ : _ := hp
  refine sZ ?_
  refine pA ?_
  refine pE ?_
  refine ag_if rfl ?_ ?_
  ·intro h22
   refine sS ?_
   refine ag_block ?_
   apply ag_draw1 [] (by kernel_rfl) (by kernel_rfl)
   iterate 2 refine qA ?_
   refine qB ?_ ?_
   ·unfold inI64; omega
   refine qB ?_ ?_
   ·exact ⟨by omega, by omega⟩
   refine aq_loadAs0 tOk (.r (.int .u32 (Wst p i (i - 2)))) rfl rfl rfl rfl rfl (by kernel_rfl) rfl rfl (ld64 rfl (by simp only [addo_eq, mulz_eq, Nat.mul_one]; omega) (by omega)) ?_
   refine aq_pur (w_threeT (Wst p i (i - 2)) 17 19 10 (by decide) (by decide) (by decide) (by decide) (by decide) (by decide)) rfl rfl rfl rfl rfl rfl rfl ?_
   refine qA ?_
   refine qB ?_ ?_
   ·unfold inI64; omega
   refine qB ?_ ?_
   ·exact ⟨by omega, by omega⟩
   refine aq_loadAs0 tOk (.r (.int .u32 (Wst p i (i - 7)))) rfl rfl rfl rfl rfl (by kernel_rfl) rfl rfl (ld64 rfl (by simp only [addo_eq, mulz_eq, Nat.mul_one]; omega) (by omega)) ?_
   iterate 2 refine qA ?_
   refine qB ?_ ?_
   ·unfold inI64; omega
   refine qB ?_ ?_
   ·exact ⟨by omega, by omega⟩
   refine aq_loadAs0 tOk (.r (.int .u32 (Wst p i (i - 15)))) rfl rfl rfl rfl rfl (by kernel_rfl) rfl rfl (ld64 rfl (by simp only [addo_eq, mulz_eq, Nat.mul_one]; omega) (by omega)) ?_
   refine aq_pur (w_threeT (Wst p i (i - 15)) 7 18 3 (by decide) (by decide) (by decide) (by decide) (by decide) (by decide)) rfl rfl rfl rfl rfl rfl rfl ?_
   iterate 2 refine qA ?_
   refine qB ?_ ?_
   ·unfold inI64; omega
   refine qB ?_ ?_
   ·exact ⟨by omega, by omega⟩
   refine aq_loadAs0 tOk (.r (.int .u32 (Wst p i (i - 16)))) rfl rfl rfl rfl rfl (by kernel_rfl) rfl rfl (ld64 rfl (by simp only [addo_eq, mulz_eq, Nat.mul_one]; omega) (by omega)) ?_
   refine qA ?_
   refine qB ?_ ?_
   ·exact ⟨by omega, by omega⟩
   refine aq_store10 tOk rfl rfl rfl rfl ?_ ?_
   ·simp only [u64L, fnL_length, addo_eq, mulz_eq, Nat.mul_one]; omega
   refine aq_nil rfl ?_
   refine iR ?_
   refine pA ?_
   refine pC ?_ ?_
   ·unfold inI64; omega
   refine pE ?_
   refine ag_ent (ent_weak (g' := (stSch_2 p (i + 1)).1) (h' := (stSch_2 p (i + 1)).2) [0, 1] rfl rfl rfl rfl ?_ ?_ rfl) ?_
   ·exact ⟨⟨rfl, rfl⟩, ⟨rfl, rfl⟩, ⟨rfl, rfl⟩, ⟨rfl, by exact eqI (by omega)⟩, trivial⟩
   ·exact ⟨⟨rfl, rfl, rfl⟩, ⟨rfl, rfl, by refine eqPl ?_; rw [addo_eq, mulz_eq, Nat.mul_one, Nat.zero_add, Int.toNat_natCast]; exact set64 (eq32 (Wst_hi p (by omega))) (fun j _ h => Wst_keep p h)⟩, trivial⟩
   have hnx := hrec (i + 1)
   refine hnx ?_ ?_
   ·exact ⟨by omega, by omega⟩
   ·show 64 - (i + 1) < 64 - i; omega
  ·intro h22
   obtain rfl : i = 64 := by omega
   refine ag_ent (ent_weak (g' := [(2, .ptr 0 0), (3, .ptr 1 0)]) (h' := hF (Wst p 64)) [0, 1] rfl rfl rfl rfl ?_ ?_ rfl) ?_
   ·exact ⟨⟨rfl, rfl⟩, ⟨rfl, rfl⟩, trivial⟩
   ·exact ⟨⟨rfl, rfl, rfl⟩, ⟨rfl, rfl, rfl⟩, trivial⟩
   clear hrec
   generalize Wst p 64 = F
   refine ag_exit rfl ?_
   refine zB ?_
   refine ar_loadAs tOk (a64 F) rfl rfl rfl rfl rfl rfl rfl (.inr ⟨rfl, _, rfl, agg64, by simp [u64L, fnL]⟩) ?_
   refine ar_store tOk (stepStore_arr (ys := u64L F) rfl rfl rfl rfl rfl rfl (by simp [u64L, fnL]) (by simp [u64L, fnL]) rfl) rfl rfl trivial ?_
   refine ar_nil ?_
   refine ag_ret (v := a64 F) (q := True ∧ True) tOk Tryz.func103 (resultsA_arr rfl rfl rfl rfl (by simp [u64L, fnL])) rfl (by simp) ?_
   rfl
end Go.Proofs.YtccdhgmkjakjkaaGreat
namespace Go.Proofs.YtccdhgmkjakjkaaGreat
open Go
set_option maxRecDepth 20000
set_option linter.unusedVariables false
set_option linter.unusedSimpArgs false
theorem w_CloneB (s : List UInt8) (hs : s.length ≤ 140737488355328) : Pur Tryz.prog 82 [.r (.bs s)] (.r (.bs s)) := by
 refine spec_of_go (N := 8) Tryz.func82 rfl (by decide) rfl rfl ?_
 refine zB ?_
 refine pF ?_
 refine zB ?_
 refine pA ?_
 refine ar_nilEq tOk rfl rfl rfl rfl rfl rfl rfl (fun q hq => ?_)
 refine ar_nil ?_
 refine ag_cond rfl ?_ ?_
 ·intro h4
  have h0 : s = [] := hq h4
  subst h0
  refine zB ?_
  refine pE ?_
  refine ag_ent (ent_nil 2 (.bs []) rfl (.inl rfl)) ?_
  refine ag_ret tOk Tryz.func82 rfl rfl (by simp) ?_
  rfl
 ·intro h4
  refine ag_skip ?_
  refine zB ?_
  refine pN ?_ ?_
  ·simp
  refine pA ?_
  refine pP ?_ ?_
  ·refine ⟨⟨?_, ?_, ?_⟩, ⟨?_, ?_⟩, ⟨?_, ?_⟩, ?_⟩ <;> first | trivial | decide | omega | (simp; done) | (simp; omega)
  refine pE ?_
  refine ag_ent (ent_freeze 2 rfl rfl rfl ⟨by simp, rfl⟩) ?_
  refine ag_ret tOk Tryz.func82 rfl rfl (by simp) ?_
  exact eqBsv (by simp [cutA_eq])
def hB1 (s : List UInt8) : Hp := ⟨1, [(0, some (.bytes s))], false⟩
end Go.Proofs.YtccdhgmkjakjkaaGreat
namespace Go.Proofs.YtccdhgmkjakjkaaGreat
open Go
set_option maxRecDepth 20000
set_option linter.unusedVariables false
set_option linter.unusedSimpArgs false
def keyT : List Int := [1116352408, 1899447441, 3049323471, 3921009573, 961987163, 1508970993, 2453635748, 2870763221, 3624381080, 310598401, 607225278, 1426881987, 1925078388, 2162078206, 2614888103, 3248222580, 3835390401, 4022224774, 264347078, 604807628, 770255983, 1249150122, 1555081692, 1996064986, 2554220882, 2821834349, 2952996808, 3210313671, 3336571891, 3584528711, 113926993, 338241895, 666307205, 773529912, 1294757372, 1396182291, 1695183700, 1986661051, 2177026350, 2456956037, 2730485921, 2820302411, 3259730800, 3345764771, 3516065817, 3600352804, 4094571909, 275423344, 430227734, 506948616, 659060556, 883997877, 958139571, 1322822218, 1537002063, 1747873779, 1955562222, 2024104815, 2227730452, 2361852424, 2428436474, 2756734187, 3204031479, 3329325298]
def keyF (i : Nat) : Int := keyT.getD i 0
theorem w_keys  : Pur Tryz.prog 101 [] (a64 keyF) := by
 refine spec_of_go (N := 2) Tryz.func101 rfl (by decide) rfl rfl ?_
 refine zB ?_
 refine pN ?_ ?_
 ·simp
 refine zC ?_
 refine ar_pure (d := 1) (v := a64 keyF) (c := u64L (fun _ => 0) ≠ []) tOk (by kernel_rfl) rfl rfl (by simp [u64L, fnL]) ?_
 refine ar_store tOk (stepStore_arr (ys := u64L keyF) rfl rfl rfl rfl rfl rfl (by simp [u64L, fnL]) (by simp [u64L, fnL]) rfl) rfl rfl trivial ?_
 refine ar_nil ?_
 refine ag_ret (v := a64 keyF) (q := True ∧ True) tOk Tryz.func101 (resultsA_arr rfl rfl rfl rfl (by simp [u64L, fnL])) rfl (by simp) ?_
 rfl
theorem w_table  : Pur Tryz.prog 80 [] (a64 keyF) := by
 refine spec_of_go (N := 2) Tryz.func80 rfl (by decide) rfl rfl ?_
 refine zB ?_
 refine pN ?_ ?_
 ·simp
 refine zC ?_
 refine ar_pure (d := 1) (v := a64 keyF) (c := u64L (fun _ => 0) ≠ []) tOk (by kernel_rfl) rfl rfl (by simp [u64L, fnL]) ?_
 refine ar_store tOk (stepStore_arr (ys := u64L keyF) rfl rfl rfl rfl rfl rfl (by simp [u64L, fnL]) (by simp [u64L, fnL]) rfl) rfl rfl trivial ?_
 refine ar_nil ?_
 refine ag_ret (v := a64 keyF) (q := True ∧ True) tOk Tryz.func80 (resultsA_arr rfl rfl rfl rfl (by simp [u64L, fnL])) rfl (by simp) ?_
 rfl
theorem w_begin  : Pur Tryz.prog 100 [] q0.av := by
 refine spec_of_go (N := 2) Tryz.func100 rfl (by decide) rfl rfl ?_
 refine zB ?_
 refine pN ?_ ?_
 ·simp
 refine zC ?_
 refine pC ?_ ?_
 ·simp
 refine ar_store tOk rfl rfl rfl trivial ?_
 refine ar_nil ?_
 refine ag_ret tOk Tryz.func100 rfl rfl (by simp) ?_
 rfl
end Go.Proofs.YtccdhgmkjakjkaaGreat
namespace Go.Proofs.YtccdhgmkjakjkaaGreat
open Go
set_option linter.unusedVariables false
set_option linter.unusedSimpArgs false
theorem w_rCat (a b : List UInt8) (h : a.length + b.length ≤ 140737488355328) : Pur Tryz.prog 64 [.r (.bs a), .r (.bs b)] (.r (.bs (a ++ b))) := by
 refine spec_of_go (N := 12) Tryz.func64 rfl (by decide) rfl rfl ?_
 refine zB ?_
 refine pG ?_
 refine pN ?_ ?_
 ·simp
 refine pA ?_
 refine pP ?_ ?_
 ·refine ⟨⟨?_, ?_, ?_⟩, ⟨?_, ?_⟩, ⟨?_, ?_⟩, ?_⟩ <;> first | trivial | decide | omega | (simp; done) | (simp; omega)
 refine pG ?_
 iterate 2 refine pA ?_
 refine pP ?_ ?_
 ·refine ⟨⟨?_, ?_, ?_⟩, ⟨?_, ?_⟩, ⟨?_, ?_⟩, ?_⟩ <;> first | trivial | decide | omega | (simp; done) | (simp; omega)
 refine pE ?_
 refine ag_ent (ent_freeze 4 rfl rfl rfl ⟨by simp [cutA_eq], rfl⟩) ?_
 refine ag_ret tOk Tryz.func64 rfl rfl (by simp) ?_
 show AVal.r (.bs _) = _
 exact eqBsv (by simp [cutA_eq]; exact List.take_of_length_le (by simp))
theorem w_rCatO (a b : List UInt8) (h : a.length + b.length ≤ 140737488355328) : Own Tryz.prog 64 [.r (.bs a), .r (.bs b)] (a.length + b.length) 1 (.bytes (a ++ b)) := by
 refine spec_of_go (N := 12) Tryz.func64 rfl (by decide) rfl rfl ?_
 refine zB ?_
 refine pG ?_
 refine pN ?_ ?_
 ·simp
 refine pA ?_
 refine pP ?_ ?_
 ·refine ⟨⟨?_, ?_, ?_⟩, ⟨?_, ?_⟩, ⟨?_, ?_⟩, ?_⟩ <;> first | trivial | decide | omega | (simp; done) | (simp; omega)
 refine pG ?_
 iterate 2 refine pA ?_
 refine pP ?_ ?_
 ·refine ⟨⟨?_, ?_, ?_⟩, ⟨?_, ?_⟩, ⟨?_, ?_⟩, ?_⟩ <;> first | trivial | decide | omega | (simp; done) | (simp; omega)
 refine pE ?_
 refine ag_ret tOk Tryz.func64 rfl rfl (by simp) ?_
 refine ⟨_, eqSl (by simp), ?_⟩
 show some (Body.bytes _) = _
 exact eqBs (by simp [cutA_eq])
end Go.Proofs.YtccdhgmkjakjkaaGreat
namespace Go.Proofs.YtccdhgmkjakjkaaGreat
open Go
set_option linter.unusedVariables false
set_option linter.unusedSimpArgs false
theorem eqB {a b : Bool} (h : a = b) : AVal.r (.bool a) = AVal.r (.bool b) := by rw [h]
end Go.Proofs.YtccdhgmkjakjkaaGreat

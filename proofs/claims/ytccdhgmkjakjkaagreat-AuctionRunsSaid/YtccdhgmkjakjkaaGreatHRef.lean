/-
  WALKS: the reference's sums. (Printed by gen.py out of w_href.py.)
-/
import Derived.Test.YtccdhgmkjakjkaaGreatHSum
namespace Go.Proofs.YtccdhgmkjakjkaaGreat
open Go
set_option maxRecDepth 20000
set_option linter.unusedVariables false
set_option linter.unusedSimpArgs false
def z8 : List RVal := [.int .u32 0, .int .u32 0, .int .u32 0, .int .u32 0, .int .u32 0, .int .u32 0, .int .u32 0, .int .u32 0]
def hK4 (h : Q8) (K W : Nat → Int) : Hp := ⟨4, [(0, some (.plain h.cells)), (1, some (.plain (u64L K))), (2, some (.plain z8)), (3, some (.plain (u64L W)))], false⟩
def gV (v : Q8) (n : Nat) : Regs := [(3, .ptr 0 0), (4, .ptr 1 0), (6, .ptr 2 0), (7, .ptr 3 0), (11, .r (.int .u32 v.a)), (12, .r (.int .u32 v.b)), (13, .r (.int .u32 v.c)), (14, .r (.int .u32 v.d)), (15, .r (.int .u32 v.e)), (16, .r (.int .u32 v.f)), (17, .r (.int .u32 v.g)), (18, .r (.int .u32 v.h)), (19, .r (.int .i64 (n : Int)))]
def strBk_0 (h : Q8) (K : Nat → Int) (p : List UInt8) : Nat → Regs × Hp := fun i => ([(2, .r (.bs p)), (3, .ptr 0 0), (4, .ptr 1 0), (6, .ptr 2 0), (7, .ptr 3 0), (8, .r (.int .i64 (i : Int)))], hK4 h K (Wst p i))
def prrBk_0 (h : Q8) (K : Nat → Int) (p : List UInt8) : Nat → Prop := fun i => i ≤ 64
def strBk_2 (h : Q8) (K W : Nat → Int) : Nat × Q8 → Regs × Hp := fun x => (gV x.2 x.1, hK4 h K W)
def prrBk_2 (h : Q8) (K W : Nat → Int) : Nat × Q8 → Prop := fun ⟨n, v⟩ => n ≤ 64 ∧ v = rds K W h n
theorem w_rblock (h : Q8) (K : Nat → Int) (p : List UInt8) (hp0 : p.length = 64) : Pur Tryz.prog 93 [h.av, a64 K, .r (.bs p)] (blk8 K h p).av := by
 refine spec_of_go (N := 188) Tryz.func93 rfl (by decide) rfl rfl ?_
 refine zB ?_
 refine ar_new tOk (stepNew_box (ys := h.cells) rfl rfl rfl rfl) rfl rfl trivial ?_
 refine ar_new tOk (stepNew_box (ys := u64L K) rfl rfl rfl rfl) rfl rfl trivial ?_
 refine pN ?_ ?_
 ·simp
 refine zC ?_
 refine pN ?_ ?_
 ·simp
 refine ar_nil ?_
 refine ag_ent (ent_body 0 (.mixed (h.cells.map .r)) (.plain h.cells) rfl rfl) ?_
 refine ag_ent (ent_body 1 (.mixed ((u64L K).map .r)) (.plain (u64L K)) rfl rfl) ?_
 refine ag_ent (ent_weak (g' := [(2, .r (.bs p)), (3, .ptr 0 0), (4, .ptr 1 0), (6, .ptr 2 0), (7, .ptr 3 0)]) (h' := hK4 h K (fun _ => 0)) [0, 1, 2, 3] rfl rfl rfl rfl ?_ ?_ rfl) ?_
 ·exact ⟨⟨rfl, rfl⟩, ⟨rfl, rfl⟩, ⟨rfl, rfl⟩, ⟨rfl, rfl⟩, ⟨rfl, rfl⟩, trivial⟩
 ·exact ⟨⟨rfl, rfl, rfl⟩, ⟨rfl, rfl, rfl⟩, ⟨rfl, rfl, rfl⟩, ⟨rfl, rfl, rfl⟩, trivial⟩
 refine sZ ?_
 refine pE ?_
 refine ag_block ?_
 refine ag_loopS (strBk_0 h K p) (prrBk_0 h K p) (fun (i : Nat) => 64 - i) 0 (ent_weak [0, 1, 2, 3] rfl rfl rfl rfl ?_ ?_ rfl) (show prrBk_0 h K p 0 from ?_) ?_
 ·exact ⟨⟨rfl, rfl⟩, ⟨rfl, rfl⟩, ⟨rfl, rfl⟩, ⟨rfl, rfl⟩, ⟨rfl, rfl⟩, ⟨rfl, rfl⟩, trivial⟩
 ·exact ⟨⟨rfl, rfl, rfl⟩, ⟨rfl, rfl, rfl⟩, ⟨rfl, rfl, rfl⟩, ⟨rfl, rfl, rfl⟩, trivial⟩
 ·exact Nat.zero_le _
 rintro i hp hrec
 have hp : i ≤ 64 := hp
 refine sZ ?_
 refine pA ?_
 refine pE ?_
 refine ag_if rfl ?_ ?_
 ·intro h23
  refine sS ?_
  refine bX ?_
  refine pA ?_
  refine pE ?_
  refine ag_if rfl ?_ ?_
  ·intro h27
   refine ag_reg ?_
   iterate 3 refine pA ?_
   refine pC ?_ ?_
   ·unfold inI64; omega
   refine pA ?_
   refine pC ?_ ?_
   ·unfold inI64; omega
   refine pC ?_ ?_
   ·unfold inI64; omega
   refine pC ?_ ?_
   ·simp only [boundsOk]; omega
   refine ar_ent (ent_reg 35 (.r (.bs ((p.drop (4 * i)).take 4))) (by show AVal.r (.bs _) = _; exact eqBsv (cut4 p i))) ?_
   refine ar_pur (w_rInt _) rfl rfl rfl rfl rfl rfl rfl ?_
   refine pA ?_
   refine pC ?_ ?_
   ·exact ⟨by omega, by omega⟩
   refine ar_store tOk rfl rfl rfl ?_ ?_
   ·simp only [u64L, fnL_length, addo_eq, mulz_eq, Nat.mul_one]; omega
   refine ar_nil ?_
   refine iR ?_
   refine pA ?_
   refine pC ?_ ?_
   ·unfold inI64; omega
   refine pE ?_
   refine ag_ent (ent_weak (g' := (strBk_0 h K p (i + 1)).1) (h' := (strBk_0 h K p (i + 1)).2) [0, 1, 2, 3] rfl rfl rfl rfl ?_ ?_ rfl) ?_
   ·exact ⟨⟨rfl, rfl⟩, ⟨rfl, rfl⟩, ⟨rfl, rfl⟩, ⟨rfl, rfl⟩, ⟨rfl, rfl⟩, ⟨rfl, by exact eqI (by omega)⟩, trivial⟩
   ·exact ⟨⟨rfl, rfl, rfl⟩, ⟨rfl, rfl, rfl⟩, ⟨rfl, rfl, rfl⟩, ⟨rfl, rfl, by refine eqPl ?_; rw [addo_eq, mulz_eq, Nat.mul_one, Nat.zero_add, Int.toNat_natCast]; exact set64 (eq32 (Wst_lo p (by omega))) (fun j _ h => Wst_keep p h)⟩, trivial⟩
   have hnx := hrec (i + 1)
   refine hnx ?_ ?_
   ·show i + 1 ≤ 64; omega
   ·show 64 - (i + 1) < 64 - i; omega
  ·intro h27
   refine ag_seq ?_
   refine qD ?_
   refine qA ?_
   refine qB ?_ ?_
   ·unfold inI64; omega
   refine qB ?_ ?_
   ·exact ⟨by omega, by omega⟩
   refine aq_loadAs0 tOk (.r (.int .u32 (Wst p i (i - 15)))) rfl rfl rfl rfl rfl (by kernel_rfl) rfl rfl (ld64 rfl (by simp only [addo_eq, mulz_eq, Nat.mul_one]; omega) (by omega)) ?_
   refine qA ?_
   refine qB ?_ ?_
   ·unfold inI64; omega
   refine qB ?_ ?_
   ·exact ⟨by omega, by omega⟩
   refine aq_loadAs0 tOk (.r (.int .u32 (Wst p i (i - 2)))) rfl rfl rfl rfl rfl (by kernel_rfl) rfl rfl (ld64 rfl (by simp only [addo_eq, mulz_eq, Nat.mul_one]; omega) (by omega)) ?_
   refine qA ?_
   refine qE ?_
   apply ag_draw1 [] (by kernel_rfl) (by kernel_rfl)
   iterate 2 refine qA ?_
   refine aq_pur (w_turn (Wst p i (i - 2)) 17 (by decide) (by decide)) rfl rfl rfl rfl rfl rfl rfl ?_
   refine qA ?_
   refine aq_pur (w_turn (Wst p i (i - 2)) 19 (by decide) (by decide)) rfl rfl rfl rfl rfl rfl rfl ?_
   iterate 2 refine qA ?_
   refine qB ?_ ?_
   ·decide
   iterate 2 refine qA ?_
   refine qB ?_ ?_
   ·unfold inI64; omega
   refine qB ?_ ?_
   ·exact ⟨by omega, by omega⟩
   refine aq_loadAs0 tOk (.r (.int .u32 (Wst p i (i - 7)))) rfl rfl rfl rfl rfl (by kernel_rfl) rfl rfl (ld64 rfl (by simp only [addo_eq, mulz_eq, Nat.mul_one]; omega) (by omega)) ?_
   iterate 2 refine qA ?_
   refine aq_pur (w_turn (Wst p i (i - 15)) 7 (by decide) (by decide)) rfl rfl rfl rfl rfl rfl rfl ?_
   refine qA ?_
   refine aq_pur (w_turn (Wst p i (i - 15)) 18 (by decide) (by decide)) rfl rfl rfl rfl rfl rfl rfl ?_
   iterate 2 refine qA ?_
   refine qB ?_ ?_
   ·decide
   iterate 3 refine qA ?_
   refine qB ?_ ?_
   ·unfold inI64; omega
   refine qB ?_ ?_
   ·exact ⟨by omega, by omega⟩
   refine aq_loadAs0 tOk (.r (.int .u32 (Wst p i (i - 16)))) rfl rfl rfl rfl rfl (by kernel_rfl) rfl rfl (ld64 rfl (by simp only [addo_eq, mulz_eq, Nat.mul_one]; omega) (by omega)) ?_
   refine qA ?_
   refine qB ?_ ?_
   ·exact ⟨by omega, by omega⟩
   refine aq_store10 tOk rfl rfl rfl rfl ?_ ?_
   ·simp only [u64L, fnL_length, addo_eq, mulz_eq, Nat.mul_one]; omega
   refine aq_nil rfl ?_
   refine iR ?_
   refine pA ?_
   refine pC ?_ ?_
   ·unfold inI64; omega
   refine pE ?_
   refine ag_ent (ent_weak (g' := (strBk_0 h K p (i + 1)).1) (h' := (strBk_0 h K p (i + 1)).2) [0, 1, 2, 3] rfl rfl rfl rfl ?_ ?_ rfl) ?_
   ·exact ⟨⟨rfl, rfl⟩, ⟨rfl, rfl⟩, ⟨rfl, rfl⟩, ⟨rfl, rfl⟩, ⟨rfl, rfl⟩, ⟨rfl, by exact eqI (by omega)⟩, trivial⟩
   ·exact ⟨⟨rfl, rfl, rfl⟩, ⟨rfl, rfl, rfl⟩, ⟨rfl, rfl, rfl⟩, ⟨rfl, rfl, by refine eqPl ?_; rw [addo_eq, mulz_eq, Nat.mul_one, Nat.zero_add, Int.toNat_natCast]; exact set64 (eq32 (Wst_hi p (by omega))) (fun j _ h => Wst_keep p h)⟩, trivial⟩
   have hnx := hrec (i + 1)
   refine hnx ?_ ?_
   ·show i + 1 ≤ 64; omega
   ·show 64 - (i + 1) < 64 - i; omega
 ·intro h23
  obtain rfl : i = 64 := by omega
  refine ag_ent (ent_weak (g' := [(3, .ptr 0 0), (4, .ptr 1 0), (6, .ptr 2 0), (7, .ptr 3 0)]) (h' := hK4 h K (Wst p 64)) [0, 1, 2, 3] rfl rfl rfl rfl ?_ ?_ rfl) ?_
  ·exact ⟨⟨rfl, rfl⟩, ⟨rfl, rfl⟩, ⟨rfl, rfl⟩, ⟨rfl, rfl⟩, trivial⟩
  ·exact ⟨⟨rfl, rfl, rfl⟩, ⟨rfl, rfl, rfl⟩, ⟨rfl, rfl, rfl⟩, ⟨rfl, rfl, rfl⟩, trivial⟩
  clear hrec
  rw [show blk8 K h p = q8ad h (rds K (Wst p 64) h 64) from rfl]
  generalize Wst p 64 = W
  refine ag_exit rfl ?_
  refine ag_seq ?_
  refine qD ?_
  refine qB ?_ ?_
  ·first | trivial | omega | (unfold inI64; omega) | (refine ⟨?_, ?_⟩ <;> first | trivial | rfl | omega | simp) | decide
  refine qL ?_
  refine qB ?_ ?_
  ·first | trivial | omega | (unfold inI64; omega) | (refine ⟨?_, ?_⟩ <;> first | trivial | rfl | omega | simp) | decide
  refine qL ?_
  refine qB ?_ ?_
  ·first | trivial | omega | (unfold inI64; omega) | (refine ⟨?_, ?_⟩ <;> first | trivial | rfl | omega | simp) | decide
  refine qL ?_
  refine qB ?_ ?_
  ·first | trivial | omega | (unfold inI64; omega) | (refine ⟨?_, ?_⟩ <;> first | trivial | rfl | omega | simp) | decide
  refine qL ?_
  refine qB ?_ ?_
  ·first | trivial | omega | (unfold inI64; omega) | (refine ⟨?_, ?_⟩ <;> first | trivial | rfl | omega | simp) | decide
  refine qL ?_
  refine qB ?_ ?_
  ·first | trivial | omega | (unfold inI64; omega) | (refine ⟨?_, ?_⟩ <;> first | trivial | rfl | omega | simp) | decide
  refine qL ?_
  refine qB ?_ ?_
  ·first | trivial | omega | (unfold inI64; omega) | (refine ⟨?_, ?_⟩ <;> first | trivial | rfl | omega | simp) | decide
  refine qL ?_
  refine qB ?_ ?_
  ·first | trivial | omega | (unfold inI64; omega) | (refine ⟨?_, ?_⟩ <;> first | trivial | rfl | omega | simp) | decide
  refine qL ?_
  iterate 7 refine qA ?_
  refine qE ?_
  refine sZ ?_
  refine pE ?_
  refine ag_block ?_
  refine ag_loopS (strBk_2 h K W) (prrBk_2 h K W) (fun ⟨n, v⟩ => 64 - n) (0, h) (ent_weak [0, 1, 2, 3] rfl rfl rfl rfl ?_ ?_ rfl) (show prrBk_2 h K W (0, h) from ?_) ?_
  ·exact ⟨⟨rfl, rfl⟩, ⟨rfl, rfl⟩, ⟨rfl, rfl⟩, ⟨rfl, rfl⟩, ⟨rfl, rfl⟩, ⟨rfl, rfl⟩, ⟨rfl, rfl⟩, ⟨rfl, rfl⟩, ⟨rfl, rfl⟩, ⟨rfl, rfl⟩, ⟨rfl, rfl⟩, ⟨rfl, rfl⟩, ⟨rfl, rfl⟩, trivial⟩
  ·exact ⟨⟨rfl, rfl, rfl⟩, ⟨rfl, rfl, rfl⟩, ⟨rfl, rfl, rfl⟩, ⟨rfl, rfl, rfl⟩, trivial⟩
  ·exact ⟨Nat.zero_le _, rfl⟩
  rintro ⟨n, v⟩ hp hrec
  obtain ⟨hn, hv⟩ : _ := hp
  refine sZ ?_
  refine pA ?_
  refine pE ?_
  refine ag_if rfl ?_ ?_
  ·intro h93
   refine sS ?_
   refine ag_block ?_
   refine ag_seq ?_
   refine qD ?_
   iterate 2 refine qA ?_
   refine aq_pur (w_turn v.e 6 (by decide) (by decide)) rfl rfl rfl rfl rfl rfl rfl ?_
   refine qA ?_
   refine aq_pur (w_turn v.e 11 (by decide) (by decide)) rfl rfl rfl rfl rfl rfl rfl ?_
   iterate 2 refine qA ?_
   refine aq_pur (w_turn v.e 25 (by decide) (by decide)) rfl rfl rfl rfl rfl rfl rfl ?_
   iterate 12 refine qA ?_
   refine qB ?_ ?_
   ·exact ⟨by omega, by omega⟩
   refine aq_loadAs0 tOk (.r (.int .u32 (K n))) rfl rfl rfl rfl rfl (by kernel_rfl) rfl rfl (ld64 rfl (by simp only [addo_eq, mulz_eq, Nat.mul_one]; omega) (by omega)) ?_
   iterate 2 refine qA ?_
   refine qB ?_ ?_
   ·exact ⟨by omega, by omega⟩
   refine aq_loadAs0 tOk (.r (.int .u32 (W n))) rfl rfl rfl rfl rfl (by kernel_rfl) rfl rfl (ld64 rfl (by simp only [addo_eq, mulz_eq, Nat.mul_one]; omega) (by omega)) ?_
   refine qA ?_
   refine qE ?_
   refine zB ?_
   refine pA ?_
   refine ar_pur (w_turn v.a 2 (by decide) (by decide)) rfl rfl rfl rfl rfl rfl rfl ?_
   refine pA ?_
   refine ar_pur (w_turn v.a 13 (by decide) (by decide)) rfl rfl rfl rfl rfl rfl rfl ?_
   iterate 2 refine pA ?_
   refine ar_pur (w_turn v.a 22 (by decide) (by decide)) rfl rfl rfl rfl rfl rfl rfl ?_
   iterate 13 refine pA ?_
   refine pE ?_
   refine ag_reg ?_
   iterate 19 refine pA ?_
   refine pE ?_
   refine iR ?_
   refine pA ?_
   refine pC ?_ ?_
   ·unfold inI64; omega
   refine pE ?_
   refine ag_ent (ent_weak (g' := (strBk_2 h K W (n + 1, rnd v (ad (K n) (W n)))).1) (h' := (strBk_2 h K W (n + 1, rnd v (ad (K n) (W n)))).2) [0, 1, 2, 3] rfl rfl rfl rfl ?_ ?_ rfl) ?_
   ·exact ⟨⟨rfl, rfl⟩, ⟨rfl, rfl⟩, ⟨rfl, rfl⟩, ⟨rfl, rfl⟩, ⟨rfl, by exact eqI (show ad (ad (rt1 v) (ad (K n) (W n))) (rt2 v) = ad (ad (ad (rt1 v) (K n)) (W n)) (rt2 v) by rw [← ad_assoc (rt1 v) (K n) (W n)])⟩, ⟨rfl, rfl⟩, ⟨rfl, rfl⟩, ⟨rfl, rfl⟩, ⟨rfl, by exact eqI (show ad v.d (ad (rt1 v) (ad (K n) (W n))) = ad v.d (ad (ad (rt1 v) (K n)) (W n)) by rw [← ad_assoc (rt1 v) (K n) (W n)])⟩, ⟨rfl, rfl⟩, ⟨rfl, rfl⟩, ⟨rfl, rfl⟩, ⟨rfl, by exact eqI (by omega)⟩, trivial⟩
   ·exact ⟨⟨rfl, rfl, rfl⟩, ⟨rfl, rfl, rfl⟩, ⟨rfl, rfl, rfl⟩, ⟨rfl, rfl, rfl⟩, trivial⟩
   have hnx := hrec (n + 1, rnd v (ad (K n) (W n)))
   refine hnx ?_ ?_
   ·exact ⟨by omega, by rw [hv]; rfl⟩
   ·show 64 - (n + 1) < 64 - n; omega
  ·intro h93
   refine ag_exit rfl ?_
   refine zB ?_
   refine pC ?_ ?_
   ·first | trivial | omega | (unfold inI64; omega) | (refine ⟨?_, ?_⟩ <;> first | trivial | rfl | omega | simp) | decide
   refine pB ?_
   iterate 2 refine pA ?_
   refine pC ?_ ?_
   ·first | trivial | omega | (unfold inI64; omega) | (refine ⟨?_, ?_⟩ <;> first | trivial | rfl | omega | simp) | decide
   refine pB ?_
   iterate 2 refine pA ?_
   refine pC ?_ ?_
   ·first | trivial | omega | (unfold inI64; omega) | (refine ⟨?_, ?_⟩ <;> first | trivial | rfl | omega | simp) | decide
   refine pB ?_
   iterate 2 refine pA ?_
   refine pC ?_ ?_
   ·first | trivial | omega | (unfold inI64; omega) | (refine ⟨?_, ?_⟩ <;> first | trivial | rfl | omega | simp) | decide
   refine pB ?_
   iterate 2 refine pA ?_
   refine pC ?_ ?_
   ·first | trivial | omega | (unfold inI64; omega) | (refine ⟨?_, ?_⟩ <;> first | trivial | rfl | omega | simp) | decide
   refine pB ?_
   iterate 2 refine pA ?_
   refine pC ?_ ?_
   ·first | trivial | omega | (unfold inI64; omega) | (refine ⟨?_, ?_⟩ <;> first | trivial | rfl | omega | simp) | decide
   refine pB ?_
   iterate 2 refine pA ?_
   refine pC ?_ ?_
   ·first | trivial | omega | (unfold inI64; omega) | (refine ⟨?_, ?_⟩ <;> first | trivial | rfl | omega | simp) | decide
   refine pB ?_
   iterate 2 refine pA ?_
   refine pC ?_ ?_
   ·first | trivial | omega | (unfold inI64; omega) | (refine ⟨?_, ?_⟩ <;> first | trivial | rfl | omega | simp) | decide
   refine pB ?_
   iterate 2 refine pA ?_
   refine pC ?_ ?_
   ·simp
   refine ar_store tOk (stepStore_arr (ys := (q8ad h v).cells) rfl rfl rfl rfl rfl rfl rfl rfl rfl) rfl rfl trivial ?_
   refine ar_nil ?_
   refine ag_ret (v := (q8ad h v).av) (q := True ∧ True) tOk Tryz.func93 (resultsA_arr rfl rfl rfl rfl rfl) rfl (by simp) ?_
   rw [hv, show n = 64 by omega]
def hO (h : Q8) (K : Nat → Int) : Hp := ⟨2, [(0, some (.plain h.cells)), (1, some (.plain (u64L K)))], false⟩
def strOv_0 (h : Q8) (K : Nat → Int) (p : List UInt8) : Nat × Q8 → Regs × Hp := fun x => ([(4, .ptr 0 0), (5, .ptr 1 0), (7, .r (.bs p)), (8, .r (.int .i64 (64 * (x.1 : Int))))], hO x.2 K)
def prrOv_0 (h : Q8) (K : Nat → Int) (p : List UInt8) : Nat × Q8 → Prop := fun ⟨j, S⟩ => 64 * j ≤ p.length ∧ S = blks K h p j
theorem w_rOverP (b p : List UInt8) (h : Q8) (K : Nat → Int) (hb : b.length ≤ 140737488355000) (hok : h.ok) (hp : padL b = p) : Pur Tryz.prog 79 [.r (.bs b), h.av, a64 K] (.r (.bs (shaK K h p))) := by
 have hPad : Pur Tryz.prog 92 [.r (.bs b)] (.r (.bs p)) := by rw [← hp]; exact w_rPad b hb
 have h64 : p.length % 64 = 0 := by rw [← hp]; exact padL_64 b
 have hlen : p.length ≤ 140737488355328 := by rw [← hp, padL_length]; unfold zk; omega
 refine spec_of_go (N := 39) Tryz.func79 rfl (by decide) rfl rfl ?_
 refine zB ?_
 refine ar_new tOk (stepNew_box (ys := h.cells) rfl rfl rfl rfl) rfl rfl trivial ?_
 refine ar_new tOk (stepNew_box (ys := u64L K) rfl rfl rfl rfl) rfl rfl trivial ?_
 refine pG ?_
 refine pA ?_
 refine ar_pur (hPad) rfl rfl rfl rfl rfl rfl rfl ?_
 refine pE ?_
 refine ag_ent (ent_body 0 (.mixed (h.cells.map .r)) (.plain h.cells) rfl rfl) ?_
 refine ag_ent (ent_body 1 (.mixed ((u64L K).map .r)) (.plain (u64L K)) rfl rfl) ?_
 refine ag_ent (ent_weak (g' := [(4, .ptr 0 0), (5, .ptr 1 0), (7, .r (.bs p))]) (h' := hO h K) [0, 1] rfl rfl rfl rfl ?_ ?_ rfl) ?_
 ·exact ⟨⟨rfl, rfl⟩, ⟨rfl, rfl⟩, ⟨rfl, rfl⟩, trivial⟩
 ·exact ⟨⟨rfl, rfl, rfl⟩, ⟨rfl, rfl, rfl⟩, trivial⟩
 refine sZ ?_
 refine pE ?_
 refine ag_block ?_
 refine ag_loopS (strOv_0 h K p) (prrOv_0 h K p) (fun ⟨j, S⟩ => p.length / 64 - j) (0, h) (ent_weak [0, 1] rfl rfl rfl rfl ?_ ?_ rfl) (show prrOv_0 h K p (0, h) from ?_) ?_
 ·exact ⟨⟨rfl, rfl⟩, ⟨rfl, rfl⟩, ⟨rfl, rfl⟩, ⟨rfl, rfl⟩, trivial⟩
 ·exact ⟨⟨rfl, rfl, rfl⟩, ⟨rfl, rfl, rfl⟩, trivial⟩
 ·exact ⟨Nat.zero_le _, rfl⟩
 rintro ⟨j, S⟩ hp_ hrec
 obtain ⟨hj, hS⟩ : _ := hp_
 refine sZ ?_
 iterate 3 refine pA ?_
 refine pE ?_
 refine ag_if rfl ?_ ?_
 ·intro h16
  have hlt : 64 * j + 64 ≤ p.length := by omega
  refine sS ?_
  refine ag_block ?_
  apply ag_draw1 [] (by kernel_rfl) (by kernel_rfl)
  refine qL ?_
  refine aq_loadAs0 tOk (a64 K) rfl rfl rfl rfl rfl (by kernel_rfl) rfl rfl (.inr ⟨rfl, _, rfl, agg64, by simp [u64L, fnL]⟩) ?_
  iterate 3 refine qA ?_
  refine qB ?_ ?_
  ·unfold inI64; omega
  refine qB ?_ ?_
  ·simp only [boundsOk]; omega
  refine aq_pur (w_rblock S K (cutL p 1 (some (64 * (j : Int))) (some (64 * (j : Int) + 64))) (by rw [chunk_eq (by omega) rfl]; simp; omega)) rfl rfl rfl rfl rfl rfl rfl ?_
  refine aq_store10 tOk (stepStore_arr (ys := (blk8 K S (cutL p 1 (some (64 * (j : Int))) (some (64 * (j : Int) + 64)))).cells) rfl rfl rfl rfl rfl rfl rfl rfl rfl) rfl rfl rfl trivial ?_
  refine aq_nil rfl ?_
  refine iR ?_
  refine pA ?_
  refine pC ?_ ?_
  ·unfold inI64; omega
  refine pE ?_
  refine ag_ent (ent_weak (g' := (strOv_0 h K p (j + 1, blk8 K S (cutL p 1 (some (64 * (j : Int))) (some (64 * (j : Int) + 64))))).1) (h' := (strOv_0 h K p (j + 1, blk8 K S (cutL p 1 (some (64 * (j : Int))) (some (64 * (j : Int) + 64))))).2) [0, 1] rfl rfl rfl rfl ?_ ?_ rfl) ?_
  ·exact ⟨⟨rfl, rfl⟩, ⟨rfl, rfl⟩, ⟨rfl, rfl⟩, ⟨rfl, by exact eqI (by omega)⟩, trivial⟩
  ·exact ⟨⟨rfl, rfl, rfl⟩, ⟨rfl, rfl, rfl⟩, trivial⟩
  have hnx := hrec (j + 1, blk8 K S (cutL p 1 (some (64 * (j : Int))) (some (64 * (j : Int) + 64))))
  refine hnx ?_ ?_
  ·exact ⟨by omega, by rw [hS, chunk_eq (by omega) rfl]; rfl⟩
  ·show p.length / 64 - (j + 1) < p.length / 64 - j; omega
 ·intro h16
  have ok8 := blks_ok K h hok p j
  rw [← hS] at ok8
  have hjj : shaK K h p = out8 S := by unfold shaK; rw [show p.length / 64 = j by omega, ← hS]
  rw [hjj]
  clear hrec hjj hS
  obtain ⟨k0, k1, k2, k3, k4, k5, k6, k7⟩ := ok8
  unfold U32 at k0 k1 k2 k3 k4 k5 k6 k7
  refine ag_exit rfl ?_
  refine zB ?_
  refine pF ?_
  refine zB ?_
  refine pE ?_
  refine ag_block ?_
  refine ag_unroll ?_
  refine sZ ?_
  refine pA ?_
  refine pE ?_
  refine vA ?_
  refine sS ?_
  refine ag_block ?_
  refine ag_reg ?_
  refine pA ?_
  refine ar_ent (ent_nil 31 (.bs []) rfl (.inl rfl)) ?_
  refine pA ?_
  refine pC ?_ ?_
  ·first | trivial | omega | (unfold inI64; omega) | (refine ⟨?_, ?_⟩ <;> first | trivial | rfl | omega | simp) | decide
  refine pB ?_
  refine pC ?_ ?_
  ·show inI64 S.a
   unfold inI64; omega
  refine ar_pur (own_ro_bytes (w_rNum S.a 4 4 (by decide)) (by rw [numL_length])) rfl rfl rfl rfl rfl rfl rfl ?_
  refine ar_pur (w_rCat ([]) (numL 4 S.a) (by simp [numL_length])) rfl rfl rfl rfl rfl rfl rfl ?_
  refine pE ?_
  refine ag_ent (ent_weak (g' := [(4, .ptr 0 0), (10, .r (.int .i64 0)), (9, .r (.bs ([] ++ numL 4 S.a)))]) (h' := hO S K) [0, 1] rfl rfl rfl rfl ?_ ?_ rfl) ?_
  ·exact ⟨⟨rfl, rfl⟩, ⟨rfl, rfl⟩, ⟨rfl, rfl⟩, trivial⟩
  ·exact ⟨⟨rfl, rfl, rfl⟩, ⟨rfl, rfl, rfl⟩, trivial⟩
  refine iR ?_
  refine pA ?_
  refine pC ?_ ?_
  ·unfold inI64; omega
  refine pE ?_
  refine ag_again ?_
  refine sZ ?_
  refine pA ?_
  refine pE ?_
  refine vA ?_
  refine sS ?_
  refine ag_block ?_
  refine ag_reg ?_
  refine pA ?_
  skip
  refine pA ?_
  refine pC ?_ ?_
  ·first | trivial | omega | (unfold inI64; omega) | (refine ⟨?_, ?_⟩ <;> first | trivial | rfl | omega | simp) | decide
  refine pB ?_
  refine pC ?_ ?_
  ·show inI64 S.b
   unfold inI64; omega
  refine ar_pur (own_ro_bytes (w_rNum S.b 4 4 (by decide)) (by rw [numL_length])) rfl rfl rfl rfl rfl rfl rfl ?_
  refine ar_pur (w_rCat ([] ++ numL 4 S.a) (numL 4 S.b) (by simp [numL_length])) rfl rfl rfl rfl rfl rfl rfl ?_
  refine pE ?_
  refine ag_ent (ent_weak (g' := [(4, .ptr 0 0), (10, .r (.int .i64 1)), (9, .r (.bs ([] ++ numL 4 S.a ++ numL 4 S.b)))]) (h' := hO S K) [0, 1] rfl rfl rfl rfl ?_ ?_ rfl) ?_
  ·exact ⟨⟨rfl, rfl⟩, ⟨rfl, rfl⟩, ⟨rfl, rfl⟩, trivial⟩
  ·exact ⟨⟨rfl, rfl, rfl⟩, ⟨rfl, rfl, rfl⟩, trivial⟩
  refine iR ?_
  refine pA ?_
  refine pC ?_ ?_
  ·unfold inI64; omega
  refine pE ?_
  refine ag_again ?_
  refine sZ ?_
  refine pA ?_
  refine pE ?_
  refine vA ?_
  refine sS ?_
  refine ag_block ?_
  refine ag_reg ?_
  refine pA ?_
  skip
  refine pA ?_
  refine pC ?_ ?_
  ·first | trivial | omega | (unfold inI64; omega) | (refine ⟨?_, ?_⟩ <;> first | trivial | rfl | omega | simp) | decide
  refine pB ?_
  refine pC ?_ ?_
  ·show inI64 S.c
   unfold inI64; omega
  refine ar_pur (own_ro_bytes (w_rNum S.c 4 4 (by decide)) (by rw [numL_length])) rfl rfl rfl rfl rfl rfl rfl ?_
  refine ar_pur (w_rCat ([] ++ numL 4 S.a ++ numL 4 S.b) (numL 4 S.c) (by simp [numL_length])) rfl rfl rfl rfl rfl rfl rfl ?_
  refine pE ?_
  refine ag_ent (ent_weak (g' := [(4, .ptr 0 0), (10, .r (.int .i64 2)), (9, .r (.bs ([] ++ numL 4 S.a ++ numL 4 S.b ++ numL 4 S.c)))]) (h' := hO S K) [0, 1] rfl rfl rfl rfl ?_ ?_ rfl) ?_
  ·exact ⟨⟨rfl, rfl⟩, ⟨rfl, rfl⟩, ⟨rfl, rfl⟩, trivial⟩
  ·exact ⟨⟨rfl, rfl, rfl⟩, ⟨rfl, rfl, rfl⟩, trivial⟩
  refine iR ?_
  refine pA ?_
  refine pC ?_ ?_
  ·unfold inI64; omega
  refine pE ?_
  refine ag_again ?_
  refine sZ ?_
  refine pA ?_
  refine pE ?_
  refine vA ?_
  refine sS ?_
  refine ag_block ?_
  refine ag_reg ?_
  refine pA ?_
  skip
  refine pA ?_
  refine pC ?_ ?_
  ·first | trivial | omega | (unfold inI64; omega) | (refine ⟨?_, ?_⟩ <;> first | trivial | rfl | omega | simp) | decide
  refine pB ?_
  refine pC ?_ ?_
  ·show inI64 S.d
   unfold inI64; omega
  refine ar_pur (own_ro_bytes (w_rNum S.d 4 4 (by decide)) (by rw [numL_length])) rfl rfl rfl rfl rfl rfl rfl ?_
  refine ar_pur (w_rCat ([] ++ numL 4 S.a ++ numL 4 S.b ++ numL 4 S.c) (numL 4 S.d) (by simp [numL_length])) rfl rfl rfl rfl rfl rfl rfl ?_
  refine pE ?_
  refine ag_ent (ent_weak (g' := [(4, .ptr 0 0), (10, .r (.int .i64 3)), (9, .r (.bs ([] ++ numL 4 S.a ++ numL 4 S.b ++ numL 4 S.c ++ numL 4 S.d)))]) (h' := hO S K) [0, 1] rfl rfl rfl rfl ?_ ?_ rfl) ?_
  ·exact ⟨⟨rfl, rfl⟩, ⟨rfl, rfl⟩, ⟨rfl, rfl⟩, trivial⟩
  ·exact ⟨⟨rfl, rfl, rfl⟩, ⟨rfl, rfl, rfl⟩, trivial⟩
  refine iR ?_
  refine pA ?_
  refine pC ?_ ?_
  ·unfold inI64; omega
  refine pE ?_
  refine ag_again ?_
  refine sZ ?_
  refine pA ?_
  refine pE ?_
  refine vA ?_
  refine sS ?_
  refine ag_block ?_
  refine ag_reg ?_
  refine pA ?_
  skip
  refine pA ?_
  refine pC ?_ ?_
  ·first | trivial | omega | (unfold inI64; omega) | (refine ⟨?_, ?_⟩ <;> first | trivial | rfl | omega | simp) | decide
  refine pB ?_
  refine pC ?_ ?_
  ·show inI64 S.e
   unfold inI64; omega
  refine ar_pur (own_ro_bytes (w_rNum S.e 4 4 (by decide)) (by rw [numL_length])) rfl rfl rfl rfl rfl rfl rfl ?_
  refine ar_pur (w_rCat ([] ++ numL 4 S.a ++ numL 4 S.b ++ numL 4 S.c ++ numL 4 S.d) (numL 4 S.e) (by simp [numL_length])) rfl rfl rfl rfl rfl rfl rfl ?_
  refine pE ?_
  refine ag_ent (ent_weak (g' := [(4, .ptr 0 0), (10, .r (.int .i64 4)), (9, .r (.bs ([] ++ numL 4 S.a ++ numL 4 S.b ++ numL 4 S.c ++ numL 4 S.d ++ numL 4 S.e)))]) (h' := hO S K) [0, 1] rfl rfl rfl rfl ?_ ?_ rfl) ?_
  ·exact ⟨⟨rfl, rfl⟩, ⟨rfl, rfl⟩, ⟨rfl, rfl⟩, trivial⟩
  ·exact ⟨⟨rfl, rfl, rfl⟩, ⟨rfl, rfl, rfl⟩, trivial⟩
  refine iR ?_
  refine pA ?_
  refine pC ?_ ?_
  ·unfold inI64; omega
  refine pE ?_
  refine ag_again ?_
  refine sZ ?_
  refine pA ?_
  refine pE ?_
  refine vA ?_
  refine sS ?_
  refine ag_block ?_
  refine ag_reg ?_
  refine pA ?_
  skip
  refine pA ?_
  refine pC ?_ ?_
  ·first | trivial | omega | (unfold inI64; omega) | (refine ⟨?_, ?_⟩ <;> first | trivial | rfl | omega | simp) | decide
  refine pB ?_
  refine pC ?_ ?_
  ·show inI64 S.f
   unfold inI64; omega
  refine ar_pur (own_ro_bytes (w_rNum S.f 4 4 (by decide)) (by rw [numL_length])) rfl rfl rfl rfl rfl rfl rfl ?_
  refine ar_pur (w_rCat ([] ++ numL 4 S.a ++ numL 4 S.b ++ numL 4 S.c ++ numL 4 S.d ++ numL 4 S.e) (numL 4 S.f) (by simp [numL_length])) rfl rfl rfl rfl rfl rfl rfl ?_
  refine pE ?_
  refine ag_ent (ent_weak (g' := [(4, .ptr 0 0), (10, .r (.int .i64 5)), (9, .r (.bs ([] ++ numL 4 S.a ++ numL 4 S.b ++ numL 4 S.c ++ numL 4 S.d ++ numL 4 S.e ++ numL 4 S.f)))]) (h' := hO S K) [0, 1] rfl rfl rfl rfl ?_ ?_ rfl) ?_
  ·exact ⟨⟨rfl, rfl⟩, ⟨rfl, rfl⟩, ⟨rfl, rfl⟩, trivial⟩
  ·exact ⟨⟨rfl, rfl, rfl⟩, ⟨rfl, rfl, rfl⟩, trivial⟩
  refine iR ?_
  refine pA ?_
  refine pC ?_ ?_
  ·unfold inI64; omega
  refine pE ?_
  refine ag_again ?_
  refine sZ ?_
  refine pA ?_
  refine pE ?_
  refine vA ?_
  refine sS ?_
  refine ag_block ?_
  refine ag_reg ?_
  refine pA ?_
  skip
  refine pA ?_
  refine pC ?_ ?_
  ·first | trivial | omega | (unfold inI64; omega) | (refine ⟨?_, ?_⟩ <;> first | trivial | rfl | omega | simp) | decide
  refine pB ?_
  refine pC ?_ ?_
  ·show inI64 S.g
   unfold inI64; omega
  refine ar_pur (own_ro_bytes (w_rNum S.g 4 4 (by decide)) (by rw [numL_length])) rfl rfl rfl rfl rfl rfl rfl ?_
  refine ar_pur (w_rCat ([] ++ numL 4 S.a ++ numL 4 S.b ++ numL 4 S.c ++ numL 4 S.d ++ numL 4 S.e ++ numL 4 S.f) (numL 4 S.g) (by simp [numL_length])) rfl rfl rfl rfl rfl rfl rfl ?_
  refine pE ?_
  refine ag_ent (ent_weak (g' := [(4, .ptr 0 0), (10, .r (.int .i64 6)), (9, .r (.bs ([] ++ numL 4 S.a ++ numL 4 S.b ++ numL 4 S.c ++ numL 4 S.d ++ numL 4 S.e ++ numL 4 S.f ++ numL 4 S.g)))]) (h' := hO S K) [0, 1] rfl rfl rfl rfl ?_ ?_ rfl) ?_
  ·exact ⟨⟨rfl, rfl⟩, ⟨rfl, rfl⟩, ⟨rfl, rfl⟩, trivial⟩
  ·exact ⟨⟨rfl, rfl, rfl⟩, ⟨rfl, rfl, rfl⟩, trivial⟩
  refine iR ?_
  refine pA ?_
  refine pC ?_ ?_
  ·unfold inI64; omega
  refine pE ?_
  refine ag_again ?_
  refine sZ ?_
  refine pA ?_
  refine pE ?_
  refine vA ?_
  refine sS ?_
  refine ag_block ?_
  refine ag_reg ?_
  refine pA ?_
  skip
  refine pA ?_
  refine pC ?_ ?_
  ·first | trivial | omega | (unfold inI64; omega) | (refine ⟨?_, ?_⟩ <;> first | trivial | rfl | omega | simp) | decide
  refine pB ?_
  refine pC ?_ ?_
  ·show inI64 S.h
   unfold inI64; omega
  refine ar_pur (own_ro_bytes (w_rNum S.h 4 4 (by decide)) (by rw [numL_length])) rfl rfl rfl rfl rfl rfl rfl ?_
  refine ar_pur (w_rCat ([] ++ numL 4 S.a ++ numL 4 S.b ++ numL 4 S.c ++ numL 4 S.d ++ numL 4 S.e ++ numL 4 S.f ++ numL 4 S.g) (numL 4 S.h) (by simp [numL_length])) rfl rfl rfl rfl rfl rfl rfl ?_
  refine pE ?_
  refine ag_ent (ent_weak (g' := [(4, .ptr 0 0), (10, .r (.int .i64 7)), (9, .r (.bs ([] ++ numL 4 S.a ++ numL 4 S.b ++ numL 4 S.c ++ numL 4 S.d ++ numL 4 S.e ++ numL 4 S.f ++ numL 4 S.g ++ numL 4 S.h)))]) (h' := hO S K) [0, 1] rfl rfl rfl rfl ?_ ?_ rfl) ?_
  ·exact ⟨⟨rfl, rfl⟩, ⟨rfl, rfl⟩, ⟨rfl, rfl⟩, trivial⟩
  ·exact ⟨⟨rfl, rfl, rfl⟩, ⟨rfl, rfl, rfl⟩, trivial⟩
  refine iR ?_
  refine pA ?_
  refine pC ?_ ?_
  ·unfold inI64; omega
  refine pE ?_
  refine ag_again ?_
  refine sZ ?_
  refine pA ?_
  refine pE ?_
  refine vD ?_
  refine ag_exit rfl ?_
  refine zB ?_
  refine pA ?_
  refine pE ?_
  refine ag_ret tOk Tryz.func79 rfl rfl (by simp) ?_
  exact eqBsv (by simp [out8])
theorem w_rOver (b : List UInt8) (h : Q8) (K : Nat → Int) (hb : b.length ≤ 140737488355000) (hok : h.ok) : Pur Tryz.prog 79 [.r (.bs b), h.av, a64 K] (.r (.bs (shaK K h (padL b)))) := w_rOverP b _ h K hb hok rfl
theorem w_rSum (b : List UInt8) (hb : b.length ≤ 140737488355000) : Pur Tryz.prog 60 [.r (.bs b)] (.r (.bs (sha b))) := by
 refine spec_of_go (N := 7) Tryz.func60 rfl (by decide) rfl rfl ?_
 refine zB ?_
 refine pG ?_
 refine pA ?_
 refine pC ?_ ?_
 ·simp
 refine ar_pur (w_table) rfl rfl rfl rfl rfl rfl rfl ?_
 refine ar_pur (w_rOver b q0 keyF hb q0_ok) rfl rfl rfl rfl rfl rfl rfl ?_
 refine pE ?_
 refine ag_ret tOk Tryz.func60 rfl rfl (by simp) ?_
 rfl
end Go.Proofs.YtccdhgmkjakjkaaGreat

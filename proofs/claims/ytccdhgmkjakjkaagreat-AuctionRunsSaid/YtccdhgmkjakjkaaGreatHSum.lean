/-
  WALKS: hash.Sum. (Printed by gen.py out of w_hsum.py.)
-/
import Derived.Test.YtccdhgmkjakjkaaGreatHPad
namespace Go.Proofs.YtccdhgmkjakjkaaGreat
open Go
set_option maxRecDepth 20000
set_option linter.unusedVariables false
set_option linter.unusedSimpArgs false
def rds (K W : Nat → Int) (s : Q8) : Nat → Q8
 | 0 => s
 | n + 1 => rnd (rds K W s n) (ad (K n) (W n))
def q8ad (s v : Q8) : Q8 := ⟨ad s.a v.a, ad s.b v.b, ad s.c v.c, ad s.d v.d, ad s.e v.e, ad s.f v.f, ad s.g v.g, ad s.h v.h⟩
def blk8 (K : Nat → Int) (s : Q8) (p : List UInt8) : Q8 := q8ad s (rds K (Wst p 64) s 64)
def blks (K : Nat → Int) (s : Q8) (p : List UInt8) : Nat → Q8
 | 0 => s
 | j + 1 => blk8 K (blks K s p j) ((p.drop (64 * j)).take 64)
def out8 (s : Q8) : List UInt8 := numL 4 s.a ++ numL 4 s.b ++ numL 4 s.c ++ numL 4 s.d ++ numL 4 s.e ++ numL 4 s.f ++ numL 4 s.g ++ numL 4 s.h
def shaK (K : Nat → Int) (s : Q8) (p : List UInt8) : List UInt8 := out8 (blks K s p (p.length / 64))
def sha (b : List UInt8) : List UInt8 := shaK keyF q0 (padL b)
theorem out8_length (s : Q8) : (out8 s).length = 32 := by simp [out8, numL_length]
theorem sha_length (b : List UInt8) : (sha b).length = 32 := out8_length _
def Q8.ok (s : Q8) : Prop := U32 s.a ∧ U32 s.b ∧ U32 s.c ∧ U32 s.d ∧ U32 s.e ∧ U32 s.f ∧ U32 s.g ∧ U32 s.h
theorem ad_ok (x y : Int) : U32 (ad x y) := by unfold U32 ad; rw [wu32]; omega
theorem q8ad_ok (s v : Q8) : (q8ad s v).ok := ⟨ad_ok _ _, ad_ok _ _, ad_ok _ _, ad_ok _ _, ad_ok _ _, ad_ok _ _, ad_ok _ _, ad_ok _ _⟩
theorem q0_ok : q0.ok := by unfold Q8.ok U32 q0; decide
theorem blks_ok (K : Nat → Int) (s : Q8) (hs : s.ok) (p : List UInt8) : ∀ j, (blks K s p j).ok
 | 0 => hs
 | j + 1 => q8ad_ok _ _
def hH (p : List UInt8) (s : Q8) : Hp := ⟨4, [(0, some (.plain s.cells)), (1, some (.plain (u64L keyF))), (2, some (.mixed [.r (.bs p)])), (3, some (.mixed [.r (.int .i64 64)]))], false⟩
def hV (p : List UInt8) (s v : Q8) : Hp := ⟨5, [(0, some (.plain s.cells)), (1, some (.plain (u64L keyF))), (2, some (.mixed [.r (.bs p)])), (3, some (.mixed [.r (.int .i64 64)])), (4, some (.plain v.cells))], false⟩
def gH : Regs := [(18, .func 94 [.ptr 2 0, .ptr 3 0]), (3, .ptr 0 0), (4, .ptr 1 0)]
theorem hH_gh (p : List UInt8) (s : Q8) : ({ hH p s with gh := !true } : Hp) = hH p s := rfl
def yH (p : List UInt8) : YRel := fun args h v h' => ∃ (s : Q8) (c : List UInt8), c.length = 64 ∧ args = [.r (.bs c)] ∧ h = hH p s ∧ v = true ∧ h' = hH p (blk8 keyF s c)
theorem idx64 (W : Nat → Int) {n : Nat} (h : n < 64) : ((u64L W).map AVal.r)[mulz (n : Int) 1]? = some (.r (.int .u32 (W n))) := by
 rw [mulz_eq, Nat.mul_one, Int.toNat_natCast, List.getElem?_map]
 simp only [u64L]
 rw [fnL_get h]; rfl
theorem chunk_eq {p : List UInt8} {j : Nat} (h : 64 * j + 64 ≤ p.length) {m : Int} (hm : m = 64 * (j : Int) + 64) : cutL p 1 (some (64 * (j : Int))) (some m) = (p.drop (64 * j)).take 64 := by
 subst hm
 simp only [cutL, mulz]
 rw [show (64 * (j : Int)).toNat = 64 * j by omega, show (64 * (j : Int) + 64 - 64 * (j : Int)).toNat = 64 by omega]
def stHCh_0 (p : List UInt8) (l0 : Nat) : Nat → Regs × Hp := fun j => ([(4, .r (.int .i64 (64 * (j : Int)))), (0, .yld l0), (1, .ptr 2 0), (2, .ptr 3 0)], hH p (blks keyF q0 p j))
def prHCh_0 (p : List UInt8) (l0 : Nat) : Nat → Prop := fun j => 64 * j ≤ p.length
def stSum_2 (p : List UInt8) (W : Nat → Int) (s : Q8) : Nat × Q8 → Regs × Hp := fun x => ([(3, .ptr 0 0), (4, .ptr 1 0), (7, .ptr 4 0), (23, a64 W), (24, .r (.int .i64 (x.1 : Int)))], hV p s x.2)
def prSum_2 (p : List UInt8) (W : Nat → Int) (s : Q8) : Nat × Q8 → Prop := fun ⟨n, v⟩ => n ≤ 64 ∧ v = rds keyF W s n
theorem w_SumP (b p : List UInt8) (hb : b.length ≤ 140737488355000) (hp : padL b = p) : Pur Tryz.prog 91 [.r (.bs b)] (.r (.bs (sha b))) := by
 have hPad : Pur Tryz.prog 102 [.r (.bs b)] (.r (.bs p)) := by rw [← hp]; exact w_Pad b hb
 have h64 : p.length % 64 = 0 := by rw [← hp]; exact padL_64 b
 have hlen : p.length ≤ 140737488355328 := by rw [← hp, padL_length]; unfold zk; omega
 refine spec_of_go (N := 59) Tryz.func91 rfl (by decide) rfl rfl ?_
 refine zB ?_
 refine pG ?_
 refine ar_pur (w_begin) rfl rfl rfl rfl rfl rfl rfl ?_
 refine ar_pur (w_keys) rfl rfl rfl rfl rfl rfl rfl ?_
 refine pN ?_ ?_
 ·simp
 refine pN ?_ ?_
 ·simp
 refine ar_store tOk (stepStore_arr (ys := q0.cells) rfl rfl rfl rfl rfl rfl rfl rfl rfl) rfl rfl trivial ?_
 refine ar_store tOk (stepStore_arr (ys := u64L keyF) rfl rfl rfl rfl rfl rfl (by simp [u64L, fnL]) (by simp [u64L, fnL]) rfl) rfl rfl trivial ?_
 refine ar_nil ?_
 refine ag_ent (ent_weak (g' := [(0, .r (.bs b)), (3, .ptr 0 0), (4, .ptr 1 0)]) (h' := ⟨2, [(0, some (.plain q0.cells)), (1, some (.plain (u64L keyF)))], false⟩) [0, 1] rfl rfl rfl rfl ?_ ?_ rfl) ?_
 ·exact ⟨⟨rfl, rfl⟩, ⟨rfl, rfl⟩, ⟨rfl, rfl⟩, trivial⟩
 ·exact ⟨⟨rfl, rfl, rfl⟩, ⟨rfl, rfl, rfl⟩, trivial⟩
 refine sZ ?_
 refine pA ?_
 refine ar_pur (hPad) rfl rfl rfl rfl rfl rfl rfl ?_
 refine ar_inline (PostI := fun v h' => v = .func 94 [.ptr 2 0, .ptr 3 0] ∧ h' = ⟨4, [(3, some (.mixed [.r (.int .i64 64)])), (2, some (.mixed [.r (.bs p)])), (0, some (.plain q0.cells)), (1, some (.plain (u64L keyF)))], false⟩) Tryz.func81 rfl rfl (by decide) rfl rfl rfl rfl rfl rfl ?_ ?_
 ·skip
  refine zB ?_
  iterate 2 refine pM ?_
  refine pF ?_
  refine zB ?_
  refine pB ?_
  refine pE ?_
  refine vD ?_
  refine ag_skip ?_
  refine zB ?_
  refine pA ?_
  refine pE ?_
  refine ag_ret tOk Tryz.func81 rfl rfl (by trivial) ?_
  exact ⟨rfl, rfl⟩
 rintro v h' ⟨rfl, rfl⟩
 refine ar_nil ?_
 refine ag_ent (ent_weak (g' := gH) (h' := hH p q0) [0, 1, 2, 3] rfl rfl rfl rfl ?_ ?_ rfl) ?_
 ·exact ⟨⟨rfl, rfl⟩, ⟨rfl, rfl⟩, ⟨rfl, rfl⟩, trivial⟩
 ·exact ⟨⟨rfl, rfl, rfl⟩, ⟨rfl, rfl, rfl⟩, ⟨rfl, rfl, rfl⟩, ⟨rfl, rfl, rfl⟩, trivial⟩
 refine ag_block ?_
 refine ag_range 4 (yH p) (fun args => (5, args.getD 0 .any) :: (19, args.getD 0 .any) :: gH) (fun h' => h' = hH p (blks keyF q0 p (p.length / 64))) rfl rfl rfl rfl rfl rfl rfl Tryz.func94 rfl (by decide) rfl rfl rfl ?_ ?_ ?_ ?_
 ·rintro args h v h' ⟨s, c, h1, rfl, rfl, rfl, rfl⟩
  exact ⟨rfl, asgOk_region tOk rfl ⟨trivial, trivial⟩⟩
 ·rintro args h v h' ⟨s, c, h1, rfl, rfl, rfl, rfl⟩
  obtain ⟨W, hW⟩ : ∃ W, W = Wst c 64 := ⟨_, rfl⟩
  have hsch : Pur Tryz.prog 103 [.r (.bs c)] (a64 W) := by rw [hW]; exact w_schedule c h1
  have hblk : blk8 keyF s c = q8ad s (rds keyF W s 64) := by rw [hW]; rfl
  rw [hblk]
  clear hW hblk
  refine bX ?_
  refine pA ?_
  refine ar_pur (hsch) rfl rfl rfl rfl rfl rfl rfl ?_
  refine pN ?_ ?_
  ·simp
  refine ar_store tOk (stepStore_arr (ys := u64L W) rfl rfl rfl rfl rfl rfl (by simp [u64L, fnL]) (by simp [u64L, fnL]) rfl) rfl rfl trivial ?_
  refine zC ?_
  refine pB ?_
  refine pN ?_ ?_
  ·simp
  refine ar_store tOk (stepStore_arr (ys := s.cells) rfl rfl rfl rfl rfl rfl rfl rfl rfl) rfl rfl trivial ?_
  refine zA ?_
  refine zB ?_
  refine ar_loadAs tOk (a64 W) rfl rfl rfl rfl rfl rfl rfl (.inr ⟨rfl, _, rfl, agg64, by simp [u64L, fnL]⟩) ?_
  refine pE ?_
  refine ag_ent (ent_weak (g' := [(3, .ptr 0 0), (4, .ptr 1 0), (7, .ptr 4 0), (23, a64 W), (24, .r (.int .i64 ((0 : Nat) : Int)))]) (h' := hV p s s) [0, 1, 2, 3, 5] rfl rfl rfl rfl ?_ ?_ rfl) ?_
  ·exact ⟨⟨rfl, rfl⟩, ⟨rfl, rfl⟩, ⟨rfl, rfl⟩, ⟨rfl, rfl⟩, ⟨rfl, rfl⟩, trivial⟩
  ·exact ⟨⟨rfl, rfl, rfl⟩, ⟨rfl, rfl, rfl⟩, ⟨rfl, rfl, rfl⟩, ⟨rfl, rfl, rfl⟩, ⟨rfl, rfl, rfl⟩, trivial⟩
  refine ag_block ?_
  refine ag_loopS (stSum_2 p W s) (prSum_2 p W s) (fun ⟨n, v⟩ => 64 - n) (0, s) (ent_weak [0, 1, 2, 3, 4] rfl rfl rfl rfl ?_ ?_ rfl) (show prSum_2 p W s (0, s) from ?_) ?_
  ·exact ⟨⟨rfl, rfl⟩, ⟨rfl, rfl⟩, ⟨rfl, rfl⟩, ⟨rfl, rfl⟩, ⟨rfl, rfl⟩, trivial⟩
  ·exact ⟨⟨rfl, rfl, rfl⟩, ⟨rfl, rfl, rfl⟩, ⟨rfl, rfl, rfl⟩, ⟨rfl, rfl, rfl⟩, ⟨rfl, rfl, rfl⟩, trivial⟩
  ·exact ⟨Nat.zero_le _, rfl⟩
  rintro ⟨n, v⟩ hp hrec
  obtain ⟨hn, hv⟩ : _ := hp
  refine zB ?_
  refine pF ?_
  refine ag_if rfl ?_ ?_
  ·intro h25
   refine sS ?_
   refine bX ?_
   refine pA ?_
   refine ar_pure tOk (stepPure_index rfl rfl rfl rfl rfl rfl rfl rfl rfl (idx64 W (show n < 64 by omega))) rfl rfl ⟨by omega, by omega⟩ ?_
   refine pA ?_
   refine pE ?_
   apply ag_draw1 [] (by kernel_rfl) (by kernel_rfl)
   refine qL ?_
   refine qA ?_
   refine qB ?_ ?_
   ·exact ⟨by omega, by omega⟩
   refine aq_loadAs0 tOk (.r (.int .u32 (keyF n))) rfl rfl rfl rfl rfl (by kernel_rfl) rfl rfl (ld64 rfl (by simp only [addo_eq, mulz_eq, Nat.mul_one]; omega) (by omega)) ?_
   iterate 2 refine qA ?_
   refine aq_pur (w_round v (ad (keyF n) (W n))) rfl rfl rfl rfl rfl rfl rfl ?_
   refine aq_store10 tOk (stepStore_arr (ys := (rnd v (ad (keyF n) (W n))).cells) rfl rfl rfl rfl rfl rfl rfl rfl rfl) rfl rfl rfl trivial ?_
   refine aq_nil rfl ?_
   refine iR ?_
   refine pC ?_ ?_
   ·unfold inI64; omega
   refine pE ?_
   refine ag_ent (ent_weak (g' := (stSum_2 p W s (n + 1, (rnd v (ad (keyF n) (W n))))).1) (h' := (stSum_2 p W s (n + 1, (rnd v (ad (keyF n) (W n))))).2) [0, 1, 2, 3, 4] rfl rfl rfl rfl ?_ ?_ rfl) ?_
   ·exact ⟨⟨rfl, rfl⟩, ⟨rfl, rfl⟩, ⟨rfl, rfl⟩, ⟨rfl, rfl⟩, ⟨rfl, by exact eqI (by omega)⟩, trivial⟩
   ·exact ⟨⟨rfl, rfl, rfl⟩, ⟨rfl, rfl, rfl⟩, ⟨rfl, rfl, rfl⟩, ⟨rfl, rfl, rfl⟩, ⟨rfl, rfl, rfl⟩, trivial⟩
   have hnx := hrec (n + 1, (rnd v (ad (keyF n) (W n))))
   refine hnx ?_ ?_
   ·exact ⟨by omega, by rw [hv]; rfl⟩
   ·show 64 - (n + 1) < 64 - n; omega
  ·intro h25
   refine ag_exit rfl ?_
   refine zB ?_
   refine pE ?_
   refine ag_block ?_
   refine ag_unroll ?_
   refine zB ?_
   refine pF ?_
   refine vA ?_
   refine sS ?_
   refine bX ?_
   refine pA ?_
   refine pE ?_
   apply ag_draw1 [] (by kernel_rfl) (by kernel_rfl)
   refine qA ?_
   refine qB ?_ ?_
   ·first | trivial | omega | (unfold inI64; omega) | (refine ⟨?_, ?_⟩ <;> first | trivial | rfl | omega | simp) | decide
   refine qL ?_
   refine qA ?_
   refine qB ?_ ?_
   ·first | trivial | omega | (unfold inI64; omega) | (refine ⟨?_, ?_⟩ <;> first | trivial | rfl | omega | simp) | decide
   refine qL ?_
   refine qA ?_
   refine qB ?_ ?_
   ·first | trivial | omega | (unfold inI64; omega) | (refine ⟨?_, ?_⟩ <;> first | trivial | rfl | omega | simp) | decide
   refine aq_store10 tOk rfl rfl rfl rfl ?_ ?_
   ·exact of_decide_eq_true rfl
   refine aq_nil rfl ?_
   refine iR ?_
   refine pC ?_ ?_
   ·first | trivial | omega | (unfold inI64; omega) | (refine ⟨?_, ?_⟩ <;> first | trivial | rfl | omega | simp) | decide
   refine pE ?_
   refine ag_again ?_
   refine zB ?_
   refine pF ?_
   refine vA ?_
   refine sS ?_
   refine bX ?_
   refine pA ?_
   refine pE ?_
   apply ag_draw1 [] (by kernel_rfl) (by kernel_rfl)
   refine qA ?_
   refine qB ?_ ?_
   ·first | trivial | omega | (unfold inI64; omega) | (refine ⟨?_, ?_⟩ <;> first | trivial | rfl | omega | simp) | decide
   refine qL ?_
   refine qA ?_
   refine qB ?_ ?_
   ·first | trivial | omega | (unfold inI64; omega) | (refine ⟨?_, ?_⟩ <;> first | trivial | rfl | omega | simp) | decide
   refine qL ?_
   refine qA ?_
   refine qB ?_ ?_
   ·first | trivial | omega | (unfold inI64; omega) | (refine ⟨?_, ?_⟩ <;> first | trivial | rfl | omega | simp) | decide
   refine aq_store10 tOk rfl rfl rfl rfl ?_ ?_
   ·exact of_decide_eq_true rfl
   refine aq_nil rfl ?_
   refine iR ?_
   refine pC ?_ ?_
   ·first | trivial | omega | (unfold inI64; omega) | (refine ⟨?_, ?_⟩ <;> first | trivial | rfl | omega | simp) | decide
   refine pE ?_
   refine ag_again ?_
   refine zB ?_
   refine pF ?_
   refine vA ?_
   refine sS ?_
   refine bX ?_
   refine pA ?_
   refine pE ?_
   apply ag_draw1 [] (by kernel_rfl) (by kernel_rfl)
   refine qA ?_
   refine qB ?_ ?_
   ·first | trivial | omega | (unfold inI64; omega) | (refine ⟨?_, ?_⟩ <;> first | trivial | rfl | omega | simp) | decide
   refine qL ?_
   refine qA ?_
   refine qB ?_ ?_
   ·first | trivial | omega | (unfold inI64; omega) | (refine ⟨?_, ?_⟩ <;> first | trivial | rfl | omega | simp) | decide
   refine qL ?_
   refine qA ?_
   refine qB ?_ ?_
   ·first | trivial | omega | (unfold inI64; omega) | (refine ⟨?_, ?_⟩ <;> first | trivial | rfl | omega | simp) | decide
   refine aq_store10 tOk rfl rfl rfl rfl ?_ ?_
   ·exact of_decide_eq_true rfl
   refine aq_nil rfl ?_
   refine iR ?_
   refine pC ?_ ?_
   ·first | trivial | omega | (unfold inI64; omega) | (refine ⟨?_, ?_⟩ <;> first | trivial | rfl | omega | simp) | decide
   refine pE ?_
   refine ag_again ?_
   refine zB ?_
   refine pF ?_
   refine vA ?_
   refine sS ?_
   refine bX ?_
   refine pA ?_
   refine pE ?_
   apply ag_draw1 [] (by kernel_rfl) (by kernel_rfl)
   refine qA ?_
   refine qB ?_ ?_
   ·first | trivial | omega | (unfold inI64; omega) | (refine ⟨?_, ?_⟩ <;> first | trivial | rfl | omega | simp) | decide
   refine qL ?_
   refine qA ?_
   refine qB ?_ ?_
   ·first | trivial | omega | (unfold inI64; omega) | (refine ⟨?_, ?_⟩ <;> first | trivial | rfl | omega | simp) | decide
   refine qL ?_
   refine qA ?_
   refine qB ?_ ?_
   ·first | trivial | omega | (unfold inI64; omega) | (refine ⟨?_, ?_⟩ <;> first | trivial | rfl | omega | simp) | decide
   refine aq_store10 tOk rfl rfl rfl rfl ?_ ?_
   ·exact of_decide_eq_true rfl
   refine aq_nil rfl ?_
   refine iR ?_
   refine pC ?_ ?_
   ·first | trivial | omega | (unfold inI64; omega) | (refine ⟨?_, ?_⟩ <;> first | trivial | rfl | omega | simp) | decide
   refine pE ?_
   refine ag_again ?_
   refine zB ?_
   refine pF ?_
   refine vA ?_
   refine sS ?_
   refine bX ?_
   refine pA ?_
   refine pE ?_
   apply ag_draw1 [] (by kernel_rfl) (by kernel_rfl)
   refine qA ?_
   refine qB ?_ ?_
   ·first | trivial | omega | (unfold inI64; omega) | (refine ⟨?_, ?_⟩ <;> first | trivial | rfl | omega | simp) | decide
   refine qL ?_
   refine qA ?_
   refine qB ?_ ?_
   ·first | trivial | omega | (unfold inI64; omega) | (refine ⟨?_, ?_⟩ <;> first | trivial | rfl | omega | simp) | decide
   refine qL ?_
   refine qA ?_
   refine qB ?_ ?_
   ·first | trivial | omega | (unfold inI64; omega) | (refine ⟨?_, ?_⟩ <;> first | trivial | rfl | omega | simp) | decide
   refine aq_store10 tOk rfl rfl rfl rfl ?_ ?_
   ·exact of_decide_eq_true rfl
   refine aq_nil rfl ?_
   refine iR ?_
   refine pC ?_ ?_
   ·first | trivial | omega | (unfold inI64; omega) | (refine ⟨?_, ?_⟩ <;> first | trivial | rfl | omega | simp) | decide
   refine pE ?_
   refine ag_again ?_
   refine zB ?_
   refine pF ?_
   refine vA ?_
   refine sS ?_
   refine bX ?_
   refine pA ?_
   refine pE ?_
   apply ag_draw1 [] (by kernel_rfl) (by kernel_rfl)
   refine qA ?_
   refine qB ?_ ?_
   ·first | trivial | omega | (unfold inI64; omega) | (refine ⟨?_, ?_⟩ <;> first | trivial | rfl | omega | simp) | decide
   refine qL ?_
   refine qA ?_
   refine qB ?_ ?_
   ·first | trivial | omega | (unfold inI64; omega) | (refine ⟨?_, ?_⟩ <;> first | trivial | rfl | omega | simp) | decide
   refine qL ?_
   refine qA ?_
   refine qB ?_ ?_
   ·first | trivial | omega | (unfold inI64; omega) | (refine ⟨?_, ?_⟩ <;> first | trivial | rfl | omega | simp) | decide
   refine aq_store10 tOk rfl rfl rfl rfl ?_ ?_
   ·exact of_decide_eq_true rfl
   refine aq_nil rfl ?_
   refine iR ?_
   refine pC ?_ ?_
   ·first | trivial | omega | (unfold inI64; omega) | (refine ⟨?_, ?_⟩ <;> first | trivial | rfl | omega | simp) | decide
   refine pE ?_
   refine ag_again ?_
   refine zB ?_
   refine pF ?_
   refine vA ?_
   refine sS ?_
   refine bX ?_
   refine pA ?_
   refine pE ?_
   apply ag_draw1 [] (by kernel_rfl) (by kernel_rfl)
   refine qA ?_
   refine qB ?_ ?_
   ·first | trivial | omega | (unfold inI64; omega) | (refine ⟨?_, ?_⟩ <;> first | trivial | rfl | omega | simp) | decide
   refine qL ?_
   refine qA ?_
   refine qB ?_ ?_
   ·first | trivial | omega | (unfold inI64; omega) | (refine ⟨?_, ?_⟩ <;> first | trivial | rfl | omega | simp) | decide
   refine qL ?_
   refine qA ?_
   refine qB ?_ ?_
   ·first | trivial | omega | (unfold inI64; omega) | (refine ⟨?_, ?_⟩ <;> first | trivial | rfl | omega | simp) | decide
   refine aq_store10 tOk rfl rfl rfl rfl ?_ ?_
   ·exact of_decide_eq_true rfl
   refine aq_nil rfl ?_
   refine iR ?_
   refine pC ?_ ?_
   ·first | trivial | omega | (unfold inI64; omega) | (refine ⟨?_, ?_⟩ <;> first | trivial | rfl | omega | simp) | decide
   refine pE ?_
   refine ag_again ?_
   refine zB ?_
   refine pF ?_
   refine vA ?_
   refine sS ?_
   refine bX ?_
   refine pA ?_
   refine pE ?_
   apply ag_draw1 [] (by kernel_rfl) (by kernel_rfl)
   refine qA ?_
   refine qB ?_ ?_
   ·first | trivial | omega | (unfold inI64; omega) | (refine ⟨?_, ?_⟩ <;> first | trivial | rfl | omega | simp) | decide
   refine qL ?_
   refine qA ?_
   refine qB ?_ ?_
   ·first | trivial | omega | (unfold inI64; omega) | (refine ⟨?_, ?_⟩ <;> first | trivial | rfl | omega | simp) | decide
   refine qL ?_
   refine qA ?_
   refine qB ?_ ?_
   ·first | trivial | omega | (unfold inI64; omega) | (refine ⟨?_, ?_⟩ <;> first | trivial | rfl | omega | simp) | decide
   refine aq_store10 tOk rfl rfl rfl rfl ?_ ?_
   ·exact of_decide_eq_true rfl
   refine aq_nil rfl ?_
   refine iR ?_
   refine pC ?_ ?_
   ·first | trivial | omega | (unfold inI64; omega) | (refine ⟨?_, ?_⟩ <;> first | trivial | rfl | omega | simp) | decide
   refine pE ?_
   refine ag_again ?_
   refine zB ?_
   refine pF ?_
   refine vD ?_
   refine ag_exit rfl ?_
   refine ag_inBlock ?_
   refine ag_ent (ent_weak (g' := []) (h' := hH p (q8ad s v)) [0, 1, 2, 3] rfl rfl rfl rfl trivial ?_ rfl) ?_
   ·exact ⟨⟨rfl, rfl, rfl⟩, ⟨rfl, rfl, rfl⟩, ⟨rfl, rfl, rfl⟩, ⟨rfl, rfl, rfl⟩, trivial⟩
   refine ag_rend rfl ?_
   exact ⟨rfl, by rw [hv, show n = 64 by omega]⟩
 ·intro l
  refine zB ?_
  refine pE ?_
  refine ag_block ?_
  refine ag_loopS (stHCh_0 p l) (prHCh_0 p l) (fun (j : Nat) => p.length / 64 - j) 0 (ent_weak [0, 1, 2, 3] rfl rfl rfl rfl ?_ ?_ rfl) (show prHCh_0 p l 0 from ?_) ?_
  ·exact ⟨⟨rfl, rfl⟩, ⟨rfl, rfl⟩, ⟨rfl, rfl⟩, ⟨rfl, rfl⟩, trivial⟩
  ·exact ⟨⟨rfl, rfl, rfl⟩, ⟨rfl, rfl, rfl⟩, ⟨rfl, rfl, rfl⟩, ⟨rfl, rfl, rfl⟩, trivial⟩
  ·exact Nat.zero_le _
  rintro j hp hrec
  have hj : 64 * j ≤ p.length := hp
  refine sZ ?_
  refine pA ?_
  refine pB ?_
  refine pA ?_
  refine pE ?_
  refine ag_if rfl ?_ ?_
  ·intro h9
   have hlt : 64 * j + 64 ≤ p.length := by omega
   refine sS ?_
   refine ag_block ?_
   refine ag_seq ?_
   refine qD ?_
   iterate 2 refine qL ?_
   refine qA ?_
   refine qB ?_ ?_
   ·simp only [boundsOk]; omega
   iterate 2 refine qA ?_
   refine qE ?_
   refine ag_ent (ent_reg 5 (.r (.int .i64 64)) (by show AVal.r (.int _ _) = _; exact eqI (by simp only [cutL, List.length_drop, mulz]; omega))) ?_
   refine zB ?_
   refine pA ?_
   refine pB ?_
   iterate 3 refine pA ?_
   refine pC ?_ ?_
   ·unfold inI64; omega
   iterate 2 refine pA ?_
   refine pC ?_ ?_
   ·unfold inI64; omega
   refine pC ?_ ?_
   ·simp only [boundsOk]; omega
   refine ar_ent (ent_reg 28 (.r (.bs ((p.drop (64 * j)).take 64))) (by show AVal.r (.bs _) = _; exact eqBsv (chunk_eq (by omega) rfl))) ?_
   refine ar_yld (Y := yH p) (h' := hH p (blks keyF q0 p (j + 1))) (v := true) ⟨_, _, by rw [List.length_take, List.length_drop]; omega, rfl, rfl, rfl, rfl⟩ rfl rfl rfl rfl rfl rfl rfl rfl ?_
   rw [hH_gh]
   refine pE ?_
   refine ag_false rfl (rfl) ?_
   refine ag_skip ?_
   refine iR ?_
   refine pA ?_
   refine pB ?_
   refine pC ?_ ?_
   ·unfold inI64; omega
   refine pE ?_
   refine ag_ent (ent_weak (g' := (stHCh_0 p l (j + 1)).1) (h' := (stHCh_0 p l (j + 1)).2) [0, 1, 2, 3] rfl rfl rfl rfl ?_ ?_ rfl) ?_
   ·exact ⟨⟨rfl, by exact eqI (by omega)⟩, ⟨rfl, rfl⟩, ⟨rfl, rfl⟩, ⟨rfl, rfl⟩, trivial⟩
   ·exact ⟨⟨rfl, rfl, rfl⟩, ⟨rfl, rfl, rfl⟩, ⟨rfl, rfl, rfl⟩, ⟨rfl, rfl, rfl⟩, trivial⟩
   have hnx := hrec (j + 1)
   refine hnx ?_ ?_
   ·show 64 * (j + 1) ≤ p.length; omega
   ·show p.length / 64 - (j + 1) < p.length / 64 - j; omega
  ·intro h9
   refine ag_exit rfl ?_
   refine ag_end tOk Tryz.func94 rfl rfl (trivial) ?_
   show hH p _ = hH p _
   rw [show p.length / 64 = j by omega]
 ·rintro h' rfl
  have ok8 := blks_ok keyF q0 q0_ok p (p.length / 64)
  show _
  generalize hS : blks keyF q0 p (p.length / 64) = S at ok8
  rw [show sha b = out8 S by rw [← hS, sha, hp]; rfl]
  obtain ⟨k0, k1, k2, k3, k4, k5, k6, k7⟩ := ok8
  unfold U32 at k0 k1 k2 k3 k4 k5 k6 k7
  refine ag_inBlock ?_
  refine zB ?_
  refine pF ?_
  refine zB ?_
  refine pB ?_
  refine pE ?_
  refine ag_ent (ent_weak (g' := [(48, S.av), (49, .r (.int .i64 0)), (11, .r .nil)]) (h' := ⟨0, [], false⟩) [] rfl rfl rfl rfl ?_ ?_ rfl) ?_
  ·exact ⟨⟨rfl, rfl⟩, ⟨rfl, rfl⟩, ⟨rfl, rfl⟩, trivial⟩
  ·trivial
  refine ag_block ?_
  refine ag_unroll ?_
  refine zB ?_
  refine pF ?_
  refine vA ?_
  refine sS ?_
  refine bX ?_
  refine pC ?_ ?_
  ·first | trivial | omega | (unfold inI64; omega) | (refine ⟨?_, ?_⟩ <;> first | trivial | rfl | omega | simp) | decide
  refine pE ?_
  refine ag_reg ?_
  iterate 2 refine pA ?_
  refine pC ?_ ?_
  ·unfold inI64; omega
  refine ar_pur (own_ro_bytes (w_Num S.a 4 4 (by decide)) (by rw [numL_length])) rfl rfl rfl rfl rfl rfl rfl ?_
  refine pP ?_ ?_
  ·refine ⟨⟨?_, ?_, ?_⟩, ⟨?_, ?_⟩, ⟨?_, ?_⟩, ?_⟩ <;> first | trivial | decide | omega | (simp; done) | (simp [numL_length, cutA_eq]; done) | (simp [numL_length, cutA_eq]; omega)
  refine pE ?_
  refine ag_ent (ent_weak (g' := [(48, S.av), (49, .r (.int .i64 0)), (11, .sl 0 0 4 1)]) (h' := hB (numL 4 S.a)) [0] rfl rfl rfl rfl ?_ ?_ rfl) ?_
  ·exact ⟨⟨rfl, rfl⟩, ⟨rfl, rfl⟩, ⟨rfl, eqSl (by simp [numL_length])⟩, trivial⟩
  ·exact ⟨⟨rfl, rfl, eqBs (by simp [cutA_eq, numL_length])⟩, trivial⟩
  refine iR ?_
  refine pC ?_ ?_
  ·first | trivial | omega | (unfold inI64; omega) | (refine ⟨?_, ?_⟩ <;> first | trivial | rfl | omega | simp) | decide
  refine pE ?_
  refine ag_again ?_
  refine zB ?_
  refine pF ?_
  refine vA ?_
  refine sS ?_
  refine bX ?_
  refine pC ?_ ?_
  ·first | trivial | omega | (unfold inI64; omega) | (refine ⟨?_, ?_⟩ <;> first | trivial | rfl | omega | simp) | decide
  refine pE ?_
  refine ag_reg ?_
  iterate 2 refine pA ?_
  refine pC ?_ ?_
  ·unfold inI64; omega
  refine ar_pur (own_ro_bytes (w_Num S.b 4 4 (by decide)) (by rw [numL_length])) rfl rfl rfl rfl rfl rfl rfl ?_
  refine pP ?_ ?_
  ·refine ⟨⟨?_, ?_, ?_⟩, ⟨?_, ?_⟩, ⟨?_, ?_⟩, ?_⟩ <;> first | trivial | decide | omega | (simp; done) | (simp [numL_length, cutA_eq]; done) | (simp [numL_length, cutA_eq]; omega)
  refine pE ?_
  refine ag_ent (ent_weak (g' := [(48, S.av), (49, .r (.int .i64 1)), (11, .sl 0 0 8 1)]) (h' := hB (numL 4 S.a ++ numL 4 S.b)) [1] rfl rfl rfl rfl ?_ ?_ rfl) ?_
  ·exact ⟨⟨rfl, rfl⟩, ⟨rfl, rfl⟩, ⟨rfl, eqSl (by simp [numL_length])⟩, trivial⟩
  ·exact ⟨⟨rfl, rfl, eqBs (by rw [cutA_eq, List.drop_zero, List.take_of_length_le (by simp [numL_length])])⟩, trivial⟩
  refine iR ?_
  refine pC ?_ ?_
  ·first | trivial | omega | (unfold inI64; omega) | (refine ⟨?_, ?_⟩ <;> first | trivial | rfl | omega | simp) | decide
  refine pE ?_
  refine ag_again ?_
  refine zB ?_
  refine pF ?_
  refine vA ?_
  refine sS ?_
  refine bX ?_
  refine pC ?_ ?_
  ·first | trivial | omega | (unfold inI64; omega) | (refine ⟨?_, ?_⟩ <;> first | trivial | rfl | omega | simp) | decide
  refine pE ?_
  refine ag_reg ?_
  iterate 2 refine pA ?_
  refine pC ?_ ?_
  ·unfold inI64; omega
  refine ar_pur (own_ro_bytes (w_Num S.c 4 4 (by decide)) (by rw [numL_length])) rfl rfl rfl rfl rfl rfl rfl ?_
  refine pP ?_ ?_
  ·refine ⟨⟨?_, ?_, ?_⟩, ⟨?_, ?_⟩, ⟨?_, ?_⟩, ?_⟩ <;> first | trivial | decide | omega | (simp; done) | (simp [numL_length, cutA_eq]; done) | (simp [numL_length, cutA_eq]; omega)
  refine pE ?_
  refine ag_ent (ent_weak (g' := [(48, S.av), (49, .r (.int .i64 2)), (11, .sl 0 0 12 1)]) (h' := hB (numL 4 S.a ++ numL 4 S.b ++ numL 4 S.c)) [1] rfl rfl rfl rfl ?_ ?_ rfl) ?_
  ·exact ⟨⟨rfl, rfl⟩, ⟨rfl, rfl⟩, ⟨rfl, eqSl (by simp [numL_length])⟩, trivial⟩
  ·exact ⟨⟨rfl, rfl, eqBs (by rw [cutA_eq, List.drop_zero, List.take_of_length_le (by simp [numL_length])])⟩, trivial⟩
  refine iR ?_
  refine pC ?_ ?_
  ·first | trivial | omega | (unfold inI64; omega) | (refine ⟨?_, ?_⟩ <;> first | trivial | rfl | omega | simp) | decide
  refine pE ?_
  refine ag_again ?_
  refine zB ?_
  refine pF ?_
  refine vA ?_
  refine sS ?_
  refine bX ?_
  refine pC ?_ ?_
  ·first | trivial | omega | (unfold inI64; omega) | (refine ⟨?_, ?_⟩ <;> first | trivial | rfl | omega | simp) | decide
  refine pE ?_
  refine ag_reg ?_
  iterate 2 refine pA ?_
  refine pC ?_ ?_
  ·unfold inI64; omega
  refine ar_pur (own_ro_bytes (w_Num S.d 4 4 (by decide)) (by rw [numL_length])) rfl rfl rfl rfl rfl rfl rfl ?_
  refine pP ?_ ?_
  ·refine ⟨⟨?_, ?_, ?_⟩, ⟨?_, ?_⟩, ⟨?_, ?_⟩, ?_⟩ <;> first | trivial | decide | omega | (simp; done) | (simp [numL_length, cutA_eq]; done) | (simp [numL_length, cutA_eq]; omega)
  refine pE ?_
  refine ag_ent (ent_weak (g' := [(48, S.av), (49, .r (.int .i64 3)), (11, .sl 0 0 16 1)]) (h' := hB (numL 4 S.a ++ numL 4 S.b ++ numL 4 S.c ++ numL 4 S.d)) [1] rfl rfl rfl rfl ?_ ?_ rfl) ?_
  ·exact ⟨⟨rfl, rfl⟩, ⟨rfl, rfl⟩, ⟨rfl, eqSl (by simp [numL_length])⟩, trivial⟩
  ·exact ⟨⟨rfl, rfl, eqBs (by rw [cutA_eq, List.drop_zero, List.take_of_length_le (by simp [numL_length])])⟩, trivial⟩
  refine iR ?_
  refine pC ?_ ?_
  ·first | trivial | omega | (unfold inI64; omega) | (refine ⟨?_, ?_⟩ <;> first | trivial | rfl | omega | simp) | decide
  refine pE ?_
  refine ag_again ?_
  refine zB ?_
  refine pF ?_
  refine vA ?_
  refine sS ?_
  refine bX ?_
  refine pC ?_ ?_
  ·first | trivial | omega | (unfold inI64; omega) | (refine ⟨?_, ?_⟩ <;> first | trivial | rfl | omega | simp) | decide
  refine pE ?_
  refine ag_reg ?_
  iterate 2 refine pA ?_
  refine pC ?_ ?_
  ·unfold inI64; omega
  refine ar_pur (own_ro_bytes (w_Num S.e 4 4 (by decide)) (by rw [numL_length])) rfl rfl rfl rfl rfl rfl rfl ?_
  refine pP ?_ ?_
  ·refine ⟨⟨?_, ?_, ?_⟩, ⟨?_, ?_⟩, ⟨?_, ?_⟩, ?_⟩ <;> first | trivial | decide | omega | (simp; done) | (simp [numL_length, cutA_eq]; done) | (simp [numL_length, cutA_eq]; omega)
  refine pE ?_
  refine ag_ent (ent_weak (g' := [(48, S.av), (49, .r (.int .i64 4)), (11, .sl 0 0 20 1)]) (h' := hB (numL 4 S.a ++ numL 4 S.b ++ numL 4 S.c ++ numL 4 S.d ++ numL 4 S.e)) [1] rfl rfl rfl rfl ?_ ?_ rfl) ?_
  ·exact ⟨⟨rfl, rfl⟩, ⟨rfl, rfl⟩, ⟨rfl, eqSl (by simp [numL_length])⟩, trivial⟩
  ·exact ⟨⟨rfl, rfl, eqBs (by rw [cutA_eq, List.drop_zero, List.take_of_length_le (by simp [numL_length])])⟩, trivial⟩
  refine iR ?_
  refine pC ?_ ?_
  ·first | trivial | omega | (unfold inI64; omega) | (refine ⟨?_, ?_⟩ <;> first | trivial | rfl | omega | simp) | decide
  refine pE ?_
  refine ag_again ?_
  refine zB ?_
  refine pF ?_
  refine vA ?_
  refine sS ?_
  refine bX ?_
  refine pC ?_ ?_
  ·first | trivial | omega | (unfold inI64; omega) | (refine ⟨?_, ?_⟩ <;> first | trivial | rfl | omega | simp) | decide
  refine pE ?_
  refine ag_reg ?_
  iterate 2 refine pA ?_
  refine pC ?_ ?_
  ·unfold inI64; omega
  refine ar_pur (own_ro_bytes (w_Num S.f 4 4 (by decide)) (by rw [numL_length])) rfl rfl rfl rfl rfl rfl rfl ?_
  refine pP ?_ ?_
  ·refine ⟨⟨?_, ?_, ?_⟩, ⟨?_, ?_⟩, ⟨?_, ?_⟩, ?_⟩ <;> first | trivial | decide | omega | (simp; done) | (simp [numL_length, cutA_eq]; done) | (simp [numL_length, cutA_eq]; omega)
  refine pE ?_
  refine ag_ent (ent_weak (g' := [(48, S.av), (49, .r (.int .i64 5)), (11, .sl 0 0 24 1)]) (h' := hB (numL 4 S.a ++ numL 4 S.b ++ numL 4 S.c ++ numL 4 S.d ++ numL 4 S.e ++ numL 4 S.f)) [1] rfl rfl rfl rfl ?_ ?_ rfl) ?_
  ·exact ⟨⟨rfl, rfl⟩, ⟨rfl, rfl⟩, ⟨rfl, eqSl (by simp [numL_length])⟩, trivial⟩
  ·exact ⟨⟨rfl, rfl, eqBs (by rw [cutA_eq, List.drop_zero, List.take_of_length_le (by simp [numL_length])])⟩, trivial⟩
  refine iR ?_
  refine pC ?_ ?_
  ·first | trivial | omega | (unfold inI64; omega) | (refine ⟨?_, ?_⟩ <;> first | trivial | rfl | omega | simp) | decide
  refine pE ?_
  refine ag_again ?_
  refine zB ?_
  refine pF ?_
  refine vA ?_
  refine sS ?_
  refine bX ?_
  refine pC ?_ ?_
  ·first | trivial | omega | (unfold inI64; omega) | (refine ⟨?_, ?_⟩ <;> first | trivial | rfl | omega | simp) | decide
  refine pE ?_
  refine ag_reg ?_
  iterate 2 refine pA ?_
  refine pC ?_ ?_
  ·unfold inI64; omega
  refine ar_pur (own_ro_bytes (w_Num S.g 4 4 (by decide)) (by rw [numL_length])) rfl rfl rfl rfl rfl rfl rfl ?_
  refine pP ?_ ?_
  ·refine ⟨⟨?_, ?_, ?_⟩, ⟨?_, ?_⟩, ⟨?_, ?_⟩, ?_⟩ <;> first | trivial | decide | omega | (simp; done) | (simp [numL_length, cutA_eq]; done) | (simp [numL_length, cutA_eq]; omega)
  refine pE ?_
  refine ag_ent (ent_weak (g' := [(48, S.av), (49, .r (.int .i64 6)), (11, .sl 0 0 28 1)]) (h' := hB (numL 4 S.a ++ numL 4 S.b ++ numL 4 S.c ++ numL 4 S.d ++ numL 4 S.e ++ numL 4 S.f ++ numL 4 S.g)) [1] rfl rfl rfl rfl ?_ ?_ rfl) ?_
  ·exact ⟨⟨rfl, rfl⟩, ⟨rfl, rfl⟩, ⟨rfl, eqSl (by simp [numL_length])⟩, trivial⟩
  ·exact ⟨⟨rfl, rfl, eqBs (by rw [cutA_eq, List.drop_zero, List.take_of_length_le (by simp [numL_length])])⟩, trivial⟩
  refine iR ?_
  refine pC ?_ ?_
  ·first | trivial | omega | (unfold inI64; omega) | (refine ⟨?_, ?_⟩ <;> first | trivial | rfl | omega | simp) | decide
  refine pE ?_
  refine ag_again ?_
  refine zB ?_
  refine pF ?_
  refine vA ?_
  refine sS ?_
  refine bX ?_
  refine pC ?_ ?_
  ·first | trivial | omega | (unfold inI64; omega) | (refine ⟨?_, ?_⟩ <;> first | trivial | rfl | omega | simp) | decide
  refine pE ?_
  refine ag_reg ?_
  iterate 2 refine pA ?_
  refine pC ?_ ?_
  ·unfold inI64; omega
  refine ar_pur (own_ro_bytes (w_Num S.h 4 4 (by decide)) (by rw [numL_length])) rfl rfl rfl rfl rfl rfl rfl ?_
  refine pP ?_ ?_
  ·refine ⟨⟨?_, ?_, ?_⟩, ⟨?_, ?_⟩, ⟨?_, ?_⟩, ?_⟩ <;> first | trivial | decide | omega | (simp; done) | (simp [numL_length, cutA_eq]; done) | (simp [numL_length, cutA_eq]; omega)
  refine pE ?_
  refine ag_ent (ent_weak (g' := [(48, S.av), (49, .r (.int .i64 7)), (11, .sl 0 0 32 1)]) (h' := hB (numL 4 S.a ++ numL 4 S.b ++ numL 4 S.c ++ numL 4 S.d ++ numL 4 S.e ++ numL 4 S.f ++ numL 4 S.g ++ numL 4 S.h)) [1] rfl rfl rfl rfl ?_ ?_ rfl) ?_
  ·exact ⟨⟨rfl, rfl⟩, ⟨rfl, rfl⟩, ⟨rfl, eqSl (by simp [numL_length])⟩, trivial⟩
  ·exact ⟨⟨rfl, rfl, eqBs (by rw [cutA_eq, List.drop_zero, List.take_of_length_le (by simp [numL_length])])⟩, trivial⟩
  refine iR ?_
  refine pC ?_ ?_
  ·first | trivial | omega | (unfold inI64; omega) | (refine ⟨?_, ?_⟩ <;> first | trivial | rfl | omega | simp) | decide
  refine pE ?_
  refine ag_again ?_
  refine zB ?_
  refine pF ?_
  refine vD ?_
  refine ag_exit rfl ?_
  refine zB ?_
  refine pA ?_
  refine pE ?_
  refine ag_ent (ent_freeze 2 rfl rfl rfl ⟨by simp [numL_length], rfl⟩) ?_
  refine ag_ret tOk Tryz.func91 rfl rfl (by simp) ?_
  exact eqBsv (by rw [cutA_eq, List.drop_zero, List.take_of_length_le (by simp [numL_length])]; rfl)
theorem w_Sum (b : List UInt8) (hb : b.length ≤ 140737488355000) : Pur Tryz.prog 91 [.r (.bs b)] (.r (.bs (sha b))) := w_SumP b _ hb rfl
end Go.Proofs.YtccdhgmkjakjkaaGreat

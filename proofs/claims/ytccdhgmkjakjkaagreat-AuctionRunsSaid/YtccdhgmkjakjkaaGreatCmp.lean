/-
  WALKS: wide.Cmp. (Printed by gen.py out of w_cmp.py.)
-/
import Derived.Test.YtccdhgmkjakjkaaGreatBWide2
namespace Go.Proofs.YtccdhgmkjakjkaaGreat
open Go
set_option maxRecDepth 20000
set_option linter.unusedVariables false
set_option linter.unusedSimpArgs false
def sgn (x y : Int) : Int := if x < y then -1 else if y < x then 1 else 0
theorem sgn_eq {x y : Int} (h : decide (x = y) = true) : sgn x y = 0 := by
 have := of_decide_eq_true h
 subst this
 simp [sgn]
theorem sgn_ne {x y : Int} (h : decide (x = y) = false) : sgn x y ≠ 0 := by
 have := of_decide_eq_false h
 unfold sgn
 split
 ·decide
 ·split
  ·decide
  ·omega
def cmpL : List (Int × Int) → Int
 | [] => 0
 | (x, y) :: l => bif decide (x = y) then cmpL l else sgn x y
def cmpW (x0 x1 x2 x3 b0 b1 b2 b3 : Int) : Int := cmpL [(x3, b3), (x2, b2), (x1, b1), (x0, b0)]
def bC (b0 b1 b2 b3 : Int) : List AVal := [.r (.int .u64 b0), .r (.int .u64 b1), .r (.int .u64 b2), .r (.int .u64 b3)]
def hC (X : AVal) (B : List AVal) (r : Int) : Hp := ⟨3, [(0, some (.mixed B)), (1, some (.mixed [.r (.int .i64 r)])), (2, some (.mixed [X]))], false⟩
def hG (X : AVal) (B : List AVal) (r : Int) : Hp := ⟨3, [(0, some (.mixed B)), (1, some (.mixed [.r (.int .i64 r)])), (2, some (.mixed [X]))], !decide (r = 0)⟩
def gC : Regs := [(8, .func 89 [.ptr 2 0]), (3, .ptr 0 0), (4, .ptr 1 0)]
def yC (X : AVal) (b0 b1 b2 b3 : Int) : YRel := fun args h v h' => ∃ (k : Nat) (x b : Int), k < 4 ∧ (bC b0 b1 b2 b3)[k]? = some (.r (.int .u64 b)) ∧ args = [.r (.int .i64 (k : Int)), .r (.int .u64 x)] ∧
 h = hC X (bC b0 b1 b2 b3) 0 ∧ v = decide (x = b) ∧ h' = hC X (bC b0 b1 b2 b3) (sgn x b)
theorem w_Cmp (x0 x1 x2 x3 b0 b1 b2 b3 : Int) : Pur Tryz.prog 52 [wA x0 x1 x2 x3, wA b0 b1 b2 b3] (.r (.int .i64 (cmpW x0 x1 x2 x3 b0 b1 b2 b3))) := by
 refine spec_of_go (N := 21) Tryz.func52 rfl (by decide) rfl rfl ?_
 refine zB ?_
 iterate 2 refine pM ?_
 refine pN ?_ ?_
 ·simp
 refine zA ?_
 refine zB ?_
 refine ar_ent (ent_body 0 (.mixed [.r (.int .u64 x0), .r (.int .u64 x1), .r (.int .u64 x2), .r (.int .u64 x3)]) (.plain [.int .u64 x0, .int .u64 x1, .int .u64 x2, .int .u64 x3]) rfl rfl) ?_
 refine ar_qd rfl (qop_arrSl tOk rfl ⟨by simp [Body.cells], by omega⟩) rfl rfl rfl rfl ?_
 refine ar_ent (ent_freeze 7 rfl rfl rfl trivial) ?_
 refine w_bw163 rfl rfl rfl rfl rfl rfl ?_
 refine ar_nil ?_
 refine ag_ent (ent_weak (g' := gC) (h' := hC (roW x0 x1 x2 x3) (bC b0 b1 b2 b3) 0) [1, 2, 3] rfl rfl rfl rfl ?_ ?_ rfl) ?_
 ·exact ⟨⟨rfl, rfl⟩, ⟨rfl, rfl⟩, ⟨rfl, rfl⟩, trivial⟩
 ·exact ⟨⟨rfl, rfl, rfl⟩, ⟨rfl, rfl, rfl⟩, ⟨rfl, rfl, rfl⟩, trivial⟩
 refine ag_block ?_
 refine ag_range 3 (yC (roW x0 x1 x2 x3) b0 b1 b2 b3) (fun args => (6, args.getD 1 .any) :: (5, args.getD 0 .any) :: (10, args.getD 1 .any) :: (9, args.getD 0 .any) :: gC) (fun h' => h' = hG (roW x0 x1 x2 x3) (bC b0 b1 b2 b3) (cmpW x0 x1 x2 x3 b0 b1 b2 b3)) rfl rfl rfl rfl rfl rfl rfl Tryz.func89 rfl (by decide) rfl rfl rfl ?_ ?_ ?_ ?_
 ·rintro args h v h' ⟨k, x, b, hk, hb, rfl, rfl, rfl, rfl⟩
  exact ⟨rfl, asgOk_seq (asgOk_region tOk rfl ⟨trivial, trivial⟩) (asgOk_region tOk rfl ⟨trivial, trivial⟩)⟩
 ·rintro args h v h' ⟨k, x, b, hk, hb, rfl, rfl, rfl, rfl⟩
  refine ag_block ?_
  refine sZ ?_
  iterate 2 refine pA ?_
  refine pC ?_ ?_
  ·exact ⟨by omega, by omega⟩
  refine ar_loadAs tOk (.r (.int .u64 b)) rfl rfl rfl rfl rfl rfl rfl (.inl ⟨rfl, by rw [addo_eq, mulz_eq, show 0 + ((k : Int).toNat * 1) = k by omega]; exact hb⟩) ?_
  refine pE ?_
  refine ag_if rfl ?_ ?_
  ·intro h15
   refine zB ?_
   refine ar_store tOk rfl rfl rfl trivial ?_
   refine ar_nil ?_
   refine ag_ent (ent_weak (g' := []) (h' := hC (roW x0 x1 x2 x3) (bC b0 b1 b2 b3) (-1)) [0, 1, 2] rfl rfl rfl rfl trivial ?_ rfl) ?_
   ·exact ⟨⟨rfl, rfl, rfl⟩, ⟨rfl, rfl, rfl⟩, ⟨rfl, rfl, rfl⟩, trivial⟩
   refine ag_rret rfl ?_
   exact ⟨by rw [decide_eq_false (show ¬ x = b by omega)], by simp [sgn, h15]⟩
  ·intro h15
   refine ag_skip ?_
   refine zB ?_
   iterate 2 refine pA ?_
   refine pC ?_ ?_
   ·exact ⟨by omega, by omega⟩
   refine ar_loadAs tOk (.r (.int .u64 b)) rfl rfl rfl rfl rfl rfl rfl (.inl ⟨rfl, by rw [addo_eq, mulz_eq, show 0 + ((k : Int).toNat * 1) = k by omega]; exact hb⟩) ?_
   refine pE ?_
   refine ag_if rfl ?_ ?_
   ·intro h20
    refine zB ?_
    refine ar_store tOk rfl rfl rfl trivial ?_
    refine ar_nil ?_
    refine ag_ent (ent_weak (g' := []) (h' := hC (roW x0 x1 x2 x3) (bC b0 b1 b2 b3) (1)) [0, 1, 2] rfl rfl rfl rfl trivial ?_ rfl) ?_
    ·exact ⟨⟨rfl, rfl, rfl⟩, ⟨rfl, rfl, rfl⟩, ⟨rfl, rfl, rfl⟩, trivial⟩
    refine ag_rret rfl ?_
    exact ⟨by rw [decide_eq_false (show ¬ x = b by omega)], by simp [sgn, h15, h20]⟩
   ·intro h20
    refine ag_skip ?_
    refine ag_inBlock ?_
    refine ag_ent (ent_weak (g' := []) (h' := hC (roW x0 x1 x2 x3) (bC b0 b1 b2 b3) (0)) [0, 1, 2] rfl rfl rfl rfl trivial ?_ rfl) ?_
    ·exact ⟨⟨rfl, rfl, rfl⟩, ⟨rfl, rfl, rfl⟩, ⟨rfl, rfl, rfl⟩, trivial⟩
    refine ag_rend rfl ?_
    have e : x = b := by omega
    exact ⟨by rw [decide_eq_true e], by simp [sgn, h15, h20]⟩
 ·intro l
  refine zB ?_
  refine pB ?_
  refine pA ?_
  refine pC ?_ ?_
  ·unfold inI64; decide
  refine pE ?_
  refine ag_block ?_
  refine ag_unroll ?_
  refine sZ ?_
  refine pA ?_
  refine pE ?_
  refine vA ?_
  refine sS ?_
  refine bX ?_
  iterate 2 refine pA ?_
  refine pB ?_
  refine pA ?_
  refine pC ?_ ?_
  ·exact ⟨by decide, by simp⟩
  refine pB ?_
  refine ar_yld (Y := yC (roW x0 x1 x2 x3) b0 b1 b2 b3) (h' := hC (roW x0 x1 x2 x3) (bC b0 b1 b2 b3) (sgn x3 b3)) (v := decide (x3 = b3)) ⟨3, _, _, by decide, rfl, rfl, rfl, rfl, rfl⟩ rfl rfl rfl rfl rfl rfl rfl rfl ?_
  generalize hv3 : decide (x3 = b3) = v3
  refine pE ?_
  refine ag_cond rfl ?_ ?_
  ·intro h18
   obtain rfl : v3 = false := by simpa using h18
   refine ag_ret tOk Tryz.func89 rfl rfl (trivial) ?_
   show (⟨3, _, true⟩ : Hp) = hG (roW x0 x1 x2 x3) (bC b0 b1 b2 b3) (cmpW x0 x1 x2 x3 b0 b1 b2 b3)
   rw [show cmpW x0 x1 x2 x3 b0 b1 b2 b3 = sgn x3 b3 by simp [cmpW, cmpL, hv3]]
   unfold hG
   rw [decide_eq_false (sgn_ne hv3)]
   rfl
  ·intro h18
   obtain rfl : v3 = true := by simpa using h18
   rw [sgn_eq hv3]
   refine ag_skip ?_
   refine ag_inBlock ?_
   refine ag_ent (ent_keep (g' := [(3, .r (.int .i64 3)), (0, .yld l), (1, .ptr 2 0)]) ⟨rfl, rfl, rfl, trivial⟩) ?_
   refine ag_reg ?_
   refine pA ?_
   refine pC ?_ ?_
   ·unfold inI64; decide
   refine pE ?_
   refine ag_again ?_
   refine sZ ?_
   refine pA ?_
   refine pE ?_
   refine vA ?_
   refine sS ?_
   refine bX ?_
   iterate 2 refine pA ?_
   refine pB ?_
   refine pA ?_
   refine pC ?_ ?_
   ·exact ⟨by decide, by simp⟩
   refine pB ?_
   refine ar_yld (Y := yC (roW x0 x1 x2 x3) b0 b1 b2 b3) (h' := hC (roW x0 x1 x2 x3) (bC b0 b1 b2 b3) (sgn x2 b2)) (v := decide (x2 = b2)) ⟨2, _, _, by decide, rfl, rfl, rfl, rfl, rfl⟩ rfl rfl rfl rfl rfl rfl rfl rfl ?_
   generalize hv2 : decide (x2 = b2) = v2
   refine pE ?_
   refine ag_cond rfl ?_ ?_
   ·intro h18
    obtain rfl : v2 = false := by simpa using h18
    refine ag_ret tOk Tryz.func89 rfl rfl (trivial) ?_
    show (⟨3, _, true⟩ : Hp) = hG (roW x0 x1 x2 x3) (bC b0 b1 b2 b3) (cmpW x0 x1 x2 x3 b0 b1 b2 b3)
    rw [show cmpW x0 x1 x2 x3 b0 b1 b2 b3 = sgn x2 b2 by simp [cmpW, cmpL, hv3, hv2]]
    unfold hG
    rw [decide_eq_false (sgn_ne hv2)]
    rfl
   ·intro h18
    obtain rfl : v2 = true := by simpa using h18
    rw [sgn_eq hv2]
    refine ag_skip ?_
    refine ag_inBlock ?_
    refine ag_ent (ent_keep (g' := [(3, .r (.int .i64 2)), (0, .yld l), (1, .ptr 2 0)]) ⟨rfl, rfl, rfl, trivial⟩) ?_
    refine ag_reg ?_
    refine pA ?_
    refine pC ?_ ?_
    ·unfold inI64; decide
    refine pE ?_
    refine ag_again ?_
    refine sZ ?_
    refine pA ?_
    refine pE ?_
    refine vA ?_
    refine sS ?_
    refine bX ?_
    iterate 2 refine pA ?_
    refine pB ?_
    refine pA ?_
    refine pC ?_ ?_
    ·exact ⟨by decide, by simp⟩
    refine pB ?_
    refine ar_yld (Y := yC (roW x0 x1 x2 x3) b0 b1 b2 b3) (h' := hC (roW x0 x1 x2 x3) (bC b0 b1 b2 b3) (sgn x1 b1)) (v := decide (x1 = b1)) ⟨1, _, _, by decide, rfl, rfl, rfl, rfl, rfl⟩ rfl rfl rfl rfl rfl rfl rfl rfl ?_
    generalize hv1 : decide (x1 = b1) = v1
    refine pE ?_
    refine ag_cond rfl ?_ ?_
    ·intro h18
     obtain rfl : v1 = false := by simpa using h18
     refine ag_ret tOk Tryz.func89 rfl rfl (trivial) ?_
     show (⟨3, _, true⟩ : Hp) = hG (roW x0 x1 x2 x3) (bC b0 b1 b2 b3) (cmpW x0 x1 x2 x3 b0 b1 b2 b3)
     rw [show cmpW x0 x1 x2 x3 b0 b1 b2 b3 = sgn x1 b1 by simp [cmpW, cmpL, hv3, hv2, hv1]]
     unfold hG
     rw [decide_eq_false (sgn_ne hv1)]
     rfl
    ·intro h18
     obtain rfl : v1 = true := by simpa using h18
     rw [sgn_eq hv1]
     refine ag_skip ?_
     refine ag_inBlock ?_
     refine ag_ent (ent_keep (g' := [(3, .r (.int .i64 1)), (0, .yld l), (1, .ptr 2 0)]) ⟨rfl, rfl, rfl, trivial⟩) ?_
     refine ag_reg ?_
     refine pA ?_
     refine pC ?_ ?_
     ·unfold inI64; decide
     refine pE ?_
     refine ag_again ?_
     refine sZ ?_
     refine pA ?_
     refine pE ?_
     refine vA ?_
     refine sS ?_
     refine bX ?_
     iterate 2 refine pA ?_
     refine pB ?_
     refine pA ?_
     refine pC ?_ ?_
     ·exact ⟨by decide, by simp⟩
     refine pB ?_
     refine ar_yld (Y := yC (roW x0 x1 x2 x3) b0 b1 b2 b3) (h' := hC (roW x0 x1 x2 x3) (bC b0 b1 b2 b3) (sgn x0 b0)) (v := decide (x0 = b0)) ⟨0, _, _, by decide, rfl, rfl, rfl, rfl, rfl⟩ rfl rfl rfl rfl rfl rfl rfl rfl ?_
     generalize hv0 : decide (x0 = b0) = v0
     refine pE ?_
     refine ag_cond rfl ?_ ?_
     ·intro h18
      obtain rfl : v0 = false := by simpa using h18
      refine ag_ret tOk Tryz.func89 rfl rfl (trivial) ?_
      show (⟨3, _, true⟩ : Hp) = hG (roW x0 x1 x2 x3) (bC b0 b1 b2 b3) (cmpW x0 x1 x2 x3 b0 b1 b2 b3)
      rw [show cmpW x0 x1 x2 x3 b0 b1 b2 b3 = sgn x0 b0 by simp [cmpW, cmpL, hv3, hv2, hv1, hv0]]
      unfold hG
      rw [decide_eq_false (sgn_ne hv0)]
      rfl
     ·intro h18
      obtain rfl : v0 = true := by simpa using h18
      rw [sgn_eq hv0]
      refine ag_skip ?_
      refine ag_inBlock ?_
      refine ag_ent (ent_keep (g' := [(3, .r (.int .i64 0)), (0, .yld l), (1, .ptr 2 0)]) ⟨rfl, rfl, rfl, trivial⟩) ?_
      refine ag_reg ?_
      refine pA ?_
      refine pC ?_ ?_
      ·unfold inI64; decide
      refine pE ?_
      refine ag_again ?_
      refine sZ ?_
      refine pA ?_
      refine pE ?_
      refine vD ?_
      refine ag_exit rfl ?_
      refine ag_end tOk Tryz.func89 rfl rfl (trivial) ?_
      show _ = hG (roW x0 x1 x2 x3) (bC b0 b1 b2 b3) (cmpW x0 x1 x2 x3 b0 b1 b2 b3)
      rw [show cmpW x0 x1 x2 x3 b0 b1 b2 b3 = 0 by simp [cmpW, cmpL, hv3, hv2, hv1, hv0]]
      rfl
 ·rintro h' rfl
  by_cases hc : cmpW x0 x1 x2 x3 b0 b1 b2 b3 = 0
  rotate_left 1
  ·unfold hG
   rw [decide_eq_false hc]
   refine ag_ret tOk Tryz.func52 rfl rfl (⟨trivial, trivial⟩) ?_
   rfl
  ·rw [hc]
   show AGo _ _ _ _ _ gC (hC (roW x0 x1 x2 x3) (bC b0 b1 b2 b3) 0) _
   refine ag_inBlock ?_
   refine zB ?_
   refine ar_store tOk rfl rfl rfl trivial ?_
   refine ar_nil ?_
   refine ag_ret tOk Tryz.func52 rfl rfl (⟨trivial, trivial⟩) ?_
   rfl
end Go.Proofs.YtccdhgmkjakjkaaGreat

/-
  WALKS: the reference's Cmp. (Printed by gen.py out of w_rcmp.py.)
-/
import Derived.Test.YtccdhgmkjakjkaaGreatCmp
namespace Go.Proofs.YtccdhgmkjakjkaaGreat
open Go
set_option maxRecDepth 20000
set_option linter.unusedVariables false
set_option linter.unusedSimpArgs false
theorem cmpL_eq {x y : Int} {l : List (Int × Int)} (h : x = y) : cmpL ((x, y) :: l) = cmpL l := by subst h; simp [cmpL]
theorem cmpL_lt {x y : Int} {l : List (Int × Int)} (h : x < y) : cmpL ((x, y) :: l) = -1 := by
 rw [cmpL, decide_eq_false (by omega), cond_false, sgn, if_pos h]
theorem cmpL_gt {x y : Int} {l : List (Int × Int)} (h : y < x) : cmpL ((x, y) :: l) = 1 := by
 rw [cmpL, decide_eq_false (by omega), cond_false, sgn, if_neg (by omega), if_pos h]
theorem cmpL4 {x y : Int} (hx : U64 x) (hy : U64 y) (l : List (Int × Int)) : cmpL ((x / 65536 / 65536 / 65536 % 65536, y / 65536 / 65536 / 65536 % 65536) :: (x / 65536 / 65536 % 65536, y / 65536 / 65536 % 65536) :: (x / 65536 % 65536, y / 65536 % 65536) :: (x % 65536, y % 65536) :: l) = bif decide (x = y) then cmpL l else sgn x y := by
 obtain ⟨a1, a2⟩ := hx
 obtain ⟨b1, b2⟩ := hy
 have L : ∀ {r : Int}, x < y → r = -1 → r = bif decide (x = y) then cmpL l else sgn x y := fun h e => by rw [decide_eq_false (by omega), cond_false, sgn, if_pos h, e]
 have G : ∀ {r : Int}, y < x → r = 1 → r = bif decide (x = y) then cmpL l else sgn x y := fun h e => by rw [decide_eq_false (by omega), cond_false, sgn, if_neg (by omega), if_pos h, e]
 by_cases h3 : x / 65536 / 65536 / 65536 % 65536 = y / 65536 / 65536 / 65536 % 65536
 ·rw [cmpL_eq h3]
  by_cases h2 : x / 65536 / 65536 % 65536 = y / 65536 / 65536 % 65536
  ·rw [cmpL_eq h2]
   by_cases h1 : x / 65536 % 65536 = y / 65536 % 65536
   ·rw [cmpL_eq h1]
    by_cases h0 : x % 65536 = y % 65536
    ·rw [cmpL_eq h0, decide_eq_true (show x = y by omega), cond_true]
    ·rcases Int.lt_or_gt_of_ne h0 with h | h
     ·exact L (by omega) (cmpL_lt h)
     ·exact G (by omega) (cmpL_gt h)
   ·rcases Int.lt_or_gt_of_ne h1 with h | h
    ·exact L (by omega) (cmpL_lt h)
    ·exact G (by omega) (cmpL_gt h)
  ·rcases Int.lt_or_gt_of_ne h2 with h | h
   ·exact L (by omega) (cmpL_lt h)
   ·exact G (by omega) (cmpL_gt h)
 ·rcases Int.lt_or_gt_of_ne h3 with h | h
  ·exact L (by omega) (cmpL_lt h)
  ·exact G (by omega) (cmpL_gt h)
theorem w_rCmp16 (x0 x1 x2 x3 y0 y1 y2 y3 : Int) (u0 u1 u2 u3 u4 u5 u6 u7 u8 u9 u10 u11 u12 u13 u14 u15 v0 v1 v2 v3 v4 v5 v6 v7 v8 v9 v10 v11 v12 v13 v14 v15 : Int) (hx : Pur Tryz.prog 57 [wA x0 x1 x2 x3] (.r (.ro 16 [.int .i64 u0, .int .i64 u1, .int .i64 u2, .int .i64 u3, .int .i64 u4, .int .i64 u5, .int .i64 u6, .int .i64 u7, .int .i64 u8, .int .i64 u9, .int .i64 u10, .int .i64 u11, .int .i64 u12, .int .i64 u13, .int .i64 u14, .int .i64 u15]))) (hy : Pur Tryz.prog 57 [wA y0 y1 y2 y3] (.r (.ro 16 [.int .i64 v0, .int .i64 v1, .int .i64 v2, .int .i64 v3, .int .i64 v4, .int .i64 v5, .int .i64 v6, .int .i64 v7, .int .i64 v8, .int .i64 v9, .int .i64 v10, .int .i64 v11, .int .i64 v12, .int .i64 v13, .int .i64 v14, .int .i64 v15]))) : Pur Tryz.prog 41 [wA x0 x1 x2 x3, wA y0 y1 y2 y3] (.r (.int .i64 (cmpL [(u15, v15), (u14, v14), (u13, v13), (u12, v12), (u11, v11), (u10, v10), (u9, v9), (u8, v8), (u7, v7), (u6, v6), (u5, v5), (u4, v4), (u3, v3), (u2, v2), (u1, v1), (u0, v0)]))) := by
 refine spec_of_go (N := 34) Tryz.func41 rfl (by decide) rfl rfl ?_
 refine zB ?_
 iterate 2 refine pM ?_
 refine pF ?_
 refine qD ?_
 refine qL ?_
 refine aq_pur (hx) rfl rfl rfl rfl rfl rfl rfl ?_
 refine qL ?_
 refine aq_pur (hy) rfl rfl rfl rfl rfl rfl rfl ?_
 refine qA ?_
 refine qE ?_
 refine ag_ent (ent_weak (g' := [(5, .r (.ro 16 [.int .i64 u0, .int .i64 u1, .int .i64 u2, .int .i64 u3, .int .i64 u4, .int .i64 u5, .int .i64 u6, .int .i64 u7, .int .i64 u8, .int .i64 u9, .int .i64 u10, .int .i64 u11, .int .i64 u12, .int .i64 u13, .int .i64 u14, .int .i64 u15])), (6, .r (.ro 16 [.int .i64 v0, .int .i64 v1, .int .i64 v2, .int .i64 v3, .int .i64 v4, .int .i64 v5, .int .i64 v6, .int .i64 v7, .int .i64 v8, .int .i64 v9, .int .i64 v10, .int .i64 v11, .int .i64 v12, .int .i64 v13, .int .i64 v14, .int .i64 v15]))]) (h' := ⟨0, [], false⟩) [] rfl rfl rfl rfl ?_ trivial rfl) ?_
 ·exact ⟨⟨rfl, rfl⟩, ⟨rfl, rfl⟩, trivial⟩
 refine sZ ?_
 refine pE ?_
 refine ag_block ?_
 refine ag_unroll ?_
 refine sZ ?_
 refine pA ?_
 refine pE ?_
 refine vA ?_
 refine sS ?_
 refine ag_block ?_
 iterate 2 refine ag_seq ?_
 refine qD ?_
 iterate 2 refine qA ?_
 refine qB ?_ ?_
 ·exact ⟨by decide, by simp⟩
 refine qL ?_
 iterate 2 refine qA ?_
 refine qB ?_ ?_
 ·exact ⟨by decide, by simp⟩
 refine qL ?_
 refine qE ?_
 refine ag_if rfl ?_ ?_
 ·intro h24
  refine zB ?_
  refine pE ?_
  refine ag_ret tOk Tryz.func41 rfl rfl (by first | trivial | exact ⟨trivial, trivial⟩ | simp) ?_
  exact eqI (by rw [cmpL_lt (by omega)])
 ·intro h24
  refine sS ?_
  refine qD ?_
  iterate 2 refine qA ?_
  refine qB ?_ ?_
  ·exact ⟨by decide, by simp⟩
  refine qL ?_
  iterate 2 refine qA ?_
  refine qB ?_ ?_
  ·exact ⟨by decide, by simp⟩
  refine qL ?_
  refine qE ?_
  refine ag_if rfl ?_ ?_
  ·intro h33
   refine zB ?_
   refine pE ?_
   refine ag_ret tOk Tryz.func41 rfl rfl (by first | trivial | exact ⟨trivial, trivial⟩ | simp) ?_
   exact eqI (by rw [cmpL_gt (by omega)])
  ·intro h33
   refine ag_skip ?_
   refine iR ?_
   refine pA ?_
   refine pC ?_ ?_
   ·unfold inI64; decide
   refine pE ?_
   refine ag_ent (ent_weak (g' := [(5, .r (.ro 16 [.int .i64 u0, .int .i64 u1, .int .i64 u2, .int .i64 u3, .int .i64 u4, .int .i64 u5, .int .i64 u6, .int .i64 u7, .int .i64 u8, .int .i64 u9, .int .i64 u10, .int .i64 u11, .int .i64 u12, .int .i64 u13, .int .i64 u14, .int .i64 u15])), (6, .r (.ro 16 [.int .i64 v0, .int .i64 v1, .int .i64 v2, .int .i64 v3, .int .i64 v4, .int .i64 v5, .int .i64 v6, .int .i64 v7, .int .i64 v8, .int .i64 v9, .int .i64 v10, .int .i64 v11, .int .i64 v12, .int .i64 v13, .int .i64 v14, .int .i64 v15])), (7, .r (.int .i64 14))]) (h' := ⟨0, [], false⟩) [] rfl rfl rfl rfl ?_ trivial rfl) ?_
   ·exact ⟨⟨rfl, rfl⟩, ⟨rfl, rfl⟩, ⟨rfl, rfl⟩, trivial⟩
   refine ag_again ?_
   refine sZ ?_
   refine pA ?_
   refine pE ?_
   refine vA ?_
   refine sS ?_
   refine ag_block ?_
   iterate 2 refine ag_seq ?_
   refine qD ?_
   iterate 2 refine qA ?_
   refine qB ?_ ?_
   ·exact ⟨by decide, by simp⟩
   refine qL ?_
   iterate 2 refine qA ?_
   refine qB ?_ ?_
   ·exact ⟨by decide, by simp⟩
   refine qL ?_
   refine qE ?_
   refine ag_if rfl ?_ ?_
   ·intro h24
    refine zB ?_
    refine pE ?_
    refine ag_ret tOk Tryz.func41 rfl rfl (by first | trivial | exact ⟨trivial, trivial⟩ | simp) ?_
    exact eqI (by rw [cmpL_eq (by omega), cmpL_lt (by omega)])
   ·intro h24
    refine sS ?_
    refine qD ?_
    iterate 2 refine qA ?_
    refine qB ?_ ?_
    ·exact ⟨by decide, by simp⟩
    refine qL ?_
    iterate 2 refine qA ?_
    refine qB ?_ ?_
    ·exact ⟨by decide, by simp⟩
    refine qL ?_
    refine qE ?_
    refine ag_if rfl ?_ ?_
    ·intro h33
     refine zB ?_
     refine pE ?_
     refine ag_ret tOk Tryz.func41 rfl rfl (by first | trivial | exact ⟨trivial, trivial⟩ | simp) ?_
     exact eqI (by rw [cmpL_eq (by omega), cmpL_gt (by omega)])
    ·intro h33
     refine ag_skip ?_
     refine iR ?_
     refine pA ?_
     refine pC ?_ ?_
     ·unfold inI64; decide
     refine pE ?_
     refine ag_ent (ent_weak (g' := [(5, .r (.ro 16 [.int .i64 u0, .int .i64 u1, .int .i64 u2, .int .i64 u3, .int .i64 u4, .int .i64 u5, .int .i64 u6, .int .i64 u7, .int .i64 u8, .int .i64 u9, .int .i64 u10, .int .i64 u11, .int .i64 u12, .int .i64 u13, .int .i64 u14, .int .i64 u15])), (6, .r (.ro 16 [.int .i64 v0, .int .i64 v1, .int .i64 v2, .int .i64 v3, .int .i64 v4, .int .i64 v5, .int .i64 v6, .int .i64 v7, .int .i64 v8, .int .i64 v9, .int .i64 v10, .int .i64 v11, .int .i64 v12, .int .i64 v13, .int .i64 v14, .int .i64 v15])), (7, .r (.int .i64 13))]) (h' := ⟨0, [], false⟩) [] rfl rfl rfl rfl ?_ trivial rfl) ?_
     ·exact ⟨⟨rfl, rfl⟩, ⟨rfl, rfl⟩, ⟨rfl, rfl⟩, trivial⟩
     refine ag_again ?_
     refine sZ ?_
     refine pA ?_
     refine pE ?_
     refine vA ?_
     refine sS ?_
     refine ag_block ?_
     iterate 2 refine ag_seq ?_
     refine qD ?_
     iterate 2 refine qA ?_
     refine qB ?_ ?_
     ·exact ⟨by decide, by simp⟩
     refine qL ?_
     iterate 2 refine qA ?_
     refine qB ?_ ?_
     ·exact ⟨by decide, by simp⟩
     refine qL ?_
     refine qE ?_
     refine ag_if rfl ?_ ?_
     ·intro h24
      refine zB ?_
      refine pE ?_
      refine ag_ret tOk Tryz.func41 rfl rfl (by first | trivial | exact ⟨trivial, trivial⟩ | simp) ?_
      exact eqI (by rw [cmpL_eq (by omega), cmpL_eq (by omega), cmpL_lt (by omega)])
     ·intro h24
      refine sS ?_
      refine qD ?_
      iterate 2 refine qA ?_
      refine qB ?_ ?_
      ·exact ⟨by decide, by simp⟩
      refine qL ?_
      iterate 2 refine qA ?_
      refine qB ?_ ?_
      ·exact ⟨by decide, by simp⟩
      refine qL ?_
      refine qE ?_
      refine ag_if rfl ?_ ?_
      ·intro h33
       refine zB ?_
       refine pE ?_
       refine ag_ret tOk Tryz.func41 rfl rfl (by first | trivial | exact ⟨trivial, trivial⟩ | simp) ?_
       exact eqI (by rw [cmpL_eq (by omega), cmpL_eq (by omega), cmpL_gt (by omega)])
      ·intro h33
       refine ag_skip ?_
       refine iR ?_
       refine pA ?_
       refine pC ?_ ?_
       ·unfold inI64; decide
       refine pE ?_
       refine ag_ent (ent_weak (g' := [(5, .r (.ro 16 [.int .i64 u0, .int .i64 u1, .int .i64 u2, .int .i64 u3, .int .i64 u4, .int .i64 u5, .int .i64 u6, .int .i64 u7, .int .i64 u8, .int .i64 u9, .int .i64 u10, .int .i64 u11, .int .i64 u12, .int .i64 u13, .int .i64 u14, .int .i64 u15])), (6, .r (.ro 16 [.int .i64 v0, .int .i64 v1, .int .i64 v2, .int .i64 v3, .int .i64 v4, .int .i64 v5, .int .i64 v6, .int .i64 v7, .int .i64 v8, .int .i64 v9, .int .i64 v10, .int .i64 v11, .int .i64 v12, .int .i64 v13, .int .i64 v14, .int .i64 v15])), (7, .r (.int .i64 12))]) (h' := ⟨0, [], false⟩) [] rfl rfl rfl rfl ?_ trivial rfl) ?_
       ·exact ⟨⟨rfl, rfl⟩, ⟨rfl, rfl⟩, ⟨rfl, rfl⟩, trivial⟩
       refine ag_again ?_
       refine sZ ?_
       refine pA ?_
       refine pE ?_
       refine vA ?_
       refine sS ?_
       refine ag_block ?_
       iterate 2 refine ag_seq ?_
       refine qD ?_
       iterate 2 refine qA ?_
       refine qB ?_ ?_
       ·exact ⟨by decide, by simp⟩
       refine qL ?_
       iterate 2 refine qA ?_
       refine qB ?_ ?_
       ·exact ⟨by decide, by simp⟩
       refine qL ?_
       refine qE ?_
       refine ag_if rfl ?_ ?_
       ·intro h24
        refine zB ?_
        refine pE ?_
        refine ag_ret tOk Tryz.func41 rfl rfl (by first | trivial | exact ⟨trivial, trivial⟩ | simp) ?_
        exact eqI (by rw [cmpL_eq (by omega), cmpL_eq (by omega), cmpL_eq (by omega), cmpL_lt (by omega)])
       ·intro h24
        refine sS ?_
        refine qD ?_
        iterate 2 refine qA ?_
        refine qB ?_ ?_
        ·exact ⟨by decide, by simp⟩
        refine qL ?_
        iterate 2 refine qA ?_
        refine qB ?_ ?_
        ·exact ⟨by decide, by simp⟩
        refine qL ?_
        refine qE ?_
        refine ag_if rfl ?_ ?_
        ·intro h33
         refine zB ?_
         refine pE ?_
         refine ag_ret tOk Tryz.func41 rfl rfl (by first | trivial | exact ⟨trivial, trivial⟩ | simp) ?_
         exact eqI (by rw [cmpL_eq (by omega), cmpL_eq (by omega), cmpL_eq (by omega), cmpL_gt (by omega)])
        ·intro h33
         refine ag_skip ?_
         refine iR ?_
         refine pA ?_
         refine pC ?_ ?_
         ·unfold inI64; decide
         refine pE ?_
         refine ag_ent (ent_weak (g' := [(5, .r (.ro 16 [.int .i64 u0, .int .i64 u1, .int .i64 u2, .int .i64 u3, .int .i64 u4, .int .i64 u5, .int .i64 u6, .int .i64 u7, .int .i64 u8, .int .i64 u9, .int .i64 u10, .int .i64 u11, .int .i64 u12, .int .i64 u13, .int .i64 u14, .int .i64 u15])), (6, .r (.ro 16 [.int .i64 v0, .int .i64 v1, .int .i64 v2, .int .i64 v3, .int .i64 v4, .int .i64 v5, .int .i64 v6, .int .i64 v7, .int .i64 v8, .int .i64 v9, .int .i64 v10, .int .i64 v11, .int .i64 v12, .int .i64 v13, .int .i64 v14, .int .i64 v15])), (7, .r (.int .i64 11))]) (h' := ⟨0, [], false⟩) [] rfl rfl rfl rfl ?_ trivial rfl) ?_
         ·exact ⟨⟨rfl, rfl⟩, ⟨rfl, rfl⟩, ⟨rfl, rfl⟩, trivial⟩
         refine ag_again ?_
         refine sZ ?_
         refine pA ?_
         refine pE ?_
         refine vA ?_
         refine sS ?_
         refine ag_block ?_
         iterate 2 refine ag_seq ?_
         refine qD ?_
         iterate 2 refine qA ?_
         refine qB ?_ ?_
         ·exact ⟨by decide, by simp⟩
         refine qL ?_
         iterate 2 refine qA ?_
         refine qB ?_ ?_
         ·exact ⟨by decide, by simp⟩
         refine qL ?_
         refine qE ?_
         refine ag_if rfl ?_ ?_
         ·intro h24
          refine zB ?_
          refine pE ?_
          refine ag_ret tOk Tryz.func41 rfl rfl (by first | trivial | exact ⟨trivial, trivial⟩ | simp) ?_
          exact eqI (by rw [cmpL_eq (by omega), cmpL_eq (by omega), cmpL_eq (by omega), cmpL_eq (by omega), cmpL_lt (by omega)])
         ·intro h24
          refine sS ?_
          refine qD ?_
          iterate 2 refine qA ?_
          refine qB ?_ ?_
          ·exact ⟨by decide, by simp⟩
          refine qL ?_
          iterate 2 refine qA ?_
          refine qB ?_ ?_
          ·exact ⟨by decide, by simp⟩
          refine qL ?_
          refine qE ?_
          refine ag_if rfl ?_ ?_
          ·intro h33
           refine zB ?_
           refine pE ?_
           refine ag_ret tOk Tryz.func41 rfl rfl (by first | trivial | exact ⟨trivial, trivial⟩ | simp) ?_
           exact eqI (by rw [cmpL_eq (by omega), cmpL_eq (by omega), cmpL_eq (by omega), cmpL_eq (by omega), cmpL_gt (by omega)])
          ·intro h33
           refine ag_skip ?_
           refine iR ?_
           refine pA ?_
           refine pC ?_ ?_
           ·unfold inI64; decide
           refine pE ?_
           refine ag_ent (ent_weak (g' := [(5, .r (.ro 16 [.int .i64 u0, .int .i64 u1, .int .i64 u2, .int .i64 u3, .int .i64 u4, .int .i64 u5, .int .i64 u6, .int .i64 u7, .int .i64 u8, .int .i64 u9, .int .i64 u10, .int .i64 u11, .int .i64 u12, .int .i64 u13, .int .i64 u14, .int .i64 u15])), (6, .r (.ro 16 [.int .i64 v0, .int .i64 v1, .int .i64 v2, .int .i64 v3, .int .i64 v4, .int .i64 v5, .int .i64 v6, .int .i64 v7, .int .i64 v8, .int .i64 v9, .int .i64 v10, .int .i64 v11, .int .i64 v12, .int .i64 v13, .int .i64 v14, .int .i64 v15])), (7, .r (.int .i64 10))]) (h' := ⟨0, [], false⟩) [] rfl rfl rfl rfl ?_ trivial rfl) ?_
           ·exact ⟨⟨rfl, rfl⟩, ⟨rfl, rfl⟩, ⟨rfl, rfl⟩, trivial⟩
           refine ag_again ?_
           refine sZ ?_
           refine pA ?_
           refine pE ?_
           refine vA ?_
           refine sS ?_
           refine ag_block ?_
           iterate 2 refine ag_seq ?_
           refine qD ?_
           iterate 2 refine qA ?_
           refine qB ?_ ?_
           ·exact ⟨by decide, by simp⟩
           refine qL ?_
           iterate 2 refine qA ?_
           refine qB ?_ ?_
           ·exact ⟨by decide, by simp⟩
           refine qL ?_
           refine qE ?_
           refine ag_if rfl ?_ ?_
           ·intro h24
            refine zB ?_
            refine pE ?_
            refine ag_ret tOk Tryz.func41 rfl rfl (by first | trivial | exact ⟨trivial, trivial⟩ | simp) ?_
            exact eqI (by rw [cmpL_eq (by omega), cmpL_eq (by omega), cmpL_eq (by omega), cmpL_eq (by omega), cmpL_eq (by omega), cmpL_lt (by omega)])
           ·intro h24
            refine sS ?_
            refine qD ?_
            iterate 2 refine qA ?_
            refine qB ?_ ?_
            ·exact ⟨by decide, by simp⟩
            refine qL ?_
            iterate 2 refine qA ?_
            refine qB ?_ ?_
            ·exact ⟨by decide, by simp⟩
            refine qL ?_
            refine qE ?_
            refine ag_if rfl ?_ ?_
            ·intro h33
             refine zB ?_
             refine pE ?_
             refine ag_ret tOk Tryz.func41 rfl rfl (by first | trivial | exact ⟨trivial, trivial⟩ | simp) ?_
             exact eqI (by rw [cmpL_eq (by omega), cmpL_eq (by omega), cmpL_eq (by omega), cmpL_eq (by omega), cmpL_eq (by omega), cmpL_gt (by omega)])
            ·intro h33
             refine ag_skip ?_
             refine iR ?_
             refine pA ?_
             refine pC ?_ ?_
             ·unfold inI64; decide
             refine pE ?_
             refine ag_ent (ent_weak (g' := [(5, .r (.ro 16 [.int .i64 u0, .int .i64 u1, .int .i64 u2, .int .i64 u3, .int .i64 u4, .int .i64 u5, .int .i64 u6, .int .i64 u7, .int .i64 u8, .int .i64 u9, .int .i64 u10, .int .i64 u11, .int .i64 u12, .int .i64 u13, .int .i64 u14, .int .i64 u15])), (6, .r (.ro 16 [.int .i64 v0, .int .i64 v1, .int .i64 v2, .int .i64 v3, .int .i64 v4, .int .i64 v5, .int .i64 v6, .int .i64 v7, .int .i64 v8, .int .i64 v9, .int .i64 v10, .int .i64 v11, .int .i64 v12, .int .i64 v13, .int .i64 v14, .int .i64 v15])), (7, .r (.int .i64 9))]) (h' := ⟨0, [], false⟩) [] rfl rfl rfl rfl ?_ trivial rfl) ?_
             ·exact ⟨⟨rfl, rfl⟩, ⟨rfl, rfl⟩, ⟨rfl, rfl⟩, trivial⟩
             refine ag_again ?_
             refine sZ ?_
             refine pA ?_
             refine pE ?_
             refine vA ?_
             refine sS ?_
             refine ag_block ?_
             iterate 2 refine ag_seq ?_
             refine qD ?_
             iterate 2 refine qA ?_
             refine qB ?_ ?_
             ·exact ⟨by decide, by simp⟩
             refine qL ?_
             iterate 2 refine qA ?_
             refine qB ?_ ?_
             ·exact ⟨by decide, by simp⟩
             refine qL ?_
             refine qE ?_
             refine ag_if rfl ?_ ?_
             ·intro h24
              refine zB ?_
              refine pE ?_
              refine ag_ret tOk Tryz.func41 rfl rfl (by first | trivial | exact ⟨trivial, trivial⟩ | simp) ?_
              exact eqI (by rw [cmpL_eq (by omega), cmpL_eq (by omega), cmpL_eq (by omega), cmpL_eq (by omega), cmpL_eq (by omega), cmpL_eq (by omega), cmpL_lt (by omega)])
             ·intro h24
              refine sS ?_
              refine qD ?_
              iterate 2 refine qA ?_
              refine qB ?_ ?_
              ·exact ⟨by decide, by simp⟩
              refine qL ?_
              iterate 2 refine qA ?_
              refine qB ?_ ?_
              ·exact ⟨by decide, by simp⟩
              refine qL ?_
              refine qE ?_
              refine ag_if rfl ?_ ?_
              ·intro h33
               refine zB ?_
               refine pE ?_
               refine ag_ret tOk Tryz.func41 rfl rfl (by first | trivial | exact ⟨trivial, trivial⟩ | simp) ?_
               exact eqI (by rw [cmpL_eq (by omega), cmpL_eq (by omega), cmpL_eq (by omega), cmpL_eq (by omega), cmpL_eq (by omega), cmpL_eq (by omega), cmpL_gt (by omega)])
              ·intro h33
               refine ag_skip ?_
               refine iR ?_
               refine pA ?_
               refine pC ?_ ?_
               ·unfold inI64; decide
               refine pE ?_
               refine ag_ent (ent_weak (g' := [(5, .r (.ro 16 [.int .i64 u0, .int .i64 u1, .int .i64 u2, .int .i64 u3, .int .i64 u4, .int .i64 u5, .int .i64 u6, .int .i64 u7, .int .i64 u8, .int .i64 u9, .int .i64 u10, .int .i64 u11, .int .i64 u12, .int .i64 u13, .int .i64 u14, .int .i64 u15])), (6, .r (.ro 16 [.int .i64 v0, .int .i64 v1, .int .i64 v2, .int .i64 v3, .int .i64 v4, .int .i64 v5, .int .i64 v6, .int .i64 v7, .int .i64 v8, .int .i64 v9, .int .i64 v10, .int .i64 v11, .int .i64 v12, .int .i64 v13, .int .i64 v14, .int .i64 v15])), (7, .r (.int .i64 8))]) (h' := ⟨0, [], false⟩) [] rfl rfl rfl rfl ?_ trivial rfl) ?_
               ·exact ⟨⟨rfl, rfl⟩, ⟨rfl, rfl⟩, ⟨rfl, rfl⟩, trivial⟩
               refine ag_again ?_
               refine sZ ?_
               refine pA ?_
               refine pE ?_
               refine vA ?_
               refine sS ?_
               refine ag_block ?_
               iterate 2 refine ag_seq ?_
               refine qD ?_
               iterate 2 refine qA ?_
               refine qB ?_ ?_
               ·exact ⟨by decide, by simp⟩
               refine qL ?_
               iterate 2 refine qA ?_
               refine qB ?_ ?_
               ·exact ⟨by decide, by simp⟩
               refine qL ?_
               refine qE ?_
               refine ag_if rfl ?_ ?_
               ·intro h24
                refine zB ?_
                refine pE ?_
                refine ag_ret tOk Tryz.func41 rfl rfl (by first | trivial | exact ⟨trivial, trivial⟩ | simp) ?_
                exact eqI (by rw [cmpL_eq (by omega), cmpL_eq (by omega), cmpL_eq (by omega), cmpL_eq (by omega), cmpL_eq (by omega), cmpL_eq (by omega), cmpL_eq (by omega), cmpL_lt (by omega)])
               ·intro h24
                refine sS ?_
                refine qD ?_
                iterate 2 refine qA ?_
                refine qB ?_ ?_
                ·exact ⟨by decide, by simp⟩
                refine qL ?_
                iterate 2 refine qA ?_
                refine qB ?_ ?_
                ·exact ⟨by decide, by simp⟩
                refine qL ?_
                refine qE ?_
                refine ag_if rfl ?_ ?_
                ·intro h33
                 refine zB ?_
                 refine pE ?_
                 refine ag_ret tOk Tryz.func41 rfl rfl (by first | trivial | exact ⟨trivial, trivial⟩ | simp) ?_
                 exact eqI (by rw [cmpL_eq (by omega), cmpL_eq (by omega), cmpL_eq (by omega), cmpL_eq (by omega), cmpL_eq (by omega), cmpL_eq (by omega), cmpL_eq (by omega), cmpL_gt (by omega)])
                ·intro h33
                 refine ag_skip ?_
                 refine iR ?_
                 refine pA ?_
                 refine pC ?_ ?_
                 ·unfold inI64; decide
                 refine pE ?_
                 refine ag_ent (ent_weak (g' := [(5, .r (.ro 16 [.int .i64 u0, .int .i64 u1, .int .i64 u2, .int .i64 u3, .int .i64 u4, .int .i64 u5, .int .i64 u6, .int .i64 u7, .int .i64 u8, .int .i64 u9, .int .i64 u10, .int .i64 u11, .int .i64 u12, .int .i64 u13, .int .i64 u14, .int .i64 u15])), (6, .r (.ro 16 [.int .i64 v0, .int .i64 v1, .int .i64 v2, .int .i64 v3, .int .i64 v4, .int .i64 v5, .int .i64 v6, .int .i64 v7, .int .i64 v8, .int .i64 v9, .int .i64 v10, .int .i64 v11, .int .i64 v12, .int .i64 v13, .int .i64 v14, .int .i64 v15])), (7, .r (.int .i64 7))]) (h' := ⟨0, [], false⟩) [] rfl rfl rfl rfl ?_ trivial rfl) ?_
                 ·exact ⟨⟨rfl, rfl⟩, ⟨rfl, rfl⟩, ⟨rfl, rfl⟩, trivial⟩
                 refine ag_again ?_
                 refine sZ ?_
                 refine pA ?_
                 refine pE ?_
                 refine vA ?_
                 refine sS ?_
                 refine ag_block ?_
                 iterate 2 refine ag_seq ?_
                 refine qD ?_
                 iterate 2 refine qA ?_
                 refine qB ?_ ?_
                 ·exact ⟨by decide, by simp⟩
                 refine qL ?_
                 iterate 2 refine qA ?_
                 refine qB ?_ ?_
                 ·exact ⟨by decide, by simp⟩
                 refine qL ?_
                 refine qE ?_
                 refine ag_if rfl ?_ ?_
                 ·intro h24
                  refine zB ?_
                  refine pE ?_
                  refine ag_ret tOk Tryz.func41 rfl rfl (by first | trivial | exact ⟨trivial, trivial⟩ | simp) ?_
                  exact eqI (by rw [cmpL_eq (by omega), cmpL_eq (by omega), cmpL_eq (by omega), cmpL_eq (by omega), cmpL_eq (by omega), cmpL_eq (by omega), cmpL_eq (by omega), cmpL_eq (by omega), cmpL_lt (by omega)])
                 ·intro h24
                  refine sS ?_
                  refine qD ?_
                  iterate 2 refine qA ?_
                  refine qB ?_ ?_
                  ·exact ⟨by decide, by simp⟩
                  refine qL ?_
                  iterate 2 refine qA ?_
                  refine qB ?_ ?_
                  ·exact ⟨by decide, by simp⟩
                  refine qL ?_
                  refine qE ?_
                  refine ag_if rfl ?_ ?_
                  ·intro h33
                   refine zB ?_
                   refine pE ?_
                   refine ag_ret tOk Tryz.func41 rfl rfl (by first | trivial | exact ⟨trivial, trivial⟩ | simp) ?_
                   exact eqI (by rw [cmpL_eq (by omega), cmpL_eq (by omega), cmpL_eq (by omega), cmpL_eq (by omega), cmpL_eq (by omega), cmpL_eq (by omega), cmpL_eq (by omega), cmpL_eq (by omega), cmpL_gt (by omega)])
                  ·intro h33
                   refine ag_skip ?_
                   refine iR ?_
                   refine pA ?_
                   refine pC ?_ ?_
                   ·unfold inI64; decide
                   refine pE ?_
                   refine ag_ent (ent_weak (g' := [(5, .r (.ro 16 [.int .i64 u0, .int .i64 u1, .int .i64 u2, .int .i64 u3, .int .i64 u4, .int .i64 u5, .int .i64 u6, .int .i64 u7, .int .i64 u8, .int .i64 u9, .int .i64 u10, .int .i64 u11, .int .i64 u12, .int .i64 u13, .int .i64 u14, .int .i64 u15])), (6, .r (.ro 16 [.int .i64 v0, .int .i64 v1, .int .i64 v2, .int .i64 v3, .int .i64 v4, .int .i64 v5, .int .i64 v6, .int .i64 v7, .int .i64 v8, .int .i64 v9, .int .i64 v10, .int .i64 v11, .int .i64 v12, .int .i64 v13, .int .i64 v14, .int .i64 v15])), (7, .r (.int .i64 6))]) (h' := ⟨0, [], false⟩) [] rfl rfl rfl rfl ?_ trivial rfl) ?_
                   ·exact ⟨⟨rfl, rfl⟩, ⟨rfl, rfl⟩, ⟨rfl, rfl⟩, trivial⟩
                   refine ag_again ?_
                   refine sZ ?_
                   refine pA ?_
                   refine pE ?_
                   refine vA ?_
                   refine sS ?_
                   refine ag_block ?_
                   iterate 2 refine ag_seq ?_
                   refine qD ?_
                   iterate 2 refine qA ?_
                   refine qB ?_ ?_
                   ·exact ⟨by decide, by simp⟩
                   refine qL ?_
                   iterate 2 refine qA ?_
                   refine qB ?_ ?_
                   ·exact ⟨by decide, by simp⟩
                   refine qL ?_
                   refine qE ?_
                   refine ag_if rfl ?_ ?_
                   ·intro h24
                    refine zB ?_
                    refine pE ?_
                    refine ag_ret tOk Tryz.func41 rfl rfl (by first | trivial | exact ⟨trivial, trivial⟩ | simp) ?_
                    exact eqI (by rw [cmpL_eq (by omega), cmpL_eq (by omega), cmpL_eq (by omega), cmpL_eq (by omega), cmpL_eq (by omega), cmpL_eq (by omega), cmpL_eq (by omega), cmpL_eq (by omega), cmpL_eq (by omega), cmpL_lt (by omega)])
                   ·intro h24
                    refine sS ?_
                    refine qD ?_
                    iterate 2 refine qA ?_
                    refine qB ?_ ?_
                    ·exact ⟨by decide, by simp⟩
                    refine qL ?_
                    iterate 2 refine qA ?_
                    refine qB ?_ ?_
                    ·exact ⟨by decide, by simp⟩
                    refine qL ?_
                    refine qE ?_
                    refine ag_if rfl ?_ ?_
                    ·intro h33
                     refine zB ?_
                     refine pE ?_
                     refine ag_ret tOk Tryz.func41 rfl rfl (by first | trivial | exact ⟨trivial, trivial⟩ | simp) ?_
                     exact eqI (by rw [cmpL_eq (by omega), cmpL_eq (by omega), cmpL_eq (by omega), cmpL_eq (by omega), cmpL_eq (by omega), cmpL_eq (by omega), cmpL_eq (by omega), cmpL_eq (by omega), cmpL_eq (by omega), cmpL_gt (by omega)])
                    ·intro h33
                     refine ag_skip ?_
                     refine iR ?_
                     refine pA ?_
                     refine pC ?_ ?_
                     ·unfold inI64; decide
                     refine pE ?_
                     refine ag_ent (ent_weak (g' := [(5, .r (.ro 16 [.int .i64 u0, .int .i64 u1, .int .i64 u2, .int .i64 u3, .int .i64 u4, .int .i64 u5, .int .i64 u6, .int .i64 u7, .int .i64 u8, .int .i64 u9, .int .i64 u10, .int .i64 u11, .int .i64 u12, .int .i64 u13, .int .i64 u14, .int .i64 u15])), (6, .r (.ro 16 [.int .i64 v0, .int .i64 v1, .int .i64 v2, .int .i64 v3, .int .i64 v4, .int .i64 v5, .int .i64 v6, .int .i64 v7, .int .i64 v8, .int .i64 v9, .int .i64 v10, .int .i64 v11, .int .i64 v12, .int .i64 v13, .int .i64 v14, .int .i64 v15])), (7, .r (.int .i64 5))]) (h' := ⟨0, [], false⟩) [] rfl rfl rfl rfl ?_ trivial rfl) ?_
                     ·exact ⟨⟨rfl, rfl⟩, ⟨rfl, rfl⟩, ⟨rfl, rfl⟩, trivial⟩
                     refine ag_again ?_
                     refine sZ ?_
                     refine pA ?_
                     refine pE ?_
                     refine vA ?_
                     refine sS ?_
                     refine ag_block ?_
                     iterate 2 refine ag_seq ?_
                     refine qD ?_
                     iterate 2 refine qA ?_
                     refine qB ?_ ?_
                     ·exact ⟨by decide, by simp⟩
                     refine qL ?_
                     iterate 2 refine qA ?_
                     refine qB ?_ ?_
                     ·exact ⟨by decide, by simp⟩
                     refine qL ?_
                     refine qE ?_
                     refine ag_if rfl ?_ ?_
                     ·intro h24
                      refine zB ?_
                      refine pE ?_
                      refine ag_ret tOk Tryz.func41 rfl rfl (by first | trivial | exact ⟨trivial, trivial⟩ | simp) ?_
                      exact eqI (by rw [cmpL_eq (by omega), cmpL_eq (by omega), cmpL_eq (by omega), cmpL_eq (by omega), cmpL_eq (by omega), cmpL_eq (by omega), cmpL_eq (by omega), cmpL_eq (by omega), cmpL_eq (by omega), cmpL_eq (by omega), cmpL_lt (by omega)])
                     ·intro h24
                      refine sS ?_
                      refine qD ?_
                      iterate 2 refine qA ?_
                      refine qB ?_ ?_
                      ·exact ⟨by decide, by simp⟩
                      refine qL ?_
                      iterate 2 refine qA ?_
                      refine qB ?_ ?_
                      ·exact ⟨by decide, by simp⟩
                      refine qL ?_
                      refine qE ?_
                      refine ag_if rfl ?_ ?_
                      ·intro h33
                       refine zB ?_
                       refine pE ?_
                       refine ag_ret tOk Tryz.func41 rfl rfl (by first | trivial | exact ⟨trivial, trivial⟩ | simp) ?_
                       exact eqI (by rw [cmpL_eq (by omega), cmpL_eq (by omega), cmpL_eq (by omega), cmpL_eq (by omega), cmpL_eq (by omega), cmpL_eq (by omega), cmpL_eq (by omega), cmpL_eq (by omega), cmpL_eq (by omega), cmpL_eq (by omega), cmpL_gt (by omega)])
                      ·intro h33
                       refine ag_skip ?_
                       refine iR ?_
                       refine pA ?_
                       refine pC ?_ ?_
                       ·unfold inI64; decide
                       refine pE ?_
                       refine ag_ent (ent_weak (g' := [(5, .r (.ro 16 [.int .i64 u0, .int .i64 u1, .int .i64 u2, .int .i64 u3, .int .i64 u4, .int .i64 u5, .int .i64 u6, .int .i64 u7, .int .i64 u8, .int .i64 u9, .int .i64 u10, .int .i64 u11, .int .i64 u12, .int .i64 u13, .int .i64 u14, .int .i64 u15])), (6, .r (.ro 16 [.int .i64 v0, .int .i64 v1, .int .i64 v2, .int .i64 v3, .int .i64 v4, .int .i64 v5, .int .i64 v6, .int .i64 v7, .int .i64 v8, .int .i64 v9, .int .i64 v10, .int .i64 v11, .int .i64 v12, .int .i64 v13, .int .i64 v14, .int .i64 v15])), (7, .r (.int .i64 4))]) (h' := ⟨0, [], false⟩) [] rfl rfl rfl rfl ?_ trivial rfl) ?_
                       ·exact ⟨⟨rfl, rfl⟩, ⟨rfl, rfl⟩, ⟨rfl, rfl⟩, trivial⟩
                       refine ag_again ?_
                       refine sZ ?_
                       refine pA ?_
                       refine pE ?_
                       refine vA ?_
                       refine sS ?_
                       refine ag_block ?_
                       iterate 2 refine ag_seq ?_
                       refine qD ?_
                       iterate 2 refine qA ?_
                       refine qB ?_ ?_
                       ·exact ⟨by decide, by simp⟩
                       refine qL ?_
                       iterate 2 refine qA ?_
                       refine qB ?_ ?_
                       ·exact ⟨by decide, by simp⟩
                       refine qL ?_
                       refine qE ?_
                       refine ag_if rfl ?_ ?_
                       ·intro h24
                        refine zB ?_
                        refine pE ?_
                        refine ag_ret tOk Tryz.func41 rfl rfl (by first | trivial | exact ⟨trivial, trivial⟩ | simp) ?_
                        exact eqI (by rw [cmpL_eq (by omega), cmpL_eq (by omega), cmpL_eq (by omega), cmpL_eq (by omega), cmpL_eq (by omega), cmpL_eq (by omega), cmpL_eq (by omega), cmpL_eq (by omega), cmpL_eq (by omega), cmpL_eq (by omega), cmpL_eq (by omega), cmpL_lt (by omega)])
                       ·intro h24
                        refine sS ?_
                        refine qD ?_
                        iterate 2 refine qA ?_
                        refine qB ?_ ?_
                        ·exact ⟨by decide, by simp⟩
                        refine qL ?_
                        iterate 2 refine qA ?_
                        refine qB ?_ ?_
                        ·exact ⟨by decide, by simp⟩
                        refine qL ?_
                        refine qE ?_
                        refine ag_if rfl ?_ ?_
                        ·intro h33
                         refine zB ?_
                         refine pE ?_
                         refine ag_ret tOk Tryz.func41 rfl rfl (by first | trivial | exact ⟨trivial, trivial⟩ | simp) ?_
                         exact eqI (by rw [cmpL_eq (by omega), cmpL_eq (by omega), cmpL_eq (by omega), cmpL_eq (by omega), cmpL_eq (by omega), cmpL_eq (by omega), cmpL_eq (by omega), cmpL_eq (by omega), cmpL_eq (by omega), cmpL_eq (by omega), cmpL_eq (by omega), cmpL_gt (by omega)])
                        ·intro h33
                         refine ag_skip ?_
                         refine iR ?_
                         refine pA ?_
                         refine pC ?_ ?_
                         ·unfold inI64; decide
                         refine pE ?_
                         refine ag_ent (ent_weak (g' := [(5, .r (.ro 16 [.int .i64 u0, .int .i64 u1, .int .i64 u2, .int .i64 u3, .int .i64 u4, .int .i64 u5, .int .i64 u6, .int .i64 u7, .int .i64 u8, .int .i64 u9, .int .i64 u10, .int .i64 u11, .int .i64 u12, .int .i64 u13, .int .i64 u14, .int .i64 u15])), (6, .r (.ro 16 [.int .i64 v0, .int .i64 v1, .int .i64 v2, .int .i64 v3, .int .i64 v4, .int .i64 v5, .int .i64 v6, .int .i64 v7, .int .i64 v8, .int .i64 v9, .int .i64 v10, .int .i64 v11, .int .i64 v12, .int .i64 v13, .int .i64 v14, .int .i64 v15])), (7, .r (.int .i64 3))]) (h' := ⟨0, [], false⟩) [] rfl rfl rfl rfl ?_ trivial rfl) ?_
                         ·exact ⟨⟨rfl, rfl⟩, ⟨rfl, rfl⟩, ⟨rfl, rfl⟩, trivial⟩
                         refine ag_again ?_
                         refine sZ ?_
                         refine pA ?_
                         refine pE ?_
                         refine vA ?_
                         refine sS ?_
                         refine ag_block ?_
                         iterate 2 refine ag_seq ?_
                         refine qD ?_
                         iterate 2 refine qA ?_
                         refine qB ?_ ?_
                         ·exact ⟨by decide, by simp⟩
                         refine qL ?_
                         iterate 2 refine qA ?_
                         refine qB ?_ ?_
                         ·exact ⟨by decide, by simp⟩
                         refine qL ?_
                         refine qE ?_
                         refine ag_if rfl ?_ ?_
                         ·intro h24
                          refine zB ?_
                          refine pE ?_
                          refine ag_ret tOk Tryz.func41 rfl rfl (by first | trivial | exact ⟨trivial, trivial⟩ | simp) ?_
                          exact eqI (by rw [cmpL_eq (by omega), cmpL_eq (by omega), cmpL_eq (by omega), cmpL_eq (by omega), cmpL_eq (by omega), cmpL_eq (by omega), cmpL_eq (by omega), cmpL_eq (by omega), cmpL_eq (by omega), cmpL_eq (by omega), cmpL_eq (by omega), cmpL_eq (by omega), cmpL_lt (by omega)])
                         ·intro h24
                          refine sS ?_
                          refine qD ?_
                          iterate 2 refine qA ?_
                          refine qB ?_ ?_
                          ·exact ⟨by decide, by simp⟩
                          refine qL ?_
                          iterate 2 refine qA ?_
                          refine qB ?_ ?_
                          ·exact ⟨by decide, by simp⟩
                          refine qL ?_
                          refine qE ?_
                          refine ag_if rfl ?_ ?_
                          ·intro h33
                           refine zB ?_
                           refine pE ?_
                           refine ag_ret tOk Tryz.func41 rfl rfl (by first | trivial | exact ⟨trivial, trivial⟩ | simp) ?_
                           exact eqI (by rw [cmpL_eq (by omega), cmpL_eq (by omega), cmpL_eq (by omega), cmpL_eq (by omega), cmpL_eq (by omega), cmpL_eq (by omega), cmpL_eq (by omega), cmpL_eq (by omega), cmpL_eq (by omega), cmpL_eq (by omega), cmpL_eq (by omega), cmpL_eq (by omega), cmpL_gt (by omega)])
                          ·intro h33
                           refine ag_skip ?_
                           refine iR ?_
                           refine pA ?_
                           refine pC ?_ ?_
                           ·unfold inI64; decide
                           refine pE ?_
                           refine ag_ent (ent_weak (g' := [(5, .r (.ro 16 [.int .i64 u0, .int .i64 u1, .int .i64 u2, .int .i64 u3, .int .i64 u4, .int .i64 u5, .int .i64 u6, .int .i64 u7, .int .i64 u8, .int .i64 u9, .int .i64 u10, .int .i64 u11, .int .i64 u12, .int .i64 u13, .int .i64 u14, .int .i64 u15])), (6, .r (.ro 16 [.int .i64 v0, .int .i64 v1, .int .i64 v2, .int .i64 v3, .int .i64 v4, .int .i64 v5, .int .i64 v6, .int .i64 v7, .int .i64 v8, .int .i64 v9, .int .i64 v10, .int .i64 v11, .int .i64 v12, .int .i64 v13, .int .i64 v14, .int .i64 v15])), (7, .r (.int .i64 2))]) (h' := ⟨0, [], false⟩) [] rfl rfl rfl rfl ?_ trivial rfl) ?_
                           ·exact ⟨⟨rfl, rfl⟩, ⟨rfl, rfl⟩, ⟨rfl, rfl⟩, trivial⟩
                           refine ag_again ?_
                           refine sZ ?_
                           refine pA ?_
                           refine pE ?_
                           refine vA ?_
                           refine sS ?_
                           refine ag_block ?_
                           iterate 2 refine ag_seq ?_
                           refine qD ?_
                           iterate 2 refine qA ?_
                           refine qB ?_ ?_
                           ·exact ⟨by decide, by simp⟩
                           refine qL ?_
                           iterate 2 refine qA ?_
                           refine qB ?_ ?_
                           ·exact ⟨by decide, by simp⟩
                           refine qL ?_
                           refine qE ?_
                           refine ag_if rfl ?_ ?_
                           ·intro h24
                            refine zB ?_
                            refine pE ?_
                            refine ag_ret tOk Tryz.func41 rfl rfl (by first | trivial | exact ⟨trivial, trivial⟩ | simp) ?_
                            exact eqI (by rw [cmpL_eq (by omega), cmpL_eq (by omega), cmpL_eq (by omega), cmpL_eq (by omega), cmpL_eq (by omega), cmpL_eq (by omega), cmpL_eq (by omega), cmpL_eq (by omega), cmpL_eq (by omega), cmpL_eq (by omega), cmpL_eq (by omega), cmpL_eq (by omega), cmpL_eq (by omega), cmpL_lt (by omega)])
                           ·intro h24
                            refine sS ?_
                            refine qD ?_
                            iterate 2 refine qA ?_
                            refine qB ?_ ?_
                            ·exact ⟨by decide, by simp⟩
                            refine qL ?_
                            iterate 2 refine qA ?_
                            refine qB ?_ ?_
                            ·exact ⟨by decide, by simp⟩
                            refine qL ?_
                            refine qE ?_
                            refine ag_if rfl ?_ ?_
                            ·intro h33
                             refine zB ?_
                             refine pE ?_
                             refine ag_ret tOk Tryz.func41 rfl rfl (by first | trivial | exact ⟨trivial, trivial⟩ | simp) ?_
                             exact eqI (by rw [cmpL_eq (by omega), cmpL_eq (by omega), cmpL_eq (by omega), cmpL_eq (by omega), cmpL_eq (by omega), cmpL_eq (by omega), cmpL_eq (by omega), cmpL_eq (by omega), cmpL_eq (by omega), cmpL_eq (by omega), cmpL_eq (by omega), cmpL_eq (by omega), cmpL_eq (by omega), cmpL_gt (by omega)])
                            ·intro h33
                             refine ag_skip ?_
                             refine iR ?_
                             refine pA ?_
                             refine pC ?_ ?_
                             ·unfold inI64; decide
                             refine pE ?_
                             refine ag_ent (ent_weak (g' := [(5, .r (.ro 16 [.int .i64 u0, .int .i64 u1, .int .i64 u2, .int .i64 u3, .int .i64 u4, .int .i64 u5, .int .i64 u6, .int .i64 u7, .int .i64 u8, .int .i64 u9, .int .i64 u10, .int .i64 u11, .int .i64 u12, .int .i64 u13, .int .i64 u14, .int .i64 u15])), (6, .r (.ro 16 [.int .i64 v0, .int .i64 v1, .int .i64 v2, .int .i64 v3, .int .i64 v4, .int .i64 v5, .int .i64 v6, .int .i64 v7, .int .i64 v8, .int .i64 v9, .int .i64 v10, .int .i64 v11, .int .i64 v12, .int .i64 v13, .int .i64 v14, .int .i64 v15])), (7, .r (.int .i64 1))]) (h' := ⟨0, [], false⟩) [] rfl rfl rfl rfl ?_ trivial rfl) ?_
                             ·exact ⟨⟨rfl, rfl⟩, ⟨rfl, rfl⟩, ⟨rfl, rfl⟩, trivial⟩
                             refine ag_again ?_
                             refine sZ ?_
                             refine pA ?_
                             refine pE ?_
                             refine vA ?_
                             refine sS ?_
                             refine ag_block ?_
                             iterate 2 refine ag_seq ?_
                             refine qD ?_
                             iterate 2 refine qA ?_
                             refine qB ?_ ?_
                             ·exact ⟨by decide, by simp⟩
                             refine qL ?_
                             iterate 2 refine qA ?_
                             refine qB ?_ ?_
                             ·exact ⟨by decide, by simp⟩
                             refine qL ?_
                             refine qE ?_
                             refine ag_if rfl ?_ ?_
                             ·intro h24
                              refine zB ?_
                              refine pE ?_
                              refine ag_ret tOk Tryz.func41 rfl rfl (by first | trivial | exact ⟨trivial, trivial⟩ | simp) ?_
                              exact eqI (by rw [cmpL_eq (by omega), cmpL_eq (by omega), cmpL_eq (by omega), cmpL_eq (by omega), cmpL_eq (by omega), cmpL_eq (by omega), cmpL_eq (by omega), cmpL_eq (by omega), cmpL_eq (by omega), cmpL_eq (by omega), cmpL_eq (by omega), cmpL_eq (by omega), cmpL_eq (by omega), cmpL_eq (by omega), cmpL_lt (by omega)])
                             ·intro h24
                              refine sS ?_
                              refine qD ?_
                              iterate 2 refine qA ?_
                              refine qB ?_ ?_
                              ·exact ⟨by decide, by simp⟩
                              refine qL ?_
                              iterate 2 refine qA ?_
                              refine qB ?_ ?_
                              ·exact ⟨by decide, by simp⟩
                              refine qL ?_
                              refine qE ?_
                              refine ag_if rfl ?_ ?_
                              ·intro h33
                               refine zB ?_
                               refine pE ?_
                               refine ag_ret tOk Tryz.func41 rfl rfl (by first | trivial | exact ⟨trivial, trivial⟩ | simp) ?_
                               exact eqI (by rw [cmpL_eq (by omega), cmpL_eq (by omega), cmpL_eq (by omega), cmpL_eq (by omega), cmpL_eq (by omega), cmpL_eq (by omega), cmpL_eq (by omega), cmpL_eq (by omega), cmpL_eq (by omega), cmpL_eq (by omega), cmpL_eq (by omega), cmpL_eq (by omega), cmpL_eq (by omega), cmpL_eq (by omega), cmpL_gt (by omega)])
                              ·intro h33
                               refine ag_skip ?_
                               refine iR ?_
                               refine pA ?_
                               refine pC ?_ ?_
                               ·unfold inI64; decide
                               refine pE ?_
                               refine ag_ent (ent_weak (g' := [(5, .r (.ro 16 [.int .i64 u0, .int .i64 u1, .int .i64 u2, .int .i64 u3, .int .i64 u4, .int .i64 u5, .int .i64 u6, .int .i64 u7, .int .i64 u8, .int .i64 u9, .int .i64 u10, .int .i64 u11, .int .i64 u12, .int .i64 u13, .int .i64 u14, .int .i64 u15])), (6, .r (.ro 16 [.int .i64 v0, .int .i64 v1, .int .i64 v2, .int .i64 v3, .int .i64 v4, .int .i64 v5, .int .i64 v6, .int .i64 v7, .int .i64 v8, .int .i64 v9, .int .i64 v10, .int .i64 v11, .int .i64 v12, .int .i64 v13, .int .i64 v14, .int .i64 v15])), (7, .r (.int .i64 0))]) (h' := ⟨0, [], false⟩) [] rfl rfl rfl rfl ?_ trivial rfl) ?_
                               ·exact ⟨⟨rfl, rfl⟩, ⟨rfl, rfl⟩, ⟨rfl, rfl⟩, trivial⟩
                               refine ag_again ?_
                               refine sZ ?_
                               refine pA ?_
                               refine pE ?_
                               refine vA ?_
                               refine sS ?_
                               refine ag_block ?_
                               iterate 2 refine ag_seq ?_
                               refine qD ?_
                               iterate 2 refine qA ?_
                               refine qB ?_ ?_
                               ·exact ⟨by decide, by simp⟩
                               refine qL ?_
                               iterate 2 refine qA ?_
                               refine qB ?_ ?_
                               ·exact ⟨by decide, by simp⟩
                               refine qL ?_
                               refine qE ?_
                               refine ag_if rfl ?_ ?_
                               ·intro h24
                                refine zB ?_
                                refine pE ?_
                                refine ag_ret tOk Tryz.func41 rfl rfl (by first | trivial | exact ⟨trivial, trivial⟩ | simp) ?_
                                exact eqI (by rw [cmpL_eq (by omega), cmpL_eq (by omega), cmpL_eq (by omega), cmpL_eq (by omega), cmpL_eq (by omega), cmpL_eq (by omega), cmpL_eq (by omega), cmpL_eq (by omega), cmpL_eq (by omega), cmpL_eq (by omega), cmpL_eq (by omega), cmpL_eq (by omega), cmpL_eq (by omega), cmpL_eq (by omega), cmpL_eq (by omega), cmpL_lt (by omega)])
                               ·intro h24
                                refine sS ?_
                                refine qD ?_
                                iterate 2 refine qA ?_
                                refine qB ?_ ?_
                                ·exact ⟨by decide, by simp⟩
                                refine qL ?_
                                iterate 2 refine qA ?_
                                refine qB ?_ ?_
                                ·exact ⟨by decide, by simp⟩
                                refine qL ?_
                                refine qE ?_
                                refine ag_if rfl ?_ ?_
                                ·intro h33
                                 refine zB ?_
                                 refine pE ?_
                                 refine ag_ret tOk Tryz.func41 rfl rfl (by first | trivial | exact ⟨trivial, trivial⟩ | simp) ?_
                                 exact eqI (by rw [cmpL_eq (by omega), cmpL_eq (by omega), cmpL_eq (by omega), cmpL_eq (by omega), cmpL_eq (by omega), cmpL_eq (by omega), cmpL_eq (by omega), cmpL_eq (by omega), cmpL_eq (by omega), cmpL_eq (by omega), cmpL_eq (by omega), cmpL_eq (by omega), cmpL_eq (by omega), cmpL_eq (by omega), cmpL_eq (by omega), cmpL_gt (by omega)])
                                ·intro h33
                                 refine ag_skip ?_
                                 refine iR ?_
                                 refine pA ?_
                                 refine pC ?_ ?_
                                 ·unfold inI64; decide
                                 refine pE ?_
                                 refine ag_ent (ent_weak (g' := [(5, .r (.ro 16 [.int .i64 u0, .int .i64 u1, .int .i64 u2, .int .i64 u3, .int .i64 u4, .int .i64 u5, .int .i64 u6, .int .i64 u7, .int .i64 u8, .int .i64 u9, .int .i64 u10, .int .i64 u11, .int .i64 u12, .int .i64 u13, .int .i64 u14, .int .i64 u15])), (6, .r (.ro 16 [.int .i64 v0, .int .i64 v1, .int .i64 v2, .int .i64 v3, .int .i64 v4, .int .i64 v5, .int .i64 v6, .int .i64 v7, .int .i64 v8, .int .i64 v9, .int .i64 v10, .int .i64 v11, .int .i64 v12, .int .i64 v13, .int .i64 v14, .int .i64 v15])), (7, .r (.int .i64 (-1)))]) (h' := ⟨0, [], false⟩) [] rfl rfl rfl rfl ?_ trivial rfl) ?_
                                 ·exact ⟨⟨rfl, rfl⟩, ⟨rfl, rfl⟩, ⟨rfl, rfl⟩, trivial⟩
                                 refine ag_again ?_
                                 refine sZ ?_
                                 refine pA ?_
                                 refine pE ?_
                                 refine vD ?_
                                 refine ag_exit rfl ?_
                                 refine zB ?_
                                 refine pE ?_
                                 refine ag_ret tOk Tryz.func41 rfl rfl (by first | trivial | exact ⟨trivial, trivial⟩ | simp) ?_
                                 exact eqI (by rw [cmpL_eq (by omega), cmpL_eq (by omega), cmpL_eq (by omega), cmpL_eq (by omega), cmpL_eq (by omega), cmpL_eq (by omega), cmpL_eq (by omega), cmpL_eq (by omega), cmpL_eq (by omega), cmpL_eq (by omega), cmpL_eq (by omega), cmpL_eq (by omega), cmpL_eq (by omega), cmpL_eq (by omega), cmpL_eq (by omega), cmpL_eq (by omega)]; rfl)
theorem w_rCmp (x0 x1 x2 x3 y0 y1 y2 y3 : Int) (h0 : U64 x0) (h1 : U64 x1) (h2 : U64 x2) (h3 : U64 x3) (g0 : U64 y0) (g1 : U64 y1) (g2 : U64 y2) (g3 : U64 y3) : Pur Tryz.prog 41 [wA x0 x1 x2 x3, wA y0 y1 y2 y3] (.r (.int .i64 (cmpW x0 x1 x2 x3 y0 y1 y2 y3))) := by
 refine (w_rCmp16 x0 x1 x2 x3 y0 y1 y2 y3 (x0 % 65536) (x0 / 65536 % 65536) (x0 / 65536 / 65536 % 65536) (x0 / 65536 / 65536 / 65536 % 65536) (x1 % 65536) (x1 / 65536 % 65536) (x1 / 65536 / 65536 % 65536) (x1 / 65536 / 65536 / 65536 % 65536) (x2 % 65536) (x2 / 65536 % 65536) (x2 / 65536 / 65536 % 65536) (x2 / 65536 / 65536 / 65536 % 65536) (x3 % 65536) (x3 / 65536 % 65536) (x3 / 65536 / 65536 % 65536) (x3 / 65536 / 65536 / 65536 % 65536) (y0 % 65536) (y0 / 65536 % 65536) (y0 / 65536 / 65536 % 65536) (y0 / 65536 / 65536 / 65536 % 65536) (y1 % 65536) (y1 / 65536 % 65536) (y1 / 65536 / 65536 % 65536) (y1 / 65536 / 65536 / 65536 % 65536) (y2 % 65536) (y2 / 65536 % 65536) (y2 / 65536 / 65536 % 65536) (y2 / 65536 / 65536 / 65536 % 65536) (y3 % 65536) (y3 / 65536 % 65536) (y3 / 65536 / 65536 % 65536) (y3 / 65536 / 65536 / 65536 % 65536) (own_ro_plain (w_Digits x0 x1 x2 x3 h0 h1 h2 h3) rfl) (own_ro_plain (w_Digits y0 y1 y2 y3 g0 g1 g2 g3) rfl)).mono_r ?_
 rw [cmpL4 h3 g3, cmpL4 h2 g2, cmpL4 h1 g1, cmpL4 h0 g0]
 rfl
end Go.Proofs.YtccdhgmkjakjkaaGreat

/-
  WALKS: wide numbers' octets, the other one. (Printed by gen.py out of w_bwide2.py.)
-/
import Derived.Test.YtccdhgmkjakjkaaGreatBWide
namespace Go.Proofs.YtccdhgmkjakjkaaGreat
open Go
set_option maxRecDepth 20000
set_option linter.unusedVariables false
set_option linter.unusedSimpArgs false
def roW (x0 x1 x2 x3 : Int) : AVal := .r (.ro 4 [.int .u64 x0, .int .u64 x1, .int .u64 x2, .int .u64 x3])
def hsW (x : AVal) (acc : List UInt8) : Hp :=
 match acc with
 | [] => ⟨2, [(0, some (.mixed [.r .nil])), (1, some (.mixed [x]))], false⟩
 | c :: l => ⟨3, [(0, some (.mixed [.sl 2 0 (c :: l).length 1])), (1, some (.mixed [x])), (2, some (.bytes (c :: l)))], false⟩
theorem hsW_gh (X : AVal) (E : List UInt8) : ({ hsW X E with gh := !true } : Hp) = hsW X E := by cases E <;> rfl
def yW (X : AVal) : YRel := fun args h v h' => ∃ (acc : List UInt8) (i x : Int), U64 x ∧ acc.length ≤ 32 ∧ args = [.r (.int .i64 i), .r (.int .u64 x)] ∧ h = hsW X acc ∧ v = true ∧ h' = hsW X (acc ++ numL 8 x)
def gW : Regs := [(8, .func 89 [.ptr 1 0]), (3, .ptr 0 0)]
theorem eqMx1 {β n n' z : Nat} (h : n = n') : some (Body.mixed [.sl β 0 n z]) = some (Body.mixed [.sl β 0 n' z]) := by rw [h]
def shL (x : Int) : List UInt8 :=
  [UInt8.ofNat (IntKind.u8.wrap (x.fdiv (2 ^ 56))).toNat, UInt8.ofNat (IntKind.u8.wrap (x.fdiv (2 ^ 48))).toNat, UInt8.ofNat (IntKind.u8.wrap (x.fdiv (2 ^ 40))).toNat, UInt8.ofNat (IntKind.u8.wrap (x.fdiv (2 ^ 32))).toNat,
   UInt8.ofNat (IntKind.u8.wrap (x.fdiv (2 ^ 24))).toNat, UInt8.ofNat (IntKind.u8.wrap (x.fdiv (2 ^ 16))).toNat, UInt8.ofNat (IntKind.u8.wrap (x.fdiv (2 ^ 8))).toNat, UInt8.ofNat (IntKind.u8.wrap (x.fdiv (2 ^ 0))).toNat]
theorem w_Wide (x0 x1 x2 x3 : Int) (h0 : U64 x0) (h1 : U64 x1) (h2 : U64 x2) (h3 : U64 x3) : Own Tryz.prog 88 [wA x0 x1 x2 x3] 32 1 (.bytes (wideL x0 x1 x2 x3)) := by
 refine spec_of_go (N := 23) Tryz.func88 rfl (by decide) rfl rfl ?_
 refine zB ?_
 refine pM ?_
 refine pG ?_
 refine pN ?_ ?_
 ·simp
 refine zA ?_
 refine zB ?_
 refine ar_ent (ent_body 0 (.mixed [.r (.int .u64 x0), .r (.int .u64 x1), .r (.int .u64 x2), .r (.int .u64 x3)]) (.plain [.int .u64 x0, .int .u64 x1, .int .u64 x2, .int .u64 x3]) rfl rfl) ?_
 refine ar_qd rfl (qop_arrSl tOk rfl ⟨by simp [Body.cells], by omega⟩) rfl rfl rfl rfl ?_
 refine ar_ent (ent_freeze 7 rfl rfl rfl trivial) ?_
 refine w_bw163 rfl rfl rfl rfl rfl rfl ?_
 refine ar_nil ?_
 refine ag_ent (ent_weak (g' := gW) (h' := hsW (roW x0 x1 x2 x3) []) [1, 2] rfl rfl rfl rfl ?_ ?_ rfl) ?_
 ·exact ⟨⟨rfl, rfl⟩, ⟨rfl, rfl⟩, trivial⟩
 ·exact ⟨⟨rfl, rfl, rfl⟩, ⟨rfl, rfl, rfl⟩, trivial⟩
 refine ag_block ?_
 refine ag_range 2 (yW (roW x0 x1 x2 x3)) (fun args => (5, args.getD 1 .any) :: (10, args.getD 1 .any) :: (9, args.getD 0 .any) :: gW) (fun h' => h' = hsW (roW x0 x1 x2 x3) ((((([] : List UInt8) ++ numL 8 x3) ++ numL 8 x2) ++ numL 8 x1) ++ numL 8 x0)) rfl rfl rfl rfl rfl rfl rfl Tryz.func89 rfl (by decide) rfl rfl rfl ?_ ?_ ?_ ?_
 ·rintro args h v h' ⟨acc, i, x, hx, hl, rfl, rfl, rfl, rfl⟩
  exact ⟨rfl, asgOk_region tOk rfl ⟨trivial, trivial⟩⟩
 ·rintro args h v h' ⟨acc, i, x, hx, hl, rfl, rfl, rfl, rfl⟩
  cases acc with
  | nil =>
   refine bX ?_
   refine pE ?_
   refine ag_block ?_
   refine ag_unroll ?_
   refine sZ ?_
   refine pA ?_
   refine pE ?_
   refine vA ?_
   refine sS ?_
   refine ag_block ?_
   apply ag_draw3 [20, 21] (by kernel_rfl) (by kernel_rfl)
   refine aq_load1 tOk rfl (by kernel_rfl) rfl rfl rfl rfl trivial ?_ ?_
   rotate_left 1
   iterate 2 refine qA ?_
   refine qB ?_ ?_
   ·decide
   refine qA ?_
   refine' aq_new30 tOk rfl rfl rfl rfl rfl ?_ ?_
   rotate_left 2
   ·simp
   refine' aq_app31 tOk rfl rfl rfl rfl rfl ?_ ?_
   rotate_left 1
   ·refine ⟨⟨?_, ?_, ?_⟩, ⟨?_, ?_⟩, ⟨?_, ?_⟩, ?_⟩ <;> first | trivial | decide | exact ⟨u8r _, trivial⟩ | omega | (simp; done) | (simp [cutA_eq]; done) | (simp [cutA_eq]; omega) | (simp at *; omega)
   refine aq_store32 tOk rfl rfl rfl rfl trivial ?_
   refine aq_nil rfl ?_
   refine ag_inBlock ?_
   refine ag_ent (ent_weak (g' := [(6, .r (.int .i64 56)), (5, .r (.int .u64 x)), (3, .ptr 0 0)]) (h' := hsW (roW x0 x1 x2 x3) (([] : List UInt8) ++ (shL x).take 1)) [0, 1, 3] rfl rfl rfl rfl ?_ ?_ rfl) ?_
   ·exact ⟨⟨rfl, rfl⟩, ⟨rfl, rfl⟩, ⟨rfl, rfl⟩, trivial⟩
   ·exact ⟨⟨rfl, rfl, rfl⟩, ⟨rfl, rfl, rfl⟩, ⟨rfl, rfl, rfl⟩, trivial⟩
   refine ag_reg ?_
   refine pA ?_
   refine pC ?_ ?_
   ·unfold inI64; decide
   refine pE ?_
   refine ag_again ?_
   refine sZ ?_
   refine pA ?_
   refine pE ?_
   refine vA ?_
   refine sS ?_
   refine ag_block ?_
   apply ag_draw3 [20, 21] (by kernel_rfl) (by kernel_rfl)
   refine aq_load1 tOk rfl (by kernel_rfl) rfl rfl rfl rfl trivial ?_ ?_
   rotate_left 1
   iterate 2 refine qA ?_
   refine qB ?_ ?_
   ·decide
   refine qA ?_
   refine' aq_new30 tOk rfl rfl rfl rfl rfl ?_ ?_
   rotate_left 2
   ·simp
   refine' aq_app31 tOk rfl rfl rfl rfl rfl ?_ ?_
   rotate_left 1
   ·refine ⟨⟨?_, ?_, ?_⟩, ⟨?_, ?_⟩, ⟨?_, ?_⟩, ?_⟩ <;> first | trivial | decide | exact ⟨u8r _, trivial⟩ | omega | (simp; done) | (simp [cutA_eq]; done) | (simp [cutA_eq]; omega) | (simp at *; omega)
   refine aq_store32 tOk rfl rfl rfl rfl trivial ?_
   refine aq_nil rfl ?_
   refine ag_inBlock ?_
   refine ag_ent (ent_weak (g' := [(6, .r (.int .i64 48)), (5, .r (.int .u64 x)), (3, .ptr 0 0)]) (h' := hsW (roW x0 x1 x2 x3) (([] : List UInt8) ++ (shL x).take 2)) [0, 1, 4] rfl rfl rfl rfl ?_ ?_ rfl) ?_
   ·exact ⟨⟨rfl, rfl⟩, ⟨rfl, rfl⟩, ⟨rfl, rfl⟩, trivial⟩
   ·exact ⟨⟨rfl, rfl, rfl⟩, ⟨rfl, rfl, rfl⟩, ⟨rfl, rfl, rfl⟩, trivial⟩
   refine ag_reg ?_
   refine pA ?_
   refine pC ?_ ?_
   ·unfold inI64; decide
   refine pE ?_
   refine ag_again ?_
   refine sZ ?_
   refine pA ?_
   refine pE ?_
   refine vA ?_
   refine sS ?_
   refine ag_block ?_
   apply ag_draw3 [20, 21] (by kernel_rfl) (by kernel_rfl)
   refine aq_load1 tOk rfl (by kernel_rfl) rfl rfl rfl rfl trivial ?_ ?_
   rotate_left 1
   iterate 2 refine qA ?_
   refine qB ?_ ?_
   ·decide
   refine qA ?_
   refine' aq_new30 tOk rfl rfl rfl rfl rfl ?_ ?_
   rotate_left 2
   ·simp
   refine' aq_app31 tOk rfl rfl rfl rfl rfl ?_ ?_
   rotate_left 1
   ·refine ⟨⟨?_, ?_, ?_⟩, ⟨?_, ?_⟩, ⟨?_, ?_⟩, ?_⟩ <;> first | trivial | decide | exact ⟨u8r _, trivial⟩ | omega | (simp; done) | (simp [cutA_eq]; done) | (simp [cutA_eq]; omega) | (simp at *; omega)
   refine aq_store32 tOk rfl rfl rfl rfl trivial ?_
   refine aq_nil rfl ?_
   refine ag_inBlock ?_
   refine ag_ent (ent_weak (g' := [(6, .r (.int .i64 40)), (5, .r (.int .u64 x)), (3, .ptr 0 0)]) (h' := hsW (roW x0 x1 x2 x3) (([] : List UInt8) ++ (shL x).take 3)) [0, 1, 4] rfl rfl rfl rfl ?_ ?_ rfl) ?_
   ·exact ⟨⟨rfl, rfl⟩, ⟨rfl, rfl⟩, ⟨rfl, rfl⟩, trivial⟩
   ·exact ⟨⟨rfl, rfl, rfl⟩, ⟨rfl, rfl, rfl⟩, ⟨rfl, rfl, rfl⟩, trivial⟩
   refine ag_reg ?_
   refine pA ?_
   refine pC ?_ ?_
   ·unfold inI64; decide
   refine pE ?_
   refine ag_again ?_
   refine sZ ?_
   refine pA ?_
   refine pE ?_
   refine vA ?_
   refine sS ?_
   refine ag_block ?_
   apply ag_draw3 [20, 21] (by kernel_rfl) (by kernel_rfl)
   refine aq_load1 tOk rfl (by kernel_rfl) rfl rfl rfl rfl trivial ?_ ?_
   rotate_left 1
   iterate 2 refine qA ?_
   refine qB ?_ ?_
   ·decide
   refine qA ?_
   refine' aq_new30 tOk rfl rfl rfl rfl rfl ?_ ?_
   rotate_left 2
   ·simp
   refine' aq_app31 tOk rfl rfl rfl rfl rfl ?_ ?_
   rotate_left 1
   ·refine ⟨⟨?_, ?_, ?_⟩, ⟨?_, ?_⟩, ⟨?_, ?_⟩, ?_⟩ <;> first | trivial | decide | exact ⟨u8r _, trivial⟩ | omega | (simp; done) | (simp [cutA_eq]; done) | (simp [cutA_eq]; omega) | (simp at *; omega)
   refine aq_store32 tOk rfl rfl rfl rfl trivial ?_
   refine aq_nil rfl ?_
   refine ag_inBlock ?_
   refine ag_ent (ent_weak (g' := [(6, .r (.int .i64 32)), (5, .r (.int .u64 x)), (3, .ptr 0 0)]) (h' := hsW (roW x0 x1 x2 x3) (([] : List UInt8) ++ (shL x).take 4)) [0, 1, 4] rfl rfl rfl rfl ?_ ?_ rfl) ?_
   ·exact ⟨⟨rfl, rfl⟩, ⟨rfl, rfl⟩, ⟨rfl, rfl⟩, trivial⟩
   ·exact ⟨⟨rfl, rfl, rfl⟩, ⟨rfl, rfl, rfl⟩, ⟨rfl, rfl, rfl⟩, trivial⟩
   refine ag_reg ?_
   refine pA ?_
   refine pC ?_ ?_
   ·unfold inI64; decide
   refine pE ?_
   refine ag_again ?_
   refine sZ ?_
   refine pA ?_
   refine pE ?_
   refine vA ?_
   refine sS ?_
   refine ag_block ?_
   apply ag_draw3 [20, 21] (by kernel_rfl) (by kernel_rfl)
   refine aq_load1 tOk rfl (by kernel_rfl) rfl rfl rfl rfl trivial ?_ ?_
   rotate_left 1
   iterate 2 refine qA ?_
   refine qB ?_ ?_
   ·decide
   refine qA ?_
   refine' aq_new30 tOk rfl rfl rfl rfl rfl ?_ ?_
   rotate_left 2
   ·simp
   refine' aq_app31 tOk rfl rfl rfl rfl rfl ?_ ?_
   rotate_left 1
   ·refine ⟨⟨?_, ?_, ?_⟩, ⟨?_, ?_⟩, ⟨?_, ?_⟩, ?_⟩ <;> first | trivial | decide | exact ⟨u8r _, trivial⟩ | omega | (simp; done) | (simp [cutA_eq]; done) | (simp [cutA_eq]; omega) | (simp at *; omega)
   refine aq_store32 tOk rfl rfl rfl rfl trivial ?_
   refine aq_nil rfl ?_
   refine ag_inBlock ?_
   refine ag_ent (ent_weak (g' := [(6, .r (.int .i64 24)), (5, .r (.int .u64 x)), (3, .ptr 0 0)]) (h' := hsW (roW x0 x1 x2 x3) (([] : List UInt8) ++ (shL x).take 5)) [0, 1, 4] rfl rfl rfl rfl ?_ ?_ rfl) ?_
   ·exact ⟨⟨rfl, rfl⟩, ⟨rfl, rfl⟩, ⟨rfl, rfl⟩, trivial⟩
   ·exact ⟨⟨rfl, rfl, rfl⟩, ⟨rfl, rfl, rfl⟩, ⟨rfl, rfl, rfl⟩, trivial⟩
   refine ag_reg ?_
   refine pA ?_
   refine pC ?_ ?_
   ·unfold inI64; decide
   refine pE ?_
   refine ag_again ?_
   refine sZ ?_
   refine pA ?_
   refine pE ?_
   refine vA ?_
   refine sS ?_
   refine ag_block ?_
   apply ag_draw3 [20, 21] (by kernel_rfl) (by kernel_rfl)
   refine aq_load1 tOk rfl (by kernel_rfl) rfl rfl rfl rfl trivial ?_ ?_
   rotate_left 1
   iterate 2 refine qA ?_
   refine qB ?_ ?_
   ·decide
   refine qA ?_
   refine' aq_new30 tOk rfl rfl rfl rfl rfl ?_ ?_
   rotate_left 2
   ·simp
   refine' aq_app31 tOk rfl rfl rfl rfl rfl ?_ ?_
   rotate_left 1
   ·refine ⟨⟨?_, ?_, ?_⟩, ⟨?_, ?_⟩, ⟨?_, ?_⟩, ?_⟩ <;> first | trivial | decide | exact ⟨u8r _, trivial⟩ | omega | (simp; done) | (simp [cutA_eq]; done) | (simp [cutA_eq]; omega) | (simp at *; omega)
   refine aq_store32 tOk rfl rfl rfl rfl trivial ?_
   refine aq_nil rfl ?_
   refine ag_inBlock ?_
   refine ag_ent (ent_weak (g' := [(6, .r (.int .i64 16)), (5, .r (.int .u64 x)), (3, .ptr 0 0)]) (h' := hsW (roW x0 x1 x2 x3) (([] : List UInt8) ++ (shL x).take 6)) [0, 1, 4] rfl rfl rfl rfl ?_ ?_ rfl) ?_
   ·exact ⟨⟨rfl, rfl⟩, ⟨rfl, rfl⟩, ⟨rfl, rfl⟩, trivial⟩
   ·exact ⟨⟨rfl, rfl, rfl⟩, ⟨rfl, rfl, rfl⟩, ⟨rfl, rfl, rfl⟩, trivial⟩
   refine ag_reg ?_
   refine pA ?_
   refine pC ?_ ?_
   ·unfold inI64; decide
   refine pE ?_
   refine ag_again ?_
   refine sZ ?_
   refine pA ?_
   refine pE ?_
   refine vA ?_
   refine sS ?_
   refine ag_block ?_
   apply ag_draw3 [20, 21] (by kernel_rfl) (by kernel_rfl)
   refine aq_load1 tOk rfl (by kernel_rfl) rfl rfl rfl rfl trivial ?_ ?_
   rotate_left 1
   iterate 2 refine qA ?_
   refine qB ?_ ?_
   ·decide
   refine qA ?_
   refine' aq_new30 tOk rfl rfl rfl rfl rfl ?_ ?_
   rotate_left 2
   ·simp
   refine' aq_app31 tOk rfl rfl rfl rfl rfl ?_ ?_
   rotate_left 1
   ·refine ⟨⟨?_, ?_, ?_⟩, ⟨?_, ?_⟩, ⟨?_, ?_⟩, ?_⟩ <;> first | trivial | decide | exact ⟨u8r _, trivial⟩ | omega | (simp; done) | (simp [cutA_eq]; done) | (simp [cutA_eq]; omega) | (simp at *; omega)
   refine aq_store32 tOk rfl rfl rfl rfl trivial ?_
   refine aq_nil rfl ?_
   refine ag_inBlock ?_
   refine ag_ent (ent_weak (g' := [(6, .r (.int .i64 8)), (5, .r (.int .u64 x)), (3, .ptr 0 0)]) (h' := hsW (roW x0 x1 x2 x3) (([] : List UInt8) ++ (shL x).take 7)) [0, 1, 4] rfl rfl rfl rfl ?_ ?_ rfl) ?_
   ·exact ⟨⟨rfl, rfl⟩, ⟨rfl, rfl⟩, ⟨rfl, rfl⟩, trivial⟩
   ·exact ⟨⟨rfl, rfl, rfl⟩, ⟨rfl, rfl, rfl⟩, ⟨rfl, rfl, rfl⟩, trivial⟩
   refine ag_reg ?_
   refine pA ?_
   refine pC ?_ ?_
   ·unfold inI64; decide
   refine pE ?_
   refine ag_again ?_
   refine sZ ?_
   refine pA ?_
   refine pE ?_
   refine vA ?_
   refine sS ?_
   refine ag_block ?_
   apply ag_draw3 [20, 21] (by kernel_rfl) (by kernel_rfl)
   refine aq_load1 tOk rfl (by kernel_rfl) rfl rfl rfl rfl trivial ?_ ?_
   rotate_left 1
   iterate 2 refine qA ?_
   refine qB ?_ ?_
   ·decide
   refine qA ?_
   refine' aq_new30 tOk rfl rfl rfl rfl rfl ?_ ?_
   rotate_left 2
   ·simp
   refine' aq_app31 tOk rfl rfl rfl rfl rfl ?_ ?_
   rotate_left 1
   ·refine ⟨⟨?_, ?_, ?_⟩, ⟨?_, ?_⟩, ⟨?_, ?_⟩, ?_⟩ <;> first | trivial | decide | exact ⟨u8r _, trivial⟩ | omega | (simp; done) | (simp [cutA_eq]; done) | (simp [cutA_eq]; omega) | (simp at *; omega)
   refine aq_store32 tOk rfl rfl rfl rfl trivial ?_
   refine aq_nil rfl ?_
   refine ag_inBlock ?_
   refine ag_ent (ent_weak (g' := [(6, .r (.int .i64 0)), (5, .r (.int .u64 x)), (3, .ptr 0 0)]) (h' := hsW (roW x0 x1 x2 x3) (([] : List UInt8) ++ (shL x).take 8)) [0, 1, 4] rfl rfl rfl rfl ?_ ?_ rfl) ?_
   ·exact ⟨⟨rfl, rfl⟩, ⟨rfl, rfl⟩, ⟨rfl, rfl⟩, trivial⟩
   ·exact ⟨⟨rfl, rfl, rfl⟩, ⟨rfl, rfl, rfl⟩, ⟨rfl, rfl, rfl⟩, trivial⟩
   refine ag_reg ?_
   refine pA ?_
   refine pC ?_ ?_
   ·unfold inI64; decide
   refine pE ?_
   refine ag_again ?_
   refine sZ ?_
   refine pA ?_
   refine pE ?_
   refine vD ?_
   refine ag_exit rfl ?_
   refine ag_inBlock ?_
   refine ag_rend rfl ?_
   exact ⟨rfl, by rw [numL8_shr]; rfl⟩
   all_goals exact ⟨_, rfl, trivial⟩
  | cons c l =>
   refine bX ?_
   refine pE ?_
   refine ag_block ?_
   refine ag_unroll ?_
   refine sZ ?_
   refine pA ?_
   refine pE ?_
   refine vA ?_
   refine sS ?_
   refine ag_block ?_
   apply ag_draw3 [20, 21] (by kernel_rfl) (by kernel_rfl)
   refine aq_load1 tOk rfl (by kernel_rfl) rfl rfl rfl rfl trivial ?_ ?_
   rotate_left 1
   iterate 2 refine qA ?_
   refine qB ?_ ?_
   ·decide
   refine qA ?_
   refine' aq_new30 tOk rfl rfl rfl rfl rfl ?_ ?_
   rotate_left 2
   ·simp
   refine' aq_app31 tOk rfl rfl rfl rfl rfl ?_ ?_
   rotate_left 1
   ·refine ⟨⟨?_, ?_, ?_⟩, ⟨?_, ?_⟩, ⟨?_, ?_⟩, ?_⟩ <;> first | trivial | decide | exact ⟨u8r _, trivial⟩ | omega | (simp; done) | (simp [cutA_eq]; done) | (simp [cutA_eq]; omega) | (simp at *; omega)
   refine aq_store32 tOk rfl rfl rfl rfl trivial ?_
   refine aq_nil rfl ?_
   refine ag_inBlock ?_
   refine ag_ent (ent_weak (g' := [(6, .r (.int .i64 56)), (5, .r (.int .u64 x)), (3, .ptr 0 0)]) (h' := hsW (roW x0 x1 x2 x3) ((c :: l) ++ (shL x).take 1)) [0, 1, 4] rfl rfl rfl rfl ?_ ?_ rfl) ?_
   ·exact ⟨⟨rfl, rfl⟩, ⟨rfl, rfl⟩, ⟨rfl, rfl⟩, trivial⟩
   ·exact ⟨⟨rfl, rfl, eqMx1 (by simp [shL]; try omega)⟩, ⟨rfl, rfl, rfl⟩, ⟨rfl, rfl, eqBs (by simp [cutA_eq, shL, IntKind.bits, List.take_length_add_append])⟩, trivial⟩
   refine ag_reg ?_
   refine pA ?_
   refine pC ?_ ?_
   ·unfold inI64; decide
   refine pE ?_
   refine ag_again ?_
   refine sZ ?_
   refine pA ?_
   refine pE ?_
   refine vA ?_
   refine sS ?_
   refine ag_block ?_
   apply ag_draw3 [20, 21] (by kernel_rfl) (by kernel_rfl)
   refine aq_load1 tOk rfl (by kernel_rfl) rfl rfl rfl rfl trivial ?_ ?_
   rotate_left 1
   iterate 2 refine qA ?_
   refine qB ?_ ?_
   ·decide
   refine qA ?_
   refine' aq_new30 tOk rfl rfl rfl rfl rfl ?_ ?_
   rotate_left 2
   ·simp
   refine' aq_app31 tOk rfl rfl rfl rfl rfl ?_ ?_
   rotate_left 1
   ·refine ⟨⟨?_, ?_, ?_⟩, ⟨?_, ?_⟩, ⟨?_, ?_⟩, ?_⟩ <;> first | trivial | decide | exact ⟨u8r _, trivial⟩ | omega | (simp; done) | (simp [cutA_eq]; done) | (simp [cutA_eq]; omega) | (simp at *; omega)
   refine aq_store32 tOk rfl rfl rfl rfl trivial ?_
   refine aq_nil rfl ?_
   refine ag_inBlock ?_
   refine ag_ent (ent_weak (g' := [(6, .r (.int .i64 48)), (5, .r (.int .u64 x)), (3, .ptr 0 0)]) (h' := hsW (roW x0 x1 x2 x3) ((c :: l) ++ (shL x).take 2)) [0, 1, 4] rfl rfl rfl rfl ?_ ?_ rfl) ?_
   ·exact ⟨⟨rfl, rfl⟩, ⟨rfl, rfl⟩, ⟨rfl, rfl⟩, trivial⟩
   ·exact ⟨⟨rfl, rfl, eqMx1 (by simp [shL]; try omega)⟩, ⟨rfl, rfl, rfl⟩, ⟨rfl, rfl, eqBs (by simp [cutA_eq, shL, IntKind.bits, List.take_length_add_append])⟩, trivial⟩
   refine ag_reg ?_
   refine pA ?_
   refine pC ?_ ?_
   ·unfold inI64; decide
   refine pE ?_
   refine ag_again ?_
   refine sZ ?_
   refine pA ?_
   refine pE ?_
   refine vA ?_
   refine sS ?_
   refine ag_block ?_
   apply ag_draw3 [20, 21] (by kernel_rfl) (by kernel_rfl)
   refine aq_load1 tOk rfl (by kernel_rfl) rfl rfl rfl rfl trivial ?_ ?_
   rotate_left 1
   iterate 2 refine qA ?_
   refine qB ?_ ?_
   ·decide
   refine qA ?_
   refine' aq_new30 tOk rfl rfl rfl rfl rfl ?_ ?_
   rotate_left 2
   ·simp
   refine' aq_app31 tOk rfl rfl rfl rfl rfl ?_ ?_
   rotate_left 1
   ·refine ⟨⟨?_, ?_, ?_⟩, ⟨?_, ?_⟩, ⟨?_, ?_⟩, ?_⟩ <;> first | trivial | decide | exact ⟨u8r _, trivial⟩ | omega | (simp; done) | (simp [cutA_eq]; done) | (simp [cutA_eq]; omega) | (simp at *; omega)
   refine aq_store32 tOk rfl rfl rfl rfl trivial ?_
   refine aq_nil rfl ?_
   refine ag_inBlock ?_
   refine ag_ent (ent_weak (g' := [(6, .r (.int .i64 40)), (5, .r (.int .u64 x)), (3, .ptr 0 0)]) (h' := hsW (roW x0 x1 x2 x3) ((c :: l) ++ (shL x).take 3)) [0, 1, 4] rfl rfl rfl rfl ?_ ?_ rfl) ?_
   ·exact ⟨⟨rfl, rfl⟩, ⟨rfl, rfl⟩, ⟨rfl, rfl⟩, trivial⟩
   ·exact ⟨⟨rfl, rfl, eqMx1 (by simp [shL]; try omega)⟩, ⟨rfl, rfl, rfl⟩, ⟨rfl, rfl, eqBs (by simp [cutA_eq, shL, IntKind.bits, List.take_length_add_append])⟩, trivial⟩
   refine ag_reg ?_
   refine pA ?_
   refine pC ?_ ?_
   ·unfold inI64; decide
   refine pE ?_
   refine ag_again ?_
   refine sZ ?_
   refine pA ?_
   refine pE ?_
   refine vA ?_
   refine sS ?_
   refine ag_block ?_
   apply ag_draw3 [20, 21] (by kernel_rfl) (by kernel_rfl)
   refine aq_load1 tOk rfl (by kernel_rfl) rfl rfl rfl rfl trivial ?_ ?_
   rotate_left 1
   iterate 2 refine qA ?_
   refine qB ?_ ?_
   ·decide
   refine qA ?_
   refine' aq_new30 tOk rfl rfl rfl rfl rfl ?_ ?_
   rotate_left 2
   ·simp
   refine' aq_app31 tOk rfl rfl rfl rfl rfl ?_ ?_
   rotate_left 1
   ·refine ⟨⟨?_, ?_, ?_⟩, ⟨?_, ?_⟩, ⟨?_, ?_⟩, ?_⟩ <;> first | trivial | decide | exact ⟨u8r _, trivial⟩ | omega | (simp; done) | (simp [cutA_eq]; done) | (simp [cutA_eq]; omega) | (simp at *; omega)
   refine aq_store32 tOk rfl rfl rfl rfl trivial ?_
   refine aq_nil rfl ?_
   refine ag_inBlock ?_
   refine ag_ent (ent_weak (g' := [(6, .r (.int .i64 32)), (5, .r (.int .u64 x)), (3, .ptr 0 0)]) (h' := hsW (roW x0 x1 x2 x3) ((c :: l) ++ (shL x).take 4)) [0, 1, 4] rfl rfl rfl rfl ?_ ?_ rfl) ?_
   ·exact ⟨⟨rfl, rfl⟩, ⟨rfl, rfl⟩, ⟨rfl, rfl⟩, trivial⟩
   ·exact ⟨⟨rfl, rfl, eqMx1 (by simp [shL]; try omega)⟩, ⟨rfl, rfl, rfl⟩, ⟨rfl, rfl, eqBs (by simp [cutA_eq, shL, IntKind.bits, List.take_length_add_append])⟩, trivial⟩
   refine ag_reg ?_
   refine pA ?_
   refine pC ?_ ?_
   ·unfold inI64; decide
   refine pE ?_
   refine ag_again ?_
   refine sZ ?_
   refine pA ?_
   refine pE ?_
   refine vA ?_
   refine sS ?_
   refine ag_block ?_
   apply ag_draw3 [20, 21] (by kernel_rfl) (by kernel_rfl)
   refine aq_load1 tOk rfl (by kernel_rfl) rfl rfl rfl rfl trivial ?_ ?_
   rotate_left 1
   iterate 2 refine qA ?_
   refine qB ?_ ?_
   ·decide
   refine qA ?_
   refine' aq_new30 tOk rfl rfl rfl rfl rfl ?_ ?_
   rotate_left 2
   ·simp
   refine' aq_app31 tOk rfl rfl rfl rfl rfl ?_ ?_
   rotate_left 1
   ·refine ⟨⟨?_, ?_, ?_⟩, ⟨?_, ?_⟩, ⟨?_, ?_⟩, ?_⟩ <;> first | trivial | decide | exact ⟨u8r _, trivial⟩ | omega | (simp; done) | (simp [cutA_eq]; done) | (simp [cutA_eq]; omega) | (simp at *; omega)
   refine aq_store32 tOk rfl rfl rfl rfl trivial ?_
   refine aq_nil rfl ?_
   refine ag_inBlock ?_
   refine ag_ent (ent_weak (g' := [(6, .r (.int .i64 24)), (5, .r (.int .u64 x)), (3, .ptr 0 0)]) (h' := hsW (roW x0 x1 x2 x3) ((c :: l) ++ (shL x).take 5)) [0, 1, 4] rfl rfl rfl rfl ?_ ?_ rfl) ?_
   ·exact ⟨⟨rfl, rfl⟩, ⟨rfl, rfl⟩, ⟨rfl, rfl⟩, trivial⟩
   ·exact ⟨⟨rfl, rfl, eqMx1 (by simp [shL]; try omega)⟩, ⟨rfl, rfl, rfl⟩, ⟨rfl, rfl, eqBs (by simp [cutA_eq, shL, IntKind.bits, List.take_length_add_append])⟩, trivial⟩
   refine ag_reg ?_
   refine pA ?_
   refine pC ?_ ?_
   ·unfold inI64; decide
   refine pE ?_
   refine ag_again ?_
   refine sZ ?_
   refine pA ?_
   refine pE ?_
   refine vA ?_
   refine sS ?_
   refine ag_block ?_
   apply ag_draw3 [20, 21] (by kernel_rfl) (by kernel_rfl)
   refine aq_load1 tOk rfl (by kernel_rfl) rfl rfl rfl rfl trivial ?_ ?_
   rotate_left 1
   iterate 2 refine qA ?_
   refine qB ?_ ?_
   ·decide
   refine qA ?_
   refine' aq_new30 tOk rfl rfl rfl rfl rfl ?_ ?_
   rotate_left 2
   ·simp
   refine' aq_app31 tOk rfl rfl rfl rfl rfl ?_ ?_
   rotate_left 1
   ·refine ⟨⟨?_, ?_, ?_⟩, ⟨?_, ?_⟩, ⟨?_, ?_⟩, ?_⟩ <;> first | trivial | decide | exact ⟨u8r _, trivial⟩ | omega | (simp; done) | (simp [cutA_eq]; done) | (simp [cutA_eq]; omega) | (simp at *; omega)
   refine aq_store32 tOk rfl rfl rfl rfl trivial ?_
   refine aq_nil rfl ?_
   refine ag_inBlock ?_
   refine ag_ent (ent_weak (g' := [(6, .r (.int .i64 16)), (5, .r (.int .u64 x)), (3, .ptr 0 0)]) (h' := hsW (roW x0 x1 x2 x3) ((c :: l) ++ (shL x).take 6)) [0, 1, 4] rfl rfl rfl rfl ?_ ?_ rfl) ?_
   ·exact ⟨⟨rfl, rfl⟩, ⟨rfl, rfl⟩, ⟨rfl, rfl⟩, trivial⟩
   ·exact ⟨⟨rfl, rfl, eqMx1 (by simp [shL]; try omega)⟩, ⟨rfl, rfl, rfl⟩, ⟨rfl, rfl, eqBs (by simp [cutA_eq, shL, IntKind.bits, List.take_length_add_append])⟩, trivial⟩
   refine ag_reg ?_
   refine pA ?_
   refine pC ?_ ?_
   ·unfold inI64; decide
   refine pE ?_
   refine ag_again ?_
   refine sZ ?_
   refine pA ?_
   refine pE ?_
   refine vA ?_
   refine sS ?_
   refine ag_block ?_
   apply ag_draw3 [20, 21] (by kernel_rfl) (by kernel_rfl)
   refine aq_load1 tOk rfl (by kernel_rfl) rfl rfl rfl rfl trivial ?_ ?_
   rotate_left 1
   iterate 2 refine qA ?_
   refine qB ?_ ?_
   ·decide
   refine qA ?_
   refine' aq_new30 tOk rfl rfl rfl rfl rfl ?_ ?_
   rotate_left 2
   ·simp
   refine' aq_app31 tOk rfl rfl rfl rfl rfl ?_ ?_
   rotate_left 1
   ·refine ⟨⟨?_, ?_, ?_⟩, ⟨?_, ?_⟩, ⟨?_, ?_⟩, ?_⟩ <;> first | trivial | decide | exact ⟨u8r _, trivial⟩ | omega | (simp; done) | (simp [cutA_eq]; done) | (simp [cutA_eq]; omega) | (simp at *; omega)
   refine aq_store32 tOk rfl rfl rfl rfl trivial ?_
   refine aq_nil rfl ?_
   refine ag_inBlock ?_
   refine ag_ent (ent_weak (g' := [(6, .r (.int .i64 8)), (5, .r (.int .u64 x)), (3, .ptr 0 0)]) (h' := hsW (roW x0 x1 x2 x3) ((c :: l) ++ (shL x).take 7)) [0, 1, 4] rfl rfl rfl rfl ?_ ?_ rfl) ?_
   ·exact ⟨⟨rfl, rfl⟩, ⟨rfl, rfl⟩, ⟨rfl, rfl⟩, trivial⟩
   ·exact ⟨⟨rfl, rfl, eqMx1 (by simp [shL]; try omega)⟩, ⟨rfl, rfl, rfl⟩, ⟨rfl, rfl, eqBs (by simp [cutA_eq, shL, IntKind.bits, List.take_length_add_append])⟩, trivial⟩
   refine ag_reg ?_
   refine pA ?_
   refine pC ?_ ?_
   ·unfold inI64; decide
   refine pE ?_
   refine ag_again ?_
   refine sZ ?_
   refine pA ?_
   refine pE ?_
   refine vA ?_
   refine sS ?_
   refine ag_block ?_
   apply ag_draw3 [20, 21] (by kernel_rfl) (by kernel_rfl)
   refine aq_load1 tOk rfl (by kernel_rfl) rfl rfl rfl rfl trivial ?_ ?_
   rotate_left 1
   iterate 2 refine qA ?_
   refine qB ?_ ?_
   ·decide
   refine qA ?_
   refine' aq_new30 tOk rfl rfl rfl rfl rfl ?_ ?_
   rotate_left 2
   ·simp
   refine' aq_app31 tOk rfl rfl rfl rfl rfl ?_ ?_
   rotate_left 1
   ·refine ⟨⟨?_, ?_, ?_⟩, ⟨?_, ?_⟩, ⟨?_, ?_⟩, ?_⟩ <;> first | trivial | decide | exact ⟨u8r _, trivial⟩ | omega | (simp; done) | (simp [cutA_eq]; done) | (simp [cutA_eq]; omega) | (simp at *; omega)
   refine aq_store32 tOk rfl rfl rfl rfl trivial ?_
   refine aq_nil rfl ?_
   refine ag_inBlock ?_
   refine ag_ent (ent_weak (g' := [(6, .r (.int .i64 0)), (5, .r (.int .u64 x)), (3, .ptr 0 0)]) (h' := hsW (roW x0 x1 x2 x3) ((c :: l) ++ (shL x).take 8)) [0, 1, 4] rfl rfl rfl rfl ?_ ?_ rfl) ?_
   ·exact ⟨⟨rfl, rfl⟩, ⟨rfl, rfl⟩, ⟨rfl, rfl⟩, trivial⟩
   ·exact ⟨⟨rfl, rfl, eqMx1 (by simp [shL]; try omega)⟩, ⟨rfl, rfl, rfl⟩, ⟨rfl, rfl, eqBs (by simp [cutA_eq, shL, IntKind.bits, List.take_length_add_append])⟩, trivial⟩
   refine ag_reg ?_
   refine pA ?_
   refine pC ?_ ?_
   ·unfold inI64; decide
   refine pE ?_
   refine ag_again ?_
   refine sZ ?_
   refine pA ?_
   refine pE ?_
   refine vD ?_
   refine ag_exit rfl ?_
   refine ag_inBlock ?_
   refine ag_rend rfl ?_
   exact ⟨rfl, by rw [numL8_shr]; rfl⟩
   all_goals exact ⟨_, rfl, trivial⟩
 ·intro l
  refine zB ?_
  refine pB ?_
  refine pA ?_
  refine pC ?_ ?_
  ·unfold inI64; decide
  refine pE ?_
  refine ag_block ?_
  refine ag_unroll ?_
  refine sZ ?_
  refine pA ?_
  refine pE ?_
  refine vA ?_
  refine sS ?_
  refine bX ?_
  iterate 2 refine pA ?_
  refine pB ?_
  refine pA ?_
  refine pC ?_ ?_
  ·exact ⟨by decide, by simp⟩
  refine pB ?_
  refine ar_yld (Y := yW (roW x0 x1 x2 x3)) (h' := hsW (roW x0 x1 x2 x3) (([] : List UInt8) ++ numL 8 x3)) (v := true) ⟨([] : List UInt8), _, x3, h3, by simp [numL_length], rfl, rfl, rfl, rfl⟩ rfl rfl rfl rfl rfl rfl rfl rfl ?_
  refine pE ?_
  refine ag_false rfl (rfl) ?_
  refine ag_skip ?_
  refine ag_inBlock ?_
  rw [hsW_gh]
  refine ag_ent (ent_keep (g' := [(3, .r (.int .i64 3)), (0, .yld l), (1, .ptr 1 0)]) ⟨rfl, rfl, rfl, trivial⟩) ?_
  refine ag_reg ?_
  refine pA ?_
  refine pC ?_ ?_
  ·unfold inI64; decide
  refine pE ?_
  refine ag_again ?_
  refine sZ ?_
  refine pA ?_
  refine pE ?_
  refine vA ?_
  refine sS ?_
  refine bX ?_
  iterate 2 refine pA ?_
  refine pB ?_
  refine pA ?_
  refine pC ?_ ?_
  ·exact ⟨by decide, by simp⟩
  refine pB ?_
  refine ar_yld (Y := yW (roW x0 x1 x2 x3)) (h' := hsW (roW x0 x1 x2 x3) ((([] : List UInt8) ++ numL 8 x3) ++ numL 8 x2)) (v := true) ⟨(([] : List UInt8) ++ numL 8 x3), _, x2, h2, by simp [numL_length], rfl, rfl, rfl, rfl⟩ rfl rfl rfl rfl rfl rfl rfl rfl ?_
  refine pE ?_
  refine ag_false rfl (rfl) ?_
  refine ag_skip ?_
  refine ag_inBlock ?_
  rw [hsW_gh]
  refine ag_ent (ent_keep (g' := [(3, .r (.int .i64 2)), (0, .yld l), (1, .ptr 1 0)]) ⟨rfl, rfl, rfl, trivial⟩) ?_
  refine ag_reg ?_
  refine pA ?_
  refine pC ?_ ?_
  ·unfold inI64; decide
  refine pE ?_
  refine ag_again ?_
  refine sZ ?_
  refine pA ?_
  refine pE ?_
  refine vA ?_
  refine sS ?_
  refine bX ?_
  iterate 2 refine pA ?_
  refine pB ?_
  refine pA ?_
  refine pC ?_ ?_
  ·exact ⟨by decide, by simp⟩
  refine pB ?_
  refine ar_yld (Y := yW (roW x0 x1 x2 x3)) (h' := hsW (roW x0 x1 x2 x3) (((([] : List UInt8) ++ numL 8 x3) ++ numL 8 x2) ++ numL 8 x1)) (v := true) ⟨((([] : List UInt8) ++ numL 8 x3) ++ numL 8 x2), _, x1, h1, by simp [numL_length], rfl, rfl, rfl, rfl⟩ rfl rfl rfl rfl rfl rfl rfl rfl ?_
  refine pE ?_
  refine ag_false rfl (rfl) ?_
  refine ag_skip ?_
  refine ag_inBlock ?_
  rw [hsW_gh]
  refine ag_ent (ent_keep (g' := [(3, .r (.int .i64 1)), (0, .yld l), (1, .ptr 1 0)]) ⟨rfl, rfl, rfl, trivial⟩) ?_
  refine ag_reg ?_
  refine pA ?_
  refine pC ?_ ?_
  ·unfold inI64; decide
  refine pE ?_
  refine ag_again ?_
  refine sZ ?_
  refine pA ?_
  refine pE ?_
  refine vA ?_
  refine sS ?_
  refine bX ?_
  iterate 2 refine pA ?_
  refine pB ?_
  refine pA ?_
  refine pC ?_ ?_
  ·exact ⟨by decide, by simp⟩
  refine pB ?_
  refine ar_yld (Y := yW (roW x0 x1 x2 x3)) (h' := hsW (roW x0 x1 x2 x3) ((((([] : List UInt8) ++ numL 8 x3) ++ numL 8 x2) ++ numL 8 x1) ++ numL 8 x0)) (v := true) ⟨(((([] : List UInt8) ++ numL 8 x3) ++ numL 8 x2) ++ numL 8 x1), _, x0, h0, by simp [numL_length], rfl, rfl, rfl, rfl⟩ rfl rfl rfl rfl rfl rfl rfl rfl ?_
  refine pE ?_
  refine ag_false rfl (rfl) ?_
  refine ag_skip ?_
  refine ag_inBlock ?_
  rw [hsW_gh]
  refine ag_ent (ent_keep (g' := [(3, .r (.int .i64 0)), (0, .yld l), (1, .ptr 1 0)]) ⟨rfl, rfl, rfl, trivial⟩) ?_
  refine ag_reg ?_
  refine pA ?_
  refine pC ?_ ?_
  ·unfold inI64; decide
  refine pE ?_
  refine ag_again ?_
  refine sZ ?_
  refine pA ?_
  refine pE ?_
  refine vD ?_
  refine ag_exit rfl ?_
  refine ag_end tOk Tryz.func89 rfl rfl (trivial) ?_
  rfl
 ·rintro h' rfl
  refine ag_inBlock ?_
  refine zB ?_
  refine pB ?_
  refine pE ?_
  refine ag_ret tOk Tryz.func88 rfl rfl (⟨trivial, trivial⟩) ?_
  refine ⟨2, rfl, ?_⟩
  show some (Body.bytes ((((([] : List UInt8) ++ numL 8 x3) ++ numL 8 x2) ++ numL 8 x1) ++ numL 8 x0)) = _
  exact eqBs (by simp only [wideL, List.nil_append, List.append_assoc])
end Go.Proofs.YtccdhgmkjakjkaaGreat

/-
  WALKS: the reference's fields, as they are written. (Printed by gen.py out of w_fref.py.)
-/
import Derived.Test.YtccdhgmkjakjkaaGreatFOut
import Derived.Test.YtccdhgmkjakjkaaGreatMB
import Derived.Test.YtccdhgmkjakjkaaGreatNBk
namespace Go.Proofs.YtccdhgmkjakjkaaGreat
open Go
set_option maxRecDepth 20000
set_option linter.unusedVariables false
set_option linter.unusedSimpArgs false
def wV (w : List UInt8 × Int) : AVal := .agg [.r (.bs w.1), .r (.int .i64 w.2)]
def wput (w : List UInt8 × Int) (b : List UInt8) (e : Int) : List UInt8 × Int :=
 if w.2 ≠ 0 then w else if e ≠ 0 then ([], e) else if w.1.length + b.length > 8192 then ([], 5) else (w.1 ++ b, 0)
def badN (n : Int) : Prop := n < 0 ∨ n > 1099511627776
instance (n : Int) : Decidable (badN n) := by unfold badN; infer_instance
theorem nil_agg {R : Nat → Prop} {μ : Mu} {w : World} {x : AVal} {c : Value} (h : ARel R μ w (.agg [.r .nil, x]) c) : ARel R μ w (.agg [.r (.bs []), x]) c := by
 simp only [ARel, ARels] at h ⊢
 obtain ⟨cs, rfl, d, r, rfl, h1, h2⟩ := h
 exact ⟨_, rfl, d, r, rfl, rrel_nilb h1, h2⟩
theorem w_rputE (w : List UInt8 × Int) (v : RVal) (e : Int) (he : w.2 ≠ 0) : Pur Tryz.prog 61 [wV w, .r v, .r (.int .i64 e)] (wV w) := by
 refine spec_of_go (N := 28) Tryz.func61 rfl (by decide) rfl rfl ?_
 refine zB ?_
 refine pM ?_
 refine pN ?_ ?_
 ·simp
 refine zA ?_
 refine zB ?_
 refine pA ?_
 refine pB ?_
 refine pE ?_
 refine ag_true rfl (by simp [he]) ?_
 refine zB ?_
 refine pB ?_
 refine ar_store tOk rfl rfl rfl trivial ?_
 refine ar_nil ?_
 refine ag_ret tOk Tryz.func61 rfl rfl (⟨trivial, trivial⟩) ?_
 rfl
theorem w_rputR (B : List UInt8) (v : RVal) (e : Int) (he : e ≠ 0) : Pur Tryz.prog 61 [wV (B, 0), .r v, .r (.int .i64 e)] (wV ([], e)) := by
 refine spec_of_go (N := 28) Tryz.func61 rfl (by decide) rfl rfl ?_
 refine zB ?_
 refine pM ?_
 refine pN ?_ ?_
 ·simp
 refine zA ?_
 refine zB ?_
 refine pA ?_
 refine pB ?_
 refine pE ?_
 refine ag_false rfl (by simp) ?_
 refine sS ?_
 refine zB ?_
 refine pA ?_
 refine pE ?_
 refine ag_true rfl (by simp [he]) ?_
 refine zB ?_
 refine pA ?_
 refine pC ?_ ?_
 ·simp
 refine ar_store tOk rfl rfl rfl trivial ?_
 refine ar_nil ?_
 refine ag_retW (v := .agg [.r .nil, .r (.int .i64 e)]) (v2 := wV ([], e)) (h2 := ⟨0, [], false⟩) tOk Tryz.func61 rfl rfl ⟨trivial, trivial⟩ ?_ rfl
 refine ent_trans (ent_weak (g' := [(0, .agg [.r .nil, .r (.int .i64 e)])]) (h' := ⟨0, [], false⟩) [] rfl rfl rfl rfl ⟨⟨rfl, rfl⟩, trivial⟩ trivial rfl) ?_
 refine ent_trans (ent_val 0 rfl (fun _ _ _ _ h => nil_agg h)) (ent_keep ⟨rfl, trivial⟩)
theorem w_rputL (B b : List UInt8) (hB : B.length ≤ 8192) (hb : b.length ≤ 140737488355328) (hl : B.length + b.length > 8192) : Pur Tryz.prog 61 [wV (B, 0), .r (.bs b), .r (.int .i64 0)] (wV ([], 5)) := by
 refine spec_of_go (N := 28) Tryz.func61 rfl (by decide) rfl rfl ?_
 refine zB ?_
 refine pM ?_
 refine pN ?_ ?_
 ·simp
 refine zA ?_
 refine zB ?_
 refine pA ?_
 refine pB ?_
 refine pE ?_
 refine ag_false rfl (by simp) ?_
 refine sS ?_
 refine zB ?_
 refine pA ?_
 refine pE ?_
 refine ag_false rfl (by simp) ?_
 refine sS ?_
 refine zB ?_
 refine pA ?_
 refine pB ?_
 iterate 3 refine pA ?_
 refine pC ?_ ?_
 ·show inI64 ((B.length : Int) + b.length)
  unfold inI64; omega
 refine pE ?_
 refine ag_true rfl (by simp; omega) ?_
 refine zB ?_
 refine pC ?_ ?_
 ·simp
 refine ar_store tOk rfl rfl rfl trivial ?_
 refine ar_nil ?_
 refine ag_retW (v := .agg [.r .nil, .r (.int .i64 5)]) (v2 := wV ([], 5)) (h2 := ⟨0, [], false⟩) tOk Tryz.func61 rfl rfl ⟨trivial, trivial⟩ ?_ rfl
 refine ent_trans (ent_weak (g' := [(0, .agg [.r .nil, .r (.int .i64 5)])]) (h' := ⟨0, [], false⟩) [] rfl rfl rfl rfl ⟨⟨rfl, rfl⟩, trivial⟩ trivial rfl) ?_
 refine ent_trans (ent_val 0 rfl (fun _ _ _ _ h => nil_agg h)) (ent_keep ⟨rfl, trivial⟩)
theorem w_rputW (B b : List UInt8) (hl : B.length + b.length ≤ 8192) : Pur Tryz.prog 61 [wV (B, 0), .r (.bs b), .r (.int .i64 0)] (wV (B ++ b, 0)) := by
 refine spec_of_go (N := 28) Tryz.func61 rfl (by decide) rfl rfl ?_
 refine zB ?_
 refine pM ?_
 refine pN ?_ ?_
 ·simp
 refine zA ?_
 refine zB ?_
 refine pA ?_
 refine pB ?_
 refine pE ?_
 refine ag_false rfl (by simp) ?_
 refine sS ?_
 refine zB ?_
 refine pA ?_
 refine pE ?_
 refine ag_false rfl (by simp) ?_
 refine sS ?_
 refine zB ?_
 refine pA ?_
 refine pB ?_
 iterate 3 refine pA ?_
 refine pC ?_ ?_
 ·show inI64 ((B.length : Int) + b.length)
  unfold inI64; omega
 refine pE ?_
 refine ag_false rfl (by simp; omega) ?_
 refine ag_skip ?_
 refine zB ?_
 refine pA ?_
 refine pB ?_
 refine pA ?_
 refine ar_pur (w_rCat B b (by omega)) rfl rfl rfl rfl rfl rfl rfl ?_
 refine pC ?_ ?_
 ·simp
 refine ar_store tOk rfl rfl rfl trivial ?_
 refine ar_nil ?_
 refine ag_ret tOk Tryz.func61 rfl rfl (⟨trivial, trivial⟩) ?_
 rfl
theorem w_rput (w : List UInt8 × Int) (b : List UInt8) (e : Int) (hw : w.1.length ≤ 8192) (hb : b.length ≤ 140737488355328) : Pur Tryz.prog 61 [wV w, .r (.bs b), .r (.int .i64 e)] (wV (wput w b e)) := by
 obtain ⟨B, E⟩ := w
 unfold wput
 by_cases h1 : E = 0
 ·subst h1
  by_cases h2 : e = 0
  ·subst h2
   by_cases h3 : B.length + b.length > 8192
   ·rw [if_neg (by simp), if_neg (by simp), if_pos h3]; exact w_rputL B b hw hb h3
   ·rw [if_neg (by simp), if_neg (by simp), if_neg h3]; exact w_rputW B b (by omega)
  ·rw [if_neg (by simp), if_pos h2]; exact w_rputR B (.bs b) e h2
 ·rw [if_pos h1]; exact w_rputE (B, E) (.bs b) e h1
theorem w_rputN (w : List UInt8 × Int) (e : Int) (he : e ≠ 0) : Pur Tryz.prog 61 [wV w, .r .nil, .r (.int .i64 e)] (wV (wput w [] e)) := by
 obtain ⟨B, E⟩ := w
 unfold wput
 by_cases h1 : E = 0
 ·subst h1; rw [if_neg (by simp), if_pos he]; exact w_rputR B .nil e he
 ·rw [if_pos h1]; exact w_rputE (B, E) .nil e h1
theorem w_rNumR (w : List UInt8 × Int) (n : Int) (hn : n < 0 ∨ n > 1099511627776) : Pur Tryz.prog 44 [wV w, .r (.int .i64 n)] (wV (wput w [] 4)) := by
 refine spec_of_go (N := 17) Tryz.func44 rfl (by decide) rfl rfl ?_
 refine zB ?_
 refine pM ?_
 refine pN ?_ ?_
 ·simp
 refine zA ?_
 refine zB ?_
 iterate 3 refine pA ?_
 refine ar_guard (t := decide (n < 0)) (fun ht => ?_) (fun ht => ?_)
 ·refine ar_ent (ent_reg 7 (.r (.bool true)) (by show AVal.r (.bool _) = _; rw [ht])) ?_
  have hneg := of_decide_eq_true ht
  iterate 2 refine ar_skip rfl rfl rfl ?_
  refine pE ?_
  refine ag_true rfl (by first | rfl | (simp; omega)) ?_
  refine zB ?_
  refine pB ?_
  refine ar_pur (w_rputN w 4 (by decide)) rfl rfl rfl rfl rfl rfl rfl ?_
  refine ar_store tOk rfl rfl rfl trivial ?_
  refine ar_nil ?_
  refine ag_ret tOk Tryz.func44 rfl rfl (⟨trivial, trivial⟩) ?_
  rfl
 ·refine ar_ent (ent_reg 7 (.r (.bool false)) (by show AVal.r (.bool _) = _; rw [ht])) ?_
  have hneg := of_decide_eq_false ht
  iterate 2 refine pA ?_
  refine pE ?_
  refine ag_true rfl (by first | rfl | (simp; omega)) ?_
  refine zB ?_
  refine pB ?_
  refine ar_pur (w_rputN w 4 (by decide)) rfl rfl rfl rfl rfl rfl rfl ?_
  refine ar_store tOk rfl rfl rfl trivial ?_
  refine ar_nil ?_
  refine ag_ret tOk Tryz.func44 rfl rfl (⟨trivial, trivial⟩) ?_
  rfl
theorem w_rNumW (w : List UInt8 × Int) (n : Int) (hw : w.1.length ≤ 8192) (hn : ¬ (n < 0 ∨ n > 1099511627776)) : Pur Tryz.prog 44 [wV w, .r (.int .i64 n)] (wV (wput w (numL 6 n) 0)) := by
 refine spec_of_go (N := 17) Tryz.func44 rfl (by decide) rfl rfl ?_
 refine zB ?_
 refine pM ?_
 refine pN ?_ ?_
 ·simp
 refine zA ?_
 refine zB ?_
 iterate 3 refine pA ?_
 refine ar_ent (ent_reg 7 (.r (.bool false)) (by show AVal.r (.bool _) = _; exact eqB (by simp; omega))) ?_
 iterate 2 refine ar_pure tOk rfl rfl (by simp) trivial ?_
 refine pE ?_
 refine ag_false rfl (by simp; omega) ?_
 refine sS ?_
 apply ag_draw1 [] (by kernel_rfl) (by kernel_rfl)
 refine qL ?_
 refine qA ?_
 refine aq_pur (own_ro_bytes (w_rNum n 6 6 (by decide)) (by rw [numL_length])) rfl rfl rfl rfl rfl rfl rfl ?_
 refine aq_pur (w_rput w (numL 6 n) 0 hw (by rw [numL_length]; decide)) rfl rfl rfl rfl rfl rfl rfl ?_
 refine aq_store10 tOk rfl rfl rfl rfl trivial ?_
 refine aq_nil rfl ?_
 refine ag_ret tOk Tryz.func44 rfl rfl (⟨trivial, trivial⟩) ?_
 rfl
theorem w_rTextR (w : List UInt8 × Int) (t : List UInt8) (ht : t.length > 1024) : Pur Tryz.prog 47 [wV w, .r (.str t)] (wV (wput w [] 5)) := by
 refine spec_of_go (N := 18) Tryz.func47 rfl (by decide) rfl rfl ?_
 refine zB ?_
 refine pM ?_
 refine pN ?_ ?_
 ·simp
 refine zA ?_
 refine zB ?_
 iterate 2 refine pA ?_
 refine pE ?_
 refine ag_true rfl (by simp; omega) ?_
 refine zB ?_
 refine pB ?_
 refine ar_pur (w_rputN w 5 (by decide)) rfl rfl rfl rfl rfl rfl rfl ?_
 refine ar_store tOk rfl rfl rfl trivial ?_
 refine ar_nil ?_
 refine ag_ret tOk Tryz.func47 rfl rfl (⟨trivial, trivial⟩) ?_
 rfl
theorem w_rTextW (w : List UInt8 × Int) (t : List UInt8) (hw : w.1.length ≤ 8192) (ht : ¬ t.length > 1024) : Pur Tryz.prog 47 [wV w, .r (.str t)] (wV (wput w (txt t) 0)) := by
 refine spec_of_go (N := 18) Tryz.func47 rfl (by decide) rfl rfl ?_
 refine zB ?_
 refine pM ?_
 refine pN ?_ ?_
 ·simp
 refine zA ?_
 refine zB ?_
 iterate 2 refine pA ?_
 refine pE ?_
 refine ag_false rfl (by simp; omega) ?_
 refine sS ?_
 apply ag_draw1 [] (by kernel_rfl) (by kernel_rfl)
 refine qL ?_
 iterate 2 refine qA ?_
 refine aq_pur (own_ro_bytes (w_rNum (t.length : Int) 2 2 (by decide)) (by rw [numL_length])) rfl rfl rfl rfl rfl rfl rfl ?_
 refine qA ?_
 refine aq_qd (fun _ => qop_strBytes tOk rfl) rfl rfl rfl rfl ?_
 refine aq_pur (w_rCat (numL 2 (t.length : Int)) t (by rw [numL_length]; omega)) rfl rfl rfl rfl rfl rfl rfl ?_
 refine aq_pur (w_rput w (txt t) 0 hw (by rw [txt_length]; omega)) rfl rfl rfl rfl rfl rfl rfl ?_
 refine aq_store10 tOk rfl rfl rfl rfl trivial ?_
 refine aq_nil rfl ?_
 refine ag_ret tOk Tryz.func47 rfl rfl (⟨trivial, trivial⟩) ?_
 rfl
theorem w_rWideW (w : List UInt8 × Int) (x0 x1 x2 x3 : Int) (h0 : U64 x0) (h1 : U64 x1) (h2 : U64 x2) (h3 : U64 x3) (hw : w.1.length ≤ 8192) : Pur Tryz.prog 45 [wV w, wA x0 x1 x2 x3] (wV (wput w (wideL x0 x1 x2 x3) 0)) := by
 refine spec_of_go (N := 9) Tryz.func45 rfl (by decide) rfl rfl ?_
 refine zB ?_
 iterate 2 refine pM ?_
 refine pN ?_ ?_
 ·simp
 refine zA ?_
 apply ag_draw1 [] (by kernel_rfl) (by kernel_rfl)
 iterate 2 refine qL ?_
 refine aq_pur (own_ro_bytes (w_rWide x0 x1 x2 x3 h0 h1 h2 h3) (by rw [wideL_length])) rfl rfl rfl rfl rfl rfl rfl ?_
 refine aq_pur (w_rput w (wideL x0 x1 x2 x3) 0 hw (by rw [wideL_length]; decide)) rfl rfl rfl rfl rfl rfl rfl ?_
 refine aq_store10 tOk rfl rfl rfl rfl trivial ?_
 refine aq_nil rfl ?_
 refine ag_ret tOk Tryz.func45 rfl rfl (⟨trivial, trivial⟩) ?_
 rfl
structure Fd where
 k : Int
 n : Int
 t : List UInt8
 x0 : Int
 x1 : Int
 x2 : Int
 x3 : Int
def Fd.cells (f : Fd) : List RVal := [.int .i64 f.k, .int .i64 f.n, .str f.t, .int .u64 f.x0, .int .u64 f.x1, .int .u64 f.x2, .int .u64 f.x3]
def Fd.ok (f : Fd) : Prop := f.t.length ≤ 140737488351232 ∧ U64 f.x0 ∧ U64 f.x1 ∧ U64 f.x2 ∧ U64 f.x3
def Fd.kd (f : Fd) : Int := (f.k.tmod 3 + 3).tmod 3
end Go.Proofs.YtccdhgmkjakjkaaGreat

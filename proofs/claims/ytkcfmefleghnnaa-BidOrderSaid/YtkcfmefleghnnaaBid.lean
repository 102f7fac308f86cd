/-
  WALKS: bid.Better, and the law BidOrder. (Printed by gen.py out of w_bid.py.)
-/
import Derived.Test.YtkcfmefleghnnaaCmp
namespace Go.Proofs.Ytkcfmefleghnnaa
open Go
set_option maxRecDepth 20000

theorem eqBo {a b : Bool} (h : a = b) : AVal.r (.bool a) = AVal.r (.bool b) := by rw [h]
def inB (n a b : Int) : Bool := decide (n ≥ a) && decide (n ≤ b)
def str (l : List UInt8) : AVal := .r (.str l)
def int (n : Int) : AVal := .r (.int .i64 n)
def u64 (n : Int) : AVal := .r (.int .u64 n)
structure BidV where
  r : Int
  u : Int
  s : Int
  c : Int
  t : Int
  m0 : Int
  m1 : Int
  m2 : Int
  m3 : Int
  id : List UInt8
  a0 : Int
  a1 : Int
  a2 : Int
  a3 : Int
  n : Int
  sg : List UInt8
def bidA (v : BidV) : AVal := .agg [int v.r, int v.u, int v.s, int v.c, int v.t, u64 v.m0, u64 v.m1, u64 v.m2, u64 v.m3, str v.id, u64 v.a0, u64 v.a1, u64 v.a2, u64 v.a3, int v.n, str v.sg]
def askX : AVal := .agg [int 0, int 0, int 0, int 0, u64 5, u64 0, u64 0, u64 0, str [120]]
def invX : AVal := .agg [int 0, str [114, 111, 111, 116, 114, 111, 111, 116], int 2, int 0, int 0, int 0, str [120]]
def cmpB (v w : BidV) : Int := cmpW v.a0 v.a1 v.a2 v.a3 w.a0 w.a1 w.a2 w.a3
def betB (v w : BidV) : Bool := decide (cmpB v w > 0) || (decide (cmpB v w = 0) && decide (v.r < w.r))

theorem w_in (n a b : Int) : Pur Try.prog 68 [int n, int a, int b] (.r (.bool (inB n a b))) := by
  refine spec_of_go (N := 15) Try.func68 rfl (by decide) rfl rfl ?_
  refine ag_seq ?_
  refine ag_reg ?_
  refine ar_pure tOk rfl rfl rfl trivial ?_
  refine ar_nil ?_
  refine ag_seq ?_
  refine ag_reg ?_
  refine ar_pure tOk rfl rfl rfl trivial ?_
  refine ar_pure tOk rfl rfl rfl trivial ?_
  refine ar_pure tOk rfl rfl rfl trivial ?_
  refine ar_pure tOk rfl rfl rfl trivial ?_
  refine ar_guard (t := decide (n ≥ a)) (fun ht => ?_) (fun ht => ?_)
  · refine ar_ent (ent_reg 10 (.r (.bool true)) (by show AVal.r (.bool _) = _; rw [ht])) ?_
    refine ar_pure tOk rfl rfl rfl trivial ?_
    refine ar_pure tOk rfl rfl rfl trivial ?_
    refine ar_pure tOk rfl rfl rfl trivial ?_
    refine ar_pure tOk rfl rfl rfl trivial ?_
    refine ar_pure tOk rfl rfl rfl trivial ?_
    refine ar_nil ?_
    refine ag_ret tOk Try.func68 rfl rfl (by simp) ?_
    exact eqBo (by simp [inB, ht])
  · refine ar_ent (ent_reg 10 (.r (.bool false)) (by show AVal.r (.bool _) = _; rw [ht])) ?_
    refine ar_skip rfl rfl rfl ?_
    refine ar_skip rfl rfl rfl ?_
    refine ar_skip rfl rfl rfl ?_
    refine ar_pure tOk rfl rfl rfl trivial ?_
    refine ar_pure tOk rfl rfl rfl trivial ?_
    refine ar_nil ?_
    refine ag_ret tOk Try.func68 rfl rfl (by simp) ?_
    exact eqBo (by simp [inB, ht])

theorem w_standX  : Pur Try.prog 66 [askX, int 2] invX := by
  refine spec_of_go (N := 17) Try.func66 rfl (by decide) rfl rfl ?_
  refine ag_seq ?_
  refine ag_reg ?_
  refine ar_new tOk rfl rfl rfl trivial ?_
  refine ar_new tOk rfl rfl rfl ?_ ?_
  · simp
  refine ar_nil ?_
  refine ag_seq ?_
  refine ag_reg ?_
  refine ar_pure tOk rfl rfl rfl trivial ?_
  refine ar_load tOk rfl rfl rfl trivial ?_
  refine ar_pure tOk rfl rfl rfl trivial ?_
  refine ar_pure tOk rfl rfl rfl trivial ?_
  refine ar_load tOk rfl rfl rfl trivial ?_
  refine ar_pure tOk rfl rfl rfl trivial ?_
  refine ar_load tOk rfl rfl rfl trivial ?_
  refine ar_pure tOk rfl rfl rfl trivial ?_
  refine ar_load tOk rfl rfl rfl trivial ?_
  refine ar_pure tOk rfl rfl rfl trivial ?_
  refine ar_load tOk rfl rfl rfl trivial ?_
  refine ar_pure tOk rfl rfl rfl ?_ ?_
  · simp
  refine ar_store tOk rfl rfl rfl trivial ?_
  refine ar_nil ?_
  refine ag_ret tOk Try.func66 rfl rfl (⟨trivial, trivial⟩) ?_
  rfl

theorem w_CheckX  : Pur Try.prog 65 [invX] (int 0) := by
  refine spec_of_go (N := 43) Try.func65 rfl (by decide) rfl rfl ?_
  refine ag_seq ?_
  refine ag_reg ?_
  refine ar_new tOk rfl rfl rfl trivial ?_
  refine ar_pure tOk rfl rfl rfl trivial ?_
  refine ar_nil ?_
  refine ag_seq ?_
  refine ag_reg ?_
  refine ar_pure tOk rfl rfl rfl trivial ?_
  refine ar_load tOk rfl rfl rfl trivial ?_
  refine ar_pur (w_in _ _ _) rfl rfl rfl rfl rfl rfl rfl ?_
  refine ar_pure tOk rfl rfl rfl trivial ?_
  refine ar_pure tOk rfl rfl (by decide) trivial ?_
  refine ar_load tOk rfl rfl (by decide) trivial ?_
  refine ar_pur (w_in _ _ _) rfl rfl rfl rfl rfl rfl (by decide) ?_
  refine ar_pure tOk rfl rfl rfl trivial ?_
  refine ar_pure tOk rfl rfl rfl trivial ?_
  refine ar_pure tOk rfl rfl (by decide) trivial ?_
  refine ar_load tOk rfl rfl (by decide) trivial ?_
  refine ar_pur (w_in _ _ _) rfl rfl rfl rfl rfl rfl (by decide) ?_
  refine ar_pure tOk rfl rfl rfl trivial ?_
  refine ar_pure tOk rfl rfl rfl trivial ?_
  refine ar_pure tOk rfl rfl (by decide) trivial ?_
  refine ar_load tOk rfl rfl (by decide) trivial ?_
  refine ar_pur (w_in _ _ _) rfl rfl rfl rfl rfl rfl (by decide) ?_
  refine ar_pure tOk rfl rfl rfl trivial ?_
  refine ar_pure tOk rfl rfl rfl trivial ?_
  refine ar_nil ?_
  refine ag_seq ?_
  refine ag_seq ?_
  refine ag_reg ?_
  refine ar_pure tOk rfl rfl rfl trivial ?_
  refine ar_pure tOk rfl rfl rfl trivial ?_
  refine ar_pure tOk rfl rfl rfl trivial ?_
  refine ar_pure tOk rfl rfl (by decide) trivial ?_
  refine ar_load tOk rfl rfl (by decide) trivial ?_
  refine ar_pur (w_in _ _ _) rfl rfl rfl rfl rfl rfl (by decide) ?_
  refine ar_pure tOk rfl rfl (by decide) trivial ?_
  refine ar_pure tOk rfl rfl rfl trivial ?_
  refine ar_pure tOk rfl rfl rfl trivial ?_
  refine ar_pure tOk rfl rfl (by decide) trivial ?_
  refine ar_load tOk rfl rfl (by decide) trivial ?_
  refine ar_pure tOk rfl rfl (by decide) trivial ?_
  refine ar_pure tOk rfl rfl (by decide) trivial ?_
  refine ar_pure tOk rfl rfl rfl trivial ?_
  refine ar_pure tOk rfl rfl rfl trivial ?_
  refine ar_pure tOk rfl rfl (by decide) trivial ?_
  refine ar_load tOk rfl rfl (by decide) trivial ?_
  refine ar_pure tOk rfl rfl (by decide) trivial ?_
  refine ar_pur (w_in _ _ _) rfl rfl rfl rfl rfl rfl (by decide) ?_
  refine ar_pure tOk rfl rfl (by decide) trivial ?_
  refine ar_pure tOk rfl rfl rfl trivial ?_
  refine ar_nil ?_
  refine ag_false rfl (by decide) ?_
  refine ag_skip ?_
  refine ag_seq ?_
  refine ag_reg ?_
  refine ar_pure tOk rfl rfl rfl trivial ?_
  refine ar_nil ?_
  refine ag_ret tOk Try.func65 rfl rfl (by simp) ?_
  rfl

theorem w_CheckAskX  : Pur Try.prog 50 [askX] (int 0) := by
  refine spec_of_go (N := 10) Try.func50 rfl (by decide) rfl rfl ?_
  refine ag_seq ?_
  refine ag_reg ?_
  refine ar_new tOk rfl rfl rfl trivial ?_
  refine ar_pure tOk rfl rfl rfl trivial ?_
  refine ar_nil ?_
  refine ag_seq ?_
  refine ag_seq ?_
  refine ag_reg ?_
  refine ar_pure tOk rfl rfl rfl trivial ?_
  refine ar_load tOk rfl rfl rfl trivial ?_
  refine ar_pure tOk rfl rfl rfl ?_ ?_
  · simp
  refine ar_pure tOk rfl rfl rfl trivial ?_
  refine ar_nil ?_
  refine ag_false rfl (by decide) ?_
  refine ag_skip ?_
  refine ag_seq ?_
  refine ag_reg ?_
  refine ar_load tOk rfl rfl rfl trivial ?_
  refine ar_pur (w_standX) rfl rfl rfl rfl rfl rfl rfl ?_
  refine ar_pur (w_CheckX) rfl rfl rfl rfl rfl rfl rfl ?_
  refine ar_pure tOk rfl rfl rfl trivial ?_
  refine ar_nil ?_
  refine ag_ret tOk Try.func50 rfl rfl (by simp) ?_
  rfl

theorem w_BidCheckX  : Pur Try.prog 51 [bidA ⟨2, 0, 0, 0, 0, 5, 0, 0, 0, [120], 6, 0, 0, 0, 0, []⟩] (int 39) := by
  refine spec_of_go (N := 46) Try.func51 rfl (by decide) rfl rfl ?_
  refine ag_seq ?_
  refine ag_reg ?_
  refine ar_new tOk rfl rfl rfl trivial ?_
  refine ar_pure tOk rfl rfl rfl trivial ?_
  refine ar_nil ?_
  refine ag_seq ?_
  refine ag_reg ?_
  refine ar_pure tOk rfl rfl rfl trivial ?_
  refine ar_load tOk rfl rfl rfl trivial ?_
  refine ar_pure tOk rfl rfl rfl ?_ ?_
  · simp
  refine ar_pure tOk rfl rfl rfl trivial ?_
  refine ar_pure tOk rfl rfl rfl trivial ?_
  refine ar_pure tOk rfl rfl (by decide) trivial ?_
  refine ar_load tOk rfl rfl (by decide) trivial ?_
  refine ar_pure tOk rfl rfl (by decide) trivial ?_
  refine ar_pure tOk rfl rfl (by decide) trivial ?_
  refine ar_load tOk rfl rfl (by decide) trivial ?_
  refine ar_pur (w_Cmp 6 0 0 0 5 0 0 0) rfl rfl rfl rfl rfl rfl (by decide) ?_
  refine ar_pure tOk rfl rfl (by decide) trivial ?_
  refine ar_pure tOk rfl rfl rfl trivial ?_
  refine ar_pure tOk rfl rfl rfl trivial ?_
  refine ar_nil ?_
  refine ag_seq ?_
  refine ag_seq ?_
  refine ag_reg ?_
  refine ar_pure tOk rfl rfl rfl trivial ?_
  refine ar_load tOk rfl rfl rfl trivial ?_
  refine ar_pur (w_CheckAskX) rfl rfl rfl rfl rfl rfl rfl ?_
  refine ar_pure tOk rfl rfl rfl trivial ?_
  refine ar_pure tOk rfl rfl rfl trivial ?_
  refine ar_pure tOk rfl rfl (by decide) trivial ?_
  refine ar_pure tOk rfl rfl rfl trivial ?_
  refine ar_pure tOk rfl rfl rfl trivial ?_
  refine ar_skip rfl rfl rfl ?_
  refine ar_skip rfl rfl rfl ?_
  refine ar_skip rfl rfl rfl ?_
  refine ar_pure tOk rfl rfl rfl trivial ?_
  refine ar_pure tOk rfl rfl rfl trivial ?_
  refine ar_skip rfl rfl rfl ?_
  refine ar_skip rfl rfl rfl ?_
  refine ar_skip rfl rfl rfl ?_
  refine ar_pure tOk rfl rfl rfl trivial ?_
  refine ar_pure tOk rfl rfl rfl trivial ?_
  refine ar_skip rfl rfl rfl ?_
  refine ar_skip rfl rfl rfl ?_
  refine ar_skip rfl rfl rfl ?_
  refine ar_skip rfl rfl rfl ?_
  refine ar_pure tOk rfl rfl rfl trivial ?_
  refine ar_nil ?_
  refine ag_true rfl (by decide) ?_
  refine ag_seq ?_
  refine ag_reg ?_
  refine ar_pure tOk rfl rfl rfl trivial ?_
  refine ar_nil ?_
  refine ag_ret tOk Try.func51 rfl rfl (by simp) ?_
  rfl

theorem w_alive08  : Pur Try.prog 26 [] (.r (.bool true)) := by
  refine spec_of_go (N := 14) Try.func26 rfl (by decide) rfl rfl ?_
  refine ag_seq ?_
  refine ag_reg ?_
  refine ar_pure tOk rfl rfl rfl trivial ?_
  refine ar_nil ?_
  refine ag_seq ?_
  refine ag_reg ?_
  refine ar_pure tOk rfl rfl rfl ?_ ?_
  · simp
  refine ar_pure tOk rfl rfl rfl ?_ ?_
  · simp
  refine ar_new tOk rfl rfl rfl ?_ ?_
  · simp
  refine ar_store tOk rfl rfl rfl trivial ?_
  refine ar_nil ?_
  refine ag_seq ?_
  refine ag_reg ?_
  refine ar_load tOk rfl rfl rfl trivial ?_
  refine ar_pur (w_CheckAskX) rfl rfl rfl rfl rfl rfl rfl ?_
  refine ar_pure tOk rfl rfl rfl trivial ?_
  refine ar_pure tOk rfl rfl rfl trivial ?_
  refine ar_load tOk rfl rfl (by decide) trivial ?_
  refine ar_pure tOk rfl rfl (by decide) ?_ ?_
  · simp
  refine ar_pure tOk rfl rfl (by decide) ?_ ?_
  · simp
  refine ar_pur (w_BidCheckX) rfl rfl rfl rfl rfl rfl (by decide) ?_
  refine ar_pure tOk rfl rfl (by decide) trivial ?_
  refine ar_pure tOk rfl rfl rfl trivial ?_
  refine ar_pure tOk rfl rfl rfl trivial ?_
  refine ar_nil ?_
  refine ag_ret tOk Try.func26 rfl rfl (by simp) ?_
  rfl

theorem w_Better (v w : BidV) : Pur Try.prog 27 [bidA v, bidA w] (.r (.bool (betB v w))) := by
  refine spec_of_go (N := 24) Try.func27 rfl (by decide) rfl rfl ?_
  refine ag_seq ?_
  refine ag_reg ?_
  refine ar_new tOk rfl rfl rfl trivial ?_
  refine ar_new tOk rfl rfl rfl trivial ?_
  refine ar_pure tOk rfl rfl rfl trivial ?_
  refine ar_nil ?_
  refine ag_seq ?_
  refine ag_reg ?_
  refine ar_pure tOk rfl rfl rfl trivial ?_
  refine ar_load tOk rfl rfl rfl trivial ?_
  refine ar_pure tOk rfl rfl rfl trivial ?_
  refine ar_load tOk rfl rfl rfl trivial ?_
  refine ar_pur (w_Cmp _ _ _ _ _ _ _ _) rfl rfl rfl rfl rfl rfl rfl ?_
  refine ar_pure tOk rfl rfl rfl trivial ?_
  refine ar_nil ?_
  refine ag_ent (ent_reg 5 (int (cmpB v w)) rfl) ?_
  refine ag_seq ?_
  refine ag_reg ?_
  refine ar_pure tOk rfl rfl rfl trivial ?_
  refine ar_pure tOk rfl rfl rfl trivial ?_
  refine ar_pure tOk rfl rfl rfl trivial ?_
  refine ar_guard (t := decide (cmpB v w > 0)) (fun ht => ?_) (fun ht => ?_)
  · refine ar_ent (ent_reg 13 (.r (.bool true)) (by show AVal.r (.bool _) = _; rw [ht])) ?_
    have h1 := ht
    refine ar_skip rfl rfl rfl ?_
    refine ar_skip rfl rfl rfl ?_
    refine ar_skip rfl rfl rfl ?_
    refine ar_skip rfl rfl rfl ?_
    refine ar_skip rfl rfl rfl ?_
    refine ar_skip rfl rfl rfl ?_
    refine ar_skip rfl rfl rfl ?_
    refine ar_skip rfl rfl rfl ?_
    refine ar_skip rfl rfl rfl ?_
    refine ar_pure tOk rfl rfl rfl trivial ?_
    refine ar_pure tOk rfl rfl rfl trivial ?_
    refine ar_nil ?_
    refine ag_ret tOk Try.func27 rfl rfl (by simp) ?_
    exact eqBo (by simp only [betB, h1]; rfl)
  · refine ar_ent (ent_reg 13 (.r (.bool false)) (by show AVal.r (.bool _) = _; rw [ht])) ?_
    have h1 := ht
    refine ar_pure tOk rfl rfl rfl trivial ?_
    refine ar_pure tOk rfl rfl rfl trivial ?_
    refine ar_pure tOk rfl rfl rfl trivial ?_
    refine ar_guard (t := decide (cmpB v w = 0)) (fun ht => ?_) (fun ht => ?_)
    · refine ar_ent (ent_reg 16 (.r (.bool true)) (by show AVal.r (.bool _) = _; rw [ht])) ?_
      have h2 := ht
      refine ar_pure tOk rfl rfl rfl trivial ?_
      refine ar_load tOk rfl rfl rfl trivial ?_
      refine ar_pure tOk rfl rfl rfl trivial ?_
      refine ar_load tOk rfl rfl rfl trivial ?_
      refine ar_pure tOk rfl rfl rfl trivial ?_
      refine ar_pure tOk rfl rfl rfl trivial ?_
      refine ar_pure tOk rfl rfl rfl trivial ?_
      refine ar_pure tOk rfl rfl rfl trivial ?_
      refine ar_nil ?_
      refine ag_ret tOk Try.func27 rfl rfl (by simp) ?_
      exact eqBo (by simp only [betB, h1, h2]; rfl)
    · refine ar_ent (ent_reg 16 (.r (.bool false)) (by show AVal.r (.bool _) = _; rw [ht])) ?_
      have h2 := ht
      refine ar_skip rfl rfl rfl ?_
      refine ar_skip rfl rfl rfl ?_
      refine ar_skip rfl rfl rfl ?_
      refine ar_skip rfl rfl rfl ?_
      refine ar_skip rfl rfl rfl ?_
      refine ar_pure tOk rfl rfl rfl trivial ?_
      refine ar_pure tOk rfl rfl rfl trivial ?_
      refine ar_pure tOk rfl rfl rfl trivial ?_
      refine ar_nil ?_
      refine ag_ret tOk Try.func27 rfl rfl (by simp) ?_
      exact eqBo (by simp only [betB, h1, h2]; rfl)

def lexB : List (Int × Int) → Bool
  | [] => false
  | (x, y) :: l => decide (x < y) || (decide (x = y) && lexB l)
theorem lexB_irr : ∀ l : List (Int × Int), (∀ p ∈ l, p.1 = p.2) → lexB l = false
  | [], _ => rfl
  | (x, y) :: l, h => by
    have h1 : x = y := h (x, y) (by simp)
    subst h1
    simp [lexB, lexB_irr l (fun p hp => h p (by simp [hp]))]
theorem lexB_asym : ∀ (a b : List Int), lexB (a.zip b) = true → lexB (b.zip a) = false
  | [], _, h => by simp [lexB] at h
  | _ :: _, [], h => by simp [lexB] at h
  | x :: a, y :: b, h => by
    simp only [List.zip_cons_cons, lexB, Bool.or_eq_true, decide_eq_true_eq, Bool.and_eq_true] at h
    simp only [List.zip_cons_cons, lexB, Bool.or_eq_false_iff, decide_eq_false_iff_not, Bool.and_eq_false_iff]
    rcases h with h | ⟨h, h2⟩
    · exact ⟨by omega, .inl (by omega)⟩
    · exact ⟨by omega, .inr (lexB_asym a b h2)⟩
theorem lexB_trans : ∀ (a b c : List Int), a.length = b.length → b.length = c.length → lexB (a.zip b) = true → lexB (b.zip c) = true → lexB (a.zip c) = true
  | [], _, _, _, _, h, _ => by simp [lexB] at h
  | _ :: _, [], _, _, _, h, _ => by simp [lexB] at h
  | _ :: _, _ :: _, [], _, _, _, h => by simp [lexB] at h
  | x :: a, y :: b, z :: c, h1, h2, h3, h4 => by
    simp only [List.zip_cons_cons, lexB, Bool.or_eq_true, decide_eq_true_eq, Bool.and_eq_true] at h3 h4 ⊢
    rcases h3 with h3 | ⟨h3, h5⟩ <;> rcases h4 with h4 | ⟨h4, h6⟩
    · exact .inl (by omega)
    · exact .inl (by omega)
    · exact .inl (by omega)
    · exact .inr ⟨by omega, lexB_trans a b c (by simpa using h1) (by simpa using h2) h5 h6⟩
def keyB (v : BidV) : List Int := [-v.a3, -v.a2, -v.a1, -v.a0, v.r]
theorem betB_lex (v w : BidV) : betB v w = lexB ((keyB v).zip (keyB w)) := by
  simp only [betB, cmpB, cmpW, cmpL, keyB, List.zip_cons_cons, List.zip_nil_right, lexB, sgn]
  by_cases e3 : v.a3 = w.a3
  · by_cases e2 : v.a2 = w.a2
    · by_cases e1 : v.a1 = w.a1
      · by_cases e0 : v.a0 = w.a0
        · simp [e3, e2, e1, e0]
        · rcases Int.lt_or_gt_of_ne e0 with h | h
          · simp [e3, e2, e1, e0, h]; omega
          · simp [e3, e2, e1, e0, h, Int.not_lt.2 (Int.le_of_lt h)]
      · rcases Int.lt_or_gt_of_ne e1 with h | h
        · simp [e3, e2, e1, h]; omega
        · simp [e3, e2, e1, h, Int.not_lt.2 (Int.le_of_lt h)]
    · rcases Int.lt_or_gt_of_ne e2 with h | h
      · simp [e3, e2, h]; omega
      · simp [e3, e2, h, Int.not_lt.2 (Int.le_of_lt h)]
  · rcases Int.lt_or_gt_of_ne e3 with h | h
    · simp [e3, h]; omega
    · simp [e3, h, Int.not_lt.2 (Int.le_of_lt h)]
theorem betB_irr (v : BidV) : betB v v = false := by
  rw [betB_lex]
  exact lexB_irr _ (by simp [keyB])
theorem betB_asym {v w : BidV} (h : betB v w = true) : betB w v = false := by
  rw [betB_lex] at h ⊢
  exact lexB_asym _ _ h
theorem betB_trans {v w x : BidV} (h : betB v w = true) (h2 : betB w x = true) : betB v x = true := by
  rw [betB_lex] at h h2 ⊢
  exact lexB_trans (keyB v) (keyB w) (keyB x) rfl rfl h h2
theorem w_Bet (v w : BidV) {b : Bool} (h : betB v w = b) : Pur Try.prog 27 [bidA v, bidA w] (.r (.bool b)) := h ▸ w_Better v w

theorem w_BidOrderF (a b c : BidV) (h : betB a b = false) : Pur Try.prog 7 [bidA a, bidA b, bidA c] (.r (.bool true)) := by
  refine spec_of_go (N := 37) Try.func7 rfl (by decide) rfl rfl ?_
  refine ag_seq ?_
  refine ag_reg ?_
  refine ar_new tOk rfl rfl rfl trivial ?_
  refine ar_new tOk rfl rfl rfl trivial ?_
  refine ar_new tOk rfl rfl rfl trivial ?_
  refine ar_pure tOk rfl rfl rfl trivial ?_
  refine ar_nil ?_
  refine ag_seq ?_
  refine ag_seq ?_
  refine ag_reg ?_
  refine ar_pur (w_alive08) rfl rfl rfl rfl rfl rfl rfl ?_
  refine ar_pure tOk rfl rfl rfl trivial ?_
  refine ar_pure tOk rfl rfl rfl trivial ?_
  refine ar_load tOk rfl rfl (by decide) trivial ?_
  refine ar_load tOk rfl rfl (by decide) trivial ?_
  refine ar_pur (w_Bet a a (betB_irr a)) rfl rfl rfl rfl rfl rfl (by decide) ?_
  refine ar_pure tOk rfl rfl rfl trivial ?_
  refine ar_nil ?_
  refine ag_false rfl (by decide) ?_
  refine ag_skip ?_
  refine ag_seq ?_
  refine ag_seq ?_
  refine ag_reg ?_
  refine ar_load tOk rfl rfl rfl trivial ?_
  refine ar_load tOk rfl rfl rfl trivial ?_
  refine ar_pur (w_Bet a b h) rfl rfl rfl rfl rfl rfl rfl ?_
  refine ar_pure tOk rfl rfl rfl trivial ?_
  refine ar_skip rfl rfl rfl ?_
  refine ar_skip rfl rfl rfl ?_
  refine ar_skip rfl rfl rfl ?_
  refine ar_pure tOk rfl rfl rfl trivial ?_
  refine ar_nil ?_
  refine ag_false rfl (by decide) ?_
  refine ag_skip ?_
  refine ag_seq ?_
  refine ag_reg ?_
  refine ar_load tOk rfl rfl rfl trivial ?_
  refine ar_load tOk rfl rfl rfl trivial ?_
  refine ar_pur (w_Bet a b h) rfl rfl rfl rfl rfl rfl rfl ?_
  refine ar_pure tOk rfl rfl rfl trivial ?_
  refine ar_pure tOk rfl rfl rfl trivial ?_
  refine ar_skip rfl rfl rfl ?_
  refine ar_skip rfl rfl rfl ?_
  refine ar_skip rfl rfl rfl ?_
  refine ar_skip rfl rfl rfl ?_
  refine ar_pure tOk rfl rfl rfl trivial ?_
  refine ar_pure tOk rfl rfl rfl trivial ?_
  refine ar_skip rfl rfl rfl ?_
  refine ar_skip rfl rfl rfl ?_
  refine ar_skip rfl rfl rfl ?_
  refine ar_pure tOk rfl rfl rfl trivial ?_
  refine ar_pure tOk rfl rfl rfl trivial ?_
  refine ar_nil ?_
  refine ag_ret tOk Try.func7 rfl rfl (by simp) ?_
  rfl

theorem w_BidOrderTF (a b c : BidV) (h : betB a b = true) (h2 : betB b c = false) : Pur Try.prog 7 [bidA a, bidA b, bidA c] (.r (.bool true)) := by
  refine spec_of_go (N := 37) Try.func7 rfl (by decide) rfl rfl ?_
  refine ag_seq ?_
  refine ag_reg ?_
  refine ar_new tOk rfl rfl rfl trivial ?_
  refine ar_new tOk rfl rfl rfl trivial ?_
  refine ar_new tOk rfl rfl rfl trivial ?_
  refine ar_pure tOk rfl rfl rfl trivial ?_
  refine ar_nil ?_
  refine ag_seq ?_
  refine ag_seq ?_
  refine ag_reg ?_
  refine ar_pur (w_alive08) rfl rfl rfl rfl rfl rfl rfl ?_
  refine ar_pure tOk rfl rfl rfl trivial ?_
  refine ar_pure tOk rfl rfl rfl trivial ?_
  refine ar_load tOk rfl rfl (by decide) trivial ?_
  refine ar_load tOk rfl rfl (by decide) trivial ?_
  refine ar_pur (w_Bet a a (betB_irr a)) rfl rfl rfl rfl rfl rfl (by decide) ?_
  refine ar_pure tOk rfl rfl rfl trivial ?_
  refine ar_nil ?_
  refine ag_false rfl (by decide) ?_
  refine ag_skip ?_
  refine ag_seq ?_
  refine ag_seq ?_
  refine ag_reg ?_
  refine ar_load tOk rfl rfl rfl trivial ?_
  refine ar_load tOk rfl rfl rfl trivial ?_
  refine ar_pur (w_Bet a b h) rfl rfl rfl rfl rfl rfl rfl ?_
  refine ar_pure tOk rfl rfl rfl trivial ?_
  refine ar_load tOk rfl rfl (by decide) trivial ?_
  refine ar_load tOk rfl rfl (by decide) trivial ?_
  refine ar_pur (w_Bet b a (betB_asym h)) rfl rfl rfl rfl rfl rfl (by decide) ?_
  refine ar_pure tOk rfl rfl rfl trivial ?_
  refine ar_nil ?_
  refine ag_false rfl (by decide) ?_
  refine ag_skip ?_
  refine ag_seq ?_
  refine ag_reg ?_
  refine ar_load tOk rfl rfl rfl trivial ?_
  refine ar_load tOk rfl rfl rfl trivial ?_
  refine ar_pur (w_Bet a b h) rfl rfl rfl rfl rfl rfl rfl ?_
  refine ar_pure tOk rfl rfl rfl trivial ?_
  refine ar_pure tOk rfl rfl rfl trivial ?_
  refine ar_load tOk rfl rfl (by decide) trivial ?_
  refine ar_load tOk rfl rfl (by decide) trivial ?_
  refine ar_pur (w_Bet b c h2) rfl rfl rfl rfl rfl rfl (by decide) ?_
  refine ar_pure tOk rfl rfl (by decide) trivial ?_
  refine ar_pure tOk rfl rfl rfl trivial ?_
  refine ar_pure tOk rfl rfl rfl trivial ?_
  refine ar_skip rfl rfl rfl ?_
  refine ar_skip rfl rfl rfl ?_
  refine ar_skip rfl rfl rfl ?_
  refine ar_pure tOk rfl rfl rfl trivial ?_
  refine ar_pure tOk rfl rfl rfl trivial ?_
  refine ar_nil ?_
  refine ag_ret tOk Try.func7 rfl rfl (by simp) ?_
  rfl

theorem w_BidOrderTT (a b c : BidV) (h : betB a b = true) (h2 : betB b c = true) : Pur Try.prog 7 [bidA a, bidA b, bidA c] (.r (.bool true)) := by
  refine spec_of_go (N := 37) Try.func7 rfl (by decide) rfl rfl ?_
  refine ag_seq ?_
  refine ag_reg ?_
  refine ar_new tOk rfl rfl rfl trivial ?_
  refine ar_new tOk rfl rfl rfl trivial ?_
  refine ar_new tOk rfl rfl rfl trivial ?_
  refine ar_pure tOk rfl rfl rfl trivial ?_
  refine ar_nil ?_
  refine ag_seq ?_
  refine ag_seq ?_
  refine ag_reg ?_
  refine ar_pur (w_alive08) rfl rfl rfl rfl rfl rfl rfl ?_
  refine ar_pure tOk rfl rfl rfl trivial ?_
  refine ar_pure tOk rfl rfl rfl trivial ?_
  refine ar_load tOk rfl rfl (by decide) trivial ?_
  refine ar_load tOk rfl rfl (by decide) trivial ?_
  refine ar_pur (w_Bet a a (betB_irr a)) rfl rfl rfl rfl rfl rfl (by decide) ?_
  refine ar_pure tOk rfl rfl rfl trivial ?_
  refine ar_nil ?_
  refine ag_false rfl (by decide) ?_
  refine ag_skip ?_
  refine ag_seq ?_
  refine ag_seq ?_
  refine ag_reg ?_
  refine ar_load tOk rfl rfl rfl trivial ?_
  refine ar_load tOk rfl rfl rfl trivial ?_
  refine ar_pur (w_Bet a b h) rfl rfl rfl rfl rfl rfl rfl ?_
  refine ar_pure tOk rfl rfl rfl trivial ?_
  refine ar_load tOk rfl rfl (by decide) trivial ?_
  refine ar_load tOk rfl rfl (by decide) trivial ?_
  refine ar_pur (w_Bet b a (betB_asym h)) rfl rfl rfl rfl rfl rfl (by decide) ?_
  refine ar_pure tOk rfl rfl rfl trivial ?_
  refine ar_nil ?_
  refine ag_false rfl (by decide) ?_
  refine ag_skip ?_
  refine ag_seq ?_
  refine ag_reg ?_
  refine ar_load tOk rfl rfl rfl trivial ?_
  refine ar_load tOk rfl rfl rfl trivial ?_
  refine ar_pur (w_Bet a b h) rfl rfl rfl rfl rfl rfl rfl ?_
  refine ar_pure tOk rfl rfl rfl trivial ?_
  refine ar_pure tOk rfl rfl rfl trivial ?_
  refine ar_load tOk rfl rfl (by decide) trivial ?_
  refine ar_load tOk rfl rfl (by decide) trivial ?_
  refine ar_pur (w_Bet b c h2) rfl rfl rfl rfl rfl rfl (by decide) ?_
  refine ar_pure tOk rfl rfl (by decide) trivial ?_
  refine ar_pure tOk rfl rfl rfl trivial ?_
  refine ar_pure tOk rfl rfl rfl trivial ?_
  refine ar_load tOk rfl rfl (by decide) trivial ?_
  refine ar_load tOk rfl rfl (by decide) trivial ?_
  refine ar_pur (w_Bet a c (betB_trans h h2)) rfl rfl rfl rfl rfl rfl (by decide) ?_
  refine ar_pure tOk rfl rfl rfl trivial ?_
  refine ar_pure tOk rfl rfl rfl trivial ?_
  refine ar_nil ?_
  refine ag_ret tOk Try.func7 rfl rfl (by simp) ?_
  rfl

theorem w_BidOrder (a b c : BidV) : Pur Try.prog 7 [bidA a, bidA b, bidA c] (.r (.bool true)) := by
  cases h : betB a b with
  | false => exact w_BidOrderF a b c h
  | true =>
    cases h2 : betB b c with
    | false => exact w_BidOrderTF a b c h h2
    | true => exact w_BidOrderTT a b c h h2

end Go.Proofs.Ytkcfmefleghnnaa

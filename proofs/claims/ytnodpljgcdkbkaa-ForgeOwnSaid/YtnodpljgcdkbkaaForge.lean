/-
  WALKS: forge (Joined, Meets, rows, above, ends, Find of what a key signed). (Printed by gen.py out of w_forge.py.)
-/
import Derived.Test.YtnodpljgcdkbkaaLMss
import Derived.Test.YtnodpljgcdkbkaaMVer
import Derived.Test.YtnodpljgcdkbkaaMB
namespace Go.Proofs.Ytnodpljgcdkbkaa
open Go
set_option maxRecDepth 20000
set_option linter.unusedVariables false
set_option linter.unusedSimpArgs false
/-- The last two unlike texts of two chains. -/
def metF : Nat → List UInt8 → List UInt8 → List UInt8 × List UInt8 × Bool
  | 0, _, _ => ([], [], false)
  | k + 1, a, b => if sh8 a = sh8 b then (a, b, true) else metF k (sh8 a) (sh8 b)
def metL (a b : List UInt8) (n : Int) : List UInt8 × List UInt8 × Bool := if a = b then ([], [], false) else metF (stp n) a b
def rwsL : Nat → List UInt8 → List (List UInt8) → List (List UInt8)
  | _, _, [] => []
  | n, s, p :: r => if n % 2 = 1 then (p ++ s) :: rwsL (n / 2) (sh8 (p ++ s)) r else (s ++ p) :: rwsL (n / 2) (sh8 (s ++ p)) r
theorem rws_at {L : List (List UInt8)} {i : Nat} {p : List UInt8} (hp : L[i]? = some p) (n : Nat) (s : List UInt8) : rwsL n s (L.drop i) = if n % 2 = 1 then (p ++ s) :: rwsL (n / 2) (sh8 (p ++ s)) (L.drop (i + 1)) else (s ++ p) :: rwsL (n / 2) (sh8 (s ++ p)) (L.drop (i + 1)) := by
  obtain ⟨hlt, he⟩ := List.getElem?_eq_some_iff.1 hp
  rw [List.drop_eq_getElem_cons hlt, he]
  rfl
theorem w_Joined (a b : List UInt8) (h : a.length + b.length ≤ 9223372036854775807) : Pur Try.prog 70 [.r (.str a), .r (.str b)] (.r (.str (a ++ b))) := by
  refine spec_of_go (N := 8) Try.func70 rfl (by decide) rfl rfl ?_
  refine zB ?_
  refine pA ?_
  refine zC ?_
  iterate 2 refine pA ?_
  refine ar_pure tOk rfl rfl rfl ?_ ?_
  · exact h
  refine pA ?_
  refine ar_nil ?_
  refine ag_ret tOk Try.func70 rfl rfl (by simp) ?_
  rfl
theorem w_step (s : List UInt8) (hs : s.length ≤ 140737488355000) : Pur Try.prog 71 [.r (.str s)] (.r (.str (sh8 s))) := by
  refine spec_of_go (N := 7) Try.func71 rfl (by decide) rfl rfl ?_
  refine zB ?_
  refine pA ?_
  refine zC ?_
  refine pA ?_
  refine ar_qd rfl (qop_strBytes tOk rfl) rfl rfl rfl rfl ?_
  refine ar_qd rfl (qop_buildRo tOk rfl ?_ rfl) rfl rfl rfl rfl ?_
  · repeat any_goals (first | trivial | decide | omega | (simp; done) | (rw [wu8]; omega) | refine ⟨?_, ?_⟩)
  refine ar_pur (w_Short1 s hs) rfl rfl rfl rfl rfl rfl rfl ?_
  refine pA ?_
  refine ar_nil ?_
  refine ag_ret tOk Try.func71 rfl rfl (by simp) ?_
  rfl
def stfMt_0 (a b : List UInt8) (N : Nat) : Nat × List UInt8 × List UInt8 → Regs × Hp := fun ⟨i, p, q⟩ => ([(0, .r (.str p)), (1, .r (.str q)), (16, .r (.int .i64 (N : Int))), (17, .r (.int .i64 (i : Int)))], ⟨0, [], false⟩)
def prfMt_0 (a b : List UInt8) (N : Nat) : Nat × List UInt8 × List UInt8 → Prop := fun ⟨i, p, q⟩ => i ≤ N ∧ metF (N - i) p q = metF N a b ∧ p.length ≤ 140737488355000 ∧ q.length ≤ 140737488355000
theorem w_Meets (a b : List UInt8) (n : Int) (ha : a.length ≤ 140737488355000) (hb : b.length ≤ 140737488355000) : Pur Try.prog 25 [.r (.str a), .r (.str b), .r (.int .i64 n)] (.tuple [.r (.str (metL a b n).1), .r (.str (metL a b n).2.1), .r (.bool (metL a b n).2.2)]) := by
  obtain ⟨N, hN⟩ : ∃ N, stp n = N := ⟨_, rfl⟩
  have hN2 : min (max n 0) 3 = (N : Int) := by rw [← hN]; unfold stp; omega
  have hN3 : N ≤ 3 := by omega
  refine spec_of_go (N := 31) Try.func25 rfl (by decide) rfl rfl ?_
  refine zB ?_
  iterate 3 refine pA ?_
  refine zA ?_
  refine zB ?_
  iterate 3 refine pA ?_
  refine ar_nil ?_
  refine ag_if rfl ?_ ?_
  · intro h13
    refine zB ?_
    iterate 3 refine pA ?_
    refine ar_nil ?_
    refine ag_ret tOk Try.func25 rfl rfl (by first | trivial | exact ⟨trivial, trivial⟩ | simp) ?_
    rw [show metL a b n = ([], [], false) by rw [metL, if_pos h13]]
    rfl
  · intro h13
    rw [show metL a b n = metF N a b by rw [metL, if_neg h13, hN]]
    refine ag_skip ?_
    refine ag_seq ?_
    refine zB ?_
    iterate 3 refine pA ?_
    refine ar_ent (ent_reg 16 (.r (.int .i64 ((N : Int)))) (by show AVal.r (.int _ _) = _; exact eqI (hN2))) ?_
    refine pA ?_
    refine ar_nil ?_
    refine ag_block ?_
    refine ag_loopS (stfMt_0 a b N) (prfMt_0 a b N) (fun ⟨i, p, q⟩ => N - i) (0, a, b) (ent_weak [] rfl rfl rfl rfl ?_ ?_ rfl) (show prfMt_0 a b N (0, a, b) from ?_) ?_
    · exact ⟨⟨rfl, rfl⟩, ⟨rfl, rfl⟩, ⟨rfl, rfl⟩, ⟨rfl, rfl⟩, trivial⟩
    · trivial
    · exact ⟨Nat.zero_le _, rfl, ha, hb⟩
    rintro ⟨i, p, q⟩ hp0 hrec
    obtain ⟨hi, hm, hp, hq⟩ : _ := hp0
    refine zB ?_
    refine pA ?_
    refine zA ?_
    refine ag_if rfl ?_ ?_
    · intro h18
      obtain ⟨k, hk⟩ : ∃ k, N - i = k + 1 := ⟨N - i - 1, by omega⟩
      rw [hk, metF] at hm
      refine ag_skip ?_
      refine ag_seq ?_
      refine ag_block ?_
      refine zB ?_
      refine pA ?_
      refine ar_pur (w_step p hp) rfl rfl rfl rfl rfl rfl rfl ?_
      refine pA ?_
      refine ar_pur (w_step q hq) rfl rfl rfl rfl rfl rfl rfl ?_
      iterate 2 refine pA ?_
      refine zA ?_
      refine zB ?_
      iterate 3 refine pA ?_
      refine ar_nil ?_
      refine ag_if rfl ?_ ?_
      · intro h25
        rw [if_pos h25] at hm
        refine zB ?_
        iterate 5 refine pA ?_
        refine ar_nil ?_
        refine ag_ret tOk Try.func25 rfl rfl (by first | trivial | exact ⟨trivial, trivial⟩ | simp) ?_
        rw [← hm]
        rfl
      · intro h25
        rw [if_neg h25] at hm
        refine ag_skip ?_
        refine ag_reg ?_
        iterate 4 refine pA ?_
        refine ar_nil ?_
        refine ag_inBlock ?_
        refine ag_reg ?_
        refine ar_pure tOk rfl rfl rfl ?_ ?_
        · unfold inI64; omega
        refine pA ?_
        refine ar_nil ?_
        refine ag_ent (ent_weak (g' := (stfMt_0 a b N (i + 1, sh8 p, sh8 q)).1) (h' := (stfMt_0 a b N (i + 1, sh8 p, sh8 q)).2) [] rfl rfl rfl rfl ?_ ?_ rfl) ?_
        · exact ⟨⟨rfl, rfl⟩, ⟨rfl, rfl⟩, ⟨rfl, rfl⟩, ⟨rfl, by exact eqI (by omega)⟩, trivial⟩
        · trivial
        have hnx := hrec (i + 1, sh8 p, sh8 q)
        refine hnx ?_ ?_
        · exact ⟨by omega, by rw [show N - (i + 1) = k by omega]; exact hm, by rw [sh8_length]; decide, by rw [sh8_length]; decide⟩
        · show N - (i + 1) < N - i; omega
    · intro h18
      rw [show N - i = 0 by omega] at hm
      refine ag_exit rfl ?_
      refine zB ?_
      iterate 3 refine pA ?_
      refine ar_nil ?_
      refine ag_ret tOk Try.func25 rfl rfl (by first | trivial | exact ⟨trivial, trivial⟩ | simp) ?_
      rw [← hm]
      rfl
theorem roS_of2 {L : List (List UInt8)} {a : RVal} {l : List RVal} (h : a :: l = sL L) : AVal.r (.ro (l.length + 1) (cutA (a :: l) 0 ((l.length + 1) * 1))) = roS L := by
  have e : L.length = l.length + 1 := by have := congrArg List.length h; simp [sL] at this; omega
  rw [cutA_eq, List.drop_zero, List.take_of_length_le (by simp), h, roS, e]
def stfRw_0 (P : List (List UInt8)) (n0 : Nat) (s0 : List UInt8) : Nat × List RVal × Nat × List UInt8 → Regs × Hp := fun ⟨i, acc, n, s⟩ => ([(1, .r (.int .i64 (n : Int))), (2, .r (.str s)), (13, roS P), (14, .r (.int .i64 (P.length : Int))), (15, .r (.int .i64 (i : Int))), (9, accA acc)], accH acc)
def prfRw_0 (P : List (List UInt8)) (n0 : Nat) (s0 : List UInt8) : Nat × List RVal × Nat × List UInt8 → Prop := fun ⟨i, acc, n, s⟩ => i ≤ P.length ∧ acc ++ sL (rwsL n s (P.drop i)) = sL (rwsL n0 s0 P) ∧ n < 256 ∧ s.length ≤ 1000 ∧ acc.length = i
theorem w_rows (seed : List UInt8) (n0 : Nat) (s0 : List UInt8) (P : List (List UInt8)) (hn : n0 < 256) (hs : s0.length ≤ 1000) (hP : P.length ≤ 1000) (h8 : ∀ p ∈ P, p.length = 8) : Pur Try.prog 78 [.r (.str seed), .r (.int .i64 (n0 : Int)), .r (.str s0), roS P] (roS (rwsL n0 s0 P)) := by
  refine spec_of_go (N := 38) Try.func78 rfl (by decide) rfl rfl ?_
  refine zB ?_
  refine pA ?_
  refine zC ?_
  refine pA ?_
  refine zA ?_
  refine zB ?_
  iterate 3 refine pA ?_
  refine ar_nil ?_
  refine ag_block ?_
  refine ag_loopS (stfRw_0 P n0 s0) (prfRw_0 P n0 s0) (fun ⟨i, acc, n, s⟩ => P.length - i) (0, [], n0, s0) (ent_weak [] rfl rfl rfl rfl ?_ ?_ rfl) (show prfRw_0 P n0 s0 (0, [], n0, s0) from ?_) ?_
  · exact ⟨⟨rfl, rfl⟩, ⟨rfl, rfl⟩, ⟨rfl, rfl⟩, ⟨rfl, rfl⟩, ⟨rfl, rfl⟩, ⟨rfl, rfl⟩, trivial⟩
  · trivial
  · exact ⟨Nat.zero_le _, rfl, hn, hs, rfl⟩
  rintro ⟨i, acc, n, s⟩ hp0 hrec
  cases acc with
  | nil =>
    obtain ⟨hi, hacc, hm, hsl, hai⟩ : _ := hp0
    refine ag_ent (ent_weak (g' := [(1, .r (.int .i64 (n : Int))), (2, .r (.str s)), (13, roS P), (14, .r (.int .i64 (P.length : Int))), (15, .r (.int .i64 (i : Int))), (9, .r .nil)]) (h' := ⟨0, [], false⟩) [] rfl rfl rfl rfl ?_ ?_ rfl) ?_
    · exact ⟨⟨rfl, rfl⟩, ⟨rfl, rfl⟩, ⟨rfl, rfl⟩, ⟨rfl, rfl⟩, ⟨rfl, rfl⟩, ⟨rfl, rfl⟩, trivial⟩
    · trivial
    refine zB ?_
    refine pA ?_
    refine zA ?_
    refine ag_if rfl ?_ ?_
    · intro h16
      obtain ⟨p, hp⟩ := getI (L := P) (i := i) (by omega)
      have hpl := h8 p (memI hp)
      rw [rws_at hp] at hacc
      refine ag_skip ?_
      refine ag_seq ?_
      refine ag_block ?_
      refine zB ?_
      refine ar_pure tOk rfl rfl rfl ?_ ?_
      · refine ⟨?_, ?_⟩ <;> first | omega | exact ne_mp hp | (refine ⟨?_, ?_⟩ <;> omega)
      refine ar_loadAs tOk (.r (.str p)) rfl rfl rfl rfl rfl rfl rfl (.inl ⟨rfl, by simp [Body.cells, mulz_eq, sL, hp]⟩) ?_
      refine pA ?_
      refine zC ?_
      iterate 2 refine pA ?_
      refine ar_pur (w_Joined s p (by omega)) rfl rfl rfl rfl rfl rfl rfl ?_
      refine pA ?_
      refine zA ?_
      refine zB ?_
      iterate 2 refine pA ?_
      refine ar_ent (ent_reg 23 (.r (.int .i64 (((n % 2 : Nat) : Int)))) (by show AVal.r (.int _ _) = _; exact eqI (and1 hm))) ?_
      refine pA ?_
      refine ar_nil ?_
      refine ag_if rfl ?_ ?_
      · intro h24
        rw [if_pos (by omega)] at hacc
        refine ag_reg ?_
        iterate 2 refine pA ?_
        refine ar_pur (w_Joined p s (by omega)) rfl rfl rfl rfl rfl rfl rfl ?_
        refine pA ?_
        refine zC ?_
        iterate 2 refine pA ?_
        refine ar_qd rfl (qop_buildRo tOk rfl ?_ rfl) rfl rfl rfl rfl ?_
        · repeat any_goals (first | trivial | decide | omega | (simp; done) | (rw [wu8]; omega) | refine ⟨?_, ?_⟩)
        refine ar_app tOk rfl rfl rfl ?_ ?_
        · refine ⟨⟨?_, ?_, ?_⟩, ⟨?_, ?_⟩, ⟨?_, ?_⟩, ?_⟩ <;> first | trivial | omega | (simp; done) | (simp; omega)
        refine pA ?_
        refine ar_nil ?_
        refine ag_reg ?_
        refine pA ?_
        refine ar_pur (w_step (p ++ s) (by rw [List.length_append]; omega)) rfl rfl rfl rfl rfl rfl rfl ?_
        refine pA ?_
        refine ar_pure tOk rfl rfl rfl ?_ ?_
        · decide
        refine ar_ent (ent_reg 35 (.r (.int .i64 (((n / 2 : Nat) : Int)))) (by show AVal.r (.int _ _) = _; exact eqI (by rw [Int.fdiv_eq_ediv_of_nonneg _ (by decide)]; show (n : Int) / 2 = _; omega))) ?_
        iterate 2 refine pA ?_
        refine ar_nil ?_
        refine ag_inBlock ?_
        refine ag_reg ?_
        refine ar_pure tOk rfl rfl rfl ?_ ?_
        · unfold inI64; omega
        refine pA ?_
        refine ar_nil ?_
        refine ag_ent (ent_weak (g' := (stfRw_0 P n0 s0 (i + 1, [.str (p ++ s)], n / 2, sh8 (p ++ s))).1) (h' := (stfRw_0 P n0 s0 (i + 1, [.str (p ++ s)], n / 2, sh8 (p ++ s))).2) [0] rfl rfl rfl rfl ?_ ?_ rfl) ?_
        · exact ⟨⟨rfl, rfl⟩, ⟨rfl, rfl⟩, ⟨rfl, rfl⟩, ⟨rfl, rfl⟩, ⟨rfl, by exact eqI (by omega)⟩, ⟨rfl, rfl⟩, trivial⟩
        · exact ⟨⟨rfl, rfl, rfl⟩, trivial⟩
        have hnx := hrec (i + 1, [.str (p ++ s)], n / 2, sh8 (p ++ s))
        refine hnx ?_ ?_
        · exact ⟨by omega, by rw [← hacc]; simp [sL], by omega, by rw [sh8_length]; decide, by simp only [List.length_append, List.length_cons, List.length_nil] at *; omega⟩
        · show P.length - (i + 1) < P.length - i; omega
      · intro h24
        rw [if_neg (by omega)] at hacc
        refine ag_skip ?_
        refine zB ?_
        iterate 2 refine pA ?_
        refine ar_qd rfl (qop_buildRo tOk rfl ?_ rfl) rfl rfl rfl rfl ?_
        · repeat any_goals (first | trivial | decide | omega | (simp; done) | (rw [wu8]; omega) | refine ⟨?_, ?_⟩)
        refine ar_app tOk rfl rfl rfl ?_ ?_
        · refine ⟨⟨?_, ?_, ?_⟩, ⟨?_, ?_⟩, ⟨?_, ?_⟩, ?_⟩ <;> first | trivial | omega | (simp; done) | (simp; omega)
        refine pA ?_
        refine ar_nil ?_
        refine ag_reg ?_
        refine pA ?_
        refine ar_pur (w_step (s ++ p) (by rw [List.length_append]; omega)) rfl rfl rfl rfl rfl rfl rfl ?_
        refine pA ?_
        refine ar_pure tOk rfl rfl rfl ?_ ?_
        · decide
        refine ar_ent (ent_reg 35 (.r (.int .i64 (((n / 2 : Nat) : Int)))) (by show AVal.r (.int _ _) = _; exact eqI (by rw [Int.fdiv_eq_ediv_of_nonneg _ (by decide)]; show (n : Int) / 2 = _; omega))) ?_
        iterate 2 refine pA ?_
        refine ar_nil ?_
        refine ag_inBlock ?_
        refine ag_reg ?_
        refine ar_pure tOk rfl rfl rfl ?_ ?_
        · unfold inI64; omega
        refine pA ?_
        refine ar_nil ?_
        refine ag_ent (ent_weak (g' := (stfRw_0 P n0 s0 (i + 1, [.str (s ++ p)], n / 2, sh8 (s ++ p))).1) (h' := (stfRw_0 P n0 s0 (i + 1, [.str (s ++ p)], n / 2, sh8 (s ++ p))).2) [0] rfl rfl rfl rfl ?_ ?_ rfl) ?_
        · exact ⟨⟨rfl, rfl⟩, ⟨rfl, rfl⟩, ⟨rfl, rfl⟩, ⟨rfl, rfl⟩, ⟨rfl, by exact eqI (by omega)⟩, ⟨rfl, rfl⟩, trivial⟩
        · exact ⟨⟨rfl, rfl, rfl⟩, trivial⟩
        have hnx := hrec (i + 1, [.str (s ++ p)], n / 2, sh8 (s ++ p))
        refine hnx ?_ ?_
        · exact ⟨by omega, by rw [← hacc]; simp [sL], by omega, by rw [sh8_length]; decide, by simp only [List.length_append, List.length_cons, List.length_nil] at *; omega⟩
        · show P.length - (i + 1) < P.length - i; omega
    · intro h16
      rw [List.drop_eq_nil_of_le (by omega)] at hacc
      simp only [rwsL, sL, List.map_nil, List.append_nil] at hacc
      refine ag_exit rfl ?_
      refine zB ?_
      iterate 2 refine pA ?_
      refine ar_nil ?_
      refine ag_ent (ent_nil 8 (.ro 0 []) rfl (.inr rfl)) ?_
      refine ag_ret tOk Try.func78 rfl rfl (by simp) ?_
      show AVal.r (.ro 0 []) = _
      rw [roS, show rwsL n0 s0 P = [] from List.map_eq_nil_iff.1 hacc.symm]; rfl
  | cons a l =>
    obtain ⟨hi, hacc, hm, hsl, hai⟩ : _ := hp0
    refine ag_ent (ent_weak (g' := [(1, .r (.int .i64 (n : Int))), (2, .r (.str s)), (13, roS P), (14, .r (.int .i64 (P.length : Int))), (15, .r (.int .i64 (i : Int))), (9, .sl 0 0 (l.length + 1) 1)]) (h' := ⟨1, [(0, some (.plain (a :: l)))], false⟩) [0] rfl rfl rfl rfl ?_ ?_ rfl) ?_
    · exact ⟨⟨rfl, rfl⟩, ⟨rfl, rfl⟩, ⟨rfl, rfl⟩, ⟨rfl, rfl⟩, ⟨rfl, rfl⟩, ⟨rfl, rfl⟩, trivial⟩
    · exact ⟨⟨rfl, rfl, rfl⟩, trivial⟩
    have hal : l.length + 1 = i := hai
    refine zB ?_
    refine pA ?_
    refine zA ?_
    refine ag_if rfl ?_ ?_
    · intro h16
      obtain ⟨p, hp⟩ := getI (L := P) (i := i) (by omega)
      have hpl := h8 p (memI hp)
      rw [rws_at hp] at hacc
      refine ag_skip ?_
      refine ag_seq ?_
      refine ag_block ?_
      refine zB ?_
      refine ar_pure tOk rfl rfl rfl ?_ ?_
      · refine ⟨?_, ?_⟩ <;> first | omega | exact ne_mp hp | (refine ⟨?_, ?_⟩ <;> omega)
      refine ar_loadAs tOk (.r (.str p)) rfl rfl rfl rfl rfl rfl rfl (.inl ⟨rfl, by simp [Body.cells, mulz_eq, sL, hp]⟩) ?_
      refine pA ?_
      refine zC ?_
      iterate 2 refine pA ?_
      refine ar_pur (w_Joined s p (by omega)) rfl rfl rfl rfl rfl rfl rfl ?_
      refine pA ?_
      refine zA ?_
      refine zB ?_
      iterate 2 refine pA ?_
      refine ar_ent (ent_reg 23 (.r (.int .i64 (((n % 2 : Nat) : Int)))) (by show AVal.r (.int _ _) = _; exact eqI (and1 hm))) ?_
      refine pA ?_
      refine ar_nil ?_
      refine ag_if rfl ?_ ?_
      · intro h24
        rw [if_pos (by omega)] at hacc
        refine ag_reg ?_
        iterate 2 refine pA ?_
        refine ar_pur (w_Joined p s (by omega)) rfl rfl rfl rfl rfl rfl rfl ?_
        refine pA ?_
        refine zC ?_
        iterate 2 refine pA ?_
        refine ar_qd rfl (qop_buildRo tOk rfl ?_ rfl) rfl rfl rfl rfl ?_
        · repeat any_goals (first | trivial | decide | omega | (simp; done) | (rw [wu8]; omega) | refine ⟨?_, ?_⟩)
        refine ar_app tOk rfl rfl rfl ?_ ?_
        · refine ⟨⟨?_, ?_, ?_⟩, ⟨?_, ?_⟩, ⟨?_, ?_⟩, ?_⟩ <;> first | trivial | omega | (simp; done) | (simp; omega)
        refine pA ?_
        refine ar_nil ?_
        refine ag_reg ?_
        refine pA ?_
        refine ar_pur (w_step (p ++ s) (by rw [List.length_append]; omega)) rfl rfl rfl rfl rfl rfl rfl ?_
        refine pA ?_
        refine ar_pure tOk rfl rfl rfl ?_ ?_
        · decide
        refine ar_ent (ent_reg 35 (.r (.int .i64 (((n / 2 : Nat) : Int)))) (by show AVal.r (.int _ _) = _; exact eqI (by rw [Int.fdiv_eq_ediv_of_nonneg _ (by decide)]; show (n : Int) / 2 = _; omega))) ?_
        iterate 2 refine pA ?_
        refine ar_nil ?_
        refine ag_inBlock ?_
        refine ag_reg ?_
        refine ar_pure tOk rfl rfl rfl ?_ ?_
        · unfold inI64; omega
        refine pA ?_
        refine ar_nil ?_
        refine ag_ent (ent_weak (g' := (stfRw_0 P n0 s0 (i + 1, a :: l ++ [.str (p ++ s)], n / 2, sh8 (p ++ s))).1) (h' := (stfRw_0 P n0 s0 (i + 1, a :: l ++ [.str (p ++ s)], n / 2, sh8 (p ++ s))).2) [1] rfl rfl rfl rfl ?_ ?_ rfl) ?_
        · exact ⟨⟨rfl, rfl⟩, ⟨rfl, rfl⟩, ⟨rfl, rfl⟩, ⟨rfl, rfl⟩, ⟨rfl, by exact eqI (by omega)⟩, ⟨rfl, by exact eqSl (by simp)⟩, trivial⟩
        · exact ⟨⟨rfl, rfl, by exact eqPl (by simp [cutA_eq])⟩, trivial⟩
        have hnx := hrec (i + 1, a :: l ++ [.str (p ++ s)], n / 2, sh8 (p ++ s))
        refine hnx ?_ ?_
        · exact ⟨by omega, by rw [← hacc]; simp [sL], by omega, by rw [sh8_length]; decide, by simp only [List.length_append, List.length_cons, List.length_nil] at *; omega⟩
        · show P.length - (i + 1) < P.length - i; omega
      · intro h24
        rw [if_neg (by omega)] at hacc
        refine ag_skip ?_
        refine zB ?_
        iterate 2 refine pA ?_
        refine ar_qd rfl (qop_buildRo tOk rfl ?_ rfl) rfl rfl rfl rfl ?_
        · repeat any_goals (first | trivial | decide | omega | (simp; done) | (rw [wu8]; omega) | refine ⟨?_, ?_⟩)
        refine ar_app tOk rfl rfl rfl ?_ ?_
        · refine ⟨⟨?_, ?_, ?_⟩, ⟨?_, ?_⟩, ⟨?_, ?_⟩, ?_⟩ <;> first | trivial | omega | (simp; done) | (simp; omega)
        refine pA ?_
        refine ar_nil ?_
        refine ag_reg ?_
        refine pA ?_
        refine ar_pur (w_step (s ++ p) (by rw [List.length_append]; omega)) rfl rfl rfl rfl rfl rfl rfl ?_
        refine pA ?_
        refine ar_pure tOk rfl rfl rfl ?_ ?_
        · decide
        refine ar_ent (ent_reg 35 (.r (.int .i64 (((n / 2 : Nat) : Int)))) (by show AVal.r (.int _ _) = _; exact eqI (by rw [Int.fdiv_eq_ediv_of_nonneg _ (by decide)]; show (n : Int) / 2 = _; omega))) ?_
        iterate 2 refine pA ?_
        refine ar_nil ?_
        refine ag_inBlock ?_
        refine ag_reg ?_
        refine ar_pure tOk rfl rfl rfl ?_ ?_
        · unfold inI64; omega
        refine pA ?_
        refine ar_nil ?_
        refine ag_ent (ent_weak (g' := (stfRw_0 P n0 s0 (i + 1, a :: l ++ [.str (s ++ p)], n / 2, sh8 (s ++ p))).1) (h' := (stfRw_0 P n0 s0 (i + 1, a :: l ++ [.str (s ++ p)], n / 2, sh8 (s ++ p))).2) [1] rfl rfl rfl rfl ?_ ?_ rfl) ?_
        · exact ⟨⟨rfl, rfl⟩, ⟨rfl, rfl⟩, ⟨rfl, rfl⟩, ⟨rfl, rfl⟩, ⟨rfl, by exact eqI (by omega)⟩, ⟨rfl, by exact eqSl (by simp)⟩, trivial⟩
        · exact ⟨⟨rfl, rfl, by exact eqPl (by simp [cutA_eq])⟩, trivial⟩
        have hnx := hrec (i + 1, a :: l ++ [.str (s ++ p)], n / 2, sh8 (s ++ p))
        refine hnx ?_ ?_
        · exact ⟨by omega, by rw [← hacc]; simp [sL], by omega, by rw [sh8_length]; decide, by simp only [List.length_append, List.length_cons, List.length_nil] at *; omega⟩
        · show P.length - (i + 1) < P.length - i; omega
    · intro h16
      rw [List.drop_eq_nil_of_le (by omega)] at hacc
      simp only [rwsL, sL, List.map_nil, List.append_nil] at hacc
      refine ag_exit rfl ?_
      refine zB ?_
      iterate 2 refine pA ?_
      refine ar_nil ?_
      refine ag_ent (ent_freeze 8 rfl rfl rfl trivial) ?_
      refine ag_ret tOk Try.func78 rfl rfl (by simp) ?_
      show AVal.r (.ro _ (cutA _ 0 _)) = _
      exact roS_of2 hacc
def stfAb_0 (R : List (List UInt8)) : Nat → Regs × Hp := fun k => ([(0, roS R), (1, roS R), (7, .r (.int .i64 ((k : Int) - 1)))], ⟨0, [], false⟩)
def prfAb_0 (R : List (List UInt8)) : Nat → Prop := fun k => k ≤ R.length
theorem w_fabove (R : List (List UInt8)) (hR : R.length ≤ 1000) : Pur Try.prog 81 [roS R, roS R] (.tuple [.r (.str []), .r (.str []), .r (.bool false)]) := by
  refine spec_of_go (N := 43) Try.func81 rfl (by decide) rfl rfl ?_
  refine zB ?_
  iterate 3 refine pA ?_
  refine zA ?_
  refine zB ?_
  iterate 2 refine pA ?_
  refine ar_pure tOk rfl rfl rfl ?_ ?_
  · unfold inI64; omega
  skip
  refine pA ?_
  refine ar_nil ?_
  refine ag_block ?_
  refine ag_loopS (stfAb_0 R) (prfAb_0 R) (fun (k : Nat) => k) R.length (ent_weak [] rfl rfl rfl rfl ?_ ?_ rfl) (show prfAb_0 R R.length from ?_) ?_
  · exact ⟨⟨rfl, rfl⟩, ⟨rfl, rfl⟩, ⟨rfl, rfl⟩, trivial⟩
  · trivial
  · exact Nat.le_refl _
  rintro k hk0 hrec
  have hk : k ≤ R.length := hk0
  refine ag_seq ?_
  refine zB ?_
  iterate 2 refine pA ?_
  refine ar_nil ?_
  refine ag_if rfl ?_ ?_
  · intro h12
    obtain ⟨j, rfl⟩ : ∃ j, k = j + 1 := ⟨k - 1, by omega⟩
    obtain ⟨p, hp⟩ := getI (L := R) (i := j) (by omega)
    refine ag_ent (ent_reg 7 (.r (.int .i64 (j : Int))) (by show AVal.r (.int _ _) = _; exact eqI (by omega))) ?_
    refine ag_skip ?_
    refine ag_seq ?_
    refine ag_block ?_
    refine ag_seq ?_
    refine ag_draw0 (by kernel_rfl) (by kernel_rfl) ?_
    iterate 2 refine aq_pure tOk rfl rfl rfl trivial ?_
    refine aq_pure tOk rfl rfl rfl ?_ ?_
    · refine ⟨?_, ?_⟩ <;> first | omega | exact ne_mp hp | (refine ⟨?_, ?_⟩ <;> omega)
    refine aq_loadAs tOk (.r (.str p)) rfl rfl rfl rfl (fun _ => rfl) rfl rfl (.inl ⟨rfl, by simp [Body.cells, mulz_eq, sL, hp]⟩) ?_
    iterate 2 refine aq_pure tOk rfl rfl rfl trivial ?_
    refine aq_pure tOk rfl rfl rfl ?_ ?_
    · refine ⟨?_, ?_⟩ <;> first | omega | exact ne_mp hp | (refine ⟨?_, ?_⟩ <;> omega)
    refine aq_loadAs tOk (.r (.str p)) rfl rfl rfl rfl (fun _ => rfl) rfl rfl (.inl ⟨rfl, by simp [Body.cells, mulz_eq, sL, hp]⟩) ?_
    refine aq_pure tOk rfl rfl rfl trivial ?_
    refine aq_nil rfl ?_
    refine ag_false rfl (by simp) ?_
    refine ag_skip ?_
    refine ag_inBlock ?_
    refine ag_reg ?_
    refine pA ?_
    refine ar_pure tOk rfl rfl rfl ?_ ?_
    · unfold inI64; omega
    refine pA ?_
    refine ar_nil ?_
    refine ag_ent (ent_weak (g' := (stfAb_0 R j).1) (h' := (stfAb_0 R j).2) [] rfl rfl rfl rfl ?_ ?_ rfl) ?_
    · exact ⟨⟨rfl, rfl⟩, ⟨rfl, rfl⟩, ⟨rfl, rfl⟩, trivial⟩
    · trivial
    have hnx := hrec j
    refine hnx ?_ ?_
    · show j ≤ R.length; omega
    · show j < j + 1; omega
  · intro h12
    refine ag_exit rfl ?_
    refine zB ?_
    iterate 3 refine pA ?_
    refine ar_nil ?_
    refine ag_ret tOk Try.func81 rfl rfl (by first | trivial | exact ⟨trivial, trivial⟩ | simp) ?_
    rfl
def stfEn_0 (P : List (List UInt8)) (D : List Int) (W : List (List UInt8)) : Nat → Regs × Hp := fun i => ([(1, roI D), (8, roS P), (9, .r (.int .i64 15)), (10, .r (.int .i64 (i : Int))), (5, .r (.str (W.take i).flatten))], ⟨0, [], false⟩)
def prfEn_0 (P : List (List UInt8)) (D : List Int) (W : List (List UInt8)) : Nat → Prop := fun i => i ≤ 15
theorem w_ends (P : List (List UInt8)) (D : List Int) (hP : P.length = 15) (hD : D.length = 15) (hP8 : ∀ p ∈ P, p.length = 8) (hDb : ∀ d ∈ D, 0 ≤ d ∧ d ≤ 3) : Pur Try.prog 82 [roS P, roI D] (.r (.str (wks (fun d => 3 - d) P D).flatten)) := by
  obtain ⟨W, hW⟩ : ∃ W, wks (fun d => 3 - d) P D = W := ⟨_, rfl⟩
  have hWl : W.length = 15 := by rw [← hW, wks_length (by omega)]; exact hP
  have hW8 : ∀ q ∈ W, q.length = 8 := by rw [← hW]; exact wks_8 hP8
  rw [hW]
  refine spec_of_go (N := 26) Try.func82 rfl (by decide) rfl rfl ?_
  refine zB ?_
  refine pA ?_
  refine zC ?_
  refine pA ?_
  refine zA ?_
  refine zB ?_
  iterate 3 refine pA ?_
  refine ar_nil ?_
  refine ag_block ?_
  refine ag_loopS (stfEn_0 P D W) (prfEn_0 P D W) (fun (i : Nat) => 15 - i) 0 (ent_weak [] rfl rfl rfl rfl ?_ ?_ rfl) (show prfEn_0 P D W 0 from ?_) ?_
  · exact ⟨⟨rfl, rfl⟩, ⟨rfl, rfl⟩, ⟨rfl, by exact eqI (by rw [hP]; rfl)⟩, ⟨rfl, rfl⟩, ⟨rfl, rfl⟩, trivial⟩
  · trivial
  · exact Nat.zero_le _
  rintro i hi0 hrec
  have hi : i ≤ 15 := hi0
  refine zB ?_
  refine pA ?_
  refine zA ?_
  refine ag_if rfl ?_ ?_
  · intro h11
    obtain ⟨p, d, hp, hd⟩ := getI3 (A := P) (B := D) (i := i) (n := 15) (by omega) hP hD
    have hpl := hP8 p (memI hp)
    have hdb := hDb d (memI hd)
    have hw : W[i]? = some (wlk (stp (3 - d)) p) := by rw [← hW]; exact wks_get hp hd
    have hwl := hW8 _ (memI hw)
    have hfl := flat_take8 hW8 i (by omega)
    refine ag_skip ?_
    refine ag_seq ?_
    refine ag_block ?_
    refine zB ?_
    refine pA ?_
    refine ar_pure tOk rfl rfl rfl ?_ ?_
    · refine ⟨?_, ?_⟩ <;> first | omega | exact ne_mp hp | (refine ⟨?_, ?_⟩ <;> omega)
    refine ar_loadAs tOk (.r (.str p)) rfl rfl rfl rfl rfl rfl rfl (.inl ⟨rfl, by simp [Body.cells, mulz_eq, sL, hp]⟩) ?_
    iterate 2 refine pA ?_
    refine ar_nil ?_
    refine ag_reg ?_
    iterate 4 refine pA ?_
    refine ar_pure tOk rfl rfl rfl ?_ ?_
    · refine ⟨?_, ?_⟩ <;> first | omega | exact ne_mp hd | (refine ⟨?_, ?_⟩ <;> omega)
    refine ar_loadAs tOk (.r (.int .i64 d)) rfl rfl rfl rfl rfl rfl rfl (.inl ⟨rfl, by simp [Body.cells, mulz_eq, iL, hd]⟩) ?_
    refine ar_pure tOk rfl rfl rfl ?_ ?_
    · unfold inI64; omega
    refine ar_pur (w_Walk p (3 - d) (by omega)) rfl rfl rfl rfl rfl rfl rfl ?_
    refine ar_pur (w_Joined _ _ (by rw [hfl, hwl]; omega)) rfl rfl rfl rfl rfl rfl rfl ?_
    refine pA ?_
    refine ar_nil ?_
    refine ag_inBlock ?_
    refine ag_reg ?_
    refine ar_pure tOk rfl rfl rfl ?_ ?_
    · unfold inI64; omega
    refine pA ?_
    refine ar_nil ?_
    refine ag_ent (ent_weak (g' := (stfEn_0 P D W (i + 1)).1) (h' := (stfEn_0 P D W (i + 1)).2) [] rfl rfl rfl rfl ?_ ?_ rfl) ?_
    · exact ⟨⟨rfl, rfl⟩, ⟨rfl, rfl⟩, ⟨rfl, rfl⟩, ⟨rfl, by exact eqI (by omega)⟩, ⟨rfl, by exact eqStr (by rw [take_next hw])⟩, trivial⟩
    · trivial
    have hnx := hrec (i + 1)
    refine hnx ?_ ?_
    · show i + 1 ≤ 15; omega
    · show 15 - (i + 1) < 15 - i; omega
  · intro h11
    obtain rfl : i = 15 := by omega
    refine ag_exit rfl ?_
    refine zB ?_
    iterate 2 refine pA ?_
    refine ar_nil ?_
    refine ag_ret tOk Try.func82 rfl rfl (by simp) ?_
    exact eqStr (by rw [List.take_of_length_le (by omega)])
def stfTx_0 (L : List (List UInt8)) : Nat × List RVal → Regs × Hp := fun ⟨i, acc⟩ => ([(6, roL L), (7, .r (.int .i64 (L.length : Int))), (8, .r (.int .i64 ((i : Int)))), (3, accA acc)], accH acc)
def prfTx_0 (L : List (List UInt8)) : Nat × List RVal → Prop := fun ⟨i, acc⟩ => i ≤ L.length ∧ acc = sL (L.take i)
theorem w_texts (L : List (List UInt8)) (hL : L.length ≤ 1000) (h8 : ∀ p ∈ L, p.length = 8) : Pur Try.prog 75 [roL L] (roS L) := by
  refine spec_of_go (N := 19) Try.func75 rfl (by decide) rfl rfl ?_
  refine zB ?_
  refine pA ?_
  refine zC ?_
  refine pA ?_
  refine zA ?_
  refine zB ?_
  iterate 3 refine pA ?_
  refine ar_nil ?_
  refine ag_block ?_
  refine ag_loopS (stfTx_0 L) (prfTx_0 L) (fun ⟨i, acc⟩ => L.length - i) (0, []) (ent_weak [] rfl rfl rfl rfl ?_ ?_ rfl) (show prfTx_0 L (0, []) from ?_) ?_
  · exact ⟨⟨rfl, rfl⟩, ⟨rfl, rfl⟩, ⟨rfl, rfl⟩, ⟨rfl, rfl⟩, trivial⟩
  · trivial
  · exact ⟨Nat.zero_le _, by rfl⟩
  rintro ⟨i, acc⟩ hp hrec
  cases acc with
  | nil =>
    obtain ⟨hi, hacc⟩ : _ := hp
    refine ag_ent (ent_weak (g' := [(6, roL L), (7, .r (.int .i64 (L.length : Int))), (8, .r (.int .i64 ((i : Int)))), (3, .r .nil)]) (h' := ⟨0, [], false⟩) [] rfl rfl rfl rfl ?_ ?_ rfl) ?_
    · exact ⟨⟨rfl, rfl⟩, ⟨rfl, rfl⟩, ⟨rfl, rfl⟩, ⟨rfl, rfl⟩, trivial⟩
    · trivial
    refine zB ?_
    refine pA ?_
    refine zA ?_
    refine ag_if rfl ?_ ?_
    · intro h9
      obtain ⟨p, hp⟩ := getI (L := L) (i := i) (by omega)
      have hpn : sL (L.take (i + 1)) = sL (L.take i) ++ [.str p] := by rw [List.take_add_one, hp]; simp [sL]
      refine ag_skip ?_
      refine ag_seq ?_
      refine ag_block ?_
      refine zB ?_
      refine ar_pure tOk rfl rfl rfl ?_ ?_
      · refine ⟨?_, ?_⟩ <;> first | omega | exact ne_mp hp | (refine ⟨?_, ?_⟩ <;> omega)
      refine ar_loadAs tOk (.r (.bs p)) rfl rfl rfl rfl rfl rfl rfl (.inl ⟨rfl, by simp [Body.cells, mulz_eq, hp]⟩) ?_
      refine pA ?_
      refine ar_nil ?_
      refine ag_reg ?_
      iterate 3 refine pA ?_
      refine ar_qd rfl (qop_buildRo tOk rfl ?_ rfl) rfl rfl rfl rfl ?_
      · repeat any_goals (first | trivial | decide | omega | (simp; done) | (rw [wu8]; omega) | refine ⟨?_, ?_⟩)
      refine ar_app tOk rfl rfl rfl ?_ ?_
      · refine ⟨⟨?_, ?_, ?_⟩, ⟨?_, ?_⟩, ⟨?_, ?_⟩, ?_⟩ <;> first | trivial | omega | (simp; done) | (simp; omega)
      refine pA ?_
      refine ar_nil ?_
      refine ag_inBlock ?_
      refine ag_reg ?_
      refine ar_pure tOk rfl rfl rfl ?_ ?_
      · unfold inI64; omega
      refine pA ?_
      refine ar_nil ?_
      refine ag_ent (ent_weak (g' := (stfTx_0 L (i + 1, [.str p])).1) (h' := (stfTx_0 L (i + 1, [.str p])).2) [0] rfl rfl rfl rfl ?_ ?_ rfl) ?_
      · exact ⟨⟨rfl, rfl⟩, ⟨rfl, rfl⟩, ⟨rfl, by exact eqI (by omega)⟩, ⟨rfl, rfl⟩, trivial⟩
      · exact ⟨⟨rfl, rfl, rfl⟩, trivial⟩
      have hnx := hrec (i + 1, [.str p])
      refine hnx ?_ ?_
      · exact ⟨by omega, by rw [hpn, ← hacc]; try rfl⟩
      · show L.length - (i + 1) < L.length - i; omega
    · intro h9
      obtain rfl : i = L.length := by omega
      rw [List.take_length] at hacc
      refine ag_exit rfl ?_
      refine zB ?_
      iterate 2 refine pA ?_
      refine ar_nil ?_
      refine ag_ent (ent_nil 2 (.ro 0 []) rfl (.inr rfl)) ?_
      refine ag_ret tOk Try.func75 rfl rfl (by simp) ?_
      show AVal.r (.ro 0 []) = _
      rw [roS, show L = [] from List.map_eq_nil_iff.1 hacc.symm]; rfl
  | cons a l =>
    obtain ⟨hi, hacc⟩ : _ := hp
    refine ag_ent (ent_weak (g' := [(6, roL L), (7, .r (.int .i64 (L.length : Int))), (8, .r (.int .i64 ((i : Int)))), (3, .sl 0 0 (l.length + 1) 1)]) (h' := ⟨1, [(0, some (.plain (a :: l)))], false⟩) [0] rfl rfl rfl rfl ?_ ?_ rfl) ?_
    · exact ⟨⟨rfl, rfl⟩, ⟨rfl, rfl⟩, ⟨rfl, rfl⟩, ⟨rfl, rfl⟩, trivial⟩
    · exact ⟨⟨rfl, rfl, rfl⟩, trivial⟩
    have hln := congrArg List.length hacc
    simp only [sL, List.length_map, List.length_take, List.length_cons] at hln
    refine zB ?_
    refine pA ?_
    refine zA ?_
    refine ag_if rfl ?_ ?_
    · intro h9
      obtain ⟨p, hp⟩ := getI (L := L) (i := i) (by omega)
      have hpn : sL (L.take (i + 1)) = sL (L.take i) ++ [.str p] := by rw [List.take_add_one, hp]; simp [sL]
      refine ag_skip ?_
      refine ag_seq ?_
      refine ag_block ?_
      refine zB ?_
      refine ar_pure tOk rfl rfl rfl ?_ ?_
      · refine ⟨?_, ?_⟩ <;> first | omega | exact ne_mp hp | (refine ⟨?_, ?_⟩ <;> omega)
      refine ar_loadAs tOk (.r (.bs p)) rfl rfl rfl rfl rfl rfl rfl (.inl ⟨rfl, by simp [Body.cells, mulz_eq, hp]⟩) ?_
      refine pA ?_
      refine ar_nil ?_
      refine ag_reg ?_
      iterate 3 refine pA ?_
      refine ar_qd rfl (qop_buildRo tOk rfl ?_ rfl) rfl rfl rfl rfl ?_
      · repeat any_goals (first | trivial | decide | omega | (simp; done) | (rw [wu8]; omega) | refine ⟨?_, ?_⟩)
      refine ar_app tOk rfl rfl rfl ?_ ?_
      · refine ⟨⟨?_, ?_, ?_⟩, ⟨?_, ?_⟩, ⟨?_, ?_⟩, ?_⟩ <;> first | trivial | omega | (simp; done) | (simp; omega)
      refine pA ?_
      refine ar_nil ?_
      refine ag_inBlock ?_
      refine ag_reg ?_
      refine ar_pure tOk rfl rfl rfl ?_ ?_
      · unfold inI64; omega
      refine pA ?_
      refine ar_nil ?_
      refine ag_ent (ent_weak (g' := (stfTx_0 L (i + 1, a :: l ++ [.str p])).1) (h' := (stfTx_0 L (i + 1, a :: l ++ [.str p])).2) [1] rfl rfl rfl rfl ?_ ?_ rfl) ?_
      · exact ⟨⟨rfl, rfl⟩, ⟨rfl, rfl⟩, ⟨rfl, by exact eqI (by omega)⟩, ⟨rfl, by exact eqSl (by simp)⟩, trivial⟩
      · exact ⟨⟨rfl, rfl, by exact eqPl (by simp [cutA_eq])⟩, trivial⟩
      have hnx := hrec (i + 1, a :: l ++ [.str p])
      refine hnx ?_ ?_
      · exact ⟨by omega, by rw [hpn, ← hacc]; try rfl⟩
      · show L.length - (i + 1) < L.length - i; omega
    · intro h9
      obtain rfl : i = L.length := by omega
      rw [List.take_length] at hacc
      refine ag_exit rfl ?_
      refine zB ?_
      iterate 2 refine pA ?_
      refine ar_nil ?_
      refine ag_ent (ent_freeze 2 rfl rfl rfl trivial) ?_
      refine ag_ret tOk Try.func75 rfl rfl (by simp) ?_
      show AVal.r (.ro _ (cutA _ 0 _)) = _
      exact roS_of2 hacc
end Go.Proofs.Ytnodpljgcdkbkaa


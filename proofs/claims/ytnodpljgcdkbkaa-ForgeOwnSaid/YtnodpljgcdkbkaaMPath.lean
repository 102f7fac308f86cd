/-
  WALKS: paths, signatures and their leaves (mss.Path, Sign, Leaf, and the reference's). (Printed by gen.py out of w_mpath.py.)
-/
import Derived.Test.YtnodpljgcdkbkaaMRow
import Derived.Test.YtnodpljgcdkbkaaLOts
namespace Go.Proofs.Ytnodpljgcdkbkaa
open Go
set_option maxRecDepth 20000
set_option linter.unusedVariables false
set_option linter.unusedSimpArgs false
def sibN (m : Nat) : Nat := if m % 2 = 0 then m + 1 else m - 1
theorem sib_xor {m : Nat} (h : m < 8) : ibit .xor .i64 (m : Int) 1 = ((sibN m : Nat) : Int) := by
  have : ∀ n : Fin 8, ibit .xor .i64 ((n.val : Nat) : Int) 1 = ((sibN n.val : Nat) : Int) := by decide +kernel
  exact this ⟨m, h⟩
/-- The other one's place, at a height. -/
def qn (n i : Nat) : Nat := n / 2 ^ i
def pw (i : Nat) : Nat := 2 ^ i
def pat (n i : Nat) : Nat := sibN (qn n i)
def pthE (seed : List UInt8) (n i : Nat) : List UInt8 := (lev seed i).getD (pat n i) []
def pthL (seed : List UInt8) (n k : Nat) : List (List UInt8) := (List.range k).map (pthE seed n)
theorem pthL_next (seed : List UInt8) (n i : Nat) : sL (pthL seed n (i + 1)) = sL (pthL seed n i) ++ [.str (pthE seed n i)] := by simp [pthL, sL, List.range_succ]
theorem pthL_length (seed : List UInt8) (n k : Nat) : (pthL seed n k).length = k := by simp [pthL]
theorem div_lt {n i : Nat} (hn : n < 8) (hi : i < 3) : pat n i < 8 / 2 ^ i ∧ qn n i < 8 := by
  have : ∀ (a : Fin 8) (b : Fin 3), pat a.val b.val < 8 / 2 ^ b.val ∧ qn a.val b.val < 8 := by decide +kernel
  exact this ⟨n, hn⟩ ⟨i, hi⟩
theorem qn_next (n i : Nat) : qn n (i + 1) = qn n i / 2 := by rw [qn, qn, Nat.pow_succ, Nat.div_div_eq_div_mul]
theorem qn_0 (n : Nat) : qn n 0 = n := by simp [qn]
theorem qn_div (n i : Nat) : (n : Int).tdiv ((pw i : Nat) : Int) = ((qn n i : Nat) : Int) := by rw [tdiv_nn (by omega)]; simp [qn, pw]
theorem pw_next (i : Nat) : pw (i + 1) = 2 * pw i := by rw [pw, pw, Nat.pow_succ, Nat.mul_comm]
theorem lev_len3 (seed : List UInt8) {i : Nat} (hi : i ≤ 3) : (((lev seed i).length : Nat) : Int) > 1 ↔ i < 3 := by
  rw [lev_length]
  have : ∀ b : Fin 4, (((8 / 2 ^ b.val : Nat) : Int) > 1 ↔ b.val < 3) := by decide +kernel
  exact this ⟨i, by omega⟩
theorem pow_lt3 {i : Nat} (hi : i ≤ 3) : (((pw i : Nat) : Int) < 8 ↔ i < 3) ∧ 1 ≤ pw i ∧ pw i ≤ 8 := by
  have : ∀ b : Fin 4, (((pw b.val : Nat) : Int) < 8 ↔ b.val < 3) ∧ 1 ≤ pw b.val ∧ pw b.val ≤ 8 := by decide +kernel
  exact this ⟨i, by omega⟩
def ppw (n i : Nat) : Nat := pat n i * pw i
theorem rr_fact {n i : Nat} (hn : n < 8) (hi : i < 3) : ppw n i ≤ 7 ∧ pat n i ≤ 8 := by
  have : ∀ (a : Fin 8) (b : Fin 3), ppw a.val b.val ≤ 7 ∧ pat a.val b.val ≤ 8 := by decide +kernel
  exact this ⟨n, hn⟩ ⟨i, hi⟩
theorem w_rrowE (seed : List UInt8) (hs : seed.length ≤ 140737488352000) {n i : Nat} (hn : n < 8) (hi : i < 3) : Pur Try.prog 130 [.r (.str seed), .r (.int .i64 ((ppw n i : Nat) : Int)), .r (.int .i64 ((pw i : Nat) : Int))] (.r (.str (pthE seed n i))) := by
  have hf := rr_fact hn hi
  have e1 : ((pw i : Nat) : Int) = 2 ^ i := by simp [pw]
  have hp := (pow_lt3 (i := i) (by omega)).2
  have h1 := w_rrow seed hs i ((ppw n i : Nat) : Int) (by omega) ⟨by omega, by rw [← e1]; omega⟩
  rw [pthE, lev_row seed i (pat n i) (div_lt hn hi).1]
  have e2 : ((ppw n i : Nat) : Int) = (pat n i : Int) * 2 ^ i := by simp [ppw, pw]
  rw [e2] at h1 ⊢
  rw [e1]
  exact h1
theorem pthE_8 (seed : List UInt8) {n i : Nat} (hn : n < 8) (hi : i < 3) : (pthE seed n i).length = 8 :=
  lev_8 seed i _ (List.mem_of_getElem? (lev_get seed (k := i) (j := pat n i) (div_lt hn hi).1))
theorem pthL_8 (seed : List UInt8) {n : Nat} (hn : n < 8) : ∀ p ∈ pthL seed n 3, p.length = 8 := by
  intro p hp
  simp only [pthL, List.mem_map, List.mem_range] at hp
  obtain ⟨j, hj, rfl⟩ := hp
  exact pthE_8 seed hn hj
def stmPt_0 (seed : List UInt8) (n : Nat) : Nat × List RVal → Regs × Hp := fun ⟨i, acc⟩ => ([(6, roS (lev seed i)), (1, .r (.int .i64 (((qn n i : Nat) : Int)))), (5, accA acc)], accH acc)
def prmPt_0 (seed : List UInt8) (n : Nat) : Nat × List RVal → Prop := fun ⟨i, acc⟩ => i ≤ 3 ∧ acc = sL (pthL seed n i)
theorem w_PathIn (seed : List UInt8) (hs : seed.length ≤ 140737488352000) (n : Nat) (hn : n < 8) : Own Try.prog 74 [.r (.str seed), .r (.int .i64 (n : Int))] 3 1 (.plain (sL (pthL seed n 3))) := by
  refine spec_of_go (N := 31) Try.func74 rfl (by decide) rfl rfl ?_
  refine zB ?_
  refine pA ?_
  refine zA ?_
  refine zB ?_
  iterate 3 refine pA ?_
  refine ar_ent (ent_reg 9 (.r (.bool false)) (by show AVal.r (.bool _) = _; exact eqB (decide_eq_false (by omega)))) ?_
  iterate 2 refine pA ?_
  refine ar_ent (ent_reg 11 (.r (.bool false)) (by show AVal.r (.bool _) = _; exact eqB (decide_eq_false (by omega)))) ?_
  refine pA ?_
  refine ar_nil ?_
  refine ag_false rfl (rfl) ?_
  refine ag_skip ?_
  refine zB ?_
  refine pA ?_
  refine zA ?_
  refine zB ?_
  refine pA ?_
  refine ar_pur (w_rowR seed hs) rfl rfl rfl rfl rfl rfl rfl ?_
  refine pA ?_
  refine ar_nil ?_
  refine ag_block ?_
  refine ag_loopS (stmPt_0 seed n) (prmPt_0 seed n) (fun ⟨i, acc⟩ => 3 - i) (0, []) (ent_weak [] rfl rfl rfl rfl ?_ ?_ rfl) (show prmPt_0 seed n (0, []) from ?_) ?_
  · exact ⟨⟨rfl, rfl⟩, ⟨rfl, by exact eqI (by rw [qn_0])⟩, ⟨rfl, rfl⟩, trivial⟩
  · trivial
  · exact ⟨Nat.zero_le _, by rfl⟩
  rintro ⟨i, acc⟩ hp hrec
  cases acc with
  | nil =>
    obtain ⟨hi, hacc⟩ : _ := hp
    refine ag_ent (ent_weak (g' := [(6, roS (lev seed i)), (1, .r (.int .i64 (((qn n i : Nat) : Int)))), (5, .r .nil)]) (h' := ⟨0, [], false⟩) [] rfl rfl rfl rfl ?_ ?_ rfl) ?_
    · exact ⟨⟨rfl, rfl⟩, ⟨rfl, rfl⟩, ⟨rfl, rfl⟩, trivial⟩
    · trivial
    refine ag_seq ?_
    refine zB ?_
    iterate 3 refine pA ?_
    refine ar_nil ?_
    refine ag_if rfl ?_ ?_
    · intro h17
      have hlt : i < 3 := (lev_len3 seed hi).1 h17
      obtain ⟨hd2, hd3⟩ := div_lt hn hlt
      have hlv := lev_length seed i
      have hg := lev_get seed (k := i) (j := pat n i) hd2
      refine ag_skip ?_
      refine ag_seq ?_
      refine ag_block ?_
      refine zB ?_
      iterate 4 refine pA ?_
      refine ar_ent (ent_reg 23 (.r (.int .i64 (((pat n i : Nat) : Int)))) (by show AVal.r (.int _ _) = _; exact eqI (sib_xor hd3))) ?_
      refine ar_pure tOk rfl rfl rfl ?_ ?_
      · refine ⟨?_, ?_⟩ <;> first | exact ne_mp hg | (refine ⟨?_, ?_⟩ <;> omega)
      refine ar_loadAs tOk (.r (.str (pthE seed n i))) rfl rfl rfl rfl rfl rfl rfl (.inl ⟨rfl, by simp only [Body.cells, mulz_eq, sL, Int.toNat_natCast, Nat.mul_one, List.getElem?_map, hg]; rfl⟩) ?_
      refine ar_qd rfl (qop_buildRo tOk rfl ?_ rfl) rfl rfl rfl rfl ?_
      · repeat any_goals (first | trivial | decide | omega | (simp; done) | (rw [wu8]; omega) | refine ⟨?_, ?_⟩)
      refine ar_app tOk rfl rfl rfl ?_ ?_
      · refine ⟨⟨?_, ?_, ?_⟩, ⟨?_, ?_⟩, ⟨?_, ?_⟩, ?_⟩ <;> first | trivial | omega | (simp; done) | (simp; omega)
      refine pA ?_
      refine ar_nil ?_
      refine ag_reg ?_
      refine pA ?_
      refine ar_pure tOk rfl rfl rfl ?_ ?_
      · decide
      refine ar_ent (ent_reg 29 (.r (.int .i64 (((qn n (i + 1) : Nat) : Int)))) (by show AVal.r (.int _ _) = _; exact eqI (by rw [qn_next, Int.fdiv_eq_ediv_of_nonneg _ (by decide)]; show ((qn n i : Nat) : Int) / 2 = _; omega))) ?_
      refine pA ?_
      refine ar_nil ?_
      refine ag_inBlock ?_
      refine ag_reg ?_
      refine pA ?_
      refine ar_pur (w_aboveR seed i (by omega)) rfl rfl rfl rfl rfl rfl rfl ?_
      refine pA ?_
      refine ar_nil ?_
      refine ag_ent (ent_weak (g' := (stmPt_0 seed n (i + 1, [.str (pthE seed n i)])).1) (h' := (stmPt_0 seed n (i + 1, [.str (pthE seed n i)])).2) [0] rfl rfl rfl rfl ?_ ?_ rfl) ?_
      · exact ⟨⟨rfl, rfl⟩, ⟨rfl, by rfl⟩, ⟨rfl, rfl⟩, trivial⟩
      · exact ⟨⟨rfl, rfl, rfl⟩, trivial⟩
      have hnx := hrec (i + 1, [.str (pthE seed n i)])
      refine hnx ?_ ?_
      · exact ⟨by omega, by rw [pthL_next, ← hacc]; try rfl⟩
      · show 3 - (i + 1) < 3 - i; omega
    · intro h17
      obtain rfl : i = 3 := by have := (lev_len3 seed hi).2; omega
      refine ag_exit rfl ?_
      refine zB ?_
      iterate 2 refine pA ?_
      refine ar_nil ?_
      exfalso
      have := congrArg List.length hacc
      simp [sL, pthL_length] at this
  | cons a l =>
    obtain ⟨hi, hacc⟩ : _ := hp
    refine ag_ent (ent_weak (g' := [(6, roS (lev seed i)), (1, .r (.int .i64 (((qn n i : Nat) : Int)))), (5, .sl 0 0 (l.length + 1) 1)]) (h' := ⟨1, [(0, some (.plain (a :: l)))], false⟩) [0] rfl rfl rfl rfl ?_ ?_ rfl) ?_
    · exact ⟨⟨rfl, rfl⟩, ⟨rfl, rfl⟩, ⟨rfl, rfl⟩, trivial⟩
    · exact ⟨⟨rfl, rfl, rfl⟩, trivial⟩
    have hln := congrArg List.length hacc
    simp only [sL, List.length_map, pthL_length, List.length_cons] at hln
    refine ag_seq ?_
    refine zB ?_
    iterate 3 refine pA ?_
    refine ar_nil ?_
    refine ag_if rfl ?_ ?_
    · intro h17
      have hlt : i < 3 := (lev_len3 seed hi).1 h17
      obtain ⟨hd2, hd3⟩ := div_lt hn hlt
      have hlv := lev_length seed i
      have hg := lev_get seed (k := i) (j := pat n i) hd2
      refine ag_skip ?_
      refine ag_seq ?_
      refine ag_block ?_
      refine zB ?_
      iterate 4 refine pA ?_
      refine ar_ent (ent_reg 23 (.r (.int .i64 (((pat n i : Nat) : Int)))) (by show AVal.r (.int _ _) = _; exact eqI (sib_xor hd3))) ?_
      refine ar_pure tOk rfl rfl rfl ?_ ?_
      · refine ⟨?_, ?_⟩ <;> first | exact ne_mp hg | (refine ⟨?_, ?_⟩ <;> omega)
      refine ar_loadAs tOk (.r (.str (pthE seed n i))) rfl rfl rfl rfl rfl rfl rfl (.inl ⟨rfl, by simp only [Body.cells, mulz_eq, sL, Int.toNat_natCast, Nat.mul_one, List.getElem?_map, hg]; rfl⟩) ?_
      refine ar_qd rfl (qop_buildRo tOk rfl ?_ rfl) rfl rfl rfl rfl ?_
      · repeat any_goals (first | trivial | decide | omega | (simp; done) | (rw [wu8]; omega) | refine ⟨?_, ?_⟩)
      refine ar_app tOk rfl rfl rfl ?_ ?_
      · refine ⟨⟨?_, ?_, ?_⟩, ⟨?_, ?_⟩, ⟨?_, ?_⟩, ?_⟩ <;> first | trivial | omega | (simp; done) | (simp; omega)
      refine pA ?_
      refine ar_nil ?_
      refine ag_reg ?_
      refine pA ?_
      refine ar_pure tOk rfl rfl rfl ?_ ?_
      · decide
      refine ar_ent (ent_reg 29 (.r (.int .i64 (((qn n (i + 1) : Nat) : Int)))) (by show AVal.r (.int _ _) = _; exact eqI (by rw [qn_next, Int.fdiv_eq_ediv_of_nonneg _ (by decide)]; show ((qn n i : Nat) : Int) / 2 = _; omega))) ?_
      refine pA ?_
      refine ar_nil ?_
      refine ag_inBlock ?_
      refine ag_reg ?_
      refine pA ?_
      refine ar_pur (w_aboveR seed i (by omega)) rfl rfl rfl rfl rfl rfl rfl ?_
      refine pA ?_
      refine ar_nil ?_
      refine ag_ent (ent_weak (g' := (stmPt_0 seed n (i + 1, a :: l ++ [.str (pthE seed n i)])).1) (h' := (stmPt_0 seed n (i + 1, a :: l ++ [.str (pthE seed n i)])).2) [1] rfl rfl rfl rfl ?_ ?_ rfl) ?_
      · exact ⟨⟨rfl, rfl⟩, ⟨rfl, by rfl⟩, ⟨rfl, by exact eqSl (by simp)⟩, trivial⟩
      · exact ⟨⟨rfl, rfl, by exact eqPl (by simp [cutA_eq])⟩, trivial⟩
      have hnx := hrec (i + 1, a :: l ++ [.str (pthE seed n i)])
      refine hnx ?_ ?_
      · exact ⟨by omega, by rw [pthL_next, ← hacc]; try rfl⟩
      · show 3 - (i + 1) < 3 - i; omega
    · intro h17
      obtain rfl : i = 3 := by have := (lev_len3 seed hi).2; omega
      refine ag_exit rfl ?_
      refine zB ?_
      iterate 2 refine pA ?_
      refine ar_nil ?_
      refine ag_ret tOk Try.func74 rfl rfl (by simp) ?_
      refine ⟨0, eqSl hln, ?_⟩
      rw [← hacc]; rfl
def strPt_0 (seed : List UInt8) (n : Nat) : Nat × List RVal → Regs × Hp := fun ⟨i, acc⟩ => ([(0, .r (.str seed)), (1, .r (.int .i64 (n : Int))), (6, .r (.int .i64 (((pw i : Nat) : Int)))), (5, accA acc)], accH acc)
def prrPt_0 (seed : List UInt8) (n : Nat) : Nat × List RVal → Prop := fun ⟨i, acc⟩ => i ≤ 3 ∧ acc = sL (pthL seed n i)
theorem w_rPathIn (seed : List UInt8) (hs : seed.length ≤ 140737488352000) (n : Nat) (hn : n < 8) : Own Try.prog 84 [.r (.str seed), .r (.int .i64 (n : Int))] 3 1 (.plain (sL (pthL seed n 3))) := by
  refine spec_of_go (N := 39) Try.func84 rfl (by decide) rfl rfl ?_
  refine zB ?_
  refine pA ?_
  refine zC ?_
  refine pA ?_
  refine zA ?_
  refine zB ?_
  iterate 3 refine pA ?_
  refine ar_ent (ent_reg 11 (.r (.bool false)) (by show AVal.r (.bool _) = _; exact eqB (decide_eq_false (by omega)))) ?_
  iterate 2 refine pA ?_
  refine ar_ent (ent_reg 13 (.r (.bool false)) (by show AVal.r (.bool _) = _; exact eqB (decide_eq_false (by omega)))) ?_
  refine pA ?_
  refine ar_nil ?_
  refine ag_false rfl (rfl) ?_
  refine ag_skip ?_
  refine ag_seq ?_
  refine zB ?_
  refine pA ?_
  refine ar_nil ?_
  refine ag_block ?_
  refine ag_loopS (strPt_0 seed n) (prrPt_0 seed n) (fun ⟨i, acc⟩ => 3 - i) (0, []) (ent_weak [] rfl rfl rfl rfl ?_ ?_ rfl) (show prrPt_0 seed n (0, []) from ?_) ?_
  · exact ⟨⟨rfl, rfl⟩, ⟨rfl, rfl⟩, ⟨rfl, by exact eqI (by decide)⟩, ⟨rfl, rfl⟩, trivial⟩
  · trivial
  · exact ⟨Nat.zero_le _, by rfl⟩
  rintro ⟨i, acc⟩ hp hrec
  cases acc with
  | nil =>
    obtain ⟨hi, hacc⟩ : _ := hp
    refine ag_ent (ent_weak (g' := [(0, .r (.str seed)), (1, .r (.int .i64 (n : Int))), (6, .r (.int .i64 (((pw i : Nat) : Int)))), (5, .r .nil)]) (h' := ⟨0, [], false⟩) [] rfl rfl rfl rfl ?_ ?_ rfl) ?_
    · exact ⟨⟨rfl, rfl⟩, ⟨rfl, rfl⟩, ⟨rfl, rfl⟩, ⟨rfl, rfl⟩, trivial⟩
    · trivial
    refine ag_seq ?_
    refine zB ?_
    iterate 2 refine pA ?_
    refine ar_nil ?_
    refine ag_if rfl ?_ ?_
    · intro h16
      have hlt : i < 3 := (pow_lt3 hi).1.1 h16
      obtain ⟨hd2, hd3⟩ := div_lt hn hlt
      obtain ⟨-, hp1, hp2⟩ := pow_lt3 hi
      have hmm := rr_fact hn hlt
      have hR := w_rrowE seed hs hn hlt
      refine ag_skip ?_
      refine ag_seq ?_
      refine ag_block ?_
      refine zB ?_
      iterate 2 refine pA ?_
      refine ar_pure tOk rfl rfl rfl ?_ ?_
      · refine ⟨?_, by omega⟩
        show inI64 (Int.tdiv _ _)
        rw [qn_div]; unfold inI64; omega
      refine ar_ent (ent_reg 21 (.r (.int .i64 (((qn n i : Nat) : Int)))) (by show AVal.r (.int _ _) = _; exact eqI (qn_div n i))) ?_
      refine pA ?_
      refine zC ?_
      refine pA ?_
      refine ar_pure tOk rfl rfl rfl ?_ ?_
      · unfold inI64; omega
      refine pA ?_
      refine zA ?_
      refine zB ?_
      refine pA ?_
      refine ar_pure tOk rfl rfl rfl ?_ ?_
      · decide
      refine ar_ent (ent_reg 25 (.r (.int .i64 (((qn n i % 2 : Nat) : Int)))) (by show AVal.r (.int _ _) = _; exact eqI (by rw [tmod_nn (by omega)]; omega))) ?_
      refine pA ?_
      refine ar_nil ?_
      refine ag_if rfl ?_ ?_
      · intro h26
        have hsb : ((qn n i : Nat) : Int) - 1 = ((pat n i : Nat) : Int) := by unfold pat sibN; rw [if_neg (by omega)]; omega
        refine ag_reg ?_
        refine pA ?_
        refine ar_pure tOk rfl rfl rfl ?_ ?_
        · unfold inI64; omega
        refine pA ?_
        refine ar_nil ?_
        refine ag_ent (ent_reg 8 (.r (.int .i64 ((pat n i : Nat) : Int))) (by show AVal.r (.int _ _) = _; exact eqI hsb)) ?_
        refine ag_reg ?_
        iterate 4 refine pA ?_
        refine ar_pure tOk rfl rfl rfl ?_ ?_
        · show inI64 _
          rw [show ((pat n i : Nat) : Int) * ((pw i : Nat) : Int) = ((ppw n i : Nat) : Int) by simp [ppw]]; unfold inI64; omega
        refine ar_ent (ent_reg 33 (.r (.int .i64 (((ppw n i : Nat) : Int)))) (by show AVal.r (.int _ _) = _; exact eqI (by simp [ppw]))) ?_
        refine pA ?_
        refine ar_pur (hR) rfl rfl rfl rfl rfl rfl rfl ?_
        refine ar_qd rfl (qop_buildRo tOk rfl ?_ rfl) rfl rfl rfl rfl ?_
        · repeat any_goals (first | trivial | decide | omega | (simp; done) | (rw [wu8]; omega) | refine ⟨?_, ?_⟩)
        refine ar_app tOk rfl rfl rfl ?_ ?_
        · refine ⟨⟨?_, ?_, ?_⟩, ⟨?_, ?_⟩, ⟨?_, ?_⟩, ?_⟩ <;> first | trivial | omega | (simp; done) | (simp; omega)
        refine pA ?_
        refine ar_nil ?_
        refine ag_inBlock ?_
        refine ag_reg ?_
        refine pA ?_
        refine ar_pure tOk rfl rfl rfl ?_ ?_
        · unfold inI64; omega
        refine pA ?_
        refine ar_nil ?_
        refine ag_ent (ent_weak (g' := (strPt_0 seed n (i + 1, [.str (pthE seed n i)])).1) (h' := (strPt_0 seed n (i + 1, [.str (pthE seed n i)])).2) [0] rfl rfl rfl rfl ?_ ?_ rfl) ?_
        · exact ⟨⟨rfl, rfl⟩, ⟨rfl, rfl⟩, ⟨rfl, by exact eqI (by rw [pw_next]; omega)⟩, ⟨rfl, rfl⟩, trivial⟩
        · exact ⟨⟨rfl, rfl, rfl⟩, trivial⟩
        have hnx := hrec (i + 1, [.str (pthE seed n i)])
        refine hnx ?_ ?_
        · exact ⟨by omega, by rw [pthL_next, ← hacc]; try rfl⟩
        · show 3 - (i + 1) < 3 - i; omega
      · intro h26
        have hsb : ((qn n i : Nat) : Int) + 1 = ((pat n i : Nat) : Int) := by unfold pat sibN; rw [if_pos (by omega)]; omega
        refine ag_skip ?_
        refine ag_ent (ent_reg 8 (.r (.int .i64 ((pat n i : Nat) : Int))) (by show AVal.r (.int _ _) = _; exact eqI hsb)) ?_
        refine ag_reg ?_
        iterate 4 refine pA ?_
        refine ar_pure tOk rfl rfl rfl ?_ ?_
        · show inI64 _
          rw [show ((pat n i : Nat) : Int) * ((pw i : Nat) : Int) = ((ppw n i : Nat) : Int) by simp [ppw]]; unfold inI64; omega
        refine ar_ent (ent_reg 33 (.r (.int .i64 (((ppw n i : Nat) : Int)))) (by show AVal.r (.int _ _) = _; exact eqI (by simp [ppw]))) ?_
        refine pA ?_
        refine ar_pur (hR) rfl rfl rfl rfl rfl rfl rfl ?_
        refine ar_qd rfl (qop_buildRo tOk rfl ?_ rfl) rfl rfl rfl rfl ?_
        · repeat any_goals (first | trivial | decide | omega | (simp; done) | (rw [wu8]; omega) | refine ⟨?_, ?_⟩)
        refine ar_app tOk rfl rfl rfl ?_ ?_
        · refine ⟨⟨?_, ?_, ?_⟩, ⟨?_, ?_⟩, ⟨?_, ?_⟩, ?_⟩ <;> first | trivial | omega | (simp; done) | (simp; omega)
        refine pA ?_
        refine ar_nil ?_
        refine ag_inBlock ?_
        refine ag_reg ?_
        refine pA ?_
        refine ar_pure tOk rfl rfl rfl ?_ ?_
        · unfold inI64; omega
        refine pA ?_
        refine ar_nil ?_
        refine ag_ent (ent_weak (g' := (strPt_0 seed n (i + 1, [.str (pthE seed n i)])).1) (h' := (strPt_0 seed n (i + 1, [.str (pthE seed n i)])).2) [0] rfl rfl rfl rfl ?_ ?_ rfl) ?_
        · exact ⟨⟨rfl, rfl⟩, ⟨rfl, rfl⟩, ⟨rfl, by exact eqI (by rw [pw_next]; omega)⟩, ⟨rfl, rfl⟩, trivial⟩
        · exact ⟨⟨rfl, rfl, rfl⟩, trivial⟩
        have hnx := hrec (i + 1, [.str (pthE seed n i)])
        refine hnx ?_ ?_
        · exact ⟨by omega, by rw [pthL_next, ← hacc]; try rfl⟩
        · show 3 - (i + 1) < 3 - i; omega
    · intro h16
      obtain rfl : i = 3 := by have := (pow_lt3 hi).1.2; omega
      refine ag_exit rfl ?_
      refine zB ?_
      iterate 2 refine pA ?_
      refine ar_nil ?_
      exfalso
      have := congrArg List.length hacc
      simp [sL, pthL_length] at this
  | cons a l =>
    obtain ⟨hi, hacc⟩ : _ := hp
    refine ag_ent (ent_weak (g' := [(0, .r (.str seed)), (1, .r (.int .i64 (n : Int))), (6, .r (.int .i64 (((pw i : Nat) : Int)))), (5, .sl 0 0 (l.length + 1) 1)]) (h' := ⟨1, [(0, some (.plain (a :: l)))], false⟩) [0] rfl rfl rfl rfl ?_ ?_ rfl) ?_
    · exact ⟨⟨rfl, rfl⟩, ⟨rfl, rfl⟩, ⟨rfl, rfl⟩, ⟨rfl, rfl⟩, trivial⟩
    · exact ⟨⟨rfl, rfl, rfl⟩, trivial⟩
    have hln := congrArg List.length hacc
    simp only [sL, List.length_map, pthL_length, List.length_cons] at hln
    refine ag_seq ?_
    refine zB ?_
    iterate 2 refine pA ?_
    refine ar_nil ?_
    refine ag_if rfl ?_ ?_
    · intro h16
      have hlt : i < 3 := (pow_lt3 hi).1.1 h16
      obtain ⟨hd2, hd3⟩ := div_lt hn hlt
      obtain ⟨-, hp1, hp2⟩ := pow_lt3 hi
      have hmm := rr_fact hn hlt
      have hR := w_rrowE seed hs hn hlt
      refine ag_skip ?_
      refine ag_seq ?_
      refine ag_block ?_
      refine zB ?_
      iterate 2 refine pA ?_
      refine ar_pure tOk rfl rfl rfl ?_ ?_
      · refine ⟨?_, by omega⟩
        show inI64 (Int.tdiv _ _)
        rw [qn_div]; unfold inI64; omega
      refine ar_ent (ent_reg 21 (.r (.int .i64 (((qn n i : Nat) : Int)))) (by show AVal.r (.int _ _) = _; exact eqI (qn_div n i))) ?_
      refine pA ?_
      refine zC ?_
      refine pA ?_
      refine ar_pure tOk rfl rfl rfl ?_ ?_
      · unfold inI64; omega
      refine pA ?_
      refine zA ?_
      refine zB ?_
      refine pA ?_
      refine ar_pure tOk rfl rfl rfl ?_ ?_
      · decide
      refine ar_ent (ent_reg 25 (.r (.int .i64 (((qn n i % 2 : Nat) : Int)))) (by show AVal.r (.int _ _) = _; exact eqI (by rw [tmod_nn (by omega)]; omega))) ?_
      refine pA ?_
      refine ar_nil ?_
      refine ag_if rfl ?_ ?_
      · intro h26
        have hsb : ((qn n i : Nat) : Int) - 1 = ((pat n i : Nat) : Int) := by unfold pat sibN; rw [if_neg (by omega)]; omega
        refine ag_reg ?_
        refine pA ?_
        refine ar_pure tOk rfl rfl rfl ?_ ?_
        · unfold inI64; omega
        refine pA ?_
        refine ar_nil ?_
        refine ag_ent (ent_reg 8 (.r (.int .i64 ((pat n i : Nat) : Int))) (by show AVal.r (.int _ _) = _; exact eqI hsb)) ?_
        refine ag_reg ?_
        iterate 4 refine pA ?_
        refine ar_pure tOk rfl rfl rfl ?_ ?_
        · show inI64 _
          rw [show ((pat n i : Nat) : Int) * ((pw i : Nat) : Int) = ((ppw n i : Nat) : Int) by simp [ppw]]; unfold inI64; omega
        refine ar_ent (ent_reg 33 (.r (.int .i64 (((ppw n i : Nat) : Int)))) (by show AVal.r (.int _ _) = _; exact eqI (by simp [ppw]))) ?_
        refine pA ?_
        refine ar_pur (hR) rfl rfl rfl rfl rfl rfl rfl ?_
        refine ar_qd rfl (qop_buildRo tOk rfl ?_ rfl) rfl rfl rfl rfl ?_
        · repeat any_goals (first | trivial | decide | omega | (simp; done) | (rw [wu8]; omega) | refine ⟨?_, ?_⟩)
        refine ar_app tOk rfl rfl rfl ?_ ?_
        · refine ⟨⟨?_, ?_, ?_⟩, ⟨?_, ?_⟩, ⟨?_, ?_⟩, ?_⟩ <;> first | trivial | omega | (simp; done) | (simp; omega)
        refine pA ?_
        refine ar_nil ?_
        refine ag_inBlock ?_
        refine ag_reg ?_
        refine pA ?_
        refine ar_pure tOk rfl rfl rfl ?_ ?_
        · unfold inI64; omega
        refine pA ?_
        refine ar_nil ?_
        refine ag_ent (ent_weak (g' := (strPt_0 seed n (i + 1, a :: l ++ [.str (pthE seed n i)])).1) (h' := (strPt_0 seed n (i + 1, a :: l ++ [.str (pthE seed n i)])).2) [1] rfl rfl rfl rfl ?_ ?_ rfl) ?_
        · exact ⟨⟨rfl, rfl⟩, ⟨rfl, rfl⟩, ⟨rfl, by exact eqI (by rw [pw_next]; omega)⟩, ⟨rfl, by exact eqSl (by simp)⟩, trivial⟩
        · exact ⟨⟨rfl, rfl, by exact eqPl (by simp [cutA_eq])⟩, trivial⟩
        have hnx := hrec (i + 1, a :: l ++ [.str (pthE seed n i)])
        refine hnx ?_ ?_
        · exact ⟨by omega, by rw [pthL_next, ← hacc]; try rfl⟩
        · show 3 - (i + 1) < 3 - i; omega
      · intro h26
        have hsb : ((qn n i : Nat) : Int) + 1 = ((pat n i : Nat) : Int) := by unfold pat sibN; rw [if_pos (by omega)]; omega
        refine ag_skip ?_
        refine ag_ent (ent_reg 8 (.r (.int .i64 ((pat n i : Nat) : Int))) (by show AVal.r (.int _ _) = _; exact eqI hsb)) ?_
        refine ag_reg ?_
        iterate 4 refine pA ?_
        refine ar_pure tOk rfl rfl rfl ?_ ?_
        · show inI64 _
          rw [show ((pat n i : Nat) : Int) * ((pw i : Nat) : Int) = ((ppw n i : Nat) : Int) by simp [ppw]]; unfold inI64; omega
        refine ar_ent (ent_reg 33 (.r (.int .i64 (((ppw n i : Nat) : Int)))) (by show AVal.r (.int _ _) = _; exact eqI (by simp [ppw]))) ?_
        refine pA ?_
        refine ar_pur (hR) rfl rfl rfl rfl rfl rfl rfl ?_
        refine ar_qd rfl (qop_buildRo tOk rfl ?_ rfl) rfl rfl rfl rfl ?_
        · repeat any_goals (first | trivial | decide | omega | (simp; done) | (rw [wu8]; omega) | refine ⟨?_, ?_⟩)
        refine ar_app tOk rfl rfl rfl ?_ ?_
        · refine ⟨⟨?_, ?_, ?_⟩, ⟨?_, ?_⟩, ⟨?_, ?_⟩, ?_⟩ <;> first | trivial | omega | (simp; done) | (simp; omega)
        refine pA ?_
        refine ar_nil ?_
        refine ag_inBlock ?_
        refine ag_reg ?_
        refine pA ?_
        refine ar_pure tOk rfl rfl rfl ?_ ?_
        · unfold inI64; omega
        refine pA ?_
        refine ar_nil ?_
        refine ag_ent (ent_weak (g' := (strPt_0 seed n (i + 1, a :: l ++ [.str (pthE seed n i)])).1) (h' := (strPt_0 seed n (i + 1, a :: l ++ [.str (pthE seed n i)])).2) [1] rfl rfl rfl rfl ?_ ?_ rfl) ?_
        · exact ⟨⟨rfl, rfl⟩, ⟨rfl, rfl⟩, ⟨rfl, by exact eqI (by rw [pw_next]; omega)⟩, ⟨rfl, by exact eqSl (by simp)⟩, trivial⟩
        · exact ⟨⟨rfl, rfl, by exact eqPl (by simp [cutA_eq])⟩, trivial⟩
        have hnx := hrec (i + 1, a :: l ++ [.str (pthE seed n i)])
        refine hnx ?_ ?_
        · exact ⟨by omega, by rw [pthL_next, ← hacc]; try rfl⟩
        · show 3 - (i + 1) < 3 - i; omega
    · intro h16
      obtain rfl : i = 3 := by have := (pow_lt3 hi).1.2; omega
      refine ag_exit rfl ?_
      refine zB ?_
      iterate 2 refine pA ?_
      refine ar_nil ?_
      refine ag_ret tOk Try.func84 rfl rfl (by simp) ?_
      refine ⟨0, eqSl hln, ?_⟩
      rw [← hacc]; rfl
end Go.Proofs.Ytnodpljgcdkbkaa


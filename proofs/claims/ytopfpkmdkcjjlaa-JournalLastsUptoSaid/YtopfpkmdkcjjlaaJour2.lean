/-
  WALKS: all records of octets (journal.Split, the law's split), lists held against each other. (Printed by gen.py out of w_jour2.py.)
-/
import Derived.Test.YtopfpkmdkcjjlaaJour
namespace Go.Proofs.Ytopfpkmdkcjjlaa
open Go
set_option maxRecDepth 20000
set_option linter.unusedVariables false
set_option linter.unusedSimpArgs false

def bL' (l : List (List UInt8)) : List RVal := l.map .bs
theorem nx_rest {b x r : List UInt8} (h : nx b = some (x, r)) : x.length + 6 + r.length = b.length ∧ r = b.drop (6 + nxN b) ∧ x = (b.drop 6).take (nxN b) ∧ nxN b ≤ 1024 ∧ nxN b + 6 ≤ b.length := by
  unfold nx at h
  split at h
  · rename_i q
    simp only [Option.some.injEq, Prod.mk.injEq] at h
    obtain ⟨rfl, rfl⟩ := h
    rw [List.length_take, List.length_drop, List.length_drop]
    exact ⟨by omega, rfl, rfl, by omega, by omega⟩
  · cases h
theorem spl_len (b : List UInt8) : (splL b).1.length * 6 + (splL b).2.length ≤ b.length := by
  generalize hn : b.length = n
  induction n using Nat.strongRecOn generalizing b with
  | _ n ih =>
    cases h : nx b with
    | none => rw [spl_none h]; simp; omega
    | some q =>
      obtain ⟨x, r⟩ := q
      have hr := (nx_rest h).1
      have := ih r.length (by omega) r rfl
      rw [spl_some h]
      simp only [List.length_cons]
      omega
theorem nx_short {b : List UInt8} (h : b.length < 6) : nx b = none := by unfold nx; rw [if_neg (by omega)]
theorem nx_case {r : List UInt8} (h6 : 6 ≤ r.length) : (nxN r > 1024 ∧ nx r = none) ∨ (nxN r ≤ 1024 ∧ nxN r + 6 > r.length ∧ nx r = none) ∨ (nxN r ≤ 1024 ∧ nxN r + 6 ≤ r.length ∧ (sha ((r.drop 6).take (nxN r))).take 4 ≠ (r.drop 2).take 4 ∧ nx r = none) ∨
    (nxN r ≤ 1024 ∧ nxN r + 6 ≤ r.length ∧ (sha ((r.drop 6).take (nxN r))).take 4 = (r.drop 2).take 4 ∧ nx r = some ((r.drop 6).take (nxN r), r.drop (6 + nxN r))) := by
  by_cases h1 : nxN r ≤ 1024
  · by_cases h2 : nxN r + 6 ≤ r.length
    · by_cases h3 : (sha ((r.drop 6).take (nxN r))).take 4 = (r.drop 2).take 4
      · exact .inr (.inr (.inr ⟨h1, h2, h3, by unfold nx; rw [if_pos ⟨h6, h1, h2, h3⟩]⟩))
      · exact .inr (.inr (.inl ⟨h1, h2, h3, by unfold nx; rw [if_neg (fun q => h3 q.2.2.2)]⟩))
    · exact .inr (.inl ⟨h1, by omega, by unfold nx; rw [if_neg (by omega)]⟩)
  · exact .inl ⟨by omega, by unfold nx; rw [if_neg (by omega)]⟩
theorem take_neB {α : Type} {A B : List α} {i : Nat} {a b : α} (ha : A[i]? = some a) (hb : B[i]? = some b) (h : a ≠ b) : A ≠ B := by
  rintro rfl
  rw [ha] at hb
  exact h (Option.some.inj hb)
theorem take_allB {α : Type} {A B : List α} {i : Nat} (hl : A.length = B.length) (h : A.take i = B.take i) (hi : ¬ ((i : Int) < (A.length : Int))) : A = B := by
  rw [List.take_of_length_le (by omega), List.take_of_length_le (by omega)] at h
  exact h
theorem take_moreB {α : Type} {A B : List α} {i : Nat} {a b : α} (ha : A[i]? = some a) (hb : B[i]? = some b) (h : A.take i = B.take i) (e : a = b) : A.take (i + 1) = B.take (i + 1) := by
  rw [List.take_add_one, List.take_add_one, ha, hb, h, e]
theorem getI2B {α : Type} {A B : List α} {i : Nat} (h : (i : Int) < (A.length : Int)) (hl : A.length = B.length) : ∃ a b, A[i]? = some a ∧ B[i]? = some b := ⟨A[i]'(by omega), B[i]'(by omega), by simp, by simp⟩
theorem ne_mpB {L : List (List UInt8)} {i : Nat} {p : List UInt8} (h : L[i]? = some p) : L.map RVal.bs ≠ [] := by cases L with
  | nil => simp at h
  | cons a l => simp
theorem roL_of {L : List (List UInt8)} {a : RVal} {l : List RVal} (h : a :: l = bL' L) : AVal.r (.ro (l.length + 1) (cutA (a :: l) 0 ((l.length + 1) * 1))) = roL L := by
  have e : L.length = l.length + 1 := by have := congrArg List.length h; simp [bL'] at this; omega
  rw [cutA_eq, List.drop_zero, List.take_of_length_le (by simp), h, roL, e]
  rfl

def stLists_0 (A B : List (List UInt8)) : Nat → Regs × Hp := fun i => ([(0, roL A), (1, roL B), (5, .r (.int .i64 (i : Int)))], ⟨0, [], false⟩)
def prLists_0 (A B : List (List UInt8)) : Nat → Prop := fun i => A.take i = B.take i
theorem w_Lists (A B : List (List UInt8)) (hA : A.length ≤ 9223372036854775807) : Pur Try.prog 28 [roL A, roL B] (.r (.bool (decide (A = B)))) := by
  refine spec_of_go (N := 28) Try.func28 rfl (by decide) rfl rfl ?_
  refine zB ?_
  refine pA ?_
  refine zA ?_
  refine zB ?_
  iterate 5 refine pA ?_
  refine ar_nil ?_
  refine ag_if rfl ?_ ?_
  · intro h10
    refine zB ?_
    refine pA ?_
    refine ar_nil ?_
    refine ag_ret tOk Try.func28 rfl rfl (by simp) ?_
    exact eqB (decide_eq_false (fun e => h10 (by rw [e]))).symm
  · intro h10
    have hl : A.length = B.length := by omega
    refine ag_skip ?_
    refine ag_seq ?_
    refine zB ?_
    refine pA ?_
    refine ar_nil ?_
    refine ag_block ?_
    refine ag_loopS (stLists_0 A B) (prLists_0 A B) (fun (i : Nat) => A.length - i) 0 (ent_weak [] rfl rfl rfl rfl ?_ ?_ rfl) (show prLists_0 A B 0 from ?_) ?_
    · exact ⟨⟨rfl, rfl⟩, ⟨rfl, rfl⟩, ⟨rfl, rfl⟩, trivial⟩
    · trivial
    · exact rfl
    rintro i hp hrec
    have hp : A.take i = B.take i := hp
    refine ag_seq ?_
    refine zB ?_
    iterate 4 refine pA ?_
    refine ar_nil ?_
    refine ag_if rfl ?_ ?_
    · intro h14
      obtain ⟨a, b, ha, hb⟩ := getI2B h14 hl
      have hlt : i < A.length := by omega
      refine ag_skip ?_
      refine ag_seq ?_
      refine ag_block ?_
      refine ag_seq ?_
      refine ag_draw0 (by kernel_rfl) (by kernel_rfl) ?_
      iterate 2 refine aq_pure tOk rfl rfl rfl trivial ?_
      refine aq_pure tOk rfl rfl rfl ?_ ?_
      · refine ⟨?_, ?_⟩ <;> first | omega | exact ne_mpB ha | (refine ⟨?_, ?_⟩ <;> omega)
      refine aq_loadAs tOk (.r (.bs a)) rfl rfl rfl rfl (fun _ => rfl) rfl rfl (.inl ⟨rfl, by simp [Body.cells, mulz_eq, ha]⟩) ?_
      iterate 3 refine aq_pure tOk rfl rfl rfl trivial ?_
      refine aq_pure tOk rfl rfl rfl ?_ ?_
      · refine ⟨?_, ?_⟩ <;> first | omega | exact ne_mpB hb | (refine ⟨?_, ?_⟩ <;> omega)
      refine aq_loadAs tOk (.r (.bs b)) rfl rfl rfl rfl (fun _ => rfl) rfl rfl (.inl ⟨rfl, by simp [Body.cells, mulz_eq, hb]⟩) ?_
      iterate 2 refine aq_pure tOk rfl rfl rfl trivial ?_
      refine aq_nil rfl ?_
      refine ag_if rfl ?_ ?_
      · intro h27
        refine zB ?_
        refine pA ?_
        refine ar_nil ?_
        refine ag_ret tOk Try.func28 rfl rfl (by simp) ?_
        exact eqB (decide_eq_false (take_neB ha hb (by simpa using h27))).symm
      · intro h27
        have hab : a = b := by simpa using h27
        refine ag_skip ?_
        refine ag_inBlock ?_
        refine ag_reg ?_
        refine pA ?_
        refine ar_pure tOk rfl rfl rfl ?_ ?_
        · unfold inI64; omega
        refine pA ?_
        refine ar_nil ?_
        refine ag_ent (ent_weak (g' := (stLists_0 A B (i + 1)).1) (h' := (stLists_0 A B (i + 1)).2) [] rfl rfl rfl rfl ?_ ?_ rfl) ?_
        · exact ⟨⟨rfl, rfl⟩, ⟨rfl, rfl⟩, ⟨rfl, by exact eqI (by omega)⟩, trivial⟩
        · trivial
        have hnx := hrec (i + 1)
        refine hnx ?_ ?_
        · exact take_moreB ha hb hp hab
        · show A.length - (i + 1) < A.length - i; omega
    · intro h14
      refine ag_exit rfl ?_
      refine zB ?_
      refine pA ?_
      refine ar_nil ?_
      refine ag_ret tOk Try.func28 rfl rfl (by simp) ?_
      exact eqB (decide_eq_true (take_allB hl hp h14)).symm

def stSpl_G0 (b : List UInt8) : List RVal × List UInt8 → Regs × Hp := fun ⟨acc, r⟩ => ([(0, .r (.bs b)), (4, accA acc), (5, .r (.bs r))], accH acc)
def prSpl_G0 (b : List UInt8) : List RVal × List UInt8 → Prop := fun ⟨acc, r⟩ => acc ++ bL' (splL r).1 = bL' (splL b).1 ∧ (splL r).2 = (splL b).2 ∧ r.length ≤ b.length
theorem w_Split (b : List UInt8) (hb : b.length ≤ 4000000000000) : Pur Try.prog 26 [.r (.bs b)] (.tuple [roL (splL b).1, .r (.int .i64 ((b.length : Int) - ((splL b).2.length : Int)))]) := by
  refine spec_of_go (N := 30) Try.func26 rfl (by decide) rfl rfl ?_
  refine zB ?_
  iterate 2 refine pA ?_
  refine ar_nil ?_
  refine ag_scope ?_
  refine zB ?_
  refine pA ?_
  refine zC ?_
  iterate 2 refine pA ?_
  refine zA ?_
  refine ag_label ?_
  refine ag_headS (stSpl_G0 b) (prSpl_G0 b) (fun ⟨acc, r⟩ => r.length) ([], b) (ent_weak [] rfl rfl rfl rfl ?_ ?_ rfl) (show prSpl_G0 b ([], b) from ?_) ?_
  · exact ⟨⟨rfl, rfl⟩, ⟨rfl, rfl⟩, ⟨rfl, rfl⟩, trivial⟩
  · trivial
  · exact ⟨by simp, rfl, Nat.le_refl _⟩
  rintro ⟨acc, r⟩ hp hrec
  cases acc with
  | nil =>
    obtain ⟨hacc, h2, h3⟩ : _ := hp
    refine ag_ent (ent_weak (g' := [(0, .r (.bs b)), (5, .r (.bs r)), (4, .r .nil)]) (h' := ⟨0, [], false⟩) [] rfl rfl rfl rfl ?_ ?_ rfl) ?_
    · exact ⟨⟨rfl, rfl⟩, ⟨rfl, rfl⟩, ⟨rfl, rfl⟩, trivial⟩
    · trivial
    refine ag_seq ?_
    rcases hx : nx r with _ | ⟨x, r2⟩
    · skip
      rw [spl_none hx] at hacc h2
      refine ag_reg ?_
      refine pA ?_
      refine ar_pur (w_nextN r (by omega) hx) rfl rfl rfl rfl rfl rfl rfl ?_
      iterate 7 refine pA ?_
      refine zA ?_
      refine zB ?_
      refine pA ?_
      refine ar_nil ?_
      refine ag_false rfl (rfl) ?_
      refine ag_skip ?_
      refine zB ?_
      iterate 5 refine pA ?_
      refine ar_pure tOk rfl rfl rfl ?_ ?_
      · unfold inI64; omega
      iterate 2 refine pA ?_
      refine ar_nil ?_
      refine ag_ent (ent_nil 2 (.ro 0 []) rfl (.inr rfl)) ?_
      refine ag_ret tOk Try.func26 rfl rfl (by first | trivial | exact ⟨trivial, trivial⟩ | exact ⟨trivial, trivial, trivial⟩ | simp) ?_
      show AVal.tuple [.r (.ro 0 []), .r (.int .i64 _)] = _
      rw [show (splL b).1 = [] from by have := hacc; cases hq : (splL b).1 with
        | nil => rfl
        | cons p q => rw [hq] at this; simp [bL'] at this]
      rw [← h2]
      rfl
    · skip
      rw [spl_some hx] at hacc h2
      have hlt := nx_rest hx
      have hln := congrArg List.length hacc
      simp only [bL', List.length_append, List.length_map, List.length_cons, List.length_nil] at hln
      have hsl := spl_len b
      refine ag_reg ?_
      refine pA ?_
      refine ar_pur (w_nextO (by omega) hx) rfl rfl rfl rfl rfl rfl rfl ?_
      iterate 7 refine pA ?_
      refine zA ?_
      refine zB ?_
      refine pA ?_
      refine ar_nil ?_
      refine ag_true rfl (rfl) ?_
      refine zB ?_
      iterate 2 refine pA ?_
      refine ar_qd rfl (qop_buildRo tOk rfl ?_ rfl) rfl rfl rfl rfl ?_
      · repeat any_goals (first | trivial | decide | omega | (simp; done) | (rw [wu8]; omega) | refine ⟨?_, ?_⟩)
      refine ar_pur (w_Cat [x] (by simp) (by simp; omega)) rfl rfl rfl rfl rfl rfl rfl ?_
      refine ar_ent (ent_reg 20 (.r (.bs (x))) (by show AVal.r (.bs _) = _; exact eqBsv (by simp))) ?_
      refine ar_qd rfl (qop_buildRo tOk rfl ?_ rfl) rfl rfl rfl rfl ?_
      · repeat any_goals (first | trivial | decide | omega | (simp; done) | (rw [wu8]; omega) | refine ⟨?_, ?_⟩)
      refine ar_app tOk rfl rfl rfl ?_ ?_
      · refine ⟨⟨?_, ?_, ?_⟩, ⟨?_, ?_⟩, ⟨?_, ?_⟩, ?_⟩ <;> first | trivial | omega | (simp; done) | (simp; omega)
      iterate 3 refine pA ?_
      refine ar_nil ?_
      refine ag_goto rfl ?_
      refine ag_seq ?_
      refine ag_skip ?_
      refine ag_ent (ent_weak (g' := (stSpl_G0 b ([.bs x], r2)).1) (h' := (stSpl_G0 b ([.bs x], r2)).2) [0] rfl rfl rfl rfl ?_ ?_ rfl) ?_
      · exact ⟨⟨rfl, rfl⟩, ⟨rfl, rfl⟩, ⟨rfl, rfl⟩, trivial⟩
      · exact ⟨⟨rfl, rfl, rfl⟩, trivial⟩
      have hnx := hrec ([.bs x], r2)
      refine hnx ?_ ?_
      · exact ⟨by simpa [bL'] using hacc, h2, by omega⟩
      · show r2.length < r.length; omega
  | cons a l =>
    obtain ⟨hacc, h2, h3⟩ : _ := hp
    refine ag_ent (ent_weak (g' := [(0, .r (.bs b)), (5, .r (.bs r)), (4, .sl 0 0 (l.length + 1) 1)]) (h' := ⟨1, [(0, some (.plain (a :: l)))], false⟩) [0] rfl rfl rfl rfl ?_ ?_ rfl) ?_
    · exact ⟨⟨rfl, rfl⟩, ⟨rfl, rfl⟩, ⟨rfl, rfl⟩, trivial⟩
    · exact ⟨⟨rfl, rfl, rfl⟩, trivial⟩
    refine ag_seq ?_
    rcases hx : nx r with _ | ⟨x, r2⟩
    · skip
      rw [spl_none hx] at hacc h2
      refine ag_reg ?_
      refine pA ?_
      refine ar_pur (w_nextN r (by omega) hx) rfl rfl rfl rfl rfl rfl rfl ?_
      iterate 7 refine pA ?_
      refine zA ?_
      refine zB ?_
      refine pA ?_
      refine ar_nil ?_
      refine ag_false rfl (rfl) ?_
      refine ag_skip ?_
      refine zB ?_
      iterate 5 refine pA ?_
      refine ar_pure tOk rfl rfl rfl ?_ ?_
      · unfold inI64; omega
      iterate 2 refine pA ?_
      refine ar_nil ?_
      refine ag_ent (ent_freeze 2 rfl rfl rfl trivial) ?_
      refine ag_ret tOk Try.func26 rfl rfl (by first | trivial | exact ⟨trivial, trivial⟩ | exact ⟨trivial, trivial, trivial⟩ | simp) ?_
      show AVal.tuple [.r (.ro (l.length + 1) (cutA (a :: l) 0 ((l.length + 1) * 1))), .r (.int .i64 _)] = _
      rw [roL_of (L := (splL b).1) (by simpa [bL'] using hacc), ← h2]
    · skip
      rw [spl_some hx] at hacc h2
      have hlt := nx_rest hx
      have hln := congrArg List.length hacc
      simp only [bL', List.length_append, List.length_map, List.length_cons, List.length_nil] at hln
      have hsl := spl_len b
      refine ag_reg ?_
      refine pA ?_
      refine ar_pur (w_nextO (by omega) hx) rfl rfl rfl rfl rfl rfl rfl ?_
      iterate 7 refine pA ?_
      refine zA ?_
      refine zB ?_
      refine pA ?_
      refine ar_nil ?_
      refine ag_true rfl (rfl) ?_
      refine zB ?_
      iterate 2 refine pA ?_
      refine ar_qd rfl (qop_buildRo tOk rfl ?_ rfl) rfl rfl rfl rfl ?_
      · repeat any_goals (first | trivial | decide | omega | (simp; done) | (rw [wu8]; omega) | refine ⟨?_, ?_⟩)
      refine ar_pur (w_Cat [x] (by simp) (by simp; omega)) rfl rfl rfl rfl rfl rfl rfl ?_
      refine ar_ent (ent_reg 20 (.r (.bs (x))) (by show AVal.r (.bs _) = _; exact eqBsv (by simp))) ?_
      refine ar_qd rfl (qop_buildRo tOk rfl ?_ rfl) rfl rfl rfl rfl ?_
      · repeat any_goals (first | trivial | decide | omega | (simp; done) | (rw [wu8]; omega) | refine ⟨?_, ?_⟩)
      refine ar_app tOk rfl rfl rfl ?_ ?_
      · refine ⟨⟨?_, ?_, ?_⟩, ⟨?_, ?_⟩, ⟨?_, ?_⟩, ?_⟩ <;> first | trivial | omega | (simp; done) | (simp; omega)
      iterate 3 refine pA ?_
      refine ar_nil ?_
      refine ag_goto rfl ?_
      refine ag_seq ?_
      refine ag_skip ?_
      refine ag_ent (ent_weak (g' := (stSpl_G0 b (a :: l ++ [.bs x], r2)).1) (h' := (stSpl_G0 b (a :: l ++ [.bs x], r2)).2) [1] rfl rfl rfl rfl ?_ ?_ rfl) ?_
      · exact ⟨⟨rfl, rfl⟩, ⟨rfl, by exact eqSl (by simp)⟩, ⟨rfl, rfl⟩, trivial⟩
      · exact ⟨⟨rfl, rfl, by exact eqPl (by simp [cutA_eq])⟩, trivial⟩
      have hnx := hrec (a :: l ++ [.bs x], r2)
      refine hnx ?_ ?_
      · exact ⟨by simpa [bL'] using hacc, h2, by omega⟩
      · show r2.length < r.length; omega

def strSpl_0 (b : List UInt8) : List RVal × Nat → Regs × Hp := fun ⟨acc, n⟩ => ([(0, .r (.bs b)), (4, accA acc), (5, .r (.int .i64 (n : Int)))], accH acc)
def prrSpl_0 (b : List UInt8) : List RVal × Nat → Prop := fun ⟨acc, n⟩ => acc ++ bL' (splL (b.drop n)).1 = bL' (splL b).1 ∧ (splL (b.drop n)).2 = (splL b).2 ∧ n ≤ b.length
theorem w_rSplit (b : List UInt8) (hb : b.length ≤ 4000000000000) : Pur Try.prog 27 [.r (.bs b)] (.tuple [roL (splL b).1, .r (.int .i64 ((b.length : Int) - ((splL b).2.length : Int)))]) := by
  refine spec_of_go (N := 69) Try.func27 rfl (by decide) rfl rfl ?_
  refine zB ?_
  iterate 2 refine pA ?_
  refine zC ?_
  refine pA ?_
  refine zC ?_
  refine pA ?_
  refine zA ?_
  refine ag_block ?_
  refine ag_loopS (strSpl_0 b) (prrSpl_0 b) (fun ⟨acc, n⟩ => b.length - n) ([], 0) (ent_weak [] rfl rfl rfl rfl ?_ ?_ rfl) (show prrSpl_0 b ([], 0) from ?_) ?_
  · exact ⟨⟨rfl, rfl⟩, ⟨rfl, rfl⟩, ⟨rfl, rfl⟩, trivial⟩
  · trivial
  · exact ⟨by simp, rfl, Nat.zero_le _⟩
  rintro ⟨acc, n⟩ hp hrec
  cases acc with
  | nil =>
    obtain ⟨hacc, h2, h3⟩ : _ := hp
    refine ag_ent (ent_weak (g' := [(0, .r (.bs b)), (5, .r (.int .i64 (n : Int))), (4, .r .nil)]) (h' := ⟨0, [], false⟩) [] rfl rfl rfl rfl ?_ ?_ rfl) ?_
    · exact ⟨⟨rfl, rfl⟩, ⟨rfl, rfl⟩, ⟨rfl, rfl⟩, trivial⟩
    · trivial
    refine ag_seq ?_
    refine zB ?_
    iterate 3 refine pA ?_
    refine ar_pure tOk rfl rfl rfl ?_ ?_
    · unfold inI64; omega
    refine pA ?_
    refine ar_nil ?_
    refine ag_if rfl ?_ ?_
    · intro h11
      have hdl : (b.drop n).length = b.length - n := List.length_drop
      obtain ⟨m, hm⟩ : ∃ m, nxN (b.drop n) = m := ⟨_, rfl⟩
      have hc := nx_case (r := b.drop n) (by omega)
      rw [hm, hdl] at hc
      obtain ⟨x, hxe⟩ : ∃ x, x = ((b.drop n).drop 6).take m := ⟨_, rfl⟩
      rw [← hxe] at hc
      refine ag_skip ?_
      refine ag_block ?_
      refine zB ?_
      iterate 3 refine pA ?_
      refine ar_pure tOk rfl rfl rfl ?_ ?_
      · unfold inI64; omega
      refine ar_pure tOk rfl rfl rfl ?_ ?_
      · simp only [boundsOk]; omega
      refine ar_ent (ent_reg 16 (.r (.bs ((b.drop n).take 2))) (by show AVal.r (.bs _) = _; exact eqBsv (by simp only [cutL, mulz]; rw [show ((n : Int) + 2 - (n : Int)).toNat = 2 by omega]; rfl))) ?_
      refine ar_pur (w_rInt _) rfl rfl rfl rfl rfl rfl rfl ?_
      refine ar_ent (ent_reg 17 (.r (.int .i64 ((m : Int)))) (by show AVal.r (.int _ _) = _; exact eqI (by rw [nxN_eq, hm]))) ?_
      refine pA ?_
      refine zA ?_
      refine ag_seq ?_
      rcases hc with ⟨hA, hz⟩ | ⟨hA, hB, hz⟩ | ⟨hA, hB, hC, hz⟩ | ⟨hA, hB, hC, hz⟩
      · skip
        rw [spl_none hz] at hacc h2
        refine ag_draw0 (by kernel_rfl) (by kernel_rfl) ?_
        refine aq_pure tOk rfl rfl rfl trivial ?_
        refine aq_pureE tOk (.r (.bool true)) rfl (by show AVal.r (.bool _) = _; exact eqB (by simp; omega)) rfl (by rfl) trivial ?_
        refine aq_pure tOk rfl rfl rfl trivial ?_
        iterate 7 refine aq_skip rfl rfl rfl ?_
        iterate 2 refine aq_pure tOk rfl rfl rfl trivial ?_
        iterate 19 refine aq_skip rfl rfl rfl ?_
        refine aq_pure tOk rfl rfl rfl trivial ?_
        refine aq_nil rfl ?_
        refine ag_true rfl (rfl) ?_
        refine zB ?_
        iterate 4 refine pA ?_
        refine ar_nil ?_
        refine ag_ent (ent_nil 2 (.ro 0 []) rfl (.inr rfl)) ?_
        refine ag_ret tOk Try.func27 rfl rfl (by first | trivial | exact ⟨trivial, trivial⟩ | exact ⟨trivial, trivial, trivial⟩ | simp) ?_
        show AVal.tuple [.r (.ro 0 []), .r (.int .i64 _)] = _
        rw [show (splL b).1 = [] from by have := hacc; cases hq : (splL b).1 with
          | nil => rfl
          | cons p q => rw [hq] at this; simp [bL'] at this]
        rw [← h2, List.length_drop, show (b.length : Int) - ((b.length - n : Nat) : Int) = (n : Int) by omega]
        rfl
      · skip
        rw [spl_none hz] at hacc h2
        refine ag_draw0 (by kernel_rfl) (by kernel_rfl) ?_
        refine aq_pure tOk rfl rfl rfl trivial ?_
        refine aq_pureE tOk (.r (.bool false)) rfl (by show AVal.r (.bool _) = _; exact eqB (by simp; omega)) rfl (by rfl) trivial ?_
        iterate 5 refine aq_pure tOk rfl rfl rfl trivial ?_
        refine aq_pure tOk rfl rfl rfl ?_ ?_
        · unfold inI64; omega
        refine aq_pure tOk rfl rfl rfl ?_ ?_
        · unfold inI64; omega
        refine aq_pureE tOk (.r (.bool true)) rfl (by show AVal.r (.bool _) = _; exact eqB (by simp; omega)) rfl (by rfl) trivial ?_
        iterate 2 refine aq_pure tOk rfl rfl rfl trivial ?_
        iterate 19 refine aq_skip rfl rfl rfl ?_
        refine aq_pure tOk rfl rfl rfl trivial ?_
        refine aq_nil rfl ?_
        refine ag_true rfl (rfl) ?_
        refine zB ?_
        iterate 4 refine pA ?_
        refine ar_nil ?_
        refine ag_ent (ent_nil 2 (.ro 0 []) rfl (.inr rfl)) ?_
        refine ag_ret tOk Try.func27 rfl rfl (by first | trivial | exact ⟨trivial, trivial⟩ | exact ⟨trivial, trivial, trivial⟩ | simp) ?_
        show AVal.tuple [.r (.ro 0 []), .r (.int .i64 _)] = _
        rw [show (splL b).1 = [] from by have := hacc; cases hq : (splL b).1 with
          | nil => rfl
          | cons p q => rw [hq] at this; simp [bL'] at this]
        rw [← h2, List.length_drop, show (b.length : Int) - ((b.length - n : Nat) : Int) = (n : Int) by omega]
        rfl
      · skip
        rw [spl_none hz] at hacc h2
        have hS : Pur Try.prog 23 [.r (.bs (cutL b 1 (some ((n : Int) + 6)) (some ((n : Int) + 6 + (m : Int)))))] (.r (.bs (sha x))) := by rw [show cutL b 1 (some ((n : Int) + 6)) (some ((n : Int) + 6 + (m : Int))) = x by simp only [cutL, mulz]; rw [show ((n : Int) + 6).toNat = n + 6 by omega, show ((n : Int) + 6 + (m : Int) - ((n : Int) + 6)).toNat = m by omega, hxe]; simp [List.drop_drop]]; exact w_rSum x (by rw [hxe, List.length_take]; omega)
        have h26 : cutL b 1 (some ((n : Int) + 2)) (some ((n : Int) + 6)) = ((b.drop n).drop 2).take 4 := by simp only [cutL, mulz]; rw [show ((n : Int) + 2).toNat = n + 2 by omega, show ((n : Int) + 6 - ((n : Int) + 2)).toNat = 4 by omega]; simp [List.drop_drop]
        refine ag_draw0 (by kernel_rfl) (by kernel_rfl) ?_
        refine aq_pure tOk rfl rfl rfl trivial ?_
        refine aq_pureE tOk (.r (.bool false)) rfl (by show AVal.r (.bool _) = _; exact eqB (by simp; omega)) rfl (by rfl) trivial ?_
        iterate 5 refine aq_pure tOk rfl rfl rfl trivial ?_
        refine aq_pure tOk rfl rfl rfl ?_ ?_
        · unfold inI64; omega
        refine aq_pure tOk rfl rfl rfl ?_ ?_
        · unfold inI64; omega
        refine aq_pureE tOk (.r (.bool false)) rfl (by show AVal.r (.bool _) = _; exact eqB (by simp; omega)) rfl (by rfl) trivial ?_
        iterate 4 refine aq_pure tOk rfl rfl rfl trivial ?_
        refine aq_pure tOk rfl rfl rfl ?_ ?_
        · unfold inI64; omega
        refine aq_pure tOk rfl rfl rfl trivial ?_
        refine aq_pure tOk rfl rfl rfl ?_ ?_
        · unfold inI64; omega
        refine aq_pure tOk rfl rfl rfl trivial ?_
        refine aq_pure tOk rfl rfl rfl ?_ ?_
        · unfold inI64; omega
        refine aq_pure tOk rfl rfl rfl ?_ ?_
        · simp only [boundsOk]; omega
        refine aq_pur (hS) rfl rfl rfl rfl rfl rfl rfl ?_
        refine aq_pure tOk rfl rfl rfl ?_ ?_
        · simp only [boundsOk]; rw [sha_length]; omega
        iterate 3 refine aq_pure tOk rfl rfl rfl trivial ?_
        refine aq_pure tOk rfl rfl rfl ?_ ?_
        · unfold inI64; omega
        refine aq_pure tOk rfl rfl rfl trivial ?_
        refine aq_pure tOk rfl rfl rfl ?_ ?_
        · unfold inI64; omega
        refine aq_pure tOk rfl rfl rfl ?_ ?_
        · simp only [boundsOk]; omega
        refine aq_pure tOk rfl rfl rfl trivial ?_
        refine aq_pureE tOk (.r (.bool true)) rfl (by show AVal.r (.bool _) = _; exact eqB (by rw [h26]; simpa [cutL, mulz] using hC)) rfl (by rfl) trivial ?_
        refine aq_pure tOk rfl rfl rfl trivial ?_
        refine aq_nil rfl ?_
        refine ag_true rfl (rfl) ?_
        refine zB ?_
        iterate 4 refine pA ?_
        refine ar_nil ?_
        refine ag_ent (ent_nil 2 (.ro 0 []) rfl (.inr rfl)) ?_
        refine ag_ret tOk Try.func27 rfl rfl (by first | trivial | exact ⟨trivial, trivial⟩ | exact ⟨trivial, trivial, trivial⟩ | simp) ?_
        show AVal.tuple [.r (.ro 0 []), .r (.int .i64 _)] = _
        rw [show (splL b).1 = [] from by have := hacc; cases hq : (splL b).1 with
          | nil => rfl
          | cons p q => rw [hq] at this; simp [bL'] at this]
        rw [← h2, List.length_drop, show (b.length : Int) - ((b.length - n : Nat) : Int) = (n : Int) by omega]
        rfl
      · skip
        rw [spl_some hz] at hacc h2
        have hln := congrArg List.length hacc
        simp only [bL', List.length_append, List.length_map, List.length_cons, List.length_nil] at hln
        have hsl := spl_len b
        have hS : Pur Try.prog 23 [.r (.bs (cutL b 1 (some ((n : Int) + 6)) (some ((n : Int) + 6 + (m : Int)))))] (.r (.bs (sha x))) := by rw [show cutL b 1 (some ((n : Int) + 6)) (some ((n : Int) + 6 + (m : Int))) = x by simp only [cutL, mulz]; rw [show ((n : Int) + 6).toNat = n + 6 by omega, show ((n : Int) + 6 + (m : Int) - ((n : Int) + 6)).toNat = m by omega, hxe]; simp [List.drop_drop]]; exact w_rSum x (by rw [hxe, List.length_take]; omega)
        have h26 : cutL b 1 (some ((n : Int) + 2)) (some ((n : Int) + 6)) = ((b.drop n).drop 2).take 4 := by simp only [cutL, mulz]; rw [show ((n : Int) + 2).toNat = n + 2 by omega, show ((n : Int) + 6 - ((n : Int) + 2)).toNat = 4 by omega]; simp [List.drop_drop]
        refine ag_draw0 (by kernel_rfl) (by kernel_rfl) ?_
        refine aq_pure tOk rfl rfl rfl trivial ?_
        refine aq_pureE tOk (.r (.bool false)) rfl (by show AVal.r (.bool _) = _; exact eqB (by simp; omega)) rfl (by rfl) trivial ?_
        iterate 5 refine aq_pure tOk rfl rfl rfl trivial ?_
        refine aq_pure tOk rfl rfl rfl ?_ ?_
        · unfold inI64; omega
        refine aq_pure tOk rfl rfl rfl ?_ ?_
        · unfold inI64; omega
        refine aq_pureE tOk (.r (.bool false)) rfl (by show AVal.r (.bool _) = _; exact eqB (by simp; omega)) rfl (by rfl) trivial ?_
        iterate 4 refine aq_pure tOk rfl rfl rfl trivial ?_
        refine aq_pure tOk rfl rfl rfl ?_ ?_
        · unfold inI64; omega
        refine aq_pure tOk rfl rfl rfl trivial ?_
        refine aq_pure tOk rfl rfl rfl ?_ ?_
        · unfold inI64; omega
        refine aq_pure tOk rfl rfl rfl trivial ?_
        refine aq_pure tOk rfl rfl rfl ?_ ?_
        · unfold inI64; omega
        refine aq_pure tOk rfl rfl rfl ?_ ?_
        · simp only [boundsOk]; omega
        refine aq_pur (hS) rfl rfl rfl rfl rfl rfl rfl ?_
        refine aq_pure tOk rfl rfl rfl ?_ ?_
        · simp only [boundsOk]; rw [sha_length]; omega
        iterate 3 refine aq_pure tOk rfl rfl rfl trivial ?_
        refine aq_pure tOk rfl rfl rfl ?_ ?_
        · unfold inI64; omega
        refine aq_pure tOk rfl rfl rfl trivial ?_
        refine aq_pure tOk rfl rfl rfl ?_ ?_
        · unfold inI64; omega
        refine aq_pure tOk rfl rfl rfl ?_ ?_
        · simp only [boundsOk]; omega
        refine aq_pure tOk rfl rfl rfl trivial ?_
        refine aq_pureE tOk (.r (.bool false)) rfl (by show AVal.r (.bool _) = _; exact eqB (by rw [h26]; simpa [cutL, mulz] using hC)) rfl (by rfl) trivial ?_
        refine aq_pure tOk rfl rfl rfl trivial ?_
        refine aq_nil rfl ?_
        refine ag_false rfl (rfl) ?_
        refine ag_skip ?_
        refine zB ?_
        iterate 3 refine pA ?_
        refine ar_pure tOk rfl rfl rfl ?_ ?_
        · unfold inI64; omega
        refine pA ?_
        refine ar_pure tOk rfl rfl rfl ?_ ?_
        · unfold inI64; omega
        refine pA ?_
        refine ar_pure tOk rfl rfl rfl ?_ ?_
        · unfold inI64; omega
        refine ar_pure tOk rfl rfl rfl ?_ ?_
        · simp only [boundsOk]; omega
        refine ar_ent (ent_reg 60 (.r (.bs (x))) (by show AVal.r (.bs _) = _; exact eqBsv (by simp only [cutL, mulz]; rw [show ((n : Int) + 6).toNat = n + 6 by omega, show ((n : Int) + 6 + (m : Int) - ((n : Int) + 6)).toNat = m by omega, hxe]; simp [List.drop_drop]))) ?_
        refine ar_qd rfl (qop_buildRo tOk rfl ?_ rfl) rfl rfl rfl rfl ?_
        · repeat any_goals (first | trivial | decide | omega | (simp; done) | (rw [wu8]; omega) | refine ⟨?_, ?_⟩)
        refine ar_app tOk rfl rfl rfl ?_ ?_
        · refine ⟨⟨?_, ?_, ?_⟩, ⟨?_, ?_⟩, ⟨?_, ?_⟩, ?_⟩ <;> first | trivial | omega | (simp; done) | (simp; omega)
        refine pA ?_
        refine ar_nil ?_
        refine ag_reg ?_
        refine pA ?_
        refine ar_pure tOk rfl rfl rfl ?_ ?_
        · unfold inI64; omega
        refine pA ?_
        refine ar_pure tOk rfl rfl rfl ?_ ?_
        · unfold inI64; omega
        refine pA ?_
        refine ar_nil ?_
        refine ag_inBlock ?_
        refine ag_ent (ent_weak (g' := (strSpl_0 b ([.bs x], n + 6 + m)).1) (h' := (strSpl_0 b ([.bs x], n + 6 + m)).2) [0] rfl rfl rfl rfl ?_ ?_ rfl) ?_
        · exact ⟨⟨rfl, rfl⟩, ⟨rfl, rfl⟩, ⟨rfl, by exact eqI (by omega)⟩, trivial⟩
        · exact ⟨⟨rfl, rfl, rfl⟩, trivial⟩
        have hnx := hrec ([.bs x], n + 6 + m)
        refine hnx ?_ ?_
        · exact ⟨by have := hacc; rw [List.drop_drop, show n + (6 + m) = n + 6 + m by omega] at this; simpa [bL'] using this, by have := h2; rw [List.drop_drop, show n + (6 + m) = n + 6 + m by omega] at this; exact this, by omega⟩
        · show b.length - (n + 6 + m) < b.length - n; omega
    · intro h11
      rw [spl_none (nx_short (b := b.drop n) (by rw [List.length_drop]; omega))] at hacc h2
      refine ag_exit rfl ?_
      refine zB ?_
      iterate 4 refine pA ?_
      refine ar_nil ?_
      refine ag_ent (ent_nil 2 (.ro 0 []) rfl (.inr rfl)) ?_
      refine ag_ret tOk Try.func27 rfl rfl (by first | trivial | exact ⟨trivial, trivial⟩ | exact ⟨trivial, trivial, trivial⟩ | simp) ?_
      show AVal.tuple [.r (.ro 0 []), .r (.int .i64 _)] = _
      rw [show (splL b).1 = [] from by have := hacc; cases hq : (splL b).1 with
        | nil => rfl
        | cons p q => rw [hq] at this; simp [bL'] at this]
      rw [← h2, List.length_drop, show (b.length : Int) - ((b.length - n : Nat) : Int) = (n : Int) by omega]
      rfl
  | cons a l =>
    obtain ⟨hacc, h2, h3⟩ : _ := hp
    refine ag_ent (ent_weak (g' := [(0, .r (.bs b)), (5, .r (.int .i64 (n : Int))), (4, .sl 0 0 (l.length + 1) 1)]) (h' := ⟨1, [(0, some (.plain (a :: l)))], false⟩) [0] rfl rfl rfl rfl ?_ ?_ rfl) ?_
    · exact ⟨⟨rfl, rfl⟩, ⟨rfl, rfl⟩, ⟨rfl, rfl⟩, trivial⟩
    · exact ⟨⟨rfl, rfl, rfl⟩, trivial⟩
    refine ag_seq ?_
    refine zB ?_
    iterate 3 refine pA ?_
    refine ar_pure tOk rfl rfl rfl ?_ ?_
    · unfold inI64; omega
    refine pA ?_
    refine ar_nil ?_
    refine ag_if rfl ?_ ?_
    · intro h11
      have hdl : (b.drop n).length = b.length - n := List.length_drop
      obtain ⟨m, hm⟩ : ∃ m, nxN (b.drop n) = m := ⟨_, rfl⟩
      have hc := nx_case (r := b.drop n) (by omega)
      rw [hm, hdl] at hc
      obtain ⟨x, hxe⟩ : ∃ x, x = ((b.drop n).drop 6).take m := ⟨_, rfl⟩
      rw [← hxe] at hc
      refine ag_skip ?_
      refine ag_block ?_
      refine zB ?_
      iterate 3 refine pA ?_
      refine ar_pure tOk rfl rfl rfl ?_ ?_
      · unfold inI64; omega
      refine ar_pure tOk rfl rfl rfl ?_ ?_
      · simp only [boundsOk]; omega
      refine ar_ent (ent_reg 16 (.r (.bs ((b.drop n).take 2))) (by show AVal.r (.bs _) = _; exact eqBsv (by simp only [cutL, mulz]; rw [show ((n : Int) + 2 - (n : Int)).toNat = 2 by omega]; rfl))) ?_
      refine ar_pur (w_rInt _) rfl rfl rfl rfl rfl rfl rfl ?_
      refine ar_ent (ent_reg 17 (.r (.int .i64 ((m : Int)))) (by show AVal.r (.int _ _) = _; exact eqI (by rw [nxN_eq, hm]))) ?_
      refine pA ?_
      refine zA ?_
      refine ag_seq ?_
      rcases hc with ⟨hA, hz⟩ | ⟨hA, hB, hz⟩ | ⟨hA, hB, hC, hz⟩ | ⟨hA, hB, hC, hz⟩
      · skip
        rw [spl_none hz] at hacc h2
        refine ag_draw0 (by kernel_rfl) (by kernel_rfl) ?_
        refine aq_pure tOk rfl rfl rfl trivial ?_
        refine aq_pureE tOk (.r (.bool true)) rfl (by show AVal.r (.bool _) = _; exact eqB (by simp; omega)) rfl (by rfl) trivial ?_
        refine aq_pure tOk rfl rfl rfl trivial ?_
        iterate 7 refine aq_skip rfl rfl rfl ?_
        iterate 2 refine aq_pure tOk rfl rfl rfl trivial ?_
        iterate 19 refine aq_skip rfl rfl rfl ?_
        refine aq_pure tOk rfl rfl rfl trivial ?_
        refine aq_nil rfl ?_
        refine ag_true rfl (rfl) ?_
        refine zB ?_
        iterate 4 refine pA ?_
        refine ar_nil ?_
        refine ag_ent (ent_freeze 2 rfl rfl rfl trivial) ?_
        refine ag_ret tOk Try.func27 rfl rfl (by first | trivial | exact ⟨trivial, trivial⟩ | exact ⟨trivial, trivial, trivial⟩ | simp) ?_
        show AVal.tuple [.r (.ro (l.length + 1) (cutA (a :: l) 0 ((l.length + 1) * 1))), .r (.int .i64 _)] = _
        rw [roL_of (L := (splL b).1) (by simpa [bL'] using hacc), ← h2, List.length_drop, show (b.length : Int) - ((b.length - n : Nat) : Int) = (n : Int) by omega]
      · skip
        rw [spl_none hz] at hacc h2
        refine ag_draw0 (by kernel_rfl) (by kernel_rfl) ?_
        refine aq_pure tOk rfl rfl rfl trivial ?_
        refine aq_pureE tOk (.r (.bool false)) rfl (by show AVal.r (.bool _) = _; exact eqB (by simp; omega)) rfl (by rfl) trivial ?_
        iterate 5 refine aq_pure tOk rfl rfl rfl trivial ?_
        refine aq_pure tOk rfl rfl rfl ?_ ?_
        · unfold inI64; omega
        refine aq_pure tOk rfl rfl rfl ?_ ?_
        · unfold inI64; omega
        refine aq_pureE tOk (.r (.bool true)) rfl (by show AVal.r (.bool _) = _; exact eqB (by simp; omega)) rfl (by rfl) trivial ?_
        iterate 2 refine aq_pure tOk rfl rfl rfl trivial ?_
        iterate 19 refine aq_skip rfl rfl rfl ?_
        refine aq_pure tOk rfl rfl rfl trivial ?_
        refine aq_nil rfl ?_
        refine ag_true rfl (rfl) ?_
        refine zB ?_
        iterate 4 refine pA ?_
        refine ar_nil ?_
        refine ag_ent (ent_freeze 2 rfl rfl rfl trivial) ?_
        refine ag_ret tOk Try.func27 rfl rfl (by first | trivial | exact ⟨trivial, trivial⟩ | exact ⟨trivial, trivial, trivial⟩ | simp) ?_
        show AVal.tuple [.r (.ro (l.length + 1) (cutA (a :: l) 0 ((l.length + 1) * 1))), .r (.int .i64 _)] = _
        rw [roL_of (L := (splL b).1) (by simpa [bL'] using hacc), ← h2, List.length_drop, show (b.length : Int) - ((b.length - n : Nat) : Int) = (n : Int) by omega]
      · skip
        rw [spl_none hz] at hacc h2
        have hS : Pur Try.prog 23 [.r (.bs (cutL b 1 (some ((n : Int) + 6)) (some ((n : Int) + 6 + (m : Int)))))] (.r (.bs (sha x))) := by rw [show cutL b 1 (some ((n : Int) + 6)) (some ((n : Int) + 6 + (m : Int))) = x by simp only [cutL, mulz]; rw [show ((n : Int) + 6).toNat = n + 6 by omega, show ((n : Int) + 6 + (m : Int) - ((n : Int) + 6)).toNat = m by omega, hxe]; simp [List.drop_drop]]; exact w_rSum x (by rw [hxe, List.length_take]; omega)
        have h26 : cutL b 1 (some ((n : Int) + 2)) (some ((n : Int) + 6)) = ((b.drop n).drop 2).take 4 := by simp only [cutL, mulz]; rw [show ((n : Int) + 2).toNat = n + 2 by omega, show ((n : Int) + 6 - ((n : Int) + 2)).toNat = 4 by omega]; simp [List.drop_drop]
        refine ag_draw0 (by kernel_rfl) (by kernel_rfl) ?_
        refine aq_pure tOk rfl rfl rfl trivial ?_
        refine aq_pureE tOk (.r (.bool false)) rfl (by show AVal.r (.bool _) = _; exact eqB (by simp; omega)) rfl (by rfl) trivial ?_
        iterate 5 refine aq_pure tOk rfl rfl rfl trivial ?_
        refine aq_pure tOk rfl rfl rfl ?_ ?_
        · unfold inI64; omega
        refine aq_pure tOk rfl rfl rfl ?_ ?_
        · unfold inI64; omega
        refine aq_pureE tOk (.r (.bool false)) rfl (by show AVal.r (.bool _) = _; exact eqB (by simp; omega)) rfl (by rfl) trivial ?_
        iterate 4 refine aq_pure tOk rfl rfl rfl trivial ?_
        refine aq_pure tOk rfl rfl rfl ?_ ?_
        · unfold inI64; omega
        refine aq_pure tOk rfl rfl rfl trivial ?_
        refine aq_pure tOk rfl rfl rfl ?_ ?_
        · unfold inI64; omega
        refine aq_pure tOk rfl rfl rfl trivial ?_
        refine aq_pure tOk rfl rfl rfl ?_ ?_
        · unfold inI64; omega
        refine aq_pure tOk rfl rfl rfl ?_ ?_
        · simp only [boundsOk]; omega
        refine aq_pur (hS) rfl rfl rfl rfl rfl rfl rfl ?_
        refine aq_pure tOk rfl rfl rfl ?_ ?_
        · simp only [boundsOk]; rw [sha_length]; omega
        iterate 3 refine aq_pure tOk rfl rfl rfl trivial ?_
        refine aq_pure tOk rfl rfl rfl ?_ ?_
        · unfold inI64; omega
        refine aq_pure tOk rfl rfl rfl trivial ?_
        refine aq_pure tOk rfl rfl rfl ?_ ?_
        · unfold inI64; omega
        refine aq_pure tOk rfl rfl rfl ?_ ?_
        · simp only [boundsOk]; omega
        refine aq_pure tOk rfl rfl rfl trivial ?_
        refine aq_pureE tOk (.r (.bool true)) rfl (by show AVal.r (.bool _) = _; exact eqB (by rw [h26]; simpa [cutL, mulz] using hC)) rfl (by rfl) trivial ?_
        refine aq_pure tOk rfl rfl rfl trivial ?_
        refine aq_nil rfl ?_
        refine ag_true rfl (rfl) ?_
        refine zB ?_
        iterate 4 refine pA ?_
        refine ar_nil ?_
        refine ag_ent (ent_freeze 2 rfl rfl rfl trivial) ?_
        refine ag_ret tOk Try.func27 rfl rfl (by first | trivial | exact ⟨trivial, trivial⟩ | exact ⟨trivial, trivial, trivial⟩ | simp) ?_
        show AVal.tuple [.r (.ro (l.length + 1) (cutA (a :: l) 0 ((l.length + 1) * 1))), .r (.int .i64 _)] = _
        rw [roL_of (L := (splL b).1) (by simpa [bL'] using hacc), ← h2, List.length_drop, show (b.length : Int) - ((b.length - n : Nat) : Int) = (n : Int) by omega]
      · skip
        rw [spl_some hz] at hacc h2
        have hln := congrArg List.length hacc
        simp only [bL', List.length_append, List.length_map, List.length_cons, List.length_nil] at hln
        have hsl := spl_len b
        have hS : Pur Try.prog 23 [.r (.bs (cutL b 1 (some ((n : Int) + 6)) (some ((n : Int) + 6 + (m : Int)))))] (.r (.bs (sha x))) := by rw [show cutL b 1 (some ((n : Int) + 6)) (some ((n : Int) + 6 + (m : Int))) = x by simp only [cutL, mulz]; rw [show ((n : Int) + 6).toNat = n + 6 by omega, show ((n : Int) + 6 + (m : Int) - ((n : Int) + 6)).toNat = m by omega, hxe]; simp [List.drop_drop]]; exact w_rSum x (by rw [hxe, List.length_take]; omega)
        have h26 : cutL b 1 (some ((n : Int) + 2)) (some ((n : Int) + 6)) = ((b.drop n).drop 2).take 4 := by simp only [cutL, mulz]; rw [show ((n : Int) + 2).toNat = n + 2 by omega, show ((n : Int) + 6 - ((n : Int) + 2)).toNat = 4 by omega]; simp [List.drop_drop]
        refine ag_draw0 (by kernel_rfl) (by kernel_rfl) ?_
        refine aq_pure tOk rfl rfl rfl trivial ?_
        refine aq_pureE tOk (.r (.bool false)) rfl (by show AVal.r (.bool _) = _; exact eqB (by simp; omega)) rfl (by rfl) trivial ?_
        iterate 5 refine aq_pure tOk rfl rfl rfl trivial ?_
        refine aq_pure tOk rfl rfl rfl ?_ ?_
        · unfold inI64; omega
        refine aq_pure tOk rfl rfl rfl ?_ ?_
        · unfold inI64; omega
        refine aq_pureE tOk (.r (.bool false)) rfl (by show AVal.r (.bool _) = _; exact eqB (by simp; omega)) rfl (by rfl) trivial ?_
        iterate 4 refine aq_pure tOk rfl rfl rfl trivial ?_
        refine aq_pure tOk rfl rfl rfl ?_ ?_
        · unfold inI64; omega
        refine aq_pure tOk rfl rfl rfl trivial ?_
        refine aq_pure tOk rfl rfl rfl ?_ ?_
        · unfold inI64; omega
        refine aq_pure tOk rfl rfl rfl trivial ?_
        refine aq_pure tOk rfl rfl rfl ?_ ?_
        · unfold inI64; omega
        refine aq_pure tOk rfl rfl rfl ?_ ?_
        · simp only [boundsOk]; omega
        refine aq_pur (hS) rfl rfl rfl rfl rfl rfl rfl ?_
        refine aq_pure tOk rfl rfl rfl ?_ ?_
        · simp only [boundsOk]; rw [sha_length]; omega
        iterate 3 refine aq_pure tOk rfl rfl rfl trivial ?_
        refine aq_pure tOk rfl rfl rfl ?_ ?_
        · unfold inI64; omega
        refine aq_pure tOk rfl rfl rfl trivial ?_
        refine aq_pure tOk rfl rfl rfl ?_ ?_
        · unfold inI64; omega
        refine aq_pure tOk rfl rfl rfl ?_ ?_
        · simp only [boundsOk]; omega
        refine aq_pure tOk rfl rfl rfl trivial ?_
        refine aq_pureE tOk (.r (.bool false)) rfl (by show AVal.r (.bool _) = _; exact eqB (by rw [h26]; simpa [cutL, mulz] using hC)) rfl (by rfl) trivial ?_
        refine aq_pure tOk rfl rfl rfl trivial ?_
        refine aq_nil rfl ?_
        refine ag_false rfl (rfl) ?_
        refine ag_skip ?_
        refine zB ?_
        iterate 3 refine pA ?_
        refine ar_pure tOk rfl rfl rfl ?_ ?_
        · unfold inI64; omega
        refine pA ?_
        refine ar_pure tOk rfl rfl rfl ?_ ?_
        · unfold inI64; omega
        refine pA ?_
        refine ar_pure tOk rfl rfl rfl ?_ ?_
        · unfold inI64; omega
        refine ar_pure tOk rfl rfl rfl ?_ ?_
        · simp only [boundsOk]; omega
        refine ar_ent (ent_reg 60 (.r (.bs (x))) (by show AVal.r (.bs _) = _; exact eqBsv (by simp only [cutL, mulz]; rw [show ((n : Int) + 6).toNat = n + 6 by omega, show ((n : Int) + 6 + (m : Int) - ((n : Int) + 6)).toNat = m by omega, hxe]; simp [List.drop_drop]))) ?_
        refine ar_qd rfl (qop_buildRo tOk rfl ?_ rfl) rfl rfl rfl rfl ?_
        · repeat any_goals (first | trivial | decide | omega | (simp; done) | (rw [wu8]; omega) | refine ⟨?_, ?_⟩)
        refine ar_app tOk rfl rfl rfl ?_ ?_
        · refine ⟨⟨?_, ?_, ?_⟩, ⟨?_, ?_⟩, ⟨?_, ?_⟩, ?_⟩ <;> first | trivial | omega | (simp; done) | (simp; omega)
        refine pA ?_
        refine ar_nil ?_
        refine ag_reg ?_
        refine pA ?_
        refine ar_pure tOk rfl rfl rfl ?_ ?_
        · unfold inI64; omega
        refine pA ?_
        refine ar_pure tOk rfl rfl rfl ?_ ?_
        · unfold inI64; omega
        refine pA ?_
        refine ar_nil ?_
        refine ag_inBlock ?_
        refine ag_ent (ent_weak (g' := (strSpl_0 b (a :: l ++ [.bs x], n + 6 + m)).1) (h' := (strSpl_0 b (a :: l ++ [.bs x], n + 6 + m)).2) [1] rfl rfl rfl rfl ?_ ?_ rfl) ?_
        · exact ⟨⟨rfl, rfl⟩, ⟨rfl, by exact eqSl (by simp)⟩, ⟨rfl, by exact eqI (by omega)⟩, trivial⟩
        · exact ⟨⟨rfl, rfl, by exact eqPl (by simp [cutA_eq])⟩, trivial⟩
        have hnx := hrec (a :: l ++ [.bs x], n + 6 + m)
        refine hnx ?_ ?_
        · exact ⟨by have := hacc; rw [List.drop_drop, show n + (6 + m) = n + 6 + m by omega] at this; simpa [bL'] using this, by have := h2; rw [List.drop_drop, show n + (6 + m) = n + 6 + m by omega] at this; exact this, by omega⟩
        · show b.length - (n + 6 + m) < b.length - n; omega
    · intro h11
      rw [spl_none (nx_short (b := b.drop n) (by rw [List.length_drop]; omega))] at hacc h2
      refine ag_exit rfl ?_
      refine zB ?_
      iterate 4 refine pA ?_
      refine ar_nil ?_
      refine ag_ent (ent_freeze 2 rfl rfl rfl trivial) ?_
      refine ag_ret tOk Try.func27 rfl rfl (by first | trivial | exact ⟨trivial, trivial⟩ | exact ⟨trivial, trivial, trivial⟩ | simp) ?_
      show AVal.tuple [.r (.ro (l.length + 1) (cutA (a :: l) 0 ((l.length + 1) * 1))), .r (.int .i64 _)] = _
      rw [roL_of (L := (splL b).1) (by simpa [bL'] using hacc), ← h2, List.length_drop, show (b.length : Int) - ((b.length - n : Nat) : Int) = (n : Int) by omega]

end Go.Proofs.Ytopfpkmdkcjjlaa

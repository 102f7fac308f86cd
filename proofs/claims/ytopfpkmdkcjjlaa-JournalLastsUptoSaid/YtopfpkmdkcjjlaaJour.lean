/-
  WALKS: records (journal.Frame, next, Split), and the reference's. (Printed by gen.py out of w_jour.py.)
-/
import Derived.Test.YtopfpkmdkcjjlaaNBk
import Derived.Test.YtopfpkmdkcjjlaaCat
import Derived.Test.YtopfpkmdkcjjlaaRCat
import Derived.Test.YtopfpkmdkcjjlaaHRef
import Derived.Test.YtopfpkmdkcjjlaaDOb
namespace Go.Proofs.Ytopfpkmdkcjjlaa
open Go
set_option maxRecDepth 20000
set_option linter.unusedVariables false
set_option linter.unusedSimpArgs false

/-- A record's octets; the first record of octets, and what is behind it. -/
def frm (b : List UInt8) : List UInt8 := numL 2 (b.length : Int) ++ ((sha b).take 4 ++ b)
theorem sha4_length (b : List UInt8) : ((sha b).take 4).length = 4 := by rw [List.length_take, sha_length]; omega
theorem frm_length (b : List UInt8) : (frm b).length = b.length + 6 := by simp only [frm, List.length_append, numL_length, sha4_length]; omega
def nxN (b : List UInt8) : Nat := (intB (b.take 2)).toNat
def nx (b : List UInt8) : Option (List UInt8 × List UInt8) :=
  if 6 ≤ b.length ∧ nxN b ≤ 1024 ∧ nxN b + 6 ≤ b.length ∧ (sha ((b.drop 6).take (nxN b))).take 4 = (b.drop 2).take 4 then some ((b.drop 6).take (nxN b), b.drop (6 + nxN b)) else none
theorem nx_lt {b x r : List UInt8} (h : nx b = some (x, r)) : r.length < b.length := by
  unfold nx at h
  split at h
  · rename_i q
    simp only [Option.some.injEq, Prod.mk.injEq] at h
    obtain ⟨rfl, rfl⟩ := h
    rw [List.length_drop]; omega
  · cases h
/-- All records, and what is left. -/
def splL (b : List UInt8) : List (List UInt8) × List UInt8 :=
  match h : nx b with
  | none => ([], b)
  | some (x, r) => (x :: (splL r).1, (splL r).2)
termination_by b.length
decreasing_by all_goals exact nx_lt h
theorem spl_none {b : List UInt8} (h : nx b = none) : splL b = ([], b) := by
  rw [splL]; split
  · rfl
  · rename_i q; rw [h] at q; cases q
theorem spl_some {b x r : List UInt8} (h : nx b = some (x, r)) : splL b = (x :: (splL r).1, (splL r).2) := by
  rw [splL]; split
  · rename_i q; rw [h] at q; cases q
  · rename_i q; rw [h] at q; cases q; rfl
theorem int2 (b : List UInt8) : 0 ≤ intB (b.take 2) ∧ intB (b.take 2) < 65536 := by
  have h := intF_bound (b.take 2).length (b.take 2) (Nat.le_refl _)
  have h2 : (b.take 2).length ≤ 2 := by rw [List.length_take]; omega
  have e : intB (b.take 2) = intF ((b.take 2).take (b.take 2).length) := by rw [intB, List.take_of_length_le (by omega), List.take_length]
  rw [e]
  refine ⟨h.1, Int.lt_of_lt_of_le h.2 ?_⟩
  have : (b.take 2).length = 0 ∨ (b.take 2).length = 1 ∨ (b.take 2).length = 2 := by omega
  rcases this with q | q | q <;> rw [q] <;> decide
theorem nxN_eq (b : List UInt8) : intB (b.take 2) = (nxN b : Int) := by have := int2 b; unfold nxN; omega

theorem w_nextN (b : List UInt8) (hb : b.length ≤ 140737488351232) (h : nx b = none) : Pur Try.prog 58 [.r (.bs b)] (.tuple [.r .nil, .r (.bs b), .r (.bool false)]) := by
  obtain ⟨n, hn⟩ : ∃ n, nxN b = n := ⟨_, rfl⟩
  have hz : ¬ (6 ≤ b.length ∧ n ≤ 1024 ∧ n + 6 ≤ b.length ∧ (sha ((b.drop 6).take n)).take 4 = (b.drop 2).take 4) := by
    intro q
    rw [nx, hn, if_pos q] at h
    cases h
  clear h
  refine spec_of_go (N := 42) Try.func58 rfl (by decide) rfl rfl ?_
  refine zB ?_
  iterate 3 refine pA ?_
  refine zA ?_
  refine zB ?_
  iterate 3 refine pA ?_
  refine ar_nil ?_
  refine ag_if rfl ?_ ?_
  · intro h9
    refine zB ?_
    iterate 4 refine pA ?_
    refine ar_nil ?_
    refine ag_ret tOk Try.func58 rfl rfl (by first | trivial | exact ⟨trivial, trivial⟩ | exact ⟨trivial, trivial, trivial⟩ | simp) ?_
    rfl
  · intro h9
    refine ag_skip ?_
    refine zB ?_
    refine pA ?_
    refine ar_pure tOk rfl rfl rfl ?_ ?_
    · simp only [boundsOk]; omega
    refine ar_ent (ent_reg 12 (.r (.bs (b.take 2))) (by show AVal.r (.bs _) = _; exact eqBsv (by simp [cutL, mulz]))) ?_
    refine ar_pur (w_Int _) rfl rfl rfl rfl rfl rfl rfl ?_
    refine ar_ent (ent_reg 13 (.r (.int .i64 ((n : Int)))) (by show AVal.r (.int _ _) = _; exact eqI (by rw [nxN_eq, hn]))) ?_
    refine pA ?_
    refine zA ?_
    refine zB ?_
    iterate 3 refine pA ?_
    refine ar_guard (t := decide ((n : Int) > 1024)) (fun ht => ?_) (fun ht => ?_)
    · refine ar_ent (ent_reg 16 (.r (.bool true)) (by show AVal.r (.bool _) = _; exact eqB ht)) ?_
      have hk := of_decide_eq_true ht
      repeat (first | refine ar_skip rfl rfl rfl ?_ | refine ar_pure tOk rfl rfl rfl trivial ?_)
      refine ar_nil ?_
      refine ag_true rfl (by rfl) ?_
      refine zB ?_
      iterate 4 refine pA ?_
      refine ar_nil ?_
      refine ag_ret tOk Try.func58 rfl rfl (by first | trivial | exact ⟨trivial, trivial⟩ | exact ⟨trivial, trivial, trivial⟩ | simp) ?_
      rfl
    · refine ar_ent (ent_reg 16 (.r (.bool false)) (by show AVal.r (.bool _) = _; exact eqB ht)) ?_
      have hk0 := of_decide_eq_false ht
      iterate 3 refine pA ?_
      refine ar_pure tOk rfl rfl rfl ?_ ?_
      · unfold inI64; omega
      iterate 2 refine pA ?_
      refine ar_nil ?_
      refine ag_if rfl ?_ ?_
      · intro h22
        refine zB ?_
        iterate 4 refine pA ?_
        refine ar_nil ?_
        refine ag_ret tOk Try.func58 rfl rfl (by first | trivial | exact ⟨trivial, trivial⟩ | exact ⟨trivial, trivial, trivial⟩ | simp) ?_
        rfl
      · intro h22
        refine ag_skip ?_
        refine zB ?_
        iterate 2 refine pA ?_
        refine ar_pure tOk rfl rfl rfl ?_ ?_
        · unfold inI64; omega
        refine ar_pure tOk rfl rfl rfl ?_ ?_
        · simp only [boundsOk]; omega
        refine ar_ent (ent_reg 27 (.r (.bs ((b.drop 6).take n))) (by show AVal.r (.bs _) = _; exact eqBsv (by simp only [cutL, mulz]; rw [show (6 + (n : Int) - 6).toNat = n by omega]; rfl))) ?_
        refine pA ?_
        refine zA ?_
        refine ag_seq ?_
        refine ag_draw0 (by kernel_rfl) (by kernel_rfl) ?_
        refine aq_pure tOk rfl rfl rfl trivial ?_
        refine aq_pur (w_Sum _ (by rw [List.length_take]; omega)) rfl rfl rfl rfl rfl rfl rfl ?_
        refine aq_pure tOk rfl rfl rfl ?_ ?_
        · simp only [boundsOk]; rw [sha_length]; omega
        iterate 2 refine aq_pure tOk rfl rfl rfl trivial ?_
        refine aq_pure tOk rfl rfl rfl ?_ ?_
        · simp only [boundsOk]; omega
        iterate 2 refine aq_pure tOk rfl rfl rfl trivial ?_
        refine aq_nil rfl ?_
        refine ag_if rfl ?_ ?_
        · intro h35
          refine zB ?_
          iterate 4 refine pA ?_
          refine ar_nil ?_
          refine ag_ret tOk Try.func58 rfl rfl (by first | trivial | exact ⟨trivial, trivial⟩ | exact ⟨trivial, trivial, trivial⟩ | simp) ?_
          rfl
        · intro h35
          exfalso
          refine hz ⟨by omega, by omega, by omega, ?_⟩
          have h3 := Decidable.not_not.1 h35
          simpa [cutL, mulz] using h3

theorem w_nextS (b : List UInt8) (hb : b.length ≤ 140737488351232) (n : Nat) (hn : nxN b = n) (h6 : 6 ≤ b.length) (h1 : n ≤ 1024) (h2 : n + 6 ≤ b.length) (h3 : (sha ((b.drop 6).take n)).take 4 = (b.drop 2).take 4) : Pur Try.prog 58 [.r (.bs b)] (.tuple [.r (.bs ((b.drop 6).take n)), .r (.bs (b.drop (6 + n))), .r (.bool true)]) := by
  refine spec_of_go (N := 42) Try.func58 rfl (by decide) rfl rfl ?_
  refine zB ?_
  iterate 3 refine pA ?_
  refine zA ?_
  refine zB ?_
  iterate 3 refine pA ?_
  refine ar_nil ?_
  refine ag_false rfl (by simp; omega) ?_
  refine ag_skip ?_
  refine zB ?_
  refine pA ?_
  refine ar_pure tOk rfl rfl rfl ?_ ?_
  · simp only [boundsOk]; omega
  refine ar_ent (ent_reg 12 (.r (.bs (b.take 2))) (by show AVal.r (.bs _) = _; exact eqBsv (by simp [cutL, mulz]))) ?_
  refine ar_pur (w_Int _) rfl rfl rfl rfl rfl rfl rfl ?_
  refine ar_ent (ent_reg 13 (.r (.int .i64 ((n : Int)))) (by show AVal.r (.int _ _) = _; exact eqI (by rw [nxN_eq, hn]))) ?_
  refine pA ?_
  refine zA ?_
  refine zB ?_
  iterate 3 refine pA ?_
  refine ar_ent (ent_reg 16 (.r (.bool false)) (by show AVal.r (.bool _) = _; exact eqB (by simp; omega))) ?_
  iterate 3 refine pA ?_
  refine ar_pure tOk rfl rfl rfl ?_ ?_
  · unfold inI64; omega
  iterate 2 refine pA ?_
  refine ar_nil ?_
  refine ag_false rfl (by simp; omega) ?_
  refine ag_skip ?_
  refine zB ?_
  iterate 2 refine pA ?_
  refine ar_pure tOk rfl rfl rfl ?_ ?_
  · unfold inI64; omega
  refine ar_pure tOk rfl rfl rfl ?_ ?_
  · simp only [boundsOk]; omega
  refine ar_ent (ent_reg 27 (.r (.bs ((b.drop 6).take n))) (by show AVal.r (.bs _) = _; exact eqBsv (by simp only [cutL, mulz]; rw [show (6 + (n : Int) - 6).toNat = n by omega]; rfl))) ?_
  refine pA ?_
  refine zA ?_
  refine ag_seq ?_
  refine ag_draw0 (by kernel_rfl) (by kernel_rfl) ?_
  refine aq_pure tOk rfl rfl rfl trivial ?_
  refine aq_pur (w_Sum _ (by rw [List.length_take]; omega)) rfl rfl rfl rfl rfl rfl rfl ?_
  refine aq_pure tOk rfl rfl rfl ?_ ?_
  · simp only [boundsOk]; rw [sha_length]; omega
  iterate 2 refine aq_pure tOk rfl rfl rfl trivial ?_
  refine aq_pure tOk rfl rfl rfl ?_ ?_
  · simp only [boundsOk]; omega
  iterate 2 refine aq_pure tOk rfl rfl rfl trivial ?_
  refine aq_nil rfl ?_
  refine ag_false rfl (by simp [cutL, mulz, h3]) ?_
  refine ag_skip ?_
  refine ag_seq ?_
  refine ag_draw0 (by kernel_rfl) (by kernel_rfl) ?_
  iterate 3 refine aq_pure tOk rfl rfl rfl trivial ?_
  refine aq_pure tOk rfl rfl rfl ?_ ?_
  · unfold inI64; omega
  refine aq_pure tOk rfl rfl rfl ?_ ?_
  · simp only [boundsOk]; omega
  iterate 3 refine aq_pure tOk rfl rfl rfl trivial ?_
  refine aq_nil rfl ?_
  refine ag_ret tOk Try.func58 rfl rfl (by first | trivial | exact ⟨trivial, trivial⟩ | exact ⟨trivial, trivial, trivial⟩ | simp) ?_
  show AVal.tuple [.r (.bs _), .r (.bs (cutL b 1 (some (6 + (n : Int))) none)), .r (.bool true)] = _
  rw [show cutL b 1 (some (6 + (n : Int))) none = b.drop (6 + n) by simp only [cutL, mulz]; rw [show (6 + (n : Int)).toNat = 6 + n by omega]]

theorem w_nextO {b x r : List UInt8} (hb : b.length ≤ 140737488351232) (h : nx b = some (x, r)) : Pur Try.prog 58 [.r (.bs b)] (.tuple [.r (.bs x), .r (.bs r), .r (.bool true)]) := by
  unfold nx at h
  split at h
  · rename_i q
    simp only [Option.some.injEq, Prod.mk.injEq] at h
    obtain ⟨rfl, rfl⟩ := h
    exact w_nextS b hb _ rfl q.1 q.2.1 q.2.2.1 q.2.2.2
  · cases h

theorem w_FrameS (b : List UInt8) (hb : b.length ≤ 1024) : Pur Try.prog 25 [.r (.bs b)] (.tuple [.r (.bs (frm b)), .r (.int .i64 0)]) := by
  refine spec_of_go (N := 16) Try.func25 rfl (by decide) rfl rfl ?_
  refine zB ?_
  iterate 2 refine pA ?_
  refine zA ?_
  refine zB ?_
  iterate 3 refine pA ?_
  refine ar_nil ?_
  refine ag_false rfl (by simp; omega) ?_
  refine ag_skip ?_
  refine zB ?_
  iterate 2 refine pA ?_
  refine ar_pur (own_ro_bytes (w_Num (b.length : Int) 2 2 (by decide)) (by rw [numL_length])) rfl rfl rfl rfl rfl rfl rfl ?_
  refine pA ?_
  refine ar_pur (w_Sum b (by omega)) rfl rfl rfl rfl rfl rfl rfl ?_
  refine ar_pure tOk rfl rfl rfl ?_ ?_
  · simp only [boundsOk]; rw [sha_length]; omega
  refine ar_ent (ent_reg 12 (.r (.bs ((sha b).take 4))) (by show AVal.r (.bs _) = _; exact eqBsv (by simp [cutL, mulz]))) ?_
  refine pA ?_
  refine ar_qd rfl (qop_buildRo tOk rfl ?_ rfl) rfl rfl rfl rfl ?_
  · repeat any_goals (first | trivial | decide | omega | (simp; done) | (rw [wu8]; omega) | refine ⟨?_, ?_⟩)
  refine ar_pur (w_Cat [numL 2 (b.length : Int), (sha b).take 4, b] (by simp) (by simp only [List.flatten_cons, List.flatten_nil, List.append_nil, List.length_append, numL_length, sha4_length]; omega)) rfl rfl rfl rfl rfl rfl rfl ?_
  refine ar_ent (ent_reg 15 (.r (.bs (frm b))) (by show AVal.r (.bs _) = _; exact eqBsv (by simp [frm]))) ?_
  iterate 2 refine pA ?_
  refine ar_nil ?_
  refine ag_ret tOk Try.func25 rfl rfl (by first | trivial | exact ⟨trivial, trivial⟩ | exact ⟨trivial, trivial, trivial⟩ | simp) ?_
  rfl

theorem w_FrameL (b : List UInt8) (hb : ¬ b.length ≤ 1024) : Pur Try.prog 25 [.r (.bs b)] (.tuple [.r .nil, .r (.int .i64 5)]) := by
  refine spec_of_go (N := 16) Try.func25 rfl (by decide) rfl rfl ?_
  refine zB ?_
  iterate 2 refine pA ?_
  refine zA ?_
  refine zB ?_
  iterate 3 refine pA ?_
  refine ar_nil ?_
  refine ag_true rfl (by simp; omega) ?_
  refine zB ?_
  iterate 2 refine pA ?_
  refine ar_nil ?_
  refine ag_ret tOk Try.func25 rfl rfl (by first | trivial | exact ⟨trivial, trivial⟩ | exact ⟨trivial, trivial, trivial⟩ | simp) ?_
  rfl

end Go.Proofs.Ytopfpkmdkcjjlaa

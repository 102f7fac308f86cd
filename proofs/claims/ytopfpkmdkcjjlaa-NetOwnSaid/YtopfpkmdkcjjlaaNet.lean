/-
  WALKS: octets on their way (net). (Printed by gen.py out of w_net.py.)
-/
import Derived.Test.YtopfpkmdkcjjlaaClone
import Derived.Test.YtopfpkmdkcjjlaaMB
namespace Go.Proofs.Ytopfpkmdkcjjlaa
open Go
set_option maxRecDepth 20000
set_option linter.unusedVariables false
set_option linter.unusedSimpArgs false
structure NmV where
  to : Int
  d : Option (List UInt8)
def dV : Option (List UInt8) → RVal
  | none => .nil
  | some b => .bs b
def nmC (m : NmV) : List RVal := [.int .i64 m.to, dV m.d]
def nmA (m : NmV) : AVal := .agg ((nmC m).map .r)
def nmsC (L : List NmV) : List RVal := L.flatMap nmC
def roN (L : List NmV) : AVal := .r (.ro L.length (nmsC L))
def NmV.ok (m : NmV) : Prop := ∀ b, m.d = some b → b.length ≤ 140737488355328
def ownM (m : NmV) : NmV := ⟨m.to, some (m.d.getD [])⟩
theorem nmC_len (m : NmV) : (nmC m).length = 2 := rfl
theorem nmsC_len (L : List NmV) : (nmsC L).length = L.length * 2 := by
  induction L with
  | nil => rfl
  | cons x l ih => simp only [nmsC, List.flatMap_cons, List.length_append, List.length_cons] at *; rw [ih, nmC_len]; omega
theorem nmsC_get : ∀ {L : List NmV} {i : Nat} {e : NmV}, L[i]? = some e → (((Body.plain (nmsC L)).cells.drop (i * 2)).take 2) = (nmC e).map .r
  | [], i, e, h => by simp at h
  | o :: L, 0, e, h => by
    simp at h
    subst h
    simp only [nmsC, Body.cells, List.flatMap_cons, List.map_append, Nat.zero_mul, List.drop_zero]
    rw [List.take_append_of_le_length (by simp [nmC_len]), List.take_of_length_le (by simp [nmC_len])]
  | o :: L, i + 1, e, h => by
    have := nmsC_get (L := L) (i := i) (by simpa using h)
    rw [← this]
    simp only [nmsC, Body.cells, List.flatMap_cons, List.map_append]
    rw [Nat.succ_mul, Nat.add_comm (i * 2) 2, ← List.drop_drop, List.drop_append_of_le_length (by simp [nmC_len]), List.drop_of_length_le (l := (nmC o).map AVal.r) (by simp [nmC_len]), List.nil_append]
def hN (l : List NmV) : Hp := match l with
  | [] => ⟨0, [], false⟩
  | x :: r => ⟨1, [(0, some (.plain (nmsC (x :: r))))], false⟩
theorem w_ownS (to : Int) (b : List UInt8) (hb : b.length ≤ 140737488355328) : Pur Try.prog 41 [nmA ⟨to, some b⟩] (nmA ⟨to, some b⟩) := by
  refine spec_of_go (N := 8) Try.func41 rfl (by decide) rfl rfl ?_
  refine zB ?_
  refine ar_new tOk rfl rfl rfl trivial ?_
  refine ar_new tOk rfl rfl rfl ?_ ?_
  · simp
  refine zC ?_
  refine pA ?_
  refine pB ?_
  refine ar_pur (w_CloneB b hb) rfl rfl rfl rfl rfl rfl rfl ?_
  refine pA ?_
  refine ar_store tOk rfl rfl rfl trivial ?_
  refine zC ?_
  refine pB ?_
  refine ar_store tOk rfl rfl rfl trivial ?_
  refine ar_nil ?_
  refine ag_ret tOk Try.func41 rfl rfl (by first | trivial | exact ⟨trivial, trivial⟩ | simp) ?_
  rfl
theorem w_ownN (to : Int) : Pur Try.prog 41 [nmA ⟨to, none⟩] (nmA ⟨to, some []⟩) := by
  refine spec_of_go (N := 8) Try.func41 rfl (by decide) rfl rfl ?_
  refine zB ?_
  refine ar_new tOk rfl rfl rfl trivial ?_
  refine ar_new tOk rfl rfl rfl ?_ ?_
  · simp
  refine zC ?_
  refine pA ?_
  refine pB ?_
  refine ar_pur (w_CloneN) rfl rfl rfl rfl rfl rfl rfl ?_
  refine pA ?_
  refine ar_store tOk rfl rfl rfl trivial ?_
  refine zC ?_
  refine pB ?_
  refine ar_store tOk rfl rfl rfl trivial ?_
  refine ar_nil ?_
  refine ag_ret tOk Try.func41 rfl rfl (by first | trivial | exact ⟨trivial, trivial⟩ | simp) ?_
  rfl
theorem w_own (m : NmV) (hm : m.ok) : Pur Try.prog 41 [nmA m] (nmA (ownM m)) := by
  obtain ⟨to, d⟩ := m
  cases d with
  | none => exact w_ownN to
  | some b => exact w_ownS to b (hm b rfl)
theorem w_all0  : Pur Try.prog 38 [.r .nil] (.r .nil) := by
  refine spec_of_go (N := 19) Try.func38 rfl (by decide) rfl rfl ?_
  refine zB ?_
  refine pA ?_
  refine zC ?_
  refine pA ?_
  refine zA ?_
  refine zB ?_
  iterate 3 refine pA ?_
  refine ar_nil ?_
  refine ag_block ?_
  refine ag_unroll ?_
  refine zB ?_
  refine pA ?_
  refine zA ?_
  refine ag_false rfl (by decide) ?_
  refine ag_exit rfl ?_
  refine zB ?_
  iterate 2 refine pA ?_
  refine ar_nil ?_
  refine ag_ret tOk Try.func38 rfl rfl (by first | trivial | exact ⟨trivial, trivial⟩ | simp) ?_
  rfl
theorem w_put0 (m : NmV) (hm : m.ok) : Own Try.prog 39 [.r .nil, nmA m] 1 2 (.plain (nmsC [ownM m])) := by
  refine spec_of_go (N := 14) Try.func39 rfl (by decide) rfl rfl ?_
  refine zB ?_
  refine ar_new tOk rfl rfl rfl trivial ?_
  refine pA ?_
  refine zA ?_
  refine zB ?_
  iterate 3 refine pA ?_
  refine ar_nil ?_
  refine ag_false rfl (by decide) ?_
  refine ag_skip ?_
  refine zB ?_
  refine pA ?_
  refine pB ?_
  refine ar_pur (w_own m hm) rfl rfl rfl rfl rfl rfl rfl ?_
  refine ar_qd rfl (qop_buildRo tOk rfl ?_ rfl) rfl rfl rfl rfl ?_
  · repeat any_goals (first | trivial | decide | omega | (simp; done) | (rw [wu8]; omega) | refine ⟨?_, ?_⟩)
  refine ar_app tOk rfl rfl rfl ?_ ?_
  · refine ⟨⟨?_, ?_, ?_⟩, ⟨?_, ?_⟩, ⟨?_, ?_⟩, ?_⟩ <;> first | trivial | omega | (simp; done) | (simp; omega)
  refine pA ?_
  refine ar_nil ?_
  refine ag_ret tOk Try.func39 rfl rfl (by simp) ?_
  exact ⟨_, rfl, by first | rfl | (simp [nmsC, nmC]; done)⟩
end Go.Proofs.Ytopfpkmdkcjjlaa


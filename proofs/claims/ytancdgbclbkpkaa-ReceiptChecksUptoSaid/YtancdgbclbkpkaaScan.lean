/-
  WALKS: what events tell (scan). (Printed by gen.py out of w_scan.py.)
-/
import Derived.Test.YtancdgbclbkpkaaDeal3
import Derived.Test.YtancdgbclbkpkaaTxs
import Derived.Test.YtancdgbclbkpkaaMB
namespace Go.Proofs.Ytancdgbclbkpkaa
open Go
set_option maxRecDepth 20000
set_option linter.unusedVariables false
set_option linter.unusedSimpArgs false
structure EvV where
  t : Int
  c : Int
  x : TxV
def evC (e : EvV) : List RVal := .int .i64 e.t :: .int .i64 e.c :: txC e.x
def eventA (e : EvV) : AVal := .agg ((evC e).map .r)
def ev0 : EvV := ⟨0, 0, tx0⟩
def evsC (L : List EvV) : List RVal := L.flatMap evC
def roE (L : List EvV) : AVal := .r (.ro L.length (evsC L))
def txsC (L : List TxV) : List RVal := L.flatMap txC
def kk (key : List UInt8) (kind : Int) : Hp := ⟨2, [(0, some (.mixed [.r (.str key)])), (1, some (.mixed [.r (.int .i64 kind)]))], false⟩
theorem evC_len (e : EvV) : (evC e).length = 27 := rfl
theorem evsC_get : ∀ {L : List EvV} {i : Nat} {e : EvV}, L[i]? = some e → (((Body.plain (evsC L)).cells.drop (i * 27)).take 27) = (evC e).map .r
  | [], i, e, h => by simp at h
  | o :: L, 0, e, h => by
    simp at h
    subst h
    simp only [evsC, Body.cells, List.flatMap_cons, List.map_append, Nat.zero_mul, List.drop_zero]
    rw [List.take_append_of_le_length (by simp [evC_len]), List.take_of_length_le (by simp [evC_len])]
  | o :: L, i + 1, e, h => by
    have := evsC_get (L := L) (i := i) (by simpa using h)
    rw [← this]
    simp only [evsC, Body.cells, List.flatMap_cons, List.map_append]
    rw [Nat.succ_mul, Nat.add_comm (i * 27) 27, ← List.drop_drop, List.drop_append_of_le_length (by simp [evC_len]), List.drop_of_length_le (l := (evC o).map AVal.r) (by simp [evC_len]), List.nil_append]
theorem evsC_ne {L : List EvV} {i : Nat} {e : EvV} (h : L[i]? = some e) : evsC L ≠ [] := by
  cases L with
  | nil => simp at h
  | cons a l => simp [evsC, evC]
def hT (l : List TxV) : Hp := match l with
  | [] => ⟨0, [], false⟩
  | x :: r => ⟨1, [(0, some (.plain (txsC (x :: r))))], false⟩
end Go.Proofs.Ytancdgbclbkpkaa


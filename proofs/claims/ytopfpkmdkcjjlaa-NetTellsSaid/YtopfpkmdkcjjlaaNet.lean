/-
  WALKS: octets on their way (net). (Printed by gen.py out of w_net.py.)
-/
import Derived.Test.YtopfpkmdkcjjlaaClone
import Derived.Test.YtopfpkmdkcjjlaaMkS
import Derived.Test.YtopfpkmdkcjjlaaMB
namespace Go.Proofs.Ytopfpkmdkcjjlaa
open Go
set_option maxRecDepth 20000
set_option linter.unusedVariables false
set_option linter.unusedSimpArgs false
structure NmV where
  to : Int
  d : Option (List UInt8)
def dV : Option (List UInt8) → RVal
  | none => .nil
  | some b => .bs b
def nmC (m : NmV) : List RVal := [.int .i64 m.to, dV m.d]
def nmA (m : NmV) : AVal := .agg ((nmC m).map .r)
def nmsC (L : List NmV) : List RVal := L.flatMap nmC
def roN (L : List NmV) : AVal := .r (.ro L.length (nmsC L))
def NmV.ok (m : NmV) : Prop := ∀ b, m.d = some b → b.length ≤ 140737488355328
def ownM (m : NmV) : NmV := ⟨m.to, some (m.d.getD [])⟩
theorem nmC_len (m : NmV) : (nmC m).length = 2 := rfl
theorem nmsC_len (L : List NmV) : (nmsC L).length = L.length * 2 := by
  induction L with
  | nil => rfl
  | cons x l ih => simp only [nmsC, List.flatMap_cons, List.length_append, List.length_cons] at *; rw [ih, nmC_len]; omega
theorem nmsC_app (A B : List NmV) : nmsC (A ++ B) = nmsC A ++ nmsC B := by simp [nmsC]
theorem nmsC_get : ∀ {L : List NmV} {i : Nat} {e : NmV}, L[i]? = some e → (((Body.plain (nmsC L)).cells.drop (i * 2)).take 2) = (nmC e).map .r
  | [], i, e, h => by simp at h
  | o :: L, 0, e, h => by
    simp at h
    subst h
    simp only [nmsC, Body.cells, List.flatMap_cons, List.map_append, Nat.zero_mul, List.drop_zero]
    rw [List.take_append_of_le_length (by simp [nmC_len]), List.take_of_length_le (by simp [nmC_len])]
  | o :: L, i + 1, e, h => by
    have := nmsC_get (L := L) (i := i) (by simpa using h)
    rw [← this]
    simp only [nmsC, Body.cells, List.flatMap_cons, List.map_append]
    rw [Nat.succ_mul, Nat.add_comm (i * 2) 2, ← List.drop_drop, List.drop_append_of_le_length (by simp [nmC_len]), List.drop_of_length_le (l := (nmC o).map AVal.r) (by simp [nmC_len]), List.nil_append]
theorem nmsC_ne {L : List NmV} {i : Nat} {e : NmV} (h : L[i]? = some e) : nmsC L ≠ [] := by
  cases L with
  | nil => simp at h
  | cons a l => simp [nmsC, nmC]
theorem nmsC_nx (L : List NmV) (x : NmV) {n : Nat} (hn : n = L.length) : cutA (nmsC L) 0 (n * 2) ++ nmC x = nmsC (L ++ [x]) := by
  subst hn
  rw [nmsC_app, cutA_eq, List.drop_zero, List.take_of_length_le (by rw [nmsC_len]; exact Nat.le_refl _)]
  simp [nmsC]
theorem own_next {L : List NmV} {i : Nat} {e : NmV} (h : L[i]? = some e) : (L.take (i + 1)).map ownM = (L.take i).map ownM ++ [ownM e] := by
  rw [List.take_add_one, h, List.map_append]; rfl
def aN (n : Nat) : List NmV → AVal
  | [] => .r .nil
  | _ :: r => .sl 0 0 (r.length + 1) 2
def hN (l : List NmV) : Hp := match l with
  | [] => ⟨0, [], false⟩
  | x :: r => ⟨1, [(0, some (.plain (nmsC (x :: r))))], false⟩
def hN1 (L : List NmV) : Hp := ⟨2, [(1, some (.plain (nmsC L)))], false⟩
def hNL (L : List NmV) : Hp := ⟨1, [(0, some (.plain (nmsC L)))], false⟩
theorem w_ownS (to : Int) (b : List UInt8) (hb : b.length ≤ 140737488355328) : Pur Try.prog 41 [nmA ⟨to, some b⟩] (nmA ⟨to, some b⟩) := by
  refine spec_of_go (N := 8) Try.func41 rfl (by decide) rfl rfl ?_
  refine zB ?_
  refine ar_new tOk rfl rfl rfl trivial ?_
  refine ar_new tOk rfl rfl rfl ?_ ?_
  · simp
  refine zC ?_
  refine pA ?_
  refine pB ?_
  refine ar_pur (w_CloneB b hb) rfl rfl rfl rfl rfl rfl rfl ?_
  refine pA ?_
  refine ar_store tOk rfl rfl rfl trivial ?_
  refine zC ?_
  refine pB ?_
  refine ar_store tOk rfl rfl rfl trivial ?_
  refine ar_nil ?_
  refine ag_ret tOk Try.func41 rfl rfl (by first | trivial | exact ⟨trivial, trivial⟩ | simp) ?_
  rfl
theorem w_ownN (to : Int) : Pur Try.prog 41 [nmA ⟨to, none⟩] (nmA ⟨to, some []⟩) := by
  refine spec_of_go (N := 8) Try.func41 rfl (by decide) rfl rfl ?_
  refine zB ?_
  refine ar_new tOk rfl rfl rfl trivial ?_
  refine ar_new tOk rfl rfl rfl ?_ ?_
  · simp
  refine zC ?_
  refine pA ?_
  refine pB ?_
  refine ar_pur (w_CloneN) rfl rfl rfl rfl rfl rfl rfl ?_
  refine pA ?_
  refine ar_store tOk rfl rfl rfl trivial ?_
  refine zC ?_
  refine pB ?_
  refine ar_store tOk rfl rfl rfl trivial ?_
  refine ar_nil ?_
  refine ag_ret tOk Try.func41 rfl rfl (by first | trivial | exact ⟨trivial, trivial⟩ | simp) ?_
  rfl
theorem w_own (m : NmV) (hm : m.ok) : Pur Try.prog 41 [nmA m] (nmA (ownM m)) := by
  obtain ⟨to, d⟩ := m
  cases d with
  | none => exact w_ownN to
  | some b => exact w_ownS to b (hm b rfl)
def stnAl_0 (L : List NmV) : Nat × List NmV → Regs × Hp := fun ⟨i, acc⟩ => ([(6, roN L), (7, .r (.int .i64 (L.length : Int))), (8, .r (.int .i64 (i : Int))), (3, aN 0 acc)], hN acc)
def prnAl_0 (L : List NmV) : Nat × List NmV → Prop := fun ⟨i, acc⟩ => i ≤ L.length ∧ acc = (L.take i).map ownM
theorem w_all (L : List NmV) (hok : ∀ e ∈ L, e.ok) (hL : L.length ≤ 1048576) (hne : L ≠ []) : Own Try.prog 38 [roN L] L.length 2 (.plain (nmsC (L.map ownM))) := by
  refine spec_of_go (N := 19) Try.func38 rfl (by decide) rfl rfl ?_
  refine zB ?_
  refine pA ?_
  refine zC ?_
  refine pA ?_
  refine zA ?_
  refine zB ?_
  iterate 3 refine pA ?_
  refine ar_nil ?_
  refine ag_block ?_
  refine ag_loopS (stnAl_0 L) (prnAl_0 L) (fun ⟨i, acc⟩ => L.length - i) (0, []) (ent_weak [] rfl rfl rfl rfl ?_ ?_ rfl) (show prnAl_0 L (0, []) from ?_) ?_
  · exact ⟨⟨rfl, rfl⟩, ⟨rfl, rfl⟩, ⟨rfl, rfl⟩, ⟨rfl, rfl⟩, trivial⟩
  · trivial
  · exact ⟨Nat.zero_le _, rfl⟩
  rintro ⟨i, acc⟩ hp hrec
  cases acc with
  | nil =>
    obtain ⟨hi, hacc⟩ : _ := hp
    refine ag_ent (ent_weak (g' := [(6, roN L), (7, .r (.int .i64 (L.length : Int))), (8, .r (.int .i64 (i : Int))), (3, .r .nil)]) (h' := ⟨0, [], false⟩) [] rfl rfl rfl rfl ?_ ?_ rfl) ?_
    · exact ⟨⟨rfl, rfl⟩, ⟨rfl, rfl⟩, ⟨rfl, rfl⟩, ⟨rfl, rfl⟩, trivial⟩
    · trivial
    refine zB ?_
    refine pA ?_
    refine zA ?_
    refine ag_if rfl ?_ ?_
    · intro h9
      obtain ⟨e, hx⟩ : ∃ e, L[i]? = some e := ⟨L[i]'(by omega), by simp⟩
      have hex := hok e (List.mem_of_getElem? hx)
      have hll := congrArg List.length hacc
      rw [List.length_map, List.length_take] at hll
      simp only [List.length_cons, List.length_nil] at hll
      
      refine ag_skip ?_
      refine ag_seq ?_
      refine ag_block ?_
      refine zB ?_
      refine ar_pure tOk rfl rfl rfl ?_ ?_
      · refine ⟨?_, ?_⟩ <;> first | omega | exact nmsC_ne hx | (refine ⟨?_, ?_⟩ <;> omega)
      refine ar_loadAs tOk (nmA e) rfl rfl rfl rfl rfl rfl rfl (.inr ⟨rfl, _, rfl, by rw [mulz_eq, Int.toNat_natCast]; exact nmsC_get hx, rfl⟩) ?_
      refine ar_new tOk rfl rfl rfl ?_ ?_
      · simp
      refine ar_store tOk rfl rfl rfl trivial ?_
      refine ar_nil ?_
      refine ag_reg ?_
      refine pA ?_
      refine pB ?_
      refine ar_pur (w_own e hex) rfl rfl rfl rfl rfl rfl rfl ?_
      refine ar_qd rfl (qop_buildRo tOk rfl ?_ rfl) rfl rfl rfl rfl ?_
      · repeat any_goals (first | trivial | decide | omega | (simp; done) | (rw [wu8]; omega) | refine ⟨?_, ?_⟩)
      refine ar_app tOk rfl rfl rfl ?_ ?_
      · refine ⟨⟨?_, ?_, ?_⟩, ⟨?_, ?_⟩, ⟨?_, ?_⟩, ?_⟩ <;> first | trivial | omega | (simp; done) | (simp; omega)
      refine pA ?_
      refine ar_nil ?_
      refine ag_inBlock ?_
      refine ag_reg ?_
      refine ar_pure tOk rfl rfl rfl ?_ ?_
      · unfold inI64; omega
      refine pA ?_
      refine ar_nil ?_
      refine ag_ent (ent_weak (g' := (stnAl_0 L (i + 1, [ownM e])).1) (h' := (stnAl_0 L (i + 1, [ownM e])).2) [1] rfl rfl rfl rfl ?_ ?_ rfl) ?_
      · exact ⟨⟨rfl, rfl⟩, ⟨rfl, rfl⟩, ⟨rfl, by exact eqI (by omega)⟩, ⟨rfl, rfl⟩, trivial⟩
      · exact ⟨⟨rfl, rfl, by exact eqPl (by simp [nmsC, nmC])⟩, trivial⟩
      have hnx := hrec (i + 1, [ownM e])
      refine hnx ?_ ?_
      · exact ⟨by omega, by rw [own_next hx, ← hacc]; try rfl⟩
      · show L.length - (i + 1) < L.length - i; omega
    · intro h9
      obtain rfl : i = L.length := by omega
      rw [List.take_length] at hacc
      refine ag_exit rfl ?_
      refine zB ?_
      iterate 2 refine pA ?_
      refine ar_nil ?_
      refine ag_ret tOk Try.func38 rfl rfl (by simp) ?_
      exact absurd (List.map_eq_nil_iff.1 hacc.symm) hne
  | cons a l =>
    obtain ⟨hi, hacc⟩ : _ := hp
    refine ag_ent (ent_weak (g' := [(6, roN L), (7, .r (.int .i64 (L.length : Int))), (8, .r (.int .i64 (i : Int))), (3, .sl 0 0 (l.length + 1) 2)]) (h' := ⟨1, [(0, some (.plain (nmsC (a :: l))))], false⟩) [0] rfl rfl rfl rfl ?_ ?_ rfl) ?_
    · exact ⟨⟨rfl, rfl⟩, ⟨rfl, rfl⟩, ⟨rfl, rfl⟩, ⟨rfl, rfl⟩, trivial⟩
    · exact ⟨⟨rfl, rfl, rfl⟩, trivial⟩
    refine zB ?_
    refine pA ?_
    refine zA ?_
    refine ag_if rfl ?_ ?_
    · intro h9
      obtain ⟨e, hx⟩ : ∃ e, L[i]? = some e := ⟨L[i]'(by omega), by simp⟩
      have hex := hok e (List.mem_of_getElem? hx)
      have hll := congrArg List.length hacc
      rw [List.length_map, List.length_take] at hll
      simp only [List.length_cons, List.length_nil] at hll
      have htl := nmsC_len (a :: l)
      simp only [List.length_cons] at htl
      refine ag_skip ?_
      refine ag_seq ?_
      refine ag_block ?_
      refine zB ?_
      refine ar_pure tOk rfl rfl rfl ?_ ?_
      · refine ⟨?_, ?_⟩ <;> first | omega | exact nmsC_ne hx | (refine ⟨?_, ?_⟩ <;> omega)
      refine ar_loadAs tOk (nmA e) rfl rfl rfl rfl rfl rfl rfl (.inr ⟨rfl, _, rfl, by rw [mulz_eq, Int.toNat_natCast]; exact nmsC_get hx, rfl⟩) ?_
      refine ar_new tOk rfl rfl rfl ?_ ?_
      · simp
      refine ar_store tOk rfl rfl rfl trivial ?_
      refine ar_nil ?_
      refine ag_reg ?_
      refine pA ?_
      refine pB ?_
      refine ar_pur (w_own e hex) rfl rfl rfl rfl rfl rfl rfl ?_
      refine ar_qd rfl (qop_buildRo tOk rfl ?_ rfl) rfl rfl rfl rfl ?_
      · repeat any_goals (first | trivial | decide | omega | (simp; done) | (rw [wu8]; omega) | refine ⟨?_, ?_⟩)
      refine ar_app tOk rfl rfl rfl ?_ ?_
      · refine ⟨⟨?_, ?_, ?_⟩, ⟨?_, ?_⟩, ⟨?_, ?_⟩, ?_⟩ <;> first | trivial | omega | (simp; done) | (simp; omega)
      refine pA ?_
      refine ar_nil ?_
      refine ag_inBlock ?_
      refine ag_reg ?_
      refine ar_pure tOk rfl rfl rfl ?_ ?_
      · unfold inI64; omega
      refine pA ?_
      refine ar_nil ?_
      refine ag_ent (ent_weak (g' := (stnAl_0 L (i + 1, a :: l ++ [ownM e])).1) (h' := (stnAl_0 L (i + 1, a :: l ++ [ownM e])).2) [2] rfl rfl rfl rfl ?_ ?_ rfl) ?_
      · exact ⟨⟨rfl, rfl⟩, ⟨rfl, rfl⟩, ⟨rfl, by exact eqI (by omega)⟩, ⟨rfl, by exact eqSl (by simp)⟩, trivial⟩
      · exact ⟨⟨rfl, rfl, by exact eqPl (nmsC_nx (a :: l) (ownM e) rfl)⟩, trivial⟩
      have hnx := hrec (i + 1, a :: l ++ [ownM e])
      refine hnx ?_ ?_
      · exact ⟨by omega, by rw [own_next hx, ← hacc]; try rfl⟩
      · show L.length - (i + 1) < L.length - i; omega
    · intro h9
      obtain rfl : i = L.length := by omega
      rw [List.take_length] at hacc
      refine ag_exit rfl ?_
      refine zB ?_
      iterate 2 refine pA ?_
      refine ar_nil ?_
      refine ag_ret tOk Try.func38 rfl rfl (by simp) ?_
      have hlm : (L.map ownM).length = L.length := List.length_map ownM
      rw [← hacc, List.length_cons] at hlm
      refine ⟨0, (show AVal.sl 0 0 (l.length + 1) 2 = AVal.sl 0 0 L.length 2 from eqSl (by omega)), ?_⟩
      rw [← hacc]; rfl
theorem w_all0  : Pur Try.prog 38 [.r .nil] (.r .nil) := by
  refine spec_of_go (N := 19) Try.func38 rfl (by decide) rfl rfl ?_
  refine zB ?_
  refine pA ?_
  refine zC ?_
  refine pA ?_
  refine zA ?_
  refine zB ?_
  iterate 3 refine pA ?_
  refine ar_nil ?_
  refine ag_block ?_
  refine ag_unroll ?_
  refine zB ?_
  refine pA ?_
  refine zA ?_
  refine ag_false rfl (by decide) ?_
  refine ag_exit rfl ?_
  refine zB ?_
  iterate 2 refine pA ?_
  refine ar_nil ?_
  refine ag_ret tOk Try.func38 rfl rfl (by first | trivial | exact ⟨trivial, trivial⟩ | simp) ?_
  rfl
theorem w_putN (L : List NmV) (hL : L.length ≤ 1048576) (hlt : L.length < 512) (m : NmV) (hm : m.ok) : Spec Try.prog 39 [.sl 0 0 L.length 2, nmA m] (hNL L) (fun v h' => v = .sl 1 0 (L.length + 1) 2 ∧ h' = hN1 (L ++ [ownM m])) := by
  have htl := nmsC_len L
  refine spec_of_go (N := 14) Try.func39 rfl (by decide) rfl rfl ?_
  refine zB ?_
  refine ar_new tOk rfl rfl rfl trivial ?_
  refine pA ?_
  refine zA ?_
  refine zB ?_
  iterate 3 refine pA ?_
  refine ar_nil ?_
  refine ag_false rfl (decide_eq_false (by omega)) ?_
  refine ag_skip ?_
  refine zB ?_
  refine pA ?_
  refine pB ?_
  refine ar_pur (w_own m hm) rfl rfl rfl rfl rfl rfl rfl ?_
  refine ar_qd rfl (qop_buildRo tOk rfl ?_ rfl) rfl rfl rfl rfl ?_
  · repeat any_goals (first | trivial | decide | omega | (simp; done) | (rw [wu8]; omega) | refine ⟨?_, ?_⟩)
  refine ar_app tOk rfl rfl rfl ?_ ?_
  · refine ⟨⟨?_, ?_, ?_⟩, ⟨?_, ?_⟩, ⟨?_, ?_⟩, ?_⟩ <;> first | trivial | omega | (simp; done) | (simp; omega)
  refine pA ?_
  refine ar_nil ?_
  refine ag_ent (ent_weak (g' := [(4, .sl 1 0 (L.length + 1) 2)]) (h' := hN1 (L ++ [ownM m])) [0, 2] rfl rfl rfl rfl ?_ ?_ rfl) ?_
  · exact ⟨⟨rfl, rfl⟩, trivial⟩
  · exact ⟨⟨rfl, rfl, eqPl (nmsC_nx L (ownM m) rfl)⟩, trivial⟩
  refine ag_ret tOk Try.func39 rfl rfl (by simp) ?_
  exact ⟨rfl, rfl⟩
theorem w_put0 (m : NmV) (hm : m.ok) : Own Try.prog 39 [.r .nil, nmA m] 1 2 (.plain (nmsC [ownM m])) := by
  refine spec_of_go (N := 14) Try.func39 rfl (by decide) rfl rfl ?_
  refine zB ?_
  refine ar_new tOk rfl rfl rfl trivial ?_
  refine pA ?_
  refine zA ?_
  refine zB ?_
  iterate 3 refine pA ?_
  refine ar_nil ?_
  refine ag_false rfl (by decide) ?_
  refine ag_skip ?_
  refine zB ?_
  refine pA ?_
  refine pB ?_
  refine ar_pur (w_own m hm) rfl rfl rfl rfl rfl rfl rfl ?_
  refine ar_qd rfl (qop_buildRo tOk rfl ?_ rfl) rfl rfl rfl rfl ?_
  · repeat any_goals (first | trivial | decide | omega | (simp; done) | (rw [wu8]; omega) | refine ⟨?_, ?_⟩)
  refine ar_app tOk rfl rfl rfl ?_ ?_
  · refine ⟨⟨?_, ?_, ?_⟩, ⟨?_, ?_⟩, ⟨?_, ?_⟩, ?_⟩ <;> first | trivial | omega | (simp; done) | (simp; omega)
  refine pA ?_
  refine ar_nil ?_
  refine ag_ret tOk Try.func39 rfl rfl (by simp) ?_
  exact ⟨_, rfl, by first | rfl | (simp [nmsC, nmC]; done)⟩
def placeI (at_ n : Int) : Int := Int.tmod (Int.tmod at_ n + n) n
theorem w_place (at_ n : Int) (hn : 0 < n) (hn2 : n ≤ 1048576) : Pur Try.prog 40 [.r (.int .i64 at_), .r (.int .i64 n)] (.r (.int .i64 (placeI at_ n))) := by
  have q1 := Int.lt_tmod_of_pos at_ hn
  have q2 := Int.tmod_lt_of_pos at_ hn
  have hn0 : n ≠ 0 := by omega
  refine spec_of_go (N := 12) Try.func40 rfl (by decide) rfl rfl ?_
  refine zB ?_
  refine pA ?_
  refine zC ?_
  iterate 2 refine pA ?_
  refine ar_pure tOk rfl rfl rfl ?_ ?_
  · exact hn0
  refine pA ?_
  refine ar_pure tOk rfl rfl rfl ?_ ?_
  · unfold inI64; omega
  refine pA ?_
  refine ar_pure tOk rfl rfl rfl ?_ ?_
  · exact hn0
  refine pA ?_
  refine ar_nil ?_
  refine ag_ret tOk Try.func40 rfl rfl (by first | trivial | exact ⟨trivial, trivial⟩ | simp) ?_
  rfl
end Go.Proofs.Ytopfpkmdkcjjlaa


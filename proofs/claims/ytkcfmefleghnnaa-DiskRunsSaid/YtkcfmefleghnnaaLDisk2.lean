/-
  WALKS: the law DiskRuns. (Printed by gen.py out of w_ldisk2.py.)
-/
import Derived.Test.YtkcfmefleghnnaaLDisk
namespace Go.Proofs.Ytkcfmefleghnnaa
open Go
set_option maxRecDepth 20000
set_option linter.unusedVariables false
set_option linter.unusedSimpArgs false

/-- What lies on a disk: nothing; octets, of which so many are there and so many sure. -/
inductive DR where
  | nil : DR
  | buf (x : List UInt8) (n su : Nat) : DR
def DR.txt : DR → List UInt8
  | .nil => []
  | .buf x n _ => x.take n
def DR.sur : DR → Int
  | .nil => 0
  | .buf _ _ su => su
def DR.hp (ro : Int) : DR → Hp
  | .nil => dN 0 ro true
  | .buf x n su => dB n x su ro true
def DR.ok (ro : Int) : DR → Prop
  | .nil => True
  | .buf x n su => n ≤ x.length ∧ su ≤ n ∧ (n : Int) ≤ ro
def opsC (l : List (Int × Int × List UInt8)) : List RVal := l.flatMap fun o => [.int .i64 o.1, .int .i64 o.2.1, .bs o.2.2]
theorem opsC_get : ∀ {l : List (Int × Int × List UInt8)} {i : Nat} {k n : Int} {d : List UInt8}, l[i]? = some (k, n, d) → (((Body.plain (opsC l)).cells.drop (i * 3)).take 3) = [.r (.int .i64 k), .r (.int .i64 n), .r (.bs d)]
  | [], i, k, n, d, h => by simp at h
  | o :: l, 0, k, n, d, h => by
    simp at h
    subst h
    simp [opsC, Body.cells]
  | o :: l, i + 1, k, n, d, h => by
    have := opsC_get (l := l) (i := i) (by simpa using h)
    rw [← this]
    simp only [opsC, Body.cells, List.flatMap_cons, List.map_append, List.map_cons, List.map_nil]
    rw [Nat.succ_mul, Nat.add_comm (i * 3) 3, ← List.drop_drop]
    simp
theorem opsC_ne {l : List (Int × Int × List UInt8)} {i : Nat} {o : Int × Int × List UInt8} (h : l[i]? = some o) : opsC l ≠ [] := by
  cases l with
  | nil => simp at h
  | cons a l => simp [opsC]
theorem tm4 (k : Int) : -4 < k.tmod 4 ∧ k.tmod 4 < 4 := ⟨Int.lt_tmod_of_pos k (by decide), Int.tmod_lt_of_pos k (by decide)⟩
theorem tk1 {x d : List UInt8} {n : Nat} (h : n ≤ x.length) : (x.take n ++ d).take (n + d.length) = x.take n ++ d := List.take_of_length_le (by simp; omega)
theorem tk2 {x : List UInt8} {j n : Nat} (h : j ≤ n) : cutL (x.take n) 1 none (some (j : Int)) = x.take j := by simp [cutL, mulz, List.take_take, Nat.min_eq_left h]

def stDRuns_0 (room : Int) (ops : List (Int × Int × List UInt8)) : Nat × DR → Regs × Hp := fun x => ([(0, .r (.int .i64 room)), (1, .r (.ro ops.length (opsC ops))), (5, .ptr 0 0), (6, .r (.str x.2.txt)), (7, .r (.int .i64 x.2.sur)), (8, .r (.int .i64 (x.1 : Int)))], x.2.hp (max room 0))
def prDRuns_0 (room : Int) (ops : List (Int × Int × List UInt8)) : Nat × DR → Prop := fun ⟨i, r⟩ => i ≤ 40 ∧ r.ok (max room 0)
theorem w_DiskRuns0 (room0 room : Int) (ops : List (Int × Int × List UInt8)) (hm : -50 < room0.tmod 50 ∧ room0.tmod 50 < 50) (hr : (room0.tmod 50 + 50).tmod 50 - 1 = room) (hr1 : -1 ≤ room) (hr2 : room ≤ 48) : Pur Try.prog 9 [.r (.int .i64 room0), .r (.ro ops.length (opsC ops))] (.r (.bool true)) := by
  refine spec_of_go (N := 142) Try.func9 rfl (by decide) rfl rfl ?_
  refine ag_seq ?_
  refine ag_reg ?_
  refine ar_pure tOk rfl rfl rfl trivial ?_
  refine ar_nil ?_
  refine ag_seq ?_
  refine ag_seq ?_
  refine ag_reg ?_
  refine ar_pur (w_alive15) rfl rfl rfl rfl rfl rfl rfl ?_
  refine ar_pure tOk rfl rfl rfl trivial ?_
  refine ar_nil ?_
  refine ag_false rfl (rfl) ?_
  refine ag_skip ?_
  refine ag_seq ?_
  refine ag_reg ?_
  refine ar_pure tOk rfl rfl rfl trivial ?_
  refine ar_pure tOk rfl rfl rfl ?_ ?_
  · decide
  refine ar_pure tOk rfl rfl rfl ?_ ?_
  · first | trivial | omega | (unfold inI64; omega) | (refine ⟨?_, ?_⟩ <;> first | trivial | rfl | omega | simp) | decide
  refine ar_pure tOk rfl rfl rfl ?_ ?_
  · first | trivial | omega | (unfold inI64; omega) | (refine ⟨?_, ?_⟩ <;> first | trivial | rfl | omega | simp) | decide
  refine ar_pure tOk rfl rfl rfl ?_ ?_
  · unfold inI64; omega
  refine ar_ent (ent_reg 19 (.r (.int .i64 (room))) (by show AVal.r (.int _ _) = _; exact eqI (hr))) ?_
  refine ar_pure tOk rfl rfl rfl trivial ?_
  refine ar_nil ?_
  refine ag_seq ?_
  refine ag_reg ?_
  refine ar_pure tOk rfl rfl rfl trivial ?_
  refine ar_obj [] (w_New room) rfl rfl (handed_of rfl rfl (by decide) trivial) rfl rfl rfl rfl ?_
  rintro _ _ ⟨rfl, rfl⟩
  refine ⟨_, _, rfl, ?_⟩
  refine ar_pure tOk rfl rfl rfl trivial ?_
  refine ar_nil ?_
  refine ag_seq ?_
  refine ag_reg ?_
  refine ar_pure tOk rfl rfl rfl trivial ?_
  refine ar_pure tOk rfl rfl rfl trivial ?_
  refine ar_nil ?_
  refine ag_seq ?_
  refine ag_seq ?_
  refine ag_reg ?_
  refine ar_pure tOk rfl rfl rfl trivial ?_
  refine ar_nil ?_
  refine ag_block ?_
  refine ag_loopS (stDRuns_0 room ops) (prDRuns_0 room ops) (fun ⟨i, r⟩ => 40 - i) (0, DR.nil) (ent_weak [0] rfl rfl rfl rfl ?_ ?_ rfl) (show prDRuns_0 room ops (0, DR.nil) from ?_) ?_
  · exact ⟨⟨rfl, rfl⟩, ⟨rfl, rfl⟩, ⟨rfl, rfl⟩, ⟨rfl, rfl⟩, ⟨rfl, rfl⟩, ⟨rfl, rfl⟩, trivial⟩
  · exact ⟨⟨rfl, rfl, by exact eqMxN rfl (by omega)⟩, trivial⟩
  · exact ⟨by simp, trivial⟩
  rintro ⟨i, r⟩ hp hrec
  cases r with
  | nil =>
    obtain ⟨hi, hv⟩ : _ := hp
    refine ag_ent (ent_weak (g' := [(0, .r (.int .i64 room)), (1, .r (.ro ops.length (opsC ops))), (5, .ptr 0 0), (6, .r (.str [])), (7, .r (.int .i64 0)), (8, .r (.int .i64 (i : Int)))]) (h' := dN 0 (max room 0) true) [0] rfl rfl rfl rfl ?_ ?_ rfl) ?_
    · exact ⟨⟨rfl, rfl⟩, ⟨rfl, rfl⟩, ⟨rfl, rfl⟩, ⟨rfl, rfl⟩, ⟨rfl, rfl⟩, ⟨rfl, rfl⟩, trivial⟩
    · exact ⟨⟨rfl, rfl, rfl⟩, trivial⟩
    have hl0 : ([] : List UInt8).length = 0 := rfl
    refine ag_seq ?_
    refine ag_seq ?_
    refine ag_reg ?_
    refine ar_pure tOk rfl rfl rfl trivial ?_
    refine ar_pure tOk rfl rfl rfl trivial ?_
    refine ar_pure tOk rfl rfl rfl trivial ?_
    refine ar_pure tOk rfl rfl rfl trivial ?_
    refine ar_pure tOk rfl rfl rfl trivial ?_
    refine ar_guard (t := decide ((i : Int) < (ops.length : Int))) (fun ht => ?_) (fun ht => ?_)
    · refine ar_ent (ent_reg 26 (.r (.bool true)) (by show AVal.r (.bool _) = _; rw [ht])) ?_
      refine ar_pure tOk rfl rfl rfl trivial ?_
      refine ar_pure tOk rfl rfl rfl trivial ?_
      refine ar_pure tOk rfl rfl rfl trivial ?_
      refine ar_nil ?_
      refine ag_cond rfl ?_ ?_
      · intro h29
        have h40 : i < 40 := by have := of_decide_eq_true h29; omega
        have hlt : i < ops.length := by have := of_decide_eq_true ht; omega
        obtain ⟨⟨k, N, d⟩, hop⟩ : ∃ o, ops[i]? = some o := ⟨ops[i], by simp [hlt]⟩
        have hk4 := tm4 k
        refine ag_skip ?_
        refine ag_seq ?_
        refine ag_block ?_
        refine ag_seq ?_
        refine ag_reg ?_
        refine ar_pure tOk rfl rfl rfl trivial ?_
        refine ar_pure tOk rfl rfl rfl trivial ?_
        refine ar_pure tOk rfl rfl rfl ?_ ?_
        · refine ⟨?_, ?_⟩ <;> first | omega | exact opsC_ne hop | (refine ⟨?_, ?_⟩ <;> omega)
        refine ar_loadAs tOk (.agg [.r (.int .i64 k), .r (.int .i64 N), .r (.bs d)]) rfl rfl rfl rfl rfl rfl rfl (.inr ⟨rfl, _, rfl, by rw [mulz_eq, Int.toNat_natCast]; exact opsC_get hop, rfl⟩) ?_
        refine ar_new tOk rfl rfl rfl ?_ ?_
        · simp
        refine ar_store tOk rfl rfl rfl trivial ?_
        refine ar_nil ?_
        refine ag_seq ?_
        refine ag_seq ?_
        refine ag_reg ?_
        refine ar_pure tOk rfl rfl rfl trivial ?_
        refine ar_load tOk rfl rfl rfl trivial ?_
        refine ar_pure tOk rfl rfl rfl ?_ ?_
        · first | trivial | omega | (unfold inI64; omega) | (refine ⟨?_, ?_⟩ <;> first | trivial | rfl | omega | simp) | decide
        refine ar_pure tOk rfl rfl rfl ?_ ?_
        · unfold inI64; omega
        refine ar_pure tOk rfl rfl rfl ?_ ?_
        · first | trivial | omega | (unfold inI64; omega) | (refine ⟨?_, ?_⟩ <;> first | trivial | rfl | omega | simp) | decide
        refine ar_nil ?_
        refine ag_block ?_
        refine ag_seq ?_
        refine ag_reg ?_
        refine ar_pure tOk rfl rfl rfl trivial ?_
        refine ar_pure tOk rfl rfl rfl trivial ?_
        refine ar_nil ?_
        refine ag_if rfl ?_ ?_
        · intro h65
          refine ag_seq ?_
          rcases (show ((d.length : Int) > max room 0) ∨ d = [] ∨ (d ≠ [] ∧ (d.length : Int) ≤ max room 0) by by_cases e : d = [] <;> simp [e] <;> omega) with hF | hE | ⟨hE, hF⟩
          · skip
            refine ag_reg ?_
            refine ar_pure tOk rfl rfl rfl trivial ?_
            refine ar_load tOk rfl rfl rfl trivial ?_
            refine ar_pure tOk rfl rfl rfl trivial ?_
            refine ar_pure tOk rfl rfl rfl trivial ?_
            refine ar_pure tOk rfl rfl rfl trivial ?_
            refine ar_pure tOk rfl rfl rfl trivial ?_
            refine ar_pure tOk rfl rfl rfl trivial ?_
            refine ar_pure tOk rfl rfl rfl ?_ ?_
            · first | trivial | omega | (unfold inI64; omega) | (refine ⟨?_, ?_⟩ <;> first | trivial | rfl | omega | simp) | decide
            refine ar_pure tOk rfl rfl rfl trivial ?_
            refine ar_ent (ent_reg 75 (.r (.bool false)) (by show AVal.r (.bool _) = _; exact eqBd (by first | (simp; done) | (simp; omega)))) ?_
            refine ar_pure tOk rfl rfl rfl trivial ?_
            refine ar_nil ?_
            refine ag_seq ?_
            refine ag_reg ?_
            refine ar_pure tOk rfl rfl rfl trivial ?_
            refine ar_pure tOk rfl rfl rfl trivial ?_
            refine ar_load tOk rfl rfl rfl trivial ?_
            refine ar_obj [0] (w_WriteFullN d (max room 0) (by omega) (by omega) hF) rfl rfl (handed_of rfl rfl (by decide) ⟨rfl, rfl, rfl, trivial⟩) rfl rfl rfl rfl ?_
            rintro _ _ ⟨rfl, rfl⟩
            refine ⟨_, _, rfl, ?_⟩
            refine ar_pure tOk rfl rfl rfl trivial ?_
            refine ar_nil ?_
            refine ag_seq ?_
            refine ag_seq ?_
            refine ag_reg ?_
            refine ar_pure tOk rfl rfl rfl trivial ?_
            refine ar_pure tOk rfl rfl rfl trivial ?_
            refine ar_pure tOk rfl rfl rfl trivial ?_
            refine ar_pure tOk rfl rfl rfl trivial ?_
            refine ar_pure tOk rfl rfl rfl trivial ?_
            refine ar_pure tOk rfl rfl (by decide) trivial ?_
            refine ar_pure tOk rfl rfl (by decide) trivial ?_
            refine ar_pure tOk rfl rfl (by decide) trivial ?_
            refine ar_pure tOk rfl rfl (by decide) trivial ?_
            refine ar_pure tOk rfl rfl (by decide) trivial ?_
            refine ar_pure tOk rfl rfl (by decide) trivial ?_
            refine ar_pure tOk rfl rfl rfl trivial ?_
            refine ar_nil ?_
            refine ag_false rfl (by decide) ?_
            refine ag_skip ?_
            refine ag_seq ?_
            refine ag_reg ?_
            refine ar_pure tOk rfl rfl rfl trivial ?_
            refine ar_nil ?_
            refine ag_false rfl (rfl) ?_
            refine ag_skip ?_
            refine ag_inBlock ?_
            refine ag_seq ?_
            refine ag_ent (ent_weak (g' := [(0, .r (.int .i64 room)), (1, .r (.ro ops.length (opsC ops))), (5, .ptr 0 0), (6, .r (.str [])), (7, .r (.int .i64 0)), (8, .r (.int .i64 (i : Int)))]) (h' := dN 0 (max room 0) true) [0] rfl rfl rfl rfl ?_ ?_ rfl) ?_
            · exact ⟨⟨rfl, rfl⟩, ⟨rfl, rfl⟩, ⟨rfl, rfl⟩, ⟨rfl, eqStr (by simp [cutL, mulz])⟩, ⟨rfl, eqI (by first | (simp; done) | (simp; omega))⟩, ⟨rfl, rfl⟩, trivial⟩
            · exact ⟨⟨rfl, rfl, rfl⟩, trivial⟩
            refine ag_reg ?_
            refine ar_pure tOk rfl rfl rfl trivial ?_
            refine ar_qd rfl (qop_objR [0] (w_OctetsN 0 (max room 0)) (by rintro _ _ ⟨rfl, rfl⟩; exact ⟨rfl, rfl⟩) rfl rfl (handed_of rfl rfl (by decide) ⟨rfl, rfl, rfl, trivial⟩) rfl rfl) rfl rfl rfl rfl ?_
            refine ar_pure tOk rfl rfl rfl trivial ?_
            refine ar_pure tOk rfl rfl rfl trivial ?_
            refine ar_pure tOk rfl rfl rfl trivial ?_
            refine ar_pure tOk rfl rfl rfl trivial ?_
            refine ar_pure tOk rfl rfl (by simp) trivial ?_
            refine ar_qd rfl (qop_objR [0] (w_FreshN (max room 0)) (by rintro _ _ ⟨rfl, rfl⟩; exact ⟨rfl, rfl⟩) rfl rfl (handed_of rfl rfl (by decide) ⟨rfl, rfl, rfl, trivial⟩) rfl rfl) rfl (by simp) rfl rfl ?_
            refine ar_pure tOk rfl rfl (by simp) trivial ?_
            refine ar_pure tOk rfl rfl (by simp) trivial ?_
            refine ar_pure tOk rfl rfl (by simp) trivial ?_
            refine ar_pure tOk rfl rfl (by simp) ?_ ?_
            · first | trivial | omega | (unfold inI64; omega) | (refine ⟨?_, ?_⟩ <;> first | trivial | rfl | omega | simp) | decide
            refine ar_pure tOk rfl rfl (by simp) trivial ?_
            refine ar_pure tOk rfl rfl rfl trivial ?_
            refine ar_nil ?_
            refine ag_false rfl (by first | (simp; done) | (simp; omega)) ?_
            refine ag_skip ?_
            refine ag_inBlock ?_
            refine ag_reg ?_
            refine ar_pure tOk rfl rfl rfl trivial ?_
            refine ar_pure tOk rfl rfl rfl ?_ ?_
            · first | trivial | omega | (unfold inI64; omega) | (refine ⟨?_, ?_⟩ <;> first | trivial | rfl | omega | simp) | decide
            refine ar_pure tOk rfl rfl rfl trivial ?_
            refine ar_nil ?_
            refine ag_ent (ent_weak (g' := (stDRuns_0 room ops (i + 1, DR.nil)).1) (h' := (stDRuns_0 room ops (i + 1, DR.nil)).2) [0] rfl rfl rfl rfl ?_ ?_ rfl) (hrec _ (show prDRuns_0 room ops (i + 1, DR.nil) from ?_) (show _ < _ from ?_))
            · exact ⟨⟨rfl, rfl⟩, ⟨rfl, rfl⟩, ⟨rfl, rfl⟩, ⟨rfl, rfl⟩, ⟨rfl, rfl⟩, ⟨rfl, by exact eqI (by omega)⟩, trivial⟩
            · exact ⟨⟨rfl, rfl, rfl⟩, trivial⟩
            · exact ⟨by omega, trivial⟩
            · show 40 - (i + 1) < 40 - i; omega
          · skip
            subst hE
            refine ag_reg ?_
            refine ar_pure tOk rfl rfl rfl trivial ?_
            refine ar_load tOk rfl rfl rfl trivial ?_
            refine ar_pure tOk rfl rfl rfl trivial ?_
            refine ar_pure tOk rfl rfl rfl trivial ?_
            refine ar_pure tOk rfl rfl rfl trivial ?_
            refine ar_pure tOk rfl rfl rfl trivial ?_
            refine ar_pure tOk rfl rfl rfl trivial ?_
            refine ar_pure tOk rfl rfl rfl ?_ ?_
            · first | trivial | omega | (unfold inI64; omega) | (refine ⟨?_, ?_⟩ <;> first | trivial | rfl | omega | simp) | decide
            refine ar_pure tOk rfl rfl rfl trivial ?_
            refine ar_ent (ent_reg 75 (.r (.bool true)) (by show AVal.r (.bool _) = _; exact eqBd (by first | (simp; done) | (simp; omega)))) ?_
            refine ar_pure tOk rfl rfl rfl trivial ?_
            refine ar_nil ?_
            refine ag_seq ?_
            refine ag_reg ?_
            refine ar_pure tOk rfl rfl rfl trivial ?_
            refine ar_pure tOk rfl rfl rfl trivial ?_
            refine ar_load tOk rfl rfl rfl trivial ?_
            refine ar_obj [0] (w_WriteN0 (max room 0) (by omega) (by omega)) rfl rfl (handed_of rfl rfl (by decide) ⟨rfl, rfl, rfl, trivial⟩) rfl rfl rfl rfl ?_
            rintro _ _ ⟨rfl, rfl⟩
            refine ⟨_, _, rfl, ?_⟩
            refine ar_pure tOk rfl rfl rfl trivial ?_
            refine ar_nil ?_
            refine ag_seq ?_
            refine ag_seq ?_
            refine ag_reg ?_
            refine ar_pure tOk rfl rfl rfl trivial ?_
            refine ar_pure tOk rfl rfl rfl trivial ?_
            refine ar_pure tOk rfl rfl rfl trivial ?_
            refine ar_pure tOk rfl rfl rfl trivial ?_
            refine ar_pure tOk rfl rfl rfl trivial ?_
            refine ar_pure tOk rfl rfl (by decide) trivial ?_
            refine ar_pure tOk rfl rfl (by decide) trivial ?_
            refine ar_pure tOk rfl rfl (by decide) trivial ?_
            refine ar_skip rfl rfl rfl ?_
            refine ar_skip rfl rfl rfl ?_
            refine ar_pure tOk rfl rfl (by decide) trivial ?_
            refine ar_pure tOk rfl rfl rfl trivial ?_
            refine ar_nil ?_
            refine ag_false rfl (by decide) ?_
            refine ag_skip ?_
            refine ag_seq ?_
            refine ag_reg ?_
            refine ar_pure tOk rfl rfl rfl trivial ?_
            refine ar_nil ?_
            refine ag_true rfl (rfl) ?_
            refine ag_reg ?_
            refine ar_pure tOk rfl rfl rfl trivial ?_
            refine ar_pure tOk rfl rfl rfl trivial ?_
            refine ar_load tOk rfl rfl rfl trivial ?_
            refine ar_pure tOk rfl rfl rfl trivial ?_
            refine ar_pure tOk rfl rfl rfl ?_ ?_
            · first | omega | (simp; done)
            refine ar_pure tOk rfl rfl rfl trivial ?_
            refine ar_nil ?_
            refine ag_inBlock ?_
            refine ag_seq ?_
            refine ag_ent (ent_weak (g' := [(0, .r (.int .i64 room)), (1, .r (.ro ops.length (opsC ops))), (5, .ptr 0 0), (6, .r (.str [])), (7, .r (.int .i64 0)), (8, .r (.int .i64 (i : Int)))]) (h' := dN 0 (max room 0) true) [0] rfl rfl rfl rfl ?_ ?_ rfl) ?_
            · exact ⟨⟨rfl, rfl⟩, ⟨rfl, rfl⟩, ⟨rfl, rfl⟩, ⟨rfl, eqStr (by simp [cutL, mulz])⟩, ⟨rfl, eqI (by first | (simp; done) | (simp; omega))⟩, ⟨rfl, rfl⟩, trivial⟩
            · exact ⟨⟨rfl, rfl, rfl⟩, trivial⟩
            refine ag_reg ?_
            refine ar_pure tOk rfl rfl rfl trivial ?_
            refine ar_qd rfl (qop_objR [0] (w_OctetsN 0 (max room 0)) (by rintro _ _ ⟨rfl, rfl⟩; exact ⟨rfl, rfl⟩) rfl rfl (handed_of rfl rfl (by decide) ⟨rfl, rfl, rfl, trivial⟩) rfl rfl) rfl rfl rfl rfl ?_
            refine ar_pure tOk rfl rfl rfl trivial ?_
            refine ar_pure tOk rfl rfl rfl trivial ?_
            refine ar_pure tOk rfl rfl rfl trivial ?_
            refine ar_pure tOk rfl rfl rfl trivial ?_
            refine ar_pure tOk rfl rfl (by simp) trivial ?_
            refine ar_qd rfl (qop_objR [0] (w_FreshN (max room 0)) (by rintro _ _ ⟨rfl, rfl⟩; exact ⟨rfl, rfl⟩) rfl rfl (handed_of rfl rfl (by decide) ⟨rfl, rfl, rfl, trivial⟩) rfl rfl) rfl (by simp) rfl rfl ?_
            refine ar_pure tOk rfl rfl (by simp) trivial ?_
            refine ar_pure tOk rfl rfl (by simp) trivial ?_
            refine ar_pure tOk rfl rfl (by simp) trivial ?_
            refine ar_pure tOk rfl rfl (by simp) ?_ ?_
            · first | trivial | omega | (unfold inI64; omega) | (refine ⟨?_, ?_⟩ <;> first | trivial | rfl | omega | simp) | decide
            refine ar_pure tOk rfl rfl (by simp) trivial ?_
            refine ar_pure tOk rfl rfl rfl trivial ?_
            refine ar_nil ?_
            refine ag_false rfl (by first | (simp; done) | (simp; omega)) ?_
            refine ag_skip ?_
            refine ag_inBlock ?_
            refine ag_reg ?_
            refine ar_pure tOk rfl rfl rfl trivial ?_
            refine ar_pure tOk rfl rfl rfl ?_ ?_
            · first | trivial | omega | (unfold inI64; omega) | (refine ⟨?_, ?_⟩ <;> first | trivial | rfl | omega | simp) | decide
            refine ar_pure tOk rfl rfl rfl trivial ?_
            refine ar_nil ?_
            refine ag_ent (ent_weak (g' := (stDRuns_0 room ops (i + 1, DR.nil)).1) (h' := (stDRuns_0 room ops (i + 1, DR.nil)).2) [0] rfl rfl rfl rfl ?_ ?_ rfl) (hrec _ (show prDRuns_0 room ops (i + 1, DR.nil) from ?_) (show _ < _ from ?_))
            · exact ⟨⟨rfl, rfl⟩, ⟨rfl, rfl⟩, ⟨rfl, rfl⟩, ⟨rfl, rfl⟩, ⟨rfl, rfl⟩, ⟨rfl, by exact eqI (by omega)⟩, trivial⟩
            · exact ⟨⟨rfl, rfl, rfl⟩, trivial⟩
            · exact ⟨by omega, trivial⟩
            · show 40 - (i + 1) < 40 - i; omega
          · skip
            refine ag_reg ?_
            refine ar_pure tOk rfl rfl rfl trivial ?_
            refine ar_load tOk rfl rfl rfl trivial ?_
            refine ar_pure tOk rfl rfl rfl trivial ?_
            refine ar_pure tOk rfl rfl rfl trivial ?_
            refine ar_pure tOk rfl rfl rfl trivial ?_
            refine ar_pure tOk rfl rfl rfl trivial ?_
            refine ar_pure tOk rfl rfl rfl trivial ?_
            refine ar_pure tOk rfl rfl rfl ?_ ?_
            · first | trivial | omega | (unfold inI64; omega) | (refine ⟨?_, ?_⟩ <;> first | trivial | rfl | omega | simp) | decide
            refine ar_pure tOk rfl rfl rfl trivial ?_
            refine ar_ent (ent_reg 75 (.r (.bool true)) (by show AVal.r (.bool _) = _; exact eqBd (by first | (simp; done) | (simp; omega)))) ?_
            refine ar_pure tOk rfl rfl rfl trivial ?_
            refine ar_nil ?_
            refine ag_seq ?_
            refine ag_reg ?_
            refine ar_pure tOk rfl rfl rfl trivial ?_
            refine ar_pure tOk rfl rfl rfl trivial ?_
            refine ar_load tOk rfl rfl rfl trivial ?_
            refine ar_obj [0] (w_WriteN d (max room 0) (by omega) (by omega) hE hF) rfl rfl (handed_of rfl rfl (by decide) ⟨rfl, rfl, rfl, trivial⟩) rfl rfl rfl rfl ?_
            rintro _ _ ⟨rfl, rfl⟩
            refine ⟨_, _, rfl, ?_⟩
            refine ar_pure tOk rfl rfl rfl trivial ?_
            refine ar_nil ?_
            refine ag_seq ?_
            refine ag_seq ?_
            refine ag_reg ?_
            refine ar_pure tOk rfl rfl rfl trivial ?_
            refine ar_pure tOk rfl rfl rfl trivial ?_
            refine ar_pure tOk rfl rfl rfl trivial ?_
            refine ar_pure tOk rfl rfl rfl trivial ?_
            refine ar_pure tOk rfl rfl rfl trivial ?_
            refine ar_pure tOk rfl rfl (by decide) trivial ?_
            refine ar_pure tOk rfl rfl (by decide) trivial ?_
            refine ar_pure tOk rfl rfl (by decide) trivial ?_
            refine ar_skip rfl rfl rfl ?_
            refine ar_skip rfl rfl rfl ?_
            refine ar_pure tOk rfl rfl (by decide) trivial ?_
            refine ar_pure tOk rfl rfl rfl trivial ?_
            refine ar_nil ?_
            refine ag_false rfl (by decide) ?_
            refine ag_skip ?_
            refine ag_seq ?_
            refine ag_reg ?_
            refine ar_pure tOk rfl rfl rfl trivial ?_
            refine ar_nil ?_
            refine ag_true rfl (rfl) ?_
            refine ag_reg ?_
            refine ar_pure tOk rfl rfl rfl trivial ?_
            refine ar_pure tOk rfl rfl rfl trivial ?_
            refine ar_load tOk rfl rfl rfl trivial ?_
            refine ar_pure tOk rfl rfl rfl trivial ?_
            refine ar_pure tOk rfl rfl rfl ?_ ?_
            · first | omega | (simp; done)
            refine ar_pure tOk rfl rfl rfl trivial ?_
            refine ar_nil ?_
            refine ag_inBlock ?_
            refine ag_seq ?_
            refine ag_ent (ent_weak (g' := [(0, .r (.int .i64 room)), (1, .r (.ro ops.length (opsC ops))), (5, .ptr 0 0), (6, .r (.str ((d).take (d.length)))), (7, .r (.int .i64 ((0 : Nat) : Int))), (8, .r (.int .i64 (i : Int)))]) (h' := dB (d.length) (d) ((0 : Nat) : Int) (max room 0) true) [0, 2] rfl rfl rfl rfl ?_ ?_ rfl) ?_
            · exact ⟨⟨rfl, rfl⟩, ⟨rfl, rfl⟩, ⟨rfl, rfl⟩, ⟨rfl, eqStr (by simp)⟩, ⟨rfl, eqI (by first | (simp; done) | (simp; omega))⟩, ⟨rfl, rfl⟩, trivial⟩
            · exact ⟨⟨rfl, rfl, rfl⟩, ⟨rfl, rfl, rfl⟩, trivial⟩
            have hlW : ((d).take (d.length)).length = d.length := by rw [List.length_take]; first | (simp; done) | (simp; omega) | omega
            refine ag_reg ?_
            refine ar_pure tOk rfl rfl rfl trivial ?_
            refine ar_qd rfl (qop_objR [0, 1] (w_OctetsB (d.length) (d) ((0 : Nat) : Int) (max room 0) (by simp; try omega) (by omega)) (by rintro _ _ ⟨rfl, rfl⟩; exact ⟨rfl, rfl⟩) rfl rfl (handed_of rfl rfl (by decide) ⟨rfl, rfl, rfl, rfl, rfl, rfl, trivial⟩) rfl rfl) rfl rfl rfl rfl ?_
            refine ar_pure tOk rfl rfl rfl trivial ?_
            refine ar_pure tOk rfl rfl rfl trivial ?_
            refine ar_pure tOk rfl rfl rfl trivial ?_
            refine ar_pure tOk rfl rfl rfl trivial ?_
            refine ar_pure tOk rfl rfl (by simp) trivial ?_
            refine ar_qd rfl (qop_objR [0, 1] (w_FreshB (d.length) (d) ((0 : Nat) : Int) (max room 0) (by omega) (by omega) (by omega)) (by rintro _ _ ⟨rfl, rfl⟩; exact ⟨rfl, rfl⟩) rfl rfl (handed_of rfl rfl (by decide) ⟨rfl, rfl, rfl, rfl, rfl, rfl, trivial⟩) rfl rfl) rfl (by simp) rfl rfl ?_
            refine ar_pure tOk rfl rfl (by simp) trivial ?_
            refine ar_pure tOk rfl rfl (by simp) trivial ?_
            refine ar_pure tOk rfl rfl (by simp) trivial ?_
            refine ar_pure tOk rfl rfl (by simp) ?_ ?_
            · first | trivial | omega | (unfold inI64; omega) | (refine ⟨?_, ?_⟩ <;> first | trivial | rfl | omega | simp) | decide
            refine ar_pure tOk rfl rfl (by simp) trivial ?_
            refine ar_pure tOk rfl rfl rfl trivial ?_
            refine ar_nil ?_
            refine ag_false rfl (by first | (simp; done) | (simp; omega)) ?_
            refine ag_skip ?_
            refine ag_inBlock ?_
            refine ag_reg ?_
            refine ar_pure tOk rfl rfl rfl trivial ?_
            refine ar_pure tOk rfl rfl rfl ?_ ?_
            · first | trivial | omega | (unfold inI64; omega) | (refine ⟨?_, ?_⟩ <;> first | trivial | rfl | omega | simp) | decide
            refine ar_pure tOk rfl rfl rfl trivial ?_
            refine ar_nil ?_
            refine ag_ent (ent_weak (g' := (stDRuns_0 room ops (i + 1, DR.buf (d) (d.length) (0))).1) (h' := (stDRuns_0 room ops (i + 1, DR.buf (d) (d.length) (0))).2) [0, 1] rfl rfl rfl rfl ?_ ?_ rfl) (hrec _ (show prDRuns_0 room ops (i + 1, DR.buf (d) (d.length) (0)) from ?_) (show _ < _ from ?_))
            · exact ⟨⟨rfl, rfl⟩, ⟨rfl, rfl⟩, ⟨rfl, rfl⟩, ⟨rfl, rfl⟩, ⟨rfl, rfl⟩, ⟨rfl, by exact eqI (by omega)⟩, trivial⟩
            · exact ⟨⟨rfl, rfl, rfl⟩, ⟨rfl, rfl, rfl⟩, trivial⟩
            · exact ⟨by omega, by first | exact hv1 | (simp; done) | (simp; omega) | omega, by omega, by omega⟩
            · show 40 - (i + 1) < 40 - i; omega
        · intro h65
          refine ag_seq ?_
          refine ag_reg ?_
          refine ar_pure tOk rfl rfl rfl trivial ?_
          refine ar_pure tOk rfl rfl rfl trivial ?_
          refine ar_nil ?_
          refine ag_if rfl ?_ ?_
          · intro h98
            refine ag_seq ?_
            refine ag_seq ?_
            refine ag_reg ?_
            refine ar_pure tOk rfl rfl rfl trivial ?_
            refine ar_obj [0] (w_SyncN (max room 0)) rfl rfl (handed_of rfl rfl (by decide) ⟨rfl, rfl, rfl, trivial⟩) rfl rfl rfl rfl ?_
            rintro _ _ ⟨rfl, rfl⟩
            refine ⟨_, _, rfl, ?_⟩
            refine ar_pure tOk rfl rfl rfl trivial ?_
            refine ar_pure tOk rfl rfl rfl trivial ?_
            refine ar_pure tOk rfl rfl rfl trivial ?_
            refine ar_pure tOk rfl rfl rfl ?_ ?_
            · first | trivial | omega | (unfold inI64; omega) | (refine ⟨?_, ?_⟩ <;> first | trivial | rfl | omega | simp) | decide
            refine ar_pure tOk rfl rfl rfl trivial ?_
            refine ar_nil ?_
            refine ag_false rfl (by first | (simp; done) | (simp; omega)) ?_
            refine ag_skip ?_
            refine ag_reg ?_
            refine ar_pure tOk rfl rfl rfl trivial ?_
            refine ar_pure tOk rfl rfl rfl trivial ?_
            refine ar_pure tOk rfl rfl rfl trivial ?_
            refine ar_nil ?_
            refine ag_inBlock ?_
            refine ag_seq ?_
            refine ag_ent (ent_weak (g' := [(0, .r (.int .i64 room)), (1, .r (.ro ops.length (opsC ops))), (5, .ptr 0 0), (6, .r (.str [])), (7, .r (.int .i64 0)), (8, .r (.int .i64 (i : Int)))]) (h' := dN 0 (max room 0) true) [0] rfl rfl rfl rfl ?_ ?_ rfl) ?_
            · exact ⟨⟨rfl, rfl⟩, ⟨rfl, rfl⟩, ⟨rfl, rfl⟩, ⟨rfl, eqStr (by simp [cutL, mulz])⟩, ⟨rfl, eqI (by first | (simp; done) | (simp; omega))⟩, ⟨rfl, rfl⟩, trivial⟩
            · exact ⟨⟨rfl, rfl, rfl⟩, trivial⟩
            refine ag_reg ?_
            refine ar_pure tOk rfl rfl rfl trivial ?_
            refine ar_qd rfl (qop_objR [0] (w_OctetsN 0 (max room 0)) (by rintro _ _ ⟨rfl, rfl⟩; exact ⟨rfl, rfl⟩) rfl rfl (handed_of rfl rfl (by decide) ⟨rfl, rfl, rfl, trivial⟩) rfl rfl) rfl rfl rfl rfl ?_
            refine ar_pure tOk rfl rfl rfl trivial ?_
            refine ar_pure tOk rfl rfl rfl trivial ?_
            refine ar_pure tOk rfl rfl rfl trivial ?_
            refine ar_pure tOk rfl rfl rfl trivial ?_
            refine ar_pure tOk rfl rfl (by simp) trivial ?_
            refine ar_qd rfl (qop_objR [0] (w_FreshN (max room 0)) (by rintro _ _ ⟨rfl, rfl⟩; exact ⟨rfl, rfl⟩) rfl rfl (handed_of rfl rfl (by decide) ⟨rfl, rfl, rfl, trivial⟩) rfl rfl) rfl (by simp) rfl rfl ?_
            refine ar_pure tOk rfl rfl (by simp) trivial ?_
            refine ar_pure tOk rfl rfl (by simp) trivial ?_
            refine ar_pure tOk rfl rfl (by simp) trivial ?_
            refine ar_pure tOk rfl rfl (by simp) ?_ ?_
            · first | trivial | omega | (unfold inI64; omega) | (refine ⟨?_, ?_⟩ <;> first | trivial | rfl | omega | simp) | decide
            refine ar_pure tOk rfl rfl (by simp) trivial ?_
            refine ar_pure tOk rfl rfl rfl trivial ?_
            refine ar_nil ?_
            refine ag_false rfl (by first | (simp; done) | (simp; omega)) ?_
            refine ag_skip ?_
            refine ag_inBlock ?_
            refine ag_reg ?_
            refine ar_pure tOk rfl rfl rfl trivial ?_
            refine ar_pure tOk rfl rfl rfl ?_ ?_
            · first | trivial | omega | (unfold inI64; omega) | (refine ⟨?_, ?_⟩ <;> first | trivial | rfl | omega | simp) | decide
            refine ar_pure tOk rfl rfl rfl trivial ?_
            refine ar_nil ?_
            refine ag_ent (ent_weak (g' := (stDRuns_0 room ops (i + 1, DR.nil)).1) (h' := (stDRuns_0 room ops (i + 1, DR.nil)).2) [0] rfl rfl rfl rfl ?_ ?_ rfl) (hrec _ (show prDRuns_0 room ops (i + 1, DR.nil) from ?_) (show _ < _ from ?_))
            · exact ⟨⟨rfl, rfl⟩, ⟨rfl, rfl⟩, ⟨rfl, rfl⟩, ⟨rfl, rfl⟩, ⟨rfl, rfl⟩, ⟨rfl, by exact eqI (by omega)⟩, trivial⟩
            · exact ⟨⟨rfl, rfl, rfl⟩, trivial⟩
            · exact ⟨by omega, trivial⟩
            · show 40 - (i + 1) < 40 - i; omega
          · intro h98
            refine ag_seq ?_
            refine ag_reg ?_
            refine ar_pure tOk rfl rfl rfl trivial ?_
            refine ar_pure tOk rfl rfl rfl trivial ?_
            refine ar_nil ?_
            refine ag_if rfl ?_ ?_
            · intro h109
              refine ag_seq ?_
              
              refine ag_reg ?_
              refine ar_pure tOk rfl rfl rfl trivial ?_
              refine ar_pure tOk rfl rfl rfl trivial ?_
              refine ar_load tOk rfl rfl rfl trivial ?_
              refine ar_obj [0] (w_FallN N (max room 0)) rfl rfl (handed_of rfl rfl (by decide) ⟨rfl, rfl, rfl, trivial⟩) rfl rfl rfl rfl ?_
              rintro _ _ ⟨rfl, rfl⟩
              refine ⟨_, _, rfl, ?_⟩
              refine ar_nil ?_
              refine ag_seq ?_
              refine ag_reg ?_
              refine ar_pure tOk rfl rfl rfl trivial ?_
              refine ar_pure tOk rfl rfl rfl trivial ?_
              refine ar_load tOk rfl rfl rfl trivial ?_
              refine ar_pure tOk rfl rfl rfl trivial ?_
              refine ar_pure tOk rfl rfl rfl trivial ?_
              refine ar_pure tOk rfl rfl rfl trivial ?_
              refine ar_pure tOk rfl rfl rfl trivial ?_
              refine ar_pure tOk rfl rfl rfl ?_ ?_
              · first | trivial | omega | (unfold inI64; omega) | (refine ⟨?_, ?_⟩ <;> first | trivial | rfl | omega | simp) | decide
              refine ar_pure tOk rfl rfl rfl trivial ?_
              refine ar_pure tOk rfl rfl rfl ?_ ?_
              · first | trivial | omega | (unfold inI64; omega) | (refine ⟨?_, ?_⟩ <;> first | trivial | rfl | omega | simp) | decide
              refine ar_ent (ent_reg 124 (.r (.int .i64 (0))) (by show AVal.r (.int _ _) = _; exact eqI (by simp; omega))) ?_
              refine ar_pure tOk rfl rfl rfl trivial ?_
              refine ar_nil ?_
              refine ag_reg ?_
              refine ar_pure tOk rfl rfl rfl trivial ?_
              refine ar_pure tOk rfl rfl rfl trivial ?_
              refine ar_pure tOk rfl rfl rfl ?_ ?_
              · simp [boundsOk]
              refine ar_pure tOk rfl rfl rfl trivial ?_
              refine ar_nil ?_
              refine ag_inBlock ?_
              refine ag_seq ?_
              refine ag_ent (ent_weak (g' := [(0, .r (.int .i64 room)), (1, .r (.ro ops.length (opsC ops))), (5, .ptr 0 0), (6, .r (.str [])), (7, .r (.int .i64 0)), (8, .r (.int .i64 (i : Int)))]) (h' := dN 0 (max room 0) true) [0] rfl rfl rfl rfl ?_ ?_ rfl) ?_
              · exact ⟨⟨rfl, rfl⟩, ⟨rfl, rfl⟩, ⟨rfl, rfl⟩, ⟨rfl, eqStr (by simp [cutL, mulz])⟩, ⟨rfl, eqI (by first | (simp; done) | (simp; omega))⟩, ⟨rfl, rfl⟩, trivial⟩
              · exact ⟨⟨rfl, rfl, rfl⟩, trivial⟩
              refine ag_reg ?_
              refine ar_pure tOk rfl rfl rfl trivial ?_
              refine ar_qd rfl (qop_objR [0] (w_OctetsN 0 (max room 0)) (by rintro _ _ ⟨rfl, rfl⟩; exact ⟨rfl, rfl⟩) rfl rfl (handed_of rfl rfl (by decide) ⟨rfl, rfl, rfl, trivial⟩) rfl rfl) rfl rfl rfl rfl ?_
              refine ar_pure tOk rfl rfl rfl trivial ?_
              refine ar_pure tOk rfl rfl rfl trivial ?_
              refine ar_pure tOk rfl rfl rfl trivial ?_
              refine ar_pure tOk rfl rfl rfl trivial ?_
              refine ar_pure tOk rfl rfl (by simp) trivial ?_
              refine ar_qd rfl (qop_objR [0] (w_FreshN (max room 0)) (by rintro _ _ ⟨rfl, rfl⟩; exact ⟨rfl, rfl⟩) rfl rfl (handed_of rfl rfl (by decide) ⟨rfl, rfl, rfl, trivial⟩) rfl rfl) rfl (by simp) rfl rfl ?_
              refine ar_pure tOk rfl rfl (by simp) trivial ?_
              refine ar_pure tOk rfl rfl (by simp) trivial ?_
              refine ar_pure tOk rfl rfl (by simp) trivial ?_
              refine ar_pure tOk rfl rfl (by simp) ?_ ?_
              · first | trivial | omega | (unfold inI64; omega) | (refine ⟨?_, ?_⟩ <;> first | trivial | rfl | omega | simp) | decide
              refine ar_pure tOk rfl rfl (by simp) trivial ?_
              refine ar_pure tOk rfl rfl rfl trivial ?_
              refine ar_nil ?_
              refine ag_false rfl (by first | (simp; done) | (simp; omega)) ?_
              refine ag_skip ?_
              refine ag_inBlock ?_
              refine ag_reg ?_
              refine ar_pure tOk rfl rfl rfl trivial ?_
              refine ar_pure tOk rfl rfl rfl ?_ ?_
              · first | trivial | omega | (unfold inI64; omega) | (refine ⟨?_, ?_⟩ <;> first | trivial | rfl | omega | simp) | decide
              refine ar_pure tOk rfl rfl rfl trivial ?_
              refine ar_nil ?_
              refine ag_ent (ent_weak (g' := (stDRuns_0 room ops (i + 1, DR.nil)).1) (h' := (stDRuns_0 room ops (i + 1, DR.nil)).2) [0] rfl rfl rfl rfl ?_ ?_ rfl) (hrec _ (show prDRuns_0 room ops (i + 1, DR.nil) from ?_) (show _ < _ from ?_))
              · exact ⟨⟨rfl, rfl⟩, ⟨rfl, rfl⟩, ⟨rfl, rfl⟩, ⟨rfl, rfl⟩, ⟨rfl, rfl⟩, ⟨rfl, by exact eqI (by omega)⟩, trivial⟩
              · exact ⟨⟨rfl, rfl, rfl⟩, trivial⟩
              · exact ⟨by omega, trivial⟩
              · show 40 - (i + 1) < 40 - i; omega
            · intro h109
              refine ag_seq ?_
              rcases (show (N < 0) ∨ (¬ N < 0 ∧ N > 0) ∨ N = 0 by omega) with hN | ⟨hN, hN2⟩ | hN
              · skip
                refine ag_reg ?_
                refine ar_pure tOk rfl rfl rfl trivial ?_
                refine ar_load tOk rfl rfl rfl trivial ?_
                refine ar_pure tOk rfl rfl rfl trivial ?_
                refine ar_ent (ent_reg 43 (.r (.bool false)) (by show AVal.r (.bool _) = _; exact eqBd (by first | (simp; done) | (simp; omega)))) ?_
                refine ar_pure tOk rfl rfl rfl trivial ?_
                refine ar_skip rfl rfl rfl ?_
                refine ar_skip rfl rfl rfl ?_
                refine ar_skip rfl rfl rfl ?_
                refine ar_skip rfl rfl rfl ?_
                refine ar_skip rfl rfl rfl ?_
                
                refine ar_pure tOk rfl rfl rfl trivial ?_
                refine ar_pure tOk rfl rfl rfl trivial ?_
                refine ar_nil ?_
                refine ag_seq ?_
                refine ag_seq ?_
                refine ag_reg ?_
                refine ar_pure tOk rfl rfl rfl trivial ?_
                refine ar_pure tOk rfl rfl rfl trivial ?_
                refine ar_load tOk rfl rfl rfl trivial ?_
                refine ar_obj [0] (w_TrimLowN N (max room 0) hN) rfl rfl (handed_of rfl rfl (by decide) ⟨rfl, rfl, rfl, trivial⟩) rfl rfl rfl rfl ?_
                rintro _ _ ⟨rfl, rfl⟩
                refine ⟨_, _, rfl, ?_⟩
                refine ar_pure tOk rfl rfl rfl trivial ?_
                refine ar_pure tOk rfl rfl rfl trivial ?_
                refine ar_pure tOk rfl rfl rfl trivial ?_
                refine ar_nil ?_
                refine ag_false rfl (by decide) ?_
                refine ag_skip ?_
                refine ag_seq ?_
                refine ag_reg ?_
                refine ar_pure tOk rfl rfl rfl trivial ?_
                refine ar_nil ?_
                refine ag_false rfl (rfl) ?_
                refine ag_skip ?_
                refine ag_inBlock ?_
                refine ag_seq ?_
                refine ag_ent (ent_weak (g' := [(0, .r (.int .i64 room)), (1, .r (.ro ops.length (opsC ops))), (5, .ptr 0 0), (6, .r (.str [])), (7, .r (.int .i64 0)), (8, .r (.int .i64 (i : Int)))]) (h' := dN 0 (max room 0) true) [0] rfl rfl rfl rfl ?_ ?_ rfl) ?_
                · exact ⟨⟨rfl, rfl⟩, ⟨rfl, rfl⟩, ⟨rfl, rfl⟩, ⟨rfl, eqStr (by simp [cutL, mulz])⟩, ⟨rfl, eqI (by first | (simp; done) | (simp; omega))⟩, ⟨rfl, rfl⟩, trivial⟩
                · exact ⟨⟨rfl, rfl, rfl⟩, trivial⟩
                refine ag_reg ?_
                refine ar_pure tOk rfl rfl rfl trivial ?_
                refine ar_qd rfl (qop_objR [0] (w_OctetsN 0 (max room 0)) (by rintro _ _ ⟨rfl, rfl⟩; exact ⟨rfl, rfl⟩) rfl rfl (handed_of rfl rfl (by decide) ⟨rfl, rfl, rfl, trivial⟩) rfl rfl) rfl rfl rfl rfl ?_
                refine ar_pure tOk rfl rfl rfl trivial ?_
                refine ar_pure tOk rfl rfl rfl trivial ?_
                refine ar_pure tOk rfl rfl rfl trivial ?_
                refine ar_pure tOk rfl rfl rfl trivial ?_
                refine ar_pure tOk rfl rfl (by simp) trivial ?_
                refine ar_qd rfl (qop_objR [0] (w_FreshN (max room 0)) (by rintro _ _ ⟨rfl, rfl⟩; exact ⟨rfl, rfl⟩) rfl rfl (handed_of rfl rfl (by decide) ⟨rfl, rfl, rfl, trivial⟩) rfl rfl) rfl (by simp) rfl rfl ?_
                refine ar_pure tOk rfl rfl (by simp) trivial ?_
                refine ar_pure tOk rfl rfl (by simp) trivial ?_
                refine ar_pure tOk rfl rfl (by simp) trivial ?_
                refine ar_pure tOk rfl rfl (by simp) ?_ ?_
                · first | trivial | omega | (unfold inI64; omega) | (refine ⟨?_, ?_⟩ <;> first | trivial | rfl | omega | simp) | decide
                refine ar_pure tOk rfl rfl (by simp) trivial ?_
                refine ar_pure tOk rfl rfl rfl trivial ?_
                refine ar_nil ?_
                refine ag_false rfl (by first | (simp; done) | (simp; omega)) ?_
                refine ag_skip ?_
                refine ag_inBlock ?_
                refine ag_reg ?_
                refine ar_pure tOk rfl rfl rfl trivial ?_
                refine ar_pure tOk rfl rfl rfl ?_ ?_
                · first | trivial | omega | (unfold inI64; omega) | (refine ⟨?_, ?_⟩ <;> first | trivial | rfl | omega | simp) | decide
                refine ar_pure tOk rfl rfl rfl trivial ?_
                refine ar_nil ?_
                refine ag_ent (ent_weak (g' := (stDRuns_0 room ops (i + 1, DR.nil)).1) (h' := (stDRuns_0 room ops (i + 1, DR.nil)).2) [0] rfl rfl rfl rfl ?_ ?_ rfl) (hrec _ (show prDRuns_0 room ops (i + 1, DR.nil) from ?_) (show _ < _ from ?_))
                · exact ⟨⟨rfl, rfl⟩, ⟨rfl, rfl⟩, ⟨rfl, rfl⟩, ⟨rfl, rfl⟩, ⟨rfl, rfl⟩, ⟨rfl, by exact eqI (by omega)⟩, trivial⟩
                · exact ⟨⟨rfl, rfl, rfl⟩, trivial⟩
                · exact ⟨by omega, trivial⟩
                · show 40 - (i + 1) < 40 - i; omega
              · skip
                refine ag_reg ?_
                refine ar_pure tOk rfl rfl rfl trivial ?_
                refine ar_load tOk rfl rfl rfl trivial ?_
                refine ar_pure tOk rfl rfl rfl trivial ?_
                refine ar_ent (ent_reg 43 (.r (.bool true)) (by show AVal.r (.bool _) = _; exact eqBd (by first | (simp; done) | (simp; omega)))) ?_
                refine ar_pure tOk rfl rfl rfl trivial ?_
                refine ar_pure tOk rfl rfl (by decide) trivial ?_
                refine ar_load tOk rfl rfl (by decide) trivial ?_
                refine ar_pure tOk rfl rfl (by decide) trivial ?_
                refine ar_pure tOk rfl rfl (by decide) trivial ?_
                refine ar_pure tOk rfl rfl (by decide) trivial ?_
                refine ar_ent (ent_reg 49 (.r (.bool false)) (by show AVal.r (.bool _) = _; exact eqBd (by first | (simp; done) | (simp; omega)))) ?_
                refine ar_pure tOk rfl rfl rfl trivial ?_
                refine ar_pure tOk rfl rfl rfl trivial ?_
                refine ar_nil ?_
                refine ag_seq ?_
                refine ag_seq ?_
                refine ag_reg ?_
                refine ar_pure tOk rfl rfl rfl trivial ?_
                refine ar_pure tOk rfl rfl rfl trivial ?_
                refine ar_load tOk rfl rfl rfl trivial ?_
                refine ar_obj [0] (w_TrimHighN N (max room 0) hN hN2) rfl rfl (handed_of rfl rfl (by decide) ⟨rfl, rfl, rfl, trivial⟩) rfl rfl rfl rfl ?_
                rintro _ _ ⟨rfl, rfl⟩
                refine ⟨_, _, rfl, ?_⟩
                refine ar_pure tOk rfl rfl rfl trivial ?_
                refine ar_pure tOk rfl rfl rfl trivial ?_
                refine ar_pure tOk rfl rfl rfl trivial ?_
                refine ar_nil ?_
                refine ag_false rfl (by decide) ?_
                refine ag_skip ?_
                refine ag_seq ?_
                refine ag_reg ?_
                refine ar_pure tOk rfl rfl rfl trivial ?_
                refine ar_nil ?_
                refine ag_false rfl (rfl) ?_
                refine ag_skip ?_
                refine ag_inBlock ?_
                refine ag_seq ?_
                refine ag_ent (ent_weak (g' := [(0, .r (.int .i64 room)), (1, .r (.ro ops.length (opsC ops))), (5, .ptr 0 0), (6, .r (.str [])), (7, .r (.int .i64 0)), (8, .r (.int .i64 (i : Int)))]) (h' := dN 0 (max room 0) true) [0] rfl rfl rfl rfl ?_ ?_ rfl) ?_
                · exact ⟨⟨rfl, rfl⟩, ⟨rfl, rfl⟩, ⟨rfl, rfl⟩, ⟨rfl, eqStr (by simp [cutL, mulz])⟩, ⟨rfl, eqI (by first | (simp; done) | (simp; omega))⟩, ⟨rfl, rfl⟩, trivial⟩
                · exact ⟨⟨rfl, rfl, rfl⟩, trivial⟩
                refine ag_reg ?_
                refine ar_pure tOk rfl rfl rfl trivial ?_
                refine ar_qd rfl (qop_objR [0] (w_OctetsN 0 (max room 0)) (by rintro _ _ ⟨rfl, rfl⟩; exact ⟨rfl, rfl⟩) rfl rfl (handed_of rfl rfl (by decide) ⟨rfl, rfl, rfl, trivial⟩) rfl rfl) rfl rfl rfl rfl ?_
                refine ar_pure tOk rfl rfl rfl trivial ?_
                refine ar_pure tOk rfl rfl rfl trivial ?_
                refine ar_pure tOk rfl rfl rfl trivial ?_
                refine ar_pure tOk rfl rfl rfl trivial ?_
                refine ar_pure tOk rfl rfl (by simp) trivial ?_
                refine ar_qd rfl (qop_objR [0] (w_FreshN (max room 0)) (by rintro _ _ ⟨rfl, rfl⟩; exact ⟨rfl, rfl⟩) rfl rfl (handed_of rfl rfl (by decide) ⟨rfl, rfl, rfl, trivial⟩) rfl rfl) rfl (by simp) rfl rfl ?_
                refine ar_pure tOk rfl rfl (by simp) trivial ?_
                refine ar_pure tOk rfl rfl (by simp) trivial ?_
                refine ar_pure tOk rfl rfl (by simp) trivial ?_
                refine ar_pure tOk rfl rfl (by simp) ?_ ?_
                · first | trivial | omega | (unfold inI64; omega) | (refine ⟨?_, ?_⟩ <;> first | trivial | rfl | omega | simp) | decide
                refine ar_pure tOk rfl rfl (by simp) trivial ?_
                refine ar_pure tOk rfl rfl rfl trivial ?_
                refine ar_nil ?_
                refine ag_false rfl (by first | (simp; done) | (simp; omega)) ?_
                refine ag_skip ?_
                refine ag_inBlock ?_
                refine ag_reg ?_
                refine ar_pure tOk rfl rfl rfl trivial ?_
                refine ar_pure tOk rfl rfl rfl ?_ ?_
                · first | trivial | omega | (unfold inI64; omega) | (refine ⟨?_, ?_⟩ <;> first | trivial | rfl | omega | simp) | decide
                refine ar_pure tOk rfl rfl rfl trivial ?_
                refine ar_nil ?_
                refine ag_ent (ent_weak (g' := (stDRuns_0 room ops (i + 1, DR.nil)).1) (h' := (stDRuns_0 room ops (i + 1, DR.nil)).2) [0] rfl rfl rfl rfl ?_ ?_ rfl) (hrec _ (show prDRuns_0 room ops (i + 1, DR.nil) from ?_) (show _ < _ from ?_))
                · exact ⟨⟨rfl, rfl⟩, ⟨rfl, rfl⟩, ⟨rfl, rfl⟩, ⟨rfl, rfl⟩, ⟨rfl, rfl⟩, ⟨rfl, by exact eqI (by omega)⟩, trivial⟩
                · exact ⟨⟨rfl, rfl, rfl⟩, trivial⟩
                · exact ⟨by omega, trivial⟩
                · show 40 - (i + 1) < 40 - i; omega
              · skip
                subst hN
                refine ag_reg ?_
                refine ar_pure tOk rfl rfl rfl trivial ?_
                refine ar_load tOk rfl rfl rfl trivial ?_
                refine ar_pure tOk rfl rfl rfl trivial ?_
                refine ar_ent (ent_reg 43 (.r (.bool true)) (by show AVal.r (.bool _) = _; exact eqBd (by first | (simp; done) | (simp; omega)))) ?_
                refine ar_pure tOk rfl rfl rfl trivial ?_
                refine ar_pure tOk rfl rfl (by decide) trivial ?_
                refine ar_load tOk rfl rfl (by decide) trivial ?_
                refine ar_pure tOk rfl rfl (by decide) trivial ?_
                refine ar_pure tOk rfl rfl (by decide) trivial ?_
                refine ar_pure tOk rfl rfl (by decide) trivial ?_
                refine ar_ent (ent_reg 49 (.r (.bool true)) (by show AVal.r (.bool _) = _; exact eqBd (by first | (simp; done) | (simp; omega)))) ?_
                refine ar_pure tOk rfl rfl rfl trivial ?_
                refine ar_pure tOk rfl rfl rfl trivial ?_
                refine ar_nil ?_
                refine ag_seq ?_
                refine ag_seq ?_
                refine ag_reg ?_
                refine ar_pure tOk rfl rfl rfl trivial ?_
                refine ar_pure tOk rfl rfl rfl trivial ?_
                refine ar_load tOk rfl rfl rfl trivial ?_
                refine ar_obj [0] (w_TrimN (max room 0)) rfl rfl (handed_of rfl rfl (by decide) ⟨rfl, rfl, rfl, trivial⟩) rfl rfl rfl rfl ?_
                rintro _ _ ⟨rfl, rfl⟩
                refine ⟨_, _, rfl, ?_⟩
                refine ar_pure tOk rfl rfl rfl trivial ?_
                refine ar_pure tOk rfl rfl rfl trivial ?_
                refine ar_pure tOk rfl rfl rfl trivial ?_
                refine ar_nil ?_
                refine ag_false rfl (by decide) ?_
                refine ag_skip ?_
                refine ag_seq ?_
                refine ag_reg ?_
                refine ar_pure tOk rfl rfl rfl trivial ?_
                refine ar_nil ?_
                refine ag_true rfl (rfl) ?_
                refine ag_draw0 (by kernel_rfl) (by kernel_rfl) ?_
                refine aq_pure tOk rfl rfl rfl trivial ?_
                refine aq_pure tOk rfl rfl rfl trivial ?_
                refine aq_load0 tOk rfl (by kernel_rfl) rfl rfl trivial ?_
                refine aq_pure tOk rfl rfl rfl ?_ ?_
                · simp [boundsOk]
                refine aq_pure tOk rfl rfl rfl trivial ?_
                refine aq_load0 tOk rfl (by kernel_rfl) rfl rfl trivial ?_
                refine aq_pure tOk rfl rfl rfl trivial ?_
                refine aq_pure tOk rfl rfl rfl trivial ?_
                refine aq_nil rfl ?_
                refine ag_inBlock ?_
                refine ag_seq ?_
                refine ag_ent (ent_weak (g' := [(0, .r (.int .i64 room)), (1, .r (.ro ops.length (opsC ops))), (5, .ptr 0 0), (6, .r (.str [])), (7, .r (.int .i64 0)), (8, .r (.int .i64 (i : Int)))]) (h' := dN 0 (max room 0) true) [0] rfl rfl rfl rfl ?_ ?_ rfl) ?_
                · exact ⟨⟨rfl, rfl⟩, ⟨rfl, rfl⟩, ⟨rfl, rfl⟩, ⟨rfl, eqStr (by simp [cutL, mulz])⟩, ⟨rfl, eqI (by first | (simp; done) | (simp; omega))⟩, ⟨rfl, rfl⟩, trivial⟩
                · exact ⟨⟨rfl, rfl, rfl⟩, trivial⟩
                refine ag_reg ?_
                refine ar_pure tOk rfl rfl rfl trivial ?_
                refine ar_qd rfl (qop_objR [0] (w_OctetsN 0 (max room 0)) (by rintro _ _ ⟨rfl, rfl⟩; exact ⟨rfl, rfl⟩) rfl rfl (handed_of rfl rfl (by decide) ⟨rfl, rfl, rfl, trivial⟩) rfl rfl) rfl rfl rfl rfl ?_
                refine ar_pure tOk rfl rfl rfl trivial ?_
                refine ar_pure tOk rfl rfl rfl trivial ?_
                refine ar_pure tOk rfl rfl rfl trivial ?_
                refine ar_pure tOk rfl rfl rfl trivial ?_
                refine ar_pure tOk rfl rfl (by simp) trivial ?_
                refine ar_qd rfl (qop_objR [0] (w_FreshN (max room 0)) (by rintro _ _ ⟨rfl, rfl⟩; exact ⟨rfl, rfl⟩) rfl rfl (handed_of rfl rfl (by decide) ⟨rfl, rfl, rfl, trivial⟩) rfl rfl) rfl (by simp) rfl rfl ?_
                refine ar_pure tOk rfl rfl (by simp) trivial ?_
                refine ar_pure tOk rfl rfl (by simp) trivial ?_
                refine ar_pure tOk rfl rfl (by simp) trivial ?_
                refine ar_pure tOk rfl rfl (by simp) ?_ ?_
                · first | trivial | omega | (unfold inI64; omega) | (refine ⟨?_, ?_⟩ <;> first | trivial | rfl | omega | simp) | decide
                refine ar_pure tOk rfl rfl (by simp) trivial ?_
                refine ar_pure tOk rfl rfl rfl trivial ?_
                refine ar_nil ?_
                refine ag_false rfl (by first | (simp; done) | (simp; omega)) ?_
                refine ag_skip ?_
                refine ag_inBlock ?_
                refine ag_reg ?_
                refine ar_pure tOk rfl rfl rfl trivial ?_
                refine ar_pure tOk rfl rfl rfl ?_ ?_
                · first | trivial | omega | (unfold inI64; omega) | (refine ⟨?_, ?_⟩ <;> first | trivial | rfl | omega | simp) | decide
                refine ar_pure tOk rfl rfl rfl trivial ?_
                refine ar_nil ?_
                refine ag_ent (ent_weak (g' := (stDRuns_0 room ops (i + 1, DR.nil)).1) (h' := (stDRuns_0 room ops (i + 1, DR.nil)).2) [0] rfl rfl rfl rfl ?_ ?_ rfl) (hrec _ (show prDRuns_0 room ops (i + 1, DR.nil) from ?_) (show _ < _ from ?_))
                · exact ⟨⟨rfl, rfl⟩, ⟨rfl, rfl⟩, ⟨rfl, rfl⟩, ⟨rfl, rfl⟩, ⟨rfl, rfl⟩, ⟨rfl, by exact eqI (by omega)⟩, trivial⟩
                · exact ⟨⟨rfl, rfl, rfl⟩, trivial⟩
                · exact ⟨by omega, trivial⟩
                · show 40 - (i + 1) < 40 - i; omega
      · intro h29
        refine ag_exit rfl ?_
        refine ag_seq ?_
        refine ag_reg ?_
        refine ar_pure tOk rfl rfl rfl trivial ?_
        refine ar_nil ?_
        refine ag_ret tOk Try.func9 rfl rfl (by simp) ?_
        rfl
    · refine ar_ent (ent_reg 26 (.r (.bool false)) (by show AVal.r (.bool _) = _; rw [ht])) ?_
      refine ar_skip rfl rfl rfl ?_
      refine ar_skip rfl rfl rfl ?_
      refine ar_pure tOk rfl rfl rfl trivial ?_
      refine ar_nil ?_
      refine ag_false rfl (rfl) ?_
      refine ag_exit rfl ?_
      refine ag_seq ?_
      refine ag_reg ?_
      refine ar_pure tOk rfl rfl rfl trivial ?_
      refine ar_nil ?_
      refine ag_ret tOk Try.func9 rfl rfl (by simp) ?_
      rfl
  | buf x n su =>
    obtain ⟨hi, hv⟩ : _ := hp
    have hl : (x.take n).length = n := by rw [List.length_take]; exact Nat.min_eq_left hv.1
    refine ag_ent (ent_weak (g' := [(0, .r (.int .i64 room)), (1, .r (.ro ops.length (opsC ops))), (5, .ptr 0 0), (6, .r (.str (x.take n))), (7, .r (.int .i64 (su : Int))), (8, .r (.int .i64 (i : Int)))]) (h' := dB n x (su : Int) (max room 0) true) [0, 1] rfl rfl rfl rfl ?_ ?_ rfl) ?_
    · exact ⟨⟨rfl, rfl⟩, ⟨rfl, rfl⟩, ⟨rfl, rfl⟩, ⟨rfl, rfl⟩, ⟨rfl, rfl⟩, ⟨rfl, rfl⟩, trivial⟩
    · exact ⟨⟨rfl, rfl, rfl⟩, ⟨rfl, rfl, rfl⟩, trivial⟩
    have hl0 : ([] : List UInt8).length = 0 := rfl
    obtain ⟨hv1, hv2, hv3⟩ : n ≤ x.length ∧ su ≤ n ∧ (n : Int) ≤ max room 0 := hv
    refine ag_seq ?_
    refine ag_seq ?_
    refine ag_reg ?_
    refine ar_pure tOk rfl rfl rfl trivial ?_
    refine ar_pure tOk rfl rfl rfl trivial ?_
    refine ar_pure tOk rfl rfl rfl trivial ?_
    refine ar_pure tOk rfl rfl rfl trivial ?_
    refine ar_pure tOk rfl rfl rfl trivial ?_
    refine ar_guard (t := decide ((i : Int) < (ops.length : Int))) (fun ht => ?_) (fun ht => ?_)
    · refine ar_ent (ent_reg 26 (.r (.bool true)) (by show AVal.r (.bool _) = _; rw [ht])) ?_
      refine ar_pure tOk rfl rfl rfl trivial ?_
      refine ar_pure tOk rfl rfl rfl trivial ?_
      refine ar_pure tOk rfl rfl rfl trivial ?_
      refine ar_nil ?_
      refine ag_cond rfl ?_ ?_
      · intro h29
        have h40 : i < 40 := by have := of_decide_eq_true h29; omega
        have hlt : i < ops.length := by have := of_decide_eq_true ht; omega
        obtain ⟨⟨k, N, d⟩, hop⟩ : ∃ o, ops[i]? = some o := ⟨ops[i], by simp [hlt]⟩
        have hk4 := tm4 k
        refine ag_skip ?_
        refine ag_seq ?_
        refine ag_block ?_
        refine ag_seq ?_
        refine ag_reg ?_
        refine ar_pure tOk rfl rfl rfl trivial ?_
        refine ar_pure tOk rfl rfl rfl trivial ?_
        refine ar_pure tOk rfl rfl rfl ?_ ?_
        · refine ⟨?_, ?_⟩ <;> first | omega | exact opsC_ne hop | (refine ⟨?_, ?_⟩ <;> omega)
        refine ar_loadAs tOk (.agg [.r (.int .i64 k), .r (.int .i64 N), .r (.bs d)]) rfl rfl rfl rfl rfl rfl rfl (.inr ⟨rfl, _, rfl, by rw [mulz_eq, Int.toNat_natCast]; exact opsC_get hop, rfl⟩) ?_
        refine ar_new tOk rfl rfl rfl ?_ ?_
        · simp
        refine ar_store tOk rfl rfl rfl trivial ?_
        refine ar_nil ?_
        refine ag_seq ?_
        refine ag_seq ?_
        refine ag_reg ?_
        refine ar_pure tOk rfl rfl rfl trivial ?_
        refine ar_load tOk rfl rfl rfl trivial ?_
        refine ar_pure tOk rfl rfl rfl ?_ ?_
        · first | trivial | omega | (unfold inI64; omega) | (refine ⟨?_, ?_⟩ <;> first | trivial | rfl | omega | simp) | decide
        refine ar_pure tOk rfl rfl rfl ?_ ?_
        · unfold inI64; omega
        refine ar_pure tOk rfl rfl rfl ?_ ?_
        · first | trivial | omega | (unfold inI64; omega) | (refine ⟨?_, ?_⟩ <;> first | trivial | rfl | omega | simp) | decide
        refine ar_nil ?_
        refine ag_block ?_
        refine ag_seq ?_
        refine ag_reg ?_
        refine ar_pure tOk rfl rfl rfl trivial ?_
        refine ar_pure tOk rfl rfl rfl trivial ?_
        refine ar_nil ?_
        refine ag_if rfl ?_ ?_
        · intro h65
          refine ag_seq ?_
          rcases (show ((d.length : Int) > max room 0 - (n : Int)) ∨ ((d.length : Int) ≤ max room 0 - (n : Int)) by omega) with hF | hF
          · skip
            refine ag_reg ?_
            refine ar_pure tOk rfl rfl rfl trivial ?_
            refine ar_load tOk rfl rfl rfl trivial ?_
            refine ar_pure tOk rfl rfl rfl trivial ?_
            refine ar_pure tOk rfl rfl rfl trivial ?_
            refine ar_pure tOk rfl rfl rfl trivial ?_
            refine ar_pure tOk rfl rfl rfl trivial ?_
            refine ar_pure tOk rfl rfl rfl trivial ?_
            refine ar_pure tOk rfl rfl rfl ?_ ?_
            · first | trivial | omega | (unfold inI64; omega) | (refine ⟨?_, ?_⟩ <;> first | trivial | rfl | omega | simp) | decide
            refine ar_pure tOk rfl rfl rfl trivial ?_
            refine ar_ent (ent_reg 75 (.r (.bool false)) (by show AVal.r (.bool _) = _; exact eqBd (by first | (simp; done) | (simp; omega)))) ?_
            refine ar_pure tOk rfl rfl rfl trivial ?_
            refine ar_nil ?_
            refine ag_seq ?_
            refine ag_reg ?_
            refine ar_pure tOk rfl rfl rfl trivial ?_
            refine ar_pure tOk rfl rfl rfl trivial ?_
            refine ar_load tOk rfl rfl rfl trivial ?_
            refine ar_obj [0, 1] (w_WriteFullB d n x su (max room 0) (by omega) (by omega) (by omega) hF) rfl rfl (handed_of rfl rfl (by decide) ⟨rfl, rfl, rfl, rfl, rfl, rfl, trivial⟩) rfl rfl rfl rfl ?_
            rintro _ _ ⟨rfl, rfl⟩
            refine ⟨_, _, rfl, ?_⟩
            refine ar_pure tOk rfl rfl rfl trivial ?_
            refine ar_nil ?_
            refine ag_seq ?_
            refine ag_seq ?_
            refine ag_reg ?_
            refine ar_pure tOk rfl rfl rfl trivial ?_
            refine ar_pure tOk rfl rfl rfl trivial ?_
            refine ar_pure tOk rfl rfl rfl trivial ?_
            refine ar_pure tOk rfl rfl rfl trivial ?_
            refine ar_pure tOk rfl rfl rfl trivial ?_
            refine ar_pure tOk rfl rfl (by decide) trivial ?_
            refine ar_pure tOk rfl rfl (by decide) trivial ?_
            refine ar_pure tOk rfl rfl (by decide) trivial ?_
            refine ar_pure tOk rfl rfl (by decide) trivial ?_
            refine ar_pure tOk rfl rfl (by decide) trivial ?_
            refine ar_pure tOk rfl rfl (by decide) trivial ?_
            refine ar_pure tOk rfl rfl rfl trivial ?_
            refine ar_nil ?_
            refine ag_false rfl (by decide) ?_
            refine ag_skip ?_
            refine ag_seq ?_
            refine ag_reg ?_
            refine ar_pure tOk rfl rfl rfl trivial ?_
            refine ar_nil ?_
            refine ag_false rfl (rfl) ?_
            refine ag_skip ?_
            refine ag_inBlock ?_
            refine ag_seq ?_
            refine ag_ent (ent_weak (g' := [(0, .r (.int .i64 room)), (1, .r (.ro ops.length (opsC ops))), (5, .ptr 0 0), (6, .r (.str ((x).take (n)))), (7, .r (.int .i64 ((su : Nat) : Int))), (8, .r (.int .i64 (i : Int)))]) (h' := dB (n) (x) ((su : Nat) : Int) (max room 0) true) [0, 1] rfl rfl rfl rfl ?_ ?_ rfl) ?_
            · exact ⟨⟨rfl, rfl⟩, ⟨rfl, rfl⟩, ⟨rfl, rfl⟩, ⟨rfl, rfl⟩, ⟨rfl, eqI (by first | (simp; done) | (simp; omega))⟩, ⟨rfl, rfl⟩, trivial⟩
            · exact ⟨⟨rfl, rfl, rfl⟩, ⟨rfl, rfl, rfl⟩, trivial⟩
            have hlW : ((x).take (n)).length = n := by rw [List.length_take]; first | (simp; done) | (simp; omega) | omega
            refine ag_reg ?_
            refine ar_pure tOk rfl rfl rfl trivial ?_
            refine ar_qd rfl (qop_objR [0, 1] (w_OctetsB (n) (x) ((su : Nat) : Int) (max room 0) hv1 (by omega)) (by rintro _ _ ⟨rfl, rfl⟩; exact ⟨rfl, rfl⟩) rfl rfl (handed_of rfl rfl (by decide) ⟨rfl, rfl, rfl, rfl, rfl, rfl, trivial⟩) rfl rfl) rfl rfl rfl rfl ?_
            refine ar_pure tOk rfl rfl rfl trivial ?_
            refine ar_pure tOk rfl rfl rfl trivial ?_
            refine ar_pure tOk rfl rfl rfl trivial ?_
            refine ar_pure tOk rfl rfl rfl trivial ?_
            refine ar_pure tOk rfl rfl (by simp) trivial ?_
            refine ar_qd rfl (qop_objR [0, 1] (w_FreshB (n) (x) ((su : Nat) : Int) (max room 0) (by omega) (by omega) (by omega)) (by rintro _ _ ⟨rfl, rfl⟩; exact ⟨rfl, rfl⟩) rfl rfl (handed_of rfl rfl (by decide) ⟨rfl, rfl, rfl, rfl, rfl, rfl, trivial⟩) rfl rfl) rfl (by simp) rfl rfl ?_
            refine ar_pure tOk rfl rfl (by simp) trivial ?_
            refine ar_pure tOk rfl rfl (by simp) trivial ?_
            refine ar_pure tOk rfl rfl (by simp) trivial ?_
            refine ar_pure tOk rfl rfl (by simp) ?_ ?_
            · first | trivial | omega | (unfold inI64; omega) | (refine ⟨?_, ?_⟩ <;> first | trivial | rfl | omega | simp) | decide
            refine ar_pure tOk rfl rfl (by simp) trivial ?_
            refine ar_pure tOk rfl rfl rfl trivial ?_
            refine ar_nil ?_
            refine ag_false rfl (by first | (simp; done) | (simp; omega)) ?_
            refine ag_skip ?_
            refine ag_inBlock ?_
            refine ag_reg ?_
            refine ar_pure tOk rfl rfl rfl trivial ?_
            refine ar_pure tOk rfl rfl rfl ?_ ?_
            · first | trivial | omega | (unfold inI64; omega) | (refine ⟨?_, ?_⟩ <;> first | trivial | rfl | omega | simp) | decide
            refine ar_pure tOk rfl rfl rfl trivial ?_
            refine ar_nil ?_
            refine ag_ent (ent_weak (g' := (stDRuns_0 room ops (i + 1, DR.buf (x) (n) (su))).1) (h' := (stDRuns_0 room ops (i + 1, DR.buf (x) (n) (su))).2) [0, 1] rfl rfl rfl rfl ?_ ?_ rfl) (hrec _ (show prDRuns_0 room ops (i + 1, DR.buf (x) (n) (su)) from ?_) (show _ < _ from ?_))
            · exact ⟨⟨rfl, rfl⟩, ⟨rfl, rfl⟩, ⟨rfl, rfl⟩, ⟨rfl, rfl⟩, ⟨rfl, rfl⟩, ⟨rfl, by exact eqI (by omega)⟩, trivial⟩
            · exact ⟨⟨rfl, rfl, rfl⟩, ⟨rfl, rfl, rfl⟩, trivial⟩
            · exact ⟨by omega, by first | exact hv1 | (simp; done) | (simp; omega) | omega, by omega, by omega⟩
            · show 40 - (i + 1) < 40 - i; omega
          · skip
            refine ag_reg ?_
            refine ar_pure tOk rfl rfl rfl trivial ?_
            refine ar_load tOk rfl rfl rfl trivial ?_
            refine ar_pure tOk rfl rfl rfl trivial ?_
            refine ar_pure tOk rfl rfl rfl trivial ?_
            refine ar_pure tOk rfl rfl rfl trivial ?_
            refine ar_pure tOk rfl rfl rfl trivial ?_
            refine ar_pure tOk rfl rfl rfl trivial ?_
            refine ar_pure tOk rfl rfl rfl ?_ ?_
            · first | trivial | omega | (unfold inI64; omega) | (refine ⟨?_, ?_⟩ <;> first | trivial | rfl | omega | simp) | decide
            refine ar_pure tOk rfl rfl rfl trivial ?_
            refine ar_ent (ent_reg 75 (.r (.bool true)) (by show AVal.r (.bool _) = _; exact eqBd (by first | (simp; done) | (simp; omega)))) ?_
            refine ar_pure tOk rfl rfl rfl trivial ?_
            refine ar_nil ?_
            refine ag_seq ?_
            refine ag_reg ?_
            refine ar_pure tOk rfl rfl rfl trivial ?_
            refine ar_pure tOk rfl rfl rfl trivial ?_
            refine ar_load tOk rfl rfl rfl trivial ?_
            refine ar_obj [0, 1] (w_WriteB d n x su (max room 0) (by omega) (by omega) hv1 (by omega) hF) rfl rfl (handed_of rfl rfl (by decide) ⟨rfl, rfl, rfl, rfl, rfl, rfl, trivial⟩) rfl rfl rfl rfl ?_
            rintro _ _ ⟨rfl, rfl⟩
            refine ⟨_, _, rfl, ?_⟩
            refine ar_pure tOk rfl rfl rfl trivial ?_
            refine ar_nil ?_
            refine ag_seq ?_
            refine ag_seq ?_
            refine ag_reg ?_
            refine ar_pure tOk rfl rfl rfl trivial ?_
            refine ar_pure tOk rfl rfl rfl trivial ?_
            refine ar_pure tOk rfl rfl rfl trivial ?_
            refine ar_pure tOk rfl rfl rfl trivial ?_
            refine ar_pure tOk rfl rfl rfl trivial ?_
            refine ar_pure tOk rfl rfl (by decide) trivial ?_
            refine ar_pure tOk rfl rfl (by decide) trivial ?_
            refine ar_pure tOk rfl rfl (by decide) trivial ?_
            refine ar_skip rfl rfl rfl ?_
            refine ar_skip rfl rfl rfl ?_
            refine ar_pure tOk rfl rfl (by decide) trivial ?_
            refine ar_pure tOk rfl rfl rfl trivial ?_
            refine ar_nil ?_
            refine ag_false rfl (by decide) ?_
            refine ag_skip ?_
            refine ag_seq ?_
            refine ag_reg ?_
            refine ar_pure tOk rfl rfl rfl trivial ?_
            refine ar_nil ?_
            refine ag_true rfl (rfl) ?_
            refine ag_reg ?_
            refine ar_pure tOk rfl rfl rfl trivial ?_
            refine ar_pure tOk rfl rfl rfl trivial ?_
            refine ar_load tOk rfl rfl rfl trivial ?_
            refine ar_pure tOk rfl rfl rfl trivial ?_
            refine ar_pure tOk rfl rfl rfl ?_ ?_
            · first | omega | (simp; done)
            refine ar_pure tOk rfl rfl rfl trivial ?_
            refine ar_nil ?_
            refine ag_inBlock ?_
            refine ag_seq ?_
            refine ag_ent (ent_weak (g' := [(0, .r (.int .i64 room)), (1, .r (.ro ops.length (opsC ops))), (5, .ptr 0 0), (6, .r (.str ((x.take n ++ d).take (n + d.length)))), (7, .r (.int .i64 ((su : Nat) : Int))), (8, .r (.int .i64 (i : Int)))]) (h' := dB (n + d.length) (x.take n ++ d) ((su : Nat) : Int) (max room 0) true) [0, 3] rfl rfl rfl rfl ?_ ?_ rfl) ?_
            · exact ⟨⟨rfl, rfl⟩, ⟨rfl, rfl⟩, ⟨rfl, rfl⟩, ⟨rfl, eqStr (by rw [tk1 hv1])⟩, ⟨rfl, eqI (by first | (simp; done) | (simp; omega))⟩, ⟨rfl, rfl⟩, trivial⟩
            · exact ⟨⟨rfl, rfl, rfl⟩, ⟨rfl, rfl, rfl⟩, trivial⟩
            have hlW : ((x.take n ++ d).take (n + d.length)).length = n + d.length := by rw [List.length_take]; first | (simp; done) | (simp; omega) | omega
            refine ag_reg ?_
            refine ar_pure tOk rfl rfl rfl trivial ?_
            refine ar_qd rfl (qop_objR [0, 1] (w_OctetsB (n + d.length) (x.take n ++ d) ((su : Nat) : Int) (max room 0) (by simp; try omega) (by omega)) (by rintro _ _ ⟨rfl, rfl⟩; exact ⟨rfl, rfl⟩) rfl rfl (handed_of rfl rfl (by decide) ⟨rfl, rfl, rfl, rfl, rfl, rfl, trivial⟩) rfl rfl) rfl rfl rfl rfl ?_
            refine ar_pure tOk rfl rfl rfl trivial ?_
            refine ar_pure tOk rfl rfl rfl trivial ?_
            refine ar_pure tOk rfl rfl rfl trivial ?_
            refine ar_pure tOk rfl rfl rfl trivial ?_
            refine ar_pure tOk rfl rfl (by simp) trivial ?_
            refine ar_qd rfl (qop_objR [0, 1] (w_FreshB (n + d.length) (x.take n ++ d) ((su : Nat) : Int) (max room 0) (by omega) (by omega) (by omega)) (by rintro _ _ ⟨rfl, rfl⟩; exact ⟨rfl, rfl⟩) rfl rfl (handed_of rfl rfl (by decide) ⟨rfl, rfl, rfl, rfl, rfl, rfl, trivial⟩) rfl rfl) rfl (by simp) rfl rfl ?_
            refine ar_pure tOk rfl rfl (by simp) trivial ?_
            refine ar_pure tOk rfl rfl (by simp) trivial ?_
            refine ar_pure tOk rfl rfl (by simp) trivial ?_
            refine ar_pure tOk rfl rfl (by simp) ?_ ?_
            · first | trivial | omega | (unfold inI64; omega) | (refine ⟨?_, ?_⟩ <;> first | trivial | rfl | omega | simp) | decide
            refine ar_pure tOk rfl rfl (by simp) trivial ?_
            refine ar_pure tOk rfl rfl rfl trivial ?_
            refine ar_nil ?_
            refine ag_false rfl (by first | (simp; done) | (simp; omega)) ?_
            refine ag_skip ?_
            refine ag_inBlock ?_
            refine ag_reg ?_
            refine ar_pure tOk rfl rfl rfl trivial ?_
            refine ar_pure tOk rfl rfl rfl ?_ ?_
            · first | trivial | omega | (unfold inI64; omega) | (refine ⟨?_, ?_⟩ <;> first | trivial | rfl | omega | simp) | decide
            refine ar_pure tOk rfl rfl rfl trivial ?_
            refine ar_nil ?_
            refine ag_ent (ent_weak (g' := (stDRuns_0 room ops (i + 1, DR.buf (x.take n ++ d) (n + d.length) (su))).1) (h' := (stDRuns_0 room ops (i + 1, DR.buf (x.take n ++ d) (n + d.length) (su))).2) [0, 1] rfl rfl rfl rfl ?_ ?_ rfl) (hrec _ (show prDRuns_0 room ops (i + 1, DR.buf (x.take n ++ d) (n + d.length) (su)) from ?_) (show _ < _ from ?_))
            · exact ⟨⟨rfl, rfl⟩, ⟨rfl, rfl⟩, ⟨rfl, rfl⟩, ⟨rfl, rfl⟩, ⟨rfl, rfl⟩, ⟨rfl, by exact eqI (by omega)⟩, trivial⟩
            · exact ⟨⟨rfl, rfl, rfl⟩, ⟨rfl, rfl, rfl⟩, trivial⟩
            · exact ⟨by omega, by first | exact hv1 | (simp; done) | (simp; omega) | omega, by omega, by omega⟩
            · show 40 - (i + 1) < 40 - i; omega
        · intro h65
          refine ag_seq ?_
          refine ag_reg ?_
          refine ar_pure tOk rfl rfl rfl trivial ?_
          refine ar_pure tOk rfl rfl rfl trivial ?_
          refine ar_nil ?_
          refine ag_if rfl ?_ ?_
          · intro h98
            refine ag_seq ?_
            refine ag_seq ?_
            refine ag_reg ?_
            refine ar_pure tOk rfl rfl rfl trivial ?_
            refine ar_obj [0, 1] (w_SyncB n x su (max room 0) (by omega) (by omega) (by omega)) rfl rfl (handed_of rfl rfl (by decide) ⟨rfl, rfl, rfl, rfl, rfl, rfl, trivial⟩) rfl rfl rfl rfl ?_
            rintro _ _ ⟨rfl, rfl⟩
            refine ⟨_, _, rfl, ?_⟩
            refine ar_pure tOk rfl rfl rfl trivial ?_
            refine ar_pure tOk rfl rfl rfl trivial ?_
            refine ar_pure tOk rfl rfl rfl trivial ?_
            refine ar_pure tOk rfl rfl rfl ?_ ?_
            · first | trivial | omega | (unfold inI64; omega) | (refine ⟨?_, ?_⟩ <;> first | trivial | rfl | omega | simp) | decide
            refine ar_pure tOk rfl rfl rfl trivial ?_
            refine ar_nil ?_
            refine ag_false rfl (by first | (simp; done) | (simp; omega)) ?_
            refine ag_skip ?_
            refine ag_reg ?_
            refine ar_pure tOk rfl rfl rfl trivial ?_
            refine ar_pure tOk rfl rfl rfl trivial ?_
            refine ar_pure tOk rfl rfl rfl trivial ?_
            refine ar_nil ?_
            refine ag_inBlock ?_
            refine ag_seq ?_
            refine ag_ent (ent_weak (g' := [(0, .r (.int .i64 room)), (1, .r (.ro ops.length (opsC ops))), (5, .ptr 0 0), (6, .r (.str ((x).take (n)))), (7, .r (.int .i64 ((n : Nat) : Int))), (8, .r (.int .i64 (i : Int)))]) (h' := dB (n) (x) ((n : Nat) : Int) (max room 0) true) [0, 1] rfl rfl rfl rfl ?_ ?_ rfl) ?_
            · exact ⟨⟨rfl, rfl⟩, ⟨rfl, rfl⟩, ⟨rfl, rfl⟩, ⟨rfl, rfl⟩, ⟨rfl, eqI (by first | (simp; done) | (simp; omega))⟩, ⟨rfl, rfl⟩, trivial⟩
            · exact ⟨⟨rfl, rfl, rfl⟩, ⟨rfl, rfl, rfl⟩, trivial⟩
            have hlW : ((x).take (n)).length = n := by rw [List.length_take]; first | (simp; done) | (simp; omega) | omega
            refine ag_reg ?_
            refine ar_pure tOk rfl rfl rfl trivial ?_
            refine ar_qd rfl (qop_objR [0, 1] (w_OctetsB (n) (x) ((n : Nat) : Int) (max room 0) hv1 (by omega)) (by rintro _ _ ⟨rfl, rfl⟩; exact ⟨rfl, rfl⟩) rfl rfl (handed_of rfl rfl (by decide) ⟨rfl, rfl, rfl, rfl, rfl, rfl, trivial⟩) rfl rfl) rfl rfl rfl rfl ?_
            refine ar_pure tOk rfl rfl rfl trivial ?_
            refine ar_pure tOk rfl rfl rfl trivial ?_
            refine ar_pure tOk rfl rfl rfl trivial ?_
            refine ar_pure tOk rfl rfl rfl trivial ?_
            refine ar_pure tOk rfl rfl (by simp) trivial ?_
            refine ar_qd rfl (qop_objR [0, 1] (w_FreshB (n) (x) ((n : Nat) : Int) (max room 0) (by omega) (by omega) (by omega)) (by rintro _ _ ⟨rfl, rfl⟩; exact ⟨rfl, rfl⟩) rfl rfl (handed_of rfl rfl (by decide) ⟨rfl, rfl, rfl, rfl, rfl, rfl, trivial⟩) rfl rfl) rfl (by simp) rfl rfl ?_
            refine ar_pure tOk rfl rfl (by simp) trivial ?_
            refine ar_pure tOk rfl rfl (by simp) trivial ?_
            refine ar_pure tOk rfl rfl (by simp) trivial ?_
            refine ar_pure tOk rfl rfl (by simp) ?_ ?_
            · first | trivial | omega | (unfold inI64; omega) | (refine ⟨?_, ?_⟩ <;> first | trivial | rfl | omega | simp) | decide
            refine ar_pure tOk rfl rfl (by simp) trivial ?_
            refine ar_pure tOk rfl rfl rfl trivial ?_
            refine ar_nil ?_
            refine ag_false rfl (by first | (simp; done) | (simp; omega)) ?_
            refine ag_skip ?_
            refine ag_inBlock ?_
            refine ag_reg ?_
            refine ar_pure tOk rfl rfl rfl trivial ?_
            refine ar_pure tOk rfl rfl rfl ?_ ?_
            · first | trivial | omega | (unfold inI64; omega) | (refine ⟨?_, ?_⟩ <;> first | trivial | rfl | omega | simp) | decide
            refine ar_pure tOk rfl rfl rfl trivial ?_
            refine ar_nil ?_
            refine ag_ent (ent_weak (g' := (stDRuns_0 room ops (i + 1, DR.buf (x) (n) (n))).1) (h' := (stDRuns_0 room ops (i + 1, DR.buf (x) (n) (n))).2) [0, 1] rfl rfl rfl rfl ?_ ?_ rfl) (hrec _ (show prDRuns_0 room ops (i + 1, DR.buf (x) (n) (n)) from ?_) (show _ < _ from ?_))
            · exact ⟨⟨rfl, rfl⟩, ⟨rfl, rfl⟩, ⟨rfl, rfl⟩, ⟨rfl, rfl⟩, ⟨rfl, rfl⟩, ⟨rfl, by exact eqI (by omega)⟩, trivial⟩
            · exact ⟨⟨rfl, rfl, rfl⟩, ⟨rfl, rfl, rfl⟩, trivial⟩
            · exact ⟨by omega, by first | exact hv1 | (simp; done) | (simp; omega) | omega, by omega, by omega⟩
            · show 40 - (i + 1) < 40 - i; omega
          · intro h98
            refine ag_seq ?_
            refine ag_reg ?_
            refine ar_pure tOk rfl rfl rfl trivial ?_
            refine ar_pure tOk rfl rfl rfl trivial ?_
            refine ar_nil ?_
            refine ag_if rfl ?_ ?_
            · intro h109
              refine ag_seq ?_
              obtain ⟨j, hj⟩ : ∃ j : Nat, (j : Int) = su + min (max N 0) ((n : Int) - su) := ⟨(su + min (max N 0) ((n : Int) - su)).toNat, by omega⟩
              have hjn : j ≤ n := by omega
              have hlj : (x.take j).length = j := by simp; omega
              refine ag_reg ?_
              refine ar_pure tOk rfl rfl rfl trivial ?_
              refine ar_pure tOk rfl rfl rfl trivial ?_
              refine ar_load tOk rfl rfl rfl trivial ?_
              refine ar_obj [0, 1] (w_FallB N n x su (max room 0) j (by omega) (by omega) (by omega) hj) rfl rfl (handed_of rfl rfl (by decide) ⟨rfl, rfl, rfl, rfl, rfl, rfl, trivial⟩) rfl rfl rfl rfl ?_
              rintro _ _ ⟨rfl, rfl⟩
              refine ⟨_, _, rfl, ?_⟩
              refine ar_nil ?_
              refine ag_seq ?_
              refine ag_reg ?_
              refine ar_pure tOk rfl rfl rfl trivial ?_
              refine ar_pure tOk rfl rfl rfl trivial ?_
              refine ar_load tOk rfl rfl rfl trivial ?_
              refine ar_pure tOk rfl rfl rfl trivial ?_
              refine ar_pure tOk rfl rfl rfl trivial ?_
              refine ar_pure tOk rfl rfl rfl trivial ?_
              refine ar_pure tOk rfl rfl rfl trivial ?_
              refine ar_pure tOk rfl rfl rfl ?_ ?_
              · first | trivial | omega | (unfold inI64; omega) | (refine ⟨?_, ?_⟩ <;> first | trivial | rfl | omega | simp) | decide
              refine ar_pure tOk rfl rfl rfl trivial ?_
              refine ar_pure tOk rfl rfl rfl ?_ ?_
              · first | trivial | omega | (unfold inI64; omega) | (refine ⟨?_, ?_⟩ <;> first | trivial | rfl | omega | simp) | decide
              refine ar_ent (ent_reg 124 (.r (.int .i64 (((j : Nat) : Int)))) (by show AVal.r (.int _ _) = _; exact eqI (by simp; omega))) ?_
              refine ar_pure tOk rfl rfl rfl trivial ?_
              refine ar_nil ?_
              refine ag_reg ?_
              refine ar_pure tOk rfl rfl rfl trivial ?_
              refine ar_pure tOk rfl rfl rfl trivial ?_
              refine ar_pure tOk rfl rfl rfl ?_ ?_
              · refine ⟨by omega, ?_⟩; simp; omega
              refine ar_pure tOk rfl rfl rfl trivial ?_
              refine ar_nil ?_
              refine ag_inBlock ?_
              refine ag_seq ?_
              refine ag_ent (ent_weak (g' := [(0, .r (.int .i64 room)), (1, .r (.ro ops.length (opsC ops))), (5, .ptr 0 0), (6, .r (.str ((x).take (j)))), (7, .r (.int .i64 ((j : Nat) : Int))), (8, .r (.int .i64 (i : Int)))]) (h' := dB (j) (x) ((j : Nat) : Int) (max room 0) true) [0, 1] rfl rfl rfl rfl ?_ ?_ rfl) ?_
              · exact ⟨⟨rfl, rfl⟩, ⟨rfl, rfl⟩, ⟨rfl, rfl⟩, ⟨rfl, eqStr (tk2 hjn).symm⟩, ⟨rfl, eqI (by first | (simp; done) | (simp; omega))⟩, ⟨rfl, rfl⟩, trivial⟩
              · exact ⟨⟨rfl, rfl, rfl⟩, ⟨rfl, rfl, rfl⟩, trivial⟩
              have hlW : ((x).take (j)).length = j := by rw [List.length_take]; first | (simp; done) | (simp; omega) | omega
              refine ag_reg ?_
              refine ar_pure tOk rfl rfl rfl trivial ?_
              refine ar_qd rfl (qop_objR [0, 1] (w_OctetsB (j) (x) ((j : Nat) : Int) (max room 0) (by omega) (by omega)) (by rintro _ _ ⟨rfl, rfl⟩; exact ⟨rfl, rfl⟩) rfl rfl (handed_of rfl rfl (by decide) ⟨rfl, rfl, rfl, rfl, rfl, rfl, trivial⟩) rfl rfl) rfl rfl rfl rfl ?_
              refine ar_pure tOk rfl rfl rfl trivial ?_
              refine ar_pure tOk rfl rfl rfl trivial ?_
              refine ar_pure tOk rfl rfl rfl trivial ?_
              refine ar_pure tOk rfl rfl rfl trivial ?_
              refine ar_pure tOk rfl rfl (by simp) trivial ?_
              refine ar_qd rfl (qop_objR [0, 1] (w_FreshB (j) (x) ((j : Nat) : Int) (max room 0) (by omega) (by omega) (by omega)) (by rintro _ _ ⟨rfl, rfl⟩; exact ⟨rfl, rfl⟩) rfl rfl (handed_of rfl rfl (by decide) ⟨rfl, rfl, rfl, rfl, rfl, rfl, trivial⟩) rfl rfl) rfl (by simp) rfl rfl ?_
              refine ar_pure tOk rfl rfl (by simp) trivial ?_
              refine ar_pure tOk rfl rfl (by simp) trivial ?_
              refine ar_pure tOk rfl rfl (by simp) trivial ?_
              refine ar_pure tOk rfl rfl (by simp) ?_ ?_
              · first | trivial | omega | (unfold inI64; omega) | (refine ⟨?_, ?_⟩ <;> first | trivial | rfl | omega | simp) | decide
              refine ar_pure tOk rfl rfl (by simp) trivial ?_
              refine ar_pure tOk rfl rfl rfl trivial ?_
              refine ar_nil ?_
              refine ag_false rfl (by first | (simp; done) | (simp; omega)) ?_
              refine ag_skip ?_
              refine ag_inBlock ?_
              refine ag_reg ?_
              refine ar_pure tOk rfl rfl rfl trivial ?_
              refine ar_pure tOk rfl rfl rfl ?_ ?_
              · first | trivial | omega | (unfold inI64; omega) | (refine ⟨?_, ?_⟩ <;> first | trivial | rfl | omega | simp) | decide
              refine ar_pure tOk rfl rfl rfl trivial ?_
              refine ar_nil ?_
              refine ag_ent (ent_weak (g' := (stDRuns_0 room ops (i + 1, DR.buf (x) (j) (j))).1) (h' := (stDRuns_0 room ops (i + 1, DR.buf (x) (j) (j))).2) [0, 1] rfl rfl rfl rfl ?_ ?_ rfl) (hrec _ (show prDRuns_0 room ops (i + 1, DR.buf (x) (j) (j)) from ?_) (show _ < _ from ?_))
              · exact ⟨⟨rfl, rfl⟩, ⟨rfl, rfl⟩, ⟨rfl, rfl⟩, ⟨rfl, rfl⟩, ⟨rfl, rfl⟩, ⟨rfl, by exact eqI (by omega)⟩, trivial⟩
              · exact ⟨⟨rfl, rfl, rfl⟩, ⟨rfl, rfl, rfl⟩, trivial⟩
              · exact ⟨by omega, by first | exact hv1 | (simp; done) | (simp; omega) | omega, by omega, by omega⟩
              · show 40 - (i + 1) < 40 - i; omega
            · intro h109
              refine ag_seq ?_
              rcases (show (N < 0) ∨ (¬ N < 0 ∧ N > (n : Int)) ∨ (∃ j : Nat, N = (j : Int) ∧ j ≤ n) by
                by_cases h1 : N < 0
                · exact .inl h1
                by_cases h2 : N > (n : Int)
                · exact .inr (.inl ⟨h1, h2⟩)
                · exact .inr (.inr ⟨N.toNat, by omega, by omega⟩)) with hN | ⟨hN, hN2⟩ | ⟨j, hN, hjn⟩
              · skip
                refine ag_reg ?_
                refine ar_pure tOk rfl rfl rfl trivial ?_
                refine ar_load tOk rfl rfl rfl trivial ?_
                refine ar_pure tOk rfl rfl rfl trivial ?_
                refine ar_ent (ent_reg 43 (.r (.bool false)) (by show AVal.r (.bool _) = _; exact eqBd (by first | (simp; done) | (simp; omega)))) ?_
                refine ar_pure tOk rfl rfl rfl trivial ?_
                refine ar_skip rfl rfl rfl ?_
                refine ar_skip rfl rfl rfl ?_
                refine ar_skip rfl rfl rfl ?_
                refine ar_skip rfl rfl rfl ?_
                refine ar_skip rfl rfl rfl ?_
                
                refine ar_pure tOk rfl rfl rfl trivial ?_
                refine ar_pure tOk rfl rfl rfl trivial ?_
                refine ar_nil ?_
                refine ag_seq ?_
                refine ag_seq ?_
                refine ag_reg ?_
                refine ar_pure tOk rfl rfl rfl trivial ?_
                refine ar_pure tOk rfl rfl rfl trivial ?_
                refine ar_load tOk rfl rfl rfl trivial ?_
                refine ar_obj [0, 1] (w_TrimLowB N n x su (max room 0) hN) rfl rfl (handed_of rfl rfl (by decide) ⟨rfl, rfl, rfl, rfl, rfl, rfl, trivial⟩) rfl rfl rfl rfl ?_
                rintro _ _ ⟨rfl, rfl⟩
                refine ⟨_, _, rfl, ?_⟩
                refine ar_pure tOk rfl rfl rfl trivial ?_
                refine ar_pure tOk rfl rfl rfl trivial ?_
                refine ar_pure tOk rfl rfl rfl trivial ?_
                refine ar_nil ?_
                refine ag_false rfl (by decide) ?_
                refine ag_skip ?_
                refine ag_seq ?_
                refine ag_reg ?_
                refine ar_pure tOk rfl rfl rfl trivial ?_
                refine ar_nil ?_
                refine ag_false rfl (rfl) ?_
                refine ag_skip ?_
                refine ag_inBlock ?_
                refine ag_seq ?_
                refine ag_ent (ent_weak (g' := [(0, .r (.int .i64 room)), (1, .r (.ro ops.length (opsC ops))), (5, .ptr 0 0), (6, .r (.str ((x).take (n)))), (7, .r (.int .i64 ((su : Nat) : Int))), (8, .r (.int .i64 (i : Int)))]) (h' := dB (n) (x) ((su : Nat) : Int) (max room 0) true) [0, 1] rfl rfl rfl rfl ?_ ?_ rfl) ?_
                · exact ⟨⟨rfl, rfl⟩, ⟨rfl, rfl⟩, ⟨rfl, rfl⟩, ⟨rfl, rfl⟩, ⟨rfl, eqI (by first | (simp; done) | (simp; omega))⟩, ⟨rfl, rfl⟩, trivial⟩
                · exact ⟨⟨rfl, rfl, rfl⟩, ⟨rfl, rfl, rfl⟩, trivial⟩
                have hlW : ((x).take (n)).length = n := by rw [List.length_take]; first | (simp; done) | (simp; omega) | omega
                refine ag_reg ?_
                refine ar_pure tOk rfl rfl rfl trivial ?_
                refine ar_qd rfl (qop_objR [0, 1] (w_OctetsB (n) (x) ((su : Nat) : Int) (max room 0) hv1 (by omega)) (by rintro _ _ ⟨rfl, rfl⟩; exact ⟨rfl, rfl⟩) rfl rfl (handed_of rfl rfl (by decide) ⟨rfl, rfl, rfl, rfl, rfl, rfl, trivial⟩) rfl rfl) rfl rfl rfl rfl ?_
                refine ar_pure tOk rfl rfl rfl trivial ?_
                refine ar_pure tOk rfl rfl rfl trivial ?_
                refine ar_pure tOk rfl rfl rfl trivial ?_
                refine ar_pure tOk rfl rfl rfl trivial ?_
                refine ar_pure tOk rfl rfl (by simp) trivial ?_
                refine ar_qd rfl (qop_objR [0, 1] (w_FreshB (n) (x) ((su : Nat) : Int) (max room 0) (by omega) (by omega) (by omega)) (by rintro _ _ ⟨rfl, rfl⟩; exact ⟨rfl, rfl⟩) rfl rfl (handed_of rfl rfl (by decide) ⟨rfl, rfl, rfl, rfl, rfl, rfl, trivial⟩) rfl rfl) rfl (by simp) rfl rfl ?_
                refine ar_pure tOk rfl rfl (by simp) trivial ?_
                refine ar_pure tOk rfl rfl (by simp) trivial ?_
                refine ar_pure tOk rfl rfl (by simp) trivial ?_
                refine ar_pure tOk rfl rfl (by simp) ?_ ?_
                · first | trivial | omega | (unfold inI64; omega) | (refine ⟨?_, ?_⟩ <;> first | trivial | rfl | omega | simp) | decide
                refine ar_pure tOk rfl rfl (by simp) trivial ?_
                refine ar_pure tOk rfl rfl rfl trivial ?_
                refine ar_nil ?_
                refine ag_false rfl (by first | (simp; done) | (simp; omega)) ?_
                refine ag_skip ?_
                refine ag_inBlock ?_
                refine ag_reg ?_
                refine ar_pure tOk rfl rfl rfl trivial ?_
                refine ar_pure tOk rfl rfl rfl ?_ ?_
                · first | trivial | omega | (unfold inI64; omega) | (refine ⟨?_, ?_⟩ <;> first | trivial | rfl | omega | simp) | decide
                refine ar_pure tOk rfl rfl rfl trivial ?_
                refine ar_nil ?_
                refine ag_ent (ent_weak (g' := (stDRuns_0 room ops (i + 1, DR.buf (x) (n) (su))).1) (h' := (stDRuns_0 room ops (i + 1, DR.buf (x) (n) (su))).2) [0, 1] rfl rfl rfl rfl ?_ ?_ rfl) (hrec _ (show prDRuns_0 room ops (i + 1, DR.buf (x) (n) (su)) from ?_) (show _ < _ from ?_))
                · exact ⟨⟨rfl, rfl⟩, ⟨rfl, rfl⟩, ⟨rfl, rfl⟩, ⟨rfl, rfl⟩, ⟨rfl, rfl⟩, ⟨rfl, by exact eqI (by omega)⟩, trivial⟩
                · exact ⟨⟨rfl, rfl, rfl⟩, ⟨rfl, rfl, rfl⟩, trivial⟩
                · exact ⟨by omega, by first | exact hv1 | (simp; done) | (simp; omega) | omega, by omega, by omega⟩
                · show 40 - (i + 1) < 40 - i; omega
              · skip
                refine ag_reg ?_
                refine ar_pure tOk rfl rfl rfl trivial ?_
                refine ar_load tOk rfl rfl rfl trivial ?_
                refine ar_pure tOk rfl rfl rfl trivial ?_
                refine ar_ent (ent_reg 43 (.r (.bool true)) (by show AVal.r (.bool _) = _; exact eqBd (by first | (simp; done) | (simp; omega)))) ?_
                refine ar_pure tOk rfl rfl rfl trivial ?_
                refine ar_pure tOk rfl rfl (by decide) trivial ?_
                refine ar_load tOk rfl rfl (by decide) trivial ?_
                refine ar_pure tOk rfl rfl (by decide) trivial ?_
                refine ar_pure tOk rfl rfl (by decide) trivial ?_
                refine ar_pure tOk rfl rfl (by decide) trivial ?_
                refine ar_ent (ent_reg 49 (.r (.bool false)) (by show AVal.r (.bool _) = _; exact eqBd (by first | (simp; done) | (simp; omega)))) ?_
                refine ar_pure tOk rfl rfl rfl trivial ?_
                refine ar_pure tOk rfl rfl rfl trivial ?_
                refine ar_nil ?_
                refine ag_seq ?_
                refine ag_seq ?_
                refine ag_reg ?_
                refine ar_pure tOk rfl rfl rfl trivial ?_
                refine ar_pure tOk rfl rfl rfl trivial ?_
                refine ar_load tOk rfl rfl rfl trivial ?_
                refine ar_obj [0, 1] (w_TrimHighB N n x su (max room 0) hN hN2) rfl rfl (handed_of rfl rfl (by decide) ⟨rfl, rfl, rfl, rfl, rfl, rfl, trivial⟩) rfl rfl rfl rfl ?_
                rintro _ _ ⟨rfl, rfl⟩
                refine ⟨_, _, rfl, ?_⟩
                refine ar_pure tOk rfl rfl rfl trivial ?_
                refine ar_pure tOk rfl rfl rfl trivial ?_
                refine ar_pure tOk rfl rfl rfl trivial ?_
                refine ar_nil ?_
                refine ag_false rfl (by decide) ?_
                refine ag_skip ?_
                refine ag_seq ?_
                refine ag_reg ?_
                refine ar_pure tOk rfl rfl rfl trivial ?_
                refine ar_nil ?_
                refine ag_false rfl (rfl) ?_
                refine ag_skip ?_
                refine ag_inBlock ?_
                refine ag_seq ?_
                refine ag_ent (ent_weak (g' := [(0, .r (.int .i64 room)), (1, .r (.ro ops.length (opsC ops))), (5, .ptr 0 0), (6, .r (.str ((x).take (n)))), (7, .r (.int .i64 ((su : Nat) : Int))), (8, .r (.int .i64 (i : Int)))]) (h' := dB (n) (x) ((su : Nat) : Int) (max room 0) true) [0, 1] rfl rfl rfl rfl ?_ ?_ rfl) ?_
                · exact ⟨⟨rfl, rfl⟩, ⟨rfl, rfl⟩, ⟨rfl, rfl⟩, ⟨rfl, rfl⟩, ⟨rfl, eqI (by first | (simp; done) | (simp; omega))⟩, ⟨rfl, rfl⟩, trivial⟩
                · exact ⟨⟨rfl, rfl, rfl⟩, ⟨rfl, rfl, rfl⟩, trivial⟩
                have hlW : ((x).take (n)).length = n := by rw [List.length_take]; first | (simp; done) | (simp; omega) | omega
                refine ag_reg ?_
                refine ar_pure tOk rfl rfl rfl trivial ?_
                refine ar_qd rfl (qop_objR [0, 1] (w_OctetsB (n) (x) ((su : Nat) : Int) (max room 0) hv1 (by omega)) (by rintro _ _ ⟨rfl, rfl⟩; exact ⟨rfl, rfl⟩) rfl rfl (handed_of rfl rfl (by decide) ⟨rfl, rfl, rfl, rfl, rfl, rfl, trivial⟩) rfl rfl) rfl rfl rfl rfl ?_
                refine ar_pure tOk rfl rfl rfl trivial ?_
                refine ar_pure tOk rfl rfl rfl trivial ?_
                refine ar_pure tOk rfl rfl rfl trivial ?_
                refine ar_pure tOk rfl rfl rfl trivial ?_
                refine ar_pure tOk rfl rfl (by simp) trivial ?_
                refine ar_qd rfl (qop_objR [0, 1] (w_FreshB (n) (x) ((su : Nat) : Int) (max room 0) (by omega) (by omega) (by omega)) (by rintro _ _ ⟨rfl, rfl⟩; exact ⟨rfl, rfl⟩) rfl rfl (handed_of rfl rfl (by decide) ⟨rfl, rfl, rfl, rfl, rfl, rfl, trivial⟩) rfl rfl) rfl (by simp) rfl rfl ?_
                refine ar_pure tOk rfl rfl (by simp) trivial ?_
                refine ar_pure tOk rfl rfl (by simp) trivial ?_
                refine ar_pure tOk rfl rfl (by simp) trivial ?_
                refine ar_pure tOk rfl rfl (by simp) ?_ ?_
                · first | trivial | omega | (unfold inI64; omega) | (refine ⟨?_, ?_⟩ <;> first | trivial | rfl | omega | simp) | decide
                refine ar_pure tOk rfl rfl (by simp) trivial ?_
                refine ar_pure tOk rfl rfl rfl trivial ?_
                refine ar_nil ?_
                refine ag_false rfl (by first | (simp; done) | (simp; omega)) ?_
                refine ag_skip ?_
                refine ag_inBlock ?_
                refine ag_reg ?_
                refine ar_pure tOk rfl rfl rfl trivial ?_
                refine ar_pure tOk rfl rfl rfl ?_ ?_
                · first | trivial | omega | (unfold inI64; omega) | (refine ⟨?_, ?_⟩ <;> first | trivial | rfl | omega | simp) | decide
                refine ar_pure tOk rfl rfl rfl trivial ?_
                refine ar_nil ?_
                refine ag_ent (ent_weak (g' := (stDRuns_0 room ops (i + 1, DR.buf (x) (n) (su))).1) (h' := (stDRuns_0 room ops (i + 1, DR.buf (x) (n) (su))).2) [0, 1] rfl rfl rfl rfl ?_ ?_ rfl) (hrec _ (show prDRuns_0 room ops (i + 1, DR.buf (x) (n) (su)) from ?_) (show _ < _ from ?_))
                · exact ⟨⟨rfl, rfl⟩, ⟨rfl, rfl⟩, ⟨rfl, rfl⟩, ⟨rfl, rfl⟩, ⟨rfl, rfl⟩, ⟨rfl, by exact eqI (by omega)⟩, trivial⟩
                · exact ⟨⟨rfl, rfl, rfl⟩, ⟨rfl, rfl, rfl⟩, trivial⟩
                · exact ⟨by omega, by first | exact hv1 | (simp; done) | (simp; omega) | omega, by omega, by omega⟩
                · show 40 - (i + 1) < 40 - i; omega
              · skip
                subst hN
                have hlj : (x.take j).length = j := by simp; omega
                refine ag_reg ?_
                refine ar_pure tOk rfl rfl rfl trivial ?_
                refine ar_load tOk rfl rfl rfl trivial ?_
                refine ar_pure tOk rfl rfl rfl trivial ?_
                refine ar_ent (ent_reg 43 (.r (.bool true)) (by show AVal.r (.bool _) = _; exact eqBd (by first | (simp; done) | (simp; omega)))) ?_
                refine ar_pure tOk rfl rfl rfl trivial ?_
                refine ar_pure tOk rfl rfl (by decide) trivial ?_
                refine ar_load tOk rfl rfl (by decide) trivial ?_
                refine ar_pure tOk rfl rfl (by decide) trivial ?_
                refine ar_pure tOk rfl rfl (by decide) trivial ?_
                refine ar_pure tOk rfl rfl (by decide) trivial ?_
                refine ar_ent (ent_reg 49 (.r (.bool true)) (by show AVal.r (.bool _) = _; exact eqBd (by first | (simp; done) | (simp; omega)))) ?_
                refine ar_pure tOk rfl rfl rfl trivial ?_
                refine ar_pure tOk rfl rfl rfl trivial ?_
                refine ar_nil ?_
                refine ag_seq ?_
                refine ag_seq ?_
                refine ag_reg ?_
                refine ar_pure tOk rfl rfl rfl trivial ?_
                refine ar_pure tOk rfl rfl rfl trivial ?_
                refine ar_load tOk rfl rfl rfl trivial ?_
                refine ar_obj [0, 1] (w_TrimB j n x su (max room 0) hjn) rfl rfl (handed_of rfl rfl (by decide) ⟨rfl, rfl, rfl, rfl, rfl, rfl, trivial⟩) rfl rfl rfl rfl ?_
                rintro _ _ ⟨rfl, rfl⟩
                refine ⟨_, _, rfl, ?_⟩
                refine ar_pure tOk rfl rfl rfl trivial ?_
                refine ar_pure tOk rfl rfl rfl trivial ?_
                refine ar_pure tOk rfl rfl rfl trivial ?_
                refine ar_nil ?_
                refine ag_false rfl (by decide) ?_
                refine ag_skip ?_
                refine ag_seq ?_
                refine ag_reg ?_
                refine ar_pure tOk rfl rfl rfl trivial ?_
                refine ar_nil ?_
                refine ag_true rfl (rfl) ?_
                refine ag_draw0 (by kernel_rfl) (by kernel_rfl) ?_
                refine aq_pure tOk rfl rfl rfl trivial ?_
                refine aq_pure tOk rfl rfl rfl trivial ?_
                refine aq_load0 tOk rfl (by kernel_rfl) rfl rfl trivial ?_
                refine aq_pure tOk rfl rfl rfl ?_ ?_
                · refine ⟨by omega, ?_⟩; simp; omega
                refine aq_pure tOk rfl rfl rfl trivial ?_
                refine aq_load0 tOk rfl (by kernel_rfl) rfl rfl trivial ?_
                refine aq_pure tOk rfl rfl rfl trivial ?_
                refine aq_pure tOk rfl rfl rfl trivial ?_
                refine aq_nil rfl ?_
                refine ag_inBlock ?_
                refine ag_seq ?_
                refine ag_ent (ent_weak (g' := [(0, .r (.int .i64 room)), (1, .r (.ro ops.length (opsC ops))), (5, .ptr 0 0), (6, .r (.str ((x).take (j)))), (7, .r (.int .i64 ((j : Nat) : Int))), (8, .r (.int .i64 (i : Int)))]) (h' := dB (j) (x) ((j : Nat) : Int) (max room 0) true) [0, 1] rfl rfl rfl rfl ?_ ?_ rfl) ?_
                · exact ⟨⟨rfl, rfl⟩, ⟨rfl, rfl⟩, ⟨rfl, rfl⟩, ⟨rfl, eqStr (tk2 hjn).symm⟩, ⟨rfl, eqI (by first | (simp; done) | (simp; omega))⟩, ⟨rfl, rfl⟩, trivial⟩
                · exact ⟨⟨rfl, rfl, rfl⟩, ⟨rfl, rfl, rfl⟩, trivial⟩
                have hlW : ((x).take (j)).length = j := by rw [List.length_take]; first | (simp; done) | (simp; omega) | omega
                refine ag_reg ?_
                refine ar_pure tOk rfl rfl rfl trivial ?_
                refine ar_qd rfl (qop_objR [0, 1] (w_OctetsB (j) (x) ((j : Nat) : Int) (max room 0) (by omega) (by omega)) (by rintro _ _ ⟨rfl, rfl⟩; exact ⟨rfl, rfl⟩) rfl rfl (handed_of rfl rfl (by decide) ⟨rfl, rfl, rfl, rfl, rfl, rfl, trivial⟩) rfl rfl) rfl rfl rfl rfl ?_
                refine ar_pure tOk rfl rfl rfl trivial ?_
                refine ar_pure tOk rfl rfl rfl trivial ?_
                refine ar_pure tOk rfl rfl rfl trivial ?_
                refine ar_pure tOk rfl rfl rfl trivial ?_
                refine ar_pure tOk rfl rfl (by simp) trivial ?_
                refine ar_qd rfl (qop_objR [0, 1] (w_FreshB (j) (x) ((j : Nat) : Int) (max room 0) (by omega) (by omega) (by omega)) (by rintro _ _ ⟨rfl, rfl⟩; exact ⟨rfl, rfl⟩) rfl rfl (handed_of rfl rfl (by decide) ⟨rfl, rfl, rfl, rfl, rfl, rfl, trivial⟩) rfl rfl) rfl (by simp) rfl rfl ?_
                refine ar_pure tOk rfl rfl (by simp) trivial ?_
                refine ar_pure tOk rfl rfl (by simp) trivial ?_
                refine ar_pure tOk rfl rfl (by simp) trivial ?_
                refine ar_pure tOk rfl rfl (by simp) ?_ ?_
                · first | trivial | omega | (unfold inI64; omega) | (refine ⟨?_, ?_⟩ <;> first | trivial | rfl | omega | simp) | decide
                refine ar_pure tOk rfl rfl (by simp) trivial ?_
                refine ar_pure tOk rfl rfl rfl trivial ?_
                refine ar_nil ?_
                refine ag_false rfl (by first | (simp; done) | (simp; omega)) ?_
                refine ag_skip ?_
                refine ag_inBlock ?_
                refine ag_reg ?_
                refine ar_pure tOk rfl rfl rfl trivial ?_
                refine ar_pure tOk rfl rfl rfl ?_ ?_
                · first | trivial | omega | (unfold inI64; omega) | (refine ⟨?_, ?_⟩ <;> first | trivial | rfl | omega | simp) | decide
                refine ar_pure tOk rfl rfl rfl trivial ?_
                refine ar_nil ?_
                refine ag_ent (ent_weak (g' := (stDRuns_0 room ops (i + 1, DR.buf (x) (j) (j))).1) (h' := (stDRuns_0 room ops (i + 1, DR.buf (x) (j) (j))).2) [0, 1] rfl rfl rfl rfl ?_ ?_ rfl) (hrec _ (show prDRuns_0 room ops (i + 1, DR.buf (x) (j) (j)) from ?_) (show _ < _ from ?_))
                · exact ⟨⟨rfl, rfl⟩, ⟨rfl, rfl⟩, ⟨rfl, rfl⟩, ⟨rfl, rfl⟩, ⟨rfl, rfl⟩, ⟨rfl, by exact eqI (by omega)⟩, trivial⟩
                · exact ⟨⟨rfl, rfl, rfl⟩, ⟨rfl, rfl, rfl⟩, trivial⟩
                · exact ⟨by omega, by first | exact hv1 | (simp; done) | (simp; omega) | omega, by omega, by omega⟩
                · show 40 - (i + 1) < 40 - i; omega
      · intro h29
        refine ag_exit rfl ?_
        refine ag_seq ?_
        refine ag_reg ?_
        refine ar_pure tOk rfl rfl rfl trivial ?_
        refine ar_nil ?_
        refine ag_ret tOk Try.func9 rfl rfl (by simp) ?_
        rfl
    · refine ar_ent (ent_reg 26 (.r (.bool false)) (by show AVal.r (.bool _) = _; rw [ht])) ?_
      refine ar_skip rfl rfl rfl ?_
      refine ar_skip rfl rfl rfl ?_
      refine ar_pure tOk rfl rfl rfl trivial ?_
      refine ar_nil ?_
      refine ag_false rfl (rfl) ?_
      refine ag_exit rfl ?_
      refine ag_seq ?_
      refine ag_reg ?_
      refine ar_pure tOk rfl rfl rfl trivial ?_
      refine ar_nil ?_
      refine ag_ret tOk Try.func9 rfl rfl (by simp) ?_
      rfl

theorem w_DiskRuns (room0 : Int) (ops : List (Int × Int × List UInt8)) : Pur Try.prog 9 [.r (.int .i64 room0), .r (.ro ops.length (opsC ops))] (.r (.bool true)) := by
  have h1 : -50 < room0.tmod 50 ∧ room0.tmod 50 < 50 := ⟨Int.lt_tmod_of_pos room0 (by decide), Int.tmod_lt_of_pos room0 (by decide)⟩
  have h2 : 0 ≤ (room0.tmod 50 + 50).tmod 50 := Int.tmod_nonneg 50 (by omega)
  have h3 : (room0.tmod 50 + 50).tmod 50 < 50 := Int.tmod_lt_of_pos _ (by decide)
  exact w_DiskRuns0 room0 _ ops h1 rfl (by omega) (by omega)

end Go.Proofs.Ytkcfmefleghnnaa

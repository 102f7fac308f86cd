/-
  WALKS: chains and beginnings (ots.Walk, ots.Begin, and the reference's). (Printed by gen.py out of w_owalk.py.)
-/
import Derived.Test.YtnodpljgcdkbkaaPlain
import Derived.Test.YtnodpljgcdkbkaaLODig
namespace Go.Proofs.Ytnodpljgcdkbkaa
open Go
set_option maxRecDepth 20000
set_option linter.unusedVariables false
set_option linter.unusedSimpArgs false
/-- So many steps from a text. -/
def wlk : Nat → List UInt8 → List UInt8
  | 0, s => s
  | k + 1, s => sh8 (wlk k s)
def stp (n : Int) : Nat := (min (max n 0) 3).toNat
theorem wlk_length8 {s : List UInt8} (h : s.length = 8) : ∀ k, (wlk k s).length = 8
  | 0 => h
  | k + 1 => sh8_length _
theorem wlk_le {s : List UInt8} (h : s.length ≤ 140737488355000) : ∀ k, (wlk k s).length ≤ 140737488355000
  | 0 => h
  | k + 1 => by rw [wlk, sh8_length]; omega
theorem w_Short1 (s : List UInt8) (hs : s.length ≤ 140737488355000) : Pur Try.prog 115 [.r (.ro 1 [.bs s])] (.r (.str (sh8 s))) := by
  exact Pur.mono_r (w_Short [s] (by simp) (by simpa using hs)) (by simp)
def stWlk_0 (s : List UInt8) (n : Int) : Nat → Regs × Hp := fun i => ([(0, .r (.str (wlk i s))), (7, .r (.int .i64 (min (max n 0) 3))), (8, .r (.int .i64 (i : Int)))], ⟨0, [], false⟩)
def prWlk_0 (s : List UInt8) (n : Int) : Nat → Prop := fun i => i ≤ stp n
theorem w_Walk (s : List UInt8) (n : Int) (hs : s.length ≤ 140737488355000) : Pur Try.prog 119 [.r (.str s), .r (.int .i64 n)] (.r (.str (wlk (stp n) s))) := by
  refine spec_of_go (N := 16) Try.func119 rfl (by decide) rfl rfl ?_
  refine zB ?_
  refine pA ?_
  refine zA ?_
  refine zB ?_
  iterate 4 refine pA ?_
  refine ar_nil ?_
  refine ag_block ?_
  refine ag_loopS (stWlk_0 s n) (prWlk_0 s n) (fun (i : Nat) => stp n - i) 0 (ent_weak [] rfl rfl rfl rfl ?_ ?_ rfl) (show prWlk_0 s n 0 from ?_) ?_
  · exact ⟨⟨rfl, rfl⟩, ⟨rfl, rfl⟩, ⟨rfl, rfl⟩, trivial⟩
  · trivial
  · exact Nat.zero_le _
  rintro i hp hrec
  have hi : i ≤ stp n := hp
  refine zB ?_
  refine pA ?_
  refine zA ?_
  refine ag_if rfl ?_ ?_
  · intro h9
    have hlt : i < stp n := by unfold stp; omega
    refine ag_skip ?_
    refine ag_seq ?_
    refine ag_block ?_
    refine ag_reg ?_
    refine pA ?_
    refine ar_qd rfl (qop_strBytes tOk rfl) rfl rfl rfl rfl ?_
    refine ar_qd rfl (qop_buildRo tOk rfl ?_ rfl) rfl rfl rfl rfl ?_
    · repeat any_goals (first | trivial | decide | omega | (simp; done) | (rw [wu8]; omega) | refine ⟨?_, ?_⟩)
    refine ar_pur (w_Short1 (wlk i s) (wlk_le hs i)) rfl rfl rfl rfl rfl rfl rfl ?_
    refine pA ?_
    refine ar_nil ?_
    refine ag_inBlock ?_
    refine ag_reg ?_
    refine ar_pure tOk rfl rfl rfl ?_ ?_
    · unfold stp at hi; unfold inI64; omega
    refine pA ?_
    refine ar_nil ?_
    refine ag_ent (ent_weak (g' := (stWlk_0 s n (i + 1)).1) (h' := (stWlk_0 s n (i + 1)).2) [] rfl rfl rfl rfl ?_ ?_ rfl) ?_
    · exact ⟨⟨rfl, rfl⟩, ⟨rfl, rfl⟩, ⟨rfl, by exact eqI (by omega)⟩, trivial⟩
    · trivial
    have hnx := hrec (i + 1)
    refine hnx ?_ ?_
    · show i + 1 ≤ stp n; omega
    · show stp n - (i + 1) < stp n - i; omega
  · intro h9
    have hi : i = stp n := by unfold stp at hi ⊢; omega
    subst hi
    refine ag_exit rfl ?_
    refine zB ?_
    iterate 2 refine pA ?_
    refine ar_nil ?_
    refine ag_ret tOk Try.func119 rfl rfl (by simp) ?_
    rfl
def strWlk_0 (s : List UInt8) (n : Int) : Nat → Regs × Hp := fun i => ([(0, .r (.str (wlk i s))), (1, .r (.int .i64 n)), (5, .r (.int .i64 (i : Int)))], ⟨0, [], false⟩)
def prrWlk_0 (s : List UInt8) (n : Int) : Nat → Prop := fun i => i ≤ stp n
theorem w_rWalk (s : List UInt8) (n : Int) (hs : s.length ≤ 140737488355000) : Pur Try.prog 129 [.r (.str s), .r (.int .i64 n)] (.r (.str (wlk (stp n) s))) := by
  refine spec_of_go (N := 18) Try.func129 rfl (by decide) rfl rfl ?_
  refine zB ?_
  refine pA ?_
  refine zA ?_
  refine zB ?_
  refine pA ?_
  refine ar_nil ?_
  refine ag_block ?_
  refine ag_loopS (strWlk_0 s n) (prrWlk_0 s n) (fun (i : Nat) => stp n - i) 0 (ent_weak [] rfl rfl rfl rfl ?_ ?_ rfl) (show prrWlk_0 s n 0 from ?_) ?_
  · exact ⟨⟨rfl, rfl⟩, ⟨rfl, rfl⟩, ⟨rfl, rfl⟩, trivial⟩
  · trivial
  · exact Nat.zero_le _
  rintro i hp hrec
  have hi : i ≤ stp n := hp
  refine ag_seq ?_
  refine zB ?_
  iterate 4 refine pA ?_
  refine ar_guard (t := decide ((i : Int) < n)) (fun ht => ?_) (fun ht => ?_)
  · refine ar_ent (ent_reg 9 (.r (.bool true)) (by show AVal.r (.bool _) = _; rw [ht])) ?_
    have hn := of_decide_eq_true ht
    iterate 3 refine pA ?_
    refine ar_nil ?_
    refine ag_if rfl ?_ ?_
    · intro h12
      have hlt : i + 1 ≤ stp n := by unfold stp; omega
      refine ag_skip ?_
      refine ag_seq ?_
      refine ag_block ?_
      refine ag_reg ?_
      refine pA ?_
      refine ar_pur (w_rShort (wlk i s) (wlk_le hs i)) rfl rfl rfl rfl rfl rfl rfl ?_
      refine pA ?_
      refine ar_nil ?_
      refine ag_inBlock ?_
      refine ag_reg ?_
      refine pA ?_
      refine ar_pure tOk rfl rfl rfl ?_ ?_
      · unfold inI64; omega
      refine pA ?_
      refine ar_nil ?_
      refine ag_ent (ent_weak (g' := (strWlk_0 s n (i + 1)).1) (h' := (strWlk_0 s n (i + 1)).2) [] rfl rfl rfl rfl ?_ ?_ rfl) ?_
      · exact ⟨⟨rfl, rfl⟩, ⟨rfl, rfl⟩, ⟨rfl, by exact eqI (by omega)⟩, trivial⟩
      · trivial
      have hnx := hrec (i + 1)
      refine hnx ?_ ?_
      · exact hlt
      · show stp n - (i + 1) < stp n - i; omega
    · intro h12
      have hi : i = stp n := by unfold stp at hi ⊢; omega
      subst hi
      refine ag_exit rfl ?_
      refine ag_seq ?_
      skip
      refine ag_reg ?_
      iterate 2 refine pA ?_
      refine ar_nil ?_
      refine ag_ret tOk Try.func129 rfl rfl (by simp) ?_
      rfl
  · refine ar_ent (ent_reg 9 (.r (.bool false)) (by show AVal.r (.bool _) = _; rw [ht])) ?_
    have hn := of_decide_eq_false ht
    iterate 2 refine ar_skip rfl rfl rfl ?_
    refine pA ?_
    refine ar_nil ?_
    refine ag_false rfl (rfl) ?_
    refine ag_exit rfl ?_
    refine ag_seq ?_
    have hi : i = stp n := by unfold stp at hi ⊢; omega
    subst hi
    refine ag_reg ?_
    iterate 2 refine pA ?_
    refine ar_nil ?_
    refine ag_ret tOk Try.func129 rfl rfl (by simp) ?_
    rfl
end Go.Proofs.Ytnodpljgcdkbkaa


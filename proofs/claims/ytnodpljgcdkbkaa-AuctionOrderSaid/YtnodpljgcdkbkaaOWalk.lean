/-
  WALKS: chains and beginnings (ots.Walk, ots.Begin, and the reference's). (Printed by gen.py out of w_owalk.py.)
-/
import Derived.Test.YtnodpljgcdkbkaaPlain
import Derived.Test.YtnodpljgcdkbkaaLODig
namespace Go.Proofs.Ytnodpljgcdkbkaa
open Go
set_option maxRecDepth 20000
set_option linter.unusedVariables false
set_option linter.unusedSimpArgs false
/-- So many steps from a text. -/
def wlk : Nat → List UInt8 → List UInt8
  | 0, s => s
  | k + 1, s => sh8 (wlk k s)
def stp (n : Int) : Nat := (min (max n 0) 3).toNat
theorem wlk_length8 {s : List UInt8} (h : s.length = 8) : ∀ k, (wlk k s).length = 8
  | 0 => h
  | k + 1 => sh8_length _
theorem wlk_le {s : List UInt8} (h : s.length ≤ 140737488355000) : ∀ k, (wlk k s).length ≤ 140737488355000
  | 0 => h
  | k + 1 => by rw [wlk, sh8_length]; omega
theorem w_Short1 (s : List UInt8) (hs : s.length ≤ 140737488355000) : Pur Try.prog 115 [.r (.ro 1 [.bs s])] (.r (.str (sh8 s))) := by
  exact Pur.mono_r (w_Short [s] (by simp) (by simpa using hs)) (by simp)
def stWlk_0 (s : List UInt8) (n : Int) : Nat → Regs × Hp := fun i => ([(0, .r (.str (wlk i s))), (7, .r (.int .i64 (min (max n 0) 3))), (8, .r (.int .i64 (i : Int)))], ⟨0, [], false⟩)
def prWlk_0 (s : List UInt8) (n : Int) : Nat → Prop := fun i => i ≤ stp n
theorem w_Walk (s : List UInt8) (n : Int) (hs : s.length ≤ 140737488355000) : Pur Try.prog 119 [.r (.str s), .r (.int .i64 n)] (.r (.str (wlk (stp n) s))) := by
  refine spec_of_go (N := 16) Try.func119 rfl (by decide) rfl rfl ?_
  refine zB ?_
  refine pA ?_
  refine zA ?_
  refine zB ?_
  iterate 4 refine pA ?_
  refine ar_nil ?_
  refine ag_block ?_
  refine ag_loopS (stWlk_0 s n) (prWlk_0 s n) (fun (i : Nat) => stp n - i) 0 (ent_weak [] rfl rfl rfl rfl ?_ ?_ rfl) (show prWlk_0 s n 0 from ?_) ?_
  · exact ⟨⟨rfl, rfl⟩, ⟨rfl, rfl⟩, ⟨rfl, rfl⟩, trivial⟩
  · trivial
  · exact Nat.zero_le _
  rintro i hp hrec
  have hi : i ≤ stp n := hp
  refine zB ?_
  refine pA ?_
  refine zA ?_
  refine ag_if rfl ?_ ?_
  · intro h9
    have hlt : i < stp n := by unfold stp; omega
    refine ag_skip ?_
    refine ag_seq ?_
    refine ag_block ?_
    refine ag_reg ?_
    refine pA ?_
    refine ar_qd rfl (qop_strBytes tOk rfl) rfl rfl rfl rfl ?_
    refine ar_qd rfl (qop_buildRo tOk rfl ?_ rfl) rfl rfl rfl rfl ?_
    · repeat any_goals (first | trivial | decide | omega | (simp; done) | (rw [wu8]; omega) | refine ⟨?_, ?_⟩)
    refine ar_pur (w_Short1 (wlk i s) (wlk_le hs i)) rfl rfl rfl rfl rfl rfl rfl ?_
    refine pA ?_
    refine ar_nil ?_
    refine ag_inBlock ?_
    refine ag_reg ?_
    refine ar_pure tOk rfl rfl rfl ?_ ?_
    · unfold stp at hi; unfold inI64; omega
    refine pA ?_
    refine ar_nil ?_
    refine ag_ent (ent_weak (g' := (stWlk_0 s n (i + 1)).1) (h' := (stWlk_0 s n (i + 1)).2) [] rfl rfl rfl rfl ?_ ?_ rfl) ?_
    · exact ⟨⟨rfl, rfl⟩, ⟨rfl, rfl⟩, ⟨rfl, by exact eqI (by omega)⟩, trivial⟩
    · trivial
    have hnx := hrec (i + 1)
    refine hnx ?_ ?_
    · show i + 1 ≤ stp n; omega
    · show stp n - (i + 1) < stp n - i; omega
  · intro h9
    have hi : i = stp n := by unfold stp at hi ⊢; omega
    subst hi
    refine ag_exit rfl ?_
    refine zB ?_
    iterate 2 refine pA ?_
    refine ar_nil ?_
    refine ag_ret tOk Try.func119 rfl rfl (by simp) ?_
    rfl
/-- A leaf's beginnings. -/
def lfc (leaf : Int) : Int := min (max leaf 0) 65535
def bgn (seed : List UInt8) (leaf : Int) (j : Nat) : List UInt8 := sh8 (seed ++ numL 2 (lfc leaf) ++ [UInt8.ofNat j])
def begL (seed : List UInt8) (leaf : Int) (n : Nat) : List (List UInt8) := (List.range n).map (bgn seed leaf)
theorem begL_next (seed : List UInt8) (leaf : Int) (i : Nat) : sL (begL seed leaf (i + 1)) = sL (begL seed leaf i) ++ [.str (bgn seed leaf i)] := by
  simp [begL, sL, List.range_succ]
theorem begL_length (seed : List UInt8) (leaf : Int) (n : Nat) : (begL seed leaf n).length = n := by simp [begL]
theorem begL_8 (seed : List UInt8) (leaf : Int) (n : Nat) : ∀ p ∈ begL seed leaf n, p.length = 8 := by
  intro p hp
  simp only [begL, List.mem_map] at hp
  obtain ⟨j, _, rfl⟩ := hp
  exact sh8_length _
theorem u8n {i : Nat} (h : i ≤ 255) : UInt8.ofNat (IntKind.u8.wrap (i : Int)).toNat = UInt8.ofNat i := by
  rw [wu8, show ((i : Int) % 256).toNat = i by omega]
def stBegin_0 (seed : List UInt8) (leaf : Int) : Nat × List RVal → Regs × Hp := fun ⟨i, acc⟩ => ([(0, .r (.str seed)), (6, .r (.bs (numL 2 (lfc leaf)))), (12, .r (.int .i64 ((i : Int)))), (5, accA acc)], accH acc)
def prBegin_0 (seed : List UInt8) (leaf : Int) : Nat × List RVal → Prop := fun ⟨i, acc⟩ => i ≤ 15 ∧ acc = sL (begL seed leaf i)
theorem w_Begin (seed : List UInt8) (leaf : Int) (hs : seed.length ≤ 140737488352000) : Own Try.prog 118 [.r (.str seed), .r (.int .i64 leaf)] 15 1 (.plain (sL (begL seed leaf 15))) := by
  refine spec_of_go (N := 28) Try.func118 rfl (by decide) rfl rfl ?_
  refine zB ?_
  refine pA ?_
  refine zC ?_
  refine pA ?_
  refine zC ?_
  iterate 3 refine pA ?_
  refine ar_ent (ent_reg 10 (.r (.int .i64 (lfc leaf))) (by show AVal.r (.int _ _) = _; exact eqI (rfl))) ?_
  refine ar_pur (own_ro_bytes (w_Num (lfc leaf) 2 2 (by decide)) (by rw [numL_length])) rfl rfl rfl rfl rfl rfl rfl ?_
  refine pA ?_
  refine zA ?_
  refine zB ?_
  refine pA ?_
  refine ar_nil ?_
  refine ag_block ?_
  refine ag_loopS (stBegin_0 seed leaf) (prBegin_0 seed leaf) (fun ⟨i, acc⟩ => 15 - i) (0, []) (ent_weak [] rfl rfl rfl rfl ?_ ?_ rfl) (show prBegin_0 seed leaf (0, []) from ?_) ?_
  · exact ⟨⟨rfl, rfl⟩, ⟨rfl, rfl⟩, ⟨rfl, rfl⟩, ⟨rfl, rfl⟩, trivial⟩
  · trivial
  · exact ⟨Nat.zero_le _, by rfl⟩
  rintro ⟨i, acc⟩ hp hrec
  cases acc with
  | nil =>
    obtain ⟨hi, hacc⟩ : _ := hp
    refine ag_ent (ent_weak (g' := [(0, .r (.str seed)), (6, .r (.bs (numL 2 (lfc leaf)))), (12, .r (.int .i64 ((i : Int)))), (5, .r .nil)]) (h' := ⟨0, [], false⟩) [] rfl rfl rfl rfl ?_ ?_ rfl) ?_
    · exact ⟨⟨rfl, rfl⟩, ⟨rfl, rfl⟩, ⟨rfl, rfl⟩, ⟨rfl, rfl⟩, trivial⟩
    · trivial
    refine zB ?_
    refine pA ?_
    refine zA ?_
    refine ag_if rfl ?_ ?_
    · intro h13
      refine ag_skip ?_
      refine ag_seq ?_
      refine ag_block ?_
      refine zB ?_
      iterate 2 refine pA ?_
      refine ar_nil ?_
      refine ag_reg ?_
      iterate 2 refine pA ?_
      refine ar_qd rfl (qop_strBytes tOk rfl) rfl rfl rfl rfl ?_
      iterate 3 refine pA ?_
      refine ar_qd rfl (qop_buildRo tOk rfl ?_ rfl) rfl rfl rfl rfl ?_
      · repeat any_goals (first | trivial | decide | omega | (simp; done) | (rw [wu8]; omega) | refine ⟨?_, ?_⟩)
      refine ar_ent (ent_reg 21 (.r (.bs [UInt8.ofNat i])) (by show AVal.r (.bs _) = _; exact eqBsv (by rw [u8n (by omega)]))) ?_
      refine ar_qd rfl (qop_buildRo tOk rfl ?_ rfl) rfl rfl rfl rfl ?_
      · repeat any_goals (first | trivial | decide | omega | (simp; done) | (rw [wu8]; omega) | refine ⟨?_, ?_⟩)
      refine ar_pur (w_Short [seed, numL 2 (lfc leaf), [UInt8.ofNat i]] (by simp) (by simp [numL_length]; omega)) rfl rfl rfl rfl rfl rfl rfl ?_
      refine ar_ent (ent_reg 23 (.r (.str (bgn seed leaf i))) (by show AVal.r (.str _) = _; exact eqStr (by simp [bgn]))) ?_
      refine ar_qd rfl (qop_buildRo tOk rfl ?_ rfl) rfl rfl rfl rfl ?_
      · repeat any_goals (first | trivial | decide | omega | (simp; done) | (rw [wu8]; omega) | refine ⟨?_, ?_⟩)
      refine ar_app tOk rfl rfl rfl ?_ ?_
      · refine ⟨⟨?_, ?_, ?_⟩, ⟨?_, ?_⟩, ⟨?_, ?_⟩, ?_⟩ <;> first | trivial | omega | (simp; done) | (simp; omega)
      refine pA ?_
      refine ar_nil ?_
      refine ag_inBlock ?_
      refine ag_reg ?_
      refine ar_pure tOk rfl rfl rfl ?_ ?_
      · unfold inI64; omega
      refine pA ?_
      refine ar_nil ?_
      refine ag_ent (ent_weak (g' := (stBegin_0 seed leaf (i + 1, [.str (bgn seed leaf i)])).1) (h' := (stBegin_0 seed leaf (i + 1, [.str (bgn seed leaf i)])).2) [0] rfl rfl rfl rfl ?_ ?_ rfl) ?_
      · exact ⟨⟨rfl, rfl⟩, ⟨rfl, rfl⟩, ⟨rfl, by exact eqI (by omega)⟩, ⟨rfl, rfl⟩, trivial⟩
      · exact ⟨⟨rfl, rfl, rfl⟩, trivial⟩
      have hnx := hrec (i + 1, [.str (bgn seed leaf i)])
      refine hnx ?_ ?_
      · exact ⟨by omega, by rw [begL_next, ← hacc]; try rfl⟩
      · show 15 - (i + 1) < 15 - i; omega
    · intro h13
      obtain rfl : i = 15 := by omega
      refine ag_exit rfl ?_
      refine zB ?_
      iterate 2 refine pA ?_
      refine ar_nil ?_
      exfalso
      have := congrArg List.length hacc
      simp [sL, begL_length] at this
  | cons a l =>
    obtain ⟨hi, hacc⟩ : _ := hp
    refine ag_ent (ent_weak (g' := [(0, .r (.str seed)), (6, .r (.bs (numL 2 (lfc leaf)))), (12, .r (.int .i64 ((i : Int)))), (5, .sl 0 0 (l.length + 1) 1)]) (h' := ⟨1, [(0, some (.plain (a :: l)))], false⟩) [0] rfl rfl rfl rfl ?_ ?_ rfl) ?_
    · exact ⟨⟨rfl, rfl⟩, ⟨rfl, rfl⟩, ⟨rfl, rfl⟩, ⟨rfl, rfl⟩, trivial⟩
    · exact ⟨⟨rfl, rfl, rfl⟩, trivial⟩
    have hln := congrArg List.length hacc
    simp only [sL, List.length_map, begL_length, List.length_cons] at hln
    refine zB ?_
    refine pA ?_
    refine zA ?_
    refine ag_if rfl ?_ ?_
    · intro h13
      refine ag_skip ?_
      refine ag_seq ?_
      refine ag_block ?_
      refine zB ?_
      iterate 2 refine pA ?_
      refine ar_nil ?_
      refine ag_reg ?_
      iterate 2 refine pA ?_
      refine ar_qd rfl (qop_strBytes tOk rfl) rfl rfl rfl rfl ?_
      iterate 3 refine pA ?_
      refine ar_qd rfl (qop_buildRo tOk rfl ?_ rfl) rfl rfl rfl rfl ?_
      · repeat any_goals (first | trivial | decide | omega | (simp; done) | (rw [wu8]; omega) | refine ⟨?_, ?_⟩)
      refine ar_ent (ent_reg 21 (.r (.bs [UInt8.ofNat i])) (by show AVal.r (.bs _) = _; exact eqBsv (by rw [u8n (by omega)]))) ?_
      refine ar_qd rfl (qop_buildRo tOk rfl ?_ rfl) rfl rfl rfl rfl ?_
      · repeat any_goals (first | trivial | decide | omega | (simp; done) | (rw [wu8]; omega) | refine ⟨?_, ?_⟩)
      refine ar_pur (w_Short [seed, numL 2 (lfc leaf), [UInt8.ofNat i]] (by simp) (by simp [numL_length]; omega)) rfl rfl rfl rfl rfl rfl rfl ?_
      refine ar_ent (ent_reg 23 (.r (.str (bgn seed leaf i))) (by show AVal.r (.str _) = _; exact eqStr (by simp [bgn]))) ?_
      refine ar_qd rfl (qop_buildRo tOk rfl ?_ rfl) rfl rfl rfl rfl ?_
      · repeat any_goals (first | trivial | decide | omega | (simp; done) | (rw [wu8]; omega) | refine ⟨?_, ?_⟩)
      refine ar_app tOk rfl rfl rfl ?_ ?_
      · refine ⟨⟨?_, ?_, ?_⟩, ⟨?_, ?_⟩, ⟨?_, ?_⟩, ?_⟩ <;> first | trivial | omega | (simp; done) | (simp; omega)
      refine pA ?_
      refine ar_nil ?_
      refine ag_inBlock ?_
      refine ag_reg ?_
      refine ar_pure tOk rfl rfl rfl ?_ ?_
      · unfold inI64; omega
      refine pA ?_
      refine ar_nil ?_
      refine ag_ent (ent_weak (g' := (stBegin_0 seed leaf (i + 1, a :: l ++ [.str (bgn seed leaf i)])).1) (h' := (stBegin_0 seed leaf (i + 1, a :: l ++ [.str (bgn seed leaf i)])).2) [1] rfl rfl rfl rfl ?_ ?_ rfl) ?_
      · exact ⟨⟨rfl, rfl⟩, ⟨rfl, rfl⟩, ⟨rfl, by exact eqI (by omega)⟩, ⟨rfl, by exact eqSl (by simp)⟩, trivial⟩
      · exact ⟨⟨rfl, rfl, by exact eqPl (by simp [cutA_eq])⟩, trivial⟩
      have hnx := hrec (i + 1, a :: l ++ [.str (bgn seed leaf i)])
      refine hnx ?_ ?_
      · exact ⟨by omega, by rw [begL_next, ← hacc]; try rfl⟩
      · show 15 - (i + 1) < 15 - i; omega
    · intro h13
      obtain rfl : i = 15 := by omega
      refine ag_exit rfl ?_
      refine zB ?_
      iterate 2 refine pA ?_
      refine ar_nil ?_
      refine ag_ret tOk Try.func118 rfl rfl (by simp) ?_
      refine ⟨0, eqSl hln, ?_⟩
      rw [← hacc]; rfl
theorem w_BeginR (seed : List UInt8) (leaf : Int) (hs : seed.length ≤ 140737488352000) : Pur Try.prog 118 [.r (.str seed), .r (.int .i64 leaf)] (roS (begL seed leaf 15)) := (own_to_ro (w_Begin seed leaf hs) rfl trivial).mono_r (roS_of (begL_length _ _ _))
end Go.Proofs.Ytnodpljgcdkbkaa


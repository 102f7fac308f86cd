/-
  WALKS: lists held against each other, plainly. (Printed by gen.py out of w_plain.py.)
  WALKS: the law OtsDigits. (Printed by gen.py out of w_lodig.py.)
  WALKS: chains and beginnings (ots.Walk, ots.Begin, and the reference's). (Printed by gen.py out of w_owalk.py.)
-/
import Derived.Test.YtccdhgmkjakjkaaGreatODig
namespace Go.Proofs.YtccdhgmkjakjkaaGreat
open Go
set_option maxRecDepth 20000
set_option linter.unusedVariables false
set_option linter.unusedSimpArgs false
def sL (l : List (List UInt8)) : List RVal := l.map .str
def roS (l : List (List UInt8)) : AVal := .r (.ro l.length (sL l))
end Go.Proofs.YtccdhgmkjakjkaaGreat
namespace Go.Proofs.YtccdhgmkjakjkaaGreat
open Go
set_option maxRecDepth 20000
set_option linter.unusedVariables false
set_option linter.unusedSimpArgs false
theorem roI_of {n : Nat} {l : List Int} (h : l.length = n) : AVal.r (.ro n (cutA (iL l) 0 (n * 1))) = roI l := by
 subst h
 rw [cutA_eq, List.drop_zero, Nat.mul_one, List.take_of_length_le (by simp [iL])]
 rfl
theorem roS_of {n : Nat} {l : List (List UInt8)} (h : l.length = n) : AVal.r (.ro n (cutA (sL l) 0 (n * 1))) = roS l := by
 subst h
 rw [cutA_eq, List.drop_zero, Nat.mul_one, List.take_of_length_le (by simp [sL])]
 rfl
theorem w_DigitsR (text : List UInt8) (hb : text.length ≤ 140737488355000) : Pur Tryz.prog 85 [.r (.bs text)] (roI (digs text)) := (own_to_ro (w_oDigits text hb) rfl trivial).mono_r (roI_of (digs_length text))
theorem w_rDigitsR (text : List UInt8) (hb : text.length ≤ 140737488355000) : Pur Tryz.prog 58 [.r (.bs text)] (roI (digs text)) := (own_to_ro (w_rDigits text hb) rfl trivial).mono_r (roI_of (digs_length text))
end Go.Proofs.YtccdhgmkjakjkaaGreat
namespace Go.Proofs.YtccdhgmkjakjkaaGreat
open Go
set_option maxRecDepth 20000
set_option linter.unusedVariables false
set_option linter.unusedSimpArgs false
def wlk : Nat → List UInt8 → List UInt8
 | 0, s => s
 | k + 1, s => sh8 (wlk k s)
def stp (n : Int) : Nat := (min (max n 0) 3).toNat
theorem wlk_length8 {s : List UInt8} (h : s.length = 8) : ∀ k, (wlk k s).length = 8
 | 0 => h
 | k + 1 => sh8_length _
theorem wlk_le {s : List UInt8} (h : s.length ≤ 140737488355000) : ∀ k, (wlk k s).length ≤ 140737488355000
 | 0 => h
 | k + 1 => by rw [wlk, sh8_length]; omega
theorem w_Short1 (s : List UInt8) (hs : s.length ≤ 140737488355000) : Pur Tryz.prog 55 [.r (.ro 1 [.bs s])] (.r (.str (sh8 s))) := by
 exact Pur.mono_r (w_Short [s] (by simp) (by simpa using hs)) (by simp)
def stWlk_0 (s : List UInt8) (n : Int) : Nat → Regs × Hp := fun i => ([(0, .r (.str (wlk i s))), (7, .r (.int .i64 (min (max n 0) 3))), (8, .r (.int .i64 (i : Int)))], ⟨0, [], false⟩)
def prWlk_0 (s : List UInt8) (n : Int) : Nat → Prop := fun i => i ≤ stp n
theorem w_Walk (s : List UInt8) (n : Int) (hs : s.length ≤ 140737488355000) : Pur Tryz.prog 76 [.r (.str s), .r (.int .i64 n)] (.r (.str (wlk (stp n) s))) := by
 refine spec_of_go (N := 16) Tryz.func76 rfl (by decide) rfl rfl ?_
 refine zB ?_
 refine pF ?_
 refine zB ?_
 iterate 3 refine pA ?_
 refine pE ?_
 refine ag_block ?_
 refine ag_loopS (stWlk_0 s n) (prWlk_0 s n) (fun (i : Nat) => stp n - i) 0 (ent_weak [] rfl rfl rfl rfl ?_ ?_ rfl) (show prWlk_0 s n 0 from ?_) ?_
 ·exact ⟨⟨rfl, rfl⟩, ⟨rfl, rfl⟩, ⟨rfl, rfl⟩, trivial⟩
 ·trivial
 ·exact Nat.zero_le _
 rintro i hp hrec
 have hi : i ≤ stp n := hp
 refine zB ?_
 refine pF ?_
 refine ag_if rfl ?_ ?_
 ·intro h9
  have hlt : i < stp n := by unfold stp; omega
  refine sS ?_
  refine ag_block ?_
  refine ag_reg ?_
  refine pA ?_
  refine ar_qd rfl (qop_strBytes tOk rfl) rfl rfl rfl rfl ?_
  refine ar_qd rfl (qop_buildRo tOk rfl ?_ rfl) rfl rfl rfl rfl ?_
  ·repeat any_goals (first | trivial | decide | omega | (simp; done) | (rw [wu8]; omega) | refine ⟨?_, ?_⟩)
  refine ar_pur (w_Short1 (wlk i s) (wlk_le hs i)) rfl rfl rfl rfl rfl rfl rfl ?_
  refine pE ?_
  refine iR ?_
  refine pC ?_ ?_
  ·unfold stp at hi; unfold inI64; omega
  refine pE ?_
  refine ag_ent (ent_weak (g' := (stWlk_0 s n (i + 1)).1) (h' := (stWlk_0 s n (i + 1)).2) [] rfl rfl rfl rfl ?_ ?_ rfl) ?_
  ·exact ⟨⟨rfl, rfl⟩, ⟨rfl, rfl⟩, ⟨rfl, by exact eqI (by omega)⟩, trivial⟩
  ·trivial
  have hnx := hrec (i + 1)
  refine hnx ?_ ?_
  ·show i + 1 ≤ stp n; omega
  ·show stp n - (i + 1) < stp n - i; omega
 ·intro h9
  have hi : i = stp n := by unfold stp at hi ⊢; omega
  subst hi
  refine ag_exit rfl ?_
  refine zB ?_
  refine pA ?_
  refine pE ?_
  refine ag_ret tOk Tryz.func76 rfl rfl (by simp) ?_
  rfl
def strWlk_0 (s : List UInt8) (n : Int) : Nat → Regs × Hp := fun i => ([(0, .r (.str (wlk i s))), (1, .r (.int .i64 n)), (5, .r (.int .i64 (i : Int)))], ⟨0, [], false⟩)
def prrWlk_0 (s : List UInt8) (n : Int) : Nat → Prop := fun i => i ≤ stp n
theorem w_rWalk (s : List UInt8) (n : Int) (hs : s.length ≤ 140737488355000) : Pur Tryz.prog 59 [.r (.str s), .r (.int .i64 n)] (.r (.str (wlk (stp n) s))) := by
 refine spec_of_go (N := 18) Tryz.func59 rfl (by decide) rfl rfl ?_
 refine zB ?_
 refine pF ?_
 refine zB ?_
 refine pE ?_
 refine ag_block ?_
 refine ag_loopS (strWlk_0 s n) (prrWlk_0 s n) (fun (i : Nat) => stp n - i) 0 (ent_weak [] rfl rfl rfl rfl ?_ ?_ rfl) (show prrWlk_0 s n 0 from ?_) ?_
 ·exact ⟨⟨rfl, rfl⟩, ⟨rfl, rfl⟩, ⟨rfl, rfl⟩, trivial⟩
 ·trivial
 ·exact Nat.zero_le _
 rintro i hp hrec
 have hi : i ≤ stp n := hp
 refine sZ ?_
 iterate 4 refine pA ?_
 refine ar_guard (t := decide ((i : Int) < n)) (fun ht => ?_) (fun ht => ?_)
 ·refine ar_ent (ent_reg 9 (.r (.bool true)) (by show AVal.r (.bool _) = _; rw [ht])) ?_
  have hn := of_decide_eq_true ht
  iterate 2 refine pA ?_
  refine pE ?_
  refine ag_if rfl ?_ ?_
  ·intro h12
   have hlt : i + 1 ≤ stp n := by unfold stp; omega
   refine sS ?_
   refine ag_block ?_
   refine ag_reg ?_
   refine pA ?_
   refine ar_pur (w_rShort (wlk i s) (wlk_le hs i)) rfl rfl rfl rfl rfl rfl rfl ?_
   refine pE ?_
   refine iR ?_
   refine pA ?_
   refine pC ?_ ?_
   ·unfold inI64; omega
   refine pE ?_
   refine ag_ent (ent_weak (g' := (strWlk_0 s n (i + 1)).1) (h' := (strWlk_0 s n (i + 1)).2) [] rfl rfl rfl rfl ?_ ?_ rfl) ?_
   ·exact ⟨⟨rfl, rfl⟩, ⟨rfl, rfl⟩, ⟨rfl, by exact eqI (by omega)⟩, trivial⟩
   ·trivial
   have hnx := hrec (i + 1)
   refine hnx ?_ ?_
   ·exact hlt
   ·show stp n - (i + 1) < stp n - i; omega
  ·intro h12
   have hi : i = stp n := by unfold stp at hi ⊢; omega
   subst hi
   refine ag_exit rfl ?_
   refine ag_seq ?_
   skip
   refine ag_reg ?_
   refine pA ?_
   refine pE ?_
   refine ag_ret tOk Tryz.func59 rfl rfl (by simp) ?_
   rfl
 ·refine ar_ent (ent_reg 9 (.r (.bool false)) (by show AVal.r (.bool _) = _; rw [ht])) ?_
  have hn := of_decide_eq_false ht
  iterate 2 refine ar_skip rfl rfl rfl ?_
  refine pE ?_
  refine ag_false rfl (rfl) ?_
  refine ag_exit rfl ?_
  refine ag_seq ?_
  have hi : i = stp n := by unfold stp at hi ⊢; omega
  subst hi
  refine ag_reg ?_
  refine pA ?_
  refine pE ?_
  refine ag_ret tOk Tryz.func59 rfl rfl (by simp) ?_
  rfl
def lfc (leaf : Int) : Int := min (max leaf 0) 65535
def bgn (seed : List UInt8) (leaf : Int) (j : Nat) : List UInt8 := sh8 (seed ++ numL 2 (lfc leaf) ++ [UInt8.ofNat j])
def begL (seed : List UInt8) (leaf : Int) (n : Nat) : List (List UInt8) := (List.range n).map (bgn seed leaf)
theorem begL_next (seed : List UInt8) (leaf : Int) (i : Nat) : sL (begL seed leaf (i + 1)) = sL (begL seed leaf i) ++ [.str (bgn seed leaf i)] := by
 simp [begL, sL, List.range_succ]
theorem begL_length (seed : List UInt8) (leaf : Int) (n : Nat) : (begL seed leaf n).length = n := by simp [begL]
theorem begL_8 (seed : List UInt8) (leaf : Int) (n : Nat) : ∀ p ∈ begL seed leaf n, p.length = 8 := by
 intro p hp
 simp only [begL, List.mem_map] at hp
 obtain ⟨j, _, rfl⟩ := hp
 exact sh8_length _
theorem u8n {i : Nat} (h : i ≤ 255) : UInt8.ofNat (IntKind.u8.wrap (i : Int)).toNat = UInt8.ofNat i := by
 rw [wu8, show ((i : Int) % 256).toNat = i by omega]
def stBegin_0 (seed : List UInt8) (leaf : Int) : Nat × List RVal → Regs × Hp := fun ⟨i, acc⟩ => ([(0, .r (.str seed)), (6, .r (.bs (numL 2 (lfc leaf)))), (12, .r (.int .i64 ((i : Int)))), (5, accA acc)], accH acc)
def prBegin_0 (seed : List UInt8) (leaf : Int) : Nat × List RVal → Prop := fun ⟨i, acc⟩ => i ≤ 15 ∧ acc = sL (begL seed leaf i)
theorem w_Begin (seed : List UInt8) (leaf : Int) (hs : seed.length ≤ 140737488352000) : Own Tryz.prog 54 [.r (.str seed), .r (.int .i64 leaf)] 15 1 (.plain (sL (begL seed leaf 15))) := by
 refine spec_of_go (N := 28) Tryz.func54 rfl (by decide) rfl rfl ?_
 refine zB ?_
 iterate 2 refine pG ?_
 iterate 3 refine pA ?_
 refine ar_ent (ent_reg 10 (.r (.int .i64 (lfc leaf))) (by show AVal.r (.int _ _) = _; exact eqI (rfl))) ?_
 refine ar_pur (own_ro_bytes (w_Num (lfc leaf) 2 2 (by decide)) (by rw [numL_length])) rfl rfl rfl rfl rfl rfl rfl ?_
 refine pF ?_
 refine zB ?_
 refine pE ?_
 refine ag_block ?_
 refine ag_loopS (stBegin_0 seed leaf) (prBegin_0 seed leaf) (fun ⟨i, acc⟩ => 15 - i) (0, []) (ent_weak [] rfl rfl rfl rfl ?_ ?_ rfl) (show prBegin_0 seed leaf (0, []) from ?_) ?_
 ·exact ⟨⟨rfl, rfl⟩, ⟨rfl, rfl⟩, ⟨rfl, rfl⟩, ⟨rfl, rfl⟩, trivial⟩
 ·trivial
 ·exact ⟨Nat.zero_le _, by rfl⟩
 rintro ⟨i, acc⟩ hp hrec
 cases acc with
 | nil =>
  obtain ⟨hi, hacc⟩ : _ := hp
  refine ag_ent (ent_weak (g' := [(0, .r (.str seed)), (6, .r (.bs (numL 2 (lfc leaf)))), (12, .r (.int .i64 ((i : Int)))), (5, .r .nil)]) (h' := ⟨0, [], false⟩) [] rfl rfl rfl rfl ?_ ?_ rfl) ?_
  ·exact ⟨⟨rfl, rfl⟩, ⟨rfl, rfl⟩, ⟨rfl, rfl⟩, ⟨rfl, rfl⟩, trivial⟩
  ·trivial
  refine zB ?_
  refine pF ?_
  refine ag_if rfl ?_ ?_
  ·intro h13
   refine sS ?_
   refine bX ?_
   refine pA ?_
   refine pE ?_
   refine ag_reg ?_
   iterate 2 refine pA ?_
   refine ar_qd rfl (qop_strBytes tOk rfl) rfl rfl rfl rfl ?_
   iterate 3 refine pA ?_
   refine ar_qd rfl (qop_buildRo tOk rfl ?_ rfl) rfl rfl rfl rfl ?_
   ·repeat any_goals (first | trivial | decide | omega | (simp; done) | (rw [wu8]; omega) | refine ⟨?_, ?_⟩)
   refine ar_ent (ent_reg 21 (.r (.bs [UInt8.ofNat i])) (by show AVal.r (.bs _) = _; exact eqBsv (by rw [u8n (by omega)]))) ?_
   refine ar_qd rfl (qop_buildRo tOk rfl ?_ rfl) rfl rfl rfl rfl ?_
   ·repeat any_goals (first | trivial | decide | omega | (simp; done) | (rw [wu8]; omega) | refine ⟨?_, ?_⟩)
   refine ar_pur (w_Short [seed, numL 2 (lfc leaf), [UInt8.ofNat i]] (by simp) (by simp [numL_length]; omega)) rfl rfl rfl rfl rfl rfl rfl ?_
   refine ar_ent (ent_reg 23 (.r (.str (bgn seed leaf i))) (by show AVal.r (.str _) = _; exact eqStr (by simp [bgn]))) ?_
   refine ar_qd rfl (qop_buildRo tOk rfl ?_ rfl) rfl rfl rfl rfl ?_
   ·repeat any_goals (first | trivial | decide | omega | (simp; done) | (rw [wu8]; omega) | refine ⟨?_, ?_⟩)
   refine pP ?_ ?_
   ·refine ⟨⟨?_, ?_, ?_⟩, ⟨?_, ?_⟩, ⟨?_, ?_⟩, ?_⟩ <;> first | trivial | omega | (simp; done) | (simp; omega)
   refine pE ?_
   refine iR ?_
   refine pC ?_ ?_
   ·unfold inI64; omega
   refine pE ?_
   refine ag_ent (ent_weak (g' := (stBegin_0 seed leaf (i + 1, [.str (bgn seed leaf i)])).1) (h' := (stBegin_0 seed leaf (i + 1, [.str (bgn seed leaf i)])).2) [0] rfl rfl rfl rfl ?_ ?_ rfl) ?_
   ·exact ⟨⟨rfl, rfl⟩, ⟨rfl, rfl⟩, ⟨rfl, by exact eqI (by omega)⟩, ⟨rfl, rfl⟩, trivial⟩
   ·exact ⟨⟨rfl, rfl, rfl⟩, trivial⟩
   have hnx := hrec (i + 1, [.str (bgn seed leaf i)])
   refine hnx ?_ ?_
   ·exact ⟨by omega, by rw [begL_next, ← hacc]; try rfl⟩
   ·show 15 - (i + 1) < 15 - i; omega
  ·intro h13
   obtain rfl : i = 15 := by omega
   refine ag_exit rfl ?_
   refine zB ?_
   refine pA ?_
   refine pE ?_
   exfalso
   have := congrArg List.length hacc
   simp [sL, begL_length] at this
 | cons a l =>
  obtain ⟨hi, hacc⟩ : _ := hp
  refine ag_ent (ent_weak (g' := [(0, .r (.str seed)), (6, .r (.bs (numL 2 (lfc leaf)))), (12, .r (.int .i64 ((i : Int)))), (5, .sl 0 0 (l.length + 1) 1)]) (h' := ⟨1, [(0, some (.plain (a :: l)))], false⟩) [0] rfl rfl rfl rfl ?_ ?_ rfl) ?_
  ·exact ⟨⟨rfl, rfl⟩, ⟨rfl, rfl⟩, ⟨rfl, rfl⟩, ⟨rfl, rfl⟩, trivial⟩
  ·exact ⟨⟨rfl, rfl, rfl⟩, trivial⟩
  have hln := congrArg List.length hacc
  simp only [sL, List.length_map, begL_length, List.length_cons] at hln
  refine zB ?_
  refine pF ?_
  refine ag_if rfl ?_ ?_
  ·intro h13
   refine sS ?_
   refine bX ?_
   refine pA ?_
   refine pE ?_
   refine ag_reg ?_
   iterate 2 refine pA ?_
   refine ar_qd rfl (qop_strBytes tOk rfl) rfl rfl rfl rfl ?_
   iterate 3 refine pA ?_
   refine ar_qd rfl (qop_buildRo tOk rfl ?_ rfl) rfl rfl rfl rfl ?_
   ·repeat any_goals (first | trivial | decide | omega | (simp; done) | (rw [wu8]; omega) | refine ⟨?_, ?_⟩)
   refine ar_ent (ent_reg 21 (.r (.bs [UInt8.ofNat i])) (by show AVal.r (.bs _) = _; exact eqBsv (by rw [u8n (by omega)]))) ?_
   refine ar_qd rfl (qop_buildRo tOk rfl ?_ rfl) rfl rfl rfl rfl ?_
   ·repeat any_goals (first | trivial | decide | omega | (simp; done) | (rw [wu8]; omega) | refine ⟨?_, ?_⟩)
   refine ar_pur (w_Short [seed, numL 2 (lfc leaf), [UInt8.ofNat i]] (by simp) (by simp [numL_length]; omega)) rfl rfl rfl rfl rfl rfl rfl ?_
   refine ar_ent (ent_reg 23 (.r (.str (bgn seed leaf i))) (by show AVal.r (.str _) = _; exact eqStr (by simp [bgn]))) ?_
   refine ar_qd rfl (qop_buildRo tOk rfl ?_ rfl) rfl rfl rfl rfl ?_
   ·repeat any_goals (first | trivial | decide | omega | (simp; done) | (rw [wu8]; omega) | refine ⟨?_, ?_⟩)
   refine pP ?_ ?_
   ·refine ⟨⟨?_, ?_, ?_⟩, ⟨?_, ?_⟩, ⟨?_, ?_⟩, ?_⟩ <;> first | trivial | omega | (simp; done) | (simp; omega)
   refine pE ?_
   refine iR ?_
   refine pC ?_ ?_
   ·unfold inI64; omega
   refine pE ?_
   refine ag_ent (ent_weak (g' := (stBegin_0 seed leaf (i + 1, a :: l ++ [.str (bgn seed leaf i)])).1) (h' := (stBegin_0 seed leaf (i + 1, a :: l ++ [.str (bgn seed leaf i)])).2) [1] rfl rfl rfl rfl ?_ ?_ rfl) ?_
   ·exact ⟨⟨rfl, rfl⟩, ⟨rfl, rfl⟩, ⟨rfl, by exact eqI (by omega)⟩, ⟨rfl, by exact eqSl (by simp)⟩, trivial⟩
   ·exact ⟨⟨rfl, rfl, by exact eqPl (by simp [cutA_eq])⟩, trivial⟩
   have hnx := hrec (i + 1, a :: l ++ [.str (bgn seed leaf i)])
   refine hnx ?_ ?_
   ·exact ⟨by omega, by rw [begL_next, ← hacc]; try rfl⟩
   ·show 15 - (i + 1) < 15 - i; omega
  ·intro h13
   obtain rfl : i = 15 := by omega
   refine ag_exit rfl ?_
   refine zB ?_
   refine pA ?_
   refine pE ?_
   refine ag_ret tOk Tryz.func54 rfl rfl (by simp) ?_
   refine ⟨0, eqSl hln, ?_⟩
   rw [← hacc]; rfl
theorem w_BeginR (seed : List UInt8) (leaf : Int) (hs : seed.length ≤ 140737488352000) : Pur Tryz.prog 54 [.r (.str seed), .r (.int .i64 leaf)] (roS (begL seed leaf 15)) := (own_to_ro (w_Begin seed leaf hs) rfl trivial).mono_r (roS_of (begL_length _ _ _))
end Go.Proofs.YtccdhgmkjakjkaaGreat

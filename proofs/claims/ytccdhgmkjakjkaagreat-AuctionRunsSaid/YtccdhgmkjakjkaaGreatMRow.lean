/-
  WALKS: a key's leaves and its root (mss.row, above, Root, and the reference's). (Printed by gen.py out of w_mrow.py.)
-/
import Derived.Test.YtccdhgmkjakjkaaGreatOOpen
namespace Go.Proofs.YtccdhgmkjakjkaaGreat
open Go
set_option maxRecDepth 20000
set_option linter.unusedVariables false
set_option linter.unusedSimpArgs false
def nod (a b : List UInt8) : List UInt8 := sh8 (a ++ b)
def rowL (seed : List UInt8) (n : Nat) : List (List UInt8) := (List.range n).map fun (i : Nat) => pubL seed (i : Int)
def abv (L : List (List UInt8)) : List (List UInt8) := (List.range (L.length / 2)).map fun j => nod (L.getD (2 * j) []) (L.getD (2 * j + 1) [])
theorem rowL_next (seed : List UInt8) (i : Nat) : sL (rowL seed (i + 1)) = sL (rowL seed i) ++ [.str (pubL seed (i : Int))] := by simp [rowL, sL, List.range_succ]
theorem rowL_length (seed : List UInt8) (n : Nat) : (rowL seed n).length = n := by simp [rowL]
theorem abv_length (L : List (List UInt8)) : (abv L).length = L.length / 2 := by simp [abv]
theorem rowL_8 (seed : List UInt8) (n : Nat) : ∀ p ∈ rowL seed n, p.length = 8 := by
 intro p hp
 simp only [rowL, List.mem_map] at hp
 obtain ⟨j, _, rfl⟩ := hp
 exact sh8_length _
theorem abv_8 (L : List (List UInt8)) : ∀ p ∈ abv L, p.length = 8 := by
 intro p hp
 simp only [abv, List.mem_map] at hp
 obtain ⟨j, _, rfl⟩ := hp
 exact sh8_length _
theorem getDI {L : List (List UInt8)} {i : Nat} {s : List UInt8} (h : L[i]? = some s) : L.getD i [] = s := by simp [List.getD, h]
theorem abv_get {L : List (List UInt8)} {j : Nat} {a b : List UInt8} (ha : L[2 * j]? = some a) (hb : L[2 * j + 1]? = some b) : (abv L)[j]? = some (nod a b) := by
 obtain ⟨hlt, _⟩ := List.getElem?_eq_some_iff.1 hb
 simp only [abv, List.getElem?_map, List.getElem?_range (show j < L.length / 2 by omega), Option.map_some, getDI ha, getDI hb]
theorem abv_next {L : List (List UInt8)} {j : Nat} {a b : List UInt8} (ha : L[2 * j]? = some a) (hb : L[2 * j + 1]? = some b) : sL ((abv L).take (j + 1)) = sL ((abv L).take j) ++ [.str (nod a b)] := by
 rw [List.take_add_one, abv_get ha hb]; simp [sL]
theorem w_join (a b : List UInt8) (ha : a.length ≤ 1000) (hb : b.length ≤ 1000) : Pur Tryz.prog 36 [.r (.str a), .r (.str b)] (.r (.str (nod a b))) := by
 refine spec_of_go (N := 11) Tryz.func36 rfl (by decide) rfl rfl ?_
 refine zB ?_
 refine pG ?_
 refine pA ?_
 refine ar_qd rfl (qop_strBytes tOk rfl) rfl rfl rfl rfl ?_
 refine pA ?_
 refine ar_qd rfl (qop_strBytes tOk rfl) rfl rfl rfl rfl ?_
 refine ar_qd rfl (qop_buildRo tOk rfl ?_ rfl) rfl rfl rfl rfl ?_
 ·repeat any_goals (first | trivial | decide | omega | (simp; done) | (rw [wu8]; omega) | refine ⟨?_, ?_⟩)
 refine ar_pur (w_Short [a, b] (by simp) (by simp; omega)) rfl rfl rfl rfl rfl rfl rfl ?_
 refine pE ?_
 refine ag_ret tOk Tryz.func36 rfl rfl (by simp) ?_
 exact eqStr (by simp [nod])
def stmrow_0 (seed : List UInt8) : Nat × List RVal → Regs × Hp := fun ⟨i, acc⟩ => ([(0, .r (.str seed)), (5, .r (.int .i64 ((i : Int)))), (3, accA acc)], accH acc)
def prmrow_0 (seed : List UInt8) : Nat × List RVal → Prop := fun ⟨i, acc⟩ => i ≤ 8 ∧ acc = sL (rowL seed i)
theorem w_mrow (seed : List UInt8) (hs : seed.length ≤ 140737488352000) : Own Tryz.prog 17 [.r (.str seed)] 8 1 (.plain (sL (rowL seed 8))) := by
 refine spec_of_go (N := 16) Tryz.func17 rfl (by decide) rfl rfl ?_
 refine zB ?_
 refine pG ?_
 refine pF ?_
 refine zB ?_
 refine pE ?_
 refine ag_block ?_
 refine ag_loopS (stmrow_0 seed) (prmrow_0 seed) (fun ⟨i, acc⟩ => 8 - i) (0, []) (ent_weak [] rfl rfl rfl rfl ?_ ?_ rfl) (show prmrow_0 seed (0, []) from ?_) ?_
 ·exact ⟨⟨rfl, rfl⟩, ⟨rfl, rfl⟩, ⟨rfl, rfl⟩, trivial⟩
 ·trivial
 ·exact ⟨Nat.zero_le _, by rfl⟩
 rintro ⟨i, acc⟩ hp hrec
 cases acc with
 | nil =>
  obtain ⟨hi, hacc⟩ : _ := hp
  refine ag_ent (ent_weak (g' := [(0, .r (.str seed)), (5, .r (.int .i64 ((i : Int)))), (3, .r .nil)]) (h' := ⟨0, [], false⟩) [] rfl rfl rfl rfl ?_ ?_ rfl) ?_
  ·exact ⟨⟨rfl, rfl⟩, ⟨rfl, rfl⟩, ⟨rfl, rfl⟩, trivial⟩
  ·trivial
  refine zB ?_
  refine pF ?_
  refine ag_if rfl ?_ ?_
  ·intro h6
   refine sS ?_
   refine bX ?_
   refine pA ?_
   refine pE ?_
   refine ag_reg ?_
   iterate 3 refine pA ?_
   refine ar_pur (w_Public seed (i : Int) hs) rfl rfl rfl rfl rfl rfl rfl ?_
   refine ar_qd rfl (qop_buildRo tOk rfl ?_ rfl) rfl rfl rfl rfl ?_
   ·repeat any_goals (first | trivial | decide | omega | (simp; done) | (rw [wu8]; omega) | refine ⟨?_, ?_⟩)
   refine pP ?_ ?_
   ·refine ⟨⟨?_, ?_, ?_⟩, ⟨?_, ?_⟩, ⟨?_, ?_⟩, ?_⟩ <;> first | trivial | omega | (simp; done) | (simp; omega)
   refine pE ?_
   refine iR ?_
   refine pC ?_ ?_
   ·unfold inI64; omega
   refine pE ?_
   refine ag_ent (ent_weak (g' := (stmrow_0 seed (i + 1, [.str (pubL seed (i : Int))])).1) (h' := (stmrow_0 seed (i + 1, [.str (pubL seed (i : Int))])).2) [0] rfl rfl rfl rfl ?_ ?_ rfl) ?_
   ·exact ⟨⟨rfl, rfl⟩, ⟨rfl, by exact eqI (by omega)⟩, ⟨rfl, rfl⟩, trivial⟩
   ·exact ⟨⟨rfl, rfl, rfl⟩, trivial⟩
   have hnx := hrec (i + 1, [.str (pubL seed (i : Int))])
   refine hnx ?_ ?_
   ·exact ⟨by omega, by rw [rowL_next, ← hacc]; try rfl⟩
   ·show 8 - (i + 1) < 8 - i; omega
  ·intro h6
   obtain rfl : i = 8 := by omega
   refine ag_exit rfl ?_
   refine zB ?_
   refine pA ?_
   refine pE ?_
   exfalso
   have := congrArg List.length hacc
   simp [sL, rowL_length] at this
 | cons a l =>
  obtain ⟨hi, hacc⟩ : _ := hp
  refine ag_ent (ent_weak (g' := [(0, .r (.str seed)), (5, .r (.int .i64 ((i : Int)))), (3, .sl 0 0 (l.length + 1) 1)]) (h' := ⟨1, [(0, some (.plain (a :: l)))], false⟩) [0] rfl rfl rfl rfl ?_ ?_ rfl) ?_
  ·exact ⟨⟨rfl, rfl⟩, ⟨rfl, rfl⟩, ⟨rfl, rfl⟩, trivial⟩
  ·exact ⟨⟨rfl, rfl, rfl⟩, trivial⟩
  have hln := congrArg List.length hacc
  simp only [sL, List.length_map, rowL_length, List.length_cons] at hln
  refine zB ?_
  refine pF ?_
  refine ag_if rfl ?_ ?_
  ·intro h6
   refine sS ?_
   refine bX ?_
   refine pA ?_
   refine pE ?_
   refine ag_reg ?_
   iterate 3 refine pA ?_
   refine ar_pur (w_Public seed (i : Int) hs) rfl rfl rfl rfl rfl rfl rfl ?_
   refine ar_qd rfl (qop_buildRo tOk rfl ?_ rfl) rfl rfl rfl rfl ?_
   ·repeat any_goals (first | trivial | decide | omega | (simp; done) | (rw [wu8]; omega) | refine ⟨?_, ?_⟩)
   refine pP ?_ ?_
   ·refine ⟨⟨?_, ?_, ?_⟩, ⟨?_, ?_⟩, ⟨?_, ?_⟩, ?_⟩ <;> first | trivial | omega | (simp; done) | (simp; omega)
   refine pE ?_
   refine iR ?_
   refine pC ?_ ?_
   ·unfold inI64; omega
   refine pE ?_
   refine ag_ent (ent_weak (g' := (stmrow_0 seed (i + 1, a :: l ++ [.str (pubL seed (i : Int))])).1) (h' := (stmrow_0 seed (i + 1, a :: l ++ [.str (pubL seed (i : Int))])).2) [1] rfl rfl rfl rfl ?_ ?_ rfl) ?_
   ·exact ⟨⟨rfl, rfl⟩, ⟨rfl, by exact eqI (by omega)⟩, ⟨rfl, by exact eqSl (by simp)⟩, trivial⟩
   ·exact ⟨⟨rfl, rfl, by exact eqPl (by simp [cutA_eq])⟩, trivial⟩
   have hnx := hrec (i + 1, a :: l ++ [.str (pubL seed (i : Int))])
   refine hnx ?_ ?_
   ·exact ⟨by omega, by rw [rowL_next, ← hacc]; try rfl⟩
   ·show 8 - (i + 1) < 8 - i; omega
  ·intro h6
   obtain rfl : i = 8 := by omega
   refine ag_exit rfl ?_
   refine zB ?_
   refine pA ?_
   refine pE ?_
   refine ag_ret tOk Tryz.func17 rfl rfl (by simp) ?_
   refine ⟨0, eqSl hln, ?_⟩
   rw [← hacc]; rfl
def stabo_0 (L : List (List UInt8)) : Nat × List RVal → Regs × Hp := fun ⟨i, acc⟩ => ([(0, roS L), (4, .r (.int .i64 (2 * (i : Int)))), (3, accA acc)], accH acc)
def prabo_0 (L : List (List UInt8)) : Nat × List RVal → Prop := fun ⟨i, acc⟩ => i ≤ (L.length / 2) ∧ acc = sL ((abv L).take i)
theorem w_above (L : List (List UInt8)) (h2 : 2 ≤ L.length) (hb : L.length ≤ 1000) (h8 : ∀ p ∈ L, p.length = 8) : Own Tryz.prog 18 [roS L] (L.length / 2) 1 (.plain (sL (abv L))) := by
 refine spec_of_go (N := 26) Tryz.func18 rfl (by decide) rfl rfl ?_
 refine zB ?_
 refine pG ?_
 refine pF ?_
 refine zB ?_
 refine pE ?_
 refine ag_block ?_
 refine ag_loopS (stabo_0 L) (prabo_0 L) (fun ⟨i, acc⟩ => (L.length / 2) - i) (0, []) (ent_weak [] rfl rfl rfl rfl ?_ ?_ rfl) (show prabo_0 L (0, []) from ?_) ?_
 ·exact ⟨⟨rfl, rfl⟩, ⟨rfl, rfl⟩, ⟨rfl, rfl⟩, trivial⟩
 ·trivial
 ·exact ⟨Nat.zero_le _, by rfl⟩
 rintro ⟨i, acc⟩ hp hrec
 cases acc with
 | nil =>
  obtain ⟨hi, hacc⟩ : _ := hp
  refine ag_ent (ent_weak (g' := [(0, roS L), (4, .r (.int .i64 (2 * (i : Int)))), (3, .r .nil)]) (h' := ⟨0, [], false⟩) [] rfl rfl rfl rfl ?_ ?_ rfl) ?_
  ·exact ⟨⟨rfl, rfl⟩, ⟨rfl, rfl⟩, ⟨rfl, rfl⟩, trivial⟩
  ·trivial
  refine sZ ?_
  refine pA ?_
  refine pC ?_ ?_
  ·unfold inI64; omega
  iterate 2 refine pA ?_
  refine pE ?_
  refine ag_if rfl ?_ ?_
  ·intro h9
   obtain ⟨p, ha⟩ := getI (L := L) (i := 2 * i) (by omega)
   obtain ⟨q, hb1⟩ := getI (L := L) (i := 2 * i + 1) (by omega)
   have hal := h8 p (memI ha)
   have hbl := h8 q (memI hb1)
   refine sS ?_
   refine ag_block ?_
   apply ag_draw1 [24] (by kernel_rfl) (by kernel_rfl)
   iterate 3 refine qA ?_
   refine qB ?_ ?_
   ·refine ⟨?_, ?_⟩ <;> first | omega | exact ne_mp ha | (refine ⟨?_, ?_⟩ <;> omega)
   refine aq_loadAs tOk (.r (.str p)) rfl rfl rfl rfl (fun _ => rfl) rfl rfl (.inl ⟨rfl, by simp only [Body.cells, mulz_eq, sL, show (2 * (i : Int)).toNat * 1 = 2 * i by omega, List.getElem?_map, ha]; rfl⟩) ?_
   iterate 2 refine qA ?_
   refine qB ?_ ?_
   ·unfold inI64; omega
   refine qB ?_ ?_
   ·refine ⟨?_, ?_⟩ <;> first | omega | exact ne_mp ha | (refine ⟨?_, ?_⟩ <;> omega)
   refine aq_loadAs tOk (.r (.str q)) rfl rfl rfl rfl (fun _ => rfl) rfl rfl (.inl ⟨rfl, by simp only [Body.cells, mulz_eq, sL, show (2 * (i : Int) + 1).toNat * 1 = 2 * i + 1 by omega, List.getElem?_map, hb1]; rfl⟩) ?_
   refine aq_pur (w_join p q (by omega) (by omega)) rfl rfl rfl rfl rfl rfl rfl ?_
   refine aq_qd (fun _ => qop_buildRo tOk rfl ?_ rfl) rfl rfl rfl rfl ?_
   ·repeat any_goals (first | trivial | decide | omega | (simp; done) | (rw [wu8]; omega) | refine ⟨?_, ?_⟩)
   refine aq_app10 tOk rfl rfl rfl rfl rfl ?_ ?_
   ·refine ⟨⟨?_, ?_, ?_⟩, ⟨?_, ?_⟩, ⟨?_, ?_⟩, ?_⟩ <;> first | trivial | omega | (simp; done) | (simp; omega)
   refine qE ?_
   refine iR ?_
   refine pA ?_
   refine pC ?_ ?_
   ·unfold inI64; omega
   refine pE ?_
   refine ag_ent (ent_weak (g' := (stabo_0 L (i + 1, [.str (nod p q)])).1) (h' := (stabo_0 L (i + 1, [.str (nod p q)])).2) [0] rfl rfl rfl rfl ?_ ?_ rfl) ?_
   ·exact ⟨⟨rfl, rfl⟩, ⟨rfl, by exact eqI (by omega)⟩, ⟨rfl, rfl⟩, trivial⟩
   ·exact ⟨⟨rfl, rfl, rfl⟩, trivial⟩
   have hnx := hrec (i + 1, [.str (nod p q)])
   refine hnx ?_ ?_
   ·exact ⟨by omega, by rw [abv_next ha hb1, ← hacc]; try rfl⟩
   ·show (L.length / 2) - (i + 1) < (L.length / 2) - i; omega
  ·intro h9
   have hi2 : i = L.length / 2 := by omega
   rw [List.take_of_length_le (by rw [abv_length]; omega)] at hacc
   refine ag_exit rfl ?_
   refine zB ?_
   refine pA ?_
   refine pE ?_
   exfalso
   have := congrArg List.length hacc
   simp [sL, abv_length] at this
   omega
 | cons a l =>
  obtain ⟨hi, hacc⟩ : _ := hp
  refine ag_ent (ent_weak (g' := [(0, roS L), (4, .r (.int .i64 (2 * (i : Int)))), (3, .sl 0 0 (l.length + 1) 1)]) (h' := ⟨1, [(0, some (.plain (a :: l)))], false⟩) [0] rfl rfl rfl rfl ?_ ?_ rfl) ?_
  ·exact ⟨⟨rfl, rfl⟩, ⟨rfl, rfl⟩, ⟨rfl, rfl⟩, trivial⟩
  ·exact ⟨⟨rfl, rfl, rfl⟩, trivial⟩
  have hln := congrArg List.length hacc
  simp only [sL, List.length_map, List.length_take, abv_length, List.length_cons] at hln
  refine sZ ?_
  refine pA ?_
  refine pC ?_ ?_
  ·unfold inI64; omega
  iterate 2 refine pA ?_
  refine pE ?_
  refine ag_if rfl ?_ ?_
  ·intro h9
   obtain ⟨p, ha⟩ := getI (L := L) (i := 2 * i) (by omega)
   obtain ⟨q, hb1⟩ := getI (L := L) (i := 2 * i + 1) (by omega)
   have hal := h8 p (memI ha)
   have hbl := h8 q (memI hb1)
   refine sS ?_
   refine ag_block ?_
   apply ag_draw1 [24] (by kernel_rfl) (by kernel_rfl)
   iterate 3 refine qA ?_
   refine qB ?_ ?_
   ·refine ⟨?_, ?_⟩ <;> first | omega | exact ne_mp ha | (refine ⟨?_, ?_⟩ <;> omega)
   refine aq_loadAs tOk (.r (.str p)) rfl rfl rfl rfl (fun _ => rfl) rfl rfl (.inl ⟨rfl, by simp only [Body.cells, mulz_eq, sL, show (2 * (i : Int)).toNat * 1 = 2 * i by omega, List.getElem?_map, ha]; rfl⟩) ?_
   iterate 2 refine qA ?_
   refine qB ?_ ?_
   ·unfold inI64; omega
   refine qB ?_ ?_
   ·refine ⟨?_, ?_⟩ <;> first | omega | exact ne_mp ha | (refine ⟨?_, ?_⟩ <;> omega)
   refine aq_loadAs tOk (.r (.str q)) rfl rfl rfl rfl (fun _ => rfl) rfl rfl (.inl ⟨rfl, by simp only [Body.cells, mulz_eq, sL, show (2 * (i : Int) + 1).toNat * 1 = 2 * i + 1 by omega, List.getElem?_map, hb1]; rfl⟩) ?_
   refine aq_pur (w_join p q (by omega) (by omega)) rfl rfl rfl rfl rfl rfl rfl ?_
   refine aq_qd (fun _ => qop_buildRo tOk rfl ?_ rfl) rfl rfl rfl rfl ?_
   ·repeat any_goals (first | trivial | decide | omega | (simp; done) | (rw [wu8]; omega) | refine ⟨?_, ?_⟩)
   refine aq_app10 tOk rfl rfl rfl rfl rfl ?_ ?_
   ·refine ⟨⟨?_, ?_, ?_⟩, ⟨?_, ?_⟩, ⟨?_, ?_⟩, ?_⟩ <;> first | trivial | omega | (simp; done) | (simp; omega)
   refine qE ?_
   refine iR ?_
   refine pA ?_
   refine pC ?_ ?_
   ·unfold inI64; omega
   refine pE ?_
   refine ag_ent (ent_weak (g' := (stabo_0 L (i + 1, a :: l ++ [.str (nod p q)])).1) (h' := (stabo_0 L (i + 1, a :: l ++ [.str (nod p q)])).2) [1] rfl rfl rfl rfl ?_ ?_ rfl) ?_
   ·exact ⟨⟨rfl, rfl⟩, ⟨rfl, by exact eqI (by omega)⟩, ⟨rfl, by exact eqSl (by simp)⟩, trivial⟩
   ·exact ⟨⟨rfl, rfl, by exact eqPl (by simp [cutA_eq])⟩, trivial⟩
   have hnx := hrec (i + 1, a :: l ++ [.str (nod p q)])
   refine hnx ?_ ?_
   ·exact ⟨by omega, by rw [abv_next ha hb1, ← hacc]; try rfl⟩
   ·show (L.length / 2) - (i + 1) < (L.length / 2) - i; omega
  ·intro h9
   have hi2 : i = L.length / 2 := by omega
   rw [List.take_of_length_le (by rw [abv_length]; omega)] at hacc
   refine ag_exit rfl ?_
   refine zB ?_
   refine pA ?_
   refine pE ?_
   refine ag_ret tOk Tryz.func18 rfl rfl (by simp) ?_
   refine ⟨0, eqSl (by omega), ?_⟩
   rw [← hacc]; rfl
def lev (seed : List UInt8) : Nat → List (List UInt8)
 | 0 => rowL seed 8
 | k + 1 => abv (lev seed k)
theorem lev_length (seed : List UInt8) : ∀ k, (lev seed k).length = 8 / 2 ^ k
 | 0 => rowL_length _ _
 | k + 1 => by rw [lev, abv_length, lev_length seed k, Nat.div_div_eq_div_mul, Nat.pow_succ]
theorem lev_8 (seed : List UInt8) : ∀ k, ∀ p ∈ lev seed k, p.length = 8
 | 0 => rowL_8 _ _
 | k + 1 => abv_8 _
theorem w_rowR (seed : List UInt8) (hs : seed.length ≤ 140737488352000) : Pur Tryz.prog 17 [.r (.str seed)] (roS (lev seed 0)) := (own_to_ro (w_mrow seed hs) rfl trivial).mono_r (roS_of (rowL_length _ _))
theorem w_aboveR (seed : List UInt8) (k : Nat) (hk : k ≤ 2) : Pur Tryz.prog 18 [roS (lev seed k)] (roS (lev seed (k + 1))) := by
 have hl := lev_length seed k
 have h4 : 8 / 2 ^ k = 8 ∨ 8 / 2 ^ k = 4 ∨ 8 / 2 ^ k = 2 := by rcases k with _ | _ | _ | k <;> simp_all
 exact (own_to_ro (w_above (lev seed k) (by omega) (by omega) (lev_8 seed k)) rfl trivial).mono_r (roS_of (abv_length _))
def rootL (seed : List UInt8) : List UInt8 := (lev seed 3).getD 0 []
theorem lev_get (seed : List UInt8) {k j : Nat} (h : j < 8 / 2 ^ k) : (lev seed k)[j]? = some ((lev seed k).getD j []) := by
 obtain ⟨s, hs⟩ := getI (L := lev seed k) (i := j) (by rw [lev_length]; exact h)
 rw [getDI hs, hs]
theorem w_Root (seed : List UInt8) (hs : seed.length ≤ 140737488352000) : Pur Tryz.prog 5 [.r (.str seed)] (.r (.str (rootL seed))) := by
 refine spec_of_go (N := 14) Tryz.func5 rfl (by decide) rfl rfl ?_
 refine zB ?_
 refine pG ?_
 refine pA ?_
 refine ar_pur (w_rowR seed hs) rfl rfl rfl rfl rfl rfl rfl ?_
 refine pF ?_
 refine ag_block ?_
 refine ag_unroll ?_
 refine sZ ?_
 iterate 2 refine pA ?_
 refine pE ?_
 refine ag_true rfl (by rw [lev_length]; decide) ?_
 refine ag_skip ?_
 refine ag_block ?_
 refine ag_reg ?_
 refine pA ?_
 refine ar_pur (w_aboveR seed 0 (by omega)) rfl rfl rfl rfl rfl rfl rfl ?_
 refine pE ?_
 refine ag_inBlock ?_
 refine ag_again ?_
 refine sZ ?_
 iterate 2 refine pA ?_
 refine pE ?_
 refine ag_true rfl (by rw [lev_length]; decide) ?_
 refine ag_skip ?_
 refine ag_block ?_
 refine ag_reg ?_
 refine pA ?_
 refine ar_pur (w_aboveR seed 1 (by omega)) rfl rfl rfl rfl rfl rfl rfl ?_
 refine pE ?_
 refine ag_inBlock ?_
 refine ag_again ?_
 refine sZ ?_
 iterate 2 refine pA ?_
 refine pE ?_
 refine ag_true rfl (by rw [lev_length]; decide) ?_
 refine ag_skip ?_
 refine ag_block ?_
 refine ag_reg ?_
 refine pA ?_
 refine ar_pur (w_aboveR seed 2 (by omega)) rfl rfl rfl rfl rfl rfl rfl ?_
 refine pE ?_
 refine ag_inBlock ?_
 refine ag_again ?_
 refine sZ ?_
 iterate 2 refine pA ?_
 refine pE ?_
 refine ag_false rfl (by rw [lev_length]; decide) ?_
 refine ag_exit rfl ?_
 refine zB ?_
 refine pA ?_
 refine pC ?_ ?_
 ·refine ⟨?_, ?_⟩ <;> first | (rw [lev_length]; decide) | exact ne_mp (lev_get seed (k := 3) (j := 0) (by decide)) | (refine ⟨?_, ?_⟩ <;> (rw [lev_length]; decide))
 refine ar_loadAs tOk (.r (.str (rootL seed))) rfl rfl rfl rfl rfl rfl rfl (.inl ⟨rfl, by simp only [Body.cells, mulz_eq, sL, List.getElem?_map, Int.toNat_zero, Nat.zero_mul, lev_get seed (k := 3) (j := 0) (by decide)]; rfl⟩) ?_
 refine pE ?_
 refine ag_ret tOk Tryz.func5 rfl rfl (by simp) ?_
 rfl
end Go.Proofs.YtccdhgmkjakjkaaGreat

/-
  WALKS: slices.Grow, slices.Concat, blob.Cat, of octets. (Printed by gen.py out of w_cat.py.)
-/
import Derived.Test.YtccdhgmkjakjkaaGreatNBk
import Derived.Test.YtccdhgmkjakjkaaGreatMB
namespace Go.Proofs.YtccdhgmkjakjkaaGreat
open Go
set_option maxRecDepth 20000
set_option linter.unusedVariables false
set_option linter.unusedSimpArgs false
theorem w_Grow0  : Pur Tryz.prog 108 [.r .nil, .r (.int .i64 0)] (.r .nil) := by
 refine spec_of_go (N := 27) Tryz.func108 rfl (by decide) rfl rfl ?_
 refine zB ?_
 refine pF ?_
 refine zB ?_
 refine pA ?_
 refine pE ?_
 refine vD ?_
 refine sS ?_
 refine zB ?_
 iterate 2 refine pA ?_
 refine ar_qd rfl (qop_capN tOk rfl) rfl rfl rfl rfl ?_
 iterate 2 refine pA ?_
 refine pC ?_ ?_
 ·first | trivial | omega | (unfold inI64; omega) | (refine ⟨?_, ?_⟩ <;> first | trivial | rfl | omega | simp) | decide
 refine pC ?_ ?_
 ·first | trivial | omega | (unfold inI64; omega) | (refine ⟨?_, ?_⟩ <;> first | trivial | rfl | omega | simp) | decide
 refine pG ?_
 refine pA ?_
 refine pE ?_
 refine vD ?_
 refine ag_skip ?_
 refine zB ?_
 refine pA ?_
 refine pE ?_
 refine ag_ret tOk Tryz.func108 rfl rfl (by simp) ?_
 rfl
theorem w_GrowP (n : Nat) (h0 : 0 < n) (hn : n ≤ 140737488355328) : Own Tryz.prog 108 [.r .nil, .r (.int .i64 (n : Int))] 0 1 (.bytes (List.replicate n 0)) := by
 refine spec_of_go (N := 27) Tryz.func108 rfl (by decide) rfl rfl ?_
 refine zB ?_
 refine pF ?_
 refine zB ?_
 refine pA ?_
 refine pE ?_
 refine ag_false rfl (by simp) ?_
 refine sS ?_
 refine zB ?_
 iterate 2 refine pA ?_
 refine ar_qd rfl (qop_capN tOk rfl) rfl rfl rfl rfl ?_
 iterate 2 refine pA ?_
 refine pC ?_ ?_
 ·first | trivial | omega | (unfold inI64; omega) | (refine ⟨?_, ?_⟩ <;> first | trivial | rfl | omega | simp) | decide
 refine pC ?_ ?_
 ·first | trivial | omega | (unfold inI64; omega) | (refine ⟨?_, ?_⟩ <;> first | trivial | rfl | omega | simp) | decide
 refine ar_ent (ent_reg 14 (.r (.int .i64 (n : Int))) (by show AVal.r (.int _ _) = _; exact eqI (by omega))) ?_
 refine pG ?_
 refine pA ?_
 refine pE ?_
 refine ag_true rfl (by simp; omega) ?_
 refine ag_reg ?_
 iterate 2 refine pA ?_
 refine ar_qd rfl (qop_capN tOk rfl) rfl rfl rfl rfl ?_
 refine ar_qd rfl (qop_sliceN tOk rfl) rfl rfl rfl rfl ?_
 refine pA ?_
 refine ar_qd rfl (qop_appMake (n := n) tOk rfl h0 hn) rfl rfl rfl rfl ?_
 iterate 2 refine pA ?_
 refine pC ?_ ?_
 ·simp only [boundsOk]; omega
 refine pG ?_
 refine pA ?_
 refine pE ?_
 refine ag_ret tOk Tryz.func108 rfl rfl (by simp) ?_
 exact ⟨_, rfl, rfl⟩
def lenTo (L : List (List UInt8)) (i : Nat) : Nat := (L.take i).flatten.length
theorem take_next {L : List (List UInt8)} {i : Nat} {s : List UInt8} (h : L[i]? = some s) : (L.take (i + 1)).flatten = (L.take i).flatten ++ s := by
 rw [List.take_add_one, h]; simp
theorem lenTo_next {L : List (List UInt8)} {i : Nat} {s : List UInt8} (h : L[i]? = some s) : lenTo L (i + 1) = lenTo L i + s.length := by
 unfold lenTo; rw [take_next h]; simp
theorem lenTo_le (L : List (List UInt8)) (i : Nat) : lenTo L i ≤ L.flatten.length := by
 have : L.flatten = (L.take i).flatten ++ (L.drop i).flatten := by rw [← List.flatten_append, List.take_append_drop]
 unfold lenTo; rw [this]; simp
theorem lenTo_all (L : List (List UInt8)) : lenTo L L.length = L.flatten.length := by unfold lenTo; rw [List.take_length]
def roL (L : List (List UInt8)) : AVal := .r (.ro L.length (L.map .bs))
theorem get_of {L : List (List UInt8)} {i : Nat} (h : i < L.length) : ∃ s, L[i]? = some s := ⟨L[i], by simp [h]⟩
theorem mem_nil {L : List (List UInt8)} {i : Nat} {s : List UInt8} (h : L.flatten = []) (hs : L[i]? = some s) : s = [] := by
 have := List.flatten_eq_nil_iff.1 h s (List.mem_of_getElem? hs)
 exact this
theorem ne_of {L : List (List UInt8)} {i : Nat} {s : List UInt8} (hs : L[i]? = some s) : L.map RVal.bs ≠ [] := by
 cases L with
 | nil => simp at hs
 | cons a l => simp
def stCc0_0 (L : List (List UInt8)) : Nat → Regs × Hp := fun i => ([(0, roL L), (9, roL L), (10, .r (.int .i64 (L.length : Int))), (11, .r (.int .i64 (i : Int))), (3, .r (.int .i64 ((lenTo L i : Nat) : Int)))], ⟨0, [], false⟩)
def prCc0_0 (L : List (List UInt8)) : Nat → Prop := fun i => i ≤ L.length
def stCc0_2 (L : List (List UInt8)) : Nat → Regs × Hp := fun i => ([(25, roL L), (26, .r (.int .i64 (L.length : Int))), (27, .r (.int .i64 (i : Int))), (6, .r .nil)], ⟨0, [], false⟩)
def prCc0_2 (L : List (List UInt8)) : Nat → Prop := fun i => i ≤ L.length
theorem w_Concat0 (L : List (List UInt8)) (hL : L.length ≤ 140737488355328) (h0 : L.flatten = []) : Pur Tryz.prog 98 [roL L] (.r (.bs L.flatten)) := by
 refine spec_of_go (N := 36) Tryz.func98 rfl (by decide) rfl rfl ?_
 refine zB ?_
 refine pG ?_
 refine pF ?_
 refine zB ?_
 iterate 2 refine pA ?_
 refine pE ?_
 refine ag_block ?_
 refine ag_loopS (stCc0_0 L) (prCc0_0 L) (fun (i : Nat) => L.length - i) 0 (ent_weak [] rfl rfl rfl rfl ?_ ?_ rfl) (show prCc0_0 L 0 from ?_) ?_
 ·exact ⟨⟨rfl, rfl⟩, ⟨rfl, rfl⟩, ⟨rfl, rfl⟩, ⟨rfl, rfl⟩, ⟨rfl, rfl⟩, trivial⟩
 ·trivial
 ·exact Nat.zero_le _
 rintro i hp hrec
 refine zB ?_
 refine pF ?_
 refine ag_if rfl ?_ ?_
 ·intro h12
  have hlt : i < L.length := by omega
  obtain ⟨s, hs⟩ := get_of hlt
  have hle := lenTo_le L (i + 1)
  rw [lenTo_next hs] at hle
  refine sS ?_
  refine bX ?_
  refine pC ?_ ?_
  ·refine ⟨?_, ?_⟩ <;> first | omega | exact ne_of hs | (refine ⟨?_, ?_⟩ <;> omega)
  refine ar_loadAs tOk (.r (.bs s)) rfl rfl rfl rfl rfl rfl rfl (.inl ⟨rfl, by rw [mulz_eq, Int.toNat_natCast, Nat.mul_one]; simp [Body.cells, hs]⟩) ?_
  refine pG ?_
  iterate 3 refine pA ?_
  refine pC ?_ ?_
  ·simp only [h0, List.length_nil] at hle; unfold inI64; omega
  refine pG ?_
  refine pA ?_
  refine pE ?_
  refine ag_false rfl (by simp; omega) ?_
  refine ag_skip ?_
  refine iR ?_
  refine pC ?_ ?_
  ·unfold inI64; omega
  refine pE ?_
  refine ag_ent (ent_weak (g' := (stCc0_0 L (i + 1)).1) (h' := (stCc0_0 L (i + 1)).2) [] rfl rfl rfl rfl ?_ ?_ rfl) ?_
  ·exact ⟨⟨rfl, rfl⟩, ⟨rfl, rfl⟩, ⟨rfl, rfl⟩, ⟨rfl, by exact eqI (by omega)⟩, ⟨rfl, by exact eqI (by rw [lenTo_next hs]; omega)⟩, trivial⟩
  ·trivial
  have hnx := hrec (i + 1)
  refine hnx ?_ ?_
  ·show i + 1 ≤ L.length; omega
  ·show L.length - (i + 1) < L.length - i; omega
 ·intro h12
  have hi : i = L.length := by have : i ≤ L.length := hp; omega
  subst hi
  refine ag_exit rfl ?_
  refine ag_seq ?_
  refine ag_ent (ent_reg 3 (.r (.int .i64 0)) (by show AVal.r (.int _ _) = _; exact eqI (by rw [lenTo_all, h0]; rfl))) ?_
  refine ag_reg ?_
  refine pA ?_
  refine ar_pur (w_Grow0) rfl rfl rfl rfl rfl rfl rfl ?_
  refine pF ?_
  refine zB ?_
  iterate 2 refine pA ?_
  refine pE ?_
  refine ag_block ?_
  refine ag_loopS (stCc0_2 L) (prCc0_2 L) (fun (i : Nat) => L.length - i) 0 (ent_weak [] rfl rfl rfl rfl ?_ ?_ rfl) (show prCc0_2 L 0 from ?_) ?_
  ·exact ⟨⟨rfl, rfl⟩, ⟨rfl, rfl⟩, ⟨rfl, rfl⟩, ⟨rfl, rfl⟩, trivial⟩
  ·trivial
  ·exact Nat.zero_le _
  rintro i hp hrec
  refine zB ?_
  refine pF ?_
  refine ag_if rfl ?_ ?_
  ·intro h28
   have hlt : i < L.length := by omega
   obtain ⟨s, hs⟩ := get_of hlt
   have hle := lenTo_le L (i + 1)
   rw [lenTo_next hs] at hle
   refine sS ?_
   refine bX ?_
   refine pC ?_ ?_
   ·refine ⟨?_, ?_⟩ <;> first | omega | exact ne_of hs | (refine ⟨?_, ?_⟩ <;> omega)
   refine ar_loadAs tOk (.r (.bs s)) rfl rfl rfl rfl rfl rfl rfl (.inl ⟨rfl, by rw [mulz_eq, Int.toNat_natCast, Nat.mul_one]; simp [Body.cells, hs]⟩) ?_
   refine pE ?_
   refine ag_reg ?_
   iterate 2 refine pA ?_
   obtain rfl : s = [] := mem_nil h0 hs
   refine ar_qd rfl (qop_app0 tOk rfl ⟨⟨rfl, rfl⟩, by simp, rfl⟩) rfl rfl rfl rfl ?_
   refine pE ?_
   refine iR ?_
   refine pC ?_ ?_
   ·unfold inI64; omega
   refine pE ?_
   refine ag_ent (ent_weak (g' := (stCc0_2 L (i + 1)).1) (h' := (stCc0_2 L (i + 1)).2) [] rfl rfl rfl rfl ?_ ?_ rfl) ?_
   ·exact ⟨⟨rfl, rfl⟩, ⟨rfl, rfl⟩, ⟨rfl, by exact eqI (by omega)⟩, ⟨rfl, rfl⟩, trivial⟩
   ·trivial
   have hnx := hrec (i + 1)
   refine hnx ?_ ?_
   ·show i + 1 ≤ L.length; omega
   ·show L.length - (i + 1) < L.length - i; omega
  ·intro h28
   refine ag_exit rfl ?_
   refine zB ?_
   refine pA ?_
   refine pE ?_
   refine ag_ent (ent_nil 2 (.bs []) rfl (.inl rfl)) ?_
   refine ag_ret tOk Tryz.func98 rfl rfl (by simp) ?_
   exact eqBsv h0.symm
def stCcP_0 (L : List (List UInt8)) : Nat → Regs × Hp := fun i => ([(0, roL L), (9, roL L), (10, .r (.int .i64 (L.length : Int))), (11, .r (.int .i64 (i : Int))), (3, .r (.int .i64 ((lenTo L i : Nat) : Int)))], ⟨0, [], false⟩)
def prCcP_0 (L : List (List UInt8)) : Nat → Prop := fun i => i ≤ L.length
def stCcP_2 (L : List (List UInt8)) : Nat × List UInt8 → Regs × Hp := fun ⟨i, B⟩ => ([(25, roL L), (26, .r (.int .i64 (L.length : Int))), (27, .r (.int .i64 (i : Int))), (6, .sl 0 0 (lenTo L i) 1)], ⟨1, [(0, some (.bytes B))], false⟩)
def prCcP_2 (L : List (List UInt8)) : Nat × List UInt8 → Prop := fun ⟨i, B⟩ => i ≤ L.length ∧ lenTo L i ≤ B.length ∧ B.take (lenTo L i) = (L.take i).flatten
theorem w_ConcatP (L : List (List UInt8)) (hL : L.length ≤ 140737488355328) (h0 : 0 < L.flatten.length) (ht : L.flatten.length ≤ 140737488355328) : Pur Tryz.prog 98 [roL L] (.r (.bs L.flatten)) := by
 refine spec_of_go (N := 36) Tryz.func98 rfl (by decide) rfl rfl ?_
 refine zB ?_
 refine pG ?_
 refine pF ?_
 refine zB ?_
 iterate 2 refine pA ?_
 refine pE ?_
 refine ag_block ?_
 refine ag_loopS (stCcP_0 L) (prCcP_0 L) (fun (i : Nat) => L.length - i) 0 (ent_weak [] rfl rfl rfl rfl ?_ ?_ rfl) (show prCcP_0 L 0 from ?_) ?_
 ·exact ⟨⟨rfl, rfl⟩, ⟨rfl, rfl⟩, ⟨rfl, rfl⟩, ⟨rfl, rfl⟩, ⟨rfl, rfl⟩, trivial⟩
 ·trivial
 ·exact Nat.zero_le _
 rintro i hp hrec
 refine zB ?_
 refine pF ?_
 refine ag_if rfl ?_ ?_
 ·intro h12
  have hlt : i < L.length := by omega
  obtain ⟨s, hs⟩ := get_of hlt
  have hle := lenTo_le L (i + 1)
  rw [lenTo_next hs] at hle
  refine sS ?_
  refine bX ?_
  refine pC ?_ ?_
  ·refine ⟨?_, ?_⟩ <;> first | omega | exact ne_of hs | (refine ⟨?_, ?_⟩ <;> omega)
  refine ar_loadAs tOk (.r (.bs s)) rfl rfl rfl rfl rfl rfl rfl (.inl ⟨rfl, by rw [mulz_eq, Int.toNat_natCast, Nat.mul_one]; simp [Body.cells, hs]⟩) ?_
  refine pG ?_
  iterate 3 refine pA ?_
  refine pC ?_ ?_
  ·unfold inI64; omega
  refine pG ?_
  refine pA ?_
  refine pE ?_
  refine ag_false rfl (by simp; omega) ?_
  refine ag_skip ?_
  refine iR ?_
  refine pC ?_ ?_
  ·unfold inI64; omega
  refine pE ?_
  refine ag_ent (ent_weak (g' := (stCcP_0 L (i + 1)).1) (h' := (stCcP_0 L (i + 1)).2) [] rfl rfl rfl rfl ?_ ?_ rfl) ?_
  ·exact ⟨⟨rfl, rfl⟩, ⟨rfl, rfl⟩, ⟨rfl, rfl⟩, ⟨rfl, by exact eqI (by omega)⟩, ⟨rfl, by exact eqI (by rw [lenTo_next hs]; omega)⟩, trivial⟩
  ·trivial
  have hnx := hrec (i + 1)
  refine hnx ?_ ?_
  ·show i + 1 ≤ L.length; omega
  ·show L.length - (i + 1) < L.length - i; omega
 ·intro h12
  have hi : i = L.length := by have : i ≤ L.length := hp; omega
  subst hi
  refine ag_exit rfl ?_
  refine ag_seq ?_
  refine ag_ent (ent_reg 3 (.r (.int .i64 ((L.flatten.length : Nat) : Int))) (by show AVal.r (.int _ _) = _; exact eqI (by rw [lenTo_all]))) ?_
  refine ag_reg ?_
  refine pA ?_
  refine ar_own (w_GrowP L.flatten.length h0 ht) rfl rfl rfl rfl rfl rfl rfl ?_
  refine pF ?_
  refine zB ?_
  iterate 2 refine pA ?_
  refine pE ?_
  refine ag_block ?_
  refine ag_loopS (stCcP_2 L) (prCcP_2 L) (fun ⟨i, B⟩ => L.length - i) (0, List.replicate L.flatten.length 0) (ent_weak [0] rfl rfl rfl rfl ?_ ?_ rfl) (show prCcP_2 L (0, List.replicate L.flatten.length 0) from ?_) ?_
  ·exact ⟨⟨rfl, rfl⟩, ⟨rfl, rfl⟩, ⟨rfl, rfl⟩, ⟨rfl, rfl⟩, trivial⟩
  ·exact ⟨⟨rfl, rfl, rfl⟩, trivial⟩
  ·exact ⟨Nat.zero_le _, by simp [lenTo], by simp [lenTo]⟩
  rintro ⟨i, B⟩ hp hrec
  obtain ⟨hp1, hp2, hp3⟩ : _ := hp
  refine zB ?_
  refine pF ?_
  refine ag_if rfl ?_ ?_
  ·intro h28
   have hlt : i < L.length := by omega
   obtain ⟨s, hs⟩ := get_of hlt
   have hle := lenTo_le L (i + 1)
   rw [lenTo_next hs] at hle
   refine sS ?_
   refine bX ?_
   refine pC ?_ ?_
   ·refine ⟨?_, ?_⟩ <;> first | omega | exact ne_of hs | (refine ⟨?_, ?_⟩ <;> omega)
   refine ar_loadAs tOk (.r (.bs s)) rfl rfl rfl rfl rfl rfl rfl (.inl ⟨rfl, by rw [mulz_eq, Int.toNat_natCast, Nat.mul_one]; simp [Body.cells, hs]⟩) ?_
   refine pE ?_
   refine ag_reg ?_
   iterate 2 refine pA ?_
   refine pP ?_ ?_
   ·refine ⟨⟨?_, ?_, ?_⟩, ⟨?_, ?_⟩, ⟨?_, ?_⟩, ?_⟩ <;> first | trivial | omega | (simp; done) | (simp; omega)
   refine pE ?_
   refine iR ?_
   refine pC ?_ ?_
   ·unfold inI64; omega
   refine pE ?_
   refine ag_ent (ent_weak (g' := (stCcP_2 L (i + 1, B.take (lenTo L i) ++ s)).1) (h' := (stCcP_2 L (i + 1, B.take (lenTo L i) ++ s)).2) [1] rfl rfl rfl rfl ?_ ?_ rfl) ?_
   ·exact ⟨⟨rfl, rfl⟩, ⟨rfl, rfl⟩, ⟨rfl, by exact eqI (by omega)⟩, ⟨rfl, by exact eqSl (by rw [lenTo_next hs])⟩, trivial⟩
   ·exact ⟨⟨rfl, rfl, by exact eqBs (by simp [cutA_eq])⟩, trivial⟩
   have hnx := hrec (i + 1, B.take (lenTo L i) ++ s)
   refine hnx ?_ ?_
   ·refine ⟨by omega, ?_, ?_⟩
    ·rw [lenTo_next hs]; simp; omega
    ·rw [lenTo_next hs, take_next hs, hp3, List.take_of_length_le]; simp [lenTo]
   ·show L.length - (i + 1) < L.length - i; omega
  ·intro h28
   refine ag_exit rfl ?_
   refine zB ?_
   refine pA ?_
   refine pE ?_
   have hi : i = L.length := by omega
   subst hi
   rw [lenTo_all] at hp2 hp3
   refine ag_ent (ent_freeze 2 rfl rfl rfl ⟨by rw [lenTo_all]; omega, rfl⟩) ?_
   refine ag_ret tOk Tryz.func98 rfl rfl (by simp) ?_
   exact eqBsv (by rw [cutA_eq, List.drop_zero, lenTo_all, hp3, List.take_length])
theorem w_Concat (L : List (List UInt8)) (hL : L.length ≤ 140737488355328) (ht : L.flatten.length ≤ 140737488355328) : Pur Tryz.prog 98 [roL L] (.r (.bs L.flatten)) := by
 by_cases h0 : L.flatten = []
 ·exact w_Concat0 L hL h0
 ·exact w_ConcatP L hL (List.length_pos_iff.2 h0) ht
theorem w_Cat (L : List (List UInt8)) (hL : L.length ≤ 140737488355328) (ht : L.flatten.length ≤ 140737488355328) : Pur Tryz.prog 87 [roL L] (.r (.bs L.flatten)) := by
 refine spec_of_go (N := 5) Tryz.func87 rfl (by decide) rfl rfl ?_
 refine zB ?_
 refine pG ?_
 refine pA ?_
 refine ar_pur (w_Concat L hL ht) rfl rfl rfl rfl rfl rfl rfl ?_
 refine pE ?_
 refine ag_ret tOk Tryz.func87 rfl rfl (by simp) ?_
 rfl
def hS (n : Nat) (s : List UInt8) : Hp := ⟨2, [(0, some (.mixed [.sl 1 0 n 1])), (1, some (.bytes s))], false⟩
theorem w_ConcatS0 (s : List UInt8) : Spec Tryz.prog 98 [.sl 0 0 1 1] (hS 0 s) (fun v h' => v = .r (.bs (s.take 0)) ∧ h' = hS 0 s) := by
 refine spec_of_go (N := 36) Tryz.func98 rfl (by decide) rfl rfl ?_
 refine zB ?_
 refine pG ?_
 refine pF ?_
 refine zB ?_
 iterate 2 refine pA ?_
 refine pE ?_
 refine ag_block ?_
 refine ag_unroll ?_
 refine zB ?_
 refine pF ?_
 refine vA ?_
 refine sS ?_
 refine bX ?_
 refine pC ?_ ?_
 ·first | trivial | omega | (unfold inI64; omega) | (refine ⟨?_, ?_⟩ <;> first | trivial | rfl | omega | simp) | decide
 refine pB ?_
 refine pG ?_
 iterate 3 refine pA ?_
 refine pC ?_ ?_
 ·unfold inI64; omega
 refine ar_ent (ent_reg 18 (.r (.int .i64 ((0 : Nat) : Int))) (by show AVal.r (.int _ _) = _; exact eqI (by omega))) ?_
 refine pG ?_
 refine pA ?_
 refine pE ?_
 refine ag_false rfl (by simp; try omega) ?_
 refine ag_skip ?_
 refine iR ?_
 refine pC ?_ ?_
 ·first | trivial | omega | (unfold inI64; omega) | (refine ⟨?_, ?_⟩ <;> first | trivial | rfl | omega | simp) | decide
 refine pE ?_
 refine ag_again ?_
 refine zB ?_
 refine pF ?_
 refine vD ?_
 refine ag_exit rfl ?_
 refine zB ?_
 refine pA ?_
 refine ar_pur (w_Grow0) rfl rfl rfl rfl rfl rfl rfl ?_
 refine pF ?_
 refine zB ?_
 iterate 2 refine pA ?_
 refine pE ?_
 refine ag_block ?_
 refine ag_unroll ?_
 refine zB ?_
 refine pF ?_
 refine vA ?_
 refine sS ?_
 refine bX ?_
 refine pC ?_ ?_
 ·first | trivial | omega | (unfold inI64; omega) | (refine ⟨?_, ?_⟩ <;> first | trivial | rfl | omega | simp) | decide
 refine pB ?_
 refine pE ?_
 refine ag_reg ?_
 iterate 2 refine pA ?_
 refine ar_qd rfl (qop_app0 tOk rfl ⟨⟨by simp, rfl⟩, by simp, rfl⟩) rfl rfl rfl rfl ?_
 refine pE ?_
 refine iR ?_
 refine pC ?_ ?_
 ·first | trivial | omega | (unfold inI64; omega) | (refine ⟨?_, ?_⟩ <;> first | trivial | rfl | omega | simp) | decide
 refine pE ?_
 refine ag_again ?_
 refine zB ?_
 refine pF ?_
 refine vD ?_
 refine ag_exit rfl ?_
 refine zB ?_
 refine pA ?_
 refine pE ?_
 refine ag_ent (ent_nil 2 (.bs []) rfl (.inl rfl)) ?_
 refine ag_ent (ent_weak (g' := [(2, .r (.bs []))]) (h' := hS 0 s) [0, 1] rfl rfl rfl rfl ?_ ?_ rfl) ?_
 ·exact ⟨⟨rfl, rfl⟩, trivial⟩
 ·exact ⟨⟨rfl, rfl, rfl⟩, ⟨rfl, rfl, rfl⟩, trivial⟩
 refine ag_ret tOk Tryz.func98 rfl rfl (by simp) ?_
 exact ⟨rfl, rfl⟩
theorem w_ConcatSP (n : Nat) (s : List UInt8) (hn : n ≤ s.length) (h0 : 0 < n) (ht : n ≤ 140737488355328) : Spec Tryz.prog 98 [.sl 0 0 1 1] (hS n s) (fun v h' => v = .r (.bs (s.take n)) ∧ h' = hS n s) := by
 refine spec_of_go (N := 36) Tryz.func98 rfl (by decide) rfl rfl ?_
 refine zB ?_
 refine pG ?_
 refine pF ?_
 refine zB ?_
 iterate 2 refine pA ?_
 refine pE ?_
 refine ag_block ?_
 refine ag_unroll ?_
 refine zB ?_
 refine pF ?_
 refine vA ?_
 refine sS ?_
 refine bX ?_
 refine pC ?_ ?_
 ·first | trivial | omega | (unfold inI64; omega) | (refine ⟨?_, ?_⟩ <;> first | trivial | rfl | omega | simp) | decide
 refine pB ?_
 refine pG ?_
 iterate 3 refine pA ?_
 refine pC ?_ ?_
 ·unfold inI64; omega
 refine ar_ent (ent_reg 18 (.r (.int .i64 ((n : Nat) : Int))) (by show AVal.r (.int _ _) = _; exact eqI (by omega))) ?_
 refine pG ?_
 refine pA ?_
 refine pE ?_
 refine ag_false rfl (by simp; try omega) ?_
 refine ag_skip ?_
 refine iR ?_
 refine pC ?_ ?_
 ·first | trivial | omega | (unfold inI64; omega) | (refine ⟨?_, ?_⟩ <;> first | trivial | rfl | omega | simp) | decide
 refine pE ?_
 refine ag_again ?_
 refine zB ?_
 refine pF ?_
 refine vD ?_
 refine ag_exit rfl ?_
 refine zB ?_
 refine pA ?_
 refine ar_own (w_GrowP n h0 ht) rfl rfl rfl rfl rfl rfl rfl ?_
 refine pF ?_
 refine zB ?_
 iterate 2 refine pA ?_
 refine pE ?_
 refine ag_block ?_
 refine ag_unroll ?_
 refine zB ?_
 refine pF ?_
 refine vA ?_
 refine sS ?_
 refine bX ?_
 refine pC ?_ ?_
 ·first | trivial | omega | (unfold inI64; omega) | (refine ⟨?_, ?_⟩ <;> first | trivial | rfl | omega | simp) | decide
 refine pB ?_
 refine pE ?_
 refine ag_reg ?_
 iterate 2 refine pA ?_
 refine pP ?_ ?_
 ·refine ⟨⟨?_, ?_, ?_⟩, ⟨?_, ?_⟩, ⟨?_, ?_⟩, ?_⟩ <;> first | trivial | omega | (simp; done) | (simp; omega)
 refine pE ?_
 refine iR ?_
 refine pC ?_ ?_
 ·first | trivial | omega | (unfold inI64; omega) | (refine ⟨?_, ?_⟩ <;> first | trivial | rfl | omega | simp) | decide
 refine pE ?_
 refine ag_again ?_
 refine zB ?_
 refine pF ?_
 refine vD ?_
 refine ag_exit rfl ?_
 refine zB ?_
 refine pA ?_
 refine pE ?_
 refine ag_ent (ent_freeze 2 rfl rfl rfl ⟨by simp [cutA_eq]; omega, rfl⟩) ?_
 refine ag_ent (ent_weak (g' := [(2, .r (.bs (s.take n)))]) (h' := hS n s) [0, 1] rfl rfl rfl rfl ?_ ?_ rfl) ?_
 ·exact ⟨⟨rfl, eqBsv (by simp [cutA_eq, List.take_take])⟩, trivial⟩
 ·exact ⟨⟨rfl, rfl, rfl⟩, ⟨rfl, rfl, rfl⟩, trivial⟩
 refine ag_ret tOk Tryz.func98 rfl rfl (by simp) ?_
 exact ⟨rfl, rfl⟩
theorem w_ConcatS (n : Nat) (s : List UInt8) (hn : n ≤ s.length) (ht : n ≤ 140737488355328) : Spec Tryz.prog 98 [.sl 0 0 1 1] (hS n s) (fun v h' => v = .r (.bs (s.take n)) ∧ h' = hS n s) := by
 rcases Nat.eq_zero_or_pos n with rfl | h0
 ·exact w_ConcatS0 s
 ·exact w_ConcatSP n s hn h0 ht
theorem w_CatS (n : Nat) (s : List UInt8) (hn : n ≤ s.length) (ht : n ≤ 140737488355328) : Spec Tryz.prog 87 [.sl 0 0 1 1] (hS n s) (fun v h' => v = .r (.bs (s.take n)) ∧ h' = hS n s) := by
 refine spec_of_go (N := 5) Tryz.func87 rfl (by decide) rfl rfl ?_
 refine zB ?_
 refine pG ?_
 refine pA ?_
 refine ar_qd rfl (qop_objR [0, 1] (w_ConcatS n s hn ht) (by rintro _ _ ⟨rfl, rfl⟩; exact ⟨rfl, rfl⟩) rfl rfl (handed_of rfl rfl (by decide) ⟨rfl, rfl, rfl, rfl, rfl, rfl, trivial⟩) rfl rfl) rfl rfl rfl rfl ?_
 refine pE ?_
 refine ag_ret tOk Tryz.func87 rfl rfl (by simp) ?_
 exact ⟨rfl, rfl⟩
end Go.Proofs.YtccdhgmkjakjkaaGreat

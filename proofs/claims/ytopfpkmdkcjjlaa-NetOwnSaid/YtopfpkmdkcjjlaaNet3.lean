/-
  WALKS: net.For, Take, Post of many. (Printed by gen.py out of w_net3.py.)
-/
import Derived.Test.YtopfpkmdkcjjlaaNet2
import Derived.Test.YtopfpkmdkcjjlaaNet
import Derived.Test.YtopfpkmdkcjjlaaClr
import Derived.WalkKit
import Derived.WalkSpells
import Derived.WalkLawsBesides
import Derived.Shelf.RegionOpenPlain
import Derived.Deep.RegionLaw
import Derived.Lib.SliceRun
import Derived.Test.YtopfpkmdkcjjlaaNBk
import Derived.Test.YtopfpkmdkcjjlaaCat
namespace Go.Proofs.Ytopfpkmdkcjjlaa
open Go
set_option maxRecDepth 20000
set_option linter.unusedVariables false
set_option linter.unusedSimpArgs false
def delP (acc : Int) (e : NmV) : Bool := decide (e.to ≠ acc)
def keepL (acc : Int) (L : List NmV) : List NmV := L.filter fun e => !delP acc e
def idxD (acc : Int) : List NmV → Int → Int
  | [], _ => -1
  | e :: L, i => if delP acc e then i else idxD acc L (i + 1)
theorem keepL_cons (acc : Int) (e : NmV) (L : List NmV) : keepL acc (e :: L) = if delP acc e then keepL acc L else e :: keepL acc L := by
  rw [keepL, List.filter_cons]
  by_cases q : delP acc e = true <;> simp [keepL, q]
theorem idxD_at {acc : Int} {L : List NmV} {i : Nat} {e : NmV} (h : L[i]? = some e) (k : Int) : idxD acc (L.drop i) k = if delP acc e then k else idxD acc (L.drop (i + 1)) (k + 1) := by
  obtain ⟨hlt, he⟩ := List.getElem?_eq_some_iff.1 h
  rw [List.drop_eq_getElem_cons hlt, he]
  rfl
theorem idxD_cases (acc : Int) : ∀ (L : List NmV) (k : Int), (idxD acc L k = -1 ∧ keepL acc L = L) ∨ ∃ i : Nat, idxD acc L k = k + i ∧ i < L.length ∧ keepL acc (L.take (i + 1)) = L.take i
  | [], k => .inl ⟨rfl, rfl⟩
  | e :: L, k => by
    by_cases h : delP acc e = true
    · exact .inr ⟨0, by rw [idxD, if_pos h]; simp, by simp, by simp [keepL, h]⟩
    · rcases idxD_cases acc L (k + 1) with ⟨h1, h2⟩ | ⟨i, h1, h2, h3⟩
      · exact .inl ⟨by rw [idxD, if_neg h, h1], by rw [keepL_cons, if_neg h, h2]⟩
      · exact .inr ⟨i + 1, by rw [idxD, if_neg h, h1]; push_cast; omega, by simpa using h2, by rw [List.take_succ_cons, keepL_cons, if_neg h, h3, List.take_succ_cons]⟩
theorem keep_next {acc : Int} {L : List NmV} {j : Nat} {e : NmV} (h : L[j]? = some e) : keepL acc (L.take (j + 1)) = keepL acc (L.take j) ++ if delP acc e then [] else [e] := by
  rw [List.take_add_one, h, keepL, List.filter_append]
  by_cases q : delP acc e = true <;> simp [keepL, q]
theorem CSd_set : ∀ {M : List NmV} {i : Nat} (e : NmV), i < M.length → nmsC (M.set i e) = (nmsC M).take (i * 2) ++ nmC e ++ (nmsC M).drop (i * 2 + 2)
  | [], i, e, h => absurd h (Nat.not_lt_zero _)
  | o :: M, 0, e, _ => by
    have hl : (nmC o).length = 2 := rfl
    simp only [nmsC, List.set_cons_zero, List.flatMap_cons, Nat.zero_mul, List.take_zero, List.nil_append, Nat.zero_add]
    rw [List.drop_append_of_le_length (by rw [hl]; exact Nat.le_refl _), List.drop_of_length_le (l := nmC o) (by rw [hl]; exact Nat.le_refl _), List.nil_append]
  | o :: M, i + 1, e, h => by
    have ih := CSd_set (M := M) (i := i) e (by simpa using h)
    have hl : (nmC o).length = 2 := rfl
    simp only [nmsC, List.set_cons_succ, List.flatMap_cons] at ih ⊢
    rw [ih, List.take_append, List.take_of_length_le (l := nmC o) (by rw [hl, Nat.succ_mul]; omega), List.drop_append, List.drop_of_length_le (l := nmC o) (by rw [hl, Nat.succ_mul]; omega), hl, show (i + 1) * 2 - 2 = i * 2 by rw [Nat.succ_mul]; omega, show (i + 1) * 2 + 2 - 2 = i * 2 + 2 by rw [Nat.succ_mul]; omega]
    simp
theorem CSd_len (M : List NmV) : (nmsC M).length = M.length * 2 := by
  induction M with
  | nil => rfl
  | cons x l ih =>
    have hl : (nmC x).length = 2 := rfl
    simp only [nmsC, List.flatMap_cons, List.length_append, List.length_cons] at *; rw [ih, hl]; omega
theorem CSd_take (M : List NmV) (i : Nat) : (nmsC M).take (i * 2) = nmsC (M.take i) := by
  induction i generalizing M with
  | zero => simp [nmsC]
  | succ i ih =>
    cases M with
    | nil => simp [nmsC]
    | cons x M =>
      have hl : (nmC x).length = 2 := rfl
      have := ih M
      simp only [nmsC, List.take_succ_cons, List.flatMap_cons] at this ⊢
      rw [List.take_append, List.take_of_length_le (l := nmC x) (by rw [hl, Nat.succ_mul]; omega), hl, show (i + 1) * 2 - 2 = i * 2 by rw [Nat.succ_mul]; omega, this]
theorem CSd_sets {M : List NmV} {i : Nat} (e : NmV) (h : i < M.length) : setsP (nmsC M) (addo 0 (mulz (i : Int) 2)) (nmC e) = nmsC (M.set i e) := by
  have hl : (nmC e).length = 2 := rfl
  have h1 : (i + 1) * 2 ≤ M.length * 2 := Nat.mul_le_mul_right _ h
  rw [Nat.succ_mul] at h1
  rw [setsP_eq _ _ _ (by rw [addo_eq, mulz_eq, Int.toNat_natCast, hl, CSd_len]; omega), CSd_set e h, addo_eq, mulz_eq, Int.toNat_natCast, hl, Nat.zero_add]
theorem keep_step {acc : Int} {L M : List NmV} {i j : Nat} {e : NmV} (hij : i < j) (hml : M.length = L.length) (ht : M.take i = keepL acc (L.take j)) (hd : M.drop j = L.drop j) (hx : M[j]? = some e) (hk : ¬ delP acc e = true) :
    (M.set i e).length = L.length ∧ (M.set i e).take (i + 1) = keepL acc (L.take (j + 1)) ∧ (M.set i e).drop (j + 1) = L.drop (j + 1) := by
  have hjl := (List.getElem?_eq_some_iff.1 hx).1
  have hxl : L[j]? = some e := by
    have := congrArg (·[0]?) hd
    simp only [List.getElem?_drop, Nat.add_zero] at this
    rw [← this]; exact hx
  refine ⟨by simp [hml], ?_, ?_⟩
  · rw [keep_next hxl, ← ht, List.take_add_one, List.getElem?_set_self (by omega), List.take_set_of_le (Nat.le_refl _)]; simp [hk]
  · rw [List.drop_set_of_lt (by omega)]
    have := congrArg (List.drop 1) hd
    simpa [List.drop_drop] using this
theorem drop_step {acc : Int} {L M : List NmV} {i j : Nat} {e : NmV} (ht : M.take i = keepL acc (L.take j)) (hd : M.drop j = L.drop j) (hx : M[j]? = some e) (hk : delP acc e = true) :
    M.take i = keepL acc (L.take (j + 1)) ∧ M.drop (j + 1) = L.drop (j + 1) := by
  have hxl : L[j]? = some e := by
    have := congrArg (·[0]?) hd
    simp only [List.getElem?_drop, Nat.add_zero] at this
    rw [← this]; exact hx
  refine ⟨by rw [keep_next hxl, if_pos hk, List.append_nil]; exact ht, ?_⟩
  have := congrArg (List.drop 1) hd
  simpa [List.drop_drop] using this
def hD (acc : Int) (L : List NmV) : Hp := ⟨2, [(0, some (.plain (nmsC L))), (1, some (.mixed [.r (.int .i64 acc)]))], false⟩
def hA (acc : Int) : Hp := ⟨1, [(0, some (.mixed [.r (.int .i64 acc)]))], false⟩
theorem w_clD (acc : Int) (e : NmV) : Spec Try.prog 44 [nmA e, .ptr 0 0] (hA acc) (fun v h' => v = .r (.bool (delP acc e)) ∧ h' = hA acc) := by
  refine spec_of_go (N := 8) Try.func44 rfl (by decide) rfl rfl ?_
  refine zB ?_
  refine ar_new tOk rfl rfl rfl trivial ?_
  refine pA ?_
  refine zC ?_
  refine pA ?_
  iterate 2 refine pB ?_
  iterate 2 refine pA ?_
  refine ar_nil ?_
  refine ag_ent (ent_weak (g' := [(3, .r (.bool (delP acc e)))]) (h' := hA acc) [0] rfl rfl rfl rfl ?_ ?_ rfl) ?_
  · exact ⟨⟨rfl, rfl⟩, trivial⟩
  · exact ⟨⟨rfl, rfl, rfl⟩, trivial⟩
  refine ag_ret tOk Try.func44 rfl rfl (by simp) ?_
  exact ⟨rfl, rfl⟩
def stdI_0 (acc : Int) (L : List NmV) : Nat → Regs × Hp := fun i => ([(0, .sl 0 0 L.length 2), (1, .func 44 [.ptr 1 0]), (7, .r (.int .i64 (L.length : Int))), (8, .r (.int .i64 (i : Int)))], hD acc L)
def prdI_0 (acc : Int) (L : List NmV) : Nat → Prop := fun i => idxD acc (L.drop i) (i : Int) = idxD acc L 0
theorem w_IdxD (acc : Int) (L : List NmV) (hL : L.length ≤ 140737488355328) : Spec Try.prog 64 [.sl 0 0 L.length 2, .func 44 [.ptr 1 0]] (hD acc L) (fun v h' => v = .r (.int .i64 (idxD acc L 0)) ∧ h' = hD acc L) := by
  refine spec_of_go (N := 19) Try.func64 rfl (by decide) rfl rfl ?_
  refine zB ?_
  refine pA ?_
  refine zA ?_
  refine zB ?_
  iterate 3 refine pA ?_
  refine ar_nil ?_
  refine ag_block ?_
  refine ag_loopS (stdI_0 acc L) (prdI_0 acc L) (fun (i : Nat) => L.length - i) 0 (ent_weak [0, 1] rfl rfl rfl rfl ?_ ?_ rfl) (show prdI_0 acc L 0 from ?_) ?_
  · exact ⟨⟨rfl, rfl⟩, ⟨rfl, rfl⟩, ⟨rfl, rfl⟩, ⟨rfl, rfl⟩, trivial⟩
  · exact ⟨⟨rfl, rfl, rfl⟩, ⟨rfl, rfl, rfl⟩, trivial⟩
  · exact rfl
  rintro i hi hrec
  have hi : idxD acc (L.drop i) (i : Int) = idxD acc L 0 := hi
  refine zB ?_
  refine pA ?_
  refine zA ?_
  refine ag_if rfl ?_ ?_
  · intro h9
    obtain ⟨e, hx⟩ : ∃ e, L[i]? = some e := ⟨L[i]'(by omega), by simp⟩
    refine ag_skip ?_
    refine ag_seq ?_
    refine ag_block ?_
    refine zB ?_
    iterate 2 refine pA ?_
    refine zC ?_
    iterate 3 refine pA ?_
    refine ar_pure tOk rfl rfl rfl ?_ ?_
    · refine ⟨?_, ?_⟩ <;> omega
    refine ar_loadAs tOk (nmA e) rfl rfl rfl rfl rfl rfl rfl (.inr ⟨rfl, _, rfl, by rw [addo_eq, mulz_eq, Int.toNat_natCast, Nat.zero_add]; exact nmsC_get hx, rfl⟩) ?_
    refine ar_qd rfl (qop_objR [1] (w_clD acc e) (by rintro _ _ ⟨rfl, rfl⟩; exact ⟨rfl, rfl⟩) rfl rfl (handed_of rfl rfl (by decide) ⟨rfl, rfl, rfl, trivial⟩) rfl rfl) rfl rfl rfl rfl ?_
    refine ar_nil ?_
    refine ag_cond rfl ?_ ?_
    · intro h16
      have hi2 := hi
      rw [idxD_at hx, if_pos h16] at hi2
      refine zB ?_
      iterate 2 refine pA ?_
      refine ar_nil ?_
      refine ag_ret tOk Try.func64 rfl rfl (by simp) ?_
      refine ⟨?_, rfl⟩
      exact eqI hi2
    · intro h16
      rw [idxD_at hx, if_neg (by rw [h16]; decide)] at hi
      refine ag_skip ?_
      refine ag_inBlock ?_
      refine ag_reg ?_
      refine ar_pure tOk rfl rfl rfl ?_ ?_
      · unfold inI64; omega
      refine pA ?_
      refine ar_nil ?_
      refine ag_ent (ent_weak (g' := (stdI_0 acc L (i + 1)).1) (h' := (stdI_0 acc L (i + 1)).2) [0, 1] rfl rfl rfl rfl ?_ ?_ rfl) ?_
      · exact ⟨⟨rfl, rfl⟩, ⟨rfl, rfl⟩, ⟨rfl, rfl⟩, ⟨rfl, by exact eqI (by omega)⟩, trivial⟩
      · exact ⟨⟨rfl, rfl, rfl⟩, ⟨rfl, rfl, rfl⟩, trivial⟩
      have hnx := hrec (i + 1)
      refine hnx ?_ ?_
      · show idxD _ _ _ = _; push_cast; exact hi
      · show L.length - (i + 1) < L.length - i; omega
  · intro h9
    rw [List.drop_eq_nil_of_le (by omega)] at hi
    refine ag_exit rfl ?_
    refine zB ?_
    refine pA ?_
    refine ar_nil ?_
    refine ag_ret tOk Try.func64 rfl rfl (by simp) ?_
    refine ⟨?_, rfl⟩
    exact eqI hi
theorem w_DelN (acc : Int) (L : List NmV) (hL : L.length ≤ 140737488355328) (hi : idxD acc L 0 = -1) : Spec Try.prog 43 [.sl 0 0 L.length 2, .func 44 [.ptr 1 0]] (hD acc L) (fun v h' => v = .sl 0 0 (L).length 2 ∧ h' = hD acc (L)) := by
  have hI := w_IdxD acc L hL
  rw [hi] at hI
  refine spec_of_go (N := 42) Try.func43 rfl (by decide) rfl rfl ?_
  refine zB ?_
  refine pA ?_
  refine zC ?_
  iterate 2 refine pA ?_
  refine ar_qd rfl (qop_objR [0, 1] (hI) (by rintro _ _ ⟨rfl, rfl⟩; exact ⟨rfl, rfl⟩) rfl rfl (handed_of rfl rfl (by decide) ⟨rfl, rfl, rfl, rfl, rfl, rfl, trivial⟩) rfl rfl) rfl rfl rfl rfl ?_
  refine pA ?_
  refine zA ?_
  refine zB ?_
  iterate 2 refine pA ?_
  refine ar_nil ?_
  refine ag_true rfl (by decide) ?_
  refine zB ?_
  iterate 2 refine pA ?_
  refine ar_nil ?_
  refine ag_ent (ent_weak (g' := [(4, .sl 0 0 L.length 2)]) (h' := hD acc L) [0, 1] rfl rfl rfl rfl ?_ ?_ rfl) ?_
  · exact ⟨⟨rfl, rfl⟩, trivial⟩
  · exact ⟨⟨rfl, rfl, rfl⟩, ⟨rfl, rfl, rfl⟩, trivial⟩
  refine ag_ret tOk Try.func43 rfl rfl (by simp) ?_
  exact ⟨rfl, rfl⟩
def stdS_0 (acc : Int) (L : List NmV) : Nat × Nat × List NmV → Regs × Hp := fun ⟨i, j, M⟩ => ([(0, .sl 0 0 L.length 2), (1, .func 44 [.ptr 1 0]), (5, .r (.int .i64 (i : Int))), (6, .r (.int .i64 (j : Int)))], ⟨2, [(0, some (.plain (nmsC M))), (1, some (.mixed [.r (.int .i64 acc)]))], false⟩)
def prdS_0 (acc : Int) (L : List NmV) : Nat × Nat × List NmV → Prop := fun ⟨i, j, M⟩ => i < j ∧ j ≤ L.length ∧ M.length = L.length ∧ M.take i = keepL acc (L.take j) ∧ M.drop j = L.drop j
theorem w_DelS (acc : Int) (L : List NmV) (hL : L.length ≤ 140737488355328) (i0 : Nat) (hi : idxD acc L 0 = (i0 : Int)) (hl0 : i0 < L.length) (hk0 : keepL acc (L.take (i0 + 1)) = L.take i0) : Spec Try.prog 43 [.sl 0 0 L.length 2, .func 44 [.ptr 1 0]] (hD acc L) (fun v h' => v = .sl 0 0 (keepL acc L).length 2 ∧ h' = hD acc (keepL acc L)) := by
  have hI := w_IdxD acc L hL
  rw [hi] at hI
  refine spec_of_go (N := 42) Try.func43 rfl (by decide) rfl rfl ?_
  refine zB ?_
  refine pA ?_
  refine zC ?_
  iterate 2 refine pA ?_
  refine ar_qd rfl (qop_objR [0, 1] (hI) (by rintro _ _ ⟨rfl, rfl⟩; exact ⟨rfl, rfl⟩) rfl rfl (handed_of rfl rfl (by decide) ⟨rfl, rfl, rfl, rfl, rfl, rfl, trivial⟩) rfl rfl) rfl rfl rfl rfl ?_
  refine pA ?_
  refine zA ?_
  refine zB ?_
  iterate 2 refine pA ?_
  refine ar_nil ?_
  refine ag_false rfl (decide_eq_false (by omega)) ?_
  refine ag_skip ?_
  refine ag_seq ?_
  refine zB ?_
  refine pA ?_
  refine ar_pure tOk rfl rfl rfl ?_ ?_
  · unfold inI64; omega
  refine pA ?_
  refine ar_nil ?_
  refine ag_block ?_
  refine ag_loopS (stdS_0 acc L) (prdS_0 acc L) (fun ⟨i, j, M⟩ => L.length - j) (i0, i0 + 1, L) (ent_weak [0, 1] rfl rfl rfl rfl ?_ ?_ rfl) (show prdS_0 acc L (i0, i0 + 1, L) from ?_) ?_
  · exact ⟨⟨rfl, rfl⟩, ⟨rfl, rfl⟩, ⟨rfl, rfl⟩, ⟨rfl, by exact eqI (by omega)⟩, trivial⟩
  · exact ⟨⟨rfl, rfl, rfl⟩, ⟨rfl, rfl, rfl⟩, trivial⟩
  · exact ⟨by omega, by omega, rfl, hk0.symm, rfl⟩
  rintro ⟨i, j, M⟩ hp hrec
  obtain ⟨hij, hjl, hml, ht, hd⟩ : _ := hp
  refine ag_seq ?_
  refine zB ?_
  iterate 4 refine pA ?_
  refine ar_nil ?_
  refine ag_if rfl ?_ ?_
  · intro h19
    obtain ⟨e, hx⟩ : ∃ e, M[j]? = some e := ⟨M[j]'(by omega), by simp⟩
    refine ag_skip ?_
    refine ag_seq ?_
    refine ag_block ?_
    refine zB ?_
    iterate 2 refine pA ?_
    refine ar_pure tOk rfl rfl rfl ?_ ?_
    · refine ⟨?_, ?_⟩ <;> omega
    refine ar_loadAs tOk (nmA e) rfl rfl rfl rfl rfl rfl rfl (.inr ⟨rfl, _, rfl, by rw [addo_eq, mulz_eq, Int.toNat_natCast, Nat.zero_add]; exact nmsC_get hx, rfl⟩) ?_
    refine ar_new tOk rfl rfl rfl ?_ ?_
    · simp
    refine ar_store (h' := ⟨3, [(2, some (.mixed ((nmC e).map .r))), (2, some (.mixed ((nmC ⟨0, none⟩).map .r))), (0, some (.plain (nmsC M))), (1, some (.mixed [.r (.int .i64 acc)]))], false⟩) (c := True) tOk (by kernel_rfl) rfl rfl trivial ?_
    refine zC ?_
    refine pA ?_
    refine pB ?_
    refine ar_qd rfl (qop_objR [1] (w_clD acc e) (by rintro _ _ ⟨rfl, rfl⟩; exact ⟨rfl, rfl⟩) rfl rfl (handed_of rfl rfl (by decide) ⟨rfl, rfl, rfl, trivial⟩) rfl rfl) rfl rfl rfl rfl ?_
    refine pA ?_
    refine ar_nil ?_
    refine ag_cond rfl ?_ ?_
    · intro h29
      have h29 : delP acc e = false := by cases q : delP acc e <;> simp_all
      refine zB ?_
      iterate 2 refine pA ?_
      refine pB ?_
      refine ar_pure tOk rfl rfl rfl ?_ ?_
      · refine ⟨?_, ?_⟩ <;> omega
      refine ar_storeP (rs := nmC e) tOk rfl rfl rfl rfl (by kernel_rfl) rfl rfl (by show 2 ≤ 2; decide) rfl rfl (by rw [addo_eq, mulz_eq, Int.toNat_natCast, CSd_len]; have := Nat.mul_le_mul_right 2 (show i + 1 ≤ M.length by omega); rw [Nat.succ_mul] at this; show 0 + i * 2 + 2 ≤ _; omega) ?_
      refine ar_nil ?_
      refine ag_reg ?_
      refine pA ?_
      refine ar_pure tOk rfl rfl rfl ?_ ?_
      · unfold inI64; omega
      refine pA ?_
      refine ar_nil ?_
      refine ag_inBlock ?_
      refine ag_reg ?_
      refine pA ?_
      refine ar_pure tOk rfl rfl rfl ?_ ?_
      · unfold inI64; omega
      refine pA ?_
      refine ar_nil ?_
      refine ag_ent (ent_weak (g' := (stdS_0 acc L (i + 1, j + 1, M.set i e)).1) (h' := (stdS_0 acc L (i + 1, j + 1, M.set i e)).2) [0, 1] rfl rfl rfl rfl ?_ ?_ rfl) ?_
      · exact ⟨⟨rfl, rfl⟩, ⟨rfl, rfl⟩, ⟨rfl, by exact eqI (by omega)⟩, ⟨rfl, by exact eqI (by omega)⟩, trivial⟩
      · exact ⟨⟨rfl, rfl, by exact eqPl (CSd_sets e (by omega))⟩, ⟨rfl, rfl, rfl⟩, trivial⟩
      have hnx := hrec (i + 1, j + 1, M.set i e)
      refine hnx ?_ ?_
      · obtain ⟨k1, k2, k3⟩ := keep_step hij hml ht hd hx (by rw [h29]; decide)
        exact ⟨by omega, by omega, k1, k2, k3⟩
      · show L.length - (j + 1) < L.length - j; omega
    · intro h29
      have h29 : delP acc e = true := by cases q : delP acc e <;> simp_all
      refine ag_skip ?_
      refine ag_inBlock ?_
      refine ag_reg ?_
      refine pA ?_
      refine ar_pure tOk rfl rfl rfl ?_ ?_
      · unfold inI64; omega
      refine pA ?_
      refine ar_nil ?_
      refine ag_ent (ent_weak (g' := (stdS_0 acc L (i, j + 1, M)).1) (h' := (stdS_0 acc L (i, j + 1, M)).2) [0, 1] rfl rfl rfl rfl ?_ ?_ rfl) ?_
      · exact ⟨⟨rfl, rfl⟩, ⟨rfl, rfl⟩, ⟨rfl, rfl⟩, ⟨rfl, by exact eqI (by omega)⟩, trivial⟩
      · exact ⟨⟨rfl, rfl, rfl⟩, ⟨rfl, rfl, rfl⟩, trivial⟩
      have hnx := hrec (i, j + 1, M)
      refine hnx ?_ ?_
      · obtain ⟨k2, k3⟩ := drop_step ht hd hx h29
        exact ⟨by omega, by omega, hml, k2, k3⟩
      · show L.length - (j + 1) < L.length - j; omega
  · intro h19
    obtain rfl : j = L.length := by omega
    rw [List.take_length] at ht
    have hkl : i = (keepL acc L).length := by rw [← ht, List.length_take]; omega
    refine ag_exit rfl ?_
    refine zB ?_
    iterate 2 refine pA ?_
    refine ar_pure tOk rfl rfl rfl ?_ ?_
    · refine ⟨⟨?_, ?_⟩, ?_, ?_⟩ <;> first | trivial | omega
    refine ar_clear tOk rfl rfl rfl (by exact ⟨by simp, rfl⟩) ?_
    refine zC ?_
    iterate 2 refine pA ?_
    refine ar_pure tOk rfl rfl rfl ?_ ?_
    · refine ⟨?_, ?_⟩ <;> omega
    refine pA ?_
    refine ar_nil ?_
    refine ag_ent (ent_weak (g' := [(4, .sl 0 0 (keepL acc L).length 2)]) (h' := hD acc (keepL acc L)) [0, 1] rfl rfl rfl rfl ?_ ?_ rfl) ?_
    · exact ⟨⟨rfl, eqSl (by show _ = ((i : Int)).toNat; omega)⟩, trivial⟩
    · exact ⟨⟨rfl, rfl, eqPl (by rw [addo_eq, mulz_eq, Int.toNat_natCast, Nat.zero_add, CSd_take, ht])⟩, ⟨rfl, rfl, rfl⟩, trivial⟩
    refine ag_ret tOk Try.func43 rfl rfl (by simp) ?_
    exact ⟨rfl, rfl⟩
theorem w_Del (acc : Int) (L : List NmV) (hL : L.length ≤ 140737488355328) : Spec Try.prog 43 [.sl 0 0 L.length 2, .func 44 [.ptr 1 0]] (hD acc L) (fun v h' => v = .sl 0 0 (keepL acc L).length 2 ∧ h' = hD acc (keepL acc L)) := by
  rcases idxD_cases acc L 0 with ⟨h1, h2⟩ | ⟨i, h1, h2, h3⟩
  · rw [h2]; exact w_DelN acc L hL h1
  · exact w_DelS acc L hL i (by omega) h2 h3
def okS (e : NmV) : Prop := ∃ x, e.d = some x ∧ x.length ≤ 140737488355328
theorem okS.ok {e : NmV} (h : okS e) : e.ok := by
  obtain ⟨x, hx, hl⟩ := h
  intro b hb
  rw [hx] at hb; cases hb; exact hl
theorem okS.own {e : NmV} (h : okS e) : ownM e = e := by
  obtain ⟨x, hx, _⟩ := h
  obtain ⟨to, d⟩ := e
  simp only at hx
  subst hx; rfl
end Go.Proofs.Ytopfpkmdkcjjlaa


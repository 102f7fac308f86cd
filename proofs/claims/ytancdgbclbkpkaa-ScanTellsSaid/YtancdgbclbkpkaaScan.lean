/-
  WALKS: what events tell (scan). (Printed by gen.py out of w_scan.py.)
-/
import Derived.Test.YtancdgbclbkpkaaDeal3
import Derived.Test.YtancdgbclbkpkaaTxs
import Derived.Test.YtancdgbclbkpkaaMB
namespace Go.Proofs.Ytancdgbclbkpkaa
open Go
set_option maxRecDepth 20000
set_option linter.unusedVariables false
set_option linter.unusedSimpArgs false
structure EvV where
  t : Int
  c : Int
  x : TxV
def evC (e : EvV) : List RVal := .int .i64 e.t :: .int .i64 e.c :: txC e.x
def eventA (e : EvV) : AVal := .agg ((evC e).map .r)
def ev0 : EvV := ⟨0, 0, tx0⟩
def evsC (L : List EvV) : List RVal := L.flatMap evC
def roE (L : List EvV) : AVal := .r (.ro L.length (evsC L))
def txsC (L : List TxV) : List RVal := L.flatMap txC
def roT (L : List TxV) : AVal := .r (.ro L.length (txsC L))
def isV (key : List UInt8) (kind : Int) (e : EvV) : Bool := decide (key ≠ [] ∧ e.c = 0 ∧ e.x.k = kind ∧ keyL e.x.inv = key)
def kk (key : List UInt8) (kind : Int) : Hp := ⟨2, [(0, some (.mixed [.r (.str key)])), (1, some (.mixed [.r (.int .i64 kind)]))], false⟩
theorem evC_len (e : EvV) : (evC e).length = 27 := rfl
theorem evsC_get : ∀ {L : List EvV} {i : Nat} {e : EvV}, L[i]? = some e → (((Body.plain (evsC L)).cells.drop (i * 27)).take 27) = (evC e).map .r
  | [], i, e, h => by simp at h
  | o :: L, 0, e, h => by
    simp at h
    subst h
    simp only [evsC, Body.cells, List.flatMap_cons, List.map_append, Nat.zero_mul, List.drop_zero]
    rw [List.take_append_of_le_length (by simp [evC_len]), List.take_of_length_le (by simp [evC_len])]
  | o :: L, i + 1, e, h => by
    have := evsC_get (L := L) (i := i) (by simpa using h)
    rw [← this]
    simp only [evsC, Body.cells, List.flatMap_cons, List.map_append]
    rw [Nat.succ_mul, Nat.add_comm (i * 27) 27, ← List.drop_drop, List.drop_append_of_le_length (by simp [evC_len]), List.drop_of_length_le (l := (evC o).map AVal.r) (by simp [evC_len]), List.nil_append]
theorem evsC_ne {L : List EvV} {i : Nat} {e : EvV} (h : L[i]? = some e) : evsC L ≠ [] := by
  cases L with
  | nil => simp at h
  | cons a l => simp [evsC, evC]
/-- The first place. -/
def idxV (p : EvV → Bool) : List EvV → Int → Int
  | [], _ => -1
  | e :: L, i => if p e then i else idxV p L (i + 1)
theorem idxV_at {p : EvV → Bool} {L : List EvV} {i : Nat} {e : EvV} (h : L[i]? = some e) (k : Int) : idxV p (L.drop i) k = if p e then k else idxV p (L.drop (i + 1)) (k + 1) := by
  obtain ⟨hlt, he⟩ := List.getElem?_eq_some_iff.1 h
  rw [List.drop_eq_getElem_cons hlt, he]
  rfl
theorem idxV_cases (p : EvV → Bool) : ∀ (L : List EvV) (k : Int), (idxV p L k = -1 ∧ L.find? p = none) ∨ ∃ (i : Nat) (e : EvV), idxV p L k = k + i ∧ L[i]? = some e ∧ L.find? p = some e
  | [], k => .inl ⟨rfl, rfl⟩
  | e :: L, k => by
    by_cases h : p e = true
    · exact .inr ⟨0, e, by rw [idxV, if_pos h]; simp, rfl, by rw [List.find?_cons, h]⟩
    · rcases idxV_cases p L (k + 1) with ⟨h1, h2⟩ | ⟨i, f, h1, h2, h3⟩
      · exact .inl ⟨by rw [idxV, if_neg h, h1], by rw [List.find?_cons]; simp [h, h2]⟩
      · exact .inr ⟨i + 1, f, by rw [idxV, if_neg h, h1]; push_cast; omega, by simpa using h2, by rw [List.find?_cons]; simp [h, h3]⟩
def fstV (L : List EvV) (key : List UInt8) (kind : Int) : Option EvV := L.find? (isV key kind)
theorem w_is (e : EvV) (he : e.x.ok) (key : List UInt8) (kind : Int) : Pur Try.prog 54 [eventA e, .r (.str key), .r (.int .i64 kind)] (.r (.bool (isV key kind e))) := by
  refine spec_of_go (N := 29) Try.func54 rfl (by decide) rfl rfl ?_
  refine zB ?_
  refine ar_new tOk rfl rfl rfl trivial ?_
  refine pA ?_
  refine zC ?_
  iterate 3 refine pA ?_
  refine ar_guard (t := decide (key ≠ [])) (fun ht => ?_) (fun ht => ?_)
  · refine ar_ent (ent_reg 9 (.r (.bool true)) (by show AVal.r (.bool _) = _; exact eqB ht)) ?_
    have hk0 := of_decide_eq_true ht
    refine pA ?_
    refine pB ?_
    iterate 3 refine pA ?_
    refine ar_guard (t := decide (e.c = 0)) (fun ht => ?_) (fun ht => ?_)
    · refine ar_ent (ent_reg 14 (.r (.bool true)) (by show AVal.r (.bool _) = _; exact eqB ht)) ?_
      have hk1 := of_decide_eq_true ht
      iterate 2 refine pA ?_
      refine pB ?_
      iterate 4 refine pA ?_
      refine ar_guard (t := decide (e.x.k = kind)) (fun ht => ?_) (fun ht => ?_)
      · refine ar_ent (ent_reg 21 (.r (.bool true)) (by show AVal.r (.bool _) = _; exact eqB ht)) ?_
        have hk2 := of_decide_eq_true ht
        iterate 2 refine pA ?_
        refine pB ?_
        refine ar_pur (w_dKey e.x.inv he.inv) rfl rfl rfl rfl rfl rfl rfl ?_
        iterate 4 refine pA ?_
        refine ar_nil ?_
        refine ag_ret tOk Try.func54 rfl rfl (by simp) ?_
        exact eqB (by simp [isV, hk0, hk1, hk2])
      · refine ar_ent (ent_reg 21 (.r (.bool false)) (by show AVal.r (.bool _) = _; exact eqB ht)) ?_
        have hk := of_decide_eq_false ht
        repeat (first | refine ar_skip rfl rfl rfl ?_ | refine ar_pure tOk rfl rfl rfl trivial ?_)
        refine ar_nil ?_
        refine ag_ret tOk Try.func54 rfl rfl (by simp) ?_
        exact eqB (decide_eq_false (by intro q; exact hk q.2.2.1)).symm
    · refine ar_ent (ent_reg 14 (.r (.bool false)) (by show AVal.r (.bool _) = _; exact eqB ht)) ?_
      have hk := of_decide_eq_false ht
      repeat (first | refine ar_skip rfl rfl rfl ?_ | refine ar_pure tOk rfl rfl rfl trivial ?_)
      refine ar_nil ?_
      refine ag_ret tOk Try.func54 rfl rfl (by simp) ?_
      exact eqB (decide_eq_false (by intro q; exact hk q.2.1)).symm
  · refine ar_ent (ent_reg 9 (.r (.bool false)) (by show AVal.r (.bool _) = _; exact eqB ht)) ?_
    have hk := of_decide_eq_false ht
    repeat (first | refine ar_skip rfl rfl rfl ?_ | refine ar_pure tOk rfl rfl rfl trivial ?_)
    refine ar_nil ?_
    refine ag_ret tOk Try.func54 rfl rfl (by simp) ?_
    exact eqB (decide_eq_false (by intro q; exact hk q.1)).symm
theorem w_first1 (e : EvV) (he : e.x.ok) (key : List UInt8) (kind : Int) : Spec Try.prog 53 [eventA e, .ptr 0 0, .ptr 1 0] (kk key kind) (fun v h' => v = .r (.bool (isV key kind e)) ∧ h' = kk key kind) := by
  refine spec_of_go (N := 9) Try.func53 rfl (by decide) rfl rfl ?_
  refine zB ?_
  refine ar_new tOk rfl rfl rfl trivial ?_
  refine pA ?_
  refine zC ?_
  iterate 3 refine pB ?_
  refine ar_pur (w_is e he key kind) rfl rfl rfl rfl rfl rfl rfl ?_
  refine pA ?_
  refine ar_nil ?_
  refine ag_ent (ent_weak (g' := [(4, .r (.bool (isV key kind e)))]) (h' := kk key kind) [0, 1] rfl rfl rfl rfl ?_ ?_ rfl) ?_
  · exact ⟨⟨rfl, rfl⟩, trivial⟩
  · exact ⟨⟨rfl, rfl, rfl⟩, ⟨rfl, rfl, rfl⟩, trivial⟩
  refine ag_ret tOk Try.func53 rfl rfl (by simp) ?_
  exact ⟨rfl, rfl⟩
def stsIx_0 (L : List EvV) (key : List UInt8) (kind : Int) : Nat → Regs × Hp := fun i => ([(0, roE L), (1, .func 53 [.ptr 0 0, .ptr 1 0]), (7, .r (.int .i64 (L.length : Int))), (8, .r (.int .i64 (i : Int)))], kk key kind)
def prsIx_0 (L : List EvV) (key : List UInt8) (kind : Int) : Nat → Prop := fun i => idxV (isV key kind) (L.drop i) (i : Int) = idxV (isV key kind) L 0
theorem w_IdxE (L : List EvV) (hok : ∀ e ∈ L, e.x.ok) (hL : L.length ≤ 9223372036854775807) (key : List UInt8) (kind : Int) : Spec Try.prog 52 [roE L, .func 53 [.ptr 0 0, .ptr 1 0]] (kk key kind) (fun v h' => v = .r (.int .i64 (idxV (isV key kind) L 0)) ∧ h' = kk key kind) := by
  refine spec_of_go (N := 19) Try.func52 rfl (by decide) rfl rfl ?_
  refine zB ?_
  refine pA ?_
  refine zA ?_
  refine zB ?_
  iterate 3 refine pA ?_
  refine ar_nil ?_
  refine ag_block ?_
  refine ag_loopS (stsIx_0 L key kind) (prsIx_0 L key kind) (fun (i : Nat) => L.length - i) 0 (ent_weak [0, 1] rfl rfl rfl rfl ?_ ?_ rfl) (show prsIx_0 L key kind 0 from ?_) ?_
  · exact ⟨⟨rfl, rfl⟩, ⟨rfl, rfl⟩, ⟨rfl, rfl⟩, ⟨rfl, rfl⟩, trivial⟩
  · exact ⟨⟨rfl, rfl, rfl⟩, ⟨rfl, rfl, rfl⟩, trivial⟩
  · exact rfl
  rintro i hi hrec
  have hi : idxV (isV key kind) (L.drop i) (i : Int) = idxV (isV key kind) L 0 := hi
  refine zB ?_
  refine pA ?_
  refine zA ?_
  refine ag_if rfl ?_ ?_
  · intro h9
    obtain ⟨e, hx⟩ : ∃ e, L[i]? = some e := ⟨L[i]'(by omega), by simp⟩
    have hex := hok e (List.mem_of_getElem? hx)
    refine ag_skip ?_
    refine ag_seq ?_
    refine ag_block ?_
    refine zB ?_
    iterate 2 refine pA ?_
    refine zC ?_
    iterate 3 refine pA ?_
    refine ar_pure tOk rfl rfl rfl ?_ ?_
    · refine ⟨?_, ?_⟩ <;> first | omega | exact evsC_ne hx | (refine ⟨?_, ?_⟩ <;> omega)
    refine ar_loadAs tOk (eventA e) rfl rfl rfl rfl rfl rfl rfl (.inr ⟨rfl, _, rfl, by rw [mulz_eq, Int.toNat_natCast]; exact evsC_get hx, rfl⟩) ?_
    refine ar_qd rfl (qop_objR [0, 1] (w_first1 e hex key kind) (by rintro _ _ ⟨rfl, rfl⟩; exact ⟨rfl, rfl⟩) rfl rfl (handed_of rfl rfl (by decide) ⟨rfl, rfl, rfl, rfl, rfl, rfl, trivial⟩) rfl rfl) rfl rfl rfl rfl ?_
    refine ar_nil ?_
    refine ag_if rfl ?_ ?_
    · intro h16
      have hi2 := hi
      rw [idxV_at hx, if_pos (show isV key kind e = true from decide_eq_true h16)] at hi2
      refine zB ?_
      iterate 2 refine pA ?_
      refine ar_nil ?_
      refine ag_ret tOk Try.func52 rfl rfl (by simp) ?_
      refine ⟨?_, rfl⟩
      exact eqI hi2
    · intro h16
      rw [idxV_at hx, if_neg (show ¬ isV key kind e = true from fun q => h16 (of_decide_eq_true q))] at hi
      refine ag_skip ?_
      refine ag_inBlock ?_
      refine ag_reg ?_
      refine ar_pure tOk rfl rfl rfl ?_ ?_
      · unfold inI64; omega
      refine pA ?_
      refine ar_nil ?_
      refine ag_ent (ent_weak (g' := (stsIx_0 L key kind (i + 1)).1) (h' := (stsIx_0 L key kind (i + 1)).2) [0, 1] rfl rfl rfl rfl ?_ ?_ rfl) ?_
      · exact ⟨⟨rfl, rfl⟩, ⟨rfl, rfl⟩, ⟨rfl, rfl⟩, ⟨rfl, by exact eqI (by omega)⟩, trivial⟩
      · exact ⟨⟨rfl, rfl, rfl⟩, ⟨rfl, rfl, rfl⟩, trivial⟩
      have hnx := hrec (i + 1)
      refine hnx ?_ ?_
      · show idxV _ _ _ = _; push_cast; exact hi
      · show L.length - (i + 1) < L.length - i; omega
  · intro h9
    rw [List.drop_eq_nil_of_le (by omega)] at hi
    refine ag_exit rfl ?_
    refine zB ?_
    refine pA ?_
    refine ar_nil ?_
    refine ag_ret tOk Try.func52 rfl rfl (by simp) ?_
    refine ⟨?_, rfl⟩
    exact eqI hi
theorem w_firstN (L : List EvV) (hok : ∀ e ∈ L, e.x.ok) (hL : L.length ≤ 9223372036854775807) (key : List UInt8) (kind : Int) (hi : idxV (isV key kind) L 0 = -1) : Pur Try.prog 28 [roE L, .r (.str key), .r (.int .i64 kind)] (.tuple [eventA ev0, .r (.bool false)]) := by
  have hI := w_IdxE L hok hL key kind
  rw [hi] at hI
  refine spec_of_go (N := 19) Try.func28 rfl (by decide) rfl rfl ?_
  refine zB ?_
  iterate 2 refine ar_new tOk rfl rfl rfl trivial ?_
  refine ar_new tOk rfl rfl rfl ?_ ?_
  · simp
  refine pA ?_
  refine zC ?_
  iterate 2 refine pA ?_
  refine ar_qd rfl (qop_objR [0, 1] (hI) (by rintro _ _ ⟨rfl, rfl⟩; exact ⟨rfl, rfl⟩) rfl rfl (handed_of rfl rfl (by decide) ⟨rfl, rfl, rfl, rfl, rfl, rfl, trivial⟩) rfl rfl) rfl rfl rfl rfl ?_
  refine pA ?_
  refine zA ?_
  refine zB ?_
  iterate 2 refine pA ?_
  refine ar_nil ?_
  refine ag_true rfl (by decide) ?_
  refine zB ?_
  refine ar_pure tOk rfl rfl rfl ?_ ?_
  · simp
  refine ar_store (h' := ⟨3, [(2, some (.mixed ((evC ev0).map .r))), (2, some (.mixed ((evC ev0).map .r))), (1, some (.mixed [.r (.int .i64 kind)])), (0, some (.mixed [.r (.str key)]))], false⟩) (c := True) tOk (by kernel_rfl) rfl rfl trivial ?_
  refine pA ?_
  refine ar_nil ?_
  refine ag_ret tOk Try.func28 rfl rfl (by first | trivial | exact ⟨trivial, trivial⟩ | simp) ?_
  rfl
theorem w_firstS (L : List EvV) (hok : ∀ e ∈ L, e.x.ok) (hL : L.length ≤ 9223372036854775807) (key : List UInt8) (kind : Int) (i : Nat) (e : EvV) (hi : idxV (isV key kind) L 0 = (i : Int)) (hx : L[i]? = some e) : Pur Try.prog 28 [roE L, .r (.str key), .r (.int .i64 kind)] (.tuple [eventA e, .r (.bool true)]) := by
  have hI := w_IdxE L hok hL key kind
  rw [hi] at hI
  have hlt := (List.getElem?_eq_some_iff.1 hx).1
  refine spec_of_go (N := 19) Try.func28 rfl (by decide) rfl rfl ?_
  refine zB ?_
  iterate 2 refine ar_new tOk rfl rfl rfl trivial ?_
  refine ar_new tOk rfl rfl rfl ?_ ?_
  · simp
  refine pA ?_
  refine zC ?_
  iterate 2 refine pA ?_
  refine ar_qd rfl (qop_objR [0, 1] (hI) (by rintro _ _ ⟨rfl, rfl⟩; exact ⟨rfl, rfl⟩) rfl rfl (handed_of rfl rfl (by decide) ⟨rfl, rfl, rfl, rfl, rfl, rfl, trivial⟩) rfl rfl) rfl rfl rfl rfl ?_
  refine pA ?_
  refine zA ?_
  refine zB ?_
  iterate 2 refine pA ?_
  refine ar_nil ?_
  refine ag_false rfl (by first | (simp; done) | (simp; omega)) ?_
  refine ag_skip ?_
  refine zB ?_
  iterate 2 refine pA ?_
  refine ar_pure tOk rfl rfl rfl ?_ ?_
  · refine ⟨?_, ?_⟩ <;> first | omega | exact evsC_ne hx | (refine ⟨?_, ?_⟩ <;> omega)
  refine ar_loadAs tOk (eventA e) rfl rfl rfl rfl rfl rfl rfl (.inr ⟨rfl, _, rfl, by rw [mulz_eq, Int.toNat_natCast]; exact evsC_get hx, rfl⟩) ?_
  refine ar_store (h' := ⟨3, [(2, some (.mixed ((evC e).map .r))), (2, some (.mixed ((evC ev0).map .r))), (1, some (.mixed [.r (.int .i64 kind)])), (0, some (.mixed [.r (.str key)]))], false⟩) (c := True) tOk (by kernel_rfl) rfl rfl trivial ?_
  refine pA ?_
  refine ar_nil ?_
  refine ag_ret tOk Try.func28 rfl rfl (by first | trivial | exact ⟨trivial, trivial⟩ | simp) ?_
  rfl
theorem w_first (L : List EvV) (hok : ∀ e ∈ L, e.x.ok) (hL : L.length ≤ 9223372036854775807) (key : List UInt8) (kind : Int) : Pur Try.prog 28 [roE L, .r (.str key), .r (.int .i64 kind)] (.tuple [eventA ((fstV L key kind).getD ev0), .r (.bool (fstV L key kind).isSome)]) := by
  rcases idxV_cases (isV key kind) L 0 with ⟨h1, h2⟩ | ⟨i, e, h1, h2, h3⟩
  · rw [fstV, h2]; exact w_firstN L hok hL key kind h1
  · rw [fstV, h3]; exact w_firstS L hok hL key kind i e (by omega) h2
theorem w_Fulfilled (L : List EvV) (hok : ∀ e ∈ L, e.x.ok) (hL : L.length ≤ 9223372036854775807) (key : List UInt8) : Pur Try.prog 11 [roE L, .r (.str key)] (.tuple [eventA ((fstV L key 5).getD ev0), .r (.bool (fstV L key 5).isSome)]) := by
  have c1 := w_first L hok hL key 5
  generalize fstV L key 5 = r at c1
  obtain ⟨e, he⟩ : ∃ e, e = r.getD ev0 := ⟨_, rfl⟩
  rw [← he] at c1 ⊢
  clear he
  refine spec_of_go (N := 11) Try.func11 rfl (by decide) rfl rfl ?_
  refine zB ?_
  refine ar_new tOk rfl rfl rfl ?_ ?_
  · simp
  refine pA ?_
  refine zC ?_
  iterate 2 refine pA ?_
  refine ar_pur (c1) rfl rfl rfl rfl rfl rfl rfl ?_
  iterate 2 refine pA ?_
  refine ar_store (h' := ⟨1, [(0, some (.mixed ((evC e).map .r))), (0, some (.mixed ((evC ev0).map .r)))], false⟩) (c := True) tOk (by kernel_rfl) rfl rfl trivial ?_
  refine pA ?_
  refine ar_nil ?_
  refine ag_ret tOk Try.func11 rfl rfl (by first | trivial | exact ⟨trivial, trivial⟩ | simp) ?_
  rfl
theorem w_Cancelled (L : List EvV) (hok : ∀ e ∈ L, e.x.ok) (hL : L.length ≤ 9223372036854775807) (key : List UInt8) : Pur Try.prog 12 [roE L, .r (.str key)] (.tuple [eventA ((fstV L key 6).getD ev0), .r (.bool (fstV L key 6).isSome)]) := by
  have c1 := w_first L hok hL key 6
  generalize fstV L key 6 = r at c1
  obtain ⟨e, he⟩ : ∃ e, e = r.getD ev0 := ⟨_, rfl⟩
  rw [← he] at c1 ⊢
  clear he
  refine spec_of_go (N := 11) Try.func12 rfl (by decide) rfl rfl ?_
  refine zB ?_
  refine ar_new tOk rfl rfl rfl ?_ ?_
  · simp
  refine pA ?_
  refine zC ?_
  iterate 2 refine pA ?_
  refine ar_pur (c1) rfl rfl rfl rfl rfl rfl rfl ?_
  iterate 2 refine pA ?_
  refine ar_store (h' := ⟨1, [(0, some (.mixed ((evC e).map .r))), (0, some (.mixed ((evC ev0).map .r)))], false⟩) (c := True) tOk (by kernel_rfl) rfl rfl trivial ?_
  refine pA ?_
  refine ar_nil ?_
  refine ag_ret tOk Try.func12 rfl rfl (by first | trivial | exact ⟨trivial, trivial⟩ | simp) ?_
  rfl
theorem w_Prepared (L : List EvV) (hok : ∀ e ∈ L, e.x.ok) (hL : L.length ≤ 9223372036854775807) (key : List UInt8) : Pur Try.prog 10 [roE L, .r (.str key)] (.tuple [txA ((fstV L key 4).getD ev0).x, .r (.bool (fstV L key 4).isSome)]) := by
  have c1 := w_first L hok hL key 4
  generalize fstV L key 4 = r at c1
  obtain ⟨e, he⟩ : ∃ e, e = r.getD ev0 := ⟨_, rfl⟩
  rw [← he] at c1 ⊢
  clear he
  refine spec_of_go (N := 17) Try.func10 rfl (by decide) rfl rfl ?_
  refine zB ?_
  refine ar_new tOk rfl rfl rfl ?_ ?_
  · simp
  refine pA ?_
  refine zC ?_
  iterate 2 refine pA ?_
  refine ar_pur (c1) rfl rfl rfl rfl rfl rfl rfl ?_
  iterate 3 refine pA ?_
  refine ar_new tOk rfl rfl rfl ?_ ?_
  · simp
  refine ar_store (h' := ⟨2, [(1, some (.mixed ((evC e).map .r))), (1, some (.mixed ((evC ev0).map .r))), (0, some (.mixed ((txC tx0).map .r)))], false⟩) (c := True) tOk (by kernel_rfl) rfl rfl trivial ?_
  refine pA ?_
  refine zC ?_
  refine pA ?_
  refine pB ?_
  refine pA ?_
  refine ar_store (h' := ⟨2, [(0, some (.mixed ((txC e.x).map .r))), (1, some (.mixed ((evC e).map .r))), (1, some (.mixed ((evC ev0).map .r))), (0, some (.mixed ((txC tx0).map .r)))], false⟩) (c := True) tOk (by kernel_rfl) rfl rfl trivial ?_
  refine pA ?_
  refine ar_nil ?_
  refine ag_ret tOk Try.func10 rfl rfl (by first | trivial | exact ⟨trivial, trivial⟩ | simp) ?_
  rfl
def dealV (e : EvV) : Bool := decide (e.c = 0 ∧ e.x.k = 4)
def dealsL (L : List EvV) : List TxV := (L.filter dealV).map (·.x)
theorem deals_next {L : List EvV} {i : Nat} {e : EvV} (h : L[i]? = some e) : dealsL (L.take (i + 1)) = dealsL (L.take i) ++ (if dealV e then [e.x] else []) := by
  rw [List.take_add_one, h, dealsL, List.filter_append, List.map_append]
  by_cases q : dealV e = true <;> simp [dealsL, q]
theorem deals_len (L : List EvV) : (dealsL L).length ≤ L.length := by unfold dealsL; rw [List.length_map]; exact List.length_filter_le _ _
def lastL (L : List EvV) : Int := L.foldl (fun n e => max n e.t) (-1)
theorem last_next {L : List EvV} {i : Nat} {e : EvV} (h : L[i]? = some e) : lastL (L.take (i + 1)) = max (lastL (L.take i)) e.t := by
  rw [List.take_add_one, h, lastL, List.foldl_append]; rfl
def aT (n : Nat) : List TxV → AVal
  | [] => .r .nil
  | _ :: r => .sl 0 0 (r.length + 1) 25
def hT (l : List TxV) : Hp := match l with
  | [] => ⟨0, [], false⟩
  | x :: r => ⟨1, [(0, some (.plain (txsC (x :: r))))], false⟩
theorem txsC_app (A B : List TxV) : txsC (A ++ B) = txsC A ++ txsC B := by simp [txsC]
theorem txsC_len (L : List TxV) : (txsC L).length = L.length * 25 := by
  induction L with
  | nil => rfl
  | cons x l ih => simp only [txsC, List.flatMap_cons, List.length_append, List.length_cons] at *; rw [ih]; simp [txC]; omega
theorem txsC_nx (a : TxV) (l : List TxV) (x : TxV) : cutA (txsC (a :: l)) 0 ((l.length + 1) * 25) ++ txC x = txsC (a :: l ++ [x]) := by
  rw [txsC_app, cutA_eq, List.drop_zero, List.take_of_length_le (by rw [txsC_len]; exact Nat.le_refl _)]
  simp [txsC]
def stsDl_0 (L : List EvV) : Nat × List TxV → Regs × Hp := fun ⟨i, acc⟩ => ([(6, roE L), (7, .r (.int .i64 (L.length : Int))), (8, .r (.int .i64 (i : Int))), (3, aT 0 acc)], hT acc)
def prsDl_0 (L : List EvV) : Nat × List TxV → Prop := fun ⟨i, acc⟩ => i ≤ L.length ∧ acc = dealsL (L.take i)
theorem w_Deals (L : List EvV) (hL : L.length * 240 ≤ 140737488355328) : Pur Try.prog 14 [roE L] (roT (dealsL L)) := by
  refine spec_of_go (N := 28) Try.func14 rfl (by decide) rfl rfl ?_
  refine zB ?_
  refine pA ?_
  refine zC ?_
  refine pA ?_
  refine zA ?_
  refine zB ?_
  iterate 3 refine pA ?_
  refine ar_nil ?_
  refine ag_block ?_
  refine ag_loopS (stsDl_0 L) (prsDl_0 L) (fun ⟨i, acc⟩ => L.length - i) (0, []) (ent_weak [] rfl rfl rfl rfl ?_ ?_ rfl) (show prsDl_0 L (0, []) from ?_) ?_
  · exact ⟨⟨rfl, rfl⟩, ⟨rfl, rfl⟩, ⟨rfl, rfl⟩, ⟨rfl, rfl⟩, trivial⟩
  · trivial
  · exact ⟨Nat.zero_le _, rfl⟩
  rintro ⟨i, acc⟩ hp hrec
  cases acc with
  | nil =>
    obtain ⟨hi, hacc⟩ : _ := hp
    refine ag_ent (ent_weak (g' := [(6, roE L), (7, .r (.int .i64 (L.length : Int))), (8, .r (.int .i64 (i : Int))), (3, .r .nil)]) (h' := ⟨0, [], false⟩) [] rfl rfl rfl rfl ?_ ?_ rfl) ?_
    · exact ⟨⟨rfl, rfl⟩, ⟨rfl, rfl⟩, ⟨rfl, rfl⟩, ⟨rfl, rfl⟩, trivial⟩
    · trivial
    refine zB ?_
    refine pA ?_
    refine zA ?_
    refine ag_if rfl ?_ ?_
    · intro h9
      obtain ⟨e, hx⟩ : ∃ e, L[i]? = some e := ⟨L[i]'(by omega), by simp⟩
      have hdl := deals_len (L.take i)
      rw [← hacc, List.length_take] at hdl
      simp only [List.length_cons, List.length_nil] at hdl
      
      refine ag_skip ?_
      refine ag_seq ?_
      refine ag_block ?_
      refine zB ?_
      refine ar_pure tOk rfl rfl rfl ?_ ?_
      · refine ⟨?_, ?_⟩ <;> first | omega | exact evsC_ne hx | (refine ⟨?_, ?_⟩ <;> omega)
      refine ar_loadAs tOk (eventA e) rfl rfl rfl rfl rfl rfl rfl (.inr ⟨rfl, _, rfl, by rw [mulz_eq, Int.toNat_natCast]; exact evsC_get hx, rfl⟩) ?_
      refine ar_new tOk rfl rfl rfl ?_ ?_
      · simp
      refine ar_store (h' := ⟨1, [(0, some (.mixed ((evC e).map .r))), (0, some (.mixed ((evC ev0).map .r)))], false⟩) (c := True) tOk (by kernel_rfl) rfl rfl trivial ?_
      refine zC ?_
      refine pA ?_
      refine pB ?_
      iterate 2 refine pA ?_
      refine ar_guard (t := decide (e.c = 0)) (fun ht => ?_) (fun ht => ?_)
      · refine ar_ent (ent_reg 15 (.r (.bool true)) (by show AVal.r (.bool _) = _; rw [ht])) ?_
        have hc0 := of_decide_eq_true ht
        iterate 2 refine pA ?_
        refine pB ?_
        iterate 2 refine pA ?_
        refine ar_nil ?_
        refine ag_cond rfl ?_ ?_
        · intro h20
          have hdv : dealV e = true := by simpa [dealV, hc0] using h20
          refine ag_ent (ent_weak (g' := [(6, roE L), (7, .r (.int .i64 (L.length : Int))), (8, .r (.int .i64 (i : Int))), (3, .r .nil), (5, .ptr 0 0)]) (h' := ⟨1, [(0, some (.mixed ((evC e).map .r)))], false⟩) [0] rfl rfl rfl rfl ?_ ?_ rfl) ?_
          · exact ⟨⟨rfl, rfl⟩, ⟨rfl, rfl⟩, ⟨rfl, rfl⟩, ⟨rfl, rfl⟩, ⟨rfl, rfl⟩, trivial⟩
          · exact ⟨⟨rfl, rfl, rfl⟩, trivial⟩
          refine ag_reg ?_
          iterate 2 refine pA ?_
          refine pB ?_
          refine ar_qd rfl (qop_buildRoK tOk (v := .ro 1 (txC e.x)) (by kernel_rfl) (by kernel_rfl)) rfl rfl rfl rfl ?_
          refine ar_app tOk rfl rfl rfl ?_ ?_
          · refine ⟨⟨?_, ?_, ?_⟩, ⟨?_, ?_⟩, ⟨?_, ?_⟩, ?_⟩ <;> first | trivial | omega | (simp; done) | (simp; omega)
          refine pA ?_
          refine ar_nil ?_
          refine ag_inBlock ?_
          refine ag_reg ?_
          refine ar_pure tOk rfl rfl rfl ?_ ?_
          · unfold inI64; omega
          refine pA ?_
          refine ar_nil ?_
          refine ag_ent (ent_weak (g' := (stsDl_0 L (i + 1, [e.x])).1) (h' := (stsDl_0 L (i + 1, [e.x])).2) [1] rfl rfl rfl rfl ?_ ?_ rfl) ?_
          · exact ⟨⟨rfl, rfl⟩, ⟨rfl, rfl⟩, ⟨rfl, by exact eqI (by omega)⟩, ⟨rfl, rfl⟩, trivial⟩
          · exact ⟨⟨rfl, rfl, by exact eqPl (by simp [txsC, txC])⟩, trivial⟩
          have hnx := hrec (i + 1, [e.x])
          refine hnx ?_ ?_
          · exact ⟨by omega, by rw [deals_next hx, ← hacc, if_pos hdv]; try rfl⟩
          · show L.length - (i + 1) < L.length - i; omega
        · intro h20
          have hdv : ¬ dealV e = true := by simpa [dealV, hc0] using h20
          refine ag_ent (ent_weak (g' := [(6, roE L), (7, .r (.int .i64 (L.length : Int))), (8, .r (.int .i64 (i : Int))), (3, .r .nil)]) (h' := ⟨0, [], false⟩) [] rfl rfl rfl rfl ?_ ?_ rfl) ?_
          · exact ⟨⟨rfl, rfl⟩, ⟨rfl, rfl⟩, ⟨rfl, rfl⟩, ⟨rfl, rfl⟩, trivial⟩
          · trivial
          refine ag_skip ?_
          refine ag_inBlock ?_
          refine ag_reg ?_
          refine ar_pure tOk rfl rfl rfl ?_ ?_
          · unfold inI64; omega
          refine pA ?_
          refine ar_nil ?_
          refine ag_ent (ent_weak (g' := (stsDl_0 L (i + 1, [])).1) (h' := (stsDl_0 L (i + 1, [])).2) [] rfl rfl rfl rfl ?_ ?_ rfl) ?_
          · exact ⟨⟨rfl, rfl⟩, ⟨rfl, rfl⟩, ⟨rfl, by exact eqI (by omega)⟩, ⟨rfl, rfl⟩, trivial⟩
          · trivial
          have hnx := hrec (i + 1, [])
          refine hnx ?_ ?_
          · exact ⟨by omega, by rw [deals_next hx, ← hacc, if_neg hdv, List.append_nil]; try rfl⟩
          · show L.length - (i + 1) < L.length - i; omega
      · refine ar_ent (ent_reg 15 (.r (.bool false)) (by show AVal.r (.bool _) = _; rw [ht])) ?_
        have hc0 := of_decide_eq_false ht
        have hdv : ¬ dealV e = true := by simp [dealV, hc0]
        iterate 4 refine ar_skip rfl rfl rfl ?_
        refine pA ?_
        refine ar_nil ?_
        refine ag_false rfl (by rfl) ?_
        refine ag_skip ?_
        refine ag_inBlock ?_
        refine ag_reg ?_
        refine ar_pure tOk rfl rfl rfl ?_ ?_
        · unfold inI64; omega
        refine pA ?_
        refine ar_nil ?_
        refine ag_ent (ent_weak (g' := (stsDl_0 L (i + 1, [])).1) (h' := (stsDl_0 L (i + 1, [])).2) [] rfl rfl rfl rfl ?_ ?_ rfl) ?_
        · exact ⟨⟨rfl, rfl⟩, ⟨rfl, rfl⟩, ⟨rfl, by exact eqI (by omega)⟩, ⟨rfl, rfl⟩, trivial⟩
        · trivial
        have hnx := hrec (i + 1, [])
        refine hnx ?_ ?_
        · exact ⟨by omega, by rw [deals_next hx, ← hacc, if_neg hdv, List.append_nil]; try rfl⟩
        · show L.length - (i + 1) < L.length - i; omega
    · intro h9
      obtain rfl : i = L.length := by omega
      rw [List.take_length] at hacc
      refine ag_exit rfl ?_
      refine zB ?_
      iterate 2 refine pA ?_
      refine ar_nil ?_
      refine ag_ent (ent_nil 2 (.ro 0 []) rfl (.inr rfl)) ?_
      refine ag_ret tOk Try.func14 rfl rfl (by simp) ?_
      show AVal.r (.ro 0 []) = _
      rw [← hacc]; rfl
  | cons a l =>
    obtain ⟨hi, hacc⟩ : _ := hp
    refine ag_ent (ent_weak (g' := [(6, roE L), (7, .r (.int .i64 (L.length : Int))), (8, .r (.int .i64 (i : Int))), (3, .sl 0 0 (l.length + 1) 25)]) (h' := ⟨1, [(0, some (.plain (txsC (a :: l))))], false⟩) [0] rfl rfl rfl rfl ?_ ?_ rfl) ?_
    · exact ⟨⟨rfl, rfl⟩, ⟨rfl, rfl⟩, ⟨rfl, rfl⟩, ⟨rfl, rfl⟩, trivial⟩
    · exact ⟨⟨rfl, rfl, rfl⟩, trivial⟩
    refine zB ?_
    refine pA ?_
    refine zA ?_
    refine ag_if rfl ?_ ?_
    · intro h9
      obtain ⟨e, hx⟩ : ∃ e, L[i]? = some e := ⟨L[i]'(by omega), by simp⟩
      have hdl := deals_len (L.take i)
      rw [← hacc, List.length_take] at hdl
      simp only [List.length_cons, List.length_nil] at hdl
      have htl := txsC_len (a :: l)
      simp only [List.length_cons] at htl
      refine ag_skip ?_
      refine ag_seq ?_
      refine ag_block ?_
      refine zB ?_
      refine ar_pure tOk rfl rfl rfl ?_ ?_
      · refine ⟨?_, ?_⟩ <;> first | omega | exact evsC_ne hx | (refine ⟨?_, ?_⟩ <;> omega)
      refine ar_loadAs tOk (eventA e) rfl rfl rfl rfl rfl rfl rfl (.inr ⟨rfl, _, rfl, by rw [mulz_eq, Int.toNat_natCast]; exact evsC_get hx, rfl⟩) ?_
      refine ar_new tOk rfl rfl rfl ?_ ?_
      · simp
      refine ar_store (h' := ⟨2, [(1, some (.mixed ((evC e).map .r))), (1, some (.mixed ((evC ev0).map .r))), (0, some (.plain (txsC (a :: l))))], false⟩) (c := True) tOk (by kernel_rfl) rfl rfl trivial ?_
      refine zC ?_
      refine pA ?_
      refine pB ?_
      iterate 2 refine pA ?_
      refine ar_guard (t := decide (e.c = 0)) (fun ht => ?_) (fun ht => ?_)
      · refine ar_ent (ent_reg 15 (.r (.bool true)) (by show AVal.r (.bool _) = _; rw [ht])) ?_
        have hc0 := of_decide_eq_true ht
        iterate 2 refine pA ?_
        refine pB ?_
        iterate 2 refine pA ?_
        refine ar_nil ?_
        refine ag_cond rfl ?_ ?_
        · intro h20
          have hdv : dealV e = true := by simpa [dealV, hc0] using h20
          refine ag_ent (ent_weak (g' := [(6, roE L), (7, .r (.int .i64 (L.length : Int))), (8, .r (.int .i64 (i : Int))), (3, .sl 0 0 (l.length + 1) 25), (5, .ptr 1 0)]) (h' := ⟨2, [(0, some (.plain (txsC (a :: l)))), (1, some (.mixed ((evC e).map .r)))], false⟩) [0, 1] rfl rfl rfl rfl ?_ ?_ rfl) ?_
          · exact ⟨⟨rfl, rfl⟩, ⟨rfl, rfl⟩, ⟨rfl, rfl⟩, ⟨rfl, rfl⟩, ⟨rfl, rfl⟩, trivial⟩
          · exact ⟨⟨rfl, rfl, rfl⟩, ⟨rfl, rfl, rfl⟩, trivial⟩
          refine ag_reg ?_
          iterate 2 refine pA ?_
          refine pB ?_
          refine ar_qd rfl (qop_buildRoK tOk (v := .ro 1 (txC e.x)) (by kernel_rfl) (by kernel_rfl)) rfl rfl rfl rfl ?_
          refine ar_app tOk rfl rfl rfl ?_ ?_
          · refine ⟨⟨?_, ?_, ?_⟩, ⟨?_, ?_⟩, ⟨?_, ?_⟩, ?_⟩ <;> first | trivial | omega | (simp; done) | (simp; omega)
          refine pA ?_
          refine ar_nil ?_
          refine ag_inBlock ?_
          refine ag_reg ?_
          refine ar_pure tOk rfl rfl rfl ?_ ?_
          · unfold inI64; omega
          refine pA ?_
          refine ar_nil ?_
          refine ag_ent (ent_weak (g' := (stsDl_0 L (i + 1, a :: l ++ [e.x])).1) (h' := (stsDl_0 L (i + 1, a :: l ++ [e.x])).2) [2] rfl rfl rfl rfl ?_ ?_ rfl) ?_
          · exact ⟨⟨rfl, rfl⟩, ⟨rfl, rfl⟩, ⟨rfl, by exact eqI (by omega)⟩, ⟨rfl, by exact eqSl (by simp)⟩, trivial⟩
          · exact ⟨⟨rfl, rfl, by exact eqPl (txsC_nx a l e.x)⟩, trivial⟩
          have hnx := hrec (i + 1, a :: l ++ [e.x])
          refine hnx ?_ ?_
          · exact ⟨by omega, by rw [deals_next hx, ← hacc, if_pos hdv]; try rfl⟩
          · show L.length - (i + 1) < L.length - i; omega
        · intro h20
          have hdv : ¬ dealV e = true := by simpa [dealV, hc0] using h20
          refine ag_ent (ent_weak (g' := [(6, roE L), (7, .r (.int .i64 (L.length : Int))), (8, .r (.int .i64 (i : Int))), (3, .sl 0 0 (l.length + 1) 25)]) (h' := ⟨1, [(0, some (.plain (txsC (a :: l))))], false⟩) [0] rfl rfl rfl rfl ?_ ?_ rfl) ?_
          · exact ⟨⟨rfl, rfl⟩, ⟨rfl, rfl⟩, ⟨rfl, rfl⟩, ⟨rfl, rfl⟩, trivial⟩
          · exact ⟨⟨rfl, rfl, rfl⟩, trivial⟩
          refine ag_skip ?_
          refine ag_inBlock ?_
          refine ag_reg ?_
          refine ar_pure tOk rfl rfl rfl ?_ ?_
          · unfold inI64; omega
          refine pA ?_
          refine ar_nil ?_
          refine ag_ent (ent_weak (g' := (stsDl_0 L (i + 1, a :: l)).1) (h' := (stsDl_0 L (i + 1, a :: l)).2) [0] rfl rfl rfl rfl ?_ ?_ rfl) ?_
          · exact ⟨⟨rfl, rfl⟩, ⟨rfl, rfl⟩, ⟨rfl, by exact eqI (by omega)⟩, ⟨rfl, rfl⟩, trivial⟩
          · exact ⟨⟨rfl, rfl, rfl⟩, trivial⟩
          have hnx := hrec (i + 1, a :: l)
          refine hnx ?_ ?_
          · exact ⟨by omega, by rw [deals_next hx, ← hacc, if_neg hdv, List.append_nil]; try rfl⟩
          · show L.length - (i + 1) < L.length - i; omega
      · refine ar_ent (ent_reg 15 (.r (.bool false)) (by show AVal.r (.bool _) = _; rw [ht])) ?_
        have hc0 := of_decide_eq_false ht
        have hdv : ¬ dealV e = true := by simp [dealV, hc0]
        iterate 4 refine ar_skip rfl rfl rfl ?_
        refine pA ?_
        refine ar_nil ?_
        refine ag_false rfl (by rfl) ?_
        refine ag_skip ?_
        refine ag_inBlock ?_
        refine ag_reg ?_
        refine ar_pure tOk rfl rfl rfl ?_ ?_
        · unfold inI64; omega
        refine pA ?_
        refine ar_nil ?_
        refine ag_ent (ent_weak (g' := (stsDl_0 L (i + 1, a :: l)).1) (h' := (stsDl_0 L (i + 1, a :: l)).2) [0] rfl rfl rfl rfl ?_ ?_ rfl) ?_
        · exact ⟨⟨rfl, rfl⟩, ⟨rfl, rfl⟩, ⟨rfl, by exact eqI (by omega)⟩, ⟨rfl, rfl⟩, trivial⟩
        · exact ⟨⟨rfl, rfl, rfl⟩, trivial⟩
        have hnx := hrec (i + 1, a :: l)
        refine hnx ?_ ?_
        · exact ⟨by omega, by rw [deals_next hx, ← hacc, if_neg hdv, List.append_nil]; try rfl⟩
        · show L.length - (i + 1) < L.length - i; omega
    · intro h9
      obtain rfl : i = L.length := by omega
      rw [List.take_length] at hacc
      refine ag_exit rfl ?_
      refine zB ?_
      iterate 2 refine pA ?_
      refine ar_nil ?_
      refine ag_ent (ent_freeze 2 rfl rfl rfl trivial) ?_
      refine ag_ret tOk Try.func14 rfl rfl (by simp) ?_
      show AVal.r (.ro _ (cutA _ 0 _)) = _
      rw [← hacc, cutA_eq, List.drop_zero, List.take_of_length_le (by rw [txsC_len]; simp)]; rfl
def stsLs_0 (L : List EvV) : Nat → Regs × Hp := fun i => ([(6, roE L), (7, .r (.int .i64 (L.length : Int))), (8, .r (.int .i64 (i : Int))), (3, .r (.int .i64 (lastL (L.take i))))], ⟨0, [], false⟩)
def prsLs_0 (L : List EvV) : Nat → Prop := fun i => i ≤ L.length
theorem w_Last (L : List EvV) (hL : L.length ≤ 9223372036854775807) : Pur Try.prog 15 [roE L] (.r (.int .i64 (lastL L))) := by
  refine spec_of_go (N := 18) Try.func15 rfl (by decide) rfl rfl ?_
  refine zB ?_
  refine pA ?_
  refine zC ?_
  refine pA ?_
  refine zA ?_
  refine zB ?_
  iterate 3 refine pA ?_
  refine ar_nil ?_
  refine ag_block ?_
  refine ag_loopS (stsLs_0 L) (prsLs_0 L) (fun (i : Nat) => L.length - i) 0 (ent_weak [] rfl rfl rfl rfl ?_ ?_ rfl) (show prsLs_0 L 0 from ?_) ?_
  · exact ⟨⟨rfl, rfl⟩, ⟨rfl, rfl⟩, ⟨rfl, rfl⟩, ⟨rfl, rfl⟩, trivial⟩
  · trivial
  · exact Nat.zero_le _
  rintro i hi hrec
  have hi : i ≤ L.length := hi
  refine zB ?_
  refine pA ?_
  refine zA ?_
  refine ag_if rfl ?_ ?_
  · intro h9
    obtain ⟨e, hx⟩ : ∃ e, L[i]? = some e := ⟨L[i]'(by omega), by simp⟩
    refine ag_skip ?_
    refine ag_seq ?_
    refine ag_block ?_
    refine zB ?_
    refine ar_pure tOk rfl rfl rfl ?_ ?_
    · refine ⟨?_, ?_⟩ <;> first | omega | exact evsC_ne hx | (refine ⟨?_, ?_⟩ <;> omega)
    refine ar_loadAs tOk (eventA e) rfl rfl rfl rfl rfl rfl rfl (.inr ⟨rfl, _, rfl, by rw [mulz_eq, Int.toNat_natCast]; exact evsC_get hx, rfl⟩) ?_
    refine ar_new tOk rfl rfl rfl ?_ ?_
    · simp
    refine ar_store (h' := ⟨1, [(0, some (.mixed ((evC e).map .r))), (0, some (.mixed ((evC ev0).map .r)))], false⟩) (c := True) tOk (by kernel_rfl) rfl rfl trivial ?_
    refine ar_nil ?_
    refine ag_reg ?_
    iterate 2 refine pA ?_
    refine pB ?_
    iterate 2 refine pA ?_
    refine ar_nil ?_
    refine ag_inBlock ?_
    refine ag_reg ?_
    refine ar_pure tOk rfl rfl rfl ?_ ?_
    · unfold inI64; omega
    refine pA ?_
    refine ar_nil ?_
    refine ag_ent (ent_weak (g' := (stsLs_0 L (i + 1)).1) (h' := (stsLs_0 L (i + 1)).2) [] rfl rfl rfl rfl ?_ ?_ rfl) ?_
    · exact ⟨⟨rfl, rfl⟩, ⟨rfl, rfl⟩, ⟨rfl, by exact eqI (by omega)⟩, ⟨rfl, by exact eqI (last_next hx)⟩, trivial⟩
    · trivial
    have hnx := hrec (i + 1)
    refine hnx ?_ ?_
    · show i + 1 ≤ L.length; omega
    · show L.length - (i + 1) < L.length - i; omega
  · intro h9
    obtain rfl : i = L.length := by omega
    refine ag_exit rfl ?_
    refine zB ?_
    iterate 2 refine pA ?_
    refine ar_nil ?_
    refine ag_ret tOk Try.func15 rfl rfl (by simp) ?_
    show AVal.r (.int _ (lastL (L.take L.length))) = _
    rw [List.take_length]
end Go.Proofs.Ytancdgbclbkpkaa


/-
  WALKS: the laws NetOrder and NetTells: what they share, and NetOrder. (Printed by gen.py out of w_lnet2.py.)
-/
import Derived.Test.YtopfpkmdkcjjlaaNet3
namespace Go.Proofs.Ytopfpkmdkcjjlaa
open Go
set_option maxRecDepth 20000
set_option linter.unusedVariables false
set_option linter.unusedSimpArgs false
def roI (T : List Int) : AVal := .r (.ro T.length (T.map (.int .i64)))
theorem roI_ne {T : List Int} {i : Nat} {v : Int} (h : T[i]? = some v) : T.map (RVal.int .i64) ≠ [] := by cases T with
  | nil => simp at h
  | cons a l => simp
theorem place0 {n : Nat} (h : 0 < n) : placeI 0 (n : Int) = ((0 : Nat) : Int) := by
  rw [placeI, Int.zero_tmod, Int.zero_add, Int.tmod_self]; rfl
def atT (T : List Int) (i : Nat) : Int := (T[i]?).getD 0
def ordP (D : List (List UInt8)) (T : List Int) (o : Nat) (L : List NmV) : Prop := (∀ e ∈ L, okS e) ∧ ∀ (k : Nat) (s : List UInt8), k < L.length → D[o + k]? = some s → L[k]? = some ⟨atT T (o + k), some s⟩
theorem ord_add {D : List (List UInt8)} {T : List Int} {L : List NmV} {s : List UInt8} (h : ordP D T 0 L) (hs : D[L.length]? = some s) (hl : s.length ≤ 140737488355328) : ordP D T 0 (L ++ dm (atT T L.length) [s]) := by
  refine ⟨fun e he => ?_, fun k x hk hx => ?_⟩
  · rcases List.mem_append.1 he with he | he
    · exact h.1 e he
    · simp only [dm, List.map_cons, List.map_nil, List.mem_singleton] at he; subst he; exact ⟨s, rfl, hl⟩
  · rw [Nat.zero_add] at hx ⊢
    by_cases q : k < L.length
    · rw [List.getElem?_append_left q]
      have := h.2 k x q (by rw [Nat.zero_add]; exact hx)
      rw [Nat.zero_add] at this; exact this
    · simp only [dm, List.length_append, List.map_cons, List.map_nil, List.length_cons, List.length_nil] at hk
      obtain rfl : k = L.length := by omega
      rw [hs] at hx; cases hx
      rw [List.getElem?_append_right (Nat.le_refl _)]; simp [dm]
theorem ord_tl {D : List (List UInt8)} {T : List Int} {o : Nat} {e : NmV} {L : List NmV} (h : ordP D T o (e :: L)) : ordP D T (o + 1) L := by
  refine ⟨fun x hx => h.1 x (by simp [hx]), fun k x hk hx => ?_⟩
  have := h.2 (k + 1) x (by simpa using hk) (by rw [show o + (k + 1) = o + 1 + k by omega]; exact hx)
  rw [show o + (k + 1) = o + 1 + k by omega] at this
  simpa using this
def stLNO_0 (D : List (List UInt8)) (T : List Int) : Nat × List NmV → Regs × Hp := fun ⟨i, L⟩ => ([(0, roL D), (1, roI T), (5, roN L), (6, .r (.int .i64 (i : Int)))], ⟨0, [], false⟩)
def prLNO_0 (D : List (List UInt8)) (T : List Int) : Nat × List NmV → Prop := fun ⟨i, L⟩ => i ≤ D.length ∧ L.length = i ∧ ordP D T 0 L
def stLNO_2 (D : List (List UInt8)) (T : List Int) : Nat × List NmV → Regs × Hp := fun ⟨i, L⟩ => ([(0, roL D), (1, roI T), (5, roN L), (8, .r (.int .i64 (i : Int)))], ⟨0, [], false⟩)
def prLNO_2 (D : List (List UInt8)) (T : List Int) : Nat × List NmV → Prop := fun ⟨i, L⟩ => i ≤ D.length ∧ L.length + i = D.length ∧ ordP D T i L
set_option maxHeartbeats 1000000 in
theorem w_NetOrder (D : List (List UInt8)) (hD : ∀ s ∈ D, s.length ≤ 140737488355328) (hDl : D.length ≤ 140737488355328) (T : List Int) (hT : T.length ≤ 140737488355328) : Pur Try.prog 3 [roL D, roI T] (.r (.bool true)) := by
  refine spec_of_go (N := 83) Try.func3 rfl (by decide) rfl rfl ?_
  refine zB ?_
  refine pA ?_
  refine zA ?_
  refine zB ?_
  refine ar_pur (w_alive23) rfl rfl rfl rfl rfl rfl rfl ?_
  refine pA ?_
  refine ar_nil ?_
  refine ag_false rfl (rfl) ?_
  refine ag_skip ?_
  refine ag_seq ?_
  refine zB ?_
  iterate 3 refine pA ?_
  refine ar_nil ?_
  refine ag_if rfl ?_ ?_
  · intro h16
    refine zB ?_
    refine pA ?_
    refine ar_nil ?_
    refine ag_ret tOk Try.func3 rfl rfl (by simp) ?_
    rfl
  · intro h16
    refine ag_skip ?_
    refine zB ?_
    refine pA ?_
    refine zA ?_
    refine ag_seq ?_
    refine ag_ent (ent_nil 5 (.ro 0 []) rfl (.inr rfl)) ?_
    refine ag_reg ?_
    refine pA ?_
    refine ar_nil ?_
    refine ag_block ?_
    refine ag_loopS (stLNO_0 D T) (prLNO_0 D T) (fun ⟨i, L⟩ => D.length - i) (0, []) (ent_weak [] rfl rfl rfl rfl ?_ ?_ rfl) (show prLNO_0 D T (0, []) from ?_) ?_
    · exact ⟨⟨rfl, rfl⟩, ⟨rfl, rfl⟩, ⟨rfl, rfl⟩, ⟨rfl, rfl⟩, trivial⟩
    · trivial
    · exact ⟨Nat.zero_le _, rfl, by simp, by simp⟩
    rintro ⟨i, L⟩ hp hrec
    obtain ⟨hi, hll, hp⟩ : _ := hp
    refine ag_seq ?_
    refine zB ?_
    iterate 4 refine pA ?_
    refine ar_nil ?_
    refine ag_if rfl ?_ ?_
    · intro h20
      obtain ⟨s, hs⟩ := get_of (L := D) (i := i) (by omega)
      have hsl := hD s (List.mem_of_getElem? hs)
      refine ag_skip ?_
      refine ag_seq ?_
      refine ag_block ?_
      refine zB ?_
      refine pA ?_
      refine zA ?_
      refine zB ?_
      iterate 4 refine pA ?_
      refine ar_nil ?_
      refine ag_join (fun (v : Int) => ([(0, roL D), (1, roI T), (5, roN L), (6, .r (.int .i64 (i : Int))), (7, .r (.int .i64 v))], ⟨0, [], false⟩)) (fun v => v = atT T i) ?_ ?_
      · intro hjn
        refine ag_if rfl ?_ ?_
        · intro h26
          obtain ⟨v, hv⟩ : ∃ v, T[i]? = some v := ⟨T[i]'(by omega), by simp⟩
          refine ag_reg ?_
          iterate 2 refine pA ?_
          refine ar_pure tOk rfl rfl rfl ?_ ?_
          · refine ⟨?_, ?_⟩ <;> first | omega | exact roI_ne hv | (refine ⟨?_, ?_⟩ <;> omega)
          refine ar_loadAs tOk (.r (.int .i64 v)) rfl rfl rfl rfl rfl rfl rfl (.inl ⟨rfl, by rw [mulz_eq, Int.toNat_natCast, Nat.mul_one]; simp [Body.cells, hv]⟩) ?_
          refine pA ?_
          refine ar_nil ?_
          refine ag_ent (ent_weak (g' := (((fun (v : Int) => ([(0, roL D), (1, roI T), (5, roN L), (6, .r (.int .i64 (i : Int))), (7, .r (.int .i64 v))], ⟨0, [], false⟩)) v) : Regs × Hp).1) (h' := (((fun (v : Int) => ([(0, roL D), (1, roI T), (5, roN L), (6, .r (.int .i64 (i : Int))), (7, .r (.int .i64 v))], ⟨0, [], false⟩)) v) : Regs × Hp).2) [] rfl rfl rfl rfl ?_ ?_ rfl) (hjn v ?_)
          · exact ⟨⟨rfl, rfl⟩, ⟨rfl, rfl⟩, ⟨rfl, rfl⟩, ⟨rfl, rfl⟩, ⟨rfl, rfl⟩, trivial⟩
          · trivial
          · show v = (T[i]?).getD 0; rw [hv]; rfl
        · intro h26
          refine ag_skip ?_
          refine ag_ent (ent_weak (g' := (((fun (v : Int) => ([(0, roL D), (1, roI T), (5, roN L), (6, .r (.int .i64 (i : Int))), (7, .r (.int .i64 v))], ⟨0, [], false⟩)) 0) : Regs × Hp).1) (h' := (((fun (v : Int) => ([(0, roL D), (1, roI T), (5, roN L), (6, .r (.int .i64 (i : Int))), (7, .r (.int .i64 v))], ⟨0, [], false⟩)) 0) : Regs × Hp).2) [] rfl rfl rfl rfl ?_ ?_ rfl) (hjn 0 ?_)
          · exact ⟨⟨rfl, rfl⟩, ⟨rfl, rfl⟩, ⟨rfl, rfl⟩, ⟨rfl, rfl⟩, ⟨rfl, rfl⟩, trivial⟩
          · trivial
          · show (0 : Int) = (T[i]?).getD 0; rw [List.getElem?_eq_none (by omega)]; rfl
      · rintro v hjp
        subst hjp
        refine ag_reg ?_
        iterate 4 refine pA ?_
        refine ar_pure tOk rfl rfl rfl ?_ ?_
        · refine ⟨?_, ?_⟩ <;> first | omega | exact ne_of hs | (refine ⟨?_, ?_⟩ <;> omega)
        refine ar_loadAs tOk (.r (.bs s)) rfl rfl rfl rfl rfl rfl rfl (.inl ⟨rfl, by rw [mulz_eq, Int.toNat_natCast, Nat.mul_one]; simp [Body.cells, hs]⟩) ?_
        refine ar_qd rfl (qop_buildRo tOk rfl ?_ rfl) rfl rfl rfl rfl ?_
        · repeat any_goals (first | trivial | decide | omega | (simp; done) | (rw [wu8]; omega) | refine ⟨?_, ?_⟩)
        refine ar_pur (w_PostD L hp.1 (by omega) (atT T i) [s] (by simpa using hsl) (by simp only [List.length_cons, List.length_nil]; omega)) rfl rfl rfl rfl rfl rfl rfl ?_
        refine pA ?_
        refine ar_nil ?_
        refine ag_inBlock ?_
        refine ag_reg ?_
        refine pA ?_
        refine ar_pure tOk rfl rfl rfl ?_ ?_
        · unfold inI64; omega
        refine pA ?_
        refine ar_nil ?_
        refine ag_ent (ent_weak (g' := (stLNO_0 D T (i + 1, L ++ dm (atT T i) [s])).1) (h' := (stLNO_0 D T (i + 1, L ++ dm (atT T i) [s])).2) [] rfl rfl rfl rfl ?_ ?_ rfl) ?_
        · exact ⟨⟨rfl, rfl⟩, ⟨rfl, rfl⟩, ⟨rfl, rfl⟩, ⟨rfl, by exact eqI (by omega)⟩, trivial⟩
        · trivial
        have hnx := hrec (i + 1, L ++ dm (atT T i) [s])
        refine hnx ?_ ?_
        · refine ⟨by omega, by simp [dm, hll], ?_⟩
          rw [← hll] at hs ⊢
          exact ord_add hp hs hsl
        · show D.length - (i + 1) < D.length - i; omega
    · intro h20
      obtain rfl : i = D.length := by omega
      refine ag_exit rfl ?_
      refine ag_seq ?_
      refine zB ?_
      refine pA ?_
      refine ar_nil ?_
      refine ag_block ?_
      refine ag_loopS (stLNO_2 D T) (prLNO_2 D T) (fun ⟨i, L⟩ => D.length - i) (0, L) (ent_weak [] rfl rfl rfl rfl ?_ ?_ rfl) (show prLNO_2 D T (0, L) from ?_) ?_
      · exact ⟨⟨rfl, rfl⟩, ⟨rfl, rfl⟩, ⟨rfl, rfl⟩, ⟨rfl, rfl⟩, trivial⟩
      · trivial
      · exact ⟨Nat.zero_le _, by omega, hp⟩
      rintro ⟨i, L⟩ hp hrec
      obtain ⟨hi, hll, hp⟩ : _ := hp
      refine ag_seq ?_
      refine zB ?_
      iterate 4 refine pA ?_
      refine ar_nil ?_
      refine ag_if rfl ?_ ?_
      · intro h42
        obtain ⟨s, hs⟩ := get_of (L := D) (i := i) (by omega)
        have hsl := hD s (List.mem_of_getElem? hs)
        obtain ⟨e, M, rfl⟩ : ∃ e M, L = e :: M := by
          cases L with
          | nil => simp at hll; omega
          | cons a l => exact ⟨a, l, rfl⟩
        simp only [List.length_cons] at hll
        have hee := hp.2 0 s (by simp) (by simpa using hs)
        simp only [Nat.add_zero, List.getElem?_cons_zero, Option.some.injEq] at hee
        subst hee
        refine ag_skip ?_
        refine ag_seq ?_
        refine ag_block ?_
        refine zB ?_
        refine pA ?_
        refine ar_pur (w_TakeS (⟨atT T i, some s⟩ :: M) hp.1 (by simp only [List.length_cons]; omega) 0 0 _ (place0 (by simp)) rfl) rfl rfl rfl rfl rfl rfl rfl ?_
        iterate 4 refine pA ?_
        refine ar_new tOk rfl rfl rfl ?_ ?_
        · simp
        refine ar_store tOk rfl rfl rfl trivial ?_
        iterate 2 refine pA ?_
        refine ar_nil ?_
        refine ag_ent (ent_weak (g' := [(0, roL D), (1, roI T), (8, .r (.int .i64 (i : Int))), (9, .ptr 0 0), (10, roN M), (11, .r (.bool true))]) (h' := ⟨1, [(0, some (.mixed [.r (.int .i64 (atT T i)), .r (.bs s)]))], false⟩) [0] rfl rfl rfl rfl ?_ ?_ rfl) ?_
        · exact ⟨⟨rfl, rfl⟩, ⟨rfl, rfl⟩, ⟨rfl, rfl⟩, ⟨rfl, rfl⟩, ⟨rfl, rfl⟩, ⟨rfl, rfl⟩, trivial⟩
        · exact ⟨⟨rfl, rfl, rfl⟩, trivial⟩
        iterate 2 refine ag_seq ?_
        by_cases hit : i < T.length
        · skip
          obtain ⟨v, hv⟩ : ∃ v, T[i]? = some v := ⟨T[i]'(by omega), by simp⟩
          have hav : atT T i = v := by rw [atT, hv]; rfl
          refine ag_draw0 (by kernel_rfl) (by kernel_rfl) ?_
          iterate 4 refine aq_pure tOk rfl rfl rfl trivial ?_
          refine aq_load0 tOk rfl (by kernel_rfl) rfl rfl trivial ?_
          iterate 3 refine aq_pure tOk rfl rfl rfl trivial ?_
          refine aq_pure tOk rfl rfl rfl ?_ ?_
          · refine ⟨?_, ?_⟩ <;> first | omega | exact ne_of hs | (refine ⟨?_, ?_⟩ <;> omega)
          refine aq_loadAs tOk (.r (.bs s)) rfl rfl rfl rfl (fun _ => rfl) rfl rfl (.inl ⟨rfl, by rw [mulz_eq, Int.toNat_natCast, Nat.mul_one]; simp [Body.cells, hs]⟩) ?_
          refine aq_pure tOk rfl rfl rfl trivial ?_
          refine aq_pureE tOk (.r (.bool false)) rfl (by show AVal.r (.bool _) = _; exact eqB (by simp)) rfl (by rfl) trivial ?_
          iterate 5 refine aq_pure tOk rfl rfl rfl trivial ?_
          refine aq_pureE tOk (.r (.bool true)) rfl (by show AVal.r (.bool _) = _; exact eqB (decide_eq_true (by omega))) rfl (by rfl) trivial ?_
          iterate 2 refine aq_pure tOk rfl rfl rfl trivial ?_
          refine aq_load0 tOk rfl (by kernel_rfl) rfl rfl trivial ?_
          iterate 2 refine aq_pure tOk rfl rfl rfl trivial ?_
          refine aq_pure tOk rfl rfl rfl ?_ ?_
          · refine ⟨?_, ?_⟩ <;> first | omega | exact roI_ne hv | (refine ⟨?_, ?_⟩ <;> omega)
          refine aq_loadAs tOk (.r (.int .i64 v)) rfl rfl rfl rfl (fun _ => rfl) rfl rfl (.inl ⟨rfl, by rw [mulz_eq, Int.toNat_natCast, Nat.mul_one]; simp [Body.cells, hv]⟩) ?_
          refine aq_pureE tOk (.r (.bool false)) rfl (by show AVal.r (.bool _) = _; exact eqB (by simp [hav])) rfl (by rfl) trivial ?_
          iterate 2 refine aq_pure tOk rfl rfl rfl trivial ?_
          refine aq_nil rfl ?_
          refine ag_false rfl (by rfl) ?_
          refine ag_skip ?_
          refine ag_reg ?_
          iterate 2 refine pA ?_
          refine ar_nil ?_
          refine ag_inBlock ?_
          refine ag_reg ?_
          refine pA ?_
          refine ar_pure tOk rfl rfl rfl ?_ ?_
          · unfold inI64; omega
          refine pA ?_
          refine ar_nil ?_
          refine ag_ent (ent_weak (g' := (stLNO_2 D T (i + 1, M)).1) (h' := (stLNO_2 D T (i + 1, M)).2) [] rfl rfl rfl rfl ?_ ?_ rfl) ?_
          · exact ⟨⟨rfl, rfl⟩, ⟨rfl, rfl⟩, ⟨rfl, rfl⟩, ⟨rfl, by exact eqI (by omega)⟩, trivial⟩
          · trivial
          have hnx := hrec (i + 1, M)
          refine hnx ?_ ?_
          · exact ⟨by omega, by omega, ord_tl hp⟩
          · show D.length - (i + 1) < D.length - i; omega
        · skip
          refine ag_draw0 (by kernel_rfl) (by kernel_rfl) ?_
          iterate 4 refine aq_pure tOk rfl rfl rfl trivial ?_
          refine aq_load0 tOk rfl (by kernel_rfl) rfl rfl trivial ?_
          iterate 3 refine aq_pure tOk rfl rfl rfl trivial ?_
          refine aq_pure tOk rfl rfl rfl ?_ ?_
          · refine ⟨?_, ?_⟩ <;> first | omega | exact ne_of hs | (refine ⟨?_, ?_⟩ <;> omega)
          refine aq_loadAs tOk (.r (.bs s)) rfl rfl rfl rfl (fun _ => rfl) rfl rfl (.inl ⟨rfl, by rw [mulz_eq, Int.toNat_natCast, Nat.mul_one]; simp [Body.cells, hs]⟩) ?_
          refine aq_pure tOk rfl rfl rfl trivial ?_
          refine aq_pureE tOk (.r (.bool false)) rfl (by show AVal.r (.bool _) = _; exact eqB (by simp)) rfl (by rfl) trivial ?_
          iterate 5 refine aq_pure tOk rfl rfl rfl trivial ?_
          refine aq_pureE tOk (.r (.bool false)) rfl (by show AVal.r (.bool _) = _; exact eqB (decide_eq_false (by omega))) rfl (by rfl) trivial ?_
          refine aq_pure tOk rfl rfl rfl trivial ?_
          iterate 7 refine aq_skip rfl rfl rfl ?_
          iterate 2 refine aq_pure tOk rfl rfl rfl trivial ?_
          refine aq_nil rfl ?_
          refine ag_false rfl (by rfl) ?_
          refine ag_skip ?_
          refine ag_reg ?_
          iterate 2 refine pA ?_
          refine ar_nil ?_
          refine ag_inBlock ?_
          refine ag_reg ?_
          refine pA ?_
          refine ar_pure tOk rfl rfl rfl ?_ ?_
          · unfold inI64; omega
          refine pA ?_
          refine ar_nil ?_
          refine ag_ent (ent_weak (g' := (stLNO_2 D T (i + 1, M)).1) (h' := (stLNO_2 D T (i + 1, M)).2) [] rfl rfl rfl rfl ?_ ?_ rfl) ?_
          · exact ⟨⟨rfl, rfl⟩, ⟨rfl, rfl⟩, ⟨rfl, rfl⟩, ⟨rfl, by exact eqI (by omega)⟩, trivial⟩
          · trivial
          have hnx := hrec (i + 1, M)
          refine hnx ?_ ?_
          · exact ⟨by omega, by omega, ord_tl hp⟩
          · show D.length - (i + 1) < D.length - i; omega
      · intro h42
        obtain rfl : i = D.length := by omega
        obtain rfl : L = [] := List.length_eq_zero_iff.1 (by omega)
        refine ag_exit rfl ?_
        refine zB ?_
        iterate 4 refine pA ?_
        refine ar_nil ?_
        refine ag_ret tOk Try.func3 rfl rfl (by simp) ?_
        rfl
end Go.Proofs.Ytopfpkmdkcjjlaa


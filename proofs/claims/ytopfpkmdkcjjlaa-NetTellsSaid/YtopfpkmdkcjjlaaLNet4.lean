/-
  WALKS: the law NetTells. (Printed by gen.py out of w_lnet4.py.)
-/
import Derived.Test.YtopfpkmdkcjjlaaLNet3
namespace Go.Proofs.Ytopfpkmdkcjjlaa
open Go
set_option maxRecDepth 20000
set_option linter.unusedVariables false
set_option linter.unusedSimpArgs false
theorem nmsC_at {L : List NmV} {i : Nat} {e : NmV} (h : L[i]? = some e) {off : Nat} (ho : off = i * 2 := by simp only [addo_eq, mulz_eq, Int.toNat_natCast] <;> omega) : (Body.plain (nmsC L)).cells[off]? = some (.r (.int .i64 e.to)) := by
  have h2 := congrArg (·[0]?) (nmsC_get h)
  simp only [List.getElem?_take, List.getElem?_drop, Nat.add_zero] at h2
  rw [ho]; simpa [nmC] using h2
def stLNT_0 (L : List NmV) (to : Int) (D : List (List UInt8)) (at_ : Int) : Nat → Regs × Hp := fun i => ([(0, roN L), (1, .r (.int .i64 to)), (2, roL D), (3, .r (.int .i64 at_)), (9, .sl 0 0 (L.length + i) 2), (10, .r (.int .i64 (i : Int)))], ⟨1, [(0, some (.plain (nmsC (L ++ dm to (D.take i)))))], false⟩)
def prLNT_0 (L : List NmV) (to : Int) (D : List (List UInt8)) (at_ : Int) : Nat → Prop := fun i => i ≤ D.length
def stLNT_2 (L : List NmV) (to : Int) (D : List (List UInt8)) (at_ : Int) : Nat × List NmV → Regs × Hp := fun ⟨i, acc⟩ => ([(0, roN L), (1, .r (.int .i64 to)), (2, roL D), (3, .r (.int .i64 at_)), (9, roN (L ++ dm to D)), (12, .r (.int .i64 (i : Int))), (11, aN 0 acc)], hN acc)
def prLNT_2 (L : List NmV) (to : Int) (D : List (List UInt8)) (at_ : Int) : Nat × List NmV → Prop := fun ⟨i, acc⟩ => i ≤ L.length ∧ acc = keepL to (L.take i)
set_option maxHeartbeats 1000000 in
theorem w_NetTells (L : List NmV) (hok : ∀ e ∈ L, okS e) (hLb : L.length ≤ 140737488355328) (to : Int) (D : List (List UInt8)) (hD : ∀ s ∈ D, s.length ≤ 140737488355328) (hDl : D.length ≤ 140737488355328) (at_ : Int) : Pur Try.prog 6 [roN L, .r (.int .i64 to), roL D, .r (.int .i64 at_)] (.r (.bool true)) := by
  refine spec_of_go (N := 156) Try.func6 rfl (by decide) rfl rfl ?_
  refine zB ?_
  refine pA ?_
  refine zA ?_
  refine zB ?_
  refine ar_pur (w_alive23) rfl rfl rfl rfl rfl rfl rfl ?_
  refine pA ?_
  refine ar_nil ?_
  refine ag_false rfl (rfl) ?_
  refine ag_skip ?_
  refine ag_seq ?_
  refine zB ?_
  iterate 4 refine pA ?_
  refine ar_guard (t := decide ((L.length : Int) > 400)) (fun ht => ?_) (fun ht => ?_)
  · refine ar_ent (ent_reg 23 (.r (.bool true)) (by show AVal.r (.bool _) = _; exact eqB ht)) ?_
    skip
    repeat (first | refine ar_skip rfl rfl rfl ?_ | refine ar_pure tOk rfl rfl rfl trivial ?_)
    refine ar_nil ?_
    refine ag_true rfl (by rfl) ?_
    refine zB ?_
    refine pA ?_
    refine ar_nil ?_
    refine ag_ret tOk Try.func6 rfl rfl (by simp) ?_
    rfl
  · refine ar_ent (ent_reg 23 (.r (.bool false)) (by show AVal.r (.bool _) = _; exact eqB ht)) ?_
    have hL4 := of_decide_eq_false ht
    iterate 4 refine pA ?_
    refine ar_nil ?_
    refine ag_if rfl ?_ ?_
    · intro h27
      refine zB ?_
      refine pA ?_
      refine ar_nil ?_
      refine ag_ret tOk Try.func6 rfl rfl (by simp) ?_
      rfl
    · intro h27
      refine ag_skip ?_
      refine zB ?_
      refine ar_new tOk rfl rfl rfl ?_ ?_
      · simp
      refine pA ?_
      refine ar_app tOk rfl rfl rfl ?_ ?_
      · refine ⟨⟨?_, ?_, ?_⟩, ⟨?_, ?_⟩, ⟨?_, ?_⟩, ?_⟩ <;> first | trivial | decide | omega | (have := nmsC_len L; omega) | (simp; done) | (simp; omega) | (rw [nmsC_len]; done) | (rw [nmsC_len]; omega) | (simp only [nmsC_len, List.length_append, List.length_take, List.length_drop, dm, List.length_map]; omega)
      refine pA ?_
      refine zA ?_
      refine zB ?_
      refine pA ?_
      refine ar_nil ?_
      refine ag_block ?_
      refine ag_loopS (stLNT_0 L to D at_) (prLNT_0 L to D at_) (fun (i : Nat) => D.length - i) 0 (ent_weak [1] rfl rfl rfl rfl ?_ ?_ rfl) (show prLNT_0 L to D at_ 0 from ?_) ?_
      · exact ⟨⟨rfl, rfl⟩, ⟨rfl, rfl⟩, ⟨rfl, rfl⟩, ⟨rfl, rfl⟩, ⟨rfl, by exact eqSl (by omega)⟩, ⟨rfl, rfl⟩, trivial⟩
      · exact ⟨⟨rfl, rfl, by exact eqPl (by simp [dm])⟩, trivial⟩
      · exact Nat.zero_le _
      rintro i hi hrec
      have hi : i ≤ D.length := hi
      refine ag_seq ?_
      refine zB ?_
      iterate 4 refine pA ?_
      refine ar_nil ?_
      refine ag_if rfl ?_ ?_
      · intro h34
        obtain ⟨s, hs⟩ := get_of (L := D) (i := i) (by omega)
        have hsl := hD s (List.mem_of_getElem? hs)
        refine ag_skip ?_
        refine ag_seq ?_
        refine ag_block ?_
        refine ag_reg ?_
        iterate 4 refine pA ?_
        refine ar_pure tOk rfl rfl rfl ?_ ?_
        · refine ⟨?_, ?_⟩ <;> first | omega | exact ne_of hs | (refine ⟨?_, ?_⟩ <;> omega)
        refine ar_loadAs tOk (.r (.bs s)) rfl rfl rfl rfl rfl rfl rfl (.inl ⟨rfl, by rw [mulz_eq, Int.toNat_natCast, Nat.mul_one]; simp [Body.cells, hs]⟩) ?_
        refine ar_pure tOk rfl rfl rfl ?_ ?_
        · simp
        refine ar_qd rfl (qop_buildRo tOk rfl ?_ rfl) rfl rfl rfl rfl ?_
        · repeat any_goals (first | trivial | decide | omega | (simp; done) | (rw [wu8]; omega) | refine ⟨?_, ?_⟩)
        refine ar_app tOk rfl rfl rfl ?_ ?_
        · refine ⟨⟨?_, ?_, ?_⟩, ⟨?_, ?_⟩, ⟨?_, ?_⟩, ?_⟩ <;> first | trivial | decide | omega | (have := nmsC_len L; omega) | (simp; done) | (simp; omega) | (rw [nmsC_len]; done) | (rw [nmsC_len]; omega) | (simp only [nmsC_len, List.length_append, List.length_take, List.length_drop, dm, List.length_map]; omega)
        refine pA ?_
        refine ar_nil ?_
        refine ag_inBlock ?_
        refine ag_reg ?_
        refine pA ?_
        refine ar_pure tOk rfl rfl rfl ?_ ?_
        · unfold inI64; omega
        refine pA ?_
        refine ar_nil ?_
        refine ag_ent (ent_weak (g' := (stLNT_0 L to D at_ (i + 1)).1) (h' := (stLNT_0 L to D at_ (i + 1)).2) [1] rfl rfl rfl rfl ?_ ?_ rfl) ?_
        · exact ⟨⟨rfl, rfl⟩, ⟨rfl, rfl⟩, ⟨rfl, rfl⟩, ⟨rfl, rfl⟩, ⟨rfl, by exact eqSl (by omega)⟩, ⟨rfl, by exact eqI (by omega)⟩, trivial⟩
        · exact ⟨⟨rfl, rfl, by exact eqPl (by rw [dm_next to hs, ← List.append_assoc]; exact nmsC_nx (n := L.length + i) (L ++ dm to (D.take i)) ⟨to, some s⟩ (by simp [dm]; omega))⟩, trivial⟩
        have hnx := hrec (i + 1)
        refine hnx ?_ ?_
        · show i + 1 ≤ D.length; omega
        · show D.length - (i + 1) < D.length - i; omega
      · intro h34
        obtain rfl : i = D.length := by omega
        refine ag_exit rfl ?_
        refine ag_seq ?_
        refine ag_ent (ent_freeze 9 rfl rfl rfl trivial) ?_
        refine ag_ent (ent_reg 9 (roN (L ++ dm to D)) (by show AVal.r (.ro _ (cutA (nmsC (L ++ dm to (D.take D.length))) 0 _)) = _; rw [List.take_length]; exact roN_cut (by simp [dm]))) ?_
        refine ag_ent (ent_weak (g' := [(0, roN L), (1, .r (.int .i64 to)), (2, roL D), (3, .r (.int .i64 at_)), (9, roN (L ++ dm to D))]) (h' := ⟨0, [], false⟩) [] rfl rfl rfl rfl ?_ ?_ rfl) ?_
        · exact ⟨⟨rfl, rfl⟩, ⟨rfl, rfl⟩, ⟨rfl, rfl⟩, ⟨rfl, rfl⟩, ⟨rfl, rfl⟩, trivial⟩
        · trivial
        refine ag_reg ?_
        refine pA ?_
        refine zA ?_
        refine zB ?_
        refine pA ?_
        refine ar_nil ?_
        refine ag_join (fun (_u : Unit) => ([(0, roN L), (1, .r (.int .i64 to)), (2, roL D), (3, .r (.int .i64 at_)), (9, roN (L ++ dm to D)), (11, roN (keepL to L))], ⟨0, [], false⟩)) (fun _u => True) ?_ ?_
        · intro hjn
          refine ag_block ?_
          refine ag_loopS (stLNT_2 L to D at_) (prLNT_2 L to D at_) (fun ⟨i, acc⟩ => L.length - i) (0, []) (ent_weak [] rfl rfl rfl rfl ?_ ?_ rfl) (show prLNT_2 L to D at_ (0, []) from ?_) ?_
          · exact ⟨⟨rfl, rfl⟩, ⟨rfl, rfl⟩, ⟨rfl, rfl⟩, ⟨rfl, rfl⟩, ⟨rfl, rfl⟩, ⟨rfl, rfl⟩, ⟨rfl, rfl⟩, trivial⟩
          · trivial
          · exact ⟨Nat.zero_le _, rfl⟩
          rintro ⟨i, acc⟩ hp hrec
          cases acc with
          | nil =>
            obtain ⟨hi, hacc⟩ : _ := hp
            refine ag_ent (ent_weak (g' := [(0, roN L), (1, .r (.int .i64 to)), (2, roL D), (3, .r (.int .i64 at_)), (9, roN (L ++ dm to D)), (12, .r (.int .i64 (i : Int))), (11, .r .nil)]) (h' := ⟨0, [], false⟩) [] rfl rfl rfl rfl ?_ ?_ rfl) ?_
            · exact ⟨⟨rfl, rfl⟩, ⟨rfl, rfl⟩, ⟨rfl, rfl⟩, ⟨rfl, rfl⟩, ⟨rfl, rfl⟩, ⟨rfl, rfl⟩, ⟨rfl, rfl⟩, trivial⟩
            · trivial
            refine ag_seq ?_
            refine zB ?_
            iterate 4 refine pA ?_
            refine ar_nil ?_
            refine ag_if rfl ?_ ?_
            · intro h49
              obtain ⟨e, hx⟩ : ∃ e, L[i]? = some e := ⟨L[i]'(by omega), by simp⟩
              have hml := keep_len to (L.take i)
              rw [← hacc, List.length_take] at hml
              simp only [List.length_cons, List.length_nil] at hml
              
              refine ag_skip ?_
              refine ag_seq ?_
              refine ag_block ?_
              refine zB ?_
              iterate 2 refine pA ?_
              refine ar_pure tOk rfl rfl rfl ?_ ?_
              · refine ⟨?_, ?_⟩ <;> first | omega | exact nmsC_ne hx | (refine ⟨?_, ?_⟩ <;> omega)
              refine pA ?_
              refine ar_loadAs tOk (.r (.int .i64 e.to)) rfl rfl rfl rfl rfl rfl rfl (.inl ⟨rfl, by exact nmsC_at hx⟩) ?_
              iterate 2 refine pA ?_
              refine ar_nil ?_
              refine ag_if rfl ?_ ?_
              · intro h58
                have hmv : ¬ delP to e = true := by simpa [delP] using h58
                refine ag_reg ?_
                iterate 3 refine pA ?_
                refine ar_pure tOk rfl rfl rfl ?_ ?_
                · refine ⟨?_, ?_⟩ <;> first | omega | exact nmsC_ne hx | (refine ⟨?_, ?_⟩ <;> omega)
                refine ar_loadAs tOk (nmA e) rfl rfl rfl rfl rfl rfl rfl (.inr ⟨rfl, _, rfl, by rw [mulz_eq, Int.toNat_natCast]; exact nmsC_get hx, rfl⟩) ?_
                refine ar_qd rfl (qop_buildRo tOk rfl ?_ rfl) rfl rfl rfl rfl ?_
                · repeat any_goals (first | trivial | decide | omega | (simp; done) | (rw [wu8]; omega) | refine ⟨?_, ?_⟩)
                refine ar_app tOk rfl rfl rfl ?_ ?_
                · refine ⟨⟨?_, ?_, ?_⟩, ⟨?_, ?_⟩, ⟨?_, ?_⟩, ?_⟩ <;> first | trivial | decide | omega | (have := nmsC_len L; omega) | (simp; done) | (simp; omega) | (rw [nmsC_len]; done) | (rw [nmsC_len]; omega) | (simp only [nmsC_len, List.length_append, List.length_take, List.length_drop, dm, List.length_map]; omega)
                refine pA ?_
                refine ar_nil ?_
                refine ag_inBlock ?_
                refine ag_reg ?_
                refine pA ?_
                refine ar_pure tOk rfl rfl rfl ?_ ?_
                · unfold inI64; omega
                refine pA ?_
                refine ar_nil ?_
                refine ag_ent (ent_weak (g' := (stLNT_2 L to D at_ (i + 1, [e])).1) (h' := (stLNT_2 L to D at_ (i + 1, [e])).2) [0] rfl rfl rfl rfl ?_ ?_ rfl) ?_
                · exact ⟨⟨rfl, rfl⟩, ⟨rfl, rfl⟩, ⟨rfl, rfl⟩, ⟨rfl, rfl⟩, ⟨rfl, rfl⟩, ⟨rfl, by exact eqI (by omega)⟩, ⟨rfl, rfl⟩, trivial⟩
                · exact ⟨⟨rfl, rfl, by exact eqPl (by simp [nmsC, nmC])⟩, trivial⟩
                have hnx := hrec (i + 1, [e])
                refine hnx ?_ ?_
                · exact ⟨by omega, by rw [keep_next hx, ← hacc, if_neg hmv]; try rfl⟩
                · show L.length - (i + 1) < L.length - i; omega
              · intro h58
                have hmv : delP to e = true := by simpa [delP] using h58
                refine ag_skip ?_
                refine ag_inBlock ?_
                refine ag_reg ?_
                refine pA ?_
                refine ar_pure tOk rfl rfl rfl ?_ ?_
                · unfold inI64; omega
                refine pA ?_
                refine ar_nil ?_
                refine ag_ent (ent_weak (g' := (stLNT_2 L to D at_ (i + 1, [])).1) (h' := (stLNT_2 L to D at_ (i + 1, [])).2) [] rfl rfl rfl rfl ?_ ?_ rfl) ?_
                · exact ⟨⟨rfl, rfl⟩, ⟨rfl, rfl⟩, ⟨rfl, rfl⟩, ⟨rfl, rfl⟩, ⟨rfl, rfl⟩, ⟨rfl, by exact eqI (by omega)⟩, ⟨rfl, rfl⟩, trivial⟩
                · trivial
                have hnx := hrec (i + 1, [])
                refine hnx ?_ ?_
                · exact ⟨by omega, by rw [keep_next hx, ← hacc, if_pos hmv, List.append_nil]; try rfl⟩
                · show L.length - (i + 1) < L.length - i; omega
            · intro h49
              obtain rfl : i = L.length := by omega
              rw [List.take_length] at hacc
              refine ag_ent (ent_nil 11 (.ro 0 []) rfl (.inr rfl)) ?_
              refine ag_ent (ent_reg 11 (roN (keepL to L)) (by show AVal.r (.ro 0 []) = _; rw [← hacc]; rfl)) ?_
              refine ag_exit rfl ?_
              refine ag_ent (ent_weak (g' := (((fun (_u : Unit) => ([(0, roN L), (1, .r (.int .i64 to)), (2, roL D), (3, .r (.int .i64 at_)), (9, roN (L ++ dm to D)), (11, roN (keepL to L))], ⟨0, [], false⟩)) ()) : Regs × Hp).1) (h' := (((fun (_u : Unit) => ([(0, roN L), (1, .r (.int .i64 to)), (2, roL D), (3, .r (.int .i64 at_)), (9, roN (L ++ dm to D)), (11, roN (keepL to L))], ⟨0, [], false⟩)) ()) : Regs × Hp).2) [] rfl rfl rfl rfl ?_ ?_ rfl) (hjn () ?_)
              · exact ⟨⟨rfl, rfl⟩, ⟨rfl, rfl⟩, ⟨rfl, rfl⟩, ⟨rfl, rfl⟩, ⟨rfl, rfl⟩, ⟨rfl, rfl⟩, trivial⟩
              · trivial
              · trivial
          | cons a l =>
            obtain ⟨hi, hacc⟩ : _ := hp
            refine ag_ent (ent_weak (g' := [(0, roN L), (1, .r (.int .i64 to)), (2, roL D), (3, .r (.int .i64 at_)), (9, roN (L ++ dm to D)), (12, .r (.int .i64 (i : Int))), (11, .sl 0 0 (l.length + 1) 2)]) (h' := ⟨1, [(0, some (.plain (nmsC (a :: l))))], false⟩) [0] rfl rfl rfl rfl ?_ ?_ rfl) ?_
            · exact ⟨⟨rfl, rfl⟩, ⟨rfl, rfl⟩, ⟨rfl, rfl⟩, ⟨rfl, rfl⟩, ⟨rfl, rfl⟩, ⟨rfl, rfl⟩, ⟨rfl, rfl⟩, trivial⟩
            · exact ⟨⟨rfl, rfl, rfl⟩, trivial⟩
            refine ag_seq ?_
            refine zB ?_
            iterate 4 refine pA ?_
            refine ar_nil ?_
            refine ag_if rfl ?_ ?_
            · intro h49
              obtain ⟨e, hx⟩ : ∃ e, L[i]? = some e := ⟨L[i]'(by omega), by simp⟩
              have hml := keep_len to (L.take i)
              rw [← hacc, List.length_take] at hml
              simp only [List.length_cons, List.length_nil] at hml
              have htl := nmsC_len (a :: l)
              simp only [List.length_cons] at htl
              refine ag_skip ?_
              refine ag_seq ?_
              refine ag_block ?_
              refine zB ?_
              iterate 2 refine pA ?_
              refine ar_pure tOk rfl rfl rfl ?_ ?_
              · refine ⟨?_, ?_⟩ <;> first | omega | exact nmsC_ne hx | (refine ⟨?_, ?_⟩ <;> omega)
              refine pA ?_
              refine ar_loadAs tOk (.r (.int .i64 e.to)) rfl rfl rfl rfl rfl rfl rfl (.inl ⟨rfl, by exact nmsC_at hx⟩) ?_
              iterate 2 refine pA ?_
              refine ar_nil ?_
              refine ag_if rfl ?_ ?_
              · intro h58
                have hmv : ¬ delP to e = true := by simpa [delP] using h58
                refine ag_reg ?_
                iterate 3 refine pA ?_
                refine ar_pure tOk rfl rfl rfl ?_ ?_
                · refine ⟨?_, ?_⟩ <;> first | omega | exact nmsC_ne hx | (refine ⟨?_, ?_⟩ <;> omega)
                refine ar_loadAs tOk (nmA e) rfl rfl rfl rfl rfl rfl rfl (.inr ⟨rfl, _, rfl, by rw [mulz_eq, Int.toNat_natCast]; exact nmsC_get hx, rfl⟩) ?_
                refine ar_qd rfl (qop_buildRo tOk rfl ?_ rfl) rfl rfl rfl rfl ?_
                · repeat any_goals (first | trivial | decide | omega | (simp; done) | (rw [wu8]; omega) | refine ⟨?_, ?_⟩)
                refine ar_app tOk rfl rfl rfl ?_ ?_
                · refine ⟨⟨?_, ?_, ?_⟩, ⟨?_, ?_⟩, ⟨?_, ?_⟩, ?_⟩ <;> first | trivial | decide | omega | (have := nmsC_len L; omega) | (simp; done) | (simp; omega) | (rw [nmsC_len]; done) | (rw [nmsC_len]; omega) | (simp only [nmsC_len, List.length_append, List.length_take, List.length_drop, dm, List.length_map]; omega)
                refine pA ?_
                refine ar_nil ?_
                refine ag_inBlock ?_
                refine ag_reg ?_
                refine pA ?_
                refine ar_pure tOk rfl rfl rfl ?_ ?_
                · unfold inI64; omega
                refine pA ?_
                refine ar_nil ?_
                refine ag_ent (ent_weak (g' := (stLNT_2 L to D at_ (i + 1, a :: l ++ [e])).1) (h' := (stLNT_2 L to D at_ (i + 1, a :: l ++ [e])).2) [1] rfl rfl rfl rfl ?_ ?_ rfl) ?_
                · exact ⟨⟨rfl, rfl⟩, ⟨rfl, rfl⟩, ⟨rfl, rfl⟩, ⟨rfl, rfl⟩, ⟨rfl, rfl⟩, ⟨rfl, by exact eqI (by omega)⟩, ⟨rfl, by exact eqSl (by simp)⟩, trivial⟩
                · exact ⟨⟨rfl, rfl, by exact eqPl (nmsC_nx (a :: l) e rfl)⟩, trivial⟩
                have hnx := hrec (i + 1, a :: l ++ [e])
                refine hnx ?_ ?_
                · exact ⟨by omega, by rw [keep_next hx, ← hacc, if_neg hmv]; try rfl⟩
                · show L.length - (i + 1) < L.length - i; omega
              · intro h58
                have hmv : delP to e = true := by simpa [delP] using h58
                refine ag_skip ?_
                refine ag_inBlock ?_
                refine ag_reg ?_
                refine pA ?_
                refine ar_pure tOk rfl rfl rfl ?_ ?_
                · unfold inI64; omega
                refine pA ?_
                refine ar_nil ?_
                refine ag_ent (ent_weak (g' := (stLNT_2 L to D at_ (i + 1, a :: l)).1) (h' := (stLNT_2 L to D at_ (i + 1, a :: l)).2) [0] rfl rfl rfl rfl ?_ ?_ rfl) ?_
                · exact ⟨⟨rfl, rfl⟩, ⟨rfl, rfl⟩, ⟨rfl, rfl⟩, ⟨rfl, rfl⟩, ⟨rfl, rfl⟩, ⟨rfl, by exact eqI (by omega)⟩, ⟨rfl, rfl⟩, trivial⟩
                · exact ⟨⟨rfl, rfl, rfl⟩, trivial⟩
                have hnx := hrec (i + 1, a :: l)
                refine hnx ?_ ?_
                · exact ⟨by omega, by rw [keep_next hx, ← hacc, if_pos hmv, List.append_nil]; try rfl⟩
                · show L.length - (i + 1) < L.length - i; omega
            · intro h49
              obtain rfl : i = L.length := by omega
              rw [List.take_length] at hacc
              refine ag_ent (ent_freeze 11 rfl rfl rfl trivial) ?_
              refine ag_ent (ent_reg 11 (roN (keepL to L)) (by show AVal.r (.ro (a :: l).length (cutA (nmsC (a :: l)) 0 ((a :: l).length * 2))) = _; rw [roN_cutM, hacc])) ?_
              refine ag_exit rfl ?_
              refine ag_ent (ent_weak (g' := (((fun (_u : Unit) => ([(0, roN L), (1, .r (.int .i64 to)), (2, roL D), (3, .r (.int .i64 at_)), (9, roN (L ++ dm to D)), (11, roN (keepL to L))], ⟨0, [], false⟩)) ()) : Regs × Hp).1) (h' := (((fun (_u : Unit) => ([(0, roN L), (1, .r (.int .i64 to)), (2, roL D), (3, .r (.int .i64 at_)), (9, roN (L ++ dm to D)), (11, roN (keepL to L))], ⟨0, [], false⟩)) ()) : Regs × Hp).2) [] rfl rfl rfl rfl ?_ ?_ rfl) (hjn () ?_)
              · exact ⟨⟨rfl, rfl⟩, ⟨rfl, rfl⟩, ⟨rfl, rfl⟩, ⟨rfl, rfl⟩, ⟨rfl, rfl⟩, ⟨rfl, rfl⟩, trivial⟩
              · trivial
              · trivial
        · rintro _u hjp
          refine ag_seq ?_
          by_cases hne : L = []
          · skip
            have cTk : Pur Try.prog 14 [roN L, .r (.int .i64 at_)] (.tuple [nmA ⟨0, none⟩, .r .nil, .r (.bool false)]) := by rw [hne]; exact w_Take0r at_
            have cTw : Pur Try.prog 15 [roN L, .r (.int .i64 at_)] (.r .nil) := by rw [hne]; exact w_Twin0 at_
            have hl0 : L.length = 0 := by rw [hne]; rfl
            refine ag_reg ?_
            iterate 2 refine pA ?_
            refine ar_pur (cTk) rfl rfl rfl rfl rfl rfl rfl ?_
            iterate 4 refine pA ?_
            refine ar_new tOk rfl rfl rfl ?_ ?_
            · simp
            refine ar_store tOk rfl rfl rfl trivial ?_
            iterate 2 refine pA ?_
            refine ar_nil ?_
            refine ag_ent (ent_weak (g' := [(0, roN L), (1, .r (.int .i64 to)), (2, roL D), (3, .r (.int .i64 at_)), (9, roN (L ++ dm to D)), (11, roN (keepL to L)), (13, .ptr 0 0), (14, .r .nil), (15, .r (.bool false))]) (h' := ⟨1, [(0, some (.mixed [.r (.int .i64 0), .r .nil]))], false⟩) [0] rfl rfl rfl rfl ?_ ?_ rfl) ?_
            · exact ⟨⟨rfl, rfl⟩, ⟨rfl, rfl⟩, ⟨rfl, rfl⟩, ⟨rfl, rfl⟩, ⟨rfl, rfl⟩, ⟨rfl, rfl⟩, ⟨rfl, rfl⟩, ⟨rfl, rfl⟩, ⟨rfl, rfl⟩, trivial⟩
            · exact ⟨⟨rfl, rfl, rfl⟩, trivial⟩
            refine ag_seq ?_
            refine zB ?_
            iterate 3 refine pA ?_
            refine ar_pur (w_PostD L hok (by omega) to D hD (by omega)) rfl rfl rfl rfl rfl rfl rfl ?_
            refine pA ?_
            refine ar_pur (w_same (L ++ dm to D) (okS_dm hok to hD) (by simp [dm]; omega)) rfl rfl rfl rfl rfl rfl rfl ?_
            iterate 2 refine pA ?_
            refine ar_ent (ent_reg 80 (.r (.bool false)) (by show AVal.r (.bool _) = _; exact eqB (by rfl))) ?_
            iterate 2 refine pA ?_
            refine ar_pur (w_For L hok (by omega) to) rfl rfl rfl rfl rfl rfl rfl ?_
            refine pA ?_
            refine ar_pur (w_same (keepL to L) (fun x hx2 => hok x (List.mem_filter.1 hx2).1) (Nat.le_trans (keep_len to _) (by omega))) rfl rfl rfl rfl rfl rfl rfl ?_
            iterate 3 refine pA ?_
            refine ar_ent (ent_reg 88 (.r (.bool false)) (by show AVal.r (.bool _) = _; exact eqB (by rfl))) ?_
            iterate 4 refine pA ?_
            refine ar_ent (ent_reg 92 (.r (.bool false)) (by show AVal.r (.bool _) = _; exact eqB (decide_eq_false (by omega)))) ?_
            iterate 2 refine pA ?_
            refine ar_nil ?_
            refine ag_false rfl (by rfl) ?_
            refine ag_skip ?_
            refine ag_seq ?_
            refine zB ?_
            iterate 2 refine pA ?_
            refine ar_nil ?_
            refine ag_true rfl (by rfl) ?_
            refine zB ?_
            refine pB ?_
            refine ar_pure tOk rfl rfl rfl ?_ ?_
            · simp
            refine ar_pur (w_oneN) rfl rfl rfl rfl rfl rfl rfl ?_
            refine pA ?_
            refine ar_ent (ent_reg 100 (.r (.bool true)) (by show AVal.r (.bool _) = _; exact eqB (by rfl))) ?_
            iterate 4 refine pA ?_
            refine ar_pur (cTw) rfl rfl rfl rfl rfl rfl rfl ?_
            refine pA ?_
            refine ar_pure tOk rfl rfl rfl ?_ ?_
            · unfold inI64; decide
            iterate 3 refine pA ?_
            refine ar_nil ?_
            refine ag_ret tOk Try.func6 rfl rfl (by simp) ?_
            rfl
          · skip
            have hlp : (0 : Int) < (L.length : Int) := by have := List.length_pos_iff.2 hne; omega
            have q1 := Int.lt_tmod_of_pos at_ hlp
            have q2 := Int.tmod_lt_of_pos at_ hlp
            have q3 := Int.tmod_lt_of_pos (Int.tmod at_ (L.length : Int) + (L.length : Int)) hlp
            obtain ⟨i, hi⟩ : ∃ i : Nat, placeI at_ (L.length : Int) = (i : Int) := ⟨_, (Int.toNat_of_nonneg (Int.tmod_nonneg _ (by omega))).symm⟩
            have hi2 := hi
            rw [placeI] at hi2
            rw [hi2] at q3
            have hil : i < L.length := by omega
            obtain ⟨e, hx⟩ : ∃ e, L[i]? = some e := ⟨L[i], by simp⟩
            have hex := hok e (List.mem_of_getElem? hx)
            have hn0 : ((L.length : Nat) : Int) ≠ 0 := by omega
            have hoke : ∀ x ∈ L ++ [e], okS x := by intro x hx2; rcases List.mem_append.1 hx2 with q | q; exact hok x q; rw [List.mem_singleton] at q; rw [q]; exact hex
            have hokx : ∀ x ∈ L.eraseIdx i, okS x := fun x hx2 => hok x (List.mem_of_mem_eraseIdx hx2)
            have hlx : (L.eraseIdx i).length = L.length - 1 := by rw [List.length_eraseIdx, if_pos hil]
            refine ag_reg ?_
            iterate 2 refine pA ?_
            refine ar_pur (w_TakeS L hok (by omega) at_ i e hi hx) rfl rfl rfl rfl rfl rfl rfl ?_
            iterate 4 refine pA ?_
            refine ar_new tOk rfl rfl rfl ?_ ?_
            · simp
            refine ar_store tOk rfl rfl rfl trivial ?_
            iterate 2 refine pA ?_
            refine ar_nil ?_
            refine ag_ent (ent_weak (g' := [(0, roN L), (1, .r (.int .i64 to)), (2, roL D), (3, .r (.int .i64 at_)), (9, roN (L ++ dm to D)), (11, roN (keepL to L)), (13, .ptr 0 0), (14, roN (L.eraseIdx i)), (15, .r (.bool true))]) (h' := ⟨1, [(0, some (.mixed ((nmC e).map .r)))], false⟩) [0] rfl rfl rfl rfl ?_ ?_ rfl) ?_
            · exact ⟨⟨rfl, rfl⟩, ⟨rfl, rfl⟩, ⟨rfl, rfl⟩, ⟨rfl, rfl⟩, ⟨rfl, rfl⟩, ⟨rfl, rfl⟩, ⟨rfl, rfl⟩, ⟨rfl, rfl⟩, ⟨rfl, rfl⟩, trivial⟩
            · exact ⟨⟨rfl, rfl, rfl⟩, trivial⟩
            refine ag_seq ?_
            refine zB ?_
            iterate 3 refine pA ?_
            refine ar_pur (w_PostD L hok (by omega) to D hD (by omega)) rfl rfl rfl rfl rfl rfl rfl ?_
            refine pA ?_
            refine ar_pur (w_same (L ++ dm to D) (okS_dm hok to hD) (by simp [dm]; omega)) rfl rfl rfl rfl rfl rfl rfl ?_
            iterate 2 refine pA ?_
            refine ar_ent (ent_reg 80 (.r (.bool false)) (by show AVal.r (.bool _) = _; exact eqB (by rfl))) ?_
            iterate 2 refine pA ?_
            refine ar_pur (w_For L hok (by omega) to) rfl rfl rfl rfl rfl rfl rfl ?_
            refine pA ?_
            refine ar_pur (w_same (keepL to L) (fun x hx2 => hok x (List.mem_filter.1 hx2).1) (Nat.le_trans (keep_len to _) (by omega))) rfl rfl rfl rfl rfl rfl rfl ?_
            iterate 3 refine pA ?_
            refine ar_ent (ent_reg 88 (.r (.bool false)) (by show AVal.r (.bool _) = _; exact eqB (by rfl))) ?_
            iterate 4 refine pA ?_
            refine ar_ent (ent_reg 92 (.r (.bool true)) (by show AVal.r (.bool _) = _; exact eqB (decide_eq_true (by omega)))) ?_
            iterate 2 refine pA ?_
            refine ar_nil ?_
            refine ag_false rfl (by rfl) ?_
            refine ag_skip ?_
            refine ag_seq ?_
            refine zB ?_
            iterate 2 refine pA ?_
            refine ar_nil ?_
            refine ag_false rfl (by rfl) ?_
            refine ag_skip ?_
            refine zB ?_
            iterate 3 refine pA ?_
            refine ar_pure tOk rfl rfl rfl ?_ ?_
            · exact hn0
            iterate 2 refine pA ?_
            refine ar_pure tOk rfl rfl rfl ?_ ?_
            · unfold inI64; omega
            iterate 2 refine pA ?_
            refine ar_pure tOk rfl rfl rfl ?_ ?_
            · exact hn0
            refine ar_ent (ent_reg 119 (.r (.int .i64 ((i : Int)))) (by show AVal.r (.int _ _) = _; exact eqI (hi))) ?_
            refine pA ?_
            refine zA ?_
            apply ag_draw3 [120, 124, 129] (by kernel_rfl) (by kernel_rfl)
            refine' aq_new30 tOk rfl rfl rfl rfl rfl ?_ ?_
            rotate_left 2
            · simp
            iterate 2 refine aq_pure tOk rfl rfl rfl trivial ?_
            refine aq_pureE tOk (roN (L.take i)) rfl (sl_take (by omega)) rfl (by rfl) (by simp only [boundsOk]; omega) ?_
            refine' aq_app31 tOk rfl rfl rfl rfl rfl ?_ ?_
            rotate_left 1
            · refine ⟨⟨?_, ?_, ?_⟩, ⟨?_, ?_⟩, ⟨?_, ?_⟩, ?_⟩ <;> first | trivial | decide | omega | (have := nmsC_len L; omega) | (simp; done) | (simp; omega) | (rw [nmsC_len]; done) | (rw [nmsC_len]; omega) | (simp only [nmsC_len, List.length_append, List.length_take, List.length_drop, dm, List.length_map]; omega)
            iterate 2 refine aq_pure tOk rfl rfl rfl trivial ?_
            refine aq_pure tOk rfl rfl rfl ?_ ?_
            · unfold inI64; omega
            refine aq_pureE tOk (roN (L.drop (i + 1))) rfl (sl_drop hil) rfl (by rfl) (by simp only [boundsOk]; exact ⟨by omega, nmsC_len L⟩) ?_
            refine aq_app32 tOk rfl rfl rfl rfl rfl ?_ ?_
            · refine ⟨⟨?_, ?_, ?_⟩, ⟨?_, ?_⟩, ⟨?_, ?_⟩, ?_⟩ <;> first | trivial | decide | omega | (have := nmsC_len L; omega) | (simp; done) | (simp; omega) | (rw [nmsC_len]; done) | (rw [nmsC_len]; omega) | (simp only [nmsC_len, List.length_append, List.length_take, List.length_drop, dm, List.length_map]; omega)
            refine aq_pure tOk rfl rfl rfl trivial ?_
            refine aq_nil rfl ?_
            refine ag_ent (ent_freeze 17 rfl rfl rfl trivial) ?_
            refine ag_ent (ent_reg 17 (roN (L.eraseIdx i)) (by show AVal.r (.ro _ (cutA _ 0 _)) = _; exact left_eq (by simp) (by simp [cutA_eq, nmsC_len, List.take_of_length_le]))) ?_
            refine ag_ent (ent_weak (g' := [(0, roN L), (3, .r (.int .i64 at_)), (13, .ptr 0 0), (14, roN (L.eraseIdx i)), (16, .r (.int .i64 (i : Int))), (17, roN (L.eraseIdx i))]) (h' := ⟨1, [(0, some (.mixed ((nmC e).map .r)))], false⟩) [0] rfl rfl rfl rfl ?_ ?_ rfl) ?_
            · exact ⟨⟨rfl, rfl⟩, ⟨rfl, rfl⟩, ⟨rfl, rfl⟩, ⟨rfl, rfl⟩, ⟨rfl, rfl⟩, ⟨rfl, rfl⟩, trivial⟩
            · exact ⟨⟨rfl, rfl, rfl⟩, trivial⟩
            refine ag_seq ?_
            refine ag_draw (Hs := hsL [⟨1, [(0, some (.mixed ((nmC e).map .r)))], false⟩, ⟨2, [(1, some (.mixed [])), (0, some (.mixed ((nmC e).map .r)))], false⟩, ⟨3, [(2, some (.plain (nmsC L))), (1, none), (1, some (.mixed [])), (0, some (.mixed ((nmC e).map .r)))], false⟩, ⟨4, [(3, some (.plain (cutA (nmsC L) 0 ((0 + L.length) * 2) ++ nmC e))), (2, none), (2, some (.plain (nmsC L))), (1, none), (1, some (.mixed [])), (0, some (.mixed ((nmC e).map .r)))], false⟩, ⟨4, [(0, some (.mixed ((nmC e).map .r)))], false⟩]) (K := 4) [145, 147, 153, 154] (by kernel_rfl) (by kernel_rfl) ?_
            refine aq_load0 tOk rfl (by kernel_rfl) rfl rfl trivial ?_
            iterate 2 refine aq_pure tOk rfl rfl rfl trivial ?_
            refine aq_pure tOk rfl rfl rfl ?_ ?_
            · refine ⟨?_, ?_⟩ <;> first | omega | exact nmsC_ne hx | (refine ⟨?_, ?_⟩ <;> omega)
            refine aq_loadAs tOk (nmA e) rfl rfl rfl rfl (fun _ => rfl) rfl rfl (.inr ⟨rfl, _, rfl, by rw [mulz_eq, Int.toNat_natCast]; exact nmsC_get hx, rfl⟩) ?_
            refine aq_pur (w_one e hex) rfl rfl rfl rfl rfl rfl rfl ?_
            iterate 3 refine aq_pure tOk rfl rfl rfl trivial ?_
            refine aq_pur (w_same (L.eraseIdx i) hokx (by omega)) rfl rfl rfl rfl rfl rfl rfl ?_
            iterate 4 refine aq_pure tOk rfl rfl rfl trivial ?_
            refine aq_pur (w_TwinSs L hok (by omega) at_ i e hi hx (by omega)) rfl rfl rfl rfl rfl rfl rfl ?_
            refine aq_new tOk rfl rfl rfl rfl rfl rfl ?_ ?_
            · simp
            refine aq_pure tOk rfl rfl rfl trivial ?_
            refine aq_app tOk rfl rfl rfl rfl rfl rfl ?_ ?_
            · refine ⟨⟨?_, ?_, ?_⟩, ⟨?_, ?_⟩, ⟨?_, ?_⟩, ?_⟩ <;> first | trivial | decide | omega | (have := nmsC_len L; omega) | (simp; done) | (simp; omega) | (rw [nmsC_len]; done) | (rw [nmsC_len]; omega) | (simp only [nmsC_len, List.length_append, List.length_take, List.length_drop, dm, List.length_map]; omega)
            iterate 2 refine aq_pure tOk rfl rfl rfl trivial ?_
            refine aq_pure tOk rfl rfl rfl ?_ ?_
            · refine ⟨?_, ?_⟩ <;> first | omega | exact nmsC_ne hx | (refine ⟨?_, ?_⟩ <;> omega)
            refine aq_loadAs tOk (nmA e) rfl rfl rfl rfl (fun _ => rfl) rfl rfl (.inr ⟨rfl, _, rfl, by rw [mulz_eq, Int.toNat_natCast]; exact nmsC_get hx, rfl⟩) ?_
            refine aq_qd (fun _ => qop_buildRo tOk rfl ?_ rfl) rfl rfl rfl rfl ?_
            · repeat any_goals (first | trivial | decide | omega | (simp; done) | (rw [wu8]; omega) | refine ⟨?_, ?_⟩)
            refine aq_app tOk rfl rfl rfl rfl rfl rfl ?_ ?_
            · refine ⟨⟨?_, ?_, ?_⟩, ⟨?_, ?_⟩, ⟨?_, ?_⟩, ?_⟩ <;> first | trivial | decide | omega | (have := nmsC_len L; omega) | (simp; done) | (simp; omega) | (rw [nmsC_len]; done) | (rw [nmsC_len]; omega) | (simp only [nmsC_len, List.length_append, List.length_take, List.length_drop, dm, List.length_map]; omega)
            refine aq_objS [3] (w_sameO (L ++ [e]) hoke (by simp; omega) (0 + L.length + 1) (cutA (nmsC L) 0 ((0 + L.length) * 2) ++ nmC e) (by simp) (nmsC_nx L e (by simp))) rfl rfl rfl (handed_of rfl rfl (by decide) ⟨rfl, rfl, rfl, trivial⟩) rfl rfl rfl ⟨rfl, trivial⟩ rfl rfl rfl rfl rfl ?_
            iterate 2 refine aq_pure tOk rfl rfl rfl trivial ?_
            refine aq_nil rfl ?_
            refine ag_ret tOk Try.func6 rfl rfl (by simp) ?_
            rfl
end Go.Proofs.Ytopfpkmdkcjjlaa


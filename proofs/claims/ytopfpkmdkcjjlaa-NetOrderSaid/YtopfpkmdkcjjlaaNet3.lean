/-
  WALKS: net.For, Take, Post of many. (Printed by gen.py out of w_net3.py.)
-/
import Derived.Test.YtopfpkmdkcjjlaaNet2
import Derived.Test.YtopfpkmdkcjjlaaNDel
import Derived.Test.YtopfpkmdkcjjlaaNBk
import Derived.Test.YtopfpkmdkcjjlaaCat
namespace Go.Proofs.Ytopfpkmdkcjjlaa
open Go
set_option maxRecDepth 20000
set_option linter.unusedVariables false
set_option linter.unusedSimpArgs false
def hD (acc : Int) (L : List NmV) : Hp := ⟨2, [(0, some (.plain (nmsC L))), (1, some (.mixed [.r (.int .i64 acc)]))], false⟩
def hA (acc : Int) : Hp := ⟨1, [(0, some (.mixed [.r (.int .i64 acc)]))], false⟩
def okS (e : NmV) : Prop := ∃ x, e.d = some x ∧ x.length ≤ 140737488355328
theorem okS.ok {e : NmV} (h : okS e) : e.ok := by
  obtain ⟨x, hx, hl⟩ := h
  intro b hb
  rw [hx] at hb; cases hb; exact hl
theorem okS.own {e : NmV} (h : okS e) : ownM e = e := by
  obtain ⟨x, hx, _⟩ := h
  obtain ⟨to, d⟩ := e
  simp only at hx
  subst hx; rfl
theorem owns_id {L : List NmV} (h : ∀ e ∈ L, okS e) : L.map ownM = L := by
  induction L with
  | nil => rfl
  | cons a l ih => rw [List.map_cons, (h a (by simp)).own, ih (fun e he => h e (by simp [he]))]
theorem roN_cutM {M : List NmV} : AVal.r (.ro M.length (cutA (nmsC M) 0 (M.length * 2))) = roN M := roN_cut rfl
theorem w_allR  : Pur Try.prog 38 [.r (.ro 0 [])] (.r .nil) := by
  refine spec_of_go (N := 19) Try.func38 rfl (by decide) rfl rfl ?_
  refine zB ?_
  refine pA ?_
  refine zC ?_
  refine pA ?_
  refine zA ?_
  refine zB ?_
  iterate 3 refine pA ?_
  refine ar_nil ?_
  refine ag_block ?_
  refine ag_unroll ?_
  refine zB ?_
  refine pA ?_
  refine zA ?_
  refine ag_false rfl (by decide) ?_
  refine ag_exit rfl ?_
  refine zB ?_
  iterate 2 refine pA ?_
  refine ar_nil ?_
  refine ag_ret tOk Try.func38 rfl rfl (by first | trivial | exact ⟨trivial, trivial⟩ | simp) ?_
  rfl
theorem w_TakeS (L : List NmV) (hok : ∀ e ∈ L, okS e) (hL : L.length ≤ 1048576) (at_ : Int) (i : Nat) (e : NmV) (hi : placeI at_ (L.length : Int) = (i : Int)) (hx : L[i]? = some e) : Pur Try.prog 14 [roN L, .r (.int .i64 at_)] (.tuple [nmA e, roN (L.eraseIdx i), .r (.bool true)]) := by
  have hlt2 := (List.getElem?_eq_some_iff.1 hx).1
  have hne : L ≠ [] := by intro q; subst q; simp at hx
  have hex := hok e (List.mem_of_getElem? hx)
  have hoe := w_own e hex.ok
  rw [hex.own] at hoe
  have hle : (L.eraseIdx i).length = L.length - 1 := by rw [List.length_eraseIdx, if_pos hlt2]
  have hal := w_all L (fun e he => (hok e he).ok) hL hne
  rw [owns_id hok] at hal
  refine spec_of_go (N := 27) Try.func14 rfl (by decide) rfl rfl ?_
  refine zB ?_
  refine ar_new tOk rfl rfl rfl ?_ ?_
  · simp
  iterate 2 refine pA ?_
  refine zA ?_
  refine zB ?_
  iterate 3 refine pA ?_
  refine ar_nil ?_
  refine ag_false rfl (decide_eq_false (by omega)) ?_
  refine ag_skip ?_
  refine zB ?_
  iterate 3 refine pA ?_
  refine ar_pur (w_place at_ (L.length : Int) (by omega) (by omega)) rfl rfl rfl rfl rfl rfl rfl ?_
  refine ar_ent (ent_reg 15 (.r (.int .i64 ((i : Int)))) (by show AVal.r (.int _ _) = _; exact eqI (hi))) ?_
  refine pA ?_
  refine zC ?_
  iterate 2 refine pA ?_
  refine ar_pure tOk rfl rfl rfl ?_ ?_
  · refine ⟨?_, ?_⟩ <;> first | omega | exact nmsC_ne hx | (refine ⟨?_, ?_⟩ <;> omega)
  refine ar_loadAs tOk (nmA e) rfl rfl rfl rfl rfl rfl rfl (.inr ⟨rfl, _, rfl, by rw [mulz_eq, Int.toNat_natCast]; exact nmsC_get hx, rfl⟩) ?_
  refine ar_pur (hoe) rfl rfl rfl rfl rfl rfl rfl ?_
  refine pA ?_
  refine ar_own (hal) rfl rfl rfl rfl rfl rfl rfl ?_
  iterate 2 refine pA ?_
  refine ar_pure tOk rfl rfl rfl ?_ ?_
  · unfold inI64; omega
  refine ar_obj [1] (w_Delete L hL i hlt2) rfl rfl (handed_of rfl rfl (by decide) ⟨rfl, rfl, rfl, trivial⟩) rfl rfl rfl rfl ?_
  rintro _ _ ⟨rfl, rfl⟩
  refine ⟨_, _, rfl, ?_⟩
  refine ar_store tOk rfl rfl rfl trivial ?_
  iterate 2 refine pA ?_
  refine ar_nil ?_
  refine ag_ent (ent_freeze 5 rfl rfl rfl trivial) ?_
  refine ag_ent (ent_reg 5 (roN (L.eraseIdx i)) (by show AVal.r (.ro _ (cutA (nmsC _) 0 _)) = _; rw [← hle]; exact roN_cutM)) ?_
  refine ag_ret tOk Try.func14 rfl rfl (by first | trivial | exact ⟨trivial, trivial⟩ | simp) ?_
  rfl
def dm (to : Int) (D : List (List UInt8)) : List NmV := D.map fun s => ⟨to, some s⟩
theorem dm_next (to : Int) {D : List (List UInt8)} {i : Nat} {s : List UInt8} (h : D[i]? = some s) : dm to (D.take (i + 1)) = dm to (D.take i) ++ [⟨to, some s⟩] := by
  rw [List.take_add_one, h, dm, List.map_append]; rfl
def stnPD0_0 (to : Int) (D : List (List UInt8)) (L : List NmV) : Nat × List NmV → Regs × Hp := fun ⟨i, acc⟩ => ([(1, .r (.int .i64 to)), (12, roL D), (13, .r (.int .i64 (D.length : Int))), (14, .r (.int .i64 (i : Int))), (7, aN 0 acc)], hN acc)
def prnPD0_0 (to : Int) (D : List (List UInt8)) (L : List NmV) : Nat × List NmV → Prop := fun ⟨i, acc⟩ => i ≤ D.length ∧ acc = L ++ dm to (D.take i)
theorem w_PostD0 (to : Int) (D : List (List UInt8)) (hD : ∀ s ∈ D, s.length ≤ 140737488355328) (hlen :  D.length ≤ 511) : Pur Try.prog 13 [.r (.ro 0 []), .r (.int .i64 to), roL D] (roN (dm to D)) := by
  refine spec_of_go (N := 25) Try.func13 rfl (by decide) rfl rfl ?_
  refine zB ?_
  refine pA ?_
  refine zC ?_
  refine pA ?_
  refine ar_pur (w_allR) rfl rfl rfl rfl rfl rfl rfl ?_
  refine pA ?_
  refine zA ?_
  refine zB ?_
  iterate 3 refine pA ?_
  refine ar_nil ?_
  refine ag_block ?_
  refine ag_loopS (stnPD0_0 to D []) (prnPD0_0 to D []) (fun ⟨i, acc⟩ => D.length - i) (0, []) (ent_weak [] rfl rfl rfl rfl ?_ ?_ rfl) (show prnPD0_0 to D [] (0, []) from ?_) ?_
  · exact ⟨⟨rfl, rfl⟩, ⟨rfl, rfl⟩, ⟨rfl, rfl⟩, ⟨rfl, rfl⟩, ⟨rfl, rfl⟩, trivial⟩
  · trivial
  · exact ⟨Nat.zero_le _, rfl⟩
  rintro ⟨i, acc⟩ hp hrec
  cases acc with
  | nil =>
    obtain ⟨hi, hacc⟩ : _ := hp
    refine ag_ent (ent_weak (g' := [(1, .r (.int .i64 to)), (12, roL D), (13, .r (.int .i64 (D.length : Int))), (14, .r (.int .i64 (i : Int))), (7, .r .nil)]) (h' := ⟨0, [], false⟩) [] rfl rfl rfl rfl ?_ ?_ rfl) ?_
    · exact ⟨⟨rfl, rfl⟩, ⟨rfl, rfl⟩, ⟨rfl, rfl⟩, ⟨rfl, rfl⟩, ⟨rfl, rfl⟩, trivial⟩
    · trivial
    refine zB ?_
    refine pA ?_
    refine zA ?_
    refine ag_if rfl ?_ ?_
    · intro h15
      obtain ⟨s, hs⟩ := get_of (L := D) (i := i) (by omega)
      have hsk : NmV.ok ⟨to, some s⟩ := fun x hx => by cases hx; exact hD s (List.mem_of_getElem? hs)
      have hll := congrArg List.length hacc
      simp only [List.length_append, List.length_cons, List.length_nil, dm, List.length_map, List.length_take] at hll
      refine ag_skip ?_
      refine ag_seq ?_
      refine ag_block ?_
      refine zB ?_
      refine ar_pure tOk rfl rfl rfl ?_ ?_
      · refine ⟨?_, ?_⟩ <;> first | omega | exact ne_of hs | (refine ⟨?_, ?_⟩ <;> omega)
      refine ar_loadAs tOk (.r (.bs s)) rfl rfl rfl rfl rfl rfl rfl (.inl ⟨rfl, by rw [mulz_eq, Int.toNat_natCast, Nat.mul_one]; simp [Body.cells, hs]⟩) ?_
      refine pA ?_
      refine ar_nil ?_
      refine ag_reg ?_
      iterate 3 refine pA ?_
      refine ar_pure tOk rfl rfl rfl ?_ ?_
      · simp
      refine ar_own (w_put0 ⟨to, some s⟩ hsk) rfl rfl rfl rfl rfl rfl rfl ?_
      refine pA ?_
      refine ar_nil ?_
      refine ag_inBlock ?_
      refine ag_reg ?_
      refine ar_pure tOk rfl rfl rfl ?_ ?_
      · unfold inI64; omega
      refine pA ?_
      refine ar_nil ?_
      refine ag_ent (ent_weak (g' := (stnPD0_0 to D [] (i + 1, [⟨to, some s⟩])).1) (h' := (stnPD0_0 to D [] (i + 1, [⟨to, some s⟩])).2) [0] rfl rfl rfl rfl ?_ ?_ rfl) ?_
      · exact ⟨⟨rfl, rfl⟩, ⟨rfl, rfl⟩, ⟨rfl, rfl⟩, ⟨rfl, by exact eqI (by omega)⟩, ⟨rfl, rfl⟩, trivial⟩
      · exact ⟨⟨rfl, rfl, rfl⟩, trivial⟩
      have hnx := hrec (i + 1, [⟨to, some s⟩])
      refine hnx ?_ ?_
      · exact ⟨by omega, by rw [dm_next to hs, ← List.append_assoc, ← hacc]; try rfl⟩
      · show D.length - (i + 1) < D.length - i; omega
    · intro h15
      obtain rfl : i = D.length := by omega
      rw [List.take_length] at hacc
      refine ag_exit rfl ?_
      refine zB ?_
      iterate 2 refine pA ?_
      refine ar_nil ?_
      refine ag_ent (ent_nil 6 (.ro 0 []) rfl (.inr rfl)) ?_
      refine ag_ret tOk Try.func13 rfl rfl (by simp) ?_
      show AVal.r (.ro 0 []) = _
      rw [show dm to D = [] from hacc.symm]; try rfl
  | cons a l =>
    obtain ⟨hi, hacc⟩ : _ := hp
    refine ag_ent (ent_weak (g' := [(1, .r (.int .i64 to)), (12, roL D), (13, .r (.int .i64 (D.length : Int))), (14, .r (.int .i64 (i : Int))), (7, .sl 0 0 (l.length + 1) 2)]) (h' := ⟨1, [(0, some (.plain (nmsC (a :: l))))], false⟩) [0] rfl rfl rfl rfl ?_ ?_ rfl) ?_
    · exact ⟨⟨rfl, rfl⟩, ⟨rfl, rfl⟩, ⟨rfl, rfl⟩, ⟨rfl, rfl⟩, ⟨rfl, rfl⟩, trivial⟩
    · exact ⟨⟨rfl, rfl, rfl⟩, trivial⟩
    refine zB ?_
    refine pA ?_
    refine zA ?_
    refine ag_if rfl ?_ ?_
    · intro h15
      obtain ⟨s, hs⟩ := get_of (L := D) (i := i) (by omega)
      have hsk : NmV.ok ⟨to, some s⟩ := fun x hx => by cases hx; exact hD s (List.mem_of_getElem? hs)
      have hll := congrArg List.length hacc
      simp only [List.length_append, List.length_cons, List.length_nil, dm, List.length_map, List.length_take] at hll
      refine ag_skip ?_
      refine ag_seq ?_
      refine ag_block ?_
      refine zB ?_
      refine ar_pure tOk rfl rfl rfl ?_ ?_
      · refine ⟨?_, ?_⟩ <;> first | omega | exact ne_of hs | (refine ⟨?_, ?_⟩ <;> omega)
      refine ar_loadAs tOk (.r (.bs s)) rfl rfl rfl rfl rfl rfl rfl (.inl ⟨rfl, by rw [mulz_eq, Int.toNat_natCast, Nat.mul_one]; simp [Body.cells, hs]⟩) ?_
      refine pA ?_
      refine ar_nil ?_
      refine ag_reg ?_
      iterate 3 refine pA ?_
      refine ar_pure tOk rfl rfl rfl ?_ ?_
      · simp
      refine ar_obj [0] (w_putN (a :: l) (by simp only [List.length_cons]; omega) (by simp only [List.length_cons]; omega) ⟨to, some s⟩ hsk) rfl rfl (handed_of rfl rfl (by decide) ⟨rfl, rfl, rfl, trivial⟩) rfl rfl rfl rfl ?_
      rintro _ _ ⟨rfl, rfl⟩
      refine ⟨_, _, rfl, ?_⟩
      refine pA ?_
      refine ar_nil ?_
      refine ag_inBlock ?_
      refine ag_reg ?_
      refine ar_pure tOk rfl rfl rfl ?_ ?_
      · unfold inI64; omega
      refine pA ?_
      refine ar_nil ?_
      refine ag_ent (ent_weak (g' := (stnPD0_0 to D [] (i + 1, a :: l ++ [⟨to, some s⟩])).1) (h' := (stnPD0_0 to D [] (i + 1, a :: l ++ [⟨to, some s⟩])).2) [1] rfl rfl rfl rfl ?_ ?_ rfl) ?_
      · exact ⟨⟨rfl, rfl⟩, ⟨rfl, rfl⟩, ⟨rfl, rfl⟩, ⟨rfl, by exact eqI (by omega)⟩, ⟨rfl, by exact eqSl (by simp)⟩, trivial⟩
      · exact ⟨⟨rfl, rfl, rfl⟩, trivial⟩
      have hnx := hrec (i + 1, a :: l ++ [⟨to, some s⟩])
      refine hnx ?_ ?_
      · exact ⟨by omega, by rw [dm_next to hs, ← List.append_assoc, ← hacc]; try rfl⟩
      · show D.length - (i + 1) < D.length - i; omega
    · intro h15
      obtain rfl : i = D.length := by omega
      rw [List.take_length] at hacc
      refine ag_exit rfl ?_
      refine zB ?_
      iterate 2 refine pA ?_
      refine ar_nil ?_
      refine ag_ent (ent_freeze 6 rfl rfl rfl trivial) ?_
      refine ag_ret tOk Try.func13 rfl rfl (by simp) ?_
      show AVal.r (.ro (a :: l).length (cutA (nmsC (a :: l)) 0 ((a :: l).length * 2))) = _
      rw [roN_cutM, hacc]; try rfl
def stnPDC_0 (to : Int) (D : List (List UInt8)) (L : List NmV) : Nat × List NmV → Regs × Hp := fun ⟨i, acc⟩ => ([(1, .r (.int .i64 to)), (12, roL D), (13, .r (.int .i64 (D.length : Int))), (14, .r (.int .i64 (i : Int))), (7, aN 0 acc)], hN acc)
def prnPDC_0 (to : Int) (D : List (List UInt8)) (L : List NmV) : Nat × List NmV → Prop := fun ⟨i, acc⟩ => i ≤ D.length ∧ acc = L ++ dm to (D.take i)
theorem w_PostDC (a0 : NmV) (l0 : List NmV) (hok : ∀ e ∈ a0 :: l0, okS e) (hL : (a0 :: l0).length ≤ 1048576) (to : Int) (D : List (List UInt8)) (hD : ∀ s ∈ D, s.length ≤ 140737488355328) (hlen : (a0 :: l0).length + D.length ≤ 511) : Pur Try.prog 13 [roN (a0 :: l0), .r (.int .i64 to), roL D] (roN ((a0 :: l0) ++ dm to D)) := by
  have hal := w_all (a0 :: l0) (fun e he => (hok e he).ok) hL (by simp)
  rw [owns_id hok] at hal
  refine spec_of_go (N := 25) Try.func13 rfl (by decide) rfl rfl ?_
  refine zB ?_
  refine pA ?_
  refine zC ?_
  refine pA ?_
  refine ar_own (hal) rfl rfl rfl rfl rfl rfl rfl ?_
  refine pA ?_
  refine zA ?_
  refine zB ?_
  iterate 3 refine pA ?_
  refine ar_nil ?_
  refine ag_block ?_
  refine ag_loopS (stnPDC_0 to D (a0 :: l0)) (prnPDC_0 to D (a0 :: l0)) (fun ⟨i, acc⟩ => D.length - i) (0, (a0 :: l0)) (ent_weak [0] rfl rfl rfl rfl ?_ ?_ rfl) (show prnPDC_0 to D (a0 :: l0) (0, (a0 :: l0)) from ?_) ?_
  · exact ⟨⟨rfl, rfl⟩, ⟨rfl, rfl⟩, ⟨rfl, rfl⟩, ⟨rfl, rfl⟩, ⟨rfl, rfl⟩, trivial⟩
  · exact ⟨⟨rfl, rfl, rfl⟩, trivial⟩
  · exact ⟨Nat.zero_le _, by simp [dm]⟩
  rintro ⟨i, acc⟩ hp hrec
  cases acc with
  | nil =>
    obtain ⟨hi, hacc⟩ : _ := hp
    refine ag_ent (ent_weak (g' := [(1, .r (.int .i64 to)), (12, roL D), (13, .r (.int .i64 (D.length : Int))), (14, .r (.int .i64 (i : Int))), (7, .r .nil)]) (h' := ⟨0, [], false⟩) [] rfl rfl rfl rfl ?_ ?_ rfl) ?_
    · exact ⟨⟨rfl, rfl⟩, ⟨rfl, rfl⟩, ⟨rfl, rfl⟩, ⟨rfl, rfl⟩, ⟨rfl, rfl⟩, trivial⟩
    · trivial
    refine zB ?_
    refine pA ?_
    refine zA ?_
    refine ag_if rfl ?_ ?_
    · intro h15
      obtain ⟨s, hs⟩ := get_of (L := D) (i := i) (by omega)
      have hsk : NmV.ok ⟨to, some s⟩ := fun x hx => by cases hx; exact hD s (List.mem_of_getElem? hs)
      have hll := congrArg List.length hacc
      simp only [List.length_append, List.length_cons, List.length_nil, dm, List.length_map, List.length_take] at hll
      simp only [List.length_cons] at hlen
      refine ag_skip ?_
      refine ag_seq ?_
      refine ag_block ?_
      refine zB ?_
      refine ar_pure tOk rfl rfl rfl ?_ ?_
      · refine ⟨?_, ?_⟩ <;> first | omega | exact ne_of hs | (refine ⟨?_, ?_⟩ <;> omega)
      refine ar_loadAs tOk (.r (.bs s)) rfl rfl rfl rfl rfl rfl rfl (.inl ⟨rfl, by rw [mulz_eq, Int.toNat_natCast, Nat.mul_one]; simp [Body.cells, hs]⟩) ?_
      refine pA ?_
      refine ar_nil ?_
      refine ag_reg ?_
      iterate 3 refine pA ?_
      refine ar_pure tOk rfl rfl rfl ?_ ?_
      · simp
      refine ar_own (w_put0 ⟨to, some s⟩ hsk) rfl rfl rfl rfl rfl rfl rfl ?_
      refine pA ?_
      refine ar_nil ?_
      refine ag_inBlock ?_
      refine ag_reg ?_
      refine ar_pure tOk rfl rfl rfl ?_ ?_
      · unfold inI64; omega
      refine pA ?_
      refine ar_nil ?_
      refine ag_ent (ent_weak (g' := (stnPDC_0 to D (a0 :: l0) (i + 1, [⟨to, some s⟩])).1) (h' := (stnPDC_0 to D (a0 :: l0) (i + 1, [⟨to, some s⟩])).2) [0] rfl rfl rfl rfl ?_ ?_ rfl) ?_
      · exact ⟨⟨rfl, rfl⟩, ⟨rfl, rfl⟩, ⟨rfl, rfl⟩, ⟨rfl, by exact eqI (by omega)⟩, ⟨rfl, rfl⟩, trivial⟩
      · exact ⟨⟨rfl, rfl, rfl⟩, trivial⟩
      have hnx := hrec (i + 1, [⟨to, some s⟩])
      refine hnx ?_ ?_
      · exact ⟨by omega, by rw [dm_next to hs, ← List.append_assoc, ← hacc]; try rfl⟩
      · show D.length - (i + 1) < D.length - i; omega
    · intro h15
      obtain rfl : i = D.length := by omega
      rw [List.take_length] at hacc
      refine ag_exit rfl ?_
      refine zB ?_
      iterate 2 refine pA ?_
      refine ar_nil ?_
      refine ag_ent (ent_nil 6 (.ro 0 []) rfl (.inr rfl)) ?_
      refine ag_ret tOk Try.func13 rfl rfl (by simp) ?_
      show AVal.r (.ro 0 []) = _
      rw [← hacc]; try rfl
  | cons a l =>
    obtain ⟨hi, hacc⟩ : _ := hp
    refine ag_ent (ent_weak (g' := [(1, .r (.int .i64 to)), (12, roL D), (13, .r (.int .i64 (D.length : Int))), (14, .r (.int .i64 (i : Int))), (7, .sl 0 0 (l.length + 1) 2)]) (h' := ⟨1, [(0, some (.plain (nmsC (a :: l))))], false⟩) [0] rfl rfl rfl rfl ?_ ?_ rfl) ?_
    · exact ⟨⟨rfl, rfl⟩, ⟨rfl, rfl⟩, ⟨rfl, rfl⟩, ⟨rfl, rfl⟩, ⟨rfl, rfl⟩, trivial⟩
    · exact ⟨⟨rfl, rfl, rfl⟩, trivial⟩
    refine zB ?_
    refine pA ?_
    refine zA ?_
    refine ag_if rfl ?_ ?_
    · intro h15
      obtain ⟨s, hs⟩ := get_of (L := D) (i := i) (by omega)
      have hsk : NmV.ok ⟨to, some s⟩ := fun x hx => by cases hx; exact hD s (List.mem_of_getElem? hs)
      have hll := congrArg List.length hacc
      simp only [List.length_append, List.length_cons, List.length_nil, dm, List.length_map, List.length_take] at hll
      simp only [List.length_cons] at hlen
      refine ag_skip ?_
      refine ag_seq ?_
      refine ag_block ?_
      refine zB ?_
      refine ar_pure tOk rfl rfl rfl ?_ ?_
      · refine ⟨?_, ?_⟩ <;> first | omega | exact ne_of hs | (refine ⟨?_, ?_⟩ <;> omega)
      refine ar_loadAs tOk (.r (.bs s)) rfl rfl rfl rfl rfl rfl rfl (.inl ⟨rfl, by rw [mulz_eq, Int.toNat_natCast, Nat.mul_one]; simp [Body.cells, hs]⟩) ?_
      refine pA ?_
      refine ar_nil ?_
      refine ag_reg ?_
      iterate 3 refine pA ?_
      refine ar_pure tOk rfl rfl rfl ?_ ?_
      · simp
      refine ar_obj [0] (w_putN (a :: l) (by simp only [List.length_cons]; omega) (by simp only [List.length_cons]; omega) ⟨to, some s⟩ hsk) rfl rfl (handed_of rfl rfl (by decide) ⟨rfl, rfl, rfl, trivial⟩) rfl rfl rfl rfl ?_
      rintro _ _ ⟨rfl, rfl⟩
      refine ⟨_, _, rfl, ?_⟩
      refine pA ?_
      refine ar_nil ?_
      refine ag_inBlock ?_
      refine ag_reg ?_
      refine ar_pure tOk rfl rfl rfl ?_ ?_
      · unfold inI64; omega
      refine pA ?_
      refine ar_nil ?_
      refine ag_ent (ent_weak (g' := (stnPDC_0 to D (a0 :: l0) (i + 1, a :: l ++ [⟨to, some s⟩])).1) (h' := (stnPDC_0 to D (a0 :: l0) (i + 1, a :: l ++ [⟨to, some s⟩])).2) [1] rfl rfl rfl rfl ?_ ?_ rfl) ?_
      · exact ⟨⟨rfl, rfl⟩, ⟨rfl, rfl⟩, ⟨rfl, rfl⟩, ⟨rfl, by exact eqI (by omega)⟩, ⟨rfl, by exact eqSl (by simp)⟩, trivial⟩
      · exact ⟨⟨rfl, rfl, rfl⟩, trivial⟩
      have hnx := hrec (i + 1, a :: l ++ [⟨to, some s⟩])
      refine hnx ?_ ?_
      · exact ⟨by omega, by rw [dm_next to hs, ← List.append_assoc, ← hacc]; try rfl⟩
      · show D.length - (i + 1) < D.length - i; omega
    · intro h15
      obtain rfl : i = D.length := by omega
      rw [List.take_length] at hacc
      refine ag_exit rfl ?_
      refine zB ?_
      iterate 2 refine pA ?_
      refine ar_nil ?_
      refine ag_ent (ent_freeze 6 rfl rfl rfl trivial) ?_
      refine ag_ret tOk Try.func13 rfl rfl (by simp) ?_
      show AVal.r (.ro (a :: l).length (cutA (nmsC (a :: l)) 0 ((a :: l).length * 2))) = _
      rw [roN_cutM, hacc]; try rfl
theorem w_PostD (L : List NmV) (hok : ∀ e ∈ L, okS e) (hL : L.length ≤ 1048576) (to : Int) (D : List (List UInt8)) (hD : ∀ s ∈ D, s.length ≤ 140737488355328) (hlen : L.length + D.length ≤ 511) : Pur Try.prog 13 [roN L, .r (.int .i64 to), roL D] (roN (L ++ dm to D)) := by
  cases L with
  | nil => exact w_PostD0 to D hD (by simpa using hlen)
  | cons a l => exact w_PostDC a l hok hL to D hD hlen
end Go.Proofs.Ytopfpkmdkcjjlaa


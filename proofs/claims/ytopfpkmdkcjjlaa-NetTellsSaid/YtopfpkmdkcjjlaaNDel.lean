/-
  WALKS: slices.Delete of mails, cell by cell (its s[len:oldlen] lies beyond a slice's length, of which the abstract machine knows nothing).
-/
import Derived.Test.YtopfpkmdkcjjlaaNet
import Derived.Test.YtopfpkmdkcjjlaaClr
import Derived.WalkKit
import Derived.WalkSpells
import Derived.WalkLawsBesides
import Derived.Shelf.RegionOpenPlain
import Derived.Deep.RegionLaw
import Derived.Lib.SliceRun
namespace Go.Proofs.Ytopfpkmdkcjjlaa
open Go Go.RowKit Go.Lib
set_option maxRecDepth 1000000
set_option linter.unusedVariables false
set_option linter.unusedVariables false
set_option linter.unusedSimpArgs false
theorem run_clear_cells (w : World) (t e ty : TypeId) (z : Value) (ht : Try.prog.underlying t = some (.slice e)) (hv : ∀ w, (zeroValue e).run Try.prog w = .ok z w) (zs : List Value) (hz : z.cells.toList = zs) (h1 : ∀ v ∈ zs, v.oneCell' = true) (b o c : Nat)
    (hc : ∀ j, j < zs.length → (w.cell? ⟨b, o + j, none⟩).isSome = true) (hf : ∀ j, j < zs.length → w.frozen? ⟨b, o + j, none⟩ = false) :
    (Builtin.clear_ #[t] ty #[.slice (some ⟨b, o, none⟩) 1 c]).run Try.prog w = .ok (.tuple #[]) (w.setCells b o zs) := by
  have hzc : (Builtin.zeroCells z.cells 1).toList = zs := by rw [zeroCells_rep]; simp [hz]
  have hst := run_storeCells_cells (P := Try.prog) b o zs 0 w (by simpa using hc) (by simpa using hf) h1
  simp only [Nat.add_zero] at hst
  simp [Builtin.clear_, run_underlying ht, hv, hzc, hst]
set_option maxHeartbeats 4000000 in
theorem del_run (b off cap n i : Nat) (w : World) (cs : Array Value) (el : TypeId) (fz : Nat × Nat) (hb : w.heap[b]? = some (.cells cs el fz)) (hsz : off + cap * 2 ≤ cs.size) (hfz : ∀ k, fz.1 ≤ k → k < fz.2 → cs.size ≤ k) (hcap : n ≤ cap) (hm : cap ≤ 9223372036854775807) (hi : i < n)
    (h1 : ∀ u ∈ (cs.toList.drop (off + (i + 1) * 2)).take ((n - (i + 1)) * 2), u.oneCell' = true) :
    Calls Try.prog 42 #[.slice (some ⟨b, off, none⟩) n cap, .int .i64 i, .int .i64 ((i + 1 : Nat) : Int)] w fun e w' => e = .returned (.slice (some ⟨b, off, none⟩) (n - 1) cap) ∧
      w' = (w.drew.setCells b (off + i * 2) ((cs.toList.drop (off + (i + 1) * 2)).take ((n - (i + 1)) * 2))).setCells b (off + (n - 1) * 2) [.int .i64 0, .slice none 0 0] := by
  obtain ⟨j, hj⟩ : ∃ j, j = i + 1 := ⟨_, rfl⟩
  have hjn : j ≤ n := by omega
  have hlt : i < j := by omega
  rw [← hj]
  obtain ⟨news, hnews⟩ : ∃ news, news = (cs.toList.drop (off + j * 2)).take ((n - j) * 2) := ⟨_, rfl⟩
  have hlen : news.length = (n - j) * 2 := by rw [hnews, List.length_take, List.length_drop, Array.length_toList, Nat.sub_mul]; have : n * 2 ≤ cap * 2 := Nat.mul_le_mul_right _ hcap; omega
  have hnn : n * 2 ≤ cap * 2 := Nat.mul_le_mul_right _ hcap
  have hjj : j * 2 ≤ n * 2 := Nat.mul_le_mul_right _ hjn
  have hnj : (n - j) * 2 = n * 2 - j * 2 := Nat.sub_mul _ _ _
  have hget : ∀ (t : Nat) (u : Value), news[t]? = some u → cs[off + j * 2 + t]? = some u := by
    intro t u h
    rw [hnews, List.getElem?_take] at h
    split at h
    · rw [List.getElem?_drop, Array.getElem?_toList] at h; exact h
    · simp at h
  have hcell : ∀ k, k < cs.size → (w.drew.cell? ⟨b, k, none⟩).isSome = true ∧ w.drew.frozen? ⟨b, k, none⟩ = false := by
    intro k hk
    have hb2 : w.drew.heap[b]? = some (.cells cs el fz) := hb
    refine ⟨by simp [World.cell?, hb2, hk], ?_⟩
    simp only [World.frozen?, hb2, Bool.and_eq_false_imp, decide_eq_true_eq, decide_eq_false_iff_not]
    intro h9 h10
    have := hfz _ h9 h10
    omega
  obtain ⟨A, hA, hsrc⟩ : ∃ A : Addr, (if cap = j then some (⟨b, off, none⟩ : Addr) else some ⟨b, off + j * 2, none⟩) = some A ∧ Hid (∀ t u, news[t]? = some u → w.drew.cell? (A.add t) = some u) := by
    by_cases h : cap = j
    · refine ⟨⟨b, off, none⟩, by simp [h], fun t u hu => ?_⟩
      have h0 : news.length = 0 := by rw [hlen]; omega
      rw [List.length_eq_zero_iff.1 h0] at hu
      simp at hu
    · refine ⟨⟨b, off + j * 2, none⟩, by simp [h], fun t u hu => ?_⟩
      have hb2 : w.drew.heap[b]? = some (.cells cs el fz) := hb
      rw [Addr.add_lit]
      simp only [World.cell?, hb2]
      exact hget t u hu
  have s1 : Hid (news.length = (n - j) * 2) := hlen
  have s2 : Hid (∀ u ∈ news, u.oneCell' = true) := by
    intro u hu
    rw [← hj, ← hnews] at h1
    exact h1 u hu
  have s3 : Hid (∀ t, t < news.length → (w.drew.cell? ⟨b, off + i * 2 + t, none⟩).isSome = true ∧ w.drew.frozen? ⟨b, off + i * 2 + t, none⟩ = false) := by
    intro t ht
    rw [hlen] at ht
    exact hcell _ (by omega)
  obtain ⟨W1, hW1⟩ : ∃ W1, W1 = w.drew.setCells b (off + i * 2) news := ⟨_, rfl⟩
  have hW : Hid (W1 = w.drew.setCells b (off + i * 2) news) := hW1
  have hic : i ≤ cap := by omega
  have hjc : j ≤ cap := by omega
  have t25 := Try.underlying25
  obtain ⟨_, i0, _, hi0, hz1, _, _, _, h00⟩ := (tOk 29 _ rfl).ex
  obtain ⟨zv, hzv1, hzv2, hzv3⟩ := h00.resolve_left (by simp)
  simp only [List.map_cons, List.map_nil, RVal.conc] at hzv2
  have hcl : ∀ ty, (Builtin.clear_ #[25] ty #[.slice (some ⟨b, off + (i + (n - j)) * 2, none⟩) (n - (i + (n - j))) (cap - (i + (n - j)))]).run Try.prog W1 = .ok (.tuple #[]) (W1.setCells b (off + (i + (n - j)) * 2) [.int .i64 0, .slice none 0 0]) := by
    intro ty
    rw [show n - (i + (n - j)) = 1 by omega]
    have hb3 : W1.heap[b]? = some (.cells (setsV cs (off + i * 2) news) el fz) := by rw [hW1]; exact setCells_heap news w.drew b (off + i * 2) cs el fz hb
    have hl1 : (i + (n - j)) + 1 = n := by omega
    have hl2 : ((i + (n - j)) + 1) * 2 = n * 2 := by rw [hl1]
    have hlast : off + (i + (n - j)) * 2 + 2 ≤ cs.size := by omega
    refine run_clear_cells W1 _ _ ty zv t25 (fun w => by simp [zeroValue, run_typeInfo w hi0, hzv1]) _ hzv2 (by intro v hv; simp at hv; rcases hv with rfl | rfl <;> rfl) b _ _ (fun t ht => ?_) (fun t ht => ?_)
    · simp only [List.length_cons, List.length_nil] at ht
      simp only [World.cell?, hb3]
      simp only [Array.getElem?_eq_getElem (show off + (i + (n - j)) * 2 + t < (setsV cs (off + i * 2) news).size by rw [setsV_size]; omega)]
      simp
    · simp only [List.length_cons, List.length_nil] at ht
      simp only [World.frozen?, hb3, Bool.and_eq_false_imp, decide_eq_true_eq, decide_eq_false_iff_not]
      intro h9 h10
      have := hfz _ h9 h10
      omega
  have X : Hid (j = i + 1) := hj
  clear hW1 hget hlen hcell hsz hb hj hnn hjj hnj hzv1 hzv2 h1 hfz
  generalize hq : (cs.toList.drop (off + j * 2)).take ((n - j) * 2) = q at hnews ⊢
  subst hnews
  clear hq
  go_enter Try.func42, Try.ntmps42
  go_wp2_with fail
  go_region_law_o (refine step_append_room rfl (.tmp 22) (.tmp 25) 25 rfl 29 i0 2 t25 hi0 hz1 b off i cap (by simp [Act.eval, Act.put]) A (n - j) (cap - j) news (by simp [Act.eval, Act.put]) s1.out hsrc.out s2.out (by omega) s3.out ?_; rw [← hW.out])
  go_wp2
  go_ret
  have hX := X.out
  exact ⟨by rw [show n - 1 = i + (n - j) by omega]; rfl, by rw [hW.out, show n - 1 = i + (n - j) by omega]⟩
theorem hrel_write {X : Ctx} {R : Nat → Prop} {μ : Mu} {h : Hp} {w : World} (e7 : HRel X R μ h w) {β b o0 : Nat} {bd bd' : Body} (hg : h.get β = some bd) (hm : μ[β]? = some (b, o0)) {cells : Array Value} {el : TypeId} {fz : Nat × Nat} (h2 : w.heap[b]? = some (.cells cells el fz)) {at_ : Nat} {ws vs : List Value}
    (hbd : BodyRel R μ w bd' vs) (hvs : ∀ (j : Nat) v, vs[j]? = some v → (setsV cells at_ ws)[o0 + j]? = some v) (hlen : o0 + vs.length ≤ cells.size) : HRel X R μ (h.set β (some bd')) (w.setCells b at_ ws) ∧ Onward R w (w.setCells b at_ ws) := by
  obtain ⟨b', o', hm', hnR, hown, hblk⟩ := e7.live β bd hg
  rw [hm] at hm'
  cases hm'
  obtain ⟨cells', el', fz', ds, h2', h3, h4, h5, _⟩ := hblk.ex
  rw [h2] at h2'
  cases h2'
  have hgr := setCells_grown ws w b at_
  have hnew := setCells_heap ws w b at_ cells el fz h2
  have hsh : ∀ b', some b = some b' → ¬ R b' ∧ ∀ (c : Array Value) (e : TypeId) (f : Nat × Nat), w.heap[b']? = some (Obj.cells c e f) → ∃ (c' : Array Value) (f' : Nat × Nat), (w.setCells b at_ ws).heap[b']? = some (Obj.cells c' e f') ∧ c'.size = c.size := by
    rintro b' rfl'
    cases rfl'
    refine ⟨hnR, fun c e f hcf => ?_⟩
    rw [h2] at hcf
    cases hcf
    exact ⟨_, _, hnew, setsV_size _ _ _⟩
  have hon := e7.onward hgr hsh
  have Hk : HRel X R μ { h with tab := (β, none) :: h.tab } (w.setCells b at_ ws) := (e7.kill β).grow hgr hsh (by
    rintro b' rfl'
    cases rfl'
    exact ⟨hown, e7.free_kill hg hm⟩) (by
    rintro b' rfl'
    cases rfl'
    exact ⟨cells, el, fz, h2⟩)
  refine ⟨?_, hon⟩
  have hfin := Hk.put (β := β) (b := b) (o := o0) (blk := bd') hm hnR hown
    ⟨setsV cells at_ ws, el, fz, vs, hnew, by rw [setsV_size]; exact h3, hbd.mono (fun _ h => h) hon (fun _ _ h => h), hvs, by rw [setsV_size]; exact hlen⟩
    (fun γ blk' o' hne hg' => by
      simp only [Hp.get, look_kill, if_neg (Ne.symm hne)] at hg'
      have hk := e7.free_kill hg hm γ blk' o' (by simp only [Hp.get, look_kill, if_neg (Ne.symm hne)]; exact hg')
      exact hk)
  exact { hfin with
    live := fun γ blk' hg' => hfin.live γ blk' (by
      simp only [Hp.get, Hp.set, look_kill] at hg' ⊢
      split at hg'
      · rename_i e; rw [if_pos e]; exact hg'
      · rename_i e; rw [if_neg e, if_neg e]; exact hg')
    inj := fun γ γ' k k' c c' p p' g1 g2 => hfin.inj γ γ' k k' c c' p p' (by
      simp only [Hp.get, Hp.set, look_kill] at g1 ⊢
      split at g1
      · rename_i e; rw [if_pos e]; exact g1
      · rename_i e; rw [if_neg e, if_neg e]; exact g1) (by
      simp only [Hp.get, Hp.set, look_kill] at g2 ⊢
      split at g2
      · rename_i e; rw [if_pos e]; exact g2
      · rename_i e; rw [if_neg e, if_neg e]; exact g2) }
theorem nmsC_erase {M : List NmV} {i : Nat} (h : i < M.length) : nmsC (M.eraseIdx i) = (nmsC M).take (i * 2) ++ (nmsC M).drop ((i + 1) * 2) := by
  induction M generalizing i with
  | nil => simp at h
  | cons x M ih =>
    cases i with
    | zero =>
      have hl : (nmC x).length = 2 := rfl
      simp only [List.eraseIdx_zero, List.tail_cons, nmsC, List.flatMap_cons, Nat.zero_mul, List.take_zero, List.nil_append, Nat.zero_add, Nat.one_mul]
      rw [List.drop_append, List.drop_of_length_le (l := nmC x) (by rw [hl]; exact Nat.le_refl _), hl]; simp
    | succ i =>
      have hl : (nmC x).length = 2 := rfl
      have := ih (i := i) (by simpa using h)
      simp only [List.eraseIdx_cons_succ, nmsC, List.flatMap_cons] at this ⊢
      rw [this, List.take_append, List.take_of_length_le (l := nmC x) (by rw [hl, Nat.succ_mul]; omega), List.drop_append, List.drop_of_length_le (l := nmC x) (by rw [hl, Nat.succ_mul]; omega), hl, show (i + 1) * 2 - 2 = i * 2 by omega, show (i + 1 + 1) * 2 - 2 = (i + 1) * 2 by omega]
      simp
theorem rrels_one {R : Nat → Prop} {w : World} {xs : List RVal} {cs : List Value} (h : RRels R w xs cs) : ∀ v ∈ cs, v.oneCell' = true := by
  intro v hv
  obtain ⟨i, hi⟩ := List.mem_iff_getElem?.1 hv
  have hil : i < xs.length := by rw [← RRels.length h]; exact (List.getElem?_eq_some_iff.1 hi).1
  obtain ⟨c2, hc2, hc3⟩ := RRels.get h (show xs[i]? = some xs[i] by simp)
  rw [hi] at hc2
  cases hc2
  exact oneA_cell (μ := []) (v := .r xs[i]) rfl (by simp only [ARel]; exact hc3)
/-- slices.Delete of one mail. -/
theorem w_Delete (M : List NmV) (hL : M.length ≤ 1048576) (i : Nat) (hi : i < M.length) : Spec Try.prog 42 [.sl 0 0 M.length 2, .r (.int .i64 (i : Int)), .r (.int .i64 ((i : Int) + 1))] (hNL M) (fun v h' => v = .sl 0 0 (M.length - 1) 2 ∧ h' = hNL (M.eraseIdx i)) := by
  refine ⟨⟨_, Try.func42, rfl, rfl⟩, ?_⟩
  intro R μ w cargs H ha
  simp only [ARels, ARel, RRel] at ha
  obtain ⟨_, _, rfl, ⟨b, o0, cap, cells, el, fz, hm, rfl, hcap, hmax, h2, hsz⟩, _, _, rfl, rfl, _, _, rfl, rfl, rfl⟩ := ha
  have hg : (hNL M).get 0 = some (.plain (nmsC M)) := rfl
  obtain ⟨b', o', hm', hnR, hown, hblk⟩ := H.live 0 _ hg
  rw [hm] at hm'
  cases hm'
  obtain ⟨cells', el', fz', vs, h2', h3, h4, h5, hlen⟩ := hblk.ex
  rw [h2] at h2'
  cases h2'
  simp only [BodyRel] at h4
  have hvl : vs.length = M.length * 2 := by rw [RRels.length h4, nmsC_len]
  have hnn : M.length * 2 ≤ cap * 2 := Nat.mul_le_mul_right _ hcap
  have hnw : (cells.toList.drop (o0 + 0 + (i + 1) * 2)).take ((M.length - (i + 1)) * 2) = vs.drop ((i + 1) * 2) := by
    apply List.ext_getElem?
    intro k
    rw [List.getElem?_take, List.getElem?_drop, List.getElem?_drop, Array.getElem?_toList, Nat.sub_mul]
    by_cases hk : k < M.length * 2 - (i + 1) * 2
    · rw [if_pos hk]
      have hkl : (i + 1) * 2 + k < vs.length := by omega
      have := h5 ((i + 1) * 2 + k) vs[(i + 1) * 2 + k] (by simp)
      rw [show o0 + 0 + (i + 1) * 2 + k = o0 + ((i + 1) * 2 + k) by omega, this]
      simp
    · rw [if_neg hk, List.getElem?_eq_none (by omega)]
  have h1 : ∀ u ∈ (cells.toList.drop (o0 + 0 + (i + 1) * 2)).take ((M.length - (i + 1)) * 2), u.oneCell' = true := by
    rw [hnw]
    intro u hu
    exact rrels_one h4 u (List.mem_of_mem_drop hu)
  have hrun := del_run b (o0 + 0) cap M.length i w cells el fz h2 hsz h3.2 hcap (by unfold maxLen at hmax; omega) hi h1
  have e1 : (((i + 1 : Nat) : Int)) = (i : Int) + 1 := by push_cast; rfl
  rw [e1] at hrun
  refine hrun.mono ?_
  rintro e w' ⟨rfl, rfl⟩
  rw [hnw]
  obtain ⟨ws, hws⟩ : ∃ ws, ws = vs.drop ((i + 1) * 2) := ⟨_, rfl⟩
  rw [← hws]
  have hwl : ws.length = M.length * 2 - (i + 1) * 2 := by rw [hws, List.length_drop, hvl]
  have hi2 : (i + 1) * 2 ≤ M.length * 2 := Nat.mul_le_mul_right _ hi
  have e7 : HRel (callCtx w (hNL M) R μ) R μ (hNL M) w.drew := H.drew _
  have h2d : w.drew.heap[b]? = some (.cells cells el fz) := h2
  have hrel : RRels R w.drew (nmsC (M.eraseIdx i)) (vs.take (i * 2) ++ ws) := by
    rw [nmsC_erase hi, hws]
    exact (RRels.append (RRels.take _ h4) (RRels.drop _ h4)).mono (fun _ h => h) (onward_drawn R w)
  have hvs2l : (vs.take (i * 2) ++ ws).length = (M.length - 1) * 2 := by rw [List.length_append, List.length_take, hvl, hwl]; omega
  obtain ⟨E1, on1⟩ := hrel_write e7 hg hm h2d (at_ := o0 + 0 + i * 2) (ws := ws) (bd' := .plain (nmsC (M.eraseIdx i))) (vs := vs.take (i * 2) ++ ws) (by simp only [BodyRel]; exact hrel) (fun j v hj => by
    rw [setsV_get _ _ _ _ (by rw [hwl]; omega)]
    by_cases hj2 : j < i * 2
    · rw [List.getElem?_append_left (by rw [List.length_take, hvl]; omega), List.getElem?_take, if_pos hj2] at hj
      rw [if_neg (by omega)]
      exact h5 j v hj
    · rw [List.getElem?_append_right (by rw [List.length_take, hvl]; omega), List.length_take, hvl] at hj
      obtain ⟨hl2, _⟩ := List.getElem?_eq_some_iff.1 hj
      rw [if_pos (by omega), show o0 + j - (o0 + 0 + i * 2) = j - min (i * 2) (M.length * 2) by omega]
      exact hj) (by rw [hvs2l]; omega)
  have h2e := setCells_heap ws w.drew b (o0 + 0 + i * 2) cells el fz h2d
  have hg2 : ((hNL M).set 0 (some (.plain (nmsC (M.eraseIdx i))))).get 0 = some (.plain (nmsC (M.eraseIdx i))) := rfl
  obtain ⟨E2, on2⟩ := hrel_write E1 hg2 hm h2e (at_ := o0 + 0 + (M.length - 1) * 2) (ws := [.int .i64 0, .slice none 0 0]) (bd' := .plain (nmsC (M.eraseIdx i))) (vs := vs.take (i * 2) ++ ws) (by simp only [BodyRel]; exact hrel.mono (fun _ h => h) on1) (fun j v hj => by
    obtain ⟨hl2, _⟩ := List.getElem?_eq_some_iff.1 hj
    rw [hvs2l] at hl2
    rw [setsV_get _ _ _ _ (by rw [setsV_size]; simp; omega), if_neg (by omega), setsV_get _ _ _ _ (by rw [hwl]; omega)]
    by_cases hj2 : j < i * 2
    · rw [List.getElem?_append_left (by rw [List.length_take, hvl]; omega), List.getElem?_take, if_pos hj2] at hj
      rw [if_neg (by omega)]
      exact h5 j v hj
    · rw [List.getElem?_append_right (by rw [List.length_take, hvl]; omega), List.length_take, hvl] at hj
      obtain ⟨hl2, _⟩ := List.getElem?_eq_some_iff.1 hj
      rw [if_pos (by omega), show o0 + j - (o0 + 0 + i * 2) = j - min (i * 2) (M.length * 2) by omega]
      exact hj) (by rw [hvs2l, setsV_size]; omega)
  have h2f := setCells_heap [.int .i64 0, .slice none 0 0] _ b (o0 + 0 + (M.length - 1) * 2) _ el fz h2e
  have hv : ARel R μ ((w.drew.setCells b (o0 + 0 + i * 2) ws).setCells b (o0 + 0 + (M.length - 1) * 2) [.int .i64 0, .slice none 0 0]) (.sl 0 0 (M.length - 1) 2) (.slice (some ⟨b, o0 + 0, none⟩) (M.length - 1) cap) := by
    simp only [ARel]
    exact ⟨b, o0, cap, _, el, fz, hm, rfl, by omega, hmax, h2f, by rw [setsV_size, setsV_size]; exact hsz⟩
  have he := ent_same (m := .of (callCtx w (hNL M) R μ).μ0.length) (g := [(0, .sl 0 0 (M.length - 1) 2)]) (h := ((hNL M).set 0 (some (.plain (nmsC (M.eraseIdx i))))).set 0 (some (.plain (nmsC (M.eraseIdx i))))) (h' := hNL (M.eraseIdx i)) rfl rfl ⟨rfl, trivial⟩
  obtain ⟨R2, μ2, e9, E3⟩ := he (callCtx w (hNL M) R μ) R μ _ #[.slice (some ⟨b, o0 + 0, none⟩) (M.length - 1) cap] rfl (fun t => by
    simp only [lookR]
    by_cases e : 0 = t
    · subst e; simpa using hv
    · rw [beq_ne e]; simp [ARel]) E2
  have h9 := e9 0
  simp only [lookR, Nat.beq_refl, cond_true] at h9
  exact ⟨_, rfl, R2, μ2, .sl 0 0 (M.length - 1) 2, hNL (M.eraseIdx i), h9, E3, rfl, rfl⟩
end Go.Proofs.Ytopfpkmdkcjjlaa


/-
  ABSTRACT MACHINE, beside the others: 'clear(s)', s a slice of an owned block: what lies ahead of it stays told.
-/
import Derived.Test.YtopfpkmdkcjjlaaMB
namespace Go.Proofs.Ytopfpkmdkcjjlaa
open Go
set_option linter.unusedVariables false
section
variable {P : Program} {T : TTab} {f N : Nat} {m : Md} {ops : Array Oper} {o : Oper} {rest : List Oper} {k : List Item} {g g' : Regs} {h h' : Hp} {Post : AVal → Hp → Prop}
def headB (bd : Body) (n : Nat) : Option Body :=
  match bd with
  | .bytes s => some (.bytes (s.take n))
  | .plain xs => some (.plain (xs.take n))
  | .mixed _ => none
theorem headB_sound {R : Nat → Prop} {μ : Mu} {w : World} {bd bd' : Body} {n : Nat} (hh : headB bd n = some bd') {vs : List Value} (hb : BodyRel R μ w bd vs) : BodyRel R μ w bd' (vs.take n) := by
  unfold headB at hh
  split at hh
  · simp only [Option.some.injEq] at hh; subst hh
    simp only [BodyRel] at hb ⊢; subst hb; simp [bytesV, List.map_take]
  · simp only [Option.some.injEq] at hh; subst hh
    simp only [BodyRel] at hb ⊢; exact RRels.take n hb
  · simp at hh
def stepClear (g : Regs) (h : Hp) (T : TTab) (o : Oper) : Option (Hp × Prop) :=
  match o.dst, o.op with
  | none, .call cl =>
    match cl.callee, cl.args.toList, cl.argTypes.toList with
    | .builtin .clear, [x], [t] =>
      match T.look t, evA g x with
      | some { k := .slice e, .. }, .sl β off n z =>
        match T.look e, h.get β with
        | some te, some bd => match headB bd off with
          | some bd' => some (h.set β (some bd'), te.zero ≠ [] ∧ te.zero.length = z)
          | none => none
        | _, _ => none
      | _, _ => none
    | _, _, _ => none
  | _, _ => none
theorem zeroCells_rep (z : Array Value) (n : Nat) : (Builtin.zeroCells z n).toList = (List.replicate n z.toList).flatten := by
  rw [Builtin.zeroCells]; exact range_mod z n
theorem opStep2_clear (hTO : TOk P T) {c : Prop} (hp : stepClear g h T o = some (h', c)) (hc : c) : OpStep2 P N o g h .any h' := by
  intro X R μ a w e5 e6 e7
  unfold stepClear at hp
  split at hp
  case h_2 => simp at hp
  rename_i cl hd hop
  split at hp
  case h_2 => simp at hp
  rename_i x t hcal hargs htys
  split at hp
  case h_2 => simp at hp
  rename_i e _ _ _ β off n z hT hx
  split at hp
  case h_2 => simp at hp
  rename_i te bd hE hg
  split at hp
  case h_2 => simp at hp
  rename_i bd' hh
  simp only [Option.some.injEq, Prod.mk.injEq] at hp
  obtain ⟨rfl, rfl⟩ := hp
  obtain ⟨hz, hzl⟩ := hc
  obtain ⟨D, hD, hk⟩ := tyk_ok hTO hT
  simp only [TyK.ok] at hk
  subst hk
  have hxr := evA_rel (a := a) e6 x
  rw [hx] at hxr
  simp only [ARel] at hxr
  obtain ⟨b, o0, cap, cells, el, fz, hm, hxe, hcap, hmax, h2, hsz⟩ := hxr
  obtain ⟨b', o', hm', hnR, hown, hblk⟩ := e7.live β bd hg
  rw [hm] at hm'
  cases hm'
  obtain ⟨cells', el', fz', ds, h2', h3, h4, h5, hlen⟩ := hblk.ex
  rw [h2] at h2'
  cases h2'
  obtain ⟨zv, hz4, hz5, hz6⟩ := zero_ok (P := P) (w := w) (R := R) (μ := μ) hTO hE hz
  have hsize : zv.cells.size = z := by rw [← hzl, ← hz6]; simp
  obtain ⟨ws, hws⟩ : ∃ ws, ws = (List.replicate n zv.cells.toList).flatten := ⟨_, rfl⟩
  have hwl : ws.length = n * z := by rw [hws]; simp [hsize]
  have h8 : ∀ v ∈ ws, v.oneCell' = true := by
    intro v hv
    rw [hws, List.mem_flatten] at hv
    obtain ⟨l, hl, hv⟩ := hv
    rw [List.eq_of_mem_replicate hl] at hv
    obtain ⟨i, hi⟩ := List.mem_iff_getElem?.1 hv
    have hrr := ARels.of_r.1 hz5
    have hil : i < te.zero.length := by rw [← hz6]; exact (List.getElem?_eq_some_iff.1 hi).1
    obtain ⟨c2, hc2, hc3⟩ := RRels.get hrr (show te.zero[i]? = some te.zero[i] by simp)
    rw [hi] at hc2
    cases hc2
    exact oneA_cell (μ := μ) (v := .r te.zero[i]) rfl (by simp only [ARel]; exact hc3)
  have hnz : n * z ≤ cap * z := Nat.mul_le_mul_right _ hcap
  have hrun := run_storeCells_cells (P := P) b (o0 + off) ws 0 w (fun j hj => by
      simp only [World.cell?, h2, Nat.add_zero]
      simp
      omega) (fun j hj => by
      simp only [World.frozen?, h2, Nat.add_zero]
      simp only [Bool.and_eq_false_imp, decide_eq_true_eq, decide_eq_false_iff_not]
      intro h9 h10
      have := h3.2 _ h9 h10
      omega) h8
  rw [Nat.add_zero] at hrun
  have hgr := setCells_grown ws w b (o0 + off)
  have hnew := setCells_heap ws w b (o0 + off) cells el fz h2
  have hsh : ∀ b', some b = some b' → ¬ R b' ∧ ∀ (c : Array Value) (e : TypeId) (f : Nat × Nat), w.heap[b']? = some (Obj.cells c e f) → ∃ (c' : Array Value) (f' : Nat × Nat), (w.setCells b (o0 + off) ws).heap[b']? = some (Obj.cells c' e f') ∧ c'.size = c.size := by
    rintro b' rfl'
    cases rfl'
    refine ⟨hnR, fun c e f hcf => ?_⟩
    rw [h2] at hcf
    cases hcf
    exact ⟨_, _, hnew, setsV_size _ _ _⟩
  have hon := e7.onward hgr hsh
  have Hk : HRel X R μ { h with tab := (β, none) :: h.tab } (w.setCells b (o0 + off) ws) := (e7.kill β).grow hgr hsh (by
    rintro b' rfl'
    cases rfl'
    exact ⟨hown, e7.free_kill hg hm⟩) (by
    rintro b' rfl'
    cases rfl'
    exact ⟨cells, el, fz, h2⟩)
  refine ⟨.tuple #[], w.setCells b (o0 + off) ws, R, μ, .inl ?_, by simp only [ARel], e6.mono (fun _ h => h) hon (fun _ _ h => h), ?_⟩
  · have ha1 : cl.args.map a.eval = ⟨[a.eval x]⟩ := by apply Array.ext'; rw [Array.toList_map, hargs]; rfl
    have ha2 : cl.argTypes = ⟨[t]⟩ := by apply Array.ext'; exact htys
    have hcl : (Builtin.clear_ ⟨[t]⟩ o.type ⟨[.slice (some ⟨b, o0 + off, none⟩) n cap]⟩).run P w = .ok (.tuple #[]) (w.setCells b (o0 + off) ws) := by
      cases n with
      | zero =>
        have : ws = [] := List.length_eq_zero_iff.1 (by rw [hwl, Nat.zero_mul])
        subst this
        simp [Builtin.clear_, run_underlying hD, World.setCells]
      | succ n =>
        have hzc : (Builtin.zeroCells zv.cells (n + 1)).toList = ws := by rw [zeroCells_rep, hws]
        simp [Builtin.clear_, run_underlying hD, hz4, hzc, hrun]
    simp only [execOp, hop, resolve, hcal, Sem.run_bind, Sem.run_pure, Result.andThen_ok, invoke, builtin, ha1, ha2, hxe, hcl]
  · have hfin := Hk.put (β := β) (b := b) (o := o0) (blk := bd') hm hnR hown
      ⟨setsV cells (o0 + off) ws, el, fz, ds.take off, hnew, by rw [setsV_size]; exact h3, (headB_sound hh h4).mono (fun _ h => h) hon (fun _ _ h => h), fun j v hj => by
        rw [List.getElem?_take] at hj
        split at hj
        · rw [setsV_get _ _ _ _ (by omega), if_neg (by omega)]; exact h5 j v hj
        · simp at hj, by rw [setsV_size, List.length_take]; omega⟩
      (fun γ blk' o' hne hg' => by
        simp only [Hp.get, look_kill, if_neg (Ne.symm hne)] at hg'
        have hk := e7.free_kill hg hm γ blk' o' (by simp only [Hp.get, look_kill, if_neg (Ne.symm hne)]; exact hg')
        exact hk)
    exact { hfin with
      live := fun γ blk' hg' => hfin.live γ blk' (by
        simp only [Hp.get, Hp.set, look_kill] at hg' ⊢
        split at hg'
        · rename_i e; rw [if_pos e]; exact hg'
        · rename_i e; rw [if_neg e, if_neg e]; exact hg')
      inj := fun γ γ' k k' c c' p p' g1 g2 => hfin.inj γ γ' k k' c c' p p' (by
        simp only [Hp.get, Hp.set, look_kill] at g1 ⊢
        split at g1
        · rename_i e; rw [if_pos e]; exact g1
        · rename_i e; rw [if_neg e, if_neg e]; exact g1) (by
        simp only [Hp.get, Hp.set, look_kill] at g2 ⊢
        split at g2
        · rename_i e; rw [if_pos e]; exact g2
        · rename_i e; rw [if_neg e, if_neg e]; exact g2) }
theorem stepClear_dst {c : Prop} (hp : stepClear g h T o = some (h', c)) : o.dst = none := by
  unfold stepClear at hp
  split at hp
  · assumption
  · simp at hp
/-- 'clear(s)'. -/
theorem ar_clear (hTO : TOk P T) {t : Bool} {c : Prop} (hp : stepClear g h T o = some (h', c)) (hg : guardB ops g o = some t) (ht : t = true) (hc : c)
    (hk : AReg P f N m ops rest k g h' Post) : AReg P f N m ops (o :: rest) k g h Post :=
  ar_op hg ht (opStep_of2n (opStep2_clear hTO hp hc) (stepClear_dst hp)) hk
theorem allR_mapC : ∀ rs : List RVal, allR (rs.map .r) = some rs
  | [] => rfl
  | r :: rs => by simp only [List.map_cons, allR, allR_mapC rs]
theorem storeF_plain {xs rs : List RVal} {off : Nat} (h2 : 2 ≤ rs.length) (hl : off + rs.length ≤ xs.length) : storeF (.plain xs) off (rs.map .r) = some (.plain (setsP xs off rs), True) := by
  match rs, h2 with
  | a :: b :: r, _ =>
    have h1 : allR (AVal.r a :: AVal.r b :: r.map AVal.r) = some (a :: b :: r) := allR_mapC (a :: b :: r)
    have h3 : Nat.ble (off + (AVal.r a :: AVal.r b :: r.map AVal.r).length) xs.length = true := Nat.ble_eq_true_of_le (by simpa using hl)
    simp only [List.map_cons, storeF, h1, h3, cond_true]
theorem setsP_eq : ∀ (rs xs : List RVal) (off : Nat), off + rs.length ≤ xs.length → setsP xs off rs = xs.take off ++ rs ++ xs.drop (off + rs.length)
  | [], xs, off, _ => by simp [setsP]
  | r :: rs, xs, off, h => by
    simp only [List.length_cons] at h
    have h1 : (xs.set off r).take (off + 1) = xs.take off ++ [r] := by
      rw [List.take_add_one, List.getElem?_set_self (by omega), List.take_set_of_le (Nat.le_refl _)]; rfl
    have h2 : (xs.set off r).drop (off + 1 + rs.length) = xs.drop (off + (rs.length + 1)) := by
      rw [List.drop_set_of_lt (by omega), show off + 1 + rs.length = off + (rs.length + 1) by omega]
    rw [setsP, setsP_eq rs _ (off + 1) (by simp; omega), h1, h2, List.length_cons]
    simp
/-- A struct is written into an owned block, at whatever place. -/
theorem ar_storeP (hTO : TOk P T) {tt : Bool} {t : TypeId} {ty : Ty} {x y : Operand} {β off : Nat} {xs rs : List RVal} (hd : o.dst = none) (hop : o.op = .store t x y) (hT : T.look t = some ty) (hx : evA g x = .ptr β off) (hy : cellsF (evA g y) = some (rs.map .r))
    (hb : h.get β = some (.plain xs)) (hz : Nat.beq rs.length ty.size = true) (h2 : 2 ≤ rs.length) (hg : guardB ops g o = some tt) (ht : tt = true) (hl : off + rs.length ≤ xs.length)
    (hk : AReg P f N m ops rest k g (h.set β (some (.plain (setsP xs off rs)))) Post) : AReg P f N m ops (o :: rest) k g h Post := by
  refine ar_store (c := True) hTO ?_ hg ht trivial hk
  unfold stepStore
  simp only [hd, hop, hT, hx, hy, hb, List.length_map, hz, cond_true, storeF_plain h2 hl, Option.map_some]
end
end Go.Proofs.Ytopfpkmdkcjjlaa


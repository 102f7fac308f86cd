/-
  ABSTRACT MACHINE, 10: new blocks, reads, writes.
-/
import Derived.Test.YtplfajhaehkhnaaA9
namespace Go.Proofs.Ytplfajhaehkhnaa
open Go

def Hp.push (h : Hp) (blk : ABlk) : Hp := ⟨h.nxt + 1, (h.nxt, some blk) :: h.tab, h.gh⟩
def Hp.set (h : Hp) (β : Nat) (v : Option ABlk) : Hp := ⟨h.nxt, (β, v) :: h.tab, h.gh⟩

section
variable {P : Program} {T : TTab} {X : Ctx} {R : Nat → Prop} {μ : Mu} {h : Hp} {w w' : World} {g : Regs} {tmps : Array Value}

theorem grown_alloc (w : World) (o : Obj) : w.grownBy (w.alloc o) none := ⟨rfl, rfl, rfl, by show w.heap.size ≤ (w.heap.push o).size; simp, fun k hk _ => RowKit.Below.heap_alloc w o k hk⟩

theorem heap_new (w : World) (o : Obj) : (w.alloc o).heap[w.heap.size]? = some o := by
  show (w.heap.push o)[w.heap.size]? = _
  simp

theorem le_of_get {vs : List Value} {cells : Array Value} (hv : ∀ (j : Nat) v, vs[j]? = some v → cells[j]? = some v) : vs.length ≤ cells.size := by
  rcases Nat.eq_zero_or_pos vs.length with h0 | h0
  · omega
  · obtain ⟨hl, _⟩ := Array.getElem?_eq_some_iff.1 (hv (vs.length - 1) _ (List.getElem?_eq_getElem (by omega)))
    omega

/-- A new block. -/
theorem new_block (H : HRel X R μ h w) (hr : RegRel R μ w g tmps) (cells : Array Value) (e : TypeId) (fz : Nat × Nat) (hf : fz.1 ≤ fz.2 ∧ ∀ i, fz.1 ≤ i → i < fz.2 → cells.size ≤ i) {bd : Body} {vs : List Value}
    (hb : BodyRel R μ w bd vs) (hv : ∀ (j : Nat) v, vs[j]? = some v → cells[j]? = some v) :
    HRel X R (μ ++ [(w.heap.size, 0)]) (h.push bd) (w.alloc (.cells cells e fz)) ∧ RegRel R (μ ++ [(w.heap.size, 0)]) (w.alloc (.cells cells e fz)) g tmps ∧ Onward R w (w.alloc (.cells cells e fz)) := by
  have hg := grown_alloc w (.cells cells e fz)
  have hon : Onward R w (w.alloc (.cells cells e fz)) := H.onward hg (fun b hb => by simp at hb)
  have H1 : HRel X R μ h (w.alloc (.cells cells e fz)) := H.grow hg (fun b hb => by simp at hb) (fun b hb => by simp at hb) (fun b hb => by simp at hb)
  refine ⟨H1.add (fun hR => by have := H.rlt _ hR; omega) (.inr H.size) ⟨cells, e, fz, vs, heap_new w _, hf, hb.mono (fun _ h => h) hon mu_app, fun j v hj => by simpa using hv j v hj, by rw [Nat.zero_add]; exact le_of_get hv⟩ ?_, hr.mono (fun _ h => h) hon mu_app, hon⟩
  intro β blk o hg1 hm
  exact H.free_new (Nat.le_refl _) β blk o hg1 hm

theorem new_name (H : HRel X R μ h w) : (μ ++ [(w.heap.size, 0)])[h.nxt]? = some (w.heap.size, 0) := by
  rw [← H.len]; simp

end

theorem range_mod (z : Array Value) (len : Nat) : ((Array.range (len * z.size)).map fun x => z[x % z.size]!).toList = (List.replicate len z.toList).flatten := by
  induction len with
  | zero => simp
  | succ n ih =>
    rw [Array.toList_map, Array.toList_range] at ih ⊢
    rw [List.replicate_succ', List.flatten_append, ← ih, Nat.succ_mul, List.range_add, List.map_append]
    congr 1
    simp only [List.map_map, List.flatten_cons, List.flatten_nil, List.append_nil]
    apply List.ext_getElem
    · simp
    · intro i h1 h2
      have hi : i < z.size := by simpa using h2
      simp [Nat.mod_eq_of_lt hi, hi]

/-- Is it a value of one cell? -/
def oneA : AVal → Bool
  | .agg _ | .tuple _ | .any => false
  | _ => true

theorem oneA_cell {R : Nat → Prop} {μ : Mu} {w : World} {v : AVal} (h : oneA v = true) {c : Value} (hv : ARel R μ w v c) : c.oneCell' = true := by
  cases v with
  | r v =>
    cases v <;> simp only [ARel, RRel] at hv
    all_goals first
      | (subst hv; rfl)
      | (obtain ⟨_, _, rfl, _⟩ := hv; rfl)
      | (obtain ⟨_, _, _, rfl, _⟩ := hv; rfl)
  | agg _ => simp [oneA] at h
  | tuple _ => simp [oneA] at h
  | any => simp [oneA] at h
  | _ =>
    simp only [ARel] at hv
    first
    | (obtain ⟨_, _, _, _, _, _, _, rfl, _⟩ := hv; rfl)
    | (obtain ⟨_, _, _, rfl⟩ := hv; rfl)
    | (obtain ⟨_, rfl, _⟩ := hv; rfl)
    | (obtain ⟨_, _, _, rfl, _⟩ := hv; rfl)
    | (obtain ⟨_, _, rfl, _⟩ := hv; rfl)

theorem setsL_length : ∀ (vs xs : List AVal) (off : Nat), (setsL xs off vs).length = xs.length
  | [], _, _ => rfl
  | v :: vs, xs, off => by simp only [setsL]; rw [setsL_length vs]; simp

theorem fillA_length {place : Nat → Option (Nat × Nat)} : ∀ (parts : List (Nat × AVal)) (xs out : List AVal), fillA place xs parts = some out → out.length = xs.length
  | [], xs, out, h => by simp only [fillA, Option.some.injEq] at h; rw [h]
  | (i, v) :: parts, xs, out, h => by
    simp only [fillA] at h
    split at h
    · rename_i off size vs _ _
      cases hb : (Nat.beq vs.length size && Nat.ble (off + size) xs.length) <;> rw [hb] at h <;> simp only [cond_true, cond_false, reduceCtorEq] at h
      rw [fillA_length parts _ _ h, setsL_length]
    · simp at h

/-- The value of a new block's operation: the destination, the new value, the new block, what has to hold. -/
def stepNew (T : TTab) (N : Nat) (g : Regs) (n : Nat) (o : Oper) : Option (Nat × AVal × ABlk × Prop) :=
  match o.dst with
  | none => none
  | some d => bif Nat.blt d N then
      match o.op with
      | .alloc t => match T.look t with
        | some ty => match ty.k with
          | .arr _ _ => some (d, .ptr n 0, .plain ty.zero, ty.zero ≠ [])
          | _ => forceL (ty.zero.map .r) fun cs => some (d, .ptr n 0, .mixed cs, ty.zero ≠ [])
        | none => none
      | .box _ x => match cellsF (evA g x) with
        | some cs => some (d, .ptr n 0, .mixed cs, True)
        | none => none
      | .buildSlice t len parts => match T.look t with
        | some { k := .slice e, .. } => match T.look e with
          | some te =>
            match fillA (fun i => some (i * te.size, te.size)) ((List.replicate len (te.zero.map AVal.r)).flatten) (parts.toList.map fun p => (p.1, evA g p.2)) with
            | some cells => forceL cells fun cs => some (d, .sl n 0 len te.size, .mixed cs, (len * te.size ≤ 16777216 ∧ te.zero.length = te.size) ∧ te.zero ≠ [])
            | none => none
          | none => none
        | _ => none
      | _ => none
    else none

section
variable {P : Program} {T : TTab} {f N : Nat} {m : Md} {ops : Array Oper} {o : Oper} {rest : List Oper} {k : List Item} {g g' : Regs} {h h' : Hp} {Post : AVal → Hp → Prop}

theorem opStep2_new (hTO : TOk P T) {d : Nat} {v : AVal} {blk : ABlk} {c : Prop} (hp : stepNew T N g h.nxt o = some (d, v, blk, c)) (hc : c) : OpStep2 P N o g h v (h.push blk) := by
  intro X R μ a w e5 e6 e7
  unfold stepNew at hp
  simp only [cellsF_eq] at hp
  split at hp
  case h_1 => simp at hp
  rename_i d' hd
  cases hb : Nat.blt d' N <;> rw [hb] at hp <;> simp only [cond_true, cond_false, reduceCtorEq] at hp
  have hlt : d' < a.tmps.size := by rw [e5]; exact Nat.le_of_ble_eq_true hb
  split at hp
  case h_4 => simp at hp
  · rename_i t hop
    split at hp
    case h_2 => simp at hp
    rename_i ty hT
    have key : ∀ bd, BodyRel R μ w bd ((ty.zero.map RVal.conc)) → ty.zero ≠ [] → d' = d → v = .ptr h.nxt 0 → blk = bd → ∃ v' w' R' μ', ((execOp a.eval o).run P w = .ok (.value v') w' ∨ ((execOp a.eval o).run P w = .ok .skip w' ∧ v' = undef)) ∧ ARel R' μ' w' v v' ∧ RegRel R' μ' w' g a.tmps ∧ HRel X R' μ' (h.push blk) w' := by
      rintro bd hbd hz rfl rfl rfl
      obtain ⟨_, i, hu, hi, _, _, _, _, h0⟩ := (hTO t ty hT).ex
      obtain ⟨z, hz1, hz2, hz3⟩ := h0.resolve_left hz
      obtain ⟨H1, H2, _⟩ := new_block e7 e6 z.cells t (0, 0) (by simp) hbd (fun j v hj => by rw [← hz2] at hj; simpa using hj)
      refine ⟨.pointer (some ⟨w.heap.size, 0, none⟩), _, R, _, .inl ?_, ?_, H2, H1⟩
      · have hz4 : (zeroValue t).run P w = .ok z w := by simp [zeroValue, run_typeInfo w hi, hz1]
        simp only [execOp, hop, Instr.alloc, Sem.run_bind, hz4, Result.andThen_ok, newVar, newRow, newObj, Sem.run_pure]
        rfl
      · simp only [ARel]; exact ⟨w.heap.size, 0, new_name e7, rfl⟩
    have hbase : ty.zero ≠ [] → RRels R w ty.zero (ty.zero.map RVal.conc) := by
      intro hz
      obtain ⟨_, i, _, hi, _, _, _, _, h0⟩ := (hTO t ty hT).ex
      obtain ⟨z, hz1, hz2, hz3⟩ := h0.resolve_left hz
      obtain ⟨z', h1, h2, _⟩ := zero_ok (P := P) (w := w) (R := R) (μ := μ) hTO hT hz
      rw [ARels.of_r] at h2
      have : z' = z := by
        have hz4 : (zeroValue t).run P w = .ok z w := by simp [zeroValue, run_typeInfo w hi, hz1]
        rw [hz4] at h1; simp at h1; exact h1.symm
      rw [this, hz2] at h2
      exact h2
    split at hp
    · simp only [Option.some.injEq, Prod.mk.injEq] at hp
      obtain ⟨rfl, rfl, rfl, rfl⟩ := hp
      exact key (.plain ty.zero) (hbase hc) hc rfl rfl rfl
    · rw [forceL_eq] at hp
      simp only [Option.some.injEq, Prod.mk.injEq] at hp
      obtain ⟨rfl, rfl, rfl, rfl⟩ := hp
      exact key (.mixed (ty.zero.map .r)) (ARels.of_r.2 (hbase hc)) hc rfl rfl rfl
  · rename_i t x hop
    split at hp
    case h_2 => simp at hp
    rename_i cs hcs
    simp only [Option.some.injEq, Prod.mk.injEq] at hp
    obtain ⟨rfl, rfl, rfl, rfl⟩ := hp
    have hx := evA_rel (a := a) e6 x
    have hcl := cellsA_rel hcs hx
    obtain ⟨H1, H2, _⟩ := new_block e7 e6 (a.eval x).cells t (0, 0) (by simp) (bd := .mixed cs) hcl (fun j v hj => by simpa using hj)
    refine ⟨.pointer (some ⟨w.heap.size, 0, none⟩), _, R, _, .inl ?_, ?_, H2, H1⟩
    · simp only [execOp, hop, Instr.box, Sem.run_bind, newVar, newRow, newObj]
      rfl
    · simp only [ARel]; exact ⟨w.heap.size, 0, new_name e7, rfl⟩
  · rename_i t len parts hop
    split at hp
    case h_2 => simp at hp
    rename_i e _ _ _ hT
    split at hp
    case h_2 => simp at hp
    rename_i te hTe
    split at hp
    case h_2 => simp at hp
    rename_i cells hf
    rw [forceL_eq] at hp
    simp only [Option.some.injEq, Prod.mk.injEq] at hp
    obtain ⟨rfl, rfl, rfl, rfl⟩ := hp
    obtain ⟨⟨hc1, hc2⟩, hc3⟩ := hc
    obtain ⟨D, hD, hk⟩ := tyk_ok hTO hT
    simp only [TyK.ok] at hk
    subst hk
    obtain ⟨zv, hz1, hz2, hz3⟩ := zero_ok (P := P) (w := w) (R := R) (μ := μ) hTO hTe hc3
    have hzs : zv.cells.size = te.size := by rw [← Array.length_toList, hz3]; exact hc2
    have hrep : ARels R μ w ((List.replicate len (te.zero.map AVal.r)).flatten) ((List.replicate len zv.cells.toList).flatten) := by
      clear hc1 hf hop
      induction len with
      | zero => simp [ARels]
      | succ n ih => simpa [List.replicate_succ] using hz2.append ih
    obtain ⟨cs, h1, h2⟩ := fillA_rel (pl := fun i => some (i * te.size, te.size)) (fun _ _ h => h) (parts.toList.map fun p => (p.1, evA g p.2)) (parts.map fun (i, x) => (i, a.eval x)).toList _ _ cells
      (by simp [List.map_map, Function.comp_def]) (fun i u c ha hb => by
        simp only [List.getElem?_map, Option.map_eq_some_iff, Array.toList_map] at ha hb
        obtain ⟨p, hp, rfl⟩ := ha
        obtain ⟨q, hq, rfl⟩ := hb
        rw [hp] at hq
        cases hq
        exact evA_rel (a := a) e6 _) hrep hf
    obtain ⟨H1, H2, _⟩ := new_block e7 e6 ⟨cs⟩ e (0, 0) (by simp) (bd := .mixed cells) h2 (fun j v hj => by simpa using hj)
    refine ⟨.slice (some ⟨w.heap.size, 0, none⟩) len len, _, R, _, .inl ?_, ?_, H2, H1⟩
    · have h3 : (if len * te.size = 0 then pure #[] else do pure (← zeroValue e).cells : Sem (Array Value)).run P w = .ok (if len * te.size = 0 then #[] else zv.cells) w := by
        split <;> simp [hz1]
      simp only [execOp, hop, Instr.buildSlice, Sem.run_bind, run_underlying hD, Result.andThen_ok, size_ok hTO hTe, Sem.run_ite]
      rw [if_neg (by omega)]
      simp only [Sem.run_pure, Result.andThen_ok, hz1]
      have h4 : ((Array.range (len * te.size)).map fun x => (if len * te.size = 0 then #[] else zv.cells)[x % (if len * te.size = 0 then #[] else zv.cells).size]!) = ⟨(List.replicate len zv.cells.toList).flatten⟩ := by
        apply Array.ext'
        by_cases h0 : len * te.size = 0
        · rw [if_pos h0, h0]
          have : (List.replicate len zv.cells.toList).flatten = [] := by
            rcases Nat.mul_eq_zero.1 h0 with h5 | h5
            · subst h5; rfl
            · have : zv.cells.toList = [] := by rw [← List.length_eq_zero_iff, Array.length_toList, hzs, h5]
              rw [this]; simp
          simp [this]
        · rw [if_neg h0, ← hzs]
          exact range_mod zv.cells len
      have h5 : ∀ zr, (if len * te.size = 0 then (pure #[] : Sem (Array Value)) else do pure (← zeroValue e).cells).run P w = .ok zr w → zr = (if len * te.size = 0 then #[] else zv.cells) := by
        intro zr hzr; rw [h3] at hzr; simp only [Result.ok.injEq, and_true] at hzr; exact hzr.symm
      by_cases h0 : len * te.size = 0
      · rw [if_pos h0]
        rw [if_pos h0] at h4
        rw [h4]
        rw [show Instr.fill _ _ _ = some ⟨cs⟩ from h1]
        rfl
      · rw [if_neg h0]
        rw [if_neg h0] at h4
        rw [h4]
        rw [show Instr.fill _ _ _ = some ⟨cs⟩ from h1]
        rfl
    · simp only [ARel]
      have hl : cs.length = len * te.size := by
        rw [h2.length, fillA_length _ _ _ hf]
        simp [hc2]
      have hpos : 0 < te.size := by rw [← hc2]; exact List.length_pos_iff.2 hc3
      have hlen : len ≤ len * te.size := Nat.le_mul_of_pos_right _ hpos
      exact ⟨w.heap.size, 0, len, ⟨cs⟩, e, (0, 0), new_name e7, rfl, Nat.le_refl _, by unfold maxLen; omega, heap_new w _, by simp [hl]⟩

theorem stepNew_dst {d : Nat} {v : AVal} {blk : ABlk} {c : Prop} {n : Nat} (hp : stepNew T N g n o = some (d, v, blk, c)) : o.dst = some d ∧ Nat.blt d N = true := by
  unfold stepNew at hp
  simp only [cellsF_eq] at hp
  split at hp
  case h_1 => simp at hp
  rename_i d' hd
  cases hb : Nat.blt d' N <;> rw [hb] at hp <;> simp only [cond_true, cond_false, reduceCtorEq] at hp
  simp only [forceL_eq] at hp
  have : d' = d := by
    repeat' split at hp
    all_goals first
      | (simp at hp; done)
      | (simp only [Option.some.injEq, Prod.mk.injEq] at hp; exact hp.1)
  subst this
  exact ⟨hd, hb⟩

theorem opStep_new (hTO : TOk P T) {d : Nat} {v : AVal} {blk : ABlk} {c : Prop} (hp : stepNew T N g h.nxt o = some (d, v, blk, c)) (hc : c) : OpStep P N o g h ((d, v) :: g) (h.push blk) :=
  opStep_of2 (opStep2_new hTO hp hc) (stepNew_dst hp).1 (stepNew_dst hp).2

theorem ar_new (hTO : TOk P T) {t : Bool} {d : Nat} {v : AVal} {blk : ABlk} {c : Prop} (hp : stepNew T N g h.nxt o = some (d, v, blk, c)) (hg : guardB ops g o = some t) (ht : t = true) (hc : c)
    (hk : AReg P f N m ops rest k ((d, v) :: g) (h.push blk) Post) : AReg P f N m ops (o :: rest) k g h Post :=
  ar_op hg ht (opStep_new hTO hp hc) hk

end
end Go.Proofs.Ytplfajhaehkhnaa

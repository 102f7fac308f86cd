/-
  ABSTRACT MACHINE, beside the others: 'make' of a slice of structs, read-only.
-/
import Derived.Test.YtopfpkmdkcjjlaaMB
namespace Go.Proofs.Ytopfpkmdkcjjlaa
open Go
set_option linter.unusedVariables false
section
variable {P : Program} {T : TTab} {N : Nat} {o : Oper} {g g' : Regs} {h : Hp}
def repC (n : Nat) (zs : List RVal) : List RVal := (List.replicate n zs).flatten
theorem repC_len (zs : List RVal) : ∀ n : Nat, (repC n zs).length = n * zs.length
  | 0 => by simp [repC]
  | n + 1 => by rw [repC, List.replicate_succ, List.flatten_cons, List.length_append, ← repC, repC_len zs n, Nat.succ_mul]; omega
theorem madeCells_rep (z : Array Value) (n : Nat) : (madeCells z (n * z.size)).toList = (List.replicate n z.toList).flatten := by
  simp only [madeCells, Array.toList_map, Array.toList_range]
  induction n with
  | zero => simp
  | succ n ih =>
    rw [Nat.succ_mul, Nat.add_comm, List.range_add, List.map_append, List.replicate_succ, List.flatten_cons, ← ih, List.map_map]
    congr 1
    · apply List.ext_getElem
      · simp
      · intro i h1 h2
        simp at h1
        simp [Nat.mod_eq_of_lt h1, h1]
    · apply List.map_congr_left
      intro a _
      simp [Nat.add_mod_left]
theorem rrels_rep {R : Nat → Prop} {w : World} {zs : List RVal} {cs : List Value} (h : RRels R w zs cs) : ∀ n : Nat, RRels R w (repC n zs) (List.replicate n cs).flatten
  | 0 => by simp [repC, RRels]
  | n + 1 => by
    rw [repC, List.replicate_succ, List.replicate_succ, List.flatten_cons, List.flatten_cons]
    exact RRels.append h (rrels_rep h n)
/-- 'make([]S, n)', S a struct: read-only. -/
def makeSA (T : TTab) (N : Nat) (g : Regs) (o : Oper) : Option (Nat × Nat × Int × List RVal × Prop) :=
  match o.dst, o.op with
  | some d, .makeSlice t l c => bif Nat.blt d N then
    match T.look t, evA g l, evA g c with
    | some { k := .slice e, .. }, .r (.int _ n), .r (.int _ n') =>
      match T.look e with
      | some te => some (d, te.size, n, te.zero, (0 ≤ n ∧ n * te.bytes ≤ 140737488355328) ∧ n = n' ∧ te.size = te.zero.length ∧ n * te.size ≤ 140737488355328 ∧ n ≤ 140737488355328 ∧ te.zero ≠ [])
      | none => none
    | _, _, _ => none
    else none
  | _, _ => none
theorem opStep_makeS (hTO : TOk P T) {d z : Nat} {n : Int} {zs : List RVal} {c : Prop} (hp : makeSA T N g o = some (d, z, n, zs, c)) (hc : c) : OpStep P N o g h ((d, .sl h.nxt 0 n.toNat z) :: g) (h.push (.plain (repC n.toNat zs))) := by
  intro X R μ a w e5 e6 e7
  unfold makeSA at hp
  split at hp
  case h_2 => simp at hp
  rename_i d' t l cc hd hop
  cases hb : Nat.blt d' N <;> rw [hb] at hp <;> simp only [cond_true, cond_false, reduceCtorEq] at hp
  have hlt : d' < a.tmps.size := by rw [e5]; exact Nat.le_of_ble_eq_true hb
  split at hp
  case h_2 => simp at hp
  rename_i e _ _ _ k1 n1 k2 n2 hT hl hcc
  split at hp
  case h_2 => simp at hp
  rename_i te hE
  simp only [Option.some.injEq, Prod.mk.injEq] at hp
  obtain ⟨rfl, rfl, rfl, rfl, rfl⟩ := hp
  obtain ⟨⟨hn0, hnby⟩, hnn, hsz, hnsz, hnb, hz⟩ := hc
  subst hnn
  obtain ⟨D, hD, hk⟩ := tyk_ok hTO hT
  simp only [TyK.ok] at hk
  subst hk
  have h1 := evA_rel (a := a) e6 l
  have h2 := evA_rel (a := a) e6 cc
  rw [hl] at h1
  rw [hcc] at h2
  simp only [ARel, RRel] at h1 h2
  obtain ⟨_, i, _, hi, hs, hby, _, _, h0⟩ := (hTO e te hE).ex
  obtain ⟨zv, hz1, hz2, hz3⟩ := h0.resolve_left hz
  obtain ⟨zv', hz4, hz5, hz6⟩ := zero_ok (P := P) (w := w) (R := R) (μ := μ) hTO hE hz
  have hze : zv' = zv := by
    have : (zeroValue e).run P w = .ok zv w := by simp [zeroValue, run_typeInfo w hi, hz1]
    rw [this] at hz4; simp at hz4; exact hz4.symm
  subst hze
  have hrels : RRels R w te.zero zv'.cells.toList := by rw [ARels.of_r] at hz5; exact hz5
  have hsize : zv'.cells.size = te.size := by rw [hsz, ← hz6]; simp
  have hrun := run_make (P := P) w t e i zv' hD hi hz1 k1 k2 n1 n1 hn0 (Int.le_refl _) (by rw [hby, Int.mul_comm]; omega) (by omega)
  rw [hs, ← hsize] at hrun
  have hbd : BodyRel R μ w (.plain (repC n1.toNat te.zero)) (List.replicate n1.toNat zv'.cells.toList).flatten := by simp only [BodyRel]; exact rrels_rep hrels _
  obtain ⟨H1, H2, _⟩ := new_block e7 e6 (madeCells zv'.cells (n1.toNat * zv'.cells.size)) e (0, 0) (by simp) hbd (fun j v hj => by
    rw [← madeCells_rep] at hj; simpa using hj)
  refine ⟨.slice (some ⟨w.heap.size, 0, none⟩) n1.toNat n1.toNat, _, R, _, .inl ?_, ?_, H1⟩
  · simp only [execOp, hop, h1, h2, Sem.run_bind]
    rw [hrun]
    rfl
  · rw [hd]
    refine H2.put hlt ?_
    simp only [ARel]
    exact ⟨w.heap.size, 0, n1.toNat, _, e, (0, 0), new_name e7, rfl, Nat.le_refl _, by unfold maxLen; omega, heap_new w _, by rw [size_madeCells, hsize]; omega⟩
theorem makeSA_congr (hag : ∀ x ∈ o.op.operands, evA g' x = evA g x) : makeSA T N g' o = makeSA T N g o := by
  unfold makeSA
  split
  · rename_i t l c _ hop
    rw [hop] at hag
    rw [hag l (by simp [Op.operands]), hag c (by simp [Op.operands])]
  · rfl
theorem makeSA_dst {d z : Nat} {n : Int} {zs : List RVal} {c : Prop} (hp : makeSA T N g o = some (d, z, n, zs, c)) : o.dst = some d ∧ Nat.blt d N = true := by
  unfold makeSA at hp
  split at hp
  case h_2 => simp at hp
  rename_i d' t l cc hd hop
  cases hb : Nat.blt d' N <;> rw [hb] at hp <;> simp only [cond_true, cond_false, reduceCtorEq] at hp
  split at hp
  case h_2 => simp at hp
  split at hp
  case h_2 => simp at hp
  simp only [Option.some.injEq, Prod.mk.injEq] at hp
  exact ⟨by rw [← hp.1]; exact hd, by rw [← hp.1]; exact hb⟩
theorem qop_makeSRo (hTO : TOk P T) {d z : Nat} {n : Int} {zs : List RVal} {c : Prop} (hp : makeSA T N g o = some (d, z, n, zs, c)) (hc : c) (hz : zs.length = z) (hnb : (o.op.operands.toList.all fun x => AVal.nb 0 (evA g x)) = true) : QOp P N h h o g (.r (.ro n.toNat (repC n.toNat zs))) := by
  obtain ⟨hd, hN⟩ := makeSA_dst hp
  obtain ⟨_, hr, hcr⟩ := roAll_of (bd := .plain (repC n.toNat zs)) (n := n.toNat) (z := z) (v := .ro n.toNat (repC n.toNat zs)) rfl (by rw [repC_len, hz])
  exact qop_roq hd hN (fun g' hag => opStep_makeS (h := ⟨0, [], false⟩) hTO ((makeSA_congr hag).trans hp) hc) hnb (fun R μ w vs hb => hb) hr hcr
end
end Go.Proofs.Ytopfpkmdkcjjlaa


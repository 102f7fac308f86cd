/-
  ABSTRACT MACHINE, 31: what slices.Grow asks: a part of nil, its room, octets made behind it; a block told more loosely.
-/
import Derived.Test.YtplfajhaehkhnaaA30
namespace Go.Proofs.Ytplfajhaehkhnaa
open Go
set_option linter.unusedVariables false
set_option linter.unusedSimpArgs false

section
variable {P : Program} {T : TTab} {f N : Nat} {m : Md} {ops : Array Oper} {o : Oper} {rest : List Oper} {k : List Item} {g g' : Regs} {h h' : Hp} {Post : AVal → Hp → Prop}

/-- 'nil[:0]'. -/
def sliceNA (T : TTab) (g : Regs) (o : Oper) : Bool :=
  match o.op with
  | .slice t x lo hi mx =>
    match T.look t, evA g x, lo, mx with
    | some { k := .slice e, .. }, .r .nil, none, none =>
      match T.look e, optInt (evA g) hi with
      | some _, some (some 0) => true
      | _, _ => false
    | _, _, _, _ => false
  | _ => false

theorem qop_sliceN (hTO : TOk P T) (hp : sliceNA T g o = true) : QOp P N h h o g (.r .nil) := by
  intro g' hag X R μ a w Q e5 e6 e7
  unfold sliceNA at hp
  split at hp
  case h_2 => cases hp
  rename_i t x lo hi mx hop
  split at hp
  case h_2 => cases hp
  rename_i e _ _ _ hT hx
  split at hp
  case h_2 => cases hp
  rename_i te hE hhi
  rw [hop] at hag
  obtain ⟨d, hd, hk⟩ := tyk_ok hTO hT
  simp only [TyK.ok] at hk
  subst hk
  have hxr := evA_rel (a := a) e6 x
  rw [hag x (by simp [Op.operands]), hx] at hxr
  simp only [ARel, RRel] at hxr
  obtain ⟨ad, hv⟩ := hxr
  cases hi with
  | none => simp [optInt] at hhi
  | some y =>
    have hy := evA_rel (a := a) e6 y
    rw [hag y (by simp [Op.operands])] at hy
    simp only [optInt] at hhi
    split at hhi
    case h_2 => simp at hhi
    rename_i kk n hz
    simp only [Option.some.injEq] at hhi
    subst hhi
    rw [hz] at hy
    simp only [ARel, RRel] at hy
    refine wp_value (u := .slice ad 0 0) (w' := w) ?_ ⟨_, R, μ, rfl, ?_, e6, e7⟩
    · simp only [execOp, hop, hv, Sem.run_bind, Option.map_none, Option.map_some, hy]
      have : (Instr.sliceAt t (.slice ad 0 0) none (some (.int kk 0)) none).run P w = .ok (.slice ad 0 0) w := by
        have hb : (Instr.sliceBounds true 0 0 none (some (.int kk 0)) none).run P w = .ok (0, 0, 0) w := by
          simp only [Instr.sliceBounds, Sem.run_bind, Sem.run_pure, Result.andThen_ok, run_sliceBound (P := P) (w := w) (k := kk) (i := 0) (y := 0) (by omega)]; rfl
        simp only [Instr.sliceAt, Instr.slice, Sem.run_bind, run_underlying hd, Result.andThen_ok, hb, Sem.run_pure, size_ok hTO hE]
        rfl
      rw [this]
      rfl
    · simp only [ARel, RRel]
      exact ⟨ad, rfl⟩

/-- 'cap(nil)'. -/
def capNA (T : TTab) (g : Regs) (o : Oper) : Bool :=
  match o.op with
  | .call c =>
    match c.callee, c.args.toList, c.argTypes.toList with
    | .builtin .cap, [x], [t] =>
      match T.look t, evA g x with
      | some { k := .slice _, .. }, .r .nil => true
      | _, _ => false
    | _, _, _ => false
  | _ => false

theorem qop_capN (hTO : TOk P T) (hp : capNA T g o = true) : QOp P N h h o g (.r (.int .i64 0)) := by
  intro g' hag X R μ a w Q e5 e6 e7
  unfold capNA at hp
  split at hp
  case h_2 => cases hp
  rename_i cl hop
  split at hp
  case h_2 => cases hp
  rename_i x t hcal hargs htys
  split at hp
  case h_2 => cases hp
  rename_i e _ _ _ hT hx
  rw [hop] at hag
  obtain ⟨d, hd, hk⟩ := tyk_ok hTO hT
  simp only [TyK.ok] at hk
  subst hk
  have hmem : x ∈ (Op.call cl).operands := by
    have h1 : x ∈ cl.args := Array.mem_toList_iff.1 (by rw [hargs]; simp)
    simp only [Op.operands, Call.operands, hcal]
    simp [h1]
  have hxr := evA_rel (a := a) e6 x
  rw [hag x hmem, hx] at hxr
  simp only [ARel, RRel] at hxr
  obtain ⟨ad, hv⟩ := hxr
  refine wp_value (u := .int .i64 0) (w' := w) ?_ ⟨_, R, μ, rfl, by simp [ARel, RRel], e6, e7⟩
  have ha1 : cl.args.map a.eval = ⟨[a.eval x]⟩ := by apply Array.ext'; rw [Array.toList_map, hargs]; rfl
  have ha2 : cl.argTypes = ⟨[t]⟩ := by apply Array.ext'; exact htys
  simp only [execOp, hop, resolve, hcal, Sem.run_bind, Sem.run_pure, Result.andThen_ok, invoke, builtin, ha1, ha2, hv]
  simp [Builtin.cap_, run_underlying hd, goInt]

/-- Octets made behind nothing. -/
def appMakeA (T : TTab) (g : Regs) (o : Oper) : Option Int :=
  match o.op with
  | .call c =>
    match c.callee, c.args.toList, c.argTypes.toList with
    | .builtin .append, [s, x], [t, t2] =>
      match T.look t, T.look t2, evA g s, evA g x with
      | some { k := .slice e, .. }, some { k := .int _, .. }, .r .nil, .r (.int .i64 n) =>
        match T.look e with
        | some ⟨.int .u8, 1, 1, [.int .u8 0]⟩ => some n
        | _ => none
      | _, _, _, _ => none
    | _, _, _ => none
  | _ => none

theorem run_appMake (hTO : TOk P T) {w : World} {t t2 e ty : TypeId} {tyt tyt2 : Ty} {k2 : IntKind} (hT : T.look t = some tyt) (hk : tyt.k = .slice e) (hE : T.look e = some ⟨.int .u8, 1, 1, [.int .u8 0]⟩) (hT2 : T.look t2 = some tyt2) (hk2 : tyt2.k = .int k2)
    {base : Option Addr} {n : Nat} (h0 : 0 < n) (hn : n ≤ 140737488355328) :
    ∃ cells : Array Value, (Builtin.append_ ⟨[t, t2]⟩ ty ⟨[.slice base 0 0, .int .i64 (n : Int)]⟩).run P w = .ok (.slice (some ⟨w.heap.size, 0, none⟩) n cells.size) ((World.drawnOnce w).alloc (.cells cells e)) ∧ n ≤ cells.size ∧ cells.size ≤ maxLen ∧ ∀ j, j < n → cells[j]? = some (.int .u8 0) := by
  obtain ⟨D, hD, hDk⟩ := tyk_ok hTO hT
  rw [hk] at hDk
  simp only [TyK.ok] at hDk
  subst hDk
  obtain ⟨D2, hD2, hDk2⟩ := tyk_ok hTO hT2
  rw [hk2] at hDk2
  simp only [TyK.ok] at hDk2
  subst hDk2
  obtain ⟨_, i, _, hi, hsz, hby, _, _, _⟩ := (hTO e _ hE).ex
  have hfit : ¬ (Builtin.nextslicecap n 0 * i.bytes > 2 ^ 48) := by
    rw [hby]
    exact Nat.not_lt.2 (growslice_fits (need := n) (old := 0) (bytes := 1) h0 (by omega))
  let q := Question.appendCap n 0 e
  have hq : (choose q).run P w = .ok (q.cut (w.tape w.drawn q)) (World.drawnOnce w) := by
    simp [choose, Sem.run, q, Question.forced, World.drawnOnce]
  obtain ⟨zv, hz1, hz2, hz3⟩ := zero_ok (P := P) (w := World.drawnOnce w) (R := fun _ => False) (μ := []) hTO hE (by simp)
  have hzc : zv.cells = #[.int .u8 0] := by
    apply Array.ext'
    simp only [List.map_cons, List.map_nil, ARels, ARel, RRel] at hz2
    obtain ⟨c, r, h1, rfl, rfl⟩ := hz2
    exact h1
  have hqr : n ≤ q.cut (w.tape w.drawn q) ∧ q.cut (w.tape w.drawn q) ≤ maxLen := by
    simp only [q, Question.cut]
    have hlt := Nat.mod_lt (w.tape w.drawn (.appendCap n 0 e)) (show 0 < 2 ^ 63 - n by omega)
    simp only [maxLen]
    omega
  have hroomA : ∀ b : Nat, (askRoom b).run P (World.drawnOnce w) = .ok () (World.drawnOnce w) := by
    intro b
    unfold askRoom
    split <;> simp [mark, Sem.run]
  have hwrap : IntKind.i64.wrap (n : Int) = (n : Int) := by
    simp only [IntKind.wrap, IntKind.bits, IntKind.signed]
    simp
    omega
  have hmax : ¬ ((n : Int) > IntKind.i64.max) := by
    have e2 : IntKind.i64.max = 9223372036854775807 := by decide
    rw [e2]; omega
  have hfc : (Builtin.firstCells 1 0 (.slice base 0 0)).run P (World.drawnOnce w) = .ok #[] (World.drawnOnce w) := by
    cases base <;> simp [Builtin.firstCells, loadCells, loadCellsFrom]
  have hns : n * 1 ≠ 0 := by omega
  refine ⟨#[] ++ Builtin.zeroCells #[.int .u8 0] n ++ Builtin.zeroCells #[.int .u8 0] (q.cut (w.tape w.drawn q) - n), ?_, ?_, ?_, ?_⟩
  · have hcs : (#[] ++ Builtin.zeroCells #[.int .u8 0] n ++ Builtin.zeroCells #[.int .u8 0] (q.cut (w.tape w.drawn q) - n) : Array Value).size = q.cut (w.tape w.drawn q) := by
      simp only [Array.size_append, size_zeroCells]
      simp
      omega
    rw [hcs]
    simp only [Builtin.append_, List.getElem?_toArray, List.getElem?_cons_zero, List.getElem?_cons_succ, Sem.run_bind, run_underlying hD, size_ok hTO hE, run_underlying hD2, Result.andThen_ok, Sem.run_pure, asInt]
    have hby' : i.bytes = 1 := hby
    have c1 : ¬ ((n : Int) < 0) := by omega
    have c2 : ¬ ((n : Int) * ((1 : Nat) : Int) > 2 ^ 48) := by omega
    have c3 : ¬ (n ≤ 0) := by omega
    have c4 : ¬ ((n : Int) > IntKind.i64.max ∧ (True ∨ (1 : Nat) = 0)) := fun h => hmax h.1
    have c5 : ¬ (Builtin.nextslicecap n 0 * 1 > 2 ^ 48) := by rw [← hby']; exact hfit
    simp only [if_true, asIntOf, Sem.run_pure, Result.andThen_ok, hwrap, if_neg c1, run_typeInfo w hi, hby', if_neg c2, Int.toNat_natCast, if_neg c3, Sem.run_bind, Sem.run_ite, if_neg c4, if_neg c5, Nat.zero_add]
    rw [show (choose (Question.appendCap n 0 e)).run P w = _ from hq]
    simp only [Result.andThen_ok, run_typeInfo (World.drawnOnce w) hi, hroomA, hfc, hz1, hzc, if_neg hns, Sem.run_bind, Sem.run_pure, Bool.not_true, Bool.false_eq_true, if_false]
    simp only [newRow, newObj, Sem.run_bind, Sem.run_pure]
    rfl
  · simp only [Array.size_append, size_zeroCells]; simp
  · simp only [Array.size_append, size_zeroCells]; simp; omega
  · intro j hj
    simp only [Array.empty_append]
    rw [Array.getElem?_append_left (by simp only [size_zeroCells]; simpa using hj)]
    have : j % 1 = 0 := Nat.mod_one j
    simp [Builtin.zeroCells, hj, this]

theorem qop_appMake (hTO : TOk P T) {n : Nat} (hp : appMakeA T g o = some (n : Int)) (h0 : 0 < n) (hn : n ≤ 140737488355328) : QOp P N h (h.push (.bytes (List.replicate n 0))) o g (.sl h.nxt 0 n 1) := by
  intro g' hag X R μ a w Q e5 e6 e7
  unfold appMakeA at hp
  split at hp
  case h_2 => simp at hp
  rename_i cl hop
  split at hp
  case h_2 => simp at hp
  rename_i s x t t2 hcal hargs htys
  split at hp
  case h_2 => simp at hp
  rename_i e _ _ _ k2 _ _ _ n' hT hT2 hs hx
  split at hp
  case h_2 => simp at hp
  rename_i hE
  simp only [Option.some.injEq] at hp
  subst hp
  rw [hop] at hag
  have hmem : s ∈ (Op.call cl).operands ∧ x ∈ (Op.call cl).operands := by
    have h1 : s ∈ cl.args := Array.mem_toList_iff.1 (by rw [hargs]; simp)
    have h2 : x ∈ cl.args := Array.mem_toList_iff.1 (by rw [hargs]; simp)
    simp only [Op.operands, Call.operands, hcal]
    exact ⟨by simp [h1], by simp [h2]⟩
  have hsr := evA_rel (a := a) e6 s
  rw [hag s hmem.1, hs] at hsr
  have hxr := evA_rel (a := a) e6 x
  rw [hag x hmem.2, hx] at hxr
  simp only [ARel, RRel] at hsr hxr
  obtain ⟨ad, hsr⟩ := hsr
  obtain ⟨cells, h1, h2, h3, h4⟩ := run_appMake (ty := o.type) (base := ad) hTO hT rfl hE hT2 rfl h0 hn
  have e7' : HRel X R μ h (World.drawnOnce w) := e7.drew _
  have e6' : RegRel R μ (World.drawnOnce w) g' a.tmps := e6.mono (fun _ h => h) (onward_drawn R w) (fun _ _ h => h)
  obtain ⟨H1, H2, hon⟩ := new_block e7' e6' cells e (0, 0) (by simp) (bd := .bytes (List.replicate n 0)) (vs := bytesV (List.replicate n 0)) rfl (fun j v hj => by
    simp only [bytesV, List.map_replicate, List.getElem?_replicate] at hj
    split at hj
    · rename_i hlt
      cases hj
      rw [h4 j hlt]; rfl
    · cases hj)
  refine wp_value (u := .slice (some ⟨w.heap.size, 0, none⟩) n cells.size) (w' := (World.drawnOnce w).alloc (.cells cells e (0, 0))) ?_ ⟨_, R, _, rfl, ?_, H2, H1⟩
  · have ha1 : cl.args.map a.eval = ⟨[a.eval s, a.eval x]⟩ := by apply Array.ext'; rw [Array.toList_map, hargs]; rfl
    have ha2 : cl.argTypes = ⟨[t, t2]⟩ := by apply Array.ext'; exact htys
    simp only [execOp, hop, resolve, hcal, Sem.run_bind, Sem.run_pure, Result.andThen_ok, invoke, builtin, ha1, ha2, hsr, hxr]
    rw [h1]
    rfl
  · simp only [ARel]
    exact ⟨w.heap.size, 0, cells.size, cells, e, (0, 0), new_name e7', rfl, h2, h3, heap_new (World.drawnOnce w) _, by simp⟩

/-- A block is told more loosely. -/
theorem ent_blk (β : Nat) (bd bd' : Body) (hg : h.get β = some bd) (he : ∀ (R : Nat → Prop) (μ : Mu) (w : World) (vs : List Value), BodyRel R μ w bd vs → BodyRel R μ w bd' vs) : Ent m g h g (h.set β (some bd')) := by
  intro X R μ w tmps e1 e2 e3
  obtain ⟨b, o, h1, h2, h3, h4⟩ := e3.live β bd hg
  obtain ⟨cells, el, fz, vs, h5, h6, h7, h8, h9⟩ := h4.ex
  exact ⟨R, μ, e2, e3.put h1 h2 h3 ⟨cells, el, fz, vs, h5, h6, he R μ w vs h7, h8, h9⟩ (fun γ blk' o' hne hg' => by
    intro hm
    exact hne (e3.inj γ β blk' bd b b o' o hg' hg hm h1 rfl))⟩
theorem rrel_nilb {R : Nat → Prop} {w : World} {c : Value} (h : RRel R w .nil c) : RRel R w (.bs []) c := by
  simp only [RRel] at h ⊢
  obtain ⟨a, rfl⟩ := h
  exact ⟨a, 0, rfl, Nat.le_refl _, .inl rfl⟩
/-- The first cell: nil is an empty slice. -/
theorem nil_bs {R : Nat → Prop} {μ : Mu} {w : World} {l : List AVal} {vs : List Value} (h : BodyRel R μ w (.mixed (.r .nil :: l)) vs) : BodyRel R μ w (.mixed (.r (.bs []) :: l)) vs := by
  simp only [BodyRel, ARels] at h ⊢
  obtain ⟨c, r, rfl, h1, h2⟩ := h
  exact ⟨c, r, rfl, by simp only [ARel] at h1 ⊢; exact rrel_nilb h1, h2⟩

end
end Go.Proofs.Ytplfajhaehkhnaa

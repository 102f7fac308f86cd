/-
  ABSTRACT MACHINE, 11: reads and writes.
-/
import Derived.Test.YtplfajhaehkhnaaA10
namespace Go.Proofs.Ytplfajhaehkhnaa
open Go

section
variable {P : Program} {T : TTab} {R : Nat → Prop} {μ : Mu} {w : World}

/-- What is read at a place of cells. -/
def LoadsTo (ty : Ty) (cells : List AVal) (off : Nat) (v : AVal) : Prop :=
  (ty.k.agg = false ∧ cells[off]? = some v) ∨ (ty.k.agg = true ∧ ∃ cs, v = .agg cs ∧ (cells.drop off).take ty.size = cs ∧ cs.length = ty.size)

theorem loadVar_sound (hTO : TOk P T) {t : TypeId} {ty : Ty} (hT : T.look t = some ty) {cells : List AVal} {vs : List Value} (hb : ARels R μ w cells vs) {b o off : Nat} (hc : ∀ (j : Nat) v, vs[j]? = some v → w.cell? ⟨b, o + j, none⟩ = some v) {v : AVal} (h : LoadsTo ty cells off v) :
    ∃ c, (loadVar t ⟨b, o + off, none⟩).run P w = .ok c w ∧ ARel R μ w v c := by
  obtain ⟨D, i, hD, hi, hs, _, hok, _, _⟩ := (hTO t ty hT).ex
  have hagg : (isAgg t).run P w = .ok ty.k.agg w := by
    simp only [isAgg, Sem.run_bind, run_underlying hD, Result.andThen_ok]
    cases hk : ty.k <;> rw [hk] at hok <;> simp only [TyK.ok] at hok
    case struct => obtain ⟨a, rfl, _⟩ := hok; rfl
    case other => cases D <;> simp at hok <;> rfl
    all_goals subst hok; rfl
  rcases h with ⟨ha, h⟩ | ⟨ha, cs, rfl, h1, h2⟩
  · obtain ⟨c, h3, h4⟩ := hb.get h
    refine ⟨c, ?_, h4⟩
    simp only [loadVar, Sem.run_bind, hagg, ha, Result.andThen_ok, Bool.false_eq_true, if_false, run_load]
    rw [hc _ _ h3]
  · have h3 := (hb.drop off).take ty.size
    rw [h1] at h3
    have hl : ((vs.drop off).take ty.size).length = ty.size := by rw [h3.length]; exact h2
    refine ⟨.agg ⟨(vs.drop off).take ty.size⟩, ?_, by simp only [ARel]; exact ⟨_, rfl, h3⟩⟩
    have h4 := run_loadCells_list (P := P) w ⟨b, o + off, none⟩ ((vs.drop off).take ty.size) (fun j v hj => by
      rw [List.getElem?_take] at hj
      split at hj
      · rw [List.getElem?_drop] at hj
        rw [add_off, Nat.add_assoc]
        exact hc _ _ hj
      · simp at hj)
    rw [hl] at h4
    simp only [loadVar, Sem.run_bind, hagg, ha, Result.andThen_ok, if_true, size_ok hTO hT, h4, Sem.run_pure]

theorem bodyRel_cells {bd : Body} {vs : List Value} (h : BodyRel R μ w bd vs) : ARels R μ w bd.cells vs := by
  cases bd with
  | bytes s =>
    simp only [BodyRel] at h
    subst h
    simp only [Body.cells]
    induction s with
    | nil => simp [bytesV, ARels]
    | cons b s ih => simp only [List.map_cons, bytesV, ARels]; exact ⟨_, _, rfl, by simp [ARel, RRel, byteV], ih⟩
  | plain xs => exact ARels.of_r.2 h
  | mixed cs => exact h

/-- What is read: reckoned. -/
def loadF (ty : Ty) (bd : Body) (off : Nat) : Option (AVal × Prop) :=
  match ty.k.agg, bd with
  | false, .bytes s => some (.r (.int .u8 (s.getD off 0).toNat), off < s.length)
  | false, .plain xs => (xs[off]?).map fun v => (.r v, True)
  | false, .mixed cs => (cs[off]?).map fun v => (v, True)
  | true, .bytes _ => none
  | true, .plain xs => forceL (((xs.drop off).take ty.size).map .r) fun cs => bif Nat.beq cs.length ty.size then some (.agg cs, True) else none
  | true, .mixed cs => forceL ((cs.drop off).take ty.size) fun cs => bif Nat.beq cs.length ty.size then some (.agg cs, True) else none

theorem loadF_sound {ty : Ty} {bd : Body} {off : Nat} {v : AVal} {c : Prop} (h : loadF ty bd off = some (v, c)) (hc : c) : LoadsTo ty bd.cells off v := by
  unfold loadF at h
  split at h
  · rename_i s ha
    simp only [Option.some.injEq] at h
    obtain ⟨rfl, rfl⟩ := Prod.mk.inj h
    exact .inl ⟨ha, by simp [Body.cells, List.getD, hc]⟩
  · rename_i xs ha
    simp only [Option.map_eq_some_iff, Prod.mk.injEq] at h
    obtain ⟨u, h1, rfl, _⟩ := h
    exact .inl ⟨ha, by simp [Body.cells, h1]⟩
  · rename_i cs ha
    simp only [Option.map_eq_some_iff, Prod.mk.injEq] at h
    obtain ⟨u, h1, rfl, _⟩ := h
    exact .inl ⟨ha, by simpa [Body.cells] using h1⟩
  · simp at h
  · rename_i xs ha
    rw [forceL_eq] at h
    cases hb : Nat.beq (((xs.drop off).take ty.size).map AVal.r).length ty.size <;> rw [hb] at h <;> simp only [cond_true, cond_false, reduceCtorEq, Option.some.injEq] at h
    obtain ⟨rfl, _⟩ := Prod.mk.inj h
    exact .inr ⟨ha, _, rfl, by simp only [Body.cells, List.map_take, List.map_drop], Nat.eq_of_beq_eq_true hb⟩
  · rename_i cs ha
    rw [forceL_eq] at h
    cases hb : Nat.beq ((cs.drop off).take ty.size).length ty.size <;> rw [hb] at h <;> simp only [cond_true, cond_false, reduceCtorEq, Option.some.injEq] at h
    obtain ⟨rfl, _⟩ := Prod.mk.inj h
    exact .inr ⟨ha, _, rfl, rfl, Nat.eq_of_beq_eq_true hb⟩

/-- The cells at an address, as a body, and the place in them. -/
def addrF (h : Hp) : AVal → Option (Body × Nat)
  | .ptr β off => (h.get β).map fun blk => (blk, off)
  | .rp xs off => some (.plain xs, off)
  | .bp s off => some (.bytes s, off)
  | _ => none

theorem addrF_sound {X : Ctx} {h : Hp} (H : HRel X R μ h w) {x : AVal} {bd : Body} {off : Nat} (ha : addrF h x = some (bd, off)) {c : Value} (hx : ARel R μ w x c) :
    ∃ b o vs, c = .pointer (some ⟨b, o + off, none⟩) ∧ BodyRel R μ w bd vs ∧ ∀ (j : Nat) v, vs[j]? = some v → w.cell? ⟨b, o + j, none⟩ = some v := by
  cases x <;> simp only [addrF, reduceCtorEq, Option.some.injEq] at ha
  case ptr β off' =>
    simp only [Option.map_eq_some_iff, Prod.mk.injEq] at ha
    obtain ⟨blk, h1, rfl, rfl⟩ := ha
    simp only [ARel] at hx
    obtain ⟨b, o, h2, rfl⟩ := hx
    obtain ⟨b', o', h3, _, _, h4⟩ := H.live β blk h1
    rw [h2] at h3
    cases h3
    obtain ⟨cells, el, fz, vs, h5, h6, h7, h8, _⟩ := h4.ex
    exact ⟨b, o, vs, rfl, h7, fun j v hj => by simp [World.cell?, h5, h8 j v hj]⟩
  case rp xs o0 =>
    obtain ⟨rfl, rfl⟩ := Prod.mk.inj ha
    simp only [ARel] at hx
    obtain ⟨b, o, cs, rfl, h2, h3, h4⟩ := hx
    exact ⟨b, o, cs, rfl, h4, h3⟩
  case bp s o0 =>
    obtain ⟨rfl, rfl⟩ := Prod.mk.inj ha
    simp only [ARel] at hx
    obtain ⟨b, o, rfl, h2, h3⟩ := hx
    exact ⟨b, o, bytesV s, rfl, rfl, h3⟩

end

def stepLoad (T : TTab) (N : Nat) (g : Regs) (h : Hp) (o : Oper) : Option (Nat × AVal × Prop) :=
  match o.dst, o.op with
  | some d, .load t x => bif Nat.blt d N then
      match T.look t, addrF h (evA g x) with
      | some ty, some (bd, off) => (match loadF ty bd off with | some p => forceV p.1 fun v => some (d, v, p.2) | none => none)
      | _, _ => none
    else none
  | _, _ => none
theorem stepLoad_eq (T : TTab) (N : Nat) (g : Regs) (h : Hp) (o : Oper) : stepLoad T N g h o = (match o.dst, o.op with
  | some d, .load t x => bif Nat.blt d N then
      match T.look t, addrF h (evA g x) with
      | some ty, some (bd, off) => (loadF ty bd off).map fun p => (d, p.1, p.2)
      | _, _ => none
    else none
  | _, _ => none) := by
  simp only [stepLoad, forceV_eq]
  split
  · split
    · congr 1; cases loadF _ _ _ <;> rfl
    · rfl
  · rfl

section
variable {P : Program} {T : TTab} {f N : Nat} {m : Md} {ops : Array Oper} {o : Oper} {rest : List Oper} {k : List Item} {g g' : Regs} {h h' : Hp} {Post : AVal → Hp → Prop}

theorem opStep_load_of (hTO : TOk P T) {d : Nat} {t : TypeId} {ty : Ty} {x : Operand} {v : AVal} {bd : Body} {off : Nat} (hd : o.dst = some d) (hop : o.op = .load t x) (hN : Nat.blt d N = true) (hT : T.look t = some ty)
    (ha : addrF h (evA g x) = some (bd, off)) (hl : LoadsTo ty bd.cells off v) : OpStep P N o g h ((d, v) :: g) h := by
  intro X R μ a w e5 e6 e7
  obtain ⟨b, o0, vs, h1, h2, h3⟩ := addrF_sound e7 ha (evA_rel (a := a) e6 x)
  obtain ⟨c, h4, h5⟩ := loadVar_sound (b := b) (o := o0) hTO hT (bodyRel_cells h2) h3 hl
  refine ⟨c, w, R, μ, .inl ?_, ?_, e7⟩
  · simp only [execOp, hop, h1, Instr.loadAt, Instr.sureAddr, Sem.run_bind, Sem.run_pure, Result.andThen_ok, h4]
  · rw [hd]
    exact e6.put (by rw [e5]; exact Nat.le_of_ble_eq_true hN) h5

theorem ar_load (hTO : TOk P T) {t : Bool} {d : Nat} {v : AVal} {c : Prop} (hp : stepLoad T N g h o = some (d, v, c)) (hg : guardB ops g o = some t) (ht : t = true) (hc : c)
    (hk : AReg P f N m ops rest k ((d, v) :: g) h Post) : AReg P f N m ops (o :: rest) k g h Post := by
  refine ar_op hg ht ?_ hk
  rw [stepLoad_eq] at hp
  split at hp
  case h_2 => simp at hp
  rename_i d' ty x hd hop
  cases hb : Nat.blt d' N <;> rw [hb] at hp <;> simp only [cond_true, cond_false, reduceCtorEq] at hp
  split at hp
  case h_2 => simp at hp
  rename_i tyi bd off hT ha
  simp only [Option.map_eq_some_iff, Prod.mk.injEq] at hp
  obtain ⟨⟨u, q⟩, h1, rfl, rfl, rfl⟩ := hp
  exact opStep_load_of hTO hd hop hb hT ha (loadF_sound h1 hc)

/-- A read whose value is told. -/
theorem ar_loadAs (hTO : TOk P T) {b : Bool} {d : Nat} {t : TypeId} {ty : Ty} {x : Operand} {bd : Body} {off : Nat} (v : AVal) (hd : o.dst = some d) (hop : o.op = .load t x) (hN : Nat.blt d N = true) (hT : T.look t = some ty)
    (ha : addrF h (evA g x) = some (bd, off)) (hg : guardB ops g o = some b) (ht : b = true) (hl : LoadsTo ty bd.cells off v)
    (hk : AReg P f N m ops rest k ((d, v) :: g) h Post) : AReg P f N m ops (o :: rest) k g h Post :=
  ar_op hg ht (opStep_load_of hTO hd hop hN hT ha hl) hk

end

/-- Values without names, all of them. -/
def allR : List AVal → Option (List RVal)
  | [] => some []
  | .r v :: l => match allR l with | some r => some (v :: r) | none => none
  | _ :: _ => none

theorem allR_eq : ∀ {l : List AVal} {r : List RVal}, allR l = some r → l = r.map .r
  | [], r, h => by simp only [allR, Option.some.injEq] at h; subst h; rfl
  | x :: l, r, h => by
    cases x <;> simp only [allR, reduceCtorEq] at h
    rename_i v
    cases hl : allR l with
    | none => rw [hl] at h; simp at h
    | some r' =>
      rw [hl] at h
      simp only [Option.some.injEq] at h
      subst h
      simp [allR_eq hl]

def setsP : List RVal → Nat → List RVal → List RVal
  | xs, _, [] => xs
  | xs, off, v :: vs => setsP (xs.set off v) (off + 1) vs

theorem setsP_map : ∀ (rs xs : List RVal) (off : Nat), (setsP xs off rs).map AVal.r = setsL (xs.map AVal.r) off (rs.map AVal.r)
  | [], _, _ => rfl
  | r :: rs, xs, off => by simp only [setsP, List.map_cons, setsL]; rw [setsP_map rs, List.map_set]

/-- A write: the new body, and what has to hold. -/
def storeF (bd : Body) (off : Nat) (vs : List AVal) : Option (Body × Prop) :=
  match bd, vs with
  | .mixed cs, vs => bif vs.all oneA && Nat.ble (off + vs.length) cs.length then forceL (setsL cs off vs) fun l => some (.mixed l, True) else none
  | .plain xs, [.r v] => some (.plain (xs.set off v), off < xs.length)
  | .bytes s, [.r (.int .u8 n)] => some (.bytes (s.set off (UInt8.ofNat n.toNat)), off < s.length ∧ 0 ≤ n ∧ n < 256)
  | .plain xs, vs => match allR vs with | some rs => bif Nat.ble (off + vs.length) xs.length then some (.plain (setsP xs off rs), True) else none | none => none
  | _, _ => none

def stepStore (g : Regs) (h : Hp) (T : TTab) (o : Oper) : Option (Hp × Prop) :=
  match o.dst, o.op with
  | none, .store t x y =>
    match T.look t, evA g x, cellsF (evA g y) with
    | some ty, .ptr β off, some vs =>
      match h.get β with
      | some blk => bif Nat.beq vs.length ty.size then (storeF blk off vs).map fun p => (h.set β (some p.1), p.2) else none
      | none => none
    | _, _, _ => none
  | _, _ => none

/-- Cells, with others laid over them from a place on. -/
def setsV : Array Value → Nat → List Value → Array Value
  | c, _, [] => c
  | c, o, v :: vs => setsV (c.setIfInBounds o v) (o + 1) vs

theorem setsV_size : ∀ (vs : List Value) (c : Array Value) (o : Nat), (setsV c o vs).size = c.size
  | [], _, _ => rfl
  | v :: vs, c, o => by simp only [setsV]; rw [setsV_size vs]; simp

theorem setCells_heap : ∀ (vs : List Value) (w : World) (b o : Nat) (c : Array Value) (e : TypeId) (fz : Nat × Nat), w.heap[b]? = some (Obj.cells c e fz) → (w.setCells b o vs).heap[b]? = some (Obj.cells (setsV c o vs) e fz)
  | [], _, _, _, _, _, _, h => h
  | v :: vs, w, b, o, c, e, fz, h => by
    simp only [World.setCells, setsV]
    refine setCells_heap vs _ b (o + 1) _ e fz ?_
    simp [World.setCell, Array.getElem?_modify, h]

theorem setCells_grown : ∀ (vs : List Value) (w : World) (b o : Nat), w.grownBy (w.setCells b o vs) (some b)
  | [], w, _, _ => ⟨rfl, rfl, rfl, Nat.le_refl _, fun _ _ _ => rfl⟩
  | v :: vs, w, b, o => by
    have h := setCells_grown vs (w.setCell ⟨b, o, none⟩ v) b (o + 1)
    simp only [World.setCells]
    refine ⟨h.os, h.tape, h.output, by have := h.size; simpa [World.setCell] using this, fun k hk hne => ?_⟩
    rw [h.block k (by simpa [World.setCell] using hk) hne, RowKit.Below.heap_setCell]
    intro e; subst e; exact hne rfl

theorem setsV_get : ∀ (vs : List Value) (c : Array Value) (o j : Nat), o + vs.length ≤ c.size → (setsV c o vs)[j]? = if o ≤ j ∧ j < o + vs.length then vs[j - o]? else c[j]?
  | [], c, o, j, _ => by simp only [setsV, List.length_nil, Nat.add_zero]; rw [if_neg (by omega)]
  | v :: vs, c, o, j, hl => by
    simp only [setsV, List.length_cons] at hl ⊢
    rw [setsV_get vs _ (o + 1) j (by simp; omega)]
    by_cases h1 : o + 1 ≤ j ∧ j < o + 1 + vs.length
    · rw [if_pos h1, if_pos (by omega)]
      obtain ⟨p, rfl⟩ : ∃ p, j = o + (p + 1) := ⟨j - o - 1, by omega⟩
      rw [show o + (p + 1) - (o + 1) = p by omega, show o + (p + 1) - o = p + 1 by omega]
      simp
    · rw [if_neg h1]
      by_cases h2 : j = o
      · subst h2
        rw [if_pos (by omega)]
        simp [Array.getElem?_setIfInBounds]
        omega
      · rw [if_neg (by omega)]
        rw [Array.getElem?_setIfInBounds, if_neg (Ne.symm h2)]

section
variable {P : Program} {T : TTab} {R : Nat → Prop} {μ : Mu} {w : World}

theorem setsL_rel2 : ∀ {vs : List AVal} {cs : List Value} (xs : List AVal) (ds : List Value) (off : Nat), ARels R μ w xs ds → ARels R μ w vs cs → ARels R μ w (setsL xs off vs) (setsV ⟨ds⟩ off cs).toList := by
  intro vs
  induction vs with
  | nil => intro cs xs ds off h k; simp only [ARels] at k; subst k; simpa [setsL, setsV] using h
  | cons v vs ih =>
    intro cs xs ds off h k
    simp only [ARels] at k
    obtain ⟨c, r, rfl, hv, hr⟩ := k
    simp only [setsL, setsV]
    have := ih (xs.set off v) (ds.set off c) (off + 1) (h.set off hv) hr
    simpa using this

theorem RRels.set {xs : List RVal} {cs : List Value} (h : RRels R w xs cs) (i : Nat) {v : RVal} {c : Value} (hv : RRel R w v c) : RRels R w (xs.set i v) (cs.set i c) := by
  have := (ARels.of_r (μ := []).2 h).set i (v := .r v) (c := c) (by simpa only [ARel] using hv)
  rw [← List.map_set] at this
  exact ARels.of_r.1 this

theorem storeF_sound {bd bd' : Body} {off : Nat} {vs : List AVal} {c : Prop} (h : storeF bd off vs = some (bd', c)) (hc : c) {cs ds : List Value} (hb : BodyRel R μ w bd ds) (hv : ARels R μ w vs cs) :
    BodyRel R μ w bd' (setsV ⟨ds⟩ off cs).toList ∧ off + cs.length ≤ ds.length ∧ ∀ v ∈ cs, v.oneCell' = true := by
  have hone : ∀ {vs : List AVal} {cs : List Value}, vs.all oneA = true → ARels R μ w vs cs → ∀ v ∈ cs, v.oneCell' = true := by
    intro vs
    induction vs with
    | nil => intro cs _ h; simp only [ARels] at h; subst h; simp
    | cons x xs ih =>
      intro cs ha h
      simp only [ARels] at h
      obtain ⟨u, r, rfl, h1, h2⟩ := h
      simp only [List.all_cons, Bool.and_eq_true] at ha
      intro v hv
      cases hv with
      | head => exact oneA_cell ha.1 h1
      | tail _ hm => exact ih ha.2 h2 v hm
  unfold storeF at h
  split at h
  · rename_i xs
    cases hq : (vs.all oneA && Nat.ble (off + vs.length) xs.length) <;> rw [hq] at h <;> simp only [cond_true, cond_false, reduceCtorEq] at h
    rw [forceL_eq] at h
    simp only [Option.some.injEq] at h
    obtain ⟨rfl, rfl⟩ := Prod.mk.inj h
    rw [Bool.and_eq_true] at hq
    have h2 := Nat.le_of_ble_eq_true hq.2
    simp only [BodyRel] at hb ⊢
    exact ⟨setsL_rel2 _ _ _ hb hv, by rw [hv.length, hb.length]; exact h2, hone hq.1 hv⟩
  · rename_i xs v
    simp only [Option.some.injEq] at h
    obtain ⟨rfl, rfl⟩ := Prod.mk.inj h
    simp only [ARels] at hv
    obtain ⟨u, r, rfl, h1, h2⟩ := hv
    subst h2
    simp only [BodyRel] at hb ⊢
    have h1' := h1
    simp only [ARel] at h1
    refine ⟨by simpa [setsV] using RRels.set hb off h1, by rw [hb.length]; simp; omega, ?_⟩
    intro x hx
    simp only [List.mem_singleton] at hx
    subst hx
    exact oneA_cell (by rfl) h1'
  · rename_i s n
    simp only [Option.some.injEq] at h
    obtain ⟨rfl, rfl⟩ := Prod.mk.inj h
    simp only [ARels] at hv
    obtain ⟨u, r, rfl, h1, h2⟩ := hv
    subst h2
    simp only [BodyRel] at hb ⊢
    subst hb
    simp only [ARel, RRel] at h1
    subst h1
    refine ⟨?_, by simp [bytesV]; omega, by simp [Value.oneCell']⟩
    simp only [setsV, bytesV, List.setIfInBounds_toArray, List.map_set]
    congr 1
    simp only [byteV]
    congr 1
    have : (UInt8.ofNat n.toNat).toNat = n.toNat := by simp; omega
    rw [this]; omega
  · rename_i xs _
    split at h
    case h_2 => simp at h
    rename_i rs hr
    cases hq : Nat.ble (off + vs.length) xs.length <;> rw [hq] at h <;> simp only [cond_true, cond_false, reduceCtorEq] at h
    simp only [Option.some.injEq] at h
    obtain ⟨rfl, rfl⟩ := Prod.mk.inj h
    have h2 := Nat.le_of_ble_eq_true hq
    simp only [BodyRel] at hb ⊢
    have he := allR_eq hr
    have hall : vs.all oneA = true := by rw [he]; simp [oneA]
    have h3 := setsL_rel2 (xs.map AVal.r) ds off (ARels.of_r.2 hb) hv
    rw [he, ← setsP_map, ARels.of_r] at h3
    exact ⟨h3, by rw [hv.length, hb.length]; exact h2, hone hall hv⟩
  · simp at h

end

section
variable {P : Program} {T : TTab} {f N : Nat} {m : Md} {ops : Array Oper} {o : Oper} {rest : List Oper} {k : List Item} {g g' : Regs} {h h' : Hp} {Post : AVal → Hp → Prop}

theorem opStep2_store (hTO : TOk P T) {c : Prop} (hp : stepStore g h T o = some (h', c)) (hc : c) : OpStep2 P N o g h .any h' := by
  intro X R μ a w e5 e6 e7
  unfold stepStore at hp
  simp only [cellsF_eq] at hp
  split at hp
  case h_2 => simp at hp
  rename_i t x y hd hop
  split at hp
  case h_2 => simp at hp
  rename_i ty β off vs hT hx hy
  split at hp
  case h_2 => simp at hp
  rename_i blk hg
  cases hb : Nat.beq vs.length ty.size <;> rw [hb] at hp <;> simp only [cond_true, cond_false, reduceCtorEq] at hp
  simp only [Option.map_eq_some_iff, Prod.mk.injEq] at hp
  obtain ⟨⟨bd', c'⟩, h1, rfl, rfl⟩ := hp
  have hxr := evA_rel (a := a) e6 x
  rw [hx] at hxr
  simp only [ARel] at hxr
  obtain ⟨b, o0, hm, hxe⟩ := hxr
  have hcl := cellsA_rel hy (evA_rel (a := a) e6 y)
  obtain ⟨b', o', hm', hnR, hown, hblk⟩ := e7.live β blk hg
  rw [hm] at hm'
  cases hm'
  obtain ⟨cells, el, fz, ds, h2, h3, h4, h5, hlen⟩ := hblk.ex
  obtain ⟨h6, h7, h8⟩ := storeF_sound h1 hc h4 hcl
  have hrun := run_storeCells_cells (P := P) b (o0 + off) (a.eval y).cells.toList 0 w (fun j hj => by
      simp only [World.cell?, h2, Nat.add_zero]
      simp
      omega) (fun j hj => by
      simp only [World.frozen?, h2, Nat.add_zero]
      simp only [Bool.and_eq_false_imp, decide_eq_true_eq, decide_eq_false_iff_not]
      intro h9 h10
      have := h3.2 _ h9 h10
      omega) h8
  rw [Nat.add_zero] at hrun
  have hgr := setCells_grown (a.eval y).cells.toList w b (o0 + off)
  have hnew := setCells_heap (a.eval y).cells.toList w b (o0 + off) cells el fz h2
  have hsh : ∀ b', some b = some b' → ¬ R b' ∧ ∀ (c : Array Value) (e : TypeId) (f : Nat × Nat), w.heap[b']? = some (Obj.cells c e f) → ∃ (c' : Array Value) (f' : Nat × Nat), (w.setCells b (o0 + off) (a.eval y).cells.toList).heap[b']? = some (Obj.cells c' e f') ∧ c'.size = c.size := by
    rintro b' rfl'
    cases rfl'
    refine ⟨hnR, fun c e f hcf => ?_⟩
    rw [h2] at hcf
    cases hcf
    exact ⟨_, _, hnew, setsV_size _ _ _⟩
  have hon := e7.onward hgr hsh
  have Hk : HRel X R μ { h with tab := (β, none) :: h.tab } (w.setCells b (o0 + off) (a.eval y).cells.toList) := (e7.kill β).grow hgr hsh (by
    rintro b' rfl'
    cases rfl'
    exact ⟨hown, e7.free_kill hg hm⟩) (by
    rintro b' rfl'
    cases rfl'
    exact ⟨cells, el, fz, h2⟩)
  refine ⟨undef, w.setCells b (o0 + off) (a.eval y).cells.toList, R, μ, .inr ⟨?_, rfl⟩, by simp only [ARel], e6.mono (fun _ h => h) hon (fun _ _ h => h), ?_⟩
  · have hsz : (a.eval y).cells.size = ty.size := by rw [← Array.length_toList, hcl.length]; exact Nat.eq_of_beq_eq_true hb
    simp only [execOp, hop, hxe, Instr.storeAt, Instr.sureAddr, Sem.run_bind, Sem.run_pure, Result.andThen_ok, storeVar, size_ok hTO hT, Sem.run_ite]
    rw [if_neg (by simp [hsz])]
    simp only [Result.andThen_ok, hrun]
  · have hfin := Hk.put (β := β) (b := b) (o := o0) (blk := bd') hm hnR hown
      ⟨setsV cells (o0 + off) (a.eval y).cells.toList, el, fz, (setsV ⟨ds⟩ off (a.eval y).cells.toList).toList, hnew, by rw [setsV_size]; exact h3, h6.mono (fun _ h => h) hon (fun _ _ h => h), fun j v hj => by
        rw [Array.getElem?_toList, setsV_get _ _ _ _ (by simpa using h7)] at hj
        rw [setsV_get _ _ _ _ (by omega)]
        split at hj
        · rw [if_pos (by omega), show o0 + j - (o0 + off) = j - off by omega]; exact hj
        · rw [if_neg (by omega)]; exact h5 j v (by simpa using hj), by rw [Array.length_toList, setsV_size, setsV_size]; exact hlen⟩
      (fun γ blk' o' hne hg' => by
        simp only [Hp.get, look_kill, if_neg (Ne.symm hne)] at hg'
        have hk := e7.free_kill hg hm γ blk' o' (by simp only [Hp.get, look_kill, if_neg (Ne.symm hne)]; exact hg')
        exact hk)
    exact { hfin with
      live := fun γ blk' hg' => hfin.live γ blk' (by
        simp only [Hp.get, Hp.set, look_kill] at hg' ⊢
        split at hg'
        · rename_i e; rw [if_pos e]; exact hg'
        · rename_i e; rw [if_neg e, if_neg e]; exact hg')
      inj := fun γ γ' k k' c c' p p' g1 g2 => hfin.inj γ γ' k k' c c' p p' (by
        simp only [Hp.get, Hp.set, look_kill] at g1 ⊢
        split at g1
        · rename_i e; rw [if_pos e]; exact g1
        · rename_i e; rw [if_neg e, if_neg e]; exact g1) (by
        simp only [Hp.get, Hp.set, look_kill] at g2 ⊢
        split at g2
        · rename_i e; rw [if_pos e]; exact g2
        · rename_i e; rw [if_neg e, if_neg e]; exact g2) }

theorem stepStore_dst {c : Prop} (hp : stepStore g h T o = some (h', c)) : o.dst = none := by
  unfold stepStore at hp
  simp only [cellsF_eq] at hp
  split at hp
  · assumption
  · simp at hp

theorem opStep_store (hTO : TOk P T) {c : Prop} (hp : stepStore g h T o = some (h', c)) (hc : c) : OpStep P N o g h g h' :=
  opStep_of2n (opStep2_store hTO hp hc) (stepStore_dst hp)

theorem ar_store (hTO : TOk P T) {t : Bool} {c : Prop} (hp : stepStore g h T o = some (h', c)) (hg : guardB ops g o = some t) (ht : t = true) (hc : c)
    (hk : AReg P f N m ops rest k g h' Post) : AReg P f N m ops (o :: rest) k g h Post :=
  ar_op hg ht (opStep_store hTO hp hc) hk

end
end Go.Proofs.Ytplfajhaehkhnaa

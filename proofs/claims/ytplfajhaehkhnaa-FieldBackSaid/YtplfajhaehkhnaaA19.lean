/-
  ABSTRACT MACHINE, 19: more operations: texts as octets, octets as texts, make, an array as a slice.
-/
import Derived.Test.YtplfajhaehkhnaaA18
import Derived.Laws.IdiomStrings
namespace Go.Proofs.Ytplfajhaehkhnaa
open Go

section
variable {P : Program} {T : TTab} {f N : Nat} {m : Md} {ops : Array Oper} {o : Oper} {rest : List Oper} {k : List Item} {g : Regs} {h h' : Hp} {Post : AVal → Hp → Prop} {ld : List Nat} {Hs : Nat → Hp} {K ix j : Nat} {F : Regs → Prop}

theorem ar_q {t : Bool} {v : AVal} (hnd : deferB o = false) (hg : guardB ops g o = some t) (ht : t = true) (hN : ∀ d, o.dst = some d → Nat.blt d N = true) (hq : QOp P N h h' o g v)
    (hk : AReg P f N m ops rest k (match o.dst with | some d => (d, v) :: g | none => g) h' Post) : AReg P f N m ops (o :: rest) k g h Post := by
  subst ht
  intro idx hi X R μ a w b cs e1 e2 e3 e4 e5 e6 e7
  cases idx with
  | nil => simp at hi
  | cons i idx =>
    simp only [List.map_cons, List.cons.injEq] at hi
    obtain ⟨ho, hi⟩ := hi
    have hw := guardB_wanted hg e6
    obtain ⟨a', w', ⟨cv, R', μ', rfl, h1, h2, h3⟩, hsteps⟩ := step_wp (b := b) (cs := cs) (k := k) (idx := idx) (fun _ _ _ h => h.elim) hnd ho hw (hq g (fun _ _ => rfl) X R μ a w (fun _ _ _ => False) e5 e6 e7)
    have hreg : RegRel R' μ' w' (match o.dst with | some d => (d, v) :: g | none => g) (a.put o.dst cv).tmps := by
      cases hd : o.dst with
      | none => exact h2
      | some d => exact h2.put (by rw [e5]; exact Nat.le_of_ble_eq_true (hN d hd)) h1
    obtain ⟨u, w2, fr, h4, rest'⟩ := hk idx hi X R' μ' (a.put o.dst cv) w' b cs e1 e2 e3 (by rw [put_defers]; exact e4) (by rw [put_size]; exact e5) hreg h3
    exact ⟨u, w2, fr, Steps.trans hsteps h4, rest'⟩

theorem ar_qd {t : Bool} {v : AVal} {d : Nat} (hnd : deferB o = false) (hq : QOp P N h h' o g v) (hg : guardB ops g o = some t) (ht : t = true) (hd : o.dst = some d) (hN : Nat.blt d N = true)
    (hk : AReg P f N m ops rest k ((d, v) :: g) h' Post) : AReg P f N m ops (o :: rest) k g h Post :=
  ar_q hnd hg ht (fun d' h1 => by rw [hd] at h1; cases h1; exact hN) hq (by rw [hd]; exact hk)

theorem ar_qn {t : Bool} {v : AVal} (hnd : deferB o = false) (hq : QOp P N h h' o g v) (hg : guardB ops g o = some t) (ht : t = true) (hd : o.dst = none)
    (hk : AReg P f N m ops rest k g h' Post) : AReg P f N m ops (o :: rest) k g h Post :=
  ar_q hnd hg ht (fun d' h1 => by rw [hd] at h1; cases h1) hq (by rw [hd]; exact hk)

theorem aq_qd {v : AVal} {t : Bool} {d : Nat} (hq : ∀ h, QOp P N h h o g v) (hg : guardB ops g o = some t) (ht : t = true) (hd : o.dst = some d) (hN : Nat.blt d N = true)
    (hk : QGo P N ld ops Hs K F rest (ix + 1) j ((d, v) :: g)) : QGo P N ld ops Hs K F (o :: rest) ix j g :=
  aq_quiet hg ht hd hN (fun i _ => hq (Hs i)) hk

theorem aq_qd0 {v : AVal} {t : Bool} {d : Nat} (hq : QOp P N (Hs 0) (Hs 0) o g v) (hl : limAt ld ops ix = 0) (hg : guardB ops g o = some t) (ht : t = true) (hd : o.dst = some d) (hN : Nat.blt d N = true)
    (hk : QGo P N ld ops Hs K F rest (ix + 1) j ((d, v) :: g)) : QGo P N ld ops Hs K F (o :: rest) ix j g :=
  aq_quiet hg ht hd hN (fun i hi => by rw [hl] at hi; rw [Nat.le_zero.1 hi]; exact hq) hk

/-- A new block that is read-only from the first. -/
theorem new_ro {X : Ctx} {R : Nat → Prop} {μ : Mu} {w : World} {tmps : Array Value} (H : HRel X R μ h w) (hr : RegRel R μ w g tmps) (cells : Array Value) (e : TypeId) (fz : Nat × Nat) :
    HRel X (fun k => R k ∨ k = w.heap.size) μ h ((World.drawnOnce w).alloc (.cells cells e fz)) ∧ RegRel (fun k => R k ∨ k = w.heap.size) μ ((World.drawnOnce w).alloc (.cells cells e fz)) g tmps := by
  have hg := grown_alloc (World.drawnOnce w) (.cells cells e fz)
  have H1 : HRel X R μ h ((World.drawnOnce w).alloc (.cells cells e fz)) := HRel.grow (H.drew _) hg (fun b hb => by simp at hb) (fun b hb => by simp at hb) (fun b hb => by simp at hb)
  have H0 : HRel X R μ h (World.drawnOnce w) := H.drew _
  have hon' := HRel.onward H0 hg (fun b hb => by simp at hb)
  have hon : Onward R w ((World.drawnOnce w).alloc (.cells cells e fz)) := ⟨hon'.same, hon'.shape⟩
  refine ⟨H1.freeze (.inr H.size) (fun β blk o hg1 hm => H.free_new (Nat.le_refl _) β blk o hg1 hm) ⟨cells, e, fz, ?_⟩, hr.mono (fun _ h => .inl h) hon (fun _ _ h => h)⟩
  show (w.heap.push _)[w.heap.size]? = _
  simp

def strBytesA (T : TTab) (g : Regs) (o : Oper) : Option (List UInt8) :=
  match o.op with
  | .convert src dst x =>
    match T.look src, T.look dst, evA g x with
    | some { k := .str, .. }, some { k := .slice e, .. }, .r (.str s) => match T.look e with | some { k := .int .u8, .. } => some s | _ => none
    | _, _, _ => none
  | _ => none

/-- '[]byte(s)': read-only. -/
theorem qop_strBytes (hTO : TOk P T) {s : List UInt8} (hp : strBytesA T g o = some s) : QOp P N h h o g (.r (.bs s)) := by
  intro g' hag X R μ a w Q e5 e6 e7
  unfold strBytesA at hp
  split at hp
  case h_2 => simp at hp
  rename_i src dst x hop
  split at hp
  case h_2 => simp at hp
  rename_i e _ _ _ s' hS hD hx
  split at hp
  case h_2 => simp at hp
  rename_i hE
  simp only [Option.some.injEq] at hp
  subst hp
  obtain ⟨ds, hds, hk1⟩ := tyk_ok hTO hS
  obtain ⟨dd, hdd, hk2⟩ := tyk_ok hTO hD
  obtain ⟨de, hde, hk3⟩ := tyk_ok hTO hE
  simp only [TyK.ok] at hk1 hk2 hk3
  subst hk1; subst hk2; subst hk3
  have hxr := evA_rel (a := a) e6 x
  rw [hop] at hag
  rw [hag x (by simp [Op.operands]), hx] at hxr
  simp only [ARel, RRel] at hxr
  have hrun := run_bytes_of_string (P := P) w src dst e ⟨⟨s'⟩⟩ hds hdd hde
  have hge : s'.length ≤ grownCap w s'.length 0 e := grownCap_ge w _ _ _
  have hcells : bytesRow ⟨⟨s'⟩⟩ (grownCap w s'.length 0 e) = (⟨bytesV s'⟩ : Array Value) ++ Array.replicate (grownCap w s'.length 0 e - s'.length) (.int .u8 0) := by
    apply Array.ext'
    simp [bytesRow, bytesV, byteV, size_mk]
  rw [size_mk, hcells] at hrun
  generalize hcap : grownCap w s'.length 0 e = cap at hrun hge
  generalize hcs : (⟨bytesV s'⟩ : Array Value) ++ Array.replicate (cap - s'.length) (.int .u8 0) = cells at hrun
  obtain ⟨H1, H2⟩ := new_ro e7 e6 cells e (cells.size, cells.size + 1)
  refine wp_value (u := .slice (some ⟨w.heap.size, 0, none⟩) s'.length cap) (w' := (World.drawnOnce w).alloc (.cells cells e (cells.size, cells.size + 1))) ?_ ⟨_, _, μ, rfl, ?_, H2, H1⟩
  · simp only [execOp, hop, hxr, Sem.run_bind]
    rw [hrun]
    rfl
  · simp only [ARel, RRel]
    refine ⟨some ⟨w.heap.size, 0, none⟩, cap, rfl, hge, .inr ⟨w.heap.size, 0, rfl, .inr rfl, fun j v hj => ?_⟩⟩
    have hc : cells[j]? = some v := by
      obtain ⟨hl, _⟩ := List.getElem?_eq_some_iff.1 hj
      rw [← hcs, Array.getElem?_append_left (by simpa using hl)]
      simpa using hj
    simp only [World.cell?, Nat.zero_add]
    rw [show ((World.drawnOnce w).alloc (.cells cells e (cells.size, cells.size + 1))).heap[w.heap.size]? = _ from heap_new (World.drawnOnce w) _]
    simp [hc]


/-- 'string(b)', b a slice of an owned block of octets. -/
def slStrA (T : TTab) (g : Regs) (h : Hp) (o : Oper) : Option (List UInt8 × Prop) :=
  match o.op with
  | .convert src dst x =>
    match T.look src, T.look dst, evA g x with
    | some { k := .slice e, .. }, some { k := .str, .. }, .sl β off n _ =>
      match T.look e, h.get β with
      | some { k := .int .u8, .. }, some (.bytes s) => some (cutA s off n, off + n ≤ s.length)
      | _, _ => none
    | _, _, _ => none
  | _ => none

theorem qop_slStr (hTO : TOk P T) {s : List UInt8} {c : Prop} (hp : slStrA T g h o = some (s, c)) (hc : c) : QOp P N h h o g (.r (.str s)) := by
  intro g' hag X R μ a w Q e5 e6 e7
  unfold slStrA at hp
  split at hp
  case h_2 => simp at hp
  rename_i src dst x hop
  split at hp
  case h_2 => simp at hp
  rename_i e _ _ _ β off n z hS hD hx
  split at hp
  case h_2 => simp at hp
  rename_i s' hE hg
  simp only [Option.some.injEq] at hp
  obtain ⟨rfl, rfl⟩ := Prod.mk.inj hp
  obtain ⟨ds, hds, hk1⟩ := tyk_ok hTO hS
  obtain ⟨dd, hdd, hk2⟩ := tyk_ok hTO hD
  obtain ⟨de, hde, hk3⟩ := tyk_ok hTO hE
  simp only [TyK.ok] at hk1 hk2 hk3
  subst hk1; subst hk2; subst hk3
  have hxr := evA_rel (a := a) e6 x
  rw [hop] at hag
  rw [hag x (by simp [Op.operands]), hx] at hxr
  simp only [ARel] at hxr
  obtain ⟨b, o0, cap, cells, el, fz, h2, hxe, h4, h5, h6, h7⟩ := hxr
  obtain ⟨b', o', h8, _, _, h9⟩ := e7.live β _ hg
  rw [h2] at h8; cases h8
  obtain ⟨cells', el', fz', vs, h10, h11, h12, h13, h14⟩ := h9.ex
  simp only [BodyRel] at h12
  subst h12
  have hl : (cutA s' off n).length = n := by rw [cutA_eq]; simp; omega
  have hrun := run_bytes_string (P := P) (w := w) (R := fun _ => True) (src := src) (dst := dst) (s := cutA s' off n) (a := some ⟨b, o0 + off, none⟩) (cap := cap) hds hde hdd (.inr ⟨b, o0 + off, rfl, trivial, fun j v hj => by
    have : (bytesV s')[off + j]? = some v := by
      rw [cutA_eq] at hj
      simp only [bytesV, List.map_take, List.map_drop, List.getElem?_take] at hj
      split at hj
      · rw [List.getElem?_drop] at hj; exact hj
      · simp at hj
    rw [Nat.add_assoc]
    simp [World.cell?, h10, h13 _ _ this]⟩)
  rw [hl] at hrun
  refine wp_value (u := .string ⟨⟨cutA s' off n⟩⟩) (w' := w) ?_ ⟨_, R, μ, rfl, by simp only [ARel, RRel], e6, e7⟩
  simp only [execOp, hop, hxe, Sem.run_bind]
  rw [hrun]
  rfl

/-- 'make([]T, n)'. -/
def makeA (T : TTab) (N : Nat) (g : Regs) (o : Oper) : Option (Nat × Nat × Int × Body × Prop) :=
  match o.dst, o.op with
  | some d, .makeSlice t l c => bif Nat.blt d N then
    match T.look t, evA g l, evA g c with
    | some { k := .slice e, .. }, .r (.int _ n), .r (.int _ n') =>
      match T.look e with
      | some te =>
        match te.k, te.zero with
        | .int .u8, _ => some (d, 1, n, .bytes (List.replicate n.toNat 0), ((0 ≤ n ∧ n ≤ 140737488355328) ∧ n = n' ∧ te.size = 1 ∧ te.bytes = 1) ∧ te.zero = [.int .u8 0])
        | _, [z] => some (d, 1, n, .plain (List.replicate n.toNat z), ((0 ≤ n ∧ n * te.bytes ≤ 140737488355328) ∧ n = n' ∧ te.size = 1 ∧ n ≤ 140737488355328) ∧ te.zero = [z])
        | _, _ => none
      | none => none
    | _, _, _ => none
    else none
  | _, _ => none

theorem madeCells_one (z : Value) (n : Nat) : (madeCells #[z] n).toList = List.replicate n z := by
  simp only [madeCells, Array.toList_map, Array.toList_range]
  apply List.ext_getElem
  · simp
  · intro i h1 h2
    simp [Nat.mod_one]

theorem opStep_make (hTO : TOk P T) {d z : Nat} {n : Int} {bd : Body} {c : Prop} (hp : makeA T N g o = some (d, z, n, bd, c)) (hc : c) : OpStep P N o g h ((d, .sl h.nxt 0 n.toNat z) :: g) (h.push bd) := by
  intro X R μ a w e5 e6 e7
  unfold makeA at hp
  split at hp
  case h_2 => simp at hp
  rename_i d' t l cc hd hop
  cases hb : Nat.blt d' N <;> rw [hb] at hp <;> simp only [cond_true, cond_false, reduceCtorEq] at hp
  have hlt : d' < a.tmps.size := by rw [e5]; exact Nat.le_of_ble_eq_true hb
  split at hp
  case h_2 => simp at hp
  rename_i e _ _ _ k1 n1 k2 n2 hT hl hcc
  split at hp
  case h_2 => simp at hp
  rename_i te hE
  obtain ⟨D, hD, hk⟩ := tyk_ok hTO hT
  simp only [TyK.ok] at hk
  subst hk
  have h1 := evA_rel (a := a) e6 l
  have h2 := evA_rel (a := a) e6 cc
  rw [hl] at h1
  rw [hcc] at h2
  simp only [ARel, RRel] at h1 h2
  have main : ∀ (zr : RVal) (bd' : Body), te.zero = [zr] → 0 ≤ n1 → n1 ≤ 140737488355328 → n1 * te.bytes ≤ 140737488355328 → n1 = n2 → te.size = 1 → (∀ zc, RRel R w zr zc → BodyRel R μ w bd' (List.replicate n1.toNat zc)) →
      ∃ v w' R' μ', ((execOp a.eval o).run P w = .ok (.value v) w' ∨ ((execOp a.eval o).run P w = .ok .skip w' ∧ v = undef)) ∧ RegRel R' μ' w' ((d', .sl h.nxt 0 n1.toNat 1) :: g) (a.put o.dst v).tmps ∧ HRel X R' μ' (h.push bd') w' := by
    intro zr bd' hz hn0 hnb hnby hnn hsz hbd
    subst hnn
    obtain ⟨_, i, _, hi, hs, hby, _, _, h0⟩ := (hTO e te hE).ex
    obtain ⟨zv, hz1, hz2, hz3⟩ := h0.resolve_left (by rw [hz]; simp)
    obtain ⟨zv', hz4, hz5, _⟩ := zero_ok (P := P) (w := w) (R := R) (μ := μ) hTO hE (by rw [hz]; simp)
    have hze : zv' = zv := by
      have : (zeroValue e).run P w = .ok zv w := by simp [zeroValue, run_typeInfo w hi, hz1]
      rw [this] at hz4; simp at hz4; exact hz4.symm
    subst hze
    have hcz : zv'.cells = #[zr.conc] := by apply Array.ext'; rw [hz2, hz]; rfl
    have hrel : RRel R w zr zr.conc := by
      rw [hz, hcz] at hz5
      simp only [List.map_cons, List.map_nil, ARels, ARel] at hz5
      obtain ⟨c1, r1, e1, h3, _⟩ := hz5
      simp only [List.cons.injEq] at e1
      rw [e1.1]; exact h3
    have hrun := run_make (P := P) w t e i zv' hD hi hz1 k1 k2 n1 n1 hn0 (Int.le_refl _) (by rw [hby, Int.mul_comm]; omega) (by omega)
    rw [hs, hsz, Nat.mul_one, hcz] at hrun
    obtain ⟨H1, H2, _⟩ := new_block e7 e6 (madeCells #[zr.conc] n1.toNat) e (0, 0) (by simp) (bd := bd') (hbd _ hrel) (fun j v hj => by
      rw [← madeCells_one] at hj; simpa using hj)
    refine ⟨.slice (some ⟨w.heap.size, 0, none⟩) n1.toNat n1.toNat, _, R, _, .inl ?_, ?_, H1⟩
    · simp only [execOp, hop, h1, h2, Sem.run_bind]
      rw [hrun]
      rfl
    · rw [hd]
      refine H2.put hlt ?_
      simp only [ARel]
      exact ⟨w.heap.size, 0, n1.toNat, _, e, (0, 0), new_name e7, rfl, Nat.le_refl _, by unfold maxLen; omega, heap_new w _, by rw [size_madeCells]; omega⟩
  split at hp
  · simp only [Option.some.injEq, Prod.mk.injEq] at hp
    obtain ⟨rfl, rfl, rfl, rfl, rfl⟩ := hp
    obtain ⟨⟨⟨hc1, hc2⟩, hc3, hc4, hc5⟩, hc6⟩ := hc
    refine main _ _ hc6 hc1 hc2 (by rw [hc5]; omega) hc3 hc4 (fun zc hzc => ?_)
    simp only [RRel] at hzc
    subst hzc
    simp [BodyRel, bytesV, byteV]
  · rename_i zr hzz
    simp only [Option.some.injEq, Prod.mk.injEq] at hp
    obtain ⟨rfl, rfl, rfl, rfl, rfl⟩ := hp
    obtain ⟨⟨⟨hc1, hc2⟩, hc3, hc4, hc5⟩, hc6⟩ := hc
    refine main _ _ hc6 hc1 hc5 hc2 hc3 hc4 (fun zc hzc => ?_)
    simp only [BodyRel]
    generalize n1.toNat = q
    induction q with
    | zero => simp [RRels]
    | succ q ih => simp only [List.replicate_succ, RRels]; exact ⟨_, _, rfl, hzc, ih⟩
  · simp at hp

theorem ar_make (hTO : TOk P T) {t : Bool} {d z : Nat} {n : Int} {bd : Body} {c : Prop} (hp : makeA T N g o = some (d, z, n, bd, c)) (hg : guardB ops g o = some t) (ht : t = true) (hc : c)
    (hk : AReg P f N m ops rest k ((d, .sl h.nxt 0 n.toNat z) :: g) (h.push bd) Post) : AReg P f N m ops (o :: rest) k g h Post :=
  ar_op hg ht (opStep_make hTO hp hc) hk

/-- 'a[:]', a an array in an owned block. -/
def arrSlA (T : TTab) (g : Regs) (h : Hp) (o : Oper) : Option (AVal × Prop) :=
  match o.op with
  | .slice t x none none none =>
    match T.look t, evA g x with
    | some { k := .arr n e, .. }, .ptr β off =>
      match T.look e, h.get β with
      | some te, some bd => some (.sl β off n te.size, off + n * te.size ≤ bd.cells.length ∧ n ≤ 9223372036854775807)
      | _, _ => none
    | _, _ => none
  | _ => none

theorem qop_arrSl (hTO : TOk P T) {v : AVal} {c : Prop} (hp : arrSlA T g h o = some (v, c)) (hc : c) : QOp P N h h o g v := by
  intro g' hag X R μ a w Q e5 e6 e7
  unfold arrSlA at hp
  split at hp
  case h_2 => simp at hp
  rename_i t x hop
  split at hp
  case h_2 => simp at hp
  rename_i n e _ _ _ β off hT hx
  split at hp
  case h_2 => simp at hp
  rename_i te bd hE hg
  simp only [Option.some.injEq] at hp
  obtain ⟨rfl, rfl⟩ := Prod.mk.inj hp
  obtain ⟨D, hD, hk⟩ := tyk_ok hTO hT
  simp only [TyK.ok] at hk
  subst hk
  have hxr := evA_rel (a := a) e6 x
  rw [hop] at hag
  rw [hag x (by simp [Op.operands]), hx] at hxr
  simp only [ARel] at hxr
  obtain ⟨b, o0, h2, hxe⟩ := hxr
  obtain ⟨b', o', h8, _, _, h9⟩ := e7.live β _ hg
  rw [h2] at h8; cases h8
  obtain ⟨cells', el', fz', vs, h10, h11, h12, h13, h14⟩ := h9.ex
  have hl := (bodyRel_cells h12).length
  refine wp_value (u := .slice (some ⟨b, o0 + off, none⟩) n n) (w' := w) ?_ ⟨_, R, μ, rfl, ?_, e6, e7⟩
  · simp only [execOp, hop, hxe, Option.map_none, Instr.sliceAt, Sem.run_bind, run_underlying hD, Result.andThen_ok, Instr.sureAddr, Sem.run_pure, Instr.sliceBounds, size_ok hTO hE]
    by_cases h0 : n = 0
    · subst h0; rfl
    · simp [Addr.add]
  · simp only [ARel]
    exact ⟨b, o0, n, cells', el', fz', h2, rfl, Nat.le_refl _, by unfold maxLen; exact hc.2, h10, by omega⟩

end
end Go.Proofs.Ytplfajhaehkhnaa

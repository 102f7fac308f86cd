/-
  ABSTRACT MACHINE, 15: append, over abstract values.
-/
import Derived.Test.YtplfajhaehkhnaaA14
namespace Go.Proofs.Ytplfajhaehkhnaa
open Go

def cutA {α : Type} (xs : List α) (off n : Nat) : List α := match off with | 0 => xs.take n | off => (xs.drop off).take n
theorem cutA_eq {α : Type} (xs : List α) (off n : Nat) : cutA xs off n = (xs.drop off).take n := by unfold cutA; split <;> simp

/-- The cells of a slice over a body, as a body. -/
def cutBody (bd : Body) (off n z : Nat) : Option (Body × Prop) :=
  match bd with
  | .bytes s => some (.bytes (cutA s off (n * z)), off + n * z ≤ s.length)
  | .plain xs => some (.plain (cutA xs off (n * z)), off + n * z ≤ xs.length)
  | .mixed cs => bif Nat.ble (off + n * z) cs.length && cs.all oneA then forceL ((cs.drop off).take (n * z)) fun l => some (.mixed l, True) else none

def srcA (z : Nat) (h : Hp) : AVal → Option (Nat × Body × Prop)
  | .r (.bs s) => some (s.length, .bytes s, z = 1)
  | .r (.str s) => some (s.length, .bytes s, z = 1)
  | .r .nil => some (0, .mixed [], True)
  | .r (.ro k ys) => some (k, .plain ys, ys.length = k * z)
  | .sl γ off k z' =>
    match h.get γ with
    | some blk => bif Nat.beq z z' then (cutBody blk off k z).map fun p => (k, p.1, p.2) else none
    | none => none
  | _ => none

def baseA (z : Nat) (h : Hp) : AVal → Option (Nat × Body × Option Nat × Prop)
  | .r .nil => some (0, .mixed [], none, True)
  | .sl β off n z' =>
    match h.get β with
    | some blk => bif Nat.beq z z' then (cutBody blk off n z).map fun p => (n, p.1, some β, p.2) else none
    | none => none
  | _ => none

/-- Octets, all of them. -/
def allU : List AVal → Option (List UInt8 × Prop)
  | [] => some ([], True)
  | .r (.int .u8 n) :: l => match allU l with | some (r, c) => some (UInt8.ofNat n.toNat :: r, (0 ≤ n ∧ n < 256) ∧ c) | none => none
  | _ :: _ => none

def appB : Body → Body → Option (Body × Prop)
  | .bytes a, .bytes b => some (.bytes (a ++ b), True)
  | .plain a, .plain b => some (.plain (a ++ b), True)
  | .mixed a, .mixed b => forceL (a ++ b) fun l => some (.mixed l, True)
  | .mixed [], b => some (b, True)
  | a, .mixed [] => some (a, True)
  | .plain a, .mixed l => match allR l with | some r => some (.plain (a ++ r), True) | none => none
  | .bytes a, .mixed l => match allU l with | some (r, c) => some (.bytes (a ++ r), c) | none => none
  | _, _ => none

/-- What is appended to nothing. -/
def appN : Body → Body × Prop
  | .mixed (x :: l) =>
    match allU (x :: l) with
    | some (r, c) => (.bytes r, c)
    | none => match allR (x :: l) with | some r => (.plain r, True) | none => (.mixed (x :: l), True)
  | b => (b, True)

def appQ (β : Option Nat) (a b : Body) : Option (Body × Prop) :=
  match β with
  | none => some (appN b)
  | some _ => appB a b

def killO (h : Hp) : Option Nat → Hp
  | none => h
  | some β => h.set β none

/-- What is appended to nothing must be something. -/
def appPos : Option Nat → Nat → Prop
  | none, n => 0 < n
  | some _, _ => True

@[simp] theorem appPos_none (n : Nat) : appPos none n = (0 < n) := rfl
@[simp] theorem appPos_some (β n : Nat) : appPos (some β) n = True := rfl

/-- append: the destination, the new slice's length and element size, the name that goes, the new block, what has to hold. -/
def stepApp (T : TTab) (N : Nat) (g : Regs) (h : Hp) (o : Oper) : Option (Nat × (Nat × Nat) × Option Nat × ABlk × Prop) :=
  match o.dst, o.op with
  | some d, .call c => bif Nat.blt d N then
    match c.callee, c.args.toList, c.argTypes.toList with
    | .builtin .append, [s, x], [t, t2] =>
      match T.look t, T.look t2 with
      | some { k := .slice e, .. }, some ty2 =>
        match T.look e with
        | some te =>
          match baseA te.size h (evA g s), srcA te.size h (evA g x) with
          | some (n, bd, β, c1), some (k, bd2, c2) =>
            match appQ β bd bd2, ty2.k with
            | some (bd', c3), .slice _ | some (bd', c3), .str =>
              some (d, (n + k, te.size), β, bd', (c1 ∧ c2 ∧ c3) ∧ ((n + k) * te.bytes ≤ 140737488355328 ∧ n + k ≤ 9223372036854775807) ∧ (te.zero ≠ [] ∧ te.zero.length = te.size) ∧ appPos β (n + k))
            | _, _ => none
          | _, _ => none
        | none => none
      | _, _ => none
    | _, _, _ => none
    else none
  | _, _ => none

section
variable {P : Program} {T : TTab} {R : Nat → Prop} {μ : Mu} {w : World}

theorem onward_drawn (R : Nat → Prop) (w : World) : Onward R w (World.drawnOnce w) := ⟨fun _ _ => rfl, fun _ c _ f h => ⟨c, f, h, rfl⟩⟩

theorem one_rrel {v : RVal} {c : Value} (hv : RRel R w v c) : c.oneCell' = true := oneA_cell (μ := []) (v := .r v) rfl (by simpa only [ARel] using hv)

theorem one_rrels : ∀ {xs : List RVal} {cs : List Value}, RRels R w xs cs → ∀ v ∈ cs, v.oneCell' = true
  | [], _, h => by simp only [RRels] at h; subst h; simp
  | x :: xs, _, h => by
    simp only [RRels] at h
    obtain ⟨c, r, rfl, h1, h2⟩ := h
    intro v hv
    cases hv with
    | head => exact one_rrel h1
    | tail _ hm => exact one_rrels h2 v hm

theorem one_arels : ∀ {xs : List AVal} {cs : List Value}, xs.all oneA = true → ARels R μ w xs cs → ∀ v ∈ cs, v.oneCell' = true
  | [], _, _, h => by simp only [ARels] at h; subst h; simp
  | x :: xs, _, ha, h => by
    simp only [ARels] at h
    obtain ⟨c, r, rfl, h1, h2⟩ := h
    simp only [List.all_cons, Bool.and_eq_true] at ha
    intro v hv
    cases hv with
    | head => exact oneA_cell ha.1 h1
    | tail _ hm => exact one_arels ha.2 h2 v hm

theorem one_bytes (s : List UInt8) : ∀ v ∈ bytesV s, v.oneCell' = true := by
  intro v hv
  simp only [bytesV, List.mem_map] at hv
  obtain ⟨b, _, rfl⟩ := hv
  rfl

theorem cutBody_sound {bd bd' : Body} {off n z : Nat} {c : Prop} (h : cutBody bd off n z = some (bd', c)) (hc : c) {vs : List Value} (hb : BodyRel R μ w bd vs) :
    BodyRel R μ w bd' ((vs.drop off).take (n * z)) ∧ off + n * z ≤ vs.length ∧ ∀ v ∈ (vs.drop off).take (n * z), v.oneCell' = true := by
  unfold cutBody at h
  split at h
  · simp only [Option.some.injEq] at h
    obtain ⟨rfl, rfl⟩ := Prod.mk.inj h
    simp only [BodyRel] at hb ⊢
    subst hb
    refine ⟨by rw [cutA_eq]; simp [bytesV], by simpa [bytesV] using hc, ?_⟩
    intro v hv
    exact one_bytes _ v (List.mem_of_mem_drop (List.mem_of_mem_take hv))
  · simp only [Option.some.injEq] at h
    obtain ⟨rfl, rfl⟩ := Prod.mk.inj h
    simp only [BodyRel] at hb ⊢
    have h2 := (RRels.drop off hb).take (n * z)
    refine ⟨by rw [cutA_eq]; exact h2, by rw [hb.length]; exact hc, one_rrels h2⟩
  · rename_i cs
    cases hq : (Nat.ble (off + n * z) cs.length && cs.all oneA) <;> rw [hq] at h <;> simp only [cond_true, cond_false, reduceCtorEq] at h
    rw [forceL_eq] at h
    simp only [Option.some.injEq] at h
    obtain ⟨rfl, rfl⟩ := Prod.mk.inj h
    rw [Bool.and_eq_true] at hq
    simp only [BodyRel] at hb ⊢
    refine ⟨(hb.drop off).take (n * z), by rw [hb.length]; exact Nat.le_of_ble_eq_true hq.1, ?_⟩
    intro v hv
    exact one_arels hq.2 hb v (List.mem_of_mem_drop (List.mem_of_mem_take hv))

theorem u8_of {n : Int} (h : 0 ≤ n ∧ n < 256) : byteV (UInt8.ofNat n.toNat) = .int .u8 n := by
  simp only [byteV]
  congr 1
  have : (UInt8.ofNat n.toNat).toNat = n.toNat := by simp; omega
  rw [this]; omega

theorem allU_sound : ∀ {l : List AVal} {r : List UInt8} {c : Prop}, allU l = some (r, c) → c → ∀ {ws : List Value}, ARels R μ w l ws → ws = bytesV r
  | [], r, c, h, _, ws, hw => by
    simp only [allU, Option.some.injEq, Prod.mk.injEq] at h
    obtain ⟨rfl, _⟩ := h
    simp only [ARels] at hw
    subst hw; rfl
  | x :: l, r, c, h, hc, ws, hw => by
    simp only [ARels] at hw
    obtain ⟨v, ws', rfl, h1, h2⟩ := hw
    unfold allU at h
    split at h
    · simp at *
    · rename_i n l' heq
      simp only [List.cons.injEq] at heq
      obtain ⟨rfl, rfl⟩ := heq
      cases hl : allU l with
      | none => rw [hl] at h; simp at h
      | some p =>
        obtain ⟨r', c'⟩ := p
        rw [hl] at h
        simp only [Option.some.injEq, Prod.mk.injEq] at h
        obtain ⟨rfl, rfl⟩ := h
        simp only [ARel, RRel] at h1
        rw [h1, allU_sound hl hc.2 h2]
        simp [bytesV, u8_of hc.1]
    · simp at h

theorem appB_sound {a b c : Body} {q : Prop} (h : appB a b = some (c, q)) (hc : q) {vs ws : List Value} (ha : BodyRel R μ w a vs) (hb : BodyRel R μ w b ws) : BodyRel R μ w c (vs ++ ws) := by
  unfold appB at h
  split at h
  · simp only [Option.some.injEq, Prod.mk.injEq] at h; obtain ⟨rfl, rfl⟩ := h
    simp only [BodyRel] at ha hb ⊢
    subst ha; subst hb
    simp [bytesV]
  · simp only [Option.some.injEq, Prod.mk.injEq] at h; obtain ⟨rfl, rfl⟩ := h
    exact RRels.append ha hb
  · rw [forceL_eq] at h
    simp only [Option.some.injEq, Prod.mk.injEq] at h; obtain ⟨rfl, rfl⟩ := h
    exact ARels.append ha hb
  · simp only [Option.some.injEq, Prod.mk.injEq] at h; obtain ⟨rfl, rfl⟩ := h
    simp only [BodyRel, ARels] at ha
    subst ha
    simpa using hb
  · simp only [Option.some.injEq, Prod.mk.injEq] at h; obtain ⟨rfl, rfl⟩ := h
    simp only [BodyRel, ARels] at hb
    subst hb
    simpa using ha
  · rename_i l _
    split at h
    · rename_i r hr
      simp only [Option.some.injEq, Prod.mk.injEq] at h; obtain ⟨rfl, rfl⟩ := h
      simp only [BodyRel] at ha hb ⊢
      rw [allR_eq hr, ARels.of_r] at hb
      exact RRels.append ha hb
    · simp at h
  · rename_i l _
    split at h
    · rename_i r c' hr
      simp only [Option.some.injEq, Prod.mk.injEq] at h; obtain ⟨rfl, rfl⟩ := h
      simp only [BodyRel] at ha hb ⊢
      rw [allU_sound hr hc hb, ha]
      simp [bytesV]
    · simp at h
  · simp at h

theorem appN_sound {b : Body} (hc : (appN b).2) {ws : List Value} (hb : BodyRel R μ w b ws) : BodyRel R μ w (appN b).1 ws := by
  unfold appN at hc ⊢
  split
  · rename_i x l
    simp only at hc
    split at hc
    · rename_i r c' hr
      simp only [BodyRel] at hb ⊢
      exact allU_sound hr hc hb
    · rename_i hr
      split
      · rename_i r hr2
        simp only [BodyRel] at hb ⊢
        rw [allR_eq hr2, ARels.of_r] at hb
        exact hb
      · exact hb
  · exact hb

theorem appQ_sound {β : Option Nat} {a b c : Body} {q : Prop} (h : appQ β a b = some (c, q)) (hc : q) {vs ws : List Value} (hn : β = none → vs = []) (ha : BodyRel R μ w a vs) (hb : BodyRel R μ w b ws) : BodyRel R μ w c (vs ++ ws) := by
  unfold appQ at h
  split at h
  · simp only [Option.some.injEq] at h
    have h1 : (appN b).1 = c := by rw [h]
    have h2 : (appN b).2 = q := by rw [h]
    rw [hn rfl, ← h1]
    exact appN_sound (by rw [h2]; exact hc) hb
  · exact appB_sound h hc ha hb

theorem srcA_sound {X : Ctx} {h : Hp} (H : HRel X R μ h w) {z k : Nat} {x : AVal} {bd : Body} {c : Prop} (hs : srcA z h x = some (k, bd, c)) (hc : c) {v : Value} (hx : ARel R μ w x v) :
    ∃ ws, Src w z v k ws ∧ BodyRel R μ w bd ws ∧ ∀ u ∈ ws, u.oneCell' = true := by
  unfold srcA at hs
  split at hs
  · rename_i s
    simp only [Option.some.injEq, Prod.mk.injEq] at hs
    obtain ⟨rfl, rfl, rfl⟩ := hs
    subst hc
    simp only [ARel, RRel] at hx
    obtain ⟨a, cap, rfl, h1, h2⟩ := hx
    refine ⟨bytesV s, ?_, rfl, one_bytes s⟩
    rcases h2 with h2 | ⟨b, o, rfl, _, h3⟩
    · cases a with
      | none => exact .inr (.inl ⟨cap, rfl, h2, by have := congrArg List.length h2; simpa [bytesV] using this⟩)
      | some ad => exact .inl ⟨ad, cap, rfl, by simp [bytesV], by rw [h2]; simp⟩
    · exact .inl ⟨_, cap, rfl, by simp [bytesV], fun j v hj => by rw [add_off]; exact h3 j v hj⟩
  · rename_i s
    simp only [Option.some.injEq, Prod.mk.injEq] at hs
    obtain ⟨rfl, rfl, rfl⟩ := hs
    subst hc
    simp only [ARel, RRel] at hx
    subst hx
    exact ⟨bytesV s, .inr (.inr ⟨s, rfl, rfl, rfl, rfl⟩), rfl, one_bytes s⟩
  · simp only [Option.some.injEq, Prod.mk.injEq] at hs
    obtain ⟨rfl, rfl, rfl⟩ := hs
    simp only [ARel, RRel] at hx
    obtain ⟨ad, rfl⟩ := hx
    refine ⟨[], ?_, by simp [BodyRel, ARels], by simp⟩
    cases ad with
    | none => exact .inr (.inl ⟨0, rfl, rfl, by simp⟩)
    | some ad => exact .inl ⟨ad, 0, rfl, by simp, by simp⟩
  · rename_i k' ys
    simp only [Option.some.injEq, Prod.mk.injEq] at hs
    obtain ⟨rfl, rfl, rfl⟩ := hs
    simp only [ARel, RRel] at hx
    obtain ⟨a, cap, cs, rfl, h1, h2, h3⟩ := hx
    refine ⟨cs, ?_, h3, one_rrels h3⟩
    have hl := h3.length
    rcases h2 with h2 | ⟨b, o, rfl, _, h4⟩
    · cases a with
      | none => exact .inr (.inl ⟨cap, rfl, h2, by rw [← hc, ← hl, h2]; rfl⟩)
      | some ad => exact .inl ⟨ad, cap, rfl, by rw [hl, hc], by rw [h2]; simp⟩
    · exact .inl ⟨_, cap, rfl, by rw [hl, hc], fun j v hj => by rw [add_off]; exact h4 j v hj⟩
  · rename_i γ off k' z'
    split at hs
    case h_2 => simp at hs
    rename_i blk hg
    cases hq : Nat.beq z z' <;> rw [hq] at hs <;> simp only [cond_true, cond_false, reduceCtorEq] at hs
    have hz := Nat.eq_of_beq_eq_true hq
    subst hz
    simp only [Option.map_eq_some_iff, Prod.mk.injEq] at hs
    obtain ⟨⟨bd0, c0⟩, h1, rfl, rfl, rfl⟩ := hs
    simp only [ARel] at hx
    obtain ⟨b, o, cap, cells, el, fz, h2, rfl, h4, h5, h6, h7⟩ := hx
    obtain ⟨b', o', h8, _, _, h9⟩ := H.live γ blk hg
    rw [h2] at h8; cases h8
    obtain ⟨cells', el', fz', vs, h10, h11, h12, h13, h14⟩ := h9.ex
    obtain ⟨h15, h16, h17⟩ := cutBody_sound h1 hc h12
    refine ⟨_, .inl ⟨_, cap, rfl, by simp; omega, fun j v hj => ?_⟩, h15, h17⟩
    rw [List.getElem?_take] at hj
    split at hj
    · rw [List.getElem?_drop] at hj
      rw [add_off, Nat.add_assoc]
      simp [World.cell?, h10, h13 _ _ hj]
    · simp at hj
  · simp at hs

end

section
variable {P : Program} {T : TTab} {f N : Nat} {m : Md} {ops : Array Oper} {o : Oper} {rest : List Oper} {k : List Item} {g g' : Regs} {h h' : Hp} {Post : AVal → Hp → Prop}

theorem opStep2_app (hTO : TOk P T) {d n z : Nat} {β : Option Nat} {blk : Body} {c : Prop} (hp : stepApp T N g h o = some (d, (n, z), β, blk, c)) (hc : c) : OpStep2 P N o g h (.sl h.nxt 0 n z) ((killO h β).push blk) := by
  intro X R μ a w e5 e6 e7
  unfold stepApp at hp
  split at hp
  case h_2 => simp at hp
  rename_i d' cl hd hop
  cases hb : Nat.blt d' N <;> rw [hb] at hp <;> simp only [cond_true, cond_false, reduceCtorEq] at hp
  have hlt : d' < a.tmps.size := by rw [e5]; exact Nat.le_of_ble_eq_true hb
  split at hp
  case h_2 => simp at hp
  rename_i s x t t2 hcal hargs htys
  split at hp
  case h_2 => simp at hp
  rename_i e _ _ _ ty2 hT hT2
  split at hp
  case h_2 => simp at hp
  rename_i te hE
  split at hp
  case h_2 => simp at hp
  rename_i n1 bd β' c1 k1 bd2 c2 hba hsr
  have main : ∀ bd' c3, appQ β' bd bd2 = some (bd', c3) → ((∃ e2, ty2.k = .slice e2) ∨ ty2.k = .str) →
      (d', (n1 + k1, te.size), β', bd', (c1 ∧ c2 ∧ c3) ∧ ((n1 + k1) * te.bytes ≤ 140737488355328 ∧ n1 + k1 ≤ 9223372036854775807) ∧ (te.zero ≠ [] ∧ te.zero.length = te.size) ∧ appPos β' (n1 + k1)) = (d, (n, z), β, blk, c) →
      ∃ v w' R' μ', ((execOp a.eval o).run P w = .ok (.value v) w' ∨ ((execOp a.eval o).run P w = .ok .skip w' ∧ v = undef)) ∧ ARel R' μ' w' (.sl h.nxt 0 n z) v ∧ RegRel R' μ' w' g a.tmps ∧ HRel X R' μ' ((killO h β).push blk) w' := by
    intro bd' c3 happ hk2 heq
    simp only [Prod.mk.injEq] at heq
    obtain ⟨rfl, ⟨rfl, rfl⟩, rfl, rfl, rfl⟩ := heq
    obtain ⟨⟨hc1, hc2, hc3⟩, ⟨hc4, hc5⟩, ⟨hc6, hc7⟩, hc8⟩ := hc
    obtain ⟨ws, hsrc, hbw, hone⟩ := srcA_sound e7 hsr hc2 (evA_rel (a := a) e6 x)
    have hexec : ∀ u w2, (Builtin.append_ ⟨[t, t2]⟩ o.type ⟨[a.eval s, a.eval x]⟩).run P w = .ok u w2 → (execOp a.eval o).run P w = .ok (.value u) w2 := by
      intro u w2 h1
      have ha1 : cl.args.map a.eval = ⟨[a.eval s, a.eval x]⟩ := by apply Array.ext'; rw [Array.toList_map, hargs]; rfl
      have ha2 : cl.argTypes = ⟨[t, t2]⟩ := by apply Array.ext'; exact htys
      simp only [execOp, hop, resolve, hcal, Sem.run_bind, Sem.run_pure, Result.andThen_ok, invoke, builtin, ha1, ha2, h1]
    have hsr2 := evA_rel (a := a) e6 s
    unfold baseA at hba
    split at hba
    case h_3 => simp at hba
    · -- nil
      rename_i hs0
      simp only [Option.some.injEq, Prod.mk.injEq] at hba
      obtain ⟨rfl, rfl, rfl, _⟩ := hba
      rw [hs0] at hsr2
      simp only [ARel, RRel] at hsr2
      obtain ⟨ad, hsr2⟩ := hsr2
      simp only [appPos] at hc8
      have hr := run_append (ty := o.type) (old := []) hTO hT rfl hE hT2 hk2 hc6 hc7 hsrc hone (base := ad) (n := 0) (cap := 0) (.inl ⟨rfl, rfl, rfl⟩) (Nat.le_refl _) (by unfold maxLen; omega) hc4 (by unfold maxLen; omega)
      rcases hr with ⟨w', h1, h2, _⟩ | ⟨cap', rest', h1, h2, h3, h4, _⟩
      · omega
      · have e7' : HRel X R μ h (World.drawnOnce w) := e7.drew _
        have e6' : RegRel R μ (World.drawnOnce w) g a.tmps := e6.mono (fun _ h => h) (onward_drawn R w) (fun _ _ h => h)
        have hbn : BodyRel R μ w bd' ([] ++ ws) := appQ_sound happ hc3 (fun _ => rfl) (by simp [BodyRel, ARels]) hbw
        obtain ⟨H1, H2, hon⟩ := new_block e7' e6' ⟨[] ++ ws ++ rest'⟩ e (0, 0) (by simp) (bd := bd') (vs := [] ++ ws) (hbn.mono (fun _ h => h) (onward_drawn R w) (fun _ _ h => h)) (fun j v hj => by
          rw [List.getElem?_toArray, List.getElem?_append_left (by
            obtain ⟨hl, _⟩ := List.getElem?_eq_some_iff.1 hj; exact hl)]
          exact hj)
        refine ⟨_, _, R, _, .inl (hexec _ _ (by rw [hsr2]; exact h1)), ?_, H2, H1⟩
        simp only [ARel]
        exact ⟨w.heap.size, 0, cap', _, e, (0, 0), new_name e7', rfl, h2, h3, heap_new _ _, by simpa using Nat.le_of_eq h4.symm⟩
    · -- an owned block
      rename_i β0 off n' z' hs0
      split at hba
      case h_2 => simp at hba
      rename_i blk0 hg
      cases hq : Nat.beq te.size z' <;> rw [hq] at hba <;> simp only [cond_true, cond_false, reduceCtorEq] at hba
      have hz := Nat.eq_of_beq_eq_true hq
      subst hz
      simp only [Option.map_eq_some_iff, Prod.mk.injEq] at hba
      obtain ⟨⟨bd0, c0⟩, hcut, rfl, rfl, rfl, rfl⟩ := hba
      rw [hs0] at hsr2
      simp only [ARel] at hsr2
      obtain ⟨b, o0, cap, cells, el, fz, h2, hse, h4, h5, h6, h7⟩ := hsr2
      obtain ⟨b', o', h8, hnR, hown, h9⟩ := e7.live β0 blk0 hg
      rw [h2] at h8; cases h8
      obtain ⟨cells', el', fz', vs, h10, h11, h12, h13, h14⟩ := h9.ex
      rw [h6] at h10; cases h10
      obtain ⟨h15, h16, h17⟩ := cutBody_sound hcut hc1 h12
      have hbn : BodyRel R μ w bd' ((vs.drop off).take (n' * te.size) ++ ws) := appQ_sound happ hc3 (fun h => by cases h) h15 hbw
      have hol : ((vs.drop off).take (n' * te.size)).length = n' * te.size := by simp; omega
      have hoc : ∀ (j : Nat) v, ((vs.drop off).take (n' * te.size))[j]? = some v → cells[o0 + off + j]? = some v := by
        intro j v hj
        rw [List.getElem?_take] at hj
        split at hj
        · rw [List.getElem?_drop] at hj
          rw [Nat.add_assoc]
          exact h13 _ _ hj
        · simp at hj
      have hr := run_append (ty := o.type) (old := (vs.drop off).take (n' * te.size)) hTO hT rfl hE hT2 hk2 hc6 hc7 hsrc hone (base := some ⟨b, o0 + off, none⟩) (n := n') (cap := cap)
        (.inr ⟨b, o0 + off, cells, el, fz, rfl, h6, h11.2, h7, hol, hoc⟩) h4 h5 hc4 (by unfold maxLen; omega)
      have hwl := hsrc.len (P := P)
      rcases hr with ⟨w', h1, hfit, h18⟩ | ⟨cap', rest', h1, h18, h3, h19, _⟩
      · have h18 : ∃ b2 o2, some (⟨b, o0 + off, none⟩ : Addr) = some ⟨b2, o2, none⟩ ∧ w' = w.setCells b2 (o2 + n' * te.size) ws := by
          rcases h18 with ⟨h0, rfl⟩ | h18
          · have hw0 : ws = [] := List.length_eq_zero_iff.1 (by rw [hwl.1]; rw [show k1 = 0 by omega]; simp)
            subst hw0
            exact ⟨b, o0 + off, rfl, by simp [World.setCells]⟩
          · exact h18
        obtain ⟨b2, o2, h20, rfl⟩ := h18
        · simp only [Option.some.injEq, Addr.mk.injEq, and_true] at h20
          obtain ⟨rfl, rfl⟩ := h20
          have hfit2 : (n' + k1) * te.size ≤ cap * te.size := Nat.mul_le_mul_right _ hfit
          rw [Nat.add_mul, ← hwl.1] at hfit2
          have hgr := setCells_grown ws w b (o0 + off + n' * te.size)
          have hnew := setCells_heap ws w b (o0 + off + n' * te.size) cells el fz h6
          have hsh : ∀ b', some b = some b' → ¬ R b' ∧ ∀ (c : Array Value) (e : TypeId) (f : Nat × Nat), w.heap[b']? = some (Obj.cells c e f) → ∃ (c' : Array Value) (f' : Nat × Nat), (w.setCells b (o0 + off + n' * te.size) ws).heap[b']? = some (Obj.cells c' e f') ∧ c'.size = c.size := by
            rintro b' rfl'
            cases rfl'
            refine ⟨hnR, fun c e f hcf => ?_⟩
            rw [h6] at hcf
            cases hcf
            exact ⟨_, _, hnew, setsV_size _ _ _⟩
          have hon := e7.onward hgr hsh
          have Hk : HRel X R μ { h with tab := (β0, none) :: h.tab } (w.setCells b (o0 + off + n' * te.size) ws) := (e7.kill β0).grow hgr hsh (by
            rintro b' rfl'
            cases rfl'
            exact ⟨hown, e7.free_kill hg h2⟩) (by
            rintro b' rfl'
            cases rfl'
            exact ⟨cells, el, fz, h6⟩)
          have Ha := Hk.add (b := b) (o := o0 + off) (blk := bd') hnR hown
            ⟨setsV cells (o0 + off + n' * te.size) ws, el, fz, (vs.drop off).take (n' * te.size) ++ ws, hnew, by rw [setsV_size]; exact h11, hbn.mono (fun _ h => h) hon mu_app, fun j v hj => by
              rw [setsV_get _ _ _ _ (by omega)]
              by_cases hj2 : j < n' * te.size
              · rw [List.getElem?_append_left (by omega)] at hj
                rw [if_neg (by omega)]
                exact hoc j v hj
              · rw [List.getElem?_append_right (by omega), hol] at hj
                obtain ⟨hl2, _⟩ := List.getElem?_eq_some_iff.1 hj
                rw [if_pos (by omega), show o0 + off + j - (o0 + off + n' * te.size) = j - n' * te.size by omega]
                exact hj, by rw [setsV_size, List.length_append, hol]; omega⟩
            (fun γ blk' o' hg' hm' => e7.free_kill hg h2 γ blk' o' hg' hm')
          refine ⟨_, _, R, _, .inl (hexec _ _ (by rw [hse]; exact h1)), ?_, e6.mono (fun _ h => h) hon mu_app, Ha⟩
          simp only [ARel]
          exact ⟨b, o0 + off, cap, _, el, fz, by rw [← e7.len]; simp, rfl, hfit, h5, hnew, by rw [setsV_size, Nat.add_zero]; exact h7⟩
      · have e7' : HRel X R μ (killO h (some β0)) (World.drawnOnce w) := (e7.kill β0).drew _
        have e6' : RegRel R μ (World.drawnOnce w) g a.tmps := e6.mono (fun _ h => h) (onward_drawn R w) (fun _ _ h => h)
        obtain ⟨H1, H2, hon⟩ := new_block e7' e6' ⟨(vs.drop off).take (n' * te.size) ++ ws ++ rest'⟩ e (0, 0) (by simp) (bd := bd') (vs := (vs.drop off).take (n' * te.size) ++ ws) (hbn.mono (fun _ h => h) (onward_drawn R w) (fun _ _ h => h)) (fun j v hj => by
          rw [List.getElem?_toArray, List.getElem?_append_left (by
            obtain ⟨hl, _⟩ := List.getElem?_eq_some_iff.1 hj; exact hl)]
          exact hj)
        refine ⟨_, _, R, _, .inl (hexec _ _ (by rw [hse]; exact h1)), ?_, H2, H1⟩
        simp only [ARel]
        exact ⟨w.heap.size, 0, cap', _, e, (0, 0), (by have := new_name e7'; exact this), rfl, h18, h3, heap_new _ _, by simpa using Nat.le_of_eq h19.symm⟩
  split at hp
  · rename_i bd' c3 e2 happ hk
    exact main bd' c3 happ (.inl ⟨_, hk⟩) (Option.some.inj hp)
  · rename_i bd' c3 happ hk
    exact main bd' c3 happ (.inr hk) (Option.some.inj hp)
  · simp at hp

theorem stepApp_dst {d n z : Nat} {β : Option Nat} {blk : Body} {c : Prop} (hp : stepApp T N g h o = some (d, (n, z), β, blk, c)) : o.dst = some d ∧ Nat.blt d N = true := by
  unfold stepApp at hp
  split at hp
  case h_2 => simp at hp
  rename_i d' cl hd hop
  cases hb : Nat.blt d' N <;> rw [hb] at hp <;> simp only [cond_true, cond_false, reduceCtorEq] at hp
  have : d' = d := by
    repeat' split at hp
    all_goals first
      | (simp at hp; done)
      | (simp only [Option.some.injEq, Prod.mk.injEq] at hp; exact hp.1)
  subst this
  exact ⟨hd, hb⟩

theorem opStep_app (hTO : TOk P T) {d n z : Nat} {β : Option Nat} {blk : Body} {c : Prop} (hp : stepApp T N g h o = some (d, (n, z), β, blk, c)) (hc : c) : OpStep P N o g h ((d, .sl h.nxt 0 n z) :: g) ((killO h β).push blk) :=
  opStep_of2 (opStep2_app hTO hp hc) (stepApp_dst hp).1 (stepApp_dst hp).2

theorem ar_app (hTO : TOk P T) {t : Bool} {d n z : Nat} {β : Option Nat} {blk : Body} {c : Prop} (hp : stepApp T N g h o = some (d, (n, z), β, blk, c)) (hg : guardB ops g o = some t) (ht : t = true) (hc : c)
    (hk : AReg P f N m ops rest k ((d, .sl h.nxt 0 n z) :: g) ((killO h β).push blk) Post) : AReg P f N m ops (o :: rest) k g h Post :=
  ar_op hg ht (opStep_app hTO hp hc) hk

end
end Go.Proofs.Ytplfajhaehkhnaa

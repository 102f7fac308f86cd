/-
  ABSTRACT MACHINE, 18: the rules of a walk through a region that draws its order.
-/
import Derived.Test.YtplfajhaehkhnaaA17
namespace Go.Proofs.Ytplfajhaehkhnaa
open Go

theorem optInt_congr {ev ev' : Operand → AVal} {o : Option Operand} (h : ∀ x, o = some x → ev x = ev' x) : optInt ev o = optInt ev' o := by
  cases o with
  | none => rfl
  | some x => simp only [optInt, h x rfl]

theorem pureOp_congr {T : TTab} {ev ev' : Operand → AVal} {op : Op} (h : ∀ x ∈ op.operands, ev x = ev' x) : pureOp T ev op = pureOp T ev' op := by
  cases op <;> simp only [Op.operands] at h <;> simp only [pureOp]
  case build t ps =>
    have : (ps.toList.map fun p => (p.1, ev p.2)) = ps.toList.map fun p => (p.1, ev' p.2) := List.map_congr_left fun p hp => by
      rw [h p.2 (by simpa using ⟨p.1, by simpa using hp⟩)]
    rw [this]
  case makeFunc fn first caps =>
    have : caps.toList.map ev = caps.toList.map ev' := List.map_congr_left fun x hx => h x (by simp; right; simpa using hx)
    rw [this]
  case call c =>
    have : c.args.toList.map ev = c.args.toList.map ev' := List.map_congr_left fun x hx => h x (by simp only [Call.operands]; simp; right; simpa using hx)
    rw [this]
  case slice t x lo hi mx =>
    rw [h x (by simp), optInt_congr (o := lo) (fun y hy => h y (by subst hy; simp)), optInt_congr (o := hi) (fun y hy => h y (by subst hy; simp)), optInt_congr (o := mx) (fun y hy => h y (by subst hy; simp))]
  all_goals first
    | rfl
    | (simp only [List.mem_toArray, List.mem_cons, List.not_mem_nil, or_false, forall_eq_or_imp, forall_eq] at h; simp only [h])
    | (simp_all; done)

theorem callA_congr {g g' : Regs} {o : Oper} (h : ∀ x ∈ o.op.operands, evA g' x = evA g x) : callA g' o = callA g o := by
  unfold callA
  split
  · rename_i c hop
    rw [hop] at h
    simp only [Op.operands, Call.operands] at h
    split
    · rename_i x hx
      rw [hx] at h
      rw [h x (by simp)]
      have : c.args.toList.map (evA g') = c.args.toList.map (evA g) := List.map_congr_left fun y hy => h y (by simp; right; simpa using hy)
      rw [this]
    · rfl
  · rfl

section
variable {P : Program} {T : TTab} {f N : Nat} {m : Md} {ops : Array Oper} {o : Oper} {rest : List Oper} {g : Regs} {ld : List Nat} {Hs : Nat → Hp} {K ix j : Nat} {F : Regs → Prop}

theorem aq_nil (hj : j = K) (hk : F g) : QGo P N ld ops Hs K F [] ix j g := ⟨hj, hk⟩

theorem aq_skip {d : Nat} {t : Bool} (hg : guardB ops g o = some t) (ht : t = false) (hd : o.dst = some d) (hk : QGo P N ld ops Hs K F rest (ix + 1) j ((d, .tuple []) :: g)) : QGo P N ld ops Hs K F (o :: rest) ix j g := by
  subst ht; exact .inl ⟨d, hg, hd, hk⟩

theorem aq_quiet {d : Nat} {v : AVal} {t : Bool} (hg : guardB ops g o = some t) (ht : t = true) (hd : o.dst = some d) (hN : Nat.blt d N = true) (hq : ∀ i, i ≤ limAt ld ops ix → QOp P N (Hs i) (Hs i) o g v) (hk : QGo P N ld ops Hs K F rest (ix + 1) j ((d, v) :: g)) : QGo P N ld ops Hs K F (o :: rest) ix j g := by
  subst ht; exact .inr (.inl ⟨d, v, hg, hd, hN, hq, hk⟩)

theorem wp_value {a : Act} {w w' : World} {u : Value} {K : Act → World → Prop} {Q : Exit → Act → World → Prop} (h : (execOp a.eval o).run P w = .ok (.value u) w') (hk : K (a.put o.dst u) w') : o.wp P a w K Q := by
  unfold Oper.wp; rw [h]; exact hk

theorem aq_pure (hTO : TOk P T) {d : Nat} {v : AVal} {c : Prop} {t : Bool} (hp : stepPure T N g o = some (d, v, c)) (hg : guardB ops g o = some t) (ht : t = true) (hc : c) (hk : QGo P N ld ops Hs K F rest (ix + 1) j ((d, v) :: g)) : QGo P N ld ops Hs K F (o :: rest) ix j g := by
  rw [stepPure_eq] at hp
  split at hp
  case h_2 => simp at hp
  rename_i d' hd
  cases hb : Nat.blt d' N <;> rw [hb] at hp <;> simp only [cond_true, cond_false, reduceCtorEq] at hp
  split at hp
  case h_2 => simp at hp
  rename_i v' c' hv
  simp only [Option.some.injEq, Prod.mk.injEq] at hp
  obtain ⟨rfl, rfl, rfl⟩ := hp
  refine aq_quiet hg ht hd hb (fun i _ => ?_) hk
  intro g' hag X R μ a w Q e5 e6 e7
  rw [← pureOp_congr hag] at hv
  obtain ⟨u, h1, h2⟩ := pureOp_sound (P := P) (w := w) hTO (evA_rel (a := a) e6) o hv hc
  exact wp_value h1 ⟨u, R, μ, rfl, h2, e6, e7⟩

/-- A read: of each heap that may be there the same. -/
theorem aq_load (hTO : TOk P T) {d : Nat} {v : AVal} {t : Bool} (hd : o.dst = some d) (hN : Nat.blt d N = true) (hp : ∀ i, i ≤ limAt ld ops ix → ∃ c, stepLoad T N g (Hs i) o = some (d, v, c) ∧ c) (hg : guardB ops g o = some t) (ht : t = true)
    (hk : QGo P N ld ops Hs K F rest (ix + 1) j ((d, v) :: g)) : QGo P N ld ops Hs K F (o :: rest) ix j g := by
  refine aq_quiet hg ht hd hN (fun i hi => ?_) hk
  intro g' hag X R μ a w Q e5 e6 e7
  obtain ⟨c, h1, hc⟩ := hp i hi
  rw [stepLoad_eq] at h1
  split at h1
  case h_2 => simp at h1
  rename_i d' ty x hd' hop
  cases hb : Nat.blt d' N <;> rw [hb] at h1 <;> simp only [cond_true, cond_false, reduceCtorEq] at h1
  split at h1
  case h_2 => simp at h1
  rename_i tyi bd off hT ha
  simp only [Option.map_eq_some_iff, Prod.mk.injEq] at h1
  obtain ⟨⟨u, q⟩, h2, h3, h4, h5⟩ := h1
  simp only at h4 h5
  subst h4; subst h5
  rw [hop] at hag
  rw [← hag x (by simp [Op.operands])] at ha
  obtain ⟨b, o0, vs, h6, h7, h8⟩ := addrF_sound e7 ha (evA_rel (a := a) e6 x)
  obtain ⟨cv, h9, h10⟩ := loadVar_sound (b := b) (o := o0) hTO hT (bodyRel_cells h7) h8 (loadF_sound h2 hc)
  refine wp_value (u := cv) (w' := w) ?_ ⟨cv, R, μ, rfl, h10, e6, e7⟩
  simp only [execOp, hop, h6, Instr.loadAt, Instr.sureAddr, Sem.run_bind, Sem.run_pure, Result.andThen_ok, h9]

theorem aq_load0 (hTO : TOk P T) {d : Nat} {v : AVal} {c : Prop} {t : Bool} (hp : stepLoad T N g (Hs 0) o = some (d, v, c)) (hl : limAt ld ops ix = 0) (hg : guardB ops g o = some t) (ht : t = true) (hc : c)
    (hk : QGo P N ld ops Hs K F rest (ix + 1) j ((d, v) :: g)) : QGo P N ld ops Hs K F (o :: rest) ix j g := by
  have hdN : o.dst = some d ∧ Nat.blt d N = true := by
    rw [stepLoad_eq] at hp
    split at hp
    case h_2 => simp at hp
    rename_i d' _ _ hd _
    cases hb : Nat.blt d' N <;> rw [hb] at hp <;> simp only [cond_true, cond_false, reduceCtorEq] at hp
    split at hp
    case h_2 => simp at hp
    simp only [Option.map_eq_some_iff, Prod.mk.injEq] at hp
    obtain ⟨_, _, h3, _⟩ := hp
    subst h3
    exact ⟨hd, hb⟩
  exact aq_load hTO hdN.1 hdN.2 (fun i hi => by rw [hl] at hi; rw [Nat.le_zero.1 hi]; exact ⟨c, hp, hc⟩) hg ht hk

/-- The heap turns: in the order of the text. -/
theorem aq_loud {v : AVal} {t : Bool} (hq : QOp P N (Hs j) (Hs (j + 1)) o g v) (hl : loudB ld o = true) (hg : guardB ops g o = some t) (ht : t = true) (hN : ∀ d, o.dst = some d → Nat.blt d N = true)
    (hk : QGo P N ld ops Hs K F rest (ix + 1) (j + 1) (match o.dst with | some d => (d, v) :: g | none => g)) : QGo P N ld ops Hs K F (o :: rest) ix j g := by
  subst ht; exact .inr (.inr ⟨v, hl, hg, hN, hq, hk⟩)

/-- A read whose value is told, of read-only cells. -/
theorem aq_loadAs (hTO : TOk P T) {b : Bool} {d : Nat} {t : TypeId} {ty : Ty} {x : Operand} {bd : Body} {off : Nat} (v : AVal) (hd : o.dst = some d) (hop : o.op = .load t x) (hN : Nat.blt d N = true) (hT : T.look t = some ty)
    (ha : ∀ h, addrF h (evA g x) = some (bd, off)) (hg : guardB ops g o = some b) (ht : b = true) (hl : LoadsTo ty bd.cells off v)
    (hk : QGo P N ld ops Hs K F rest (ix + 1) j ((d, v) :: g)) : QGo P N ld ops Hs K F (o :: rest) ix j g := by
  refine aq_quiet hg ht hd hN (fun i _ => ?_) hk
  intro g' hag X R μ a w Q e5 e6 e7
  rw [hop] at hag
  have ha' := ha (Hs i)
  rw [← hag x (by simp [Op.operands])] at ha'
  obtain ⟨b, o0, vs, h6, h7, h8⟩ := addrF_sound e7 ha' (evA_rel (a := a) e6 x)
  obtain ⟨cv, h9, h10⟩ := loadVar_sound (b := b) (o := o0) hTO hT (bodyRel_cells h7) h8 hl
  refine wp_value (u := cv) (w' := w) ?_ ⟨cv, R, μ, rfl, h10, e6, e7⟩
  simp only [execOp, hop, h6, Instr.loadAt, Instr.sureAddr, Sem.run_bind, Sem.run_pure, Result.andThen_ok, h9]

/-- A read whose value is told, of the heap as it is first. -/
theorem aq_loadAs0 (hTO : TOk P T) {b : Bool} {d : Nat} {t : TypeId} {ty : Ty} {x : Operand} {bd : Body} {off : Nat} (v : AVal) (hd : o.dst = some d) (hop : o.op = .load t x) (hN : Nat.blt d N = true) (hT : T.look t = some ty)
    (ha : addrF (Hs 0) (evA g x) = some (bd, off)) (hl0 : limAt ld ops ix = 0) (hg : guardB ops g o = some b) (ht : b = true) (hl : LoadsTo ty bd.cells off v)
    (hk : QGo P N ld ops Hs K F rest (ix + 1) j ((d, v) :: g)) : QGo P N ld ops Hs K F (o :: rest) ix j g := by
  refine aq_quiet hg ht hd hN (fun i hi => ?_) hk
  rw [hl0] at hi
  rw [Nat.le_zero.1 hi]
  intro g' hag X R μ a w Q e5 e6 e7
  rw [hop] at hag
  have ha' := ha
  rw [← hag x (by simp [Op.operands])] at ha'
  obtain ⟨b, o0, vs, h6, h7, h8⟩ := addrF_sound e7 ha' (evA_rel (a := a) e6 x)
  obtain ⟨cv, h9, h10⟩ := loadVar_sound (b := b) (o := o0) hTO hT (bodyRel_cells h7) h8 hl
  refine wp_value (u := cv) (w' := w) ?_ ⟨cv, R, μ, rfl, h10, e6, e7⟩
  simp only [execOp, hop, h6, Instr.loadAt, Instr.sureAddr, Sem.run_bind, Sem.run_pure, Result.andThen_ok, h9]

/-- The same read in a region that does not draw. -/
theorem qop_call {n : FuncId} {as : List AVal} {hp : Hp} {ι : List Nat} {Q : AVal → Hp → Prop} {h h' : Hp} {v : AVal} (hs : Spec P n as hp Q) (hca : callA g o = some (n, AVal.rens (fun j => ι.getD j 0) as)) (hb : AVal.nbs hp.nxt as = true) (hh : Handed h hp ι)
    (hk : ∀ av h1, Q av h1 → ∀ (X : Ctx) (R : Nat → Prop) (μ : Mu) (w : World) (μ' : Mu) (cv : Value), HRel X R μ (h.kills ι) w → ARel R μ' w av cv →
      (∀ i, i < hp.nxt → ∀ p, μ[ι.getD i 0]? = some p → μ'[i]? = some p) → h.nxt = μ.length →
      (∀ β blk, h1.get β = some blk → ∃ b o, μ'[β]? = some (b, o) ∧ ¬ R b ∧ X.own b ∧ BlkRel R μ' w b o blk ∧ HRel.Free (h.kills ι) μ b) →
      (∀ β β' blk blk' b b' o o', h1.get β = some blk → h1.get β' = some blk' → μ'[β]? = some (b, o) → μ'[β']? = some (b', o') → b = b' → β = β') →
      ∃ R2 μ2, (∀ k, R k → R2 k) ∧ (∀ (β : Nat) p, μ[β]? = some p → μ2[β]? = some p) ∧ ARel R2 μ2 w v cv ∧ HRel X R2 μ2 h' w) : QOp P N h h' o g v := by
  intro g' hag X R μ a w Q' e5 e6 e7
  rw [← callA_congr hag] at hca
  obtain ⟨cargs, h1, h2⟩ := callA_run e6 hca hs.can
  have hH := handed_rel e7 hh
  have ha := ARels.unren (μ := muOf μ ι) (fun β hβ => muOf_get e7.len hh hβ) as cargs hb h2
  unfold Oper.wp
  rw [h1]
  refine (hs.run R (muOf μ ι) w cargs hH ha).mono ?_
  rintro e w' ⟨u, rfl, R', μ', av, h1', h3, h4, h5⟩
  obtain ⟨hon, hRR, hK, hlive⟩ := after_call e7 hh h4
  obtain ⟨R2, μ2, h6, h7, h8, h9⟩ := hk av h1' h5 X R' μ w' μ' u hK h3 (fun i hi p hp => h4.mu i p ((muOf_get e7.len hh hi).trans hp)) e7.len.symm hlive h4.inj
  exact ⟨u, R2, μ2, rfl, h8, (e6.mono hRR hon (fun _ _ h => h)).mono h6 (Onward.refl _ _) h7, h9⟩

theorem qop_pur {n : FuncId} {as : List AVal} {r : AVal} {h : Hp} (hs : Pur P n as r) (hca : callA g o = some (n, as)) (hb : AVal.nbs 0 as = true) (hr : AVal.nb 0 r = true) : QOp P N h h o g r := by
  refine qop_call (ι := []) hs (by rw [rens_below0 _ hb]; exact hca) hb handed_none ?_
  intro av h1 hq X R μ w μ' cv e7 h3 _ _ _ _
  subst hq
  refine ⟨R, μ, fun _ h => h, fun _ _ h => h, ?_, e7⟩
  have := ARel.ren (μ2 := μ) (ρ := id) (m := 0) (fun β hβ => absurd hβ (Nat.not_lt_zero _)) av cv hr h3
  rwa [ren_below0 av hr] at this

theorem aq_pur {n : FuncId} {as : List AVal} {r : AVal} {d : Nat} {t : Bool} (hs : Pur P n as r) (hca : callA g o = some (n, as)) (hd : o.dst = some d) (hN : Nat.blt d N = true) (hb : AVal.nbs 0 as = true) (hr : AVal.nb 0 r = true)
    (hg : guardB ops g o = some t) (ht : t = true) (hk : QGo P N ld ops Hs K F rest (ix + 1) j ((d, r) :: g)) : QGo P N ld ops Hs K F (o :: rest) ix j g :=
  aq_quiet hg ht hd hN (fun _ _ => qop_pur hs hca hb hr) hk

/-- What is handed back, read-only from now on. -/
theorem own_to_ro {n : FuncId} {as : List AVal} {l z : Nat} {bd : Body} {v : RVal} {c : Prop} (hs : Own P n as l z bd) (hr : roOf bd 0 l z = some (v, c)) (hc : c) : Pur P n as (.r v) := by
  refine ⟨hs.can, fun R μ w cargs h1 h2 => (hs.run R μ w cargs h1 h2).mono ?_⟩
  rintro e w' ⟨u, rfl, R', μ', av, h', h3, h4, β, rfl, hg⟩
  have he := ent_freeze (m := .of (callCtx w ⟨0, [], false⟩ R μ).μ0.length) (g := [(0, .sl β 0 l z)]) (h := h') 0 (β := β) (off := 0) (n := l) (z := z) (bd := bd) rfl hg hr hc
  obtain ⟨R2, μ2, h5, h6⟩ := he (callCtx w ⟨0, [], false⟩ R μ) R' μ' w' #[u] rfl (fun t => by
    simp only [lookR]
    by_cases e : 0 = t
    · subst e; simpa using h3
    · rw [beq_ne e]; simp [ARel]) h4
  refine ⟨u, rfl, R2, μ2, .r v, h'.set β none, ?_, h6, rfl⟩
  have := h5 0
  simpa [lookR] using this

/-- A value of the callee's, seen from the caller: nothing of it is a name. -/
theorem Pur.mono_r {n : FuncId} {as : List AVal} {r r' : AVal} (hs : Pur P n as r) (h : r = r') : Pur P n as r' := h ▸ hs

end
end Go.Proofs.Ytplfajhaehkhnaa

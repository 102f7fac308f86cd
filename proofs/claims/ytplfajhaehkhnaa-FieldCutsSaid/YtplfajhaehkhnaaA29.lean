/-
  ABSTRACT MACHINE, 29: empty slices.
-/
import Derived.Test.YtplfajhaehkhnaaA28
namespace Go.Proofs.Ytplfajhaehkhnaa
open Go

def slB : AVal → Bool
  | .r (.bs _) => true
  | .r (.ro _ _) => true
  | .r .nil => true
  | .sl _ _ _ _ => true
  | _ => false

theorem slB_val {R : Nat → Prop} {μ : Mu} {w : World} {v : AVal} {c : Value} (h : slB v = true) (hv : ARel R μ w v c) : ∃ a n cap, c = .slice a n cap ∧ n ≤ cap := by
  unfold slB at h
  split at h <;> (try simp only [ARel, RRel] at hv)
  · obtain ⟨a, cap, rfl, h1, _⟩ := hv; exact ⟨a, _, cap, rfl, h1⟩
  · obtain ⟨a, cap, cs, rfl, h1, _⟩ := hv; exact ⟨a, _, cap, rfl, h1⟩
  · obtain ⟨a, rfl⟩ := hv; exact ⟨a, 0, 0, rfl, Nat.le_refl _⟩
  · obtain ⟨b, o, cap, cells, e, fz, _, rfl, h1, _⟩ := hv; exact ⟨_, _, cap, rfl, h1⟩
  · cases h

/-- 's[:0:0]'. -/
def slice0A (T : TTab) (g : Regs) (o : Oper) : Bool :=
  match o.op with
  | .slice t x lo hi mx => slB (evA g x) &&
    match T.look t with
    | some { k := .slice e, .. } =>
      match T.look e, optInt (evA g) lo, optInt (evA g) hi, optInt (evA g) mx with
      | some _, some none, some (some 0), some (some 0) => true
      | some _, some (some 0), some (some 0), some (some 0) => true
      | _, _, _, _ => false
    | _ => false
  | _ => false

section
variable {P : Program} {T : TTab} {f N : Nat} {m : Md} {ops : Array Oper} {o : Oper} {rest : List Oper} {k : List Item} {g g' : Regs} {h h' : Hp} {Post : AVal → Hp → Prop}

theorem run_sliceBounds0 {w : World} {isS : Bool} {n c : Nat} {lo : Option Int} {l u m : Option Value} (hl : OptRel lo l) (hl0 : lo = none ∨ lo = some 0) (hh : OptRel (some 0) u) (hm : OptRel (some 0) m) :
    (Instr.sliceBounds isS n c l u m).run P w = .ok (0, 0, 0) w := by
  cases u with
  | none => simp [OptRel] at hh
  | some u =>
    cases m with
    | none => simp [OptRel] at hm
    | some m =>
      simp only [OptRel] at hh hm
      obtain ⟨k2, rfl⟩ := hh
      obtain ⟨k3, rfl⟩ := hm
      rcases hl0 with rfl | rfl
      · cases l with
        | some l => simp [OptRel] at hl
        | none => simp only [Instr.sliceBounds, Sem.run_bind, Sem.run_pure, Result.andThen_ok, run_sliceBound (P := P) (w := w) (k := k3) (i := 0) (y := c) (by omega), run_sliceBound (P := P) (w := w) (k := k2) (i := 0) (y := (0 : Int).toNat) (by omega)]; rfl
      · cases l with
        | none => simp [OptRel] at hl
        | some l =>
          simp only [OptRel] at hl
          obtain ⟨k1, rfl⟩ := hl
          simp only [Instr.sliceBounds, Sem.run_bind, Sem.run_pure, Result.andThen_ok, run_sliceBound (P := P) (w := w) (k := k3) (i := 0) (y := c) (by omega), run_sliceBound (P := P) (w := w) (k := k2) (i := 0) (y := (0 : Int).toNat) (by omega), run_sliceBound (P := P) (w := w) (k := k1) (i := 0) (y := (0 : Int).toNat) (by omega)]; rfl

theorem qop_slice0 (hTO : TOk P T) (hp : slice0A T g o = true) : QOp P N h h o g (.r .nil) := by
  intro g' hag X R μ a w Q e5 e6 e7
  unfold slice0A at hp
  split at hp
  case h_2 => cases hp
  rename_i t x lo hi mx hop
  rw [Bool.and_eq_true] at hp
  obtain ⟨hx, hp⟩ := hp
  split at hp
  case h_2 => cases hp
  rename_i e _ _ _ hT
  rw [hop] at hag
  have hrel : ∀ y ∈ (Op.slice t x lo hi mx).operands, ARel R μ w (evA g y) (a.eval y) := fun y hy => by rw [← hag y hy]; exact evA_rel (a := a) e6 y
  obtain ⟨d, hd, hk⟩ := tyk_ok hTO hT
  simp only [TyK.ok] at hk
  subst hk
  have hsl := slB_val hx (hrel x (by simp [Op.operands]))
  obtain ⟨ad, n, cap, hv, hnc⟩ := hsl
  have main : ∀ lo' te, T.look e = some te → (lo' = none ∨ lo' = some (0 : Int)) → optInt (evA g) lo = some lo' → optInt (evA g) hi = some (some 0) → optInt (evA g) mx = some (some 0) →
      o.wp P a w (fun a' w' => ∃ cv R' μ', a' = a.put o.dst cv ∧ ARel R' μ' w' (.r .nil) cv ∧ RegRel R' μ' w' g' a.tmps ∧ HRel X R' μ' h w') Q := by
    intro lo' te hE h1 h2 h3 h4
    have hO : ∀ (y : Option Operand) (q : Option Int), (∀ z, y = some z → z ∈ (Op.slice t x lo hi mx).operands) → optInt (evA g) y = some q → OptRel q (y.map a.eval) := by
      intro y q hy hq
      cases y with
      | none => simp only [optInt, Option.some.injEq] at hq; subst hq; simp [OptRel]
      | some z =>
        simp only [optInt] at hq
        split at hq
        · rename_i k n hz
          simp only [Option.some.injEq] at hq
          subst hq
          have := hrel z (hy z rfl)
          rw [hz] at this
          simp only [ARel, RRel] at this
          simp only [Option.map_some, OptRel]
          exact ⟨k, this⟩
        · simp at hq
    have hb := run_sliceBounds0 (P := P) (w := w) (isS := true) (n := n) (c := cap) (hO lo lo' (by intro z hz; subst hz; simp [Op.operands]) h2) h1 (hO hi (some 0) (by intro z hz; subst hz; simp [Op.operands]) h3) (hO mx (some 0) (by intro z hz; subst hz; simp [Op.operands]) h4)
    refine wp_value (u := .slice ad 0 0) (w' := w) ?_ ⟨_, R, μ, rfl, ?_, e6, e7⟩
    · simp only [execOp, hop, hv, Sem.run_bind]
      have : (Instr.sliceAt t (.slice ad n cap) (lo.map a.eval) (hi.map a.eval) (mx.map a.eval)).run P w = .ok (.slice ad 0 0) w := by
        simp only [Instr.sliceAt, Instr.slice, Sem.run_bind, run_underlying hd, Result.andThen_ok, hb, Sem.run_pure, size_ok hTO hE]
        rfl
      rw [this]
      rfl
    · simp only [ARel, RRel]
      exact ⟨ad, rfl⟩
  split at hp
  · rename_i te hE h2 h3 h4
    exact main none te hE (.inl rfl) h2 h3 h4
  · rename_i te hE h2 h3 h4
    exact main (some 0) te hE (.inr rfl) h2 h3 h4
  · cases hp

/-- Nothing is appended to nothing. -/
def app0A (T : TTab) (g : Regs) (h : Hp) (o : Oper) : Option Prop :=
  match o.op with
  | .call c =>
    match c.callee, c.args.toList, c.argTypes.toList with
    | .builtin .append, [s, x], [t, t2] =>
      match T.look t, T.look t2, evA g s with
      | some { k := .slice e, .. }, some ty2, .r .nil =>
        match T.look e with
        | some te =>
          match srcA te.size h (evA g x), ty2.k with
          | some (k, _, c2), .slice _ => some ((c2 ∧ k = 0) ∧ (te.zero ≠ [] ∧ te.zero.length = te.size))
          | some (k, _, c2), .str => some ((c2 ∧ k = 0) ∧ (te.zero ≠ [] ∧ te.zero.length = te.size))
          | _, _ => none
        | none => none
      | _, _, _ => none
    | _, _, _ => none
  | _ => none

theorem qop_app0 (hTO : TOk P T) {c : Prop} (hp : app0A T g h o = some c) (hc : c) : QOp P N h h o g (.r .nil) := by
  intro g' hag X R μ a w Q e5 e6 e7
  unfold app0A at hp
  split at hp
  case h_2 => simp at hp
  rename_i cl hop
  split at hp
  case h_2 => simp at hp
  rename_i s x t t2 hcal hargs htys
  split at hp
  case h_2 => simp at hp
  rename_i e _ _ _ ty2 hT hT2 hs0
  split at hp
  case h_2 => simp at hp
  rename_i te hE
  rw [hop] at hag
  have hmem : s ∈ (Op.call cl).operands ∧ x ∈ (Op.call cl).operands := by
    have h1 : s ∈ cl.args.toList := by rw [hargs]; simp
    have h2 : x ∈ cl.args.toList := by rw [hargs]; simp
    have h3 : s ∈ cl.args := Array.mem_toList_iff.1 h1
    have h4 : x ∈ cl.args := Array.mem_toList_iff.1 h2
    simp only [Op.operands, Call.operands, hcal]
    exact ⟨by simp [h3], by simp [h4]⟩
  have hrel : ∀ y ∈ (Op.call cl).operands, ARel R μ w (evA g y) (a.eval y) := fun y hy => by rw [← hag y hy]; exact evA_rel (a := a) e6 y
  have main : ∀ k bd c2, srcA te.size h (evA g x) = some (k, bd, c2) → ((∃ e2, ty2.k = .slice e2) ∨ ty2.k = .str) → (c2 ∧ k = 0) ∧ (te.zero ≠ [] ∧ te.zero.length = te.size) →
      o.wp P a w (fun a' w' => ∃ cv R' μ', a' = a.put o.dst cv ∧ ARel R' μ' w' (.r .nil) cv ∧ RegRel R' μ' w' g' a.tmps ∧ HRel X R' μ' h w') Q := by
    rintro k bd c2 hsr hk2 ⟨⟨hc2, rfl⟩, hc6, hc7⟩
    obtain ⟨ws, hsrc, hbw, hone⟩ := srcA_sound e7 hsr hc2 (hrel x hmem.2)
    have hsr2 := hrel s hmem.1
    rw [hs0] at hsr2
    simp only [ARel, RRel] at hsr2
    obtain ⟨ad, hsr2⟩ := hsr2
    have hr := run_append (ty := o.type) (old := []) hTO hT rfl hE hT2 hk2 hc6 hc7 hsrc hone (base := ad) (n := 0) (cap := 0) (.inl ⟨rfl, rfl, rfl⟩) (Nat.le_refl _) (by unfold maxLen; omega) (by omega) (by unfold maxLen; omega)
    rcases hr with ⟨w', h1, _, h3⟩ | ⟨_, _, _, _, _, _, h9⟩
    · have hw : w' = w := by
        rcases h3 with ⟨_, rfl⟩ | ⟨b, o', _, rfl⟩
        · rfl
        · have hw0 : ws = [] := List.length_eq_zero_iff.1 (by rw [(hsrc.len (P := P)).1]; simp)
          subst hw0
          simp [World.setCells]
      subst hw
      refine wp_value (u := .slice ad 0 0) (w' := w') ?_ ⟨_, R, μ, rfl, ?_, e6, e7⟩
      · have ha1 : cl.args.map a.eval = ⟨[a.eval s, a.eval x]⟩ := by apply Array.ext'; rw [Array.toList_map, hargs]; rfl
        have ha2 : cl.argTypes = ⟨[t, t2]⟩ := by apply Array.ext'; exact htys
        simp only [execOp, hop, resolve, hcal, Sem.run_bind, Sem.run_pure, Result.andThen_ok, invoke, builtin, ha1, ha2, hsr2, h1]
      · simp only [ARel, RRel]
        exact ⟨ad, rfl⟩
    · omega
  split at hp
  · rename_i k bd c2 e2 hsr hk
    simp only [Option.some.injEq] at hp
    subst hp
    exact main k bd c2 hsr (.inl ⟨_, hk⟩) hc
  · rename_i k bd c2 hsr hk
    simp only [Option.some.injEq] at hp
    subst hp
    exact main k bd c2 hsr (.inr hk) hc
  · simp at hp

end
end Go.Proofs.Ytplfajhaehkhnaa

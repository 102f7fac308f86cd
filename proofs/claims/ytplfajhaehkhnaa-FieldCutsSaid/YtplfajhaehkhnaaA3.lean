/-
  ABSTRACT MACHINE, 3: equality of values, and the operations that touch no memory, reckoned.
-/
import Derived.Test.YtplfajhaehkhnaaA2
namespace Go.Proofs.Ytplfajhaehkhnaa
open Go

def leafEq : TyK → AVal → AVal → Option Bool
  | .int _, .r (.int k a), .r (.int k' b) => if k = k' then some (decide (a = b)) else none
  | .bool, .r (.bool a), .r (.bool b) => some (a == b)
  | .str, .r (.str a), .r (.str b) => some (decide (a = b))
  | _, _, _ => none

def eqAll (g : Nat × TypeId → Option Bool) : List (Nat × TypeId) → Option Bool
  | [] => some true
  | [x] => g x
  | x :: y :: l =>
    match g x, eqAll g (y :: l) with
    | some a, some b => some (a && b)
    | _, _ => none

/-- A part of cells, by its type's size. -/
def partL {α : Type} (T : TTab) (t : TypeId) (xs : List α) (off : Nat) : List α :=
  match T.look t with
  | some ty => (xs.drop off).take ty.size
  | none => []

def eqT (T : TTab) : Nat → TypeId → List AVal → List AVal → Option Bool
  | 0, _, _, _ => none
  | d + 1, t, xs, ys =>
    match T.look t with
    | some { k := .struct fs, .. } => eqAll (fun p => eqT T d p.2 (partL T p.2 xs p.1) (partL T p.2 ys p.1)) fs
    | some { k := .arr n e, size := _, bytes := _, zero := _ } =>
      match T.look e with
      | some te => eqAll (fun p => eqT T d p.2 (partL T p.2 xs p.1) (partL T p.2 ys p.1)) ((List.range n).map fun i => (i * te.size, e))
      | none => none
    | some ty =>
      match xs, ys with
      | [x], [y] => leafEq ty.k x y
      | _, _ => none
    | none => none

def IsVal (T : TTab) (t : TypeId) (cs : List Value) (a : Value) : Prop :=
  ∃ ty, T.look t = some ty ∧ if ty.k.agg then a = .agg ⟨cs⟩ else cs = [a]

section
variable {P : Program} {T : TTab} {R : Nat → Prop} {μ : Mu} {w : World}

theorem leafEq_run {k : TyK} {x y : AVal} {b : Bool} (h : leafEq k x y = some b) {c e : Value} (hx : ARel R μ w x c) (hy : ARel R μ w y e) {t : TypeId} {ty : Ty}
    (ht : TyOk P t ty) (hk : ty.k = k) (d : Nat) : (Op.equalIn (d + 1) t c e).run P w = .ok b w := by
  obtain ⟨D, i, hD, hi, _, _, hok, _, _⟩ := ht.ex
  unfold leafEq at h
  split at h
  · split at h <;> simp at h
    rename_i hkk
    subst h; subst hkk
    rw [hk] at hok
    simp only [TyK.ok] at hok
    simp only [ARel, RRel] at hx hy
    subst hx; subst hy; subst hok
    rw [run_equalIn_int w d t _ _ _ _ hD]
    congr 1
  · simp at h
    subst h
    rw [hk] at hok
    simp only [TyK.ok] at hok
    simp only [ARel, RRel] at hx hy
    subst hx; subst hy; subst hok
    rw [run_equalIn_bool w d t _ _ hD]
  · simp at h
    subst h
    rw [hk] at hok
    simp only [TyK.ok] at hok
    simp only [ARel, RRel] at hx hy
    subst hx; subst hy; subst hok
    rw [run_equalIn_string w d t _ _ hD, ByteArray.toList_eq, ByteArray.toList_eq]
    congr 1
    exact Bool.eq_iff_iff.2 (by simp)
  · simp at h

theorem take_one_drop {α : Type} {cs : List α} {off : Nat} (h : off < cs.length) : (cs.drop off).take 1 = [cs[off]] := by
  rw [List.drop_eq_getElem_cons h]; rfl

theorem extract_mk (cs : List Value) (a n : Nat) : (⟨cs⟩ : Array Value).extract a (a + n) = ⟨(cs.drop a).take n⟩ := by
  apply Array.ext'
  rw [Array.toList_extract]
  simp

theorem isVal_part {t : TypeId} {ty : Ty} (hT : T.look t = some ty) (ht : TyOk P t ty) {cs : List Value} {off : Nat} (hl : ty.k.agg = false → off < cs.length) :
    ∃ a, (part t ⟨cs⟩ off).run P w = .ok a w ∧ IsVal T t (partL T t cs off) a := by
  obtain ⟨D, i, hD, hi, hs, _, hok, _, _⟩ := ht.ex
  have hz : P.cellsOf t = ty.size := by simp [Program.cellsOf, hi, hs]
  cases hk : ty.k <;> rw [hk] at hok <;> simp only [TyK.ok] at hok
  case arr n e =>
    subst hok
    refine ⟨.agg ((⟨cs⟩ : Array Value).extract off (off + ty.size)), by simp [part, isAgg, run_underlying hD, run_sizeOf w hi, hz], ty, hT, ?_⟩
    rw [extract_mk, if_pos (by rw [hk]; rfl)]
    unfold partL
    rw [hT]
  case struct fs =>
    obtain ⟨a, rfl, _⟩ := hok
    refine ⟨.agg ((⟨cs⟩ : Array Value).extract off (off + ty.size)), by simp [part, isAgg, run_underlying hD, run_sizeOf w hi, hz], ty, hT, ?_⟩
    rw [extract_mk, if_pos (by rw [hk]; rfl)]
    unfold partL
    rw [hT]
  case other =>
    have ho := hl (by simp [hk, TyK.agg])
    have h1 := ht.leaf (by simp [hk, TyK.agg])
    have e1 : (isAgg t).run P w = .ok false w := by
      simp only [isAgg, Sem.run_bind, run_underlying hD, Result.andThen_ok]
      cases D <;> simp_all
    refine ⟨cs[off], by simp [part, e1, ho], ty, hT, ?_⟩
    rw [if_neg (by rw [hk]; simp [TyK.agg])]
    unfold partL
    rw [hT]
    show (cs.drop off).take ty.size = _
    rw [h1, take_one_drop ho]
  all_goals
    have ho := hl (by simp [hk, TyK.agg])
    have h1 := ht.leaf (by simp [hk, TyK.agg])
    subst hok
    refine ⟨cs[off], by simp [part, isAgg, run_underlying hD, ho], ty, hT, ?_⟩
    rw [if_neg (by rw [hk]; simp [TyK.agg])]
    unfold partL
    rw [hT]
    show (cs.drop off).take ty.size = _
    rw [h1, take_one_drop ho]


theorem partL_rel {t : TypeId} {xs : List AVal} {cs : List Value} (h : ARels R μ w xs cs) (off : Nat) : ARels R μ w (partL T t xs off) (partL T t cs off) := by
  unfold partL
  split
  · exact (h.drop off).take _
  · simp [ARels]

theorem leafEq_one {k : TyK} {x y : AVal} {b : Bool} (h : leafEq k x y = some b) : k.agg = false := by
  unfold leafEq at h
  split at h <;> first | rfl | simp at h

theorem partL_one {t : TypeId} {ty : Ty} (hT : T.look t = some ty) {xs : List AVal} {x : AVal} {off : Nat} (h : partL T t xs off = [x]) : off < xs.length := by
  unfold partL at h
  rw [hT] at h
  rcases Nat.lt_or_ge off xs.length with h1 | h1
  · exact h1
  · simp [List.drop_eq_nil_of_le h1] at h

/-- Of a part that is compared, the place lies in the cells. -/
theorem eqT_place {d : Nat} {t : TypeId} {ty : Ty} (hT : T.look t = some ty) {xs ys : List AVal} {off off' : Nat} {b : Bool} (h : eqT T d t (partL T t xs off) (partL T t ys off') = some b) :
    ty.k.agg = false → off < xs.length ∧ off' < ys.length := by
  intro ha
  cases d with
  | zero => simp [eqT] at h
  | succ d =>
    simp only [eqT, hT] at h
    obtain ⟨k, size, bytes, zero⟩ := ty
    simp only at ha h ⊢
    cases k <;> simp [TyK.agg] at ha
    all_goals
      simp only at h
      split at h
      · rename_i e1 e2
        exact ⟨partL_one hT e1, partL_one hT e2⟩
      · simp at h

/-- The parts of a struct or an array, compared one by one. -/
theorem eqAll_cons {g : Nat × TypeId → Option Bool} {x : Nat × TypeId} {l : List (Nat × TypeId)} {b : Bool} (h : eqAll g (x :: l) = some b) :
    (∃ a c, g x = some a ∧ eqAll g l = some c ∧ b = (a && c)) := by
  cases l with
  | nil => exact ⟨b, true, by simpa [eqAll] using h, rfl, by simp⟩
  | cons y l =>
    simp only [eqAll] at h
    split at h
    · rename_i a c h1 h2
      simp at h
      exact ⟨a, c, h1, h2, h.symm⟩
    · simp at h

theorem eqT_run (hTO : TOk P T) : ∀ (d : Nat) (t : TypeId) (xs ys : List AVal) (b : Bool), eqT T d t xs ys = some b → ∀ (cs ds : List Value), ARels R μ w xs cs → ARels R μ w ys ds →
    ∀ a c, IsVal T t cs a → IsVal T t ds c → ∀ d', d ≤ d' → (Op.equalIn d' t a c).run P w = .ok b w
  | 0, _, _, _, _, h => by simp [eqT] at h
  | d + 1, t, xs, ys, b, h => by
    intro cs ds hx hy a c ha hc d' hd'
    obtain ⟨d', rfl⟩ : ∃ m, d' = m + 1 := ⟨d' - 1, by omega⟩
    obtain ⟨ty, hT, ha⟩ := ha
    obtain ⟨ty', hT', hc⟩ := hc
    rw [hT] at hT'
    cases hT'
    have hok := hTO t ty hT
    obtain ⟨D, i, hD, hi, -, -, hk, hst, -⟩ := hok.ex
    have part_step : ∀ (f : TypeId) (o : Nat) (r : Bool), eqT T d f (partL T f xs o) (partL T f ys o) = some r → ∃ u v, (part f ⟨cs⟩ o).run P w = .ok u w ∧ (part f ⟨ds⟩ o).run P w = .ok v w ∧
        (Op.equalIn d' f u v).run P w = .ok r w := by
      intro f o r hr
      cases hf : T.look f with
      | none =>
        cases d with
        | zero => simp [eqT] at hr
        | succ d => simp [eqT, hf] at hr
      | some tf =>
        have hp := eqT_place hf hr
        obtain ⟨u, hu1, hu2⟩ := isVal_part (P := P) (w := w) hf (hTO f tf hf) (cs := cs) (off := o) (fun h0 => by rw [hx.length]; exact (hp h0).1)
        obtain ⟨v, hv1, hv2⟩ := isVal_part (P := P) (w := w) hf (hTO f tf hf) (cs := ds) (off := o) (fun h0 => by rw [hy.length]; exact (hp h0).2)
        exact ⟨u, v, hu1, hv1, eqT_run hTO d f _ _ r hr _ _ (partL_rel hx o) (partL_rel hy o) u v hu2 hv2 d' (by omega)⟩
    simp only [eqT, hT] at h
    obtain ⟨k, size, bytes, zero⟩ := ty
    simp only at hk h ha hc hst hok
    cases k with
    | struct fs =>
      simp only [TyK.ok] at hk
      obtain ⟨fa, rfl, hfs, hnm⟩ := hk
      simp only [TyK.agg, if_true] at ha hc
      subst ha; subst hc
      have hfo : P.fieldsOf t = fa := by simp [Program.fieldsOf, hD]
      rw [run_equalIn_struct w d' t _ _ (by rw [hfo]; exact hD) (hst rfl).1, hfo]
      simp only at h
      clear hfo hD hT hok hst
      generalize fa.toList = l at hfs hnm
      induction l generalizing fs b with
      | nil => subst hfs; simp [eqAll] at h; subst h; simp [Op.eqFields]
      | cons f l ih =>
        subst hfs
        rw [List.map_cons] at h
        obtain ⟨r, s, h1, h2, rfl⟩ := eqAll_cons h
        obtain ⟨u, v, hu, hv, he⟩ := part_step f.type f.offset r h1
        simp only [List.all_cons, Bool.and_eq_true, bne_iff_ne] at hnm
        simp only [Op.eqFields, hnm.1, ne_eq, not_false_eq_true, if_true, Sem.run_bind, hu, hv, he, Result.andThen_ok, Sem.run_ite]
        cases r with
        | false => simp
        | true => simpa using ih s _ h2 rfl hnm.2
    | arr n e =>
      simp only [TyK.ok] at hk
      subst hk
      simp only [TyK.agg, if_true] at ha hc
      subst ha; subst hc
      simp only at h
      split at h
      case h_2 => simp at h
      rename_i te hte
      obtain ⟨De, ie, hDe, hie, hse, _⟩ := (hTO e te hte).ex
      have hz : P.cellsOf e = te.size := by simp [Program.cellsOf, hie, hse]
      rw [run_equalIn_array w d' _ _ hD hie, hz]
      clear hD hT hok
      generalize List.range n = l at h
      induction l generalizing b with
      | nil => simp [eqAll] at h; subst h; simp [Op.eqItems]
      | cons j l ih =>
        rw [List.map_cons] at h
        obtain ⟨r, s, h1, h2, rfl⟩ := eqAll_cons h
        obtain ⟨u, v, hu, hv, he⟩ := part_step e (j * te.size) r h1
        simp only [Op.eqItems, Sem.run_bind, hu, hv, he, Result.andThen_ok, Sem.run_ite]
        cases r with
        | false => simp
        | true => simpa using ih s h2
    | _ =>
      simp only at h
      split at h
      case h_2 => simp at h
      rename_i x y _ _
      have hg := leafEq_one h
      rw [hg] at ha hc
      simp only [Bool.false_eq_true, if_false] at ha hc
      subst ha; subst hc
      simp only [ARels] at hx hy
      obtain ⟨x1, r1, e1, hx1, e2⟩ := hx
      obtain ⟨y1, r2, e3, hy1, e4⟩ := hy
      subst e2; subst e4
      simp only [List.cons.injEq, and_true] at e1 e3
      subst e1; subst e3
      exact leafEq_run h hx1 hy1 hok rfl d'

end

end Go.Proofs.Ytplfajhaehkhnaa

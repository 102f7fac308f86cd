/-
  ABSTRACT MACHINE, 25: the arguments of a law.
-/
import Derived.Test.YtplfajhaehkhnaaA24
import Derived.ProofKit
namespace Go.Proofs.Ytplfajhaehkhnaa
open Go Go.RowKit

/-- Types that are read, closed under their parts. -/
def goodG (T : TTab) (G : List TypeId) : Bool :=
  G.all fun t =>
    match T.look t with
    | some { k := .int _, .. } => true
    | some { k := .bool, .. } => true
    | some { k := .str, .. } => true
    | some { k := .slice e, .. } => (match T.look e with | some te => Nat.blt 0 te.size | none => false) && G.any (fun x => Nat.beq x e)
    | some { k := .arr n e, size := s, .. } => (match T.look e with | some te => Nat.beq s (n * te.size) | none => false) && G.any (fun x => Nat.beq x e)
    | some { k := .struct fs, size := s, .. } => (match contig T fs 0 with | some n => Nat.beq n s | none => false) && fs.all fun f => G.any (fun x => Nat.beq x f.2)
    | _ => false

theorem any_mem {G : List TypeId} {e : TypeId} (h : (G.any fun x => Nat.beq x e) = true) : e ∈ G := by
  obtain ⟨x, h1, h2⟩ := List.any_eq_true.1 h
  rw [← Nat.eq_of_beq_eq_true h2]; exact h1

theorem goodT_of {T : TTab} {G : List TypeId} (hG : goodG T G = true) : ∀ (fuel : Nat) (t : TypeId), t ∈ G → goodT T fuel t = true
  | 0, _, _ => rfl
  | fuel + 1, t, ht => by
    have h := List.all_eq_true.1 hG t ht
    unfold goodT
    split at h <;> rename_i heq <;> simp only [heq]
    · rw [Bool.and_eq_true] at h ⊢
      exact ⟨h.1, goodT_of hG fuel _ (any_mem h.2)⟩
    · rw [Bool.and_eq_true] at h ⊢
      exact ⟨h.1, goodT_of hG fuel _ (any_mem h.2)⟩
    · rw [Bool.and_eq_true] at h ⊢
      refine ⟨h.1, List.all_eq_true.2 fun f hf => goodT_of hG fuel _ (any_mem (List.all_eq_true.1 h.2 f hf))⟩
    · simp at h

section
variable {P : Program} {T : TTab} {G : List TypeId}

/-- An argument that is an array or a struct. -/
theorem arg_agg (hTO : TOk P T) (hG : goodG T G = true) {H : Type} {enc : TypeId × Value → H} {sp : Nat → Bool} {held : Bool} {W : World} {base : Nat} {t : TypeId} {ty : Ty} {v : Value} {d : DataW H} {p : List MemPlace} (ht : t ∈ G) (hT : T.look t = some ty) (ha : ty.k.agg = true)
    (hval : Value.okWide P W .any base t v) (h : DataW.Trod enc P W 0 sp held t v d p) (hz : ∀ n ∈ d.weights P t, n ≤ reachBytes) : ∃ rs fuel, ARel (CellsAt W) [] W (.agg (rs.map .r)) v ∧ Fits T fuel t rs ∧ rszs rs ≤ dsz d := by
  obtain ⟨fuel, h⟩ := h
  obtain ⟨rs, h1, h2, h2s⟩ := trod_rel hTO fuel t _ d p (goodT_of hG fuel t ht) h hz
  obtain ⟨D, hD, hk⟩ := tyk_ok hTO hT
  have hv : ∃ cs, v = .agg cs := by
    unfold Value.okWide at hval
    rw [hD] at hval
    cases hkk : ty.k <;> rw [hkk] at hk ha <;> simp [TyK.agg] at ha <;> simp only [TyK.ok] at hk
    · subst hk; obtain ⟨cs, h3, _⟩ := hval; exact ⟨cs, h3⟩
    · obtain ⟨fa, rfl, _⟩ := hk; obtain ⟨cs, h3, _⟩ := hval; exact ⟨cs, h3⟩
  obtain ⟨cs, rfl⟩ := hv
  refine ⟨rs, fuel, ?_, h2, h2s⟩
  simp only [ARel]
  exact ⟨cs.toList, rfl, ARels.of_r.2 h1⟩

/-- Any other argument. -/
theorem arg_leaf (hTO : TOk P T) (hG : goodG T G = true) {H : Type} {enc : TypeId × Value → H} {sp : Nat → Bool} {held : Bool} {W : World} {base : Nat} {t : TypeId} {ty : Ty} {v : Value} {d : DataW H} {p : List MemPlace} (ht : t ∈ G) (hT : T.look t = some ty) (ha : ty.k.agg = false)
    (hval : Value.okWide P W .any base t v) (h : DataW.Trod enc P W 0 sp held t v d p) (hz : ∀ n ∈ d.weights P t, n ≤ reachBytes) : ∃ r fuel, ARel (CellsAt W) [] W (.r r) v ∧ Fits T fuel t [r] ∧ rsz r ≤ dsz d := by
  obtain ⟨fuel, h⟩ := h
  have hgt := goodT_of hG (fuel + 1) t ht
  obtain ⟨rs, h1, h2, h2s⟩ := trod_rel hTO fuel t _ d p (goodT_of hG fuel t ht) h hz
  obtain ⟨D, hD, hk⟩ := tyk_ok hTO hT
  have hv : v.cells.toList = [v] := by
    unfold Value.okWide at hval
    rw [hD] at hval
    cases hkk : ty.k <;> rw [hkk] at hk ha <;> simp [TyK.agg] at ha <;> simp only [TyK.ok] at hk
    case ptr e => obtain ⟨tk, a, b, c⟩ := ty; simp only at hkk; subst hkk; simp [goodT, hT] at hgt
    case other => obtain ⟨tk, a, b, c⟩ := ty; simp only at hkk; subst hkk; simp [goodT, hT] at hgt
    all_goals
      subst hk
      simp only [Cell.okWide, hD] at hval
      cases v <;> first | rfl | (simp [Cell.ok, hD] at hval; done)
  rw [hv] at h1
  cases rs with
  | nil => simp [RRels] at h1
  | cons r rs =>
    simp only [RRels] at h1
    obtain ⟨c, r', h3, h4, h5⟩ := h1
    simp only [List.cons.injEq] at h3
    obtain ⟨rfl, rfl⟩ := h3
    cases rs with
    | nil => exact ⟨r, fuel, by simpa only [ARel] using h4, h2, by simpa [rszs] using h2s⟩
    | cons x y => simp [RRels] at h5

/-- The arguments are read again. -/
theorem below_trodAll {H : Type} {enc : TypeId × Value → H} (hl : laidOutB P = true) {W W' : World} (hb : Below W.heap.size W W') (sp : Nat → Bool) : ∀ {ts : List TypeId} {vs : List Value} {ds : List (DataW H)} {ps : List MemPlace},
    (∀ t ∈ ts, P.readableRec t = true ∧ t < P.types.size) → (∀ x ∈ ps, x.block < W.heap.size ∧ sp x.block = true) → DataW.TrodAll enc P W 0 (fun _ => true) true ts vs ds ps → DataW.TrodAll enc P W' 0 sp true ts vs ds ps
  | [], [], [], ps, _, _, h => h
  | t :: ts, v :: vs, d :: ds, ps, hr, hlt, h => by
    obtain ⟨p, q, h1, h2, rfl⟩ := h
    exact ⟨p, q, WideElems.Trod_stays hl (hr t (by simp)).1 (hr t (by simp)).2 h1 (fun x hx => hb.same (hlt x (by simp [hx])).1) (fun x hx => (hlt x (by simp [hx])).2), below_trodAll hl hb sp (fun t' ht' => hr t' (by simp [ht'])) (fun x hx => hlt x (by simp [hx])) h2, rfl⟩
  | [], _ :: _, _, _, _, _, h => h.elim
  | [], [], _ :: _, _, _, _, h => h.elim
  | _ :: _, [], _, _, _, _, h => h.elim
  | _ :: _, _ :: _, [], _, _, _, h => h.elim

end

end Go.Proofs.Ytplfajhaehkhnaa

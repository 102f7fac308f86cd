/-
  THE ABSTRACT MACHINE: texts 25 to 27.
-/
import Derived.Test.YtccdhgmkjakjkaaGreatMC
import Derived.ProofKit
namespace Go.Proofs.YtccdhgmkjakjkaaGreat
open Go Go.RowKit
def goodG (T : TTab) (G : List TypeId) : Bool :=
 G.all fun t =>
  match T.look t with
  | some { k := .int _, .. } => true
  | some { k := .bool, .. } => true
  | some { k := .str, .. } => true
  | some { k := .slice e, .. } => (match T.look e with | some te => Nat.blt 0 te.size | none => false) && G.any (fun x => Nat.beq x e)
  | some { k := .arr n e, size := s, .. } => (match T.look e with | some te => Nat.beq s (n * te.size) | none => false) && G.any (fun x => Nat.beq x e)
  | some { k := .struct fs, size := s, .. } => (match contig T fs 0 with | some n => Nat.beq n s | none => false) && fs.all fun f => G.any (fun x => Nat.beq x f.2)
  | _ => false
theorem any_mem {G : List TypeId} {e : TypeId} (h : (G.any fun x => Nat.beq x e) = true) : e ∈ G := by
 obtain ⟨x, h1, h2⟩ := List.any_eq_true.1 h
 rw [← Nat.eq_of_beq_eq_true h2]; exact h1
theorem goodT_of {T : TTab} {G : List TypeId} (hG : goodG T G = true) : ∀ (fuel : Nat) (t : TypeId), t ∈ G → goodT T fuel t = true
 | 0, _, _ => rfl
 | fuel + 1, t, ht => by
  have h := List.all_eq_true.1 hG t ht
  unfold goodT
  split at h <;> rename_i heq <;> simp only [heq]
  ·rw [Bool.and_eq_true] at h ⊢
   exact ⟨h.1, goodT_of hG fuel _ (any_mem h.2)⟩
  ·rw [Bool.and_eq_true] at h ⊢
   exact ⟨h.1, goodT_of hG fuel _ (any_mem h.2)⟩
  ·rw [Bool.and_eq_true] at h ⊢
   refine ⟨h.1, List.all_eq_true.2 fun f hf => goodT_of hG fuel _ (any_mem (List.all_eq_true.1 h.2 f hf))⟩
  ·simp at h
section
variable {P : Program} {T : TTab} {G : List TypeId}
theorem arg_agg (hTO : TOk P T) (hG : goodG T G = true) {H : Type} {enc : TypeId × Value → H} {sp : Nat → Bool} {held : Bool} {W : World} {base : Nat} {t : TypeId} {ty : Ty} {v : Value} {d : DataW H} {p : List MemPlace} (ht : t ∈ G) (hT : T.look t = some ty) (ha : ty.k.agg = true)
  (hval : Value.okWide P W .any base t v) (h : DataW.Trod enc P W 0 sp held t v d p) (hz : ∀ n ∈ d.weights P t, n ≤ reachBytes) : ∃ rs fuel, ARel (CellsAt W) [] W (.agg (rs.map .r)) v ∧ Fits T fuel t rs ∧ rszs rs ≤ dsz d := by
 obtain ⟨fuel, h⟩ := h
 obtain ⟨rs, h1, h2, h2s⟩ := trod_rel hTO fuel t _ d p (goodT_of hG fuel t ht) h hz
 obtain ⟨D, hD, hk⟩ := tyk_ok hTO hT
 have hv : ∃ cs, v = .agg cs := by
  unfold Value.okWide at hval
  rw [hD] at hval
  cases hkk : ty.k <;> rw [hkk] at hk ha <;> simp [TyK.agg] at ha <;> simp only [TyK.ok] at hk
  ·subst hk; obtain ⟨cs, h3, _⟩ := hval; exact ⟨cs, h3⟩
  ·obtain ⟨fa, rfl, _⟩ := hk; obtain ⟨cs, h3, _⟩ := hval; exact ⟨cs, h3⟩
 obtain ⟨cs, rfl⟩ := hv
 refine ⟨rs, fuel, ?_, h2, h2s⟩
 simp only [ARel]
 exact ⟨cs.toList, rfl, ARels.of_r.2 h1⟩
theorem arg_leaf (hTO : TOk P T) (hG : goodG T G = true) {H : Type} {enc : TypeId × Value → H} {sp : Nat → Bool} {held : Bool} {W : World} {base : Nat} {t : TypeId} {ty : Ty} {v : Value} {d : DataW H} {p : List MemPlace} (ht : t ∈ G) (hT : T.look t = some ty) (ha : ty.k.agg = false)
  (hval : Value.okWide P W .any base t v) (h : DataW.Trod enc P W 0 sp held t v d p) (hz : ∀ n ∈ d.weights P t, n ≤ reachBytes) : ∃ r fuel, ARel (CellsAt W) [] W (.r r) v ∧ Fits T fuel t [r] ∧ rsz r ≤ dsz d := by
 obtain ⟨fuel, h⟩ := h
 have hgt := goodT_of hG (fuel + 1) t ht
 obtain ⟨rs, h1, h2, h2s⟩ := trod_rel hTO fuel t _ d p (goodT_of hG fuel t ht) h hz
 obtain ⟨D, hD, hk⟩ := tyk_ok hTO hT
 have hv : v.cells.toList = [v] := by
  unfold Value.okWide at hval
  rw [hD] at hval
  cases hkk : ty.k <;> rw [hkk] at hk ha <;> simp [TyK.agg] at ha <;> simp only [TyK.ok] at hk
  case ptr e => obtain ⟨tk, a, b, c⟩ := ty; simp only at hkk; subst hkk; simp [goodT, hT] at hgt
  case other => obtain ⟨tk, a, b, c⟩ := ty; simp only at hkk; subst hkk; simp [goodT, hT] at hgt
  all_goals
   subst hk
   simp only [Cell.okWide, hD] at hval
   cases v <;> first | rfl | (simp [Cell.ok, hD] at hval; done)
 rw [hv] at h1
 cases rs with
 | nil => simp [RRels] at h1
 | cons r rs =>
  simp only [RRels] at h1
  obtain ⟨c, r', h3, h4, h5⟩ := h1
  simp only [List.cons.injEq] at h3
  obtain ⟨rfl, rfl⟩ := h3
  cases rs with
  | nil => exact ⟨r, fuel, by simpa only [ARel] using h4, h2, by simpa [rszs] using h2s⟩
  | cons x y => simp [RRels] at h5
theorem below_trodAll {H : Type} {enc : TypeId × Value → H} (hl : laidOutB P = true) {W W' : World} (hb : Below W.heap.size W W') (sp : Nat → Bool) : ∀ {ts : List TypeId} {vs : List Value} {ds : List (DataW H)} {ps : List MemPlace},
  (∀ t ∈ ts, P.readableRec t = true ∧ t < P.types.size) → (∀ x ∈ ps, x.block < W.heap.size ∧ sp x.block = true) → DataW.TrodAll enc P W 0 (fun _ => true) true ts vs ds ps → DataW.TrodAll enc P W' 0 sp true ts vs ds ps
 | [], [], [], ps, _, _, h => h
 | t :: ts, v :: vs, d :: ds, ps, hr, hlt, h => by
  obtain ⟨p, q, h1, h2, rfl⟩ := h
  exact ⟨p, q, WideElems.Trod_stays hl (hr t (by simp)).1 (hr t (by simp)).2 h1 (fun x hx => hb.same (hlt x (by simp [hx])).1) (fun x hx => (hlt x (by simp [hx])).2), below_trodAll hl hb sp (fun t' ht' => hr t' (by simp [ht'])) (fun x hx => hlt x (by simp [hx])) h2, rfl⟩
 | [], _ :: _, _, _, _, _, h => h.elim
 | [], [], _ :: _, _, _, _, h => h.elim
 | _ :: _, [], _, _, _, _, h => h.elim
 | _ :: _, _ :: _, [], _, _, _, h => h.elim
end
end Go.Proofs.YtccdhgmkjakjkaaGreat
namespace Go.Proofs.YtccdhgmkjakjkaaGreat
open Go Go.RowKit Go.ChangeShapes Go.WideShapes Go.ChangeAt
theorem post_law {H : Type} {enc : TypeId × Value → H} {P : Program} {f : Func} {s : ChangeSpec} {fresh handsOn again : Bool} {W W' : World} {args : Array Value} {ds gs : List (DataW H)} {before : List MemPlace} {tb : TypeId}
  (hW : DataW.Whole enc P f.params.toList s.vars false W args.toList ds gs before) (hv : s.vars = []) (h1 : (s.fn H (ds ++ gs)).results = [.lit (.bool true)]) (h2 : (s.fn H (ds ++ gs)).args = ds) (h3 : (s.fn H (ds ++ gs)).vars = [])
  (hl : laidOutB P = true) (hr : ∀ t ∈ f.params.toList, P.readableRec t = true ∧ t < P.types.size) (hb : Below W.heap.size W W') (hres : f.resultTypes = #[tb]) (hub : P.underlying tb = some .bool) :
  s.post enc P f false fresh handsOn again W args (.bool true) W' := by
 have hlt := hW.lt
 have hW0 := hW
 obtain ⟨p, q, hA, hV, rfl, hz, hn⟩ := hW
 rw [hv] at hV
 obtain ⟨rfl, rfl⟩ := trodVars_none hV
 simp only [List.append_nil] at hlt hz hW0
 have hargs0 := fun (sp : Nat → Bool) (hsp : ∀ x ∈ p, sp x.block = true) => below_trodAll hl hb sp hr (fun x hx => ⟨hlt x hx, hsp x hx⟩) hA
 have hrs : ∀ (b : Nat) (sp : Nat → Bool) (hd : Bool), DataW.TrodAll enc P W' b sp hd f.resultTypes.toList ((Value.bool true).resultList f.resultTypes.size) (s.fn H (ds ++ [])).results [] := by
  intro b sp hd
  rw [h1, hres]
  exact ⟨[], [], ⟨1, by simp [DataW.trod, hub, Value.cells]⟩, rfl, rfl⟩
 have hold : ∀ x ∈ p, (fun b => decide (b < W.heap.size)) x.block = true := fun x hx => by simpa using hlt x hx
 refine ⟨ds, [], p, [], p, [], hW0, hrs _ _ _, by rw [h2]; exact hargs0 _ hold, by rw [h3, hv]; trivial, hb.frame _, fun _ => ?_⟩
 refine ⟨ok_one hres rfl (by simp [Value.okWide, hub, Cell.okWide, Cell.ok]), _, _, ([] ++ p) ++ [], ⟨[] ++ p, [], trodAll_append (hargs0 _ (fun _ _ => rfl)) (hrs _ _ _), by rw [hv]; exact (show DataW.TrodVars enc P W' (fun _ => true) [] [] [] from rfl), rfl, ?_, fun h => by simp at h⟩, ?_⟩
 ·intro b off hp
  have hp' : MemPlace.cell b off ∈ p := by simpa using hp
  have := hz b off hp'
  unfold World.frozen? at this ⊢
  rw [hb.block b (hlt _ hp')]
  exact this
 ·intro x hx _
  simpa using hx
end Go.Proofs.YtccdhgmkjakjkaaGreat
namespace Go.Proofs.YtccdhgmkjakjkaaGreat
open Go Go.RowKit Go.ChangeShapes Go.WideShapes Go.ChangeAt
def FitsA (T : TTab) (t : TypeId) (a : AVal) : Prop :=
 match T.look t with
 | some ty => bif ty.k.agg then ∃ fuel rs, a = .agg (rs.map .r) ∧ Fits T fuel t rs else ∃ fuel r, a = .r r ∧ Fits T fuel t [r]
 | none => False
theorem allR_map : ∀ (rs : List RVal), allR (rs.map .r) = some rs
 | [] => rfl
 | r :: rs => by simp only [List.map_cons, allR, allR_map rs]
def asz : AVal → Nat
 | .r v => rsz v
 | .agg cs => rszs ((allR cs).getD [])
 | _ => 0
def aszs : List AVal → Nat
 | [] => 0
 | a :: as => asz a + aszs as
def FitsAs (T : TTab) : List TypeId → List AVal → Prop
 | [], [] => True
 | t :: ts, a :: as => FitsA T t a ∧ FitsAs T ts as
 | _, _ => False
theorem FitsAs.cons {T : TTab} {t : TypeId} {ts : List TypeId} {as : List AVal} (h : FitsAs T (t :: ts) as) : ∃ a as', as = a :: as' ∧ FitsA T t a ∧ FitsAs T ts as' := by
 cases as with
 | nil => exact h.elim
 | cons a as => exact ⟨a, as, rfl, h.1, h.2⟩
theorem FitsAs.nil {T : TTab} {as : List AVal} (h : FitsAs T [] as) : as = [] := by
 cases as with
 | nil => rfl
 | cons a as => exact h.elim
section
variable {P : Program} {T : TTab} {G : List TypeId}
theorem args_of (hTO : TOk P T) (hG : goodG T G = true) {H : Type} {enc : TypeId × Value → H} {sp : Nat → Bool} {held : Bool} {W : World} {base : Nat} : ∀ {ts : List TypeId} {vs : List Value} {ds : List (DataW H)} {ps : List MemPlace},
  (∀ t ∈ ts, t ∈ G) → (∀ (j : Nat) t v, ts[j]? = some t → vs[j]? = some v → Value.okWide P W .any base t v) → DataW.TrodAll enc P W 0 sp held ts vs ds ps → (∀ n ∈ DataW.weightsEach P ts ds, n ≤ reachBytes) → ∃ as, ARels (CellsAt W) [] W as vs ∧ FitsAs T ts as ∧ aszs as ≤ dszs ds
 | [], [], [], ps, _, _, h, _ => ⟨[], rfl, trivial, Nat.le_refl _⟩
 | t :: ts, v :: vs, d :: ds, ps, hm, hv, h, hz => by
  obtain ⟨p, q, h1, h2, rfl⟩ := h
  obtain ⟨as, h3, h4, h4s⟩ := args_of hTO hG (fun t' ht' => hm t' (by simp [ht'])) (fun j t' v' hj hj' => hv (j + 1) t' v' (by simpa using hj) (by simpa using hj')) h2 (fun n hn => hz n (by simp only [DataW.weightsEach, List.mem_append]; exact .inr hn))
  have hz1 : ∀ n ∈ d.weights P t, n ≤ reachBytes := fun n hn => hz n (by simp only [DataW.weightsEach, List.mem_append]; exact .inl hn)
  have ht := hm t (by simp)
  have hval := hv 0 t v (by simp) (by simp)
  have hg := List.all_eq_true.1 hG t ht
  cases hT : T.look t with
  | none => rw [hT] at hg; simp at hg
  | some ty =>
   cases ha : ty.k.agg with
   | true =>
    obtain ⟨rs, fuel, h5, h6, h7⟩ := arg_agg hTO hG ht hT ha hval h1 hz1
    refine ⟨.agg (rs.map .r) :: as, by simp only [ARels]; exact ⟨v, vs, rfl, h5, h3⟩, ⟨?_, h4⟩, by simp only [aszs, asz, allR_map, Option.getD_some, dszs]; omega⟩
    simp only [FitsA, hT, ha, cond_true]
    exact ⟨fuel, rs, rfl, h6⟩
   | false =>
    obtain ⟨r, fuel, h5, h6, h7⟩ := arg_leaf hTO hG ht hT ha hval h1 hz1
    refine ⟨.r r :: as, by simp only [ARels]; exact ⟨v, vs, rfl, h5, h3⟩, ⟨?_, h4⟩, by simp only [aszs, asz, dszs]; omega⟩
    simp only [FitsA, hT, ha, cond_false]
    exact ⟨fuel, r, rfl, h6⟩
 | [], _ :: _, _, _, _, _, h, _ => h.elim
 | [], [], _ :: _, _, _, _, h, _ => h.elim
 | _ :: _, [], _, _, _, _, h, _ => h.elim
 | _ :: _, _ :: _, [], _, _, _, h, _ => h.elim
theorem trodAll_length {H : Type} {enc : TypeId × Value → H} {sp : Nat → Bool} {held : Bool} {W : World} : ∀ {ts : List TypeId} {vs : List Value} {ds : List (DataW H)} {ps : List MemPlace}, DataW.TrodAll enc P W 0 sp held ts vs ds ps → ds.length = ts.length
 | [], [], [], _, _ => rfl
 | _ :: _, _ :: _, _ :: _, _, ⟨_, _, _, h2, _⟩ => by simp [trodAll_length h2]
 | [], _ :: _, _, _, h => h.elim
 | [], [], _ :: _, _, h => h.elim
 | _ :: _, [], _, _, h => h.elim
 | _ :: _, _ :: _, [], _, h => h.elim
theorem law_contractM {M : Nat} (hTO : TOk P T) (hG : goodG T G = true) {H : Type} {enc : TypeId × Value → H} {f : FuncId} {fn : Func} {s : ChangeSpec} {fresh handsOn again : Bool} {tb : TypeId}
  (hgp : ∀ t ∈ fn.params.toList, t ∈ G) (hs : ∀ as, FitsAs T fn.params.toList as → aszs as ≤ M → Pur P f as (.r (.bool true)))
  (hv : s.vars = []) (hsp : ∀ ds, ds.length = fn.params.toList.length → (s.fn H ds).results = [.lit (.bool true)] ∧ (s.fn H ds).args = ds ∧ (s.fn H ds).vars = [])
  (hl : laidOutB P = true) (hr : ∀ t ∈ fn.params.toList, P.readableRec t = true ∧ t < P.types.size) (hres : fn.resultTypes = #[tb]) (hub : P.underlying tb = some .bool)
  (W : World) (base : Nat) (args : Array Value) (ds gs : List (DataW H)) (before : List MemPlace)
  (hval : ∀ (j : Nat) t v, fn.params[j]? = some t → args[j]? = some v → Value.okWide P W .any base t v)
  (hW : DataW.Whole enc P fn.params.toList s.vars false W args.toList ds gs before) (hsz : (DataW.weightsEach P (fn.params.toList ++ s.plain.varTypes P) (ds ++ gs)).all (· ≤ reachBytes) = true) (hM : dszs ds ≤ M) :
  Calls P f args W fun e W' => ∃ v, e = .returned v ∧ s.post enc P fn false fresh handsOn again W args v W' := by
 have hW' := hW
 obtain ⟨p, q, hA0, hV, rfl, hfz, hnd⟩ := hW
 have hA : DataW.TrodAll enc P W 0 (fun _ => true) true fn.params.toList args.toList ds p := hA0
 have hgs : gs = [] := by rw [hv] at hV; exact (trodVars_none hV).1
 subst hgs
 obtain ⟨as, h4, h5, h5s⟩ := args_of hTO hG hgp (fun j t v hj hj' => hval j t v (by simpa using hj) (by simpa using hj')) hA (fun n hn => by
  have hvt : s.plain.varTypes P = [] := by simp [DataSpec.varTypes, ChangeSpec.plain, hv]
  rw [hvt, List.append_nil, List.append_nil] at hsz
  simpa using List.all_eq_true.1 hsz n hn)
 have hc := law_calls (hs as h5 (Nat.le_trans h5s hM)) h4
 have e : (⟨args.toList⟩ : Array Value) = args := rfl
 rw [e] at hc
 refine hc.mono fun e W' ⟨he, g1, g2, g3, g4, g5⟩ => ?_
 subst he
 obtain ⟨h1, h2, h3⟩ := hsp (ds ++ []) (by rw [List.append_nil]; exact trodAll_length hA)
 exact ⟨_, rfl, post_law hW' hv h1 (by rw [h2, List.append_nil]) h3 hl hr ⟨g1, g2, g3, g4, fun b hb => g5 b hb⟩ hres hub⟩
theorem law_contract (hTO : TOk P T) (hG : goodG T G = true) {H : Type} {enc : TypeId × Value → H} {f : FuncId} {fn : Func} {s : ChangeSpec} {fresh handsOn again : Bool} {tb : TypeId}
  (hgp : ∀ t ∈ fn.params.toList, t ∈ G) (hs : ∀ as, FitsAs T fn.params.toList as → Pur P f as (.r (.bool true)))
  (hv : s.vars = []) (hsp : ∀ ds, ds.length = fn.params.toList.length → (s.fn H ds).results = [.lit (.bool true)] ∧ (s.fn H ds).args = ds ∧ (s.fn H ds).vars = [])
  (hl : laidOutB P = true) (hr : ∀ t ∈ fn.params.toList, P.readableRec t = true ∧ t < P.types.size) (hres : fn.resultTypes = #[tb]) (hub : P.underlying tb = some .bool)
  (W : World) (base : Nat) (args : Array Value) (ds gs : List (DataW H)) (before : List MemPlace)
  (hval : ∀ (j : Nat) t v, fn.params[j]? = some t → args[j]? = some v → Value.okWide P W .any base t v)
  (hW : DataW.Whole enc P fn.params.toList s.vars false W args.toList ds gs before) (hsz : (DataW.weightsEach P (fn.params.toList ++ s.plain.varTypes P) (ds ++ gs)).all (· ≤ reachBytes) = true) :
  Calls P f args W fun e W' => ∃ v, e = .returned v ∧ s.post enc P fn false fresh handsOn again W args v W' :=
 law_contractM (M := dszs ds) hTO hG hgp (fun as h _ => hs as h) hv hsp hl hr hres hub W base args ds gs before hval hW hsz (Nat.le_refl _)
end
def FitsL (T : TTab) (fuel : Nat) : List TypeId → List (List RVal) → Prop
 | [], ps => ps = []
 | t :: ts, ps => ∃ p qs, ps = p :: qs ∧ Fits T fuel t p ∧ FitsL T fuel ts qs
section
variable {T : TTab} {fuel : Nat} {t e : TypeId} {rs : List RVal} {sz bz : Nat} {zr : List RVal}
theorem Fits.int {k : IntKind} (h : Fits T fuel t rs) (hT : T.look t = some ⟨.int k, sz, bz, zr⟩) : ∃ n, rs = [.int k n] ∧ k.min ≤ n ∧ n ≤ k.max := by
 cases fuel with
 | zero => exact h.elim
 | succ fuel => simpa only [Fits, hT] using h
theorem Fits.bool (h : Fits T fuel t rs) (hT : T.look t = some ⟨.bool, sz, bz, zr⟩) : ∃ b, rs = [.bool b] := by
 cases fuel with
 | zero => exact h.elim
 | succ fuel => simpa only [Fits, hT] using h
theorem Fits.str (h : Fits T fuel t rs) (hT : T.look t = some ⟨.str, sz, bz, zr⟩) : ∃ s, rs = [.str s] ∧ s.length ≤ reachBytes := by
 cases fuel with
 | zero => exact h.elim
 | succ fuel => simpa only [Fits, hT] using h
theorem Fits.bytes {sz' bz' : Nat} {zr' : List RVal} (h : Fits T fuel t rs) (hT : T.look t = some ⟨.slice e, sz, bz, zr⟩) (hE : T.look e = some ⟨.int .u8, sz', bz', zr'⟩) : ∃ s, rs = [.bs s] ∧ s.length ≤ maxLen ∧ s.length * bz' ≤ reachBytes := by
 cases fuel with
 | zero => exact h.elim
 | succ fuel => simpa only [Fits, hT, hE] using h
theorem Fits.slice {te : Ty} (h : Fits T fuel t rs) (hT : T.look t = some ⟨.slice e, sz, bz, zr⟩) (hE : T.look e = some te) (hu : te.k ≠ .int .u8) : ∃ (fuel' n : Nat) (parts : List (List RVal)), rs = [.ro n parts.flatten] ∧ (n ≤ maxLen ∧ n * te.bytes ≤ reachBytes) ∧ parts.length = n ∧ ∀ p ∈ parts, p.length = te.size ∧ Fits T fuel' e p := by
 cases fuel with
 | zero => exact h.elim
 | succ fuel =>
  obtain ⟨k, a, b, c⟩ := te
  simp only [Fits, hT, hE] at h
  cases k with
  | int k => cases k <;> first | (exact absurd rfl hu) | (obtain ⟨n, parts, h1, h2, h3, h4⟩ := h; exact ⟨fuel, n, parts, h1, h2, h3, h4⟩)
  | _ => obtain ⟨n, parts, h1, h2, h3, h4⟩ := h; exact ⟨fuel, n, parts, h1, h2, h3, h4⟩
theorem FitsL.rep : ∀ {n : Nat} {parts : List (List RVal)}, parts.length = n → (∀ p ∈ parts, Fits T fuel e p) → FitsL T fuel (List.replicate n e) parts
 | 0, parts, hl, _ => List.length_eq_zero_iff.1 hl
 | n + 1, [], hl, _ => by simp at hl
 | n + 1, p :: ps, hl, h => ⟨p, ps, rfl, h p (by simp), FitsL.rep (by simpa using hl) (fun q hq => h q (by simp [hq]))⟩
theorem Fits.arr {n : Nat} (h : Fits T fuel t rs) (hT : T.look t = some ⟨.arr n e, sz, bz, zr⟩) : ∃ fuel' parts, rs = parts.flatten ∧ FitsL T fuel' (List.replicate n e) parts := by
 cases fuel with
 | zero => exact h.elim
 | succ fuel =>
  simp only [Fits, hT] at h
  obtain ⟨parts, h1, h2, h3⟩ := h
  exact ⟨fuel, parts, h1, FitsL.rep h2 h3⟩
theorem FitsL.get : ∀ {fs : List (Nat × TypeId)} {parts : List (List RVal)}, parts.length = fs.length → (∀ (i : Nat) o f p, fs[i]? = some (o, f) → parts[i]? = some p → Fits T fuel f p) → FitsL T fuel (fs.map Prod.snd) parts
 | [], parts, hl, _ => List.length_eq_zero_iff.1 hl
 | _ :: _, [], hl, _ => by simp at hl
 | (o, f) :: fs, p :: ps, hl, h => ⟨p, ps, rfl, h 0 o f p (by simp) (by simp), FitsL.get (by simpa using hl) (fun i o' f' p' hi hp => h (i + 1) o' f' p' (by simpa using hi) (by simpa using hp))⟩
theorem Fits.struct {fs : List (Nat × TypeId)} (h : Fits T fuel t rs) (hT : T.look t = some ⟨.struct fs, sz, bz, zr⟩) : ∃ fuel' parts, rs = parts.flatten ∧ FitsL T fuel' (fs.map Prod.snd) parts := by
 cases fuel with
 | zero => exact h.elim
 | succ fuel =>
  simp only [Fits, hT] at h
  obtain ⟨parts, h1, h2, h3⟩ := h
  exact ⟨fuel, parts, h1, FitsL.get h2 h3⟩
theorem FitsA.leaf {ty : Ty} {a : AVal} (h : FitsA T t a) (hT : T.look t = some ty) (ha : ty.k.agg = false) : ∃ fuel r, a = .r r ∧ Fits T fuel t [r] := by
 simpa only [FitsA, hT, ha, cond_false] using h
theorem FitsA.agg {ty : Ty} {a : AVal} (h : FitsA T t a) (hT : T.look t = some ty) (ha : ty.k.agg = true) : ∃ fuel rs, a = .agg (rs.map .r) ∧ Fits T fuel t rs := by
 simpa only [FitsA, hT, ha, cond_true] using h
theorem FitsA.int {k : IntKind} {a : AVal} (h : FitsA T t a) (hT : T.look t = some ⟨.int k, sz, bz, zr⟩) : ∃ n, a = .r (.int k n) ∧ k.min ≤ n ∧ n ≤ k.max := by
 obtain ⟨fuel, r, rfl, h1⟩ := h.leaf hT rfl
 obtain ⟨n, h2, h3⟩ := h1.int hT
 cases h2
 exact ⟨n, rfl, h3⟩
theorem FitsA.bool {a : AVal} (h : FitsA T t a) (hT : T.look t = some ⟨.bool, sz, bz, zr⟩) : ∃ b, a = .r (.bool b) := by
 obtain ⟨fuel, r, rfl, h1⟩ := h.leaf hT rfl
 obtain ⟨n, h2⟩ := h1.bool hT
 cases h2
 exact ⟨n, rfl⟩
theorem FitsA.str {a : AVal} (h : FitsA T t a) (hT : T.look t = some ⟨.str, sz, bz, zr⟩) : ∃ s, a = .r (.str s) ∧ s.length ≤ reachBytes := by
 obtain ⟨fuel, r, rfl, h1⟩ := h.leaf hT rfl
 obtain ⟨n, h2, h3⟩ := h1.str hT
 cases h2
 exact ⟨n, rfl, h3⟩
theorem FitsA.bytes {a : AVal} {sz' bz' : Nat} {zr' : List RVal} (h : FitsA T t a) (hT : T.look t = some ⟨.slice e, sz, bz, zr⟩) (hE : T.look e = some ⟨.int .u8, sz', bz', zr'⟩) : ∃ s, a = .r (.bs s) ∧ s.length ≤ maxLen ∧ s.length * bz' ≤ reachBytes := by
 obtain ⟨fuel, r, rfl, h1⟩ := h.leaf hT rfl
 obtain ⟨n, h2, h3⟩ := h1.bytes hT hE
 cases h2
 exact ⟨n, rfl, h3⟩
theorem FitsA.slice {te : Ty} {a : AVal} (h : FitsA T t a) (hT : T.look t = some ⟨.slice e, sz, bz, zr⟩) (hE : T.look e = some te) (hu : te.k ≠ .int .u8) : ∃ (fuel' n : Nat) (parts : List (List RVal)), a = .r (.ro n parts.flatten) ∧ (n ≤ maxLen ∧ n * te.bytes ≤ reachBytes) ∧ parts.length = n ∧ ∀ p ∈ parts, p.length = te.size ∧ Fits T fuel' e p := by
 obtain ⟨fuel, r, rfl, h1⟩ := h.leaf hT rfl
 obtain ⟨fuel', n, parts, h2, h3⟩ := h1.slice hT hE hu
 cases h2
 exact ⟨fuel', n, parts, rfl, h3⟩
theorem Fits.four {n0 : Nat} {sz' bz' : Nat} {zr' : List RVal} (h : Fits T fuel t rs) (hT : T.look t = some ⟨.arr n0 e, sz, bz, zr⟩) (hn : n0 = 4) (hE : T.look e = some ⟨.int .u64, sz', bz', zr'⟩) :
  ∃ x0 x1 x2 x3, rs = [.int .u64 x0, .int .u64 x1, .int .u64 x2, .int .u64 x3] ∧ (0 ≤ x0 ∧ x0 < 18446744073709551616) ∧ (0 ≤ x1 ∧ x1 < 18446744073709551616) ∧ (0 ≤ x2 ∧ x2 < 18446744073709551616) ∧ (0 ≤ x3 ∧ x3 < 18446744073709551616) := by
 subst hn
 obtain ⟨fuel', parts, rfl, p0, ps0, rfl, h0, p1, ps1, rfl, h1, p2, ps2, rfl, h2, p3, ps3, rfl, h3, rfl⟩ := h.arr hT
 obtain ⟨x0, rfl, a0, b0⟩ := h0.int hE
 obtain ⟨x1, rfl, a1, b1⟩ := h1.int hE
 obtain ⟨x2, rfl, a2, b2⟩ := h2.int hE
 obtain ⟨x3, rfl, a3, b3⟩ := h3.int hE
 have e1 : IntKind.u64.min = 0 := by decide
 have e2 : IntKind.u64.max = 18446744073709551615 := by decide
 rw [e1] at a0 a1 a2 a3
 rw [e2] at b0 b1 b2 b3
 exact ⟨x0, x1, x2, x3, rfl, ⟨a0, by omega⟩, ⟨a1, by omega⟩, ⟨a2, by omega⟩, a3, by omega⟩
theorem FitsA.four {n0 : Nat} {a : AVal} {sz' bz' : Nat} {zr' : List RVal} (h : FitsA T t a) (hT : T.look t = some ⟨.arr n0 e, sz, bz, zr⟩) (hn : n0 = 4) (hE : T.look e = some ⟨.int .u64, sz', bz', zr'⟩) :
  ∃ x0 x1 x2 x3, a = .agg [.r (.int .u64 x0), .r (.int .u64 x1), .r (.int .u64 x2), .r (.int .u64 x3)] ∧ (0 ≤ x0 ∧ x0 < 18446744073709551616) ∧ (0 ≤ x1 ∧ x1 < 18446744073709551616) ∧ (0 ≤ x2 ∧ x2 < 18446744073709551616) ∧ (0 ≤ x3 ∧ x3 < 18446744073709551616) := by
 obtain ⟨fuel, rs, rfl, h1⟩ := h.agg hT rfl
 obtain ⟨x0, x1, x2, x3, rfl, h2⟩ := h1.four hT hn hE
 exact ⟨x0, x1, x2, x3, rfl, h2⟩
end
end Go.Proofs.YtccdhgmkjakjkaaGreat

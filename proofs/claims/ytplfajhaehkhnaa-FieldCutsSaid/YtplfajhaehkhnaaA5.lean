/-
  ABSTRACT MACHINE, 5: what is reckoned is what the machine does (operations that touch no memory).
-/
import Derived.Test.YtplfajhaehkhnaaA4
import Derived.Laws.IdiomStrings
namespace Go.Proofs.Ytplfajhaehkhnaa
open Go

section
variable {P : Program} {T : TTab} {R : Nat → Prop} {μ : Mu} {w : World}

theorem wrap_i64 {x : Int} (h : inI64 x) : IntKind.i64.wrap x = x := by
  obtain ⟨h1, h2⟩ := h
  simp only [IntKind.wrap, IntKind.bits, IntKind.signed]
  simp
  omega

theorem arithA_sound {k : IntKind} {x : Int} (h : (arithA k x).2) : ARel R μ w (arithA k x).1 (.int k (k.wrap x)) := by
  cases k <;> simp only [arithA] at h ⊢ <;> simp only [ARel, RRel]
  rw [wrap_i64 h]

theorem cmpA_sound {op : BinOp} {x y : Int} {v : AVal} (h : cmpA op x y = some v) : ∃ c, (Op.intCmp op x y).run P w = .ok c w ∧ ARel R μ w v c := by
  cases op <;> simp only [cmpA, reduceCtorEq, Option.some.injEq] at h <;> subst h <;> simp [Op.intCmp, ARel, RRel]
  · exact Bool.eq_iff_iff.2 (by simp)
  · exact Bool.eq_iff_iff.2 (by simp)

theorem binA_sound {op : BinOp} {k : IntKind} {x y : Int} {v : AVal} {c : Prop} (h : binA op k x y = some (v, c)) (hc : c) (hs : op ≠ .shl ∧ op ≠ .shr) (t : TypeId) :
    ∃ d, (binOp op t (.int k x) (.int k y)).run P w = .ok d w ∧ ARel R μ w v d := by
  have hcmp : ∀ op', (op' = .eql ∨ op' = .neq ∨ op' = .lss ∨ op' = .leq ∨ op' = .gtr ∨ op' = .geq) → (cmpA op' x y).map (fun v => (v, True)) = some (v, c) →
      ∃ d, (Op.intCmp op' x y).run P w = .ok d w ∧ ARel R μ w v d := by
    intro op' _ h
    simp only [Option.map_eq_some_iff, Prod.mk.injEq] at h
    obtain ⟨a, h1, rfl, _⟩ := h
    exact cmpA_sound h1
  cases op <;> simp only [binA, Option.some.injEq, Prod.mk.injEq] at h
  case shl => exact absurd rfl hs.1
  case shr => exact absurd rfl hs.2
  case add => obtain ⟨rfl, rfl⟩ := Prod.mk.inj h; exact ⟨.int k (k.wrap (x + y)), by simp [binOp, Op.intArith], arithA_sound hc⟩
  case sub => obtain ⟨rfl, rfl⟩ := Prod.mk.inj h; exact ⟨.int k (k.wrap (x - y)), by simp [binOp, Op.intArith], arithA_sound hc⟩
  case mul => obtain ⟨rfl, rfl⟩ := Prod.mk.inj h; exact ⟨.int k (k.wrap (x * y)), by simp [binOp, Op.intArith], arithA_sound hc⟩
  case quo => obtain ⟨rfl, rfl⟩ := h; exact ⟨.int k (k.wrap (x.tdiv y)), by simp [binOp, Op.intDiv, hc.2], arithA_sound hc.1⟩
  case rem => obtain ⟨rfl, rfl⟩ := h; exact ⟨.int k (x.tmod y), by simp [binOp, Op.intDiv, hc], by simp [ARel, RRel]⟩
  case and => obtain ⟨rfl, rfl⟩ := h; exact ⟨.int k (ibit .and k x y), by simp only [binOp]; simp [Op.intBits, ibit], by simp [ARel, RRel]⟩
  case or => obtain ⟨rfl, rfl⟩ := h; exact ⟨.int k (ibit .or k x y), by simp only [binOp]; simp [Op.intBits, ibit], by simp [ARel, RRel]⟩
  case xor => obtain ⟨rfl, rfl⟩ := h; exact ⟨.int k (ibit .xor k x y), by simp only [binOp]; simp [Op.intBits, ibit], by simp [ARel, RRel]⟩
  case andNot => obtain ⟨rfl, rfl⟩ := h; exact ⟨.int k (ibit .andNot k x y), by simp only [binOp]; simp [Op.intBits, ibit], by simp [ARel, RRel]⟩
  all_goals
    obtain ⟨d, h1, h2⟩ := hcmp _ (by simp) h
    exact ⟨d, by simpa [binOp] using h1, h2⟩

theorem shiftA_sound {op : BinOp} {k k' : IntKind} {x y : Int} {v : AVal} {c : Prop} (h : shiftA op k x y = some (v, c)) (hc : c) (t : TypeId) :
    ∃ d, (binOp op t (.int k x) (.int k' y)).run P w = .ok d w ∧ ARel R μ w v d := by
  cases op <;> simp only [shiftA, reduceCtorEq, Option.some.injEq, Prod.mk.injEq] at h
  case shl => obtain ⟨rfl, rfl⟩ := h; exact ⟨.int k (k.wrap (x * 2 ^ (min y.toNat k.bits))), by simp [binOp, Op.shift, Int.not_lt.2 hc.2], arithA_sound hc.1⟩
  case shr => obtain ⟨rfl, rfl⟩ := h; exact ⟨.int k (x.fdiv (2 ^ (min y.toNat k.bits))), by simp [binOp, Op.shift, Int.not_lt.2 hc], by simp [ARel, RRel]⟩

theorem mk_append (a b : List UInt8) : (⟨⟨a⟩⟩ ++ ⟨⟨b⟩⟩ : ByteArray) = ⟨⟨a ++ b⟩⟩ := by
  apply ByteArray.ext
  simp

theorem size_mk (a : List UInt8) : (⟨⟨a⟩⟩ : ByteArray).size = a.length := rfl

theorem strA_sound {op : BinOp} {a b : List UInt8} {v : AVal} {c : Prop} (h : strA op a b = some (v, c)) (hc : c) (t : TypeId) :
    ∃ d, (binOp op t (.string ⟨⟨a⟩⟩) (.string ⟨⟨b⟩⟩)).run P w = .ok d w ∧ ARel R μ w v d := by
  cases op <;> simp only [strA, reduceCtorEq, Option.some.injEq, Prod.mk.injEq] at h
  case add =>
    obtain ⟨rfl, rfl⟩ := h
    have h0 : ¬ (((a.length + b.length : Nat) : Int) > IntKind.i64.max) := by simp only [IntKind.max, IntKind.signed, IntKind.bits]; simp; omega
    exact ⟨_, by simp only [binOp]; simp only [Op.stringOp, size_mk, h0, if_false, Sem.run_pure]; rfl, by simp only [ARel, RRel, mk_append]⟩
  case eql =>
    obtain ⟨rfl, rfl⟩ := h
    exact ⟨_, by simp only [binOp]; simp only [Op.stringOp, Sem.run_pure]; rfl, by simp only [ARel, RRel, ByteArray.toList_eq]; congr 1; exact Bool.eq_iff_iff.2 (by simp)⟩
  case neq =>
    obtain ⟨rfl, rfl⟩ := h
    exact ⟨_, by simp only [binOp]; simp only [Op.stringOp, Sem.run_pure]; rfl, by simp only [ARel, RRel, ByteArray.toList_eq]; congr 1; exact Bool.eq_iff_iff.2 (by simp)⟩


theorem tyk_ok {t : TypeId} {ty : Ty} (hTO : TOk P T) (h : T.look t = some ty) : ∃ d, P.underlying t = some d ∧ ty.k.ok d := by
  obtain ⟨d, _, h1, _, _, _, h2, _⟩ := (hTO t ty h).ex
  exact ⟨d, h1, h2⟩

theorem size_ok {t : TypeId} {ty : Ty} (hTO : TOk P T) (h : T.look t = some ty) : (sizeOf t).run P w = .ok ty.size w := by
  obtain ⟨_, i, _, hi, hs, _⟩ := (hTO t ty h).ex
  rw [run_sizeOf w hi]
  simp [Program.cellsOf, hi, hs]

theorem eq_ptr_nil_in (d : Nat) {t : TypeId} {e : TypeId} (a : Option Addr) (h : P.underlying t = some (.pointer e)) : (Op.equalIn (d + 1) t (.pointer a) (.pointer none)).run P w = .ok a.isNone w := by
  cases a <;> simp [Op.equalIn, run_underlying h]
theorem eq_nil_ptr_in (d : Nat) {t : TypeId} {e : TypeId} (a : Option Addr) (h : P.underlying t = some (.pointer e)) : (Op.equalIn (d + 1) t (.pointer none) (.pointer a)).run P w = .ok a.isNone w := by
  cases a <;> simp [Op.equalIn, run_underlying h]
theorem eq_ptr_nil {t : TypeId} {e : TypeId} (a : Option Addr) (h : P.underlying t = some (.pointer e)) : (Op.equal t (.pointer a) (.pointer none)).run P w = .ok a.isNone w := eq_ptr_nil_in 9999 a h
theorem eq_nil_ptr {t : TypeId} {e : TypeId} (a : Option Addr) (h : P.underlying t = some (.pointer e)) : (Op.equal t (.pointer none) (.pointer a)).run P w = .ok a.isNone w := eq_nil_ptr_in 9999 a h
theorem eq_bool {t : TypeId} {a b : Bool} (h : P.underlying t = some .bool) : (Op.equal t (.bool a) (.bool b)).run P w = .ok (a == b) w := run_equalIn_bool w 9999 t a b h

theorem eqlA_sound (hTO : TOk P T) {t : TypeId} {x y : AVal} {b : Bool} (h : eqlA T t x y = some b) {c e : Value} (hx : ARel R μ w x c) (hy : ARel R μ w y e) (p q : Operand) :
    (∀ op, op = .eql ∨ op = .neq → (eqGuard op t p q c e).run P w = .ok () w) ∧ (Op.equal t c e).run P w = .ok b w := by
  unfold eqlA at h
  split at h
  case h_1 β o =>
    split at h <;> simp at h
    rename_i hT
    subst h
    obtain ⟨d, hd, hk⟩ := tyk_ok hTO hT
    simp only [TyK.ok] at hk
    simp only [ARel, RRel] at hx hy
    obtain ⟨bl, o1, _, rfl⟩ := hx
    subst hy; subst hk
    exact ⟨by rintro op (rfl | rfl) <;> simp [eqGuard], by rw [eq_ptr_nil _ hd]; rfl⟩
  case h_2 β o =>
    split at h <;> simp at h
    rename_i hT
    subst h
    obtain ⟨d, hd, hk⟩ := tyk_ok hTO hT
    simp only [TyK.ok] at hk
    simp only [ARel, RRel] at hx hy
    obtain ⟨bl, o1, _, rfl⟩ := hy
    subst hx; subst hk
    exact ⟨by rintro op (rfl | rfl) <;> simp [eqGuard], by rw [eq_nil_ptr _ hd]; rfl⟩
  case h_3 =>
    split at h <;> simp at h
    rename_i hT
    subst h
    obtain ⟨d, hd, hk⟩ := tyk_ok hTO hT
    simp only [TyK.ok] at hk
    simp only [ARel, RRel] at hx hy
    subst hx; subst hy; subst hk
    exact ⟨by rintro op (rfl | rfl) <;> simp [eqGuard], by rw [eq_ptr_nil _ hd]; rfl⟩
  case h_4 xs ys =>
    simp only [ARel] at hx hy
    obtain ⟨cs, rfl, hx⟩ := hx
    obtain ⟨ds, rfl, hy⟩ := hy
    split at h
    case h_3 => simp at h
    all_goals
      rename_i hT
      have hst := (hTO t _ hT).ex
      obtain ⟨d, i, _, _, _, _, _, hst, _⟩ := hst
      refine ⟨fun op ho => run_eqGuard_agg w op t p q _ _ (hst rfl).2, ?_⟩
      exact eqT_run hTO 60 t xs ys b h cs ds hx hy _ _ ⟨_, hT, by simp [TyK.agg]⟩ ⟨_, hT, by simp [TyK.agg]⟩ 10000 (by omega)
  case h_5 x y =>
    split at h <;> simp at h
    rename_i hT
    subst h
    obtain ⟨d, hd, hk⟩ := tyk_ok hTO hT
    simp only [TyK.ok] at hk
    simp only [ARel, RRel] at hx hy
    subst hx; subst hy; subst hk
    exact ⟨by rintro op (rfl | rfl) <;> simp [eqGuard], eq_bool hd⟩
  case h_6 => simp at h

theorem binOp_eql {t : TypeId} {c e : Value} (h1 : ∀ k n, c ≠ .int k n) (h2 : ∀ s, c ≠ .string s) (h3 : ∀ k n, c ≠ .float k n) (h4 : ∀ k a b, c ≠ .complex k a b) : binOp .eql t c e = (do pure (.bool (← Op.equal t c e))) := by
  unfold binOp
  split <;> first | rfl | simp_all

theorem binOp_neq {t : TypeId} {c e : Value} (h1 : ∀ k n, c ≠ .int k n) (h2 : ∀ s, c ≠ .string s) (h3 : ∀ k n, c ≠ .float k n) (h4 : ∀ k a b, c ≠ .complex k a b) : binOp .neq t c e = (do pure (.bool (!(← Op.equal t c e)))) := by
  unfold binOp
  split <;> first | rfl | simp_all

theorem eqlA_left {t : TypeId} {x y : AVal} {b : Bool} (h : eqlA T t x y = some b) {c : Value} (hx : ARel R μ w x c) :
    (∀ k n, c ≠ .int k n) ∧ (∀ s, c ≠ .string s) ∧ (∀ k n, c ≠ .float k n) ∧ (∀ k a b, c ≠ .complex k a b) := by
  unfold eqlA at h
  split at h
  case h_6 => simp at h
  all_goals
    simp only [ARel, RRel] at hx
    first
    | (obtain ⟨_, _, _, rfl⟩ := hx; simp)
    | (obtain ⟨_, rfl, _⟩ := hx; simp)
    | (subst hx; simp)

theorem eqGuard_int {op : BinOp} {t : TypeId} {p q : Operand} {k k' : IntKind} {a b : Int} : (eqGuard op t p q (.int k a) (.int k' b)).run P w = .ok () w := by
  unfold eqGuard
  split <;> simp

theorem eqGuard_str {op : BinOp} {t : TypeId} {p q : Operand} {a b : ByteArray} : (eqGuard op t p q (.string a) (.string b)).run P w = .ok () w := by
  unfold eqGuard
  split <;> simp

theorem binOpA_sound (hTO : TOk P T) {op : BinOp} {t : TypeId} {x y v : AVal} {c : Prop} (h : binOpA T op t x y = some (v, c)) (hc : c) {a b : Value} (hx : ARel R μ w x a) (hy : ARel R μ w y b) (p q : Operand) :
    ∃ d, ((do eqGuard op t p q a b; binOp op t a b : Sem Value)).run P w = .ok d w ∧ ARel R μ w v d := by
  unfold binOpA at h
  split at h
  case h_1 k n k' m =>
    simp only [ARel, RRel] at hx hy
    subst hx; subst hy
    simp only [Sem.run_bind, eqGuard_int, Result.andThen_ok]
    split at h
    · exact shiftA_sound h hc t
    · exact shiftA_sound h hc t
    · split at h
      · rename_i hk
        subst hk
        exact binA_sound h hc (by simp_all) t
      · simp at h
  case h_2 s s' =>
    simp only [ARel, RRel] at hx hy
    subst hx; subst hy
    simp only [Sem.run_bind, eqGuard_str, Result.andThen_ok]
    exact strA_sound h hc t
  case h_3 =>
    split at h
    case h_3 => simp at h
    all_goals
      simp only [Option.map_eq_some_iff, Prod.mk.injEq] at h
      obtain ⟨r, h1, rfl, _⟩ := h
      obtain ⟨g, he⟩ := eqlA_sound hTO h1 hx hy p q
      obtain ⟨l1, l2, l3, l4⟩ := eqlA_left h1 hx
      first | rw [binOp_eql l1 l2 l3 l4] | rw [binOp_neq l1 l2 l3 l4]
      rw [Sem.run_bind, g _ (by simp)]
      simp only [Result.andThen_ok, Sem.run_bind, he, Sem.run_pure]
      exact ⟨_, rfl, by simp only [ARel, RRel]⟩

theorem unOpA_sound {op : UnOp} {x v : AVal} {c : Prop} (h : unOpA op x = some (v, c)) (hc : c) {a : Value} (hx : ARel R μ w x a) :
    ∃ d, (Op.unary op a).run P w = .ok d w ∧ ARel R μ w v d := by
  unfold unOpA at h
  split at h
  · simp only [Option.some.injEq] at h
    obtain ⟨rfl, rfl⟩ := Prod.mk.inj h
    simp only [ARel, RRel] at hx; subst hx
    exact ⟨.int _ (IntKind.wrap _ _), by simp only [Op.unary, Op.intArith, Sem.run_pure], arithA_sound hc⟩
  · simp only [Option.some.injEq] at h
    obtain ⟨rfl, rfl⟩ := Prod.mk.inj h
    simp only [ARel, RRel] at hx; subst hx
    exact ⟨_, by simp only [Op.unary, Sem.run_pure]; rfl, by simp [ARel, RRel]⟩
  · simp only [Option.some.injEq] at h
    obtain ⟨rfl, rfl⟩ := Prod.mk.inj h
    simp only [ARel, RRel] at hx; subst hx
    exact ⟨_, by simp only [Op.unary, Op.intBits, Sem.run_pure]; rfl, by simp only [ARel, RRel, ibit]⟩
  · simp at h

theorem convA_sound (hTO : TOk P T) {src dst : TypeId} {x v : AVal} {c : Prop} (h : convA T dst x = some (v, c)) (hc : c) {a : Value} (hx : ARel R μ w x a) (hs : ∃ d, P.underlying src = some d) :
    ∃ d, (convert src dst a).run P w = .ok d w ∧ ARel R μ w v d := by
  obtain ⟨sd, hsd⟩ := hs
  unfold convA at h
  split at h
  · rename_i hT
    simp only [Option.some.injEq] at h
    obtain ⟨rfl, rfl⟩ := Prod.mk.inj h
    obtain ⟨d, hd, hk⟩ := tyk_ok hTO hT
    simp only [TyK.ok] at hk
    simp only [ARel, RRel] at hx; subst hx; subst hk
    refine ⟨_, ?_, arithA_sound hc⟩
    simp only [convert, Sem.run_bind, run_underlying hsd, run_underlying hd, Result.andThen_ok]
    simp [Conv.intToInt]
  · rename_i hT
    simp only [Option.some.injEq] at h
    obtain ⟨rfl, rfl⟩ := Prod.mk.inj h
    obtain ⟨d, hd, hk⟩ := tyk_ok hTO hT
    simp only [TyK.ok] at hk
    simp only [ARel, RRel] at hx; subst hx; subst hk
    refine ⟨_, ?_, by simp only [ARel, RRel]; rfl⟩
    simp only [convert, Sem.run_bind, run_underlying hsd, run_underlying hd, Result.andThen_ok]
    simp
  · simp at h

theorem pickA_sound {x y z v : AVal} {c : Prop} (h : pickA x y z = some (v, c)) {a b e : Value} (hx : ARel R μ w x a) (hy : ARel R μ w y b) (hz : ARel R μ w z e) :
    ∃ d, ((do pure (if ← asBool a then b else e) : Sem Value)).run P w = .ok d w ∧ ARel R μ w v d := by
  unfold pickA at h
  split at h
  case h_2 => simp at h
  rename_i t
  simp only [ARel, RRel] at hx
  subst hx
  split at h
  · simp only [Option.some.injEq] at h
    obtain ⟨rfl, rfl⟩ := Prod.mk.inj h
    simp only [ARel, RRel] at hy hz
    subst hy; subst hz
    cases t <;> simp [asBool, ARel, RRel]
  · simp only [Option.some.injEq] at h
    obtain ⟨rfl, rfl⟩ := Prod.mk.inj h
    simp only [ARel] at hy hz
    cases t
    · exact ⟨e, by simp [asBool], by simpa [ARel] using hz⟩
    · exact ⟨b, by simp [asBool], by simpa [ARel] using hy⟩
  · cases t <;> simp only [pickL, Option.some.injEq] at h <;> obtain ⟨rfl, rfl⟩ := Prod.mk.inj h
    · exact ⟨e, by simp [asBool], hz⟩
    · exact ⟨b, by simp [asBool], hy⟩

theorem setsL_rel : ∀ {vs : List AVal} {cs : List Value} (xs : List AVal) (ds : List Value) (off : Nat), ARels R μ w xs ds → ARels R μ w vs cs →
    ARels R μ w (setsL xs off vs) ((cs.zipIdx).foldl (fun (acc : Array Value) (p : Value × Nat) => acc.setIfInBounds (off + p.2) p.1) ⟨ds⟩).toList := by
  intro vs
  induction vs with
  | nil => intro cs xs ds off h k; simp only [ARels] at k; subst k; simpa [setsL] using h
  | cons v vs ih =>
    intro cs xs ds off h k
    simp only [ARels] at k
    obtain ⟨c, r, rfl, hv, hr⟩ := k
    simp only [setsL]
    have h2 := ih (xs.set off v) (ds.set off c) (off + 1) (h.set off hv) hr
    have e : ∀ (l : List Value) (n : Nat) (acc : Array Value), (l.zipIdx (n + 1)).foldl (fun (acc : Array Value) (p : Value × Nat) => acc.setIfInBounds (off + p.2) p.1) acc =
        (l.zipIdx n).foldl (fun (acc : Array Value) (p : Value × Nat) => acc.setIfInBounds (off + 1 + p.2) p.1) acc := by
      intro l
      induction l with
      | nil => intro n acc; rfl
      | cons x l ihl => intro n acc; simp only [List.zipIdx_cons, List.foldl_cons]; rw [ihl, show off + (n + 1) = off + 1 + n by omega]
    simp only [List.zipIdx_cons, List.foldl_cons, Nat.add_zero]
    rw [e]
    simpa using h2

theorem cellsA_rel {v : AVal} {vs : List AVal} (h : v.cellsA = some vs) {c : Value} (hv : ARel R μ w v c) : ARels R μ w vs c.cells.toList := by
  cases v with
  | agg cs =>
    simp only [AVal.cellsA, Option.some.injEq] at h
    subst h
    simp only [ARel] at hv
    obtain ⟨ds, rfl, h⟩ := hv
    simpa [Value.cells] using h
  | any => simp [AVal.cellsA] at h
  | tuple _ => simp [AVal.cellsA] at h
  | r v =>
    simp only [AVal.cellsA, Option.some.injEq] at h
    subst h
    have : c.cells.toList = [c] := by
      cases v <;> simp only [ARel, RRel] at hv
      all_goals first
        | (subst hv; rfl)
        | (obtain ⟨_, _, rfl, _⟩ := hv; rfl)
        | (obtain ⟨_, _, _, rfl, _⟩ := hv; rfl)
    rw [this]
    simp only [ARels]
    exact ⟨c, [], rfl, hv, rfl⟩
  | _ =>
    simp only [AVal.cellsA, Option.some.injEq] at h
    subst h
    have : c.cells.toList = [c] := by
      simp only [ARel] at hv
      first
        | (obtain ⟨_, _, _, _, _, _, _, rfl, _⟩ := hv; rfl)
        | (obtain ⟨_, _, _, rfl⟩ := hv; rfl)
        | (obtain ⟨_, rfl, _⟩ := hv; rfl)
        | (obtain ⟨_, _, _, rfl, _⟩ := hv; rfl)
        | (obtain ⟨_, _, rfl, _⟩ := hv; rfl)
    rw [this]
    simp only [ARels]
    exact ⟨c, [], rfl, hv, rfl⟩

theorem fillA_rel {place : Nat → Option (Nat × Nat)} {pl : Nat → Option (Nat × Nat)} (hp : ∀ i p, place i = some p → pl i = some p) :
    ∀ (parts : List (Nat × AVal)) (cp : List (Nat × Value)) (xs : List AVal) (ds : List Value) (out : List AVal),
      parts.map (·.1) = cp.map (·.1) → (∀ (i : Nat) a c, parts[i]? = some a → cp[i]? = some c → ARel R μ w a.2 c.2) → ARels R μ w xs ds → fillA place xs parts = some out →
      ∃ cs : List Value, Instr.fill pl ⟨ds⟩ cp = some ⟨cs⟩ ∧ ARels R μ w out cs := by
  intro parts
  induction parts with
  | nil =>
    intro cp xs ds out hm _ h ho
    simp only [fillA, Option.some.injEq] at ho
    subst ho
    cases cp with
    | nil => exact ⟨ds, rfl, h⟩
    | cons => simp at hm
  | cons a parts ih =>
    intro cp xs ds out hm hv h ho
    cases cp with
    | nil => simp at hm
    | cons c cp =>
      obtain ⟨i, v⟩ := a
      obtain ⟨j, u⟩ := c
      simp only [List.map_cons, List.cons.injEq] at hm
      obtain ⟨e, hm⟩ := hm
      subst e
      simp only [fillA, cellsF_eq] at ho
      split at ho
      case h_2 => simp at ho
      rename_i off size vs h1 h2
      have hu : ARel R μ w v u := hv 0 (i, v) (i, u) rfl rfl
      have hc := cellsA_rel h2 hu
      by_cases hb : (Nat.beq vs.length size && Nat.ble (off + size) xs.length) = true
      · rw [hb] at ho
        simp only [cond_true] at ho
        rw [Bool.and_eq_true] at hb
        have hb1 := Nat.eq_of_beq_eq_true hb.1
        have hb2 := Nat.le_of_ble_eq_true hb.2
        have hl : u.cells.size = size := by rw [← Array.length_toList, hc.length]; exact hb1
        obtain ⟨cs, h3, h4⟩ := ih cp _ _ out hm (fun i a c ha hc => hv (i + 1) a c (by simpa using ha) (by simpa using hc)) (setsL_rel xs ds off h hc) ho
        refine ⟨cs, ?_, h4⟩
        simp only [Instr.fill, hp _ _ h1]
        rw [if_neg (by have := h.length; simp [hl]; omega)]
        have e2 : u.cells.zipIdx.foldl (fun cs (x : Value × Nat) => cs.setIfInBounds (off + x.2) x.1) (⟨ds⟩ : Array Value) =
            (u.cells.toList.zipIdx.foldl (fun (acc : Array Value) (p : Value × Nat) => acc.setIfInBounds (off + p.2) p.1) ⟨ds⟩) := by
          rw [← Array.foldl_toList, Array.toList_zipIdx]
        rw [show (u.cells.zipIdx.foldl (fun cs x => match x with | (c, j) => cs.setIfInBounds (off + j) c) (⟨ds⟩ : Array Value)) = _ from e2]
        exact h3
      · have : (Nat.beq vs.length size && Nat.ble (off + size) xs.length) = false := Bool.eq_false_iff.2 hb
        rw [this] at ho
        simp at ho


theorem zero_ok {t : TypeId} {ty : Ty} (hTO : TOk P T) (h : T.look t = some ty) (hz : ty.zero ≠ []) : ∃ z, (zeroValue t).run P w = .ok z w ∧ ARels R μ w (ty.zero.map .r) z.cells.toList ∧ z.cells.toList.length = ty.zero.length := by
  obtain ⟨_, i, _, hi, _, _, _, _, h0⟩ := (hTO t ty h).ex
  obtain ⟨z, hz1, hz2, hz3⟩ := h0.resolve_left hz
  refine ⟨z, by simp [zeroValue, run_typeInfo w hi, hz1], ?_, by rw [hz2]; simp⟩
  rw [ARels.of_r, hz2]
  clear hz2 hz hz1 h h0
  generalize ty.zero = l at hz3
  induction l with
  | nil => simp [RRels]
  | cons x l ih =>
    simp only [List.all_cons, Bool.and_eq_true] at hz3
    simp only [List.map_cons, RRels]
    refine ⟨_, _, rfl, ?_, ih hz3.2⟩
    cases x <;> simp [RVal.flat] at hz3 <;> simp [RVal.conc, RRel]

theorem placesA_run (hTO : TOk P T) : ∀ (fa : List Field) (fs : List (Nat × TypeId)) (pl : List (Nat × Nat)), fa.map (fun f => (f.offset, f.type)) = fs → placesA T fs = some pl →
    (fa.mapM fun f => (do pure (f.offset, ← sizeOf f.type) : Sem (Nat × Nat))).run P w = .ok pl w
  | [], fs, pl, h, k => by
    subst h
    simp only [List.map_nil, placesA, Option.some.injEq] at k
    subst k
    simp
  | f :: fa, fs, pl, h, k => by
    subst h
    simp only [List.map_cons, placesA] at k
    split at k
    case h_2 => simp at k
    rename_i ty r h1 h2
    simp only [Option.some.injEq] at k
    subst k
    have ih := placesA_run hTO fa _ r rfl h2
    simp only [List.mapM_cons, Sem.run_bind, size_ok hTO h1, Result.andThen_ok, Sem.run_pure, ih]

theorem buildA_sound (hTO : TOk P T) {t : TypeId} {parts : List (Nat × AVal)} {v : AVal} {c : Prop} (h : buildA T t parts = some (v, c)) (hc : c) {cp : Array (Nat × Value)}
    (hm : parts.map (·.1) = cp.toList.map (·.1)) (hv : ∀ (i : Nat) a c, parts[i]? = some a → cp.toList[i]? = some c → ARel R μ w a.2 c.2) :
    ∃ d, (Instr.build t cp).run P w = .ok d w ∧ ARel R μ w v d := by
  unfold buildA at h
  split at h
  · rename_i fs size bytes z hT
    split at h
    case h_2 => simp at h
    rename_i pl hpl0
    split at h
    case h_2 => simp at h
    rename_i cells hf
    rw [forceL_eq] at h
    simp only [Option.some.injEq] at h
    obtain ⟨rfl, rfl⟩ := Prod.mk.inj h
    obtain ⟨d, hd, hk⟩ := tyk_ok hTO hT
    simp only [TyK.ok] at hk
    obtain ⟨fa, rfl, hfs, _⟩ := hk
    obtain ⟨zv, hz1, hz2, hz3⟩ := zero_ok (w := w) (R := R) (μ := μ) hTO hT hc
    have hpl := placesA_run (w := w) hTO fa.toList fs pl hfs hpl0
    obtain ⟨cs, h1, h2⟩ := fillA_rel (pl := fun i => (⟨pl⟩ : Array (Nat × Nat))[i]?) (fun i p hp => by simpa using hp) parts cp.toList (z.map .r) zv.cells.toList cells hm hv hz2 hf
    refine ⟨.agg ⟨cs⟩, ?_, by simp only [ARel]; exact ⟨cs, rfl, h2⟩⟩
    simp only [Instr.build, Sem.run_bind, hz1, Result.andThen_ok, run_underlying hd, Array.mapM_eq_mapM_toList, Sem.run_map, hpl]
    simp only [Array.toArray_toList, List.getElem?_toArray] at h1
    simp [h1]
  · rename_i n e size bytes z hT
    split at h
    case h_2 => simp at h
    rename_i te hTe
    split at h
    case h_2 => simp at h
    rename_i cells hf
    rw [forceL_eq] at h
    simp only [Option.some.injEq] at h
    obtain ⟨rfl, rfl⟩ := Prod.mk.inj h
    obtain ⟨d, hd, hk⟩ := tyk_ok hTO hT
    simp only [TyK.ok] at hk
    subst hk
    obtain ⟨zv, hz1, hz2, hz3⟩ := zero_ok (w := w) (R := R) (μ := μ) hTO hT hc
    obtain ⟨cs, h1, h2⟩ := fillA_rel (pl := fun i => some (i * te.size, te.size)) (fun _ _ h => h) parts cp.toList (z.map .r) zv.cells.toList cells hm hv hz2 hf
    refine ⟨.agg ⟨cs⟩, ?_, by simp only [ARel]; exact ⟨cs, rfl, h2⟩⟩
    simp only [Instr.build, Sem.run_bind, hz1, Result.andThen_ok, run_underlying hd, size_ok hTO hTe]
    simp only [Array.toArray_toList] at h1
    simp [h1]
  · simp at h


theorem partA_sound (hTO : TOk P T) {t : TypeId} {xs : List AVal} {off : Nat} {v : AVal} (h : partA T t xs off = some v) {cs : List Value} (hx : ARels R μ w xs cs) :
    ∃ d, (part t ⟨cs⟩ off).run P w = .ok d w ∧ ARel R μ w v d := by
  unfold partA at h
  split at h
  case h_2 => simp at h
  rename_i ty hT
  split at h
  · rename_i hg
    rw [forceL_eq] at h
    simp only [Option.some.injEq] at h
    subst h
    obtain ⟨a, h1, ty', h2, h3⟩ := isVal_part (P := P) (w := w) hT (hTO t ty hT) (cs := cs) (off := off) (fun h0 => by rw [hg] at h0; simp at h0)
    rw [hT] at h2
    cases h2
    rw [if_pos hg] at h3
    subst h3
    exact ⟨_, h1, by simp only [ARel]; exact ⟨_, rfl, partL_rel hx off⟩⟩
  · rename_i hg
    have hg : ty.k.agg = false := by simpa using hg
    obtain ⟨c, h4, h5⟩ := hx.get h
    obtain ⟨ho, _⟩ := List.getElem?_eq_some_iff.1 h4
    obtain ⟨a, h1, ty', h2, h3⟩ := isVal_part (P := P) (w := w) hT (hTO t ty hT) (cs := cs) (off := off) (fun _ => ho)
    rw [hT] at h2
    cases h2
    rw [if_neg (by simp [hg])] at h3
    have : a = c := by
      unfold partL at h3
      rw [hT] at h3
      simp only [(hTO t ty hT).leaf hg] at h3
      rw [take_one_drop ho] at h3
      simp only [List.cons.injEq, and_true] at h3
      rw [← h3]
      exact Option.some.inj ((List.getElem?_eq_getElem ho).symm.trans h4)
    subst this
    exact ⟨a, h1, h5⟩

theorem fieldA_sound (hTO : TOk P T) {t : TypeId} {x : AVal} {f : Nat} {v : AVal} {c : Prop} (h : fieldA T t x f = some (v, c)) {a : Value} (hx : ARel R μ w x a) :
    ∃ d, (Instr.field t a f).run P w = .ok d w ∧ ARel R μ w v d := by
  unfold fieldA at h
  split at h
  case h_2 => simp at h
  rename_i fs _ _ _ cs hT
  split at h
  case h_2 => simp at h
  rename_i off ft hf
  simp only [Option.map_eq_some_iff, Prod.mk.injEq] at h
  obtain ⟨u, h, rfl, _⟩ := h
  obtain ⟨d, hd, hk⟩ := tyk_ok hTO hT
  simp only [TyK.ok] at hk
  obtain ⟨fa, rfl, hfs, _⟩ := hk
  simp only [ARel] at hx
  obtain ⟨ds, rfl, hx⟩ := hx
  obtain ⟨e, h1, h2⟩ := partA_sound hTO h hx
  refine ⟨e, ?_, h2⟩
  rw [← hfs, List.getElem?_map] at hf
  simp only [Option.map_eq_some_iff, Prod.mk.injEq] at hf
  obtain ⟨g, hg, rfl, rfl⟩ := hf
  rw [Array.getElem?_toList] at hg
  simp only [Instr.field, Sem.run_bind, run_underlying hd, Result.andThen_ok, hg, asAgg, Sem.run_pure, h1]

theorem add_off (b o n : Nat) : (⟨b, o, none⟩ : Addr).add n = ⟨b, o + n, none⟩ := by
  unfold Addr.add; split <;> simp_all

theorem fieldAddrA_sound (hTO : TOk P T) {t : TypeId} {x : AVal} {f : Nat} {v : AVal} {c : Prop} (h : fieldAddrA T t x f = some (v, c)) {a : Value} (hx : ARel R μ w x a) :
    ∃ d, (Instr.fieldAt t a f).run P w = .ok d w ∧ ARel R μ w v d := by
  unfold fieldAddrA at h
  split at h
  case h_2 => simp at h
  rename_i fs _ _ _ hT
  split at h
  case h_2 => simp at h
  rename_i off ft hf
  split at h
  case h_2 => simp at h
  rename_i ty hTf
  obtain ⟨d, hd, hk⟩ := tyk_ok hTO hT
  simp only [TyK.ok] at hk
  obtain ⟨fa, rfl, hfs, _⟩ := hk
  rw [← hfs, List.getElem?_map] at hf
  simp only [Option.map_eq_some_iff, Prod.mk.injEq] at hf
  obtain ⟨g, hg, rfl, rfl⟩ := hf
  rw [Array.getElem?_toList] at hg
  split at h
  case h_1 => simp at h
  case h_4 => simp at h
  · rename_i hz
    simp only [Option.some.injEq] at h
    obtain ⟨rfl, rfl⟩ := Prod.mk.inj h
    simp only [ARel] at hx ⊢
    obtain ⟨b, o, h1, rfl⟩ := hx
    refine ⟨_, ?_, b, o, h1, rfl⟩
    simp only [Instr.fieldAt, Sem.run_bind, run_underlying hd, Result.andThen_ok, hg, Instr.sureAddr, Sem.run_pure, fieldPlace, size_ok hTO hTf, Sem.run_ite, if_neg hz, add_off, addo_eq, Nat.add_assoc]
  · rename_i hz
    simp only [Option.some.injEq] at h
    obtain ⟨rfl, rfl⟩ := Prod.mk.inj h
    simp only [ARel] at hx ⊢
    obtain ⟨b, o0, cs, rfl, h2, h3, h4⟩ := hx
    refine ⟨_, ?_, b, o0, cs, rfl, h2, h3, h4⟩
    simp only [Instr.fieldAt, Sem.run_bind, run_underlying hd, Result.andThen_ok, hg, Instr.sureAddr, Sem.run_pure, fieldPlace, size_ok hTO hTf, Sem.run_ite, if_neg hz, add_off, addo_eq, Nat.add_assoc]


theorem run_boundsless {k : IntKind} {i : Int} : (asIntOf (.int k i)).run P w = .ok (k, i) w := by simp [asIntOf]

theorem indexAddrA_sound (hTO : TOk P T) {t : TypeId} {x i : AVal} {v : AVal} {c : Prop} (h : indexAddrA T t x i = some (v, c)) (hc : c) {a b : Value} (hx : ARel R μ w x a) (hi : ARel R μ w i b) :
    ∃ d, (Instr.indexAt t a b).run P w = .ok d w ∧ ARel R μ w v d := by
  unfold indexAddrA at h
  split at h
  case h_3 => simp at h
  · rename_i e _ _ _ k i hT
    obtain ⟨d, hd, hk⟩ := tyk_ok hTO hT
    simp only [TyK.ok] at hk
    subst hk
    simp only [ARel, RRel] at hi
    subst hi
    split at h
    case h_4 => simp at h
    · rename_i te β off n z hTe
      cases hb : Nat.beq te.size z <;> rw [hb] at h <;> simp only [cond_true, cond_false, reduceCtorEq, Option.some.injEq] at h
      obtain ⟨rfl, rfl⟩ := Prod.mk.inj h
      have hz := Nat.eq_of_beq_eq_true hb
      simp only [ARel] at hx ⊢
      obtain ⟨bl, o, cap, cells, el, fz, h1, rfl, h3, h4, h5, h6⟩ := hx
      refine ⟨_, ?_, bl, o, h1, rfl⟩
      simp only [Instr.indexAt, Sem.run_bind, run_boundsless, Result.andThen_ok, run_underlying hd, Sem.run_pure, Sem.run_ite, hc, and_self, if_true, size_ok hTO hTe, add_off, addo_eq, mulz_eq, hz, Nat.add_assoc]
    · rename_i te n xs hTe
      simp only [Option.some.injEq] at h
      obtain ⟨rfl, rfl⟩ := Prod.mk.inj h
      simp only [ARel, RRel] at hx ⊢
      obtain ⟨ad, cap, cs, rfl, h2, h3, h4⟩ := hx
      rcases h3 with h3 | ⟨bl, o, rfl, h5, h6⟩
      · subst h3
        have := h4.length
        exact absurd (List.length_eq_zero_iff.1 this.symm) hc.2
      · refine ⟨_, ?_, bl, o, cs, rfl, h5, h6, h4⟩
        simp only [Instr.indexAt, Sem.run_bind, run_boundsless, Result.andThen_ok, run_underlying hd, Sem.run_pure, Sem.run_ite, hc.1, and_self, if_true, size_ok hTO hTe, add_off, mulz_eq]
    · rename_i te s hTe
      cases hb : Nat.beq te.size 1 <;> rw [hb] at h <;> simp only [cond_true, cond_false, reduceCtorEq, Option.some.injEq] at h
      obtain ⟨rfl, rfl⟩ := Prod.mk.inj h
      have hz := Nat.eq_of_beq_eq_true hb
      simp only [ARel, RRel] at hx ⊢
      obtain ⟨ad, cap, rfl, h2, h3⟩ := hx
      rcases h3 with h3 | ⟨bl, o, rfl, h5, h6⟩
      · simp [bytesV] at h3
        subst h3
        simp at hc
        omega
      · refine ⟨_, ?_, bl, o, rfl, h5, h6⟩
        simp only [Instr.indexAt, Sem.run_bind, run_boundsless, Result.andThen_ok, run_underlying hd, Sem.run_pure, Sem.run_ite, hc, and_self, if_true, size_ok hTO hTe, add_off, hz, Nat.mul_one]
  · rename_i n e _ _ _ k i hT
    obtain ⟨d, hd, hk⟩ := tyk_ok hTO hT
    simp only [TyK.ok] at hk
    subst hk
    simp only [ARel, RRel] at hi
    subst hi
    split at h
    case h_3 => simp at h
    · rename_i te β off hTe
      simp only [Option.some.injEq] at h
      obtain ⟨rfl, rfl⟩ := Prod.mk.inj h
      simp only [ARel] at hx ⊢
      obtain ⟨bl, o, h1, rfl⟩ := hx
      refine ⟨_, ?_, bl, o, h1, rfl⟩
      simp only [Instr.indexAt, Sem.run_bind, run_boundsless, Result.andThen_ok, run_underlying hd, Instr.sureAddr, Sem.run_pure, Sem.run_ite, hc, and_self, if_true, size_ok hTO hTe, add_off, addo_eq, mulz_eq, Nat.add_assoc]
    · rename_i te xs off hTe
      simp only [Option.some.injEq] at h
      obtain ⟨rfl, rfl⟩ := Prod.mk.inj h
      simp only [ARel] at hx ⊢
      obtain ⟨bl, o0, cs, rfl, h2, h3, h4⟩ := hx
      refine ⟨_, ?_, bl, o0, cs, rfl, h2, h3, h4⟩
      simp only [Instr.indexAt, Sem.run_bind, run_boundsless, Result.andThen_ok, run_underlying hd, Instr.sureAddr, Sem.run_pure, Sem.run_ite, hc, and_self, if_true, size_ok hTO hTe, add_off, addo_eq, mulz_eq, Nat.add_assoc]

theorem indexA_sound (hTO : TOk P T) {t : TypeId} {x i : AVal} {v : AVal} {c : Prop} (h : indexA T t x i = some (v, c)) (hc : c) {a b : Value} (hx : ARel R μ w x a) (hi : ARel R μ w i b) :
    ∃ d, (Instr.index t a b).run P w = .ok d w ∧ ARel R μ w v d := by
  unfold indexA at h
  split at h
  case h_3 => simp at h
  · rename_i n e _ _ _ cs k i hT
    obtain ⟨d, hd, hk⟩ := tyk_ok hTO hT
    simp only [TyK.ok] at hk
    subst hk
    simp only [ARel, RRel] at hi
    subst hi
    split at h
    case h_2 => simp at h
    rename_i te hTe
    simp only [Option.map_eq_some_iff, Prod.mk.injEq] at h
    obtain ⟨u, h, rfl, rfl⟩ := h
    simp only [ARel] at hx
    obtain ⟨ds, rfl, hx⟩ := hx
    rw [mulz_eq] at h
    obtain ⟨f, h1, h2⟩ := partA_sound hTO h hx
    refine ⟨f, ?_, h2⟩
    simp only [Instr.index, Sem.run_bind, run_boundsless, Result.andThen_ok, run_underlying hd, Sem.run_ite, hc, and_self, if_true, size_ok hTO hTe, h1]
  · rename_i s k i hT
    simp only [Option.some.injEq] at h
    obtain ⟨rfl, rfl⟩ := Prod.mk.inj h
    obtain ⟨d, hd, hk⟩ := tyk_ok hTO hT
    simp only [TyK.ok] at hk
    subst hk
    simp only [ARel, RRel] at hi hx
    subst hi; subst hx
    have hlt : i.toNat < s.length := by omega
    refine ⟨.int .u8 (s[i.toNat]).toNat, ?_, by simp only [ARel, RRel]; congr 3; simp [List.getD, hlt]⟩
    simp only [Instr.index, Sem.run_bind, run_boundsless, Result.andThen_ok, run_underlying hd, hc.1, if_true]
    have : (⟨⟨s⟩⟩ : ByteArray)[i.toNat]? = some s[i.toNat] := by
      rw [getElem?_pos (⟨⟨s⟩⟩ : ByteArray) i.toNat hlt]
      rfl
    rw [this]
    simp


theorem run_bytes_string {src dst e : TypeId} (hs : P.underlying src = some (.slice e)) (he : P.underlying e = some (.int .u8)) (hd : P.underlying dst = some .string) {s : List UInt8} {a : Option Addr} {cap : Nat}
    (hr : RowAt R w a (bytesV s)) : (convert src dst (.slice a s.length cap)).run P w = .ok (.string ⟨⟨s⟩⟩) w := by
  cases a with
  | none =>
    have : s = [] := by
      rcases hr with h | ⟨_, _, h, _⟩
      · simpa [bytesV] using h
      · simp at h
    subst this
    simp only [convert, Sem.run_bind, run_underlying hs, run_underlying hd, run_underlying he, Result.andThen_ok]
    rfl
  | some ad =>
    refine run_convert_bytes_back w src dst e ad cap s hs he hd (fun j hj => ?_)
    rcases hr with h | ⟨b, o, h, _, h2⟩
    · have : s = [] := by simpa [bytesV] using h
      subst this; simp at hj
    · cases h
      rw [add_off]
      exact h2 j _ (by simp [bytesV, hj, byteV])

theorem convB_sound (hTO : TOk P T) {src dst : TypeId} {st : Ty} {x v : AVal} {c : Prop} (hs : T.look src = some st) (h : convB T st.k dst x = some (v, c)) {a : Value} (hx : ARel R μ w x a) :
    ∃ d, (convert src dst a).run P w = .ok d w ∧ ARel R μ w v d := by
  obtain ⟨sd, hsd, hsk⟩ := tyk_ok hTO hs
  unfold convB at h
  split at h
  case h_3 => simp at h
  all_goals
    rename_i e _ _ _ hke hT
    split at h
    case h_2 => simp at h
    rename_i hTe
    simp only [Option.some.injEq] at h
    obtain ⟨rfl, _⟩ := Prod.mk.inj h
    rw [hke] at hsk
    simp only [TyK.ok] at hsk
    subst hsk
    obtain ⟨d, hd, hk⟩ := tyk_ok hTO hT
    simp only [TyK.ok] at hk
    subst hk
    obtain ⟨de, hde, hke2⟩ := tyk_ok hTO hTe
    simp only [TyK.ok] at hke2
    subst hke2
    simp only [ARel] at hx
  · simp only [RRel] at hx
    obtain ⟨ad, cap, rfl, _, hr⟩ := hx
    exact ⟨_, run_bytes_string hsd hde hd hr, by simp only [ARel, RRel]⟩
  · simp only [RRel] at hx
    obtain ⟨ad, rfl⟩ := hx
    exact ⟨_, run_bytes_string (R := R) (s := []) (a := ad) (cap := 0) hsd hde hd (.inl rfl), by simp only [ARel, RRel]⟩

end
end Go.Proofs.Ytplfajhaehkhnaa

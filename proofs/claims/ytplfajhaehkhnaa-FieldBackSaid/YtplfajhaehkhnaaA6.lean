/-
  ABSTRACT MACHINE, 6: slices, lengths, least and greatest; every operation that touches no memory.
-/
import Derived.Test.YtplfajhaehkhnaaA5
namespace Go.Proofs.Ytplfajhaehkhnaa
open Go

section
variable {P : Program} {T : TTab} {R : Nat → Prop} {μ : Mu} {w : World}

/-- An optional whole number, as the machine has it. -/
def OptRel : Option Int → Option Value → Prop
  | none, none => True
  | some n, some v => ∃ k, v = .int k n
  | _, _ => False

theorem run_sliceBound {k : IntKind} {i : Int} {y : Nat} {code : BoundsCode} (h : 0 ≤ i ∧ i ≤ y) : (Instr.sliceBound (.int k i) y code).run P w = .ok i.toNat w := by
  simp [Instr.sliceBound, asIntOf, h]

/-- Where the bounds stand, the machine's three numbers. 'n' is the length, 'c' the capacity. -/
theorem run_sliceBounds {isS : Bool} {n c : Nat} {lo hi mx : Option Int} {l h m : Option Value} (hl : OptRel lo l) (hh : OptRel hi h) (hm : OptRel mx m) (hb : boundsOk n lo hi mx) (hc : n ≤ c) :
    ∃ a b d : Nat, (Instr.sliceBounds isS n c l h m).run P w = .ok (a, b, d) w ∧ a = (lo.getD 0).toNat ∧ b = (hi.getD n).toNat ∧ a ≤ b ∧ b ≤ n ∧ b ≤ d ∧ d ≤ c ∧ ((mx = none → d = c) ∧ ∀ q, mx = some q → d = q.toNat) := by
  cases lo <;> cases hi <;> cases mx <;> cases l <;> cases h <;> cases m <;> simp only [OptRel] at hl hh hm <;> simp only [boundsOk] at hb <;>
    (try obtain ⟨k1, rfl⟩ := hl) <;> (try obtain ⟨k2, rfl⟩ := hh) <;> (try obtain ⟨k3, rfl⟩ := hm)
  · refine ⟨0, n, c, by simp [Instr.sliceBounds], by simp, by simp, by omega, by omega, by omega, by omega, by simp⟩
  · rename_i i
    refine ⟨0, i.toNat, c, ?_, by simp, by simp, by omega, by omega, by omega, by omega, by simp⟩
    simp only [Instr.sliceBounds, Sem.run_bind, Sem.run_pure, Result.andThen_ok, run_sliceBound (P := P) (w := w) (k := k2) (i := i) (y := c) (by omega)]
  · rename_i i j
    refine ⟨0, i.toNat, j.toNat, ?_, by simp, by simp, by omega, by omega, by omega, by omega, by simp⟩
    simp only [Instr.sliceBounds, Sem.run_bind, Sem.run_pure, Result.andThen_ok, run_sliceBound (P := P) (w := w) (k := k3) (i := j) (y := c) (by omega), run_sliceBound (P := P) (w := w) (k := k2) (i := i) (y := j.toNat) (by omega)]
  · rename_i i
    refine ⟨i.toNat, n, c, ?_, by simp, by simp, by omega, by omega, by omega, by omega, by simp⟩
    simp only [Instr.sliceBounds, Sem.run_bind, Sem.run_pure, Result.andThen_ok, run_sliceBound (P := P) (w := w) (k := k1) (i := i) (y := n) (by omega)]
  · rename_i i j
    refine ⟨i.toNat, j.toNat, c, ?_, by simp, by simp, by omega, by omega, by omega, by omega, by simp⟩
    simp only [Instr.sliceBounds, Sem.run_bind, Sem.run_pure, Result.andThen_ok, run_sliceBound (P := P) (w := w) (k := k2) (i := j) (y := c) (by omega), run_sliceBound (P := P) (w := w) (k := k1) (i := i) (y := j.toNat) (by omega)]
  · rename_i i j q
    refine ⟨i.toNat, j.toNat, q.toNat, ?_, by simp, by simp, by omega, by omega, by omega, by omega, by simp⟩
    simp only [Instr.sliceBounds, Sem.run_bind, Sem.run_pure, Result.andThen_ok, run_sliceBound (P := P) (w := w) (k := k3) (i := q) (y := c) (by omega), run_sliceBound (P := P) (w := w) (k := k2) (i := j) (y := q.toNat) (by omega), run_sliceBound (P := P) (w := w) (k := k1) (i := i) (y := j.toNat) (by omega)]

theorem cutL_eq {α : Type} (xs : List α) (z n : Nat) {lo hi : Option Int} {a b : Nat} (ha : a = (lo.getD 0).toNat) (hb : b = (hi.getD n).toNat) (hx : xs.length = n * z) (hab : a ≤ b) (hi0 : ∀ l h, lo = some l → hi = some h → 0 ≤ l ∧ l ≤ h) :
    cutL xs z lo hi = (xs.drop (a * z)).take ((b - a) * z) := by
  subst ha; subst hb
  cases lo <;> cases hi <;> simp only [cutL, mulz_eq, Option.getD]
  · simp
    rw [List.take_of_length_le (by omega)]
  · simp
  · exact (List.take_of_length_le (by rw [List.length_drop, hx, Int.toNat_natCast, Nat.sub_mul]; exact Nat.le_refl _)).symm
  · rename_i l h
    have := hi0 l h rfl rfl
    rw [show (h - l).toNat = h.toNat - l.toNat by omega]

theorem cutN_eq (n : Nat) {lo hi : Option Int} {a b : Nat} (ha : a = (lo.getD 0).toNat) (hb : b = (hi.getD n).toNat) (hi0 : ∀ l h, lo = some l → hi = some h → 0 ≤ l ∧ l ≤ h) : cutN n lo hi = b - a := by
  subst ha; subst hb
  cases lo <;> cases hi <;> simp only [cutN, Option.getD]
  · simp
  · simp
  · simp
  · rename_i l h
    have := hi0 l h rfl rfl
    omega

theorem bounds_lh {n : Int} {lo hi mx : Option Int} (h : boundsOk n lo hi mx) : ∀ a b, lo = some a → hi = some b → 0 ≤ a ∧ a ≤ b := by
  rintro a b rfl rfl
  cases mx <;> simp only [boundsOk] at h <;> omega

/-- A part of read-only cells, from a on, is read-only cells. -/
theorem RowAt.cut {a : Option Addr} {cs : List Value} (h : RowAt R w a cs) (o n : Nat) (b : Bool) (hb : b = true → ((cs.drop o).take n) = []) :
    RowAt R w (if b then a else a.map (·.add o)) ((cs.drop o).take n) := by
  cases b with
  | true => exact .inl (hb rfl)
  | false =>
    rcases h with h | ⟨bl, of, rfl, h1, h2⟩
    · subst h; exact .inl (by simp)
    · refine .inr ⟨bl, of + o, by simp [add_off], h1, fun j v hj => ?_⟩
      rw [List.getElem?_take] at hj
      split at hj
      · rw [List.getElem?_drop] at hj
        rw [Nat.add_assoc]
        exact h2 _ _ hj
      · simp at hj

theorem sliceA_sound (hTO : TOk P T) {t : TypeId} {x : AVal} {lo hi mx : Option Int} {v : AVal} {c : Prop} (h : sliceA T t x lo hi mx = some (v, c)) (hc : c) {a : Value} {l u m : Option Value}
    (hx : ARel R μ w x a) (hl : OptRel lo l) (hu : OptRel hi u) (hm : OptRel mx m) : ∃ d, (Instr.sliceAt t a l u m).run P w = .ok d w ∧ ARel R μ w v d := by
  unfold sliceA at h
  split at h
  case h_5 => simp at h
  · -- a text
    rename_i s hT
    obtain ⟨d, hd, hk⟩ := tyk_ok hTO hT
    simp only [TyK.ok] at hk
    subst hk
    split at h
    case h_2 => simp at h
    simp only [Option.some.injEq] at h
    obtain ⟨rfl, rfl⟩ := Prod.mk.inj h
    simp only [ARel, RRel] at hx
    subst hx
    cases m with
    | some _ => simp [OptRel] at hm
    | none =>
      obtain ⟨p, q, e, h1, h2, h3, h4, h5, h6, h7, h8⟩ := run_sliceBounds (P := P) (w := w) (isS := false) hl hu hm hc (Nat.le_refl _)
      refine ⟨.string ((⟨⟨s⟩⟩ : ByteArray).extract p q), ?_, ?_⟩
      · simp only [Instr.sliceAt, Instr.slice, Sem.run_bind, run_underlying hd, Result.andThen_ok, Option.isSome_none, Bool.false_eq_true, if_false, size_mk, h1, Sem.run_pure]
      · simp only [ARel, RRel]
        congr 1
        apply ByteArray.ext
        apply Array.ext'
        rw [Lib.extract_data]
        rw [cutL_eq s 1 s.length h2 h3 (by simp) h4 (bounds_lh hc)]
        simp
  · -- bytes
    rename_i e _ _ _ s hT
    obtain ⟨d, hd, hk⟩ := tyk_ok hTO hT
    simp only [TyK.ok] at hk
    subst hk
    split at h
    case h_2 => simp at h
    rename_i te hTe
    cases hb : Nat.beq te.size 1 <;> rw [hb] at h <;> simp only [cond_true, cond_false, reduceCtorEq, Option.some.injEq] at h
    obtain ⟨rfl, rfl⟩ := Prod.mk.inj h
    have hz := Nat.eq_of_beq_eq_true hb
    simp only [ARel, RRel] at hx ⊢
    obtain ⟨ad, cap, rfl, h9, h10⟩ := hx
    obtain ⟨p, q, e, h1, h2, h3, h4, h5, h6, h7, h8⟩ := run_sliceBounds (P := P) (w := w) (isS := true) hl hu hm hc h9
    have hcut := cutL_eq s 1 s.length h2 h3 (by simp) h4 (bounds_lh hc)
    simp only [Nat.mul_one] at hcut
    refine ⟨.slice (if e = p then ad else ad.map (·.add (p * 1))) (q - p) (e - p), ?_, if e = p then ad else ad.map (·.add (p * 1)), e - p, ?_, ?_, ?_⟩
    · simp only [Instr.sliceAt, Instr.slice, Sem.run_bind, run_underlying hd, Result.andThen_ok, h1, Sem.run_pure, size_ok hTO hTe, hz]
    · rw [hcut]; simp only [List.length_take, List.length_drop]; congr 1; omega
    · rw [hcut]; simp only [List.length_take, List.length_drop]; omega
    · rw [hcut, bytesV, List.map_take, List.map_drop, Nat.mul_one]
      have := RowAt.cut h10 p (q - p) (decide (e = p)) (fun he => by
        have : e = p := of_decide_eq_true he
        simp [show q - p = 0 by omega])
      simpa [bytesV] using this
  · -- read-only cells
    rename_i el _ _ _ n xs hT
    obtain ⟨d, hd, hk⟩ := tyk_ok hTO hT
    simp only [TyK.ok] at hk
    subst hk
    split at h
    case h_2 => simp at h
    rename_i te hTe
    have key : ∀ (c0 : Prop) (L : List RVal), (boundsOk n lo hi mx) → (∀ p q : Nat, p = (lo.getD 0).toNat → q = (hi.getD n).toNat → p ≤ q → q ≤ n → (lo = none → L = xs.take ((q - p) * te.size) ∨ L = xs) ∧ (lo ≠ none → L = (xs.drop (p * te.size)).take ((q - p) * te.size))) →
        ∃ d, (Instr.sliceAt t a l u m).run P w = .ok d w ∧ ARel R μ w (.r (.ro (cutN n lo hi) L)) d := by
      intro c0 L hbo hL
      simp only [ARel, RRel] at hx ⊢
      obtain ⟨ad, cap, cs, rfl, h9, h10, h11⟩ := hx
      obtain ⟨p, q, e, h1, h2, h3, h4, h5, h6, h7, h8⟩ := run_sliceBounds (P := P) (w := w) (isS := true) hl hu hm hbo h9
      refine ⟨.slice (if e = p then ad else ad.map (·.add (p * te.size))) (q - p) (e - p), ?_, ?_⟩
      · simp only [Instr.sliceAt, Instr.slice, Sem.run_bind, run_underlying hd, Result.andThen_ok, h1, Sem.run_pure, size_ok hTO hTe]
      · obtain ⟨hL1, hL2⟩ := hL p q h2 h3 h4 h5
        rw [cutN_eq n h2 h3 (bounds_lh hbo)]
        by_cases hlo : lo = none
        · have hp : p = 0 := by rw [h2, hlo]; rfl
          subst hp
          have e1 : (if e = 0 then ad else ad.map (·.add (0 * te.size))) = ad := by
            split
            · rfl
            · cases ad <;> simp [Addr.add]
          rw [e1]
          rcases hL1 hlo with h12 | h12
          · rw [h12]
            refine ⟨ad, e - 0, cs.take ((q - 0) * te.size), rfl, by omega, ?_, h11.take _⟩
            have := RowAt.cut h10 0 ((q - 0) * te.size) false (by simp)
            have e2 : ad.map (·.add 0) = ad := by cases ad <;> simp [Addr.add]
            simpa [e2] using this
          · rw [h12]
            exact ⟨ad, e - 0, cs, rfl, by omega, h10, h11⟩
        · rw [hL2 hlo]
          refine ⟨_, e - p, (cs.drop (p * te.size)).take ((q - p) * te.size), rfl, by omega, ?_, (h11.drop _).take _⟩
          have := RowAt.cut h10 (p * te.size) ((q - p) * te.size) (decide (e = p)) (fun he => by
            have : e = p := of_decide_eq_true he
            simp [show q - p = 0 by omega])
          simpa using this
    split at h
    · rename_i l0
      simp only [Option.some.injEq] at h
      obtain ⟨rfl, rfl⟩ := Prod.mk.inj h
      refine key True _ hc.1 fun p q hp hq hpq hqn => ⟨by simp, fun _ => ?_⟩
      simp only [Option.getD] at hp hq
      simp only [cutL, mulz_eq, hp]
      rw [List.take_of_length_le (by simp [hc.2, hq, Nat.sub_mul])]
    · rename_i hne
      simp only [Option.some.injEq] at h
      obtain ⟨rfl, rfl⟩ := Prod.mk.inj h
      refine key True _ hc fun p q hp hq hpq hqn => ?_
      subst hp; subst hq
      cases lo <;> cases hi
      · exact ⟨fun _ => .inr rfl, by simp⟩
      · exact ⟨fun _ => .inl (by simp [cutL, mulz_eq]), by simp⟩
      · exact (hne _ rfl rfl).elim
      · rename_i i j
        have := bounds_lh hc i j rfl rfl
        refine ⟨by simp, fun _ => ?_⟩
        simp only [cutL, mulz_eq, Option.getD]
        rw [show (j - i).toNat = j.toNat - i.toNat by omega]
  · -- an owned block's
    rename_i el _ _ _ β off n z hT
    obtain ⟨d, hd, hk⟩ := tyk_ok hTO hT
    simp only [TyK.ok] at hk
    subst hk
    split at h
    case h_3 => simp at h
    · rename_i te hTe
      cases hb : Nat.beq te.size z <;> rw [hb] at h <;> simp only [cond_true, cond_false, reduceCtorEq, Option.some.injEq] at h
      obtain ⟨rfl, rfl⟩ := Prod.mk.inj h
      have hz := Nat.eq_of_beq_eq_true hb
      simp only [ARel] at hx ⊢
      obtain ⟨bl, o, cap, cells, e0, fz, h9, rfl, h10, h11, h12, h13⟩ := hx
      obtain ⟨p, q, e, h1, h2, h3, h4, h5, h6, h7, h8⟩ := run_sliceBounds (P := P) (w := w) (isS := true) hl hu hm hc h10
      have hp : p = 0 := h2
      subst hp
      refine ⟨.slice (some ⟨bl, o + off, none⟩) (q - 0) (e - 0), ?_, bl, o, e - 0, cells, e0, fz, h9, ?_, ?_, by omega, h12, ?_⟩
      · simp only [Instr.sliceAt, Instr.slice, Sem.run_bind, run_underlying hd, Result.andThen_ok, h1, Sem.run_pure, size_ok hTO hTe, hz]
        congr 2
        split
        · rfl
        · simp [Addr.add]
      · rw [cutN_eq n h2 h3 (bounds_lh hc)]
      · rw [cutN_eq n h2 h3 (bounds_lh hc)]; omega
      · have : (e - 0) * z ≤ cap * z := Nat.mul_le_mul_right _ (by omega)
        omega
    · rename_i te l0 hTe
      cases hb : Nat.beq te.size z <;> rw [hb] at h <;> simp only [cond_true, cond_false, reduceCtorEq, Option.some.injEq] at h
      obtain ⟨rfl, rfl⟩ := Prod.mk.inj h
      have hz := Nat.eq_of_beq_eq_true hb
      obtain ⟨hc, hc2, hc3⟩ := hc
      simp only [ARel] at hx ⊢
      obtain ⟨bl, o, cap, cells, e0, fz, h9, rfl, h10, h11, h12, h13⟩ := hx
      obtain ⟨p, q, e, h1, h2, h3, h4, h5, h6, h7, h8⟩ := run_sliceBounds (P := P) (w := w) (isS := true) hl hu hm hc h10
      have hp : p = l0.toNat := h2
      have hl0 : 0 ≤ l0 := by
        cases hi <;> cases mx <;> simp only [boundsOk] at hc <;> omega
      have he : p < e := by
        cases mx with
        | none => have := h8.1 rfl; omega
        | some q => have h15 := h8.2 q rfl; simp only [mxOk] at hc3; omega
      refine ⟨.slice (some ⟨bl, o + off + p * z, none⟩) (q - p) (e - p), ?_, bl, o, e - p, cells, e0, fz, h9, ?_, ?_, by omega, h12, ?_⟩
      · simp only [Instr.sliceAt, Instr.slice, Sem.run_bind, run_underlying hd, Result.andThen_ok, h1, Sem.run_pure, size_ok hTO hTe, hz]
        rw [if_neg (by omega)]
        simp only [Option.map_some, add_off]
      · rw [cutN_eq n h2 h3 (bounds_lh hc), addo_eq, mulz_eq, ← hp, Nat.add_assoc]
      · rw [cutN_eq n h2 h3 (bounds_lh hc)]; omega
      · rw [addo_eq, mulz_eq, ← hp]
        have h14 : p * z + (e - p) * z = e * z := by rw [← Nat.add_mul]; congr 1; omega
        have : e * z ≤ cap * z := Nat.mul_le_mul_right _ h7
        omega

theorem lenA_sound (hTO : TOk P T) {t : TypeId} {x : AVal} {n : Int} (h : lenA T t x = some n) {a : Value} (hx : ARel R μ w x a) {ty : TypeId} {r1 : List TypeId} {r2 : List Value} :
    (Builtin.len_ ⟨t :: r1⟩ ty ⟨a :: r2⟩).run P w = .ok (.int .i64 n) w := by
  unfold lenA at h
  split at h
  case h_7 => simp at h
  all_goals
    rename_i hT
    obtain ⟨d, hd, hk⟩ := tyk_ok hTO hT
    simp only [TyK.ok] at hk
    subst hk
    simp only [Option.some.injEq] at h
    subst h
    try simp only [ARel, RRel] at hx
  · subst hx
    simp [Builtin.len_, run_underlying hd, goInt, size_mk]
  · simp [Builtin.len_, run_underlying hd, goInt]
  · obtain ⟨ad, cap, rfl, _⟩ := hx
    simp [Builtin.len_, run_underlying hd, goInt]
  · obtain ⟨ad, cap, cs, rfl, _⟩ := hx
    simp [Builtin.len_, run_underlying hd, goInt]
  · obtain ⟨ad, rfl⟩ := hx
    simp [Builtin.len_, run_underlying hd, goInt]
  · obtain ⟨_, _, _, _, _, _, _, rfl, _⟩ := hx
    simp [Builtin.len_, run_underlying hd, goInt]


theorem mmA_min_sound : ∀ (l : List AVal) (k : IntKind) (x : Int) (v : AVal), mmA min (.r (.int k x)) l = some v → ∀ (cs : List Value), ARels R μ w l cs →
    ∃ d, (cs.foldlM Builtin.min2 (.int k x)).run P w = .ok d w ∧ ARel R μ w v d
  | [], k, x, v, h, cs, hc => by
    simp only [mmA, Option.some.injEq] at h
    subst h
    simp only [ARels] at hc
    subst hc
    exact ⟨.int k x, by simp, by simp [ARel, RRel]⟩
  | y :: l, k, x, v, h, cs, hc => by
    simp only [ARels] at hc
    obtain ⟨c, r, rfl, h1, h2⟩ := hc
    cases y with
    | r y =>
      cases y with
      | int k' y =>
        simp only [mmA] at h
        simp only [ARel, RRel] at h1
        subst h1
        obtain ⟨d, h3, h4⟩ := mmA_min_sound l k (min x y) v h r h2
        refine ⟨d, ?_, h4⟩
        simp only [List.foldlM_cons, Sem.run_bind, Builtin.min2, Sem.run_pure, Result.andThen_ok]
        rw [show (if y < x then y else x) = min x y by rw [Int.min_def]; split <;> split <;> omega]
        exact h3
      | _ => simp [mmA] at h
    | _ => simp [mmA] at h

theorem mmA_max_sound : ∀ (l : List AVal) (k : IntKind) (x : Int) (v : AVal), mmA max (.r (.int k x)) l = some v → ∀ (cs : List Value), ARels R μ w l cs →
    ∃ d, (cs.foldlM Builtin.max2 (.int k x)).run P w = .ok d w ∧ ARel R μ w v d
  | [], k, x, v, h, cs, hc => by
    simp only [mmA, Option.some.injEq] at h
    subst h
    simp only [ARels] at hc
    subst hc
    exact ⟨.int k x, by simp, by simp [ARel, RRel]⟩
  | y :: l, k, x, v, h, cs, hc => by
    simp only [ARels] at hc
    obtain ⟨c, r, rfl, h1, h2⟩ := hc
    cases y with
    | r y =>
      cases y with
      | int k' y =>
        simp only [mmA] at h
        simp only [ARel, RRel] at h1
        subst h1
        obtain ⟨d, h3, h4⟩ := mmA_max_sound l k (max x y) v h r h2
        refine ⟨d, ?_, h4⟩
        simp only [List.foldlM_cons, Sem.run_bind, Builtin.max2, Sem.run_pure, Result.andThen_ok]
        rw [show (if x < y then y else x) = max x y by rw [Int.max_def]; split <;> split <;> omega]
        exact h3
      | _ => simp [mmA] at h
    | _ => simp [mmA] at h

theorem builtinA_sound (hTO : TOk P T) {b : Builtin} {argTypes : Array TypeId} {args : List AVal} {v : AVal} {c : Prop} (h : builtinA T b argTypes args = some (v, c)) {cs : List Value} (hc : ARels R μ w args cs) (ty : TypeId) (consts : Array Bool) :
    ∃ d, (builtin b argTypes ty consts ⟨cs⟩).run P w = .ok (.value d) w ∧ ARel R μ w v d := by
  unfold builtinA at h
  split at h
  · rename_i x l
    obtain ⟨at0⟩ := argTypes
    split at h
    · rename_i t l2 e
      simp only at e
      subst e
      simp only [Option.map_eq_some_iff, Prod.mk.injEq] at h
      obtain ⟨n, h, rfl, _⟩ := h
      simp only [ARels] at hc
      obtain ⟨a, r, rfl, h1, h2⟩ := hc
      refine ⟨.int .i64 n, ?_, by simp [ARel, RRel]⟩
      simp only [builtin, Sem.run_bind, lenA_sound hTO h h1, Result.andThen_ok, Sem.run_pure]
    · simp at h
  · simp only [Option.map_eq_some_iff, Prod.mk.injEq] at h
    obtain ⟨n, h, rfl, _⟩ := h
    simp only [ARels] at hc
    obtain ⟨a, r, rfl, h1, h2⟩ := hc
    simp only [ARel, RRel] at h1
    subst h1
    obtain ⟨d, h3, h4⟩ := mmA_min_sound (P := P) _ _ _ _ h r h2
    refine ⟨d, ?_, h4⟩
    simp only [builtin, Builtin.min_, Sem.run_bind, h3, Result.andThen_ok, Sem.run_pure]
  · simp only [Option.map_eq_some_iff, Prod.mk.injEq] at h
    obtain ⟨n, h, rfl, _⟩ := h
    simp only [ARels] at hc
    obtain ⟨a, r, rfl, h1, h2⟩ := hc
    simp only [ARel, RRel] at h1
    subst h1
    obtain ⟨d, h3, h4⟩ := mmA_max_sound (P := P) _ _ _ _ h r h2
    refine ⟨d, ?_, h4⟩
    simp only [builtin, Builtin.max_, Sem.run_bind, h3, Result.andThen_ok, Sem.run_pure]
  · simp at h

theorem optInt_rel {ev : Operand → AVal} {ρ : Operand → Value} (hrel : ∀ x, ARel R μ w (ev x) (ρ x)) {o : Option Operand} {l : Option Int} (h : optInt ev o = some l) : OptRel l (o.map ρ) := by
  cases o with
  | none => simp [optInt] at h; subst h; simp [OptRel]
  | some x =>
    simp only [optInt] at h
    split at h
    · rename_i k n e
      simp only [Option.some.injEq] at h
      subst h
      have := hrel x
      rw [e] at this
      simp only [ARel, RRel] at this
      exact ⟨k, this⟩
    · simp at h

theorem ARels.map {ev : Operand → AVal} {ρ : Operand → Value} (hrel : ∀ x, ARel R μ w (ev x) (ρ x)) : ∀ (l : List Operand), ARels R μ w (l.map ev) (l.map ρ)
  | [] => by simp [ARels]
  | x :: l => by simp only [List.map_cons, ARels]; exact ⟨_, _, rfl, hrel x, ARels.map hrel l⟩

/-- EVERY OPERATION THAT TOUCHES NO MEMORY. 'src' : what a conversion's source is has to be a type of the program. -/
theorem pureOp_sound (hTO : TOk P T) {ev : Operand → AVal} {ρ : Operand → Value} (hrel : ∀ x, ARel R μ w (ev x) (ρ x)) (o : Oper) {v : AVal} {c : Prop} (h : pureOp T ev o.op = some (v, c)) (hc : c) :
    ∃ d, (execOp ρ o).run P w = .ok (.value d) w ∧ ARel R μ w v d := by
  obtain ⟨dst, op, ty, pos, after, guard⟩ := o
  simp only at h
  cases op <;> simp only [pureOp, reduceCtorEq] at h
  case move x =>
    simp only [Option.some.injEq] at h
    obtain ⟨rfl, rfl⟩ := Prod.mk.inj h
    exact ⟨ρ x, by simp [execOp], hrel x⟩
  case assign x =>
    simp only [Option.some.injEq] at h
    obtain ⟨rfl, rfl⟩ := Prod.mk.inj h
    exact ⟨ρ x, by simp [execOp], hrel x⟩
  case pick x y z =>
    obtain ⟨d, h1, h2⟩ := pickA_sound (P := P) h (hrel x) (hrel y) (hrel z)
    refine ⟨d, ?_, h2⟩
    simp only [execOp]
    simp only [Sem.run_bind] at h1 ⊢
    cases hr : (asBool (ρ x)).run P w with
    | halt a b => rw [hr] at h1; simp at h1
    | ok b w1 =>
      rw [hr] at h1
      simp only [Result.andThen_ok, Sem.run_pure, Result.ok.injEq] at h1 ⊢
      exact ⟨by rw [h1.1], h1.2⟩
  case build t parts =>
    obtain ⟨d, h1, h2⟩ := buildA_sound (P := P) (cp := parts.map fun (i, x) => (i, ρ x)) hTO h hc (by simp [List.map_map, Function.comp_def]) (fun i a c ha hb => by
      simp only [List.getElem?_map, Option.map_eq_some_iff, Array.toList_map] at ha hb
      obtain ⟨p, hp, rfl⟩ := ha
      obtain ⟨q, hq, rfl⟩ := hb
      rw [hp] at hq
      cases hq
      exact hrel _)
    exact ⟨d, by simp [execOp, h1], h2⟩
  case nilCheck x =>
    have hx := hrel x
    split at h <;> simp only [reduceCtorEq, Option.some.injEq] at h
    all_goals
      rename_i e
      rw [e] at hx
      obtain ⟨rfl, rfl⟩ := Prod.mk.inj h
      refine ⟨ρ x, ?_, hx⟩
      simp only [ARel] at hx
      simp only [execOp]
    · obtain ⟨b, o, _, h2⟩ := hx
      rw [h2]; rfl
    · obtain ⟨b, o, cs, h2, _⟩ := hx
      rw [h2]; rfl
    · obtain ⟨b, o, h2, _⟩ := hx
      rw [h2]; rfl
    · obtain ⟨cs, h2, _⟩ := hx
      rw [h2]; rfl
  case binOp op t x y yt =>
    obtain ⟨d, h1, h2⟩ := binOpA_sound hTO h hc (hrel x) (hrel y) x y
    refine ⟨d, ?_, h2⟩
    simp only [execOp]
    rw [Sem.run_bind, h1]
    rfl
  case unOp op t x =>
    obtain ⟨d, h1, h2⟩ := unOpA_sound (P := P) h hc (hrel x)
    exact ⟨d, by simp [execOp, h1], h2⟩
  case convert src dst x =>
    split at h
    case h_2 => simp at h
    rename_i tys hT
    obtain ⟨d, hd, _⟩ := tyk_ok hTO hT
    split at h
    · rename_i r hcb
      obtain ⟨rv, rc⟩ := r
      cases h
      obtain ⟨e, h1, h2⟩ := convB_sound (P := P) hTO hT hcb (hrel x)
      exact ⟨e, by simp only [execOp, Sem.run_bind, h1]; rfl, h2⟩
    · obtain ⟨e, h1, h2⟩ := convA_sound (P := P) hTO h hc (hrel x) ⟨d, hd⟩
      exact ⟨e, by simp only [execOp, Sem.run_bind, h1]; rfl, h2⟩
  case slice t x lo hi mx =>
    split at h
    case h_2 => simp at h
    rename_i l u m e1 e2 e3
    obtain ⟨d, h1, h2⟩ := sliceA_sound (P := P) hTO h hc (hrel x) (optInt_rel hrel e1) (optInt_rel hrel e2) (optInt_rel hrel e3)
    exact ⟨d, by simp only [execOp, Sem.run_bind, h1]; rfl, h2⟩
  case fieldAddr t x f =>
    obtain ⟨d, h1, h2⟩ := fieldAddrA_sound (P := P) hTO h (hrel x)
    exact ⟨d, by simp only [execOp, Sem.run_bind, h1]; rfl, h2⟩
  case field t x f =>
    obtain ⟨d, h1, h2⟩ := fieldA_sound (P := P) hTO h (hrel x)
    exact ⟨d, by simp only [execOp, Sem.run_bind, h1]; rfl, h2⟩
  case indexAddr t x i =>
    obtain ⟨d, h1, h2⟩ := indexAddrA_sound (P := P) hTO h hc (hrel x) (hrel i)
    exact ⟨d, by simp only [execOp, Sem.run_bind, h1]; rfl, h2⟩
  case index t x i =>
    obtain ⟨d, h1, h2⟩ := indexA_sound (P := P) hTO h hc (hrel x) (hrel i)
    exact ⟨d, by simp only [execOp, Sem.run_bind, h1]; rfl, h2⟩
  case extract x i =>
    have hx := hrel x
    split at h
    case h_2 => simp at h
    rename_i vs e
    rw [e] at hx
    simp only [Option.map_eq_some_iff, Prod.mk.injEq] at h
    obtain ⟨u, h, rfl, _⟩ := h
    simp only [ARel] at hx
    obtain ⟨cs, h1, h2⟩ := hx
    obtain ⟨a, h3, h4⟩ := h2.get h
    refine ⟨a, ?_, h4⟩
    simp only [execOp, h1, Instr.extract, List.getElem?_toArray, h3]
    rfl
  case makeFunc fn first caps =>
    obtain ⟨first⟩ := first
    split at h <;> simp only [reduceCtorEq, Option.some.injEq] at h
    rename_i f e
    simp only at e
    subst e
    obtain ⟨rfl, rfl⟩ := Prod.mk.inj h
    refine ⟨.func (.func f) #[] (caps.map ρ), by simp [execOp, Instr.makeFunc], ?_⟩
    simp only [ARel]
    exact ⟨caps.toList.map ρ, by rw [← Array.toList_map], ARels.map hrel _⟩
  case call cl =>
    split at h
    case h_2 => simp at h
    rename_i b e
    obtain ⟨d, h1, h2⟩ := builtinA_sound (P := P) hTO h (ARels.map hrel cl.args.toList) ty (cl.args.map fun x => match x with | .const _ => true | _ => false)
    refine ⟨d, ?_, h2⟩
    simp only [execOp, resolve, e, Sem.run_bind, Sem.run_pure, Result.andThen_ok, invoke]
    rw [← h1, ← Array.toList_map]
    rfl

end
end Go.Proofs.Ytplfajhaehkhnaa

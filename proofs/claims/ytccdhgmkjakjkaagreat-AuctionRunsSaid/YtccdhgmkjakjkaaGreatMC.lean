/-
  THE ABSTRACT MACHINE: texts 23 to 24.
-/
import Derived.Test.YtccdhgmkjakjkaaGreatMB
import Derived.SizedLaws
namespace Go.Proofs.YtccdhgmkjakjkaaGreat
open Go
def CellsAt (w : World) (k : Nat) : Prop := ∃ (c : Array Value) (e : TypeId) (f : Nat × Nat), w.heap[k]? = some (Obj.cells c e f)
theorem law_start (w : World) : HRel (callCtx w ⟨0, [], false⟩ (CellsAt w) []) (CellsAt w) [] ⟨0, [], false⟩ w where
 os := rfl
 tape := rfl
 output := rfl
 size := Nat.le_refl _
 keep _ _ _ := rfl
 shape _ c _ f h := ⟨c, f, h, rfl⟩
 r0 _ h := h
 rO _ h := .inl h
 rlt k h := by obtain ⟨c, e, f, h1⟩ := h; exact (Array.getElem?_eq_some_iff.1 h1).1
 rc _ h := h
 mu _ _ h := h
 len := rfl
 live β blk hg := by simp [Hp.get, Hp.look] at hg
 inj β β' blk blk' b b' o o' hg := by simp [Hp.get, Hp.look] at hg
 inv := trivial
theorem law_calls {P : Program} {f : FuncId} {as : List AVal} {b : Bool} (hs : Pur P f as (.r (.bool b))) {w : World} {cargs : List Value} (ha : ARels (CellsAt w) [] w as cargs) :
  Calls P f ⟨cargs⟩ w fun e w' => e = .returned (.bool b) ∧ w'.os = w.os ∧ w'.tape = w.tape ∧ w'.output = w.output ∧ w.heap.size ≤ w'.heap.size ∧ ∀ k, k < w.heap.size → w'.heap[k]? = w.heap[k]? := by
 refine (hs.run (CellsAt w) [] w cargs (law_start w) ha).mono ?_
 rintro e w' ⟨v, rfl, R', μ', av, h', h1, h2, rfl⟩
 simp only [ARel, RRel] at h1
 subst h1
 exact ⟨rfl, h2.os, h2.tape, h2.output, h2.size, fun k hk => h2.keep k hk (fun ho => by
  obtain ⟨β, blk, o, hg, _⟩ := ho
  simp [Hp.get, Hp.look] at hg)⟩
end Go.Proofs.YtccdhgmkjakjkaaGreat
namespace Go.Proofs.YtccdhgmkjakjkaaGreat
open Go
def contig (T : TTab) : List (Nat × TypeId) → Nat → Option Nat
 | [], off => some off
 | (o, t) :: l, off => match T.look t with | some ty => bif Nat.beq o off then contig T l (off + ty.size) else none | none => none
def arrParts (e : TypeId) (sz : Nat) : Nat → Nat → List (Nat × TypeId)
 | _, 0 => []
 | off, n + 1 => (off, e) :: arrParts e sz (off + sz) n
def Fits (T : TTab) : Nat → TypeId → List RVal → Prop
 | 0, _, _ => False
 | fuel + 1, t, rs =>
  match T.look t with
  | some { k := .int k, .. } => ∃ n, rs = [.int k n] ∧ k.min ≤ n ∧ n ≤ k.max
  | some { k := .bool, .. } => ∃ b, rs = [.bool b]
  | some { k := .str, .. } => ∃ s, rs = [.str s] ∧ s.length ≤ reachBytes
  | some { k := .slice e, .. } =>
   match T.look e with
   | some { k := .int .u8, bytes := bz, .. } => ∃ s, rs = [.bs s] ∧ s.length ≤ maxLen ∧ s.length * bz ≤ reachBytes
   | some te => ∃ (n : Nat) (parts : List (List RVal)), rs = [.ro n parts.flatten] ∧ (n ≤ maxLen ∧ n * te.bytes ≤ reachBytes) ∧ parts.length = n ∧ ∀ p ∈ parts, p.length = te.size ∧ Fits T fuel e p
   | none => False
  | some { k := .arr n e, .. } => ∃ parts : List (List RVal), rs = parts.flatten ∧ parts.length = n ∧ ∀ p ∈ parts, Fits T fuel e p
  | some { k := .struct fs, .. } => ∃ parts : List (List RVal), rs = parts.flatten ∧ parts.length = fs.length ∧ ∀ (i : Nat) o f p, fs[i]? = some (o, f) → parts[i]? = some p → Fits T fuel f p
  | _ => False
mutual
def rsz : RVal → Nat
 | .bs s => s.length
 | .str s => s.length
 | .ro n xs => max n (rszs xs)
 | _ => 0
def rszs : List RVal → Nat
 | [] => 0
 | x :: xs => rsz x + rszs xs
end
theorem rszs_append : ∀ (a b : List RVal), rszs (a ++ b) = rszs a + rszs b
 | [], b => by simp [rszs]
 | x :: a, b => by simp only [List.cons_append, rszs, rszs_append a b]; omega
mutual
def dsz {H : Type} : DataW H → Nat
 | .lit (.string b) => b.length
 | .slice elems _ => max elems.length (dszs elems)
 | .agg parts => dszs parts
 | _ => 0
def dszs {H : Type} : List (DataW H) → Nat
 | [] => 0
 | d :: r => dsz d + dszs r
end
theorem rszs_parts {H : Type} : ∀ (parts : List (List RVal)) (ds : List (DataW H)), parts.length = ds.length → (∀ (i : Nat) p d, parts[i]? = some p → ds[i]? = some d → rszs p ≤ dsz d) → rszs parts.flatten ≤ dszs ds
 | [], ds, _, _ => by simp [rszs]
 | p :: parts, [], hl, _ => by simp at hl
 | p :: parts, d :: ds, hl, h => by
  rw [List.flatten_cons, rszs_append, dszs]
  have h1 := h 0 p d (by simp) (by simp)
  have h2 := rszs_parts parts ds (by simpa using hl) (fun i p' d' hp hd => h (i + 1) p' d' (by simpa using hp) (by simpa using hd))
  omega
def goodT (T : TTab) : Nat → TypeId → Bool
 | 0, _ => true
 | fuel + 1, t =>
  match T.look t with
  | some { k := .int _, .. } => true
  | some { k := .bool, .. } => true
  | some { k := .str, .. } => true
  | some { k := .slice e, .. } => (match T.look e with | some te => Nat.blt 0 te.size | none => false) && goodT T fuel e
  | some { k := .arr n e, size := s, .. } => (match T.look e with | some te => Nat.beq s (n * te.size) | none => false) && goodT T fuel e
  | some { k := .struct fs, size := s, .. } => (match contig T fs 0 with | some n => Nat.beq n s | none => false) && fs.all fun f => goodT T fuel f.2
  | _ => false
section
variable {P : Program} {T : TTab} {w : World} {R : Nat → Prop}
theorem cellsOf_ok (hTO : TOk P T) {t : TypeId} {ty : Ty} (hT : T.look t = some ty) : P.cellsOf t = ty.size := by
 obtain ⟨D, i, _, hi, hs, _⟩ := (hTO t ty hT).ex
 simp [Program.cellsOf, hi, hs]
theorem bytesOf_ok (hTO : TOk P T) {t : TypeId} {ty : Ty} (hT : T.look t = some ty) : P.bytesOf t = ty.bytes := by
 obtain ⟨D, i, _, hi, _, hb, _⟩ := (hTO t ty hT).ex
 simp [Program.bytesOf, hi, hb]
theorem weightsAll_mem {H : Type} {P : Program} {e : TypeId} : ∀ {l : List (DataW H)} {x : DataW H}, x ∈ l → ∀ n ∈ x.weights P e, n ∈ DataW.weightsAll P e l
 | [], x, h, _, _ => by simp at h
 | y :: l, x, h, n, hn => by
  simp only [DataW.weightsAll, List.mem_append]
  rcases List.mem_cons.1 h with rfl | h
  ·exact .inl hn
  ·exact .inr (weightsAll_mem h n hn)
theorem rrels_parts : ∀ (fl : List (Nat × TypeId)) (off n : Nat) (cs : List Value), contig T fl off = some n → n = cs.length →
  ∀ (Q : Nat → TypeId → List RVal → Prop), (∀ (i : Nat) o t ty, fl[i]? = some (o, t) → T.look t = some ty → ∃ rs, RRels R w rs ((cs.drop o).take ty.size) ∧ Q i t rs) →
  ∃ parts : List (List RVal), RRels R w parts.flatten (cs.drop off) ∧ parts.length = fl.length ∧ ∀ (i : Nat) o t p, fl[i]? = some (o, t) → parts[i]? = some p → Q i t p
 | [], off, n, cs, hc, hn, Q, _ => by
  simp only [contig, Option.some.injEq] at hc
  refine ⟨[], ?_, rfl, fun i o t p h => by simp at h⟩
  simp [RRels, hc, hn]
 | (o, t) :: l, off, n, cs, hc, hn, Q, h => by
  simp only [contig] at hc
  cases hT : T.look t with
  | none => rw [hT] at hc; simp at hc
  | some ty =>
   rw [hT] at hc
   simp only at hc
   cases hb : Nat.beq o off <;> rw [hb] at hc <;> simp only [cond_true, cond_false, reduceCtorEq] at hc
   have ho := Nat.eq_of_beq_eq_true hb
   subst ho
   obtain ⟨rs, h1, h2⟩ := h 0 o t ty (by simp) hT
   obtain ⟨parts, h3, h4, h5⟩ := rrels_parts l (o + ty.size) n cs hc hn (fun i => Q (i + 1)) (fun i o' t' ty' hm => h (i + 1) o' t' ty' (by simpa using hm))
   refine ⟨rs :: parts, ?_, by simp [h4], ?_⟩
   ·have : cs.drop o = (cs.drop o).take ty.size ++ cs.drop (o + ty.size) := by
     rw [← List.drop_drop, List.take_append_drop]
    rw [this, List.flatten_cons]
    exact h1.append h3
   ·intro i o' t' p hi hp
    cases i with
    | zero =>
     simp at hi hp
     obtain ⟨rfl, rfl⟩ := hi
     subst hp; exact h2
    | succ i => exact h5 i o' t' p (by simpa using hi) (by simpa using hp)
theorem mapM_some {α β : Type} {f : α → Option β} : ∀ {l : List α} {r : List β}, l.mapM f = some r → r.length = l.length ∧ ∀ (i : Nat) a, l[i]? = some a → ∃ b, f a = some b ∧ r[i]? = some b
 | [], r, h => by simp at h; subst h; simp
 | a :: l, r, h => by
  simp only [List.mapM_cons, Option.bind_eq_bind, Option.bind_eq_some_iff, Option.pure_def, Option.some.injEq] at h
  obtain ⟨b, h1, r', h2, rfl⟩ := h
  obtain ⟨h3, h4⟩ := mapM_some h2
  refine ⟨by simp [h3], fun i x hi => ?_⟩
  cases i with
  | zero => simp at hi; subst hi; exact ⟨b, h1, by simp⟩
  | succ i => simpa using h4 i x (by simpa using hi)
theorem contig_arr {e : TypeId} {te : Ty} (hE : T.look e = some te) : ∀ (n off : Nat), contig T (arrParts e te.size off n) off = some (off + n * te.size)
 | 0, off => by simp [arrParts, contig]
 | n + 1, off => by
  simp only [arrParts, contig, hE, Nat.beq_refl, cond_true]
  rw [contig_arr hE n (off + te.size), Nat.succ_mul]
  congr 1; omega
theorem arrParts_at {e : TypeId} {sz : Nat} : ∀ {n off i o : Nat} {t : TypeId}, (arrParts e sz off n)[i]? = some (o, t) → i < n ∧ t = e ∧ o = off + i * sz
 | 0, off, i, o, t, h => by simp [arrParts] at h
 | n + 1, off, 0, o, t, h => by
  simp [arrParts] at h
  exact ⟨by omega, h.2.symm, by simp [h.1]⟩
 | n + 1, off, i + 1, o, t, h => by
  obtain ⟨h1, h2, h3⟩ := arrParts_at (n := n) (off := off + sz) (i := i) (by simpa [arrParts] using h)
  exact ⟨by omega, h2, by rw [h3, Nat.succ_mul]; omega⟩
theorem arrParts_length {e : TypeId} {sz : Nat} : ∀ (n off : Nat), (arrParts e sz off n).length = n
 | 0, _ => rfl
 | n + 1, off => by simp [arrParts, arrParts_length n]
theorem arrParts_get {e : TypeId} {sz : Nat} : ∀ (n off i : Nat), i < n → (arrParts e sz off n)[i]? = some (off + i * sz, e)
 | 0, _, i, h => absurd h (Nat.not_lt_zero _)
 | n + 1, off, 0, _ => by simp [arrParts]
 | n + 1, off, i + 1, h => by
  simp only [arrParts, List.getElem?_cons_succ]
  rw [arrParts_get n (off + sz) i (by omega), Nat.succ_mul]
  congr 2; omega
theorem cells_get {base : Nat} {a : Addr} {n : Nat} {cs : List Value} (h : w.cells? base a n = some cs) : cs.length = n ∧ ∀ (j : Nat) v, cs[j]? = some v → w.cell? (a.add j) = some v := by
 unfold World.cells? at h
 split at h
 case isFalse => simp at h
 obtain ⟨h1, h2⟩ := mapM_some h
 simp only [List.length_range] at h1
 refine ⟨h1, fun j v hj => ?_⟩
 have hjl : j < n := by rw [← h1]; exact (List.getElem?_eq_some_iff.1 hj).1
 obtain ⟨b, h3, h4⟩ := h2 j j (by simp [hjl])
 rw [hj] at h4
 cases h4
 exact h3
theorem cell_at {a : Addr} {v : Value} (h : w.cell? a = some v) : a.spot = none ∧ CellsAt w a.block := by
 unfold World.cell? at h
 split at h
 ·rename_i c e f hb
  split at h
  ·simp at h
  ·rename_i hs
   exact ⟨by simpa using hs, c, e, f, hb⟩
 ·simp at h
theorem addr_add {a : Addr} {n : Nat} (h : 0 < n) : a.add n = ⟨a.block, a.off + n, none⟩ := by
 unfold Addr.add; rw [if_neg (by omega)]
theorem addr_add2 {a : Addr} {m n : Nat} (h : 0 < n) : (a.add m).add n = ⟨a.block, a.off + m + n, none⟩ := by
 rw [addr_add h]
 unfold Addr.add
 split
 ·rename_i h0; subst h0; simp
 ·rfl
theorem elems_row {a : Addr} {sz : Nat} (hsz : 0 < sz) : ∀ (l : List (List Value)) (i : Nat), (∀ (j : Nat) cs, l[j]? = some cs → w.cells? 0 (a.add ((i + j) * sz)) sz = some cs) →
  ∀ (j : Nat) v, l.flatten[j]? = some v → w.cell? ((a.add (i * sz)).add j) = some v
 | [], _, _, j, v, hj => by simp at hj
 | cs :: l, i, h, j, v, hj => by
  obtain ⟨h1, h2⟩ := cells_get (h 0 cs (by simp))
  rw [List.flatten_cons] at hj
  by_cases hlt : j < sz
  ·rw [List.getElem?_append_left (by omega)] at hj
   have := h2 j v hj
   simpa using this
  ·rw [List.getElem?_append_right (by omega), h1] at hj
   have := elems_row hsz l (i + 1) (fun j' cs' hj' => by
    have := h (j' + 1) cs' (by simpa using hj')
    rwa [show i + (j' + 1) = i + 1 + j' by omega] at this) (j - sz) v hj
   have hpos : 0 < (i + 1) * sz := Nat.mul_pos (by omega) hsz
   have hs : (i + 1) * sz = i * sz + sz := Nat.succ_mul i sz
   have e : (a.add ((i + 1) * sz)).add (j - sz) = (a.add (i * sz)).add j := by
    rw [addr_add hpos, addr_add2 (show 0 < j by omega)]
    unfold Addr.add
    split
    ·congr 1; omega
    ·simp only [Addr.mk.injEq, and_true, true_and]; omega
   rwa [e] at this
theorem elems_collect {a : Addr} {sz : Nat} {Q : Nat → List RVal → Prop} : ∀ (n i0 : Nat), (∀ i, i < n → ∃ cs rs, w.cells? 0 (a.add ((i0 + i) * sz)) sz = some cs ∧ RRels R w rs cs ∧ Q (i0 + i) rs) →
  ∃ (cl : List (List Value)) (parts : List (List RVal)), parts.length = n ∧ RRels R w parts.flatten cl.flatten ∧ (∀ (j : Nat) cs, cl[j]? = some cs → w.cells? 0 (a.add ((i0 + j) * sz)) sz = some cs) ∧ ∀ (i : Nat) p, parts[i]? = some p → p.length = sz ∧ Q (i0 + i) p
 | 0, i0, _ => ⟨[], [], rfl, by simp [RRels], fun j cs h => by simp at h, fun i p h => by simp at h⟩
 | n + 1, i0, h => by
  obtain ⟨cs, rs, h1, h2, h3⟩ := h 0 (by omega)
  obtain ⟨cl, parts, h4, h5, h6, h7⟩ := elems_collect n (i0 + 1) (fun i hi => by
   have := h (i + 1) (by omega)
   rwa [show i0 + (i + 1) = i0 + 1 + i by omega] at this)
  refine ⟨cs :: cl, rs :: parts, by simp [h4], ?_, ?_, ?_⟩
  ·rw [List.flatten_cons, List.flatten_cons]; exact h2.append h5
  ·intro j c hj
   cases j with
   | zero => simp at hj; subst hj; exact h1
   | succ j =>
    have := h6 j c (by simpa using hj)
    rwa [show i0 + 1 + j = i0 + (j + 1) by omega] at this
  ·intro i p hp
   cases i with
   | zero => simp at hp; subst hp; exact ⟨by rw [← h2.length]; exact (cells_get h1).1, h3⟩
   | succ i =>
    have := h7 i p (by simpa using hp)
    rwa [show i0 + 1 + i = i0 + (i + 1) by omega] at this
theorem bytes_of_parts {fuel : Nat} {e : TypeId} {sz bz : Nat} {zr : List RVal} (hE : T.look e = some ⟨.int .u8, sz, bz, zr⟩) : ∀ (parts : List (List RVal)) (cells : List Value), RRels R w parts.flatten cells → (∀ p ∈ parts, Fits T fuel e p) → ∃ s : List UInt8, cells = bytesV s ∧ s.length = parts.length
 | [], cells, h, _ => by
  simp only [List.flatten_nil, RRels] at h
  exact ⟨[], by rw [h]; rfl, rfl⟩
 | p :: parts, cells, h, hf => by
  have hp := hf p (by simp)
  cases fuel with
  | zero => simp [Fits] at hp
  | succ fuel =>
   simp only [Fits, hE] at hp
   obtain ⟨n, rfl, h1, h2⟩ := hp
   simp only [List.flatten_cons, List.cons_append, List.nil_append, RRels, RRel] at h
   obtain ⟨c, r, rfl, rfl, h3⟩ := h
   obtain ⟨s, rfl, h4⟩ := bytes_of_parts hE parts r h3 (fun q hq => hf q (by simp [hq]))
   have hn : 0 ≤ n ∧ n < 256 := by
    have e1 : IntKind.u8.min = 0 := by decide
    have e2 : IntKind.u8.max = 255 := by decide
    omega
   exact ⟨UInt8.ofNat n.toNat :: s, by simp [bytesV, u8_of hn], by simp [h4]⟩
theorem trod_rel (hTO : TOk P T) {H : Type} {enc : TypeId × Value → H} {sp : Nat → Bool} {held : Bool} : ∀ (fuel : Nat) (t : TypeId) (cs : List Value) (d : DataW H) (ps : List MemPlace), goodT T fuel t = true → DataW.trod enc P w 0 sp held fuel t cs = some (d, ps) → (∀ n ∈ d.weights P t, n ≤ reachBytes) →
  ∃ rs, RRels (CellsAt w) w rs cs ∧ Fits T fuel t rs ∧ rszs rs ≤ dsz d
 | 0, t, cs, d, ps, _, h, _ => by simp [DataW.trod] at h
 | fuel + 1, t, cs, d, ps, hg, h, hz => by
  cases hT : T.look t with
  | none => simp [goodT, hT] at hg
  | some ty =>
   obtain ⟨D, hD, hk⟩ := tyk_ok hTO hT
   obtain ⟨k, sz, by', zr⟩ := ty
   cases k with
   | int k =>
    simp only [TyK.ok] at hk
    subst hk
    rcases cs with _ | ⟨v, _ | ⟨v2, r⟩⟩ <;> try (simp [DataW.trod, hD] at h; done)
    cases v <;> simp [DataW.trod, hD, Lit.wf] at h
    obtain ⟨⟨rfl, h1, h2⟩, _⟩ := h
    refine ⟨[.int _ _], by simp [RRels, RRel]; exact ⟨rfl, rfl⟩, ?_, by simp [rszs, rsz]⟩
    simp only [Fits, hT]
    exact ⟨_, rfl, h1, h2⟩
   | bool =>
    simp only [TyK.ok] at hk
    subst hk
    rcases cs with _ | ⟨v, _ | ⟨v2, r⟩⟩ <;> try (simp [DataW.trod, hD] at h; done)
    cases v <;> simp [DataW.trod, hD] at h
    rename_i b
    refine ⟨[.bool b], by simp [RRels, RRel], ?_, by simp [rszs, rsz]⟩
    simp only [Fits, hT]
    exact ⟨_, rfl⟩
   | str =>
    simp only [TyK.ok] at hk
    subst hk
    rcases cs with _ | ⟨v, _ | ⟨v2, r⟩⟩ <;> try (simp [DataW.trod, hD] at h; done)
    cases v <;> simp [DataW.trod, hD] at h
    rename_i b
    obtain ⟨_, rfl, _⟩ := h
    refine ⟨[.str b.data.toList], by simp [RRels, RRel], ?_, by simp [rszs, rsz, dsz]⟩
    simp only [Fits, hT]
    exact ⟨_, rfl, hz _ (by simp [DataW.weights])⟩
   | slice e =>
    simp only [TyK.ok] at hk
    subst hk
    simp only [goodT, hT, Bool.and_eq_true] at hg
    obtain ⟨hg1, hg2⟩ := hg
    cases hE : T.look e with
    | none => rw [hE] at hg1; simp at hg1
    | some te =>
     rw [hE] at hg1
     have hsz : 0 < te.size := Nat.le_of_ble_eq_true hg1
     have hce := cellsOf_ok hTO hE
     have main : ∃ a len cap cells, cs = [Value.slice a len cap] ∧ len ≤ cap ∧ cap ≤ maxLen ∧ RowAt (CellsAt w) w a cells ∧ ∃ parts : List (List RVal), parts.length = len ∧ RRels (CellsAt w) w parts.flatten cells ∧ (len * te.bytes ≤ reachBytes ∧ max len (rszs parts.flatten) ≤ dsz d) ∧ ∀ p ∈ parts, p.length = te.size ∧ Fits T fuel e p := by
      rcases cs with _ | ⟨v, _ | ⟨v2, r⟩⟩ <;> try (simp [DataW.trod, hD] at h; done)
      cases v <;> try (simp [DataW.trod, hD] at h; done)
      rename_i a len cap
      cases a with
      | none =>
       rcases len with _ | len <;> rcases cap with _ | cap <;> try (simp [DataW.trod, hD] at h; done)
       exact ⟨none, 0, 0, [], rfl, by omega, by omega, .inl rfl, [], rfl, by simp [RRels], ⟨by omega, by simp [rszs]⟩, by simp⟩
      | some a =>
       simp only [DataW.trod, hD] at h
       split at h
       case isFalse => simp at h
       rename_i hc
       rw [Option.bind_eq_some_iff] at h
       obtain ⟨elems, hm, hrest⟩ := h
       rw [Option.map_eq_some_iff] at hrest
       obtain ⟨rest, _, hds⟩ := hrest
       simp only [Prod.mk.injEq] at hds
       obtain ⟨rfl, _⟩ := hds
       obtain ⟨hlm, h2⟩ := mapM_some hm
       simp only [List.length_range] at hlm
       have hw0 : len * te.bytes ≤ reachBytes := by
        have h3 := hz ((elems.length + rest.length) * P.bytesOf e) (by simp [DataW.weights, hD])
        rw [bytesOf_ok hTO hE, hlm] at h3
        exact Nat.le_trans (Nat.mul_le_mul_right _ (Nat.le_add_right _ _)) h3
       obtain ⟨cl, parts, h4, h5, h6, h7⟩ := elems_collect (R := CellsAt w) (w := w) (a := a) (sz := te.size) (Q := fun i rs => Fits T fuel e rs ∧ ∀ b, elems[i]? = some b → rszs rs ≤ dsz b.1) len 0 (fun i hi => by
        obtain ⟨b, hb1, hbi⟩ := h2 i i (by simp [hi])
        rw [Option.bind_eq_some_iff] at hb1
        obtain ⟨cs, hb2, hb3⟩ := hb1
        obtain ⟨b1, b2⟩ := b
        obtain ⟨rs, hb4, hb5, hb6⟩ := trod_rel hTO fuel e cs b1 b2 hg2 hb3 (fun n hn => hz n (by
         simp only [DataW.weights, hD, List.mem_cons, List.mem_append]
         exact .inr (.inl (weightsAll_mem (List.mem_map.2 ⟨(b1, b2), List.mem_of_getElem? hbi, rfl⟩) n hn))))
        rw [hce] at hb2
        exact ⟨cs, rs, by simpa using hb2, hb4, hb5, fun b' hb' => by rw [Nat.zero_add, hbi] at hb'; cases hb'; exact hb6⟩)
       have hrow := elems_row (a := a) hsz cl 0 h6
       have hsz2 : max len (rszs parts.flatten) ≤ dsz (DataW.slice (elems.map (·.1)) (rest.map (·.1))) := by
        have h8 := rszs_parts parts (elems.map (·.1)) (by rw [h4]; simp [hlm]) (fun i p d' hp hd => by
         rw [List.getElem?_map, Option.map_eq_some_iff] at hd
         obtain ⟨b, hb, rfl⟩ := hd
         exact (h7 i p hp).2.2 b (by simpa using hb))
        simp only [dsz, List.length_map, hlm]
        omega
       refine ⟨some a, len, cap, cl.flatten, rfl, hc.2.1, hc.2.2, ?_, parts, h4, h5, ⟨hw0, hsz2⟩, fun p hp => by
        obtain ⟨i, hi⟩ := List.getElem?_of_mem hp
        exact ⟨(h7 i p hi).1, (h7 i p hi).2.1⟩⟩
       by_cases h0 : cl.flatten = []
       ·exact .inl h0
       ·have hfirst := hrow 0 (cl.flatten[0]'(List.length_pos_iff.2 h0)) (by simp)
        obtain ⟨c1, c2⟩ := cell_at hfirst
        have ha : (a.add (0 * te.size)).add 0 = a := by simp [Addr.add]
        rw [ha] at c1 c2
        refine .inr ⟨a.block, a.off, by cases a; simp at c1; simp [c1], c2, fun j v hj => ?_⟩
        have := hrow j v hj
        rcases j with _ | j
        ·rw [ha] at this
         have e2 : a = ⟨a.block, a.off + 0, none⟩ := by cases a; simp at c1; simp [c1]
         rw [e2] at this; exact this
        ·rw [addr_add2 (by omega)] at this
         simpa using this
     obtain ⟨a, len, cap, cells, rfl, h1, h2, h3, parts, h4, h5, ⟨hwb, hws⟩, h6⟩ := main
     by_cases hu : te.k = .int .u8
     ·obtain ⟨tk, tsz, tb, tz⟩ := te
      simp only at hu
      subst hu
      obtain ⟨s, rfl, hl⟩ := bytes_of_parts hE parts cells h5 (fun p hp => (h6 p hp).2)
      refine ⟨[.bs s], ?_, ?_, by simp only [rszs, rsz]; omega⟩
      ·simp only [RRels, RRel]
       exact ⟨_, [], rfl, ⟨a, cap, by rw [hl, h4], by omega, h3⟩, rfl⟩
      ·simp only [Fits, hT, hE]
       exact ⟨s, rfl, by omega, by rw [hl, h4]; exact hwb⟩
     ·refine ⟨[.ro len parts.flatten], ?_, ?_, by simp only [rszs, rsz]; omega⟩
      ·simp only [RRels, RRel]
       exact ⟨_, [], rfl, ⟨a, cap, cells, rfl, h1, h3, h5⟩, rfl⟩
      ·simp only [Fits, hT, hE]
       obtain ⟨tk, tsz, tb, tz⟩ := te
       cases tk with
       | int k => cases k <;> first | (exact absurd rfl hu) | exact ⟨len, parts, rfl, ⟨by omega, hwb⟩, h4, h6⟩
       | _ => exact ⟨len, parts, rfl, ⟨by omega, hwb⟩, h4, h6⟩
   | arr n e =>
    simp only [TyK.ok] at hk
    subst hk
    simp only [goodT, hT, Bool.and_eq_true] at hg
    obtain ⟨hg1, hg2⟩ := hg
    cases hE : T.look e with
    | none => rw [hE] at hg1; simp at hg1
    | some te =>
     rw [hE] at hg1
     have hs := Nat.eq_of_beq_eq_true hg1
     have hc := cellsOf_ok hTO hT
     have hce := cellsOf_ok hTO hE
     simp only [DataW.trod, hD] at h
     split at h
     case isFalse => simp at h
     rename_i hlen
     rw [Option.map_eq_some_iff] at h
     obtain ⟨xs, hm, hds⟩ := h
     simp only [Prod.mk.injEq] at hds
     obtain ⟨rfl, _⟩ := hds
     obtain ⟨_, h2⟩ := mapM_some hm
     obtain ⟨parts, h3, h4, h5⟩ := rrels_parts (T := T) (R := CellsAt w) (w := w) (arrParts e te.size 0 n) 0 (0 + n * te.size) cs (contig_arr hE n 0) (by rw [hlen, hc]; simp [hs]) (fun i t' rs => Fits T fuel t' rs ∧ ∀ b, xs[i]? = some b → rszs rs ≤ dsz b.1) (fun i o t' ty' hm' hT' => by
      obtain ⟨hi, rfl, rfl⟩ := arrParts_at hm'
      rw [hE] at hT'; cases hT'
      obtain ⟨b, h6, hbi⟩ := h2 i i (by simp [hi])
      obtain ⟨b1, b2⟩ := b
      obtain ⟨rs, h7, h8, h9⟩ := trod_rel hTO fuel t' _ b1 b2 hg2 h6 (fun n hn => hz n (by
       simp only [DataW.weights, hD]
       exact weightsAll_mem (List.mem_map.2 ⟨(b1, b2), List.mem_of_getElem? hbi, rfl⟩) n hn))
      refine ⟨rs, ?_, h8, fun b' hb' => by rw [hbi] at hb'; cases hb'; exact h9⟩
      rw [hce] at h7
      simpa using h7)
     have hxl : xs.length = n := by have := (mapM_some hm).1; simpa using this
     refine ⟨parts.flatten, by simpa using h3, ?_, by
      simp only [dsz]
      refine rszs_parts parts _ (by rw [h4, arrParts_length]; simp [hxl]) (fun i p d' hp hd => ?_)
      rw [List.getElem?_map, Option.map_eq_some_iff] at hd
      obtain ⟨b, hb, rfl⟩ := hd
      have hil : i < n := by have := (List.getElem?_eq_some_iff.1 hp).1; rw [h4, arrParts_length] at this; exact this
      exact (h5 i _ e p (arrParts_get n 0 i hil) hp).2 b hb⟩
     simp only [Fits, hT]
     refine ⟨parts, rfl, by rw [h4, arrParts_length], fun p hp => ?_⟩
     obtain ⟨i, hi⟩ := List.getElem?_of_mem hp
     have hil : i < n := by have := (List.getElem?_eq_some_iff.1 hi).1; rw [h4, arrParts_length] at this; exact this
     exact (h5 i _ e p (arrParts_get n 0 i hil) hi).1
   | struct fs =>
    simp only [TyK.ok] at hk
    obtain ⟨fa, rfl, hfs, _⟩ := hk
    simp only [goodT, hT, Bool.and_eq_true, List.all_eq_true] at hg
    obtain ⟨hg1, hg2⟩ := hg
    have hc := cellsOf_ok hTO hT
    cases hcg : contig T fs 0 with
    | none => rw [hcg] at hg1; simp at hg1
    | some n =>
     rw [hcg] at hg1
     have hs := Nat.eq_of_beq_eq_true hg1
     simp only [DataW.trod, hD] at h
     split at h
     case isFalse => simp at h
     rename_i hlen
     rw [Option.map_eq_some_iff] at h
     obtain ⟨xs, hm, hds⟩ := h
     simp only [Prod.mk.injEq] at hds
     obtain ⟨rfl, _⟩ := hds
     obtain ⟨_, h2⟩ := mapM_some hm
     obtain ⟨parts, h3, h4, h5⟩ := rrels_parts (T := T) (R := CellsAt w) (w := w) fs 0 n cs hcg (by rw [hlen, hc]; exact hs) (fun i t' rs => Fits T fuel t' rs ∧ ∀ b, xs[i]? = some b → rszs rs ≤ dsz b.1) (fun i o t' ty' hm' hT' => by
      have hmm := List.mem_of_getElem? hm'
      have hm2 := hm'
      rw [← hfs, List.getElem?_map, Option.map_eq_some_iff] at hm2
      obtain ⟨f, hi, hf2⟩ := hm2
      simp only [Prod.mk.injEq] at hf2
      obtain ⟨b, h6, hbi⟩ := h2 i f hi
      obtain ⟨b1, b2⟩ := b
      have hzi : ∀ n ∈ b1.weights P t', n ≤ reachBytes := fun n hn => hz n (by
       simp only [DataW.weights, hD]
       exact DataW.weights_mem_each (j := i) (t := t') (d := b1) (by rw [List.getElem?_map, hi]; simp [hf2.2]) (by rw [List.getElem?_map, hbi]; rfl) n hn)
      rw [hf2.1, hf2.2, cellsOf_ok hTO hT'] at h6
      obtain ⟨rs, h7, h8, h9⟩ := trod_rel hTO fuel t' _ b1 b2 (hg2 _ hmm) h6 hzi
      exact ⟨rs, h7, h8, fun b' hb' => by rw [hbi] at hb'; cases hb'; exact h9⟩)
     have hxl : xs.length = fs.length := by have := (mapM_some hm).1; rw [this, ← hfs]; simp
     refine ⟨parts.flatten, by simpa using h3, ?_, by
      simp only [dsz]
      refine rszs_parts parts _ (by rw [h4]; simp [hxl]) (fun i p d' hp hd => ?_)
      rw [List.getElem?_map, Option.map_eq_some_iff] at hd
      obtain ⟨b, hb, rfl⟩ := hd
      have hil : i < fs.length := by have := (List.getElem?_eq_some_iff.1 hp).1; rw [h4] at this; exact this
      exact (h5 i fs[i].1 fs[i].2 p (by simp [hil]) hp).2 b hb⟩
     simp only [Fits, hT]
     exact ⟨parts, rfl, h4, fun i o f p hi hp => (h5 i o f p hi hp).1⟩
   | ptr e => simp [goodT, hT] at hg
   | other => simp [goodT, hT] at hg
end
end Go.Proofs.YtccdhgmkjakjkaaGreat

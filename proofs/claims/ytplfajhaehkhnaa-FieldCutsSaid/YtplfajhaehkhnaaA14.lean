/-
  ABSTRACT MACHINE, 14: append.
-/
import Derived.Test.YtplfajhaehkhnaaA13
import Derived.Laws.AppendOwn
namespace Go.Proofs.Ytplfajhaehkhnaa
open Go

section
variable {P : Program} {T : TTab} {w : World}

theorem run_firstCells_of {size n : Nat} {x : Value} {ws : List Value}
    (hx : (∃ ad m c, x = .slice (some ad) m c ∧ ws.length = n * size ∧ ∀ (j : Nat) v, ws[j]? = some v → w.cell? (ad.add j) = some v) ∨ (∃ m c, x = .slice none m c ∧ ws = []) ∨ (∃ s : List UInt8, x = .string ⟨⟨s⟩⟩ ∧ ws = bytesV s ∧ n = s.length)) :
    (Builtin.firstCells size n x).run P w = .ok ⟨ws⟩ w := by
  rcases hx with ⟨ad, m, c, rfl, hl, hc⟩ | ⟨m, c, rfl, rfl⟩ | ⟨s, rfl, rfl, rfl⟩
  · simp only [Builtin.firstCells, ← hl]
    exact run_loadCells_list w ad ws hc
  · simp [Builtin.firstCells]
  · simp only [Builtin.firstCells, Sem.run_pure]
    congr 1
    apply Array.ext'
    rw [Array.toList_map, show ((⟨⟨s⟩⟩ : ByteArray).extract 0 s.length).data.toList = s from by rw [Lib.extract_data]; simp]
    rfl

/-- What is appended: its length, its cells. -/
def Src (w : World) (size : Nat) (x : Value) (k : Nat) (ws : List Value) : Prop :=
  (∃ ad c, x = .slice (some ad) k c ∧ ws.length = k * size ∧ ∀ (j : Nat) v, ws[j]? = some v → w.cell? (ad.add j) = some v) ∨ (∃ c, x = .slice none k c ∧ ws = [] ∧ k * size = 0) ∨ (∃ s : List UInt8, x = .string ⟨⟨s⟩⟩ ∧ ws = bytesV s ∧ k = s.length ∧ size = 1)

theorem Src.first {size k : Nat} {x : Value} {ws : List Value} (h : Src w size x k ws) : (Builtin.firstCells size k x).run P w = .ok ⟨ws⟩ w := by
  refine run_firstCells_of ?_
  rcases h with ⟨ad, c, h1, h2, h3⟩ | ⟨c, h1, h2, _⟩ | ⟨s, h1, h2, h3, _⟩
  · exact .inl ⟨ad, k, c, h1, h2, h3⟩
  · exact .inr (.inl ⟨k, c, h1, h2⟩)
  · exact .inr (.inr ⟨s, h1, h2, h3⟩)

theorem Src.len {size k : Nat} {x : Value} {ws : List Value} (h : Src w size x k ws) : ws.length = k * size ∧ (Builtin.lenOf x).run P w = .ok k w := by
  rcases h with ⟨ad, c, rfl, h2, h3⟩ | ⟨c, rfl, rfl, h0⟩ | ⟨s, rfl, rfl, rfl, rfl⟩
  · exact ⟨h2, by simp [Builtin.lenOf]⟩
  · exact ⟨by simp [h0], by simp [Builtin.lenOf]⟩
  · exact ⟨by simp [bytesV], by simp [Builtin.lenOf, size_mk]⟩

/-- The world behind a draw. -/
def World.drawnOnce (w : World) : World := { w with drawn := w.drawn + 1 }

theorem Src.drawn {size k : Nat} {x : Value} {ws : List Value} (h : Src w size x k ws) : Src (World.drawnOnce w) size x k ws := h

/-- APPEND, AS THE MACHINE HAS IT: in place, or in a new block. -/
theorem run_append (hTO : TOk P T) {t t2 e ty : TypeId} {tyt tye tyt2 : Ty} (hT : T.look t = some tyt) (hk : tyt.k = .slice e) (hE : T.look e = some tye) (hT2 : T.look t2 = some tyt2) (hk2 : (∃ e2, tyt2.k = .slice e2) ∨ tyt2.k = .str) (hz : tye.zero ≠ []) (hzl : tye.zero.length = tye.size)
    {base : Option Addr} {n cap k : Nat} {x : Value} {old ws : List Value} (hs : Src w tye.size x k ws) (hone : ∀ v ∈ ws, v.oneCell' = true)
    (hbase : (n = 0 ∧ cap = 0 ∧ old = []) ∨ ∃ b o cells el fz, base = some ⟨b, o, none⟩ ∧ w.heap[b]? = some (Obj.cells cells el fz) ∧ (∀ i, fz.1 ≤ i → i < fz.2 → cells.size ≤ i) ∧ o + cap * tye.size ≤ cells.size ∧
      old.length = n * tye.size ∧ (∀ (j : Nat) v, old[j]? = some v → cells[o + j]? = some v))
    (hnc : n ≤ cap) (hcap : cap ≤ maxLen) (hb : (n + k) * tye.bytes ≤ 140737488355328) (hm : n + k ≤ maxLen) :
    (∃ w', (Builtin.append_ ⟨[t, t2]⟩ ty ⟨[.slice base n cap, x]⟩).run P w = .ok (.slice base (n + k) cap) w' ∧ n + k ≤ cap ∧ ((n + k = 0 ∧ w' = w) ∨ ∃ b o, base = some ⟨b, o, none⟩ ∧ w' = w.setCells b (o + n * tye.size) ws)) ∨
    (∃ cap' rest, (Builtin.append_ ⟨[t, t2]⟩ ty ⟨[.slice base n cap, x]⟩).run P w = .ok (.slice (some ⟨w.heap.size, 0, none⟩) (n + k) cap') ((World.drawnOnce w).alloc (.cells ⟨old ++ ws ++ rest⟩ e)) ∧ n + k ≤ cap' ∧ cap' ≤ maxLen ∧ (old ++ ws ++ rest).length = cap' * tye.size ∧ cap < n + k) := by
  obtain ⟨D, hD, hDk⟩ := tyk_ok hTO hT
  rw [hk] at hDk
  simp only [TyK.ok] at hDk
  subst hDk
  have hD2' : (∃ e2, P.underlying t2 = some (.slice e2)) ∨ P.underlying t2 = some .string := by
    obtain ⟨D2, hD2, hDk2⟩ := tyk_ok hTO hT2
    rcases hk2 with ⟨e2, h2⟩ | h2 <;> rw [h2] at hDk2 <;> simp only [TyK.ok] at hDk2 <;> subst hDk2
    · exact .inl ⟨e2, hD2⟩
    · exact .inr hD2
  obtain ⟨_, i, _, hi, hsz, hby, _, _, _⟩ := (hTO e tye hE).ex
  obtain ⟨hwl, hlen⟩ := hs.len (P := P)
  have hfirst := hs.first (P := P)
  have hold : old.length = n * tye.size := by
    rcases hbase with ⟨rfl, _, rfl⟩ | ⟨_, _, _, _, _, _, _, _, _, h, _⟩
    · simp
    · exact h
  have hoc : (Builtin.firstCells tye.size n (.slice base n cap)).run P (World.drawnOnce w) = .ok ⟨old⟩ (World.drawnOnce w) := by
    refine run_firstCells_of ?_
    rcases hbase with ⟨rfl, _, rfl⟩ | ⟨b, o, cells, el, fz, rfl, h1, h2, h3, h4, h5⟩
    · cases base with
      | none => exact .inr (.inl ⟨_, _, rfl, rfl⟩)
      | some ad => exact .inl ⟨ad, _, _, rfl, by simp, by simp⟩
    · refine .inl ⟨_, _, _, rfl, h4, fun j v hj => ?_⟩
      rw [add_off]
      show w.cell? _ = _
      simp [World.cell?, h1, h5 j v hj]
  rcases hD2' with ⟨e2, hD2⟩ | hD2
  all_goals
    by_cases hroom : n + k ≤ cap
    · left
      rcases hbase with ⟨rfl, rfl, rfl⟩ | ⟨b, o, cells, el, fz, rfl, h1, h2, h3, h4, h5⟩
      · obtain rfl : k = 0 := by omega
        have hw0 : ws = [] := List.length_eq_zero_iff.1 (by rw [hwl]; simp)
        subst hw0
        refine ⟨w, ?_, hroom, .inl ⟨rfl, rfl⟩⟩
        cases base <;> simp only [Builtin.append_, List.getElem?_toArray, List.getElem?_cons_zero, List.getElem?_cons_succ, Sem.run_bind, run_underlying hD, size_ok hTO hE, run_underlying hD2, Result.andThen_ok, Sem.run_pure]
        simp only [Result.andThen_ok, Bool.false_eq_true, if_false, hlen, Bool.not_false, if_true, Sem.run_ite, hroom, Sem.run_bind, hfirst]
        all_goals simp [storeCells, hlen, hfirst]
      · have hst := run_storeCells_cells (P := P) b (o + n * tye.size) ws 0 w (fun j hj => by
            have h6 : (n + k) * tye.size ≤ cap * tye.size := Nat.mul_le_mul_right _ hroom
            rw [Nat.add_mul, ← hwl] at h6
            simp only [World.cell?, h1, Nat.add_zero]
            simp
            omega) (fun j hj => by
            have h6 : (n + k) * tye.size ≤ cap * tye.size := Nat.mul_le_mul_right _ hroom
            rw [Nat.add_mul, ← hwl] at h6
            simp only [World.frozen?, h1, Nat.add_zero]
            simp only [Bool.and_eq_false_imp, decide_eq_true_eq, decide_eq_false_iff_not]
            intro h9 h10
            have := h2 _ h9 h10
            omega) hone
        refine ⟨_, ?_, hroom, .inr ⟨b, o, rfl, rfl⟩⟩
        rw [Nat.add_zero] at hst
        simp only [Builtin.append_, List.getElem?_toArray, List.getElem?_cons_zero, List.getElem?_cons_succ, Sem.run_bind, run_underlying hD, size_ok hTO hE, run_underlying hD2, Result.andThen_ok, Sem.run_pure]
        simp only [Result.andThen_ok, Bool.false_eq_true, if_false, hlen, Bool.not_false, if_true, Sem.run_ite, hroom, Sem.run_bind, hfirst, add_off, hst, Sem.run_pure]
    · right
      have hgrow : cap < n + k := Nat.lt_of_not_le hroom
      have hfit : ¬ (Builtin.nextslicecap (n + k) cap * tye.bytes > 2 ^ 48) := Nat.not_lt.2 (growslice_fits hgrow hb)
      have hbz : ¬ (((n + k : Nat) : Int) > IntKind.i64.max ∧ (False ∨ tye.bytes = 0)) := by
        intro h
        have : IntKind.i64.max = 9223372036854775807 := by decide
        rw [this] at h
        unfold maxLen at hm
        omega
      let q := Question.appendCap (n + k) cap e
      have hq : (choose q).run P w = .ok (q.cut (w.tape w.drawn q)) (World.drawnOnce w) := by
        simp [choose, Sem.run, q, Question.forced, World.drawnOnce]
      obtain ⟨zv, hz1, hz2, hz3⟩ := zero_ok (P := P) (w := World.drawnOnce w) (R := fun _ => False) (μ := []) hTO hE hz
      have hzs : zv.cells.size = tye.size := by rw [← Array.length_toList, hz3]; exact hzl
      have hqr : n + k ≤ q.cut (w.tape w.drawn q) ∧ q.cut (w.tape w.drawn q) ≤ maxLen := by
        simp only [q, Question.cut]
        have hlt := Nat.mod_lt (w.tape w.drawn (.appendCap (n + k) cap e)) (show 0 < 2 ^ 63 - (n + k) by simp only [maxLen] at hm; omega)
        simp only [maxLen] at hm ⊢
        omega
      have hroomA : ∀ b : Nat, (askRoom b).run P (World.drawnOnce w) = .ok () (World.drawnOnce w) := by
        intro b
        unfold askRoom
        split <;> simp [mark, Sem.run]
      have hfirst2 : (Builtin.firstCells tye.size k x).run P (World.drawnOnce w) = .ok ⟨ws⟩ (World.drawnOnce w) := hs.drawn.first
      refine ⟨q.cut (w.tape w.drawn q), (Builtin.zeroCells zv.cells (q.cut (w.tape w.drawn q) - (n + k))).toList, ?_, hqr.1, hqr.2, ?_⟩
      · simp only [Builtin.append_, List.getElem?_toArray, List.getElem?_cons_zero, List.getElem?_cons_succ, Sem.run_bind, run_underlying hD, size_ok hTO hE, run_underlying hD2, Result.andThen_ok, Sem.run_pure]
        simp only [Result.andThen_ok, Bool.false_eq_true, if_false, hlen, Bool.not_false, if_true, Sem.run_ite, hroom, Sem.run_bind, run_typeInfo w hi, hby]
        rw [if_neg hbz, if_neg hfit]
        rw [show (choose (Question.appendCap (n + k) cap e)).run P w = _ from hq]
        simp only [Result.andThen_ok, run_typeInfo (World.drawnOnce w) hi, hroomA, hoc, hfirst2, hz1]
        simp only [newRow, newObj, Sem.run_bind, Sem.run_pure]
        have e1 : (⟨old⟩ ++ ⟨ws⟩ ++ Builtin.zeroCells zv.cells (q.cut (w.tape w.drawn q) - (n + k)) : Array Value) = ⟨old ++ ws ++ (Builtin.zeroCells zv.cells (q.cut (w.tape w.drawn q) - (n + k))).toList⟩ := by
          apply Array.ext'
          simp
        rw [e1]
        rfl
      · refine ⟨?_, hgrow⟩
        simp only [List.length_append, hold, hwl, Array.length_toList, size_zeroCells, hzs]
        rw [← Nat.add_mul, ← Nat.add_mul]
        congr 1
        omega

end
end Go.Proofs.Ytplfajhaehkhnaa
